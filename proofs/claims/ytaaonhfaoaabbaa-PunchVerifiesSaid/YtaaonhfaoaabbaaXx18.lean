-- Written by a program (the kit's print, some functions told as proved by hand). Not trusted: Lean checks it.
import Derived.Test.YtaaonhfaoaabbaaXx0
import Derived.Test.YtaaonhfaoaabbaaWs
import Derived.Test.YtaaonhfaoaabbaaXx9
import Derived.Test.YtaaonhfaoaabbaaXx11
import Derived.Test.YtaaonhfaoaabbaaXx13
import Derived.Test.YtaaonhfaoaabbaaXx17
import Derived.Test.YtaaonhfaoaabbaaE6
namespace Go.Proofs.Ytaaonhfaoaabbaa.X
open Go.RowKit Go.Proofs.YtaaonhfaoaabbaaW.PrintWords Go.Proofs.YtaaonhfaoaabbaaW.PrintLast Go.Proofs.YtaaonhfaoaabbaaW.PrintMore
attribute [local go_sem] max2_int min2_int max_two min_two max_three min_three max_four min_four   -- for this text's walks alone
set_option linter.unusedVariables false
set_option linter.unusedSimpArgs false

/-! ### pianolaref03_Add: function 29 -/
def pianolaref03_Add.f (k : Nat) (a0_0 : Int) (l0_1 : List (S52)) (l1 : List Int) (a2_0 : Int) (a2_1 : Int) : Option (Int × Int) := (pianolaref03_Verify.f k a0_0 l0_1 l1).bind fun bt365 => (if bt365.2 = 0 then ((pianolaref03_slot.f a2_0 a2_1).bind fun t367 => (if t367 = true then ((pianolaref03_smallest.f k a0_0 l0_1 l1 a2_0 a2_1).bind fun t368 => (some (t368, 0))) else (some (0, 3)))) else (some (0, bt365.2)))
theorem pianolaref03_Add.mono : ∀ a0 a1 a2 a3 a4 k, LeO (pianolaref03_Add.f k a0 a1 a2 a3 a4) (pianolaref03_Add.f (k + 1) a0 a1 a2 a3 a4) := by
 intro a0 a1 a2 a3 a4 k
 unfold pianolaref03_Add.f
 repeat' first
  | (with_reducible exact pianolaref03_Verify.mono _ _ _ _)
  | (with_reducible exact pianolaref03_smallest.mono _ _ _ _ _ _)
  | (with_reducible exact LeO.refl _)
  | (with_reducible exact LeO.none _)
  | (with_reducible refine LeO.ite ?_ ?_)
  | (with_reducible refine LeO.bind ?_ (fun _ => ?_))
  | exact pianolaref03_Verify.mono _ _ _ _
  | exact pianolaref03_smallest.mono _ _ _ _ _ _
  | exact LeO.none _
  | refine LeO.ite ?_ ?_
  | refine LeO.bind ?_ (fun _ => ?_)
set_option maxHeartbeats 8000000 in
set_option maxRecDepth 100000 in
theorem pianolaref03_Add.calls (k : Nat) (a0_0 : Int) (A0_1 : Option Addr) (c0_1 : Nat) (l0_1 : List (S52)) (A1 : Option Addr) (c1 : Nat) (l1 : List Int) (a2_0 : Int) (a2_1 : Int) (r1 : Int) (r2 : Int) (w : World) (hr0_1 : Kd.C k52 w A0_1 l0_1.length l0_1) (hc0_1 : l0_1.length ≤ c0_1) (hr1 : Kd.C (Kd.int .i64) w A1 l1.length l1) (hc1 : l1.length ≤ c1) (h : pianolaref03_Add.f k a0_0 l0_1 l1 a2_0 a2_1 = some (r1, r2)) :
 Calls Try.prog 29 #[.agg #[.int .i64 a0_0, .slice A0_1 l0_1.length c0_1], .slice A1 l1.length c1, .agg #[.int .i64 a2_0, .int .i64 a2_1]] w fun e w' => e = .returned (.tuple #[.int .i64 r1, .int .i64 r2]) ∧ Below w.heap.size w w' := by
 have hu33 := Try.underlying33
 have hu52 := Try.underlying52
 have HR0_1 := Aside0.mk hr0_1
 have HC0_1 := Aside0.mk hc0_1
 clear hr0_1 hc0_1
 have HR1 := Aside0.mk hr1
 have HC1 := Aside0.mk hc1
 clear hr1 hc1
 have HB := Aside0.mk (Below.refl w.heap.size w)
 have H : ((pianolaref03_Verify.f k a0_0 l0_1 l1).bind fun bt365 => (if bt365.2 = 0 then ((pianolaref03_slot.f a2_0 a2_1).bind fun t367 => (if t367 = true then ((pianolaref03_smallest.f k a0_0 l0_1 l1 a2_0 a2_1).bind fun t368 => (some (t368, 0))) else (some (0, 3)))) else (some (0, bt365.2)))) = some (r1, r2) := h
 clear h
 replace H := Option.bind_eq_some_iff.mp H
 obtain ⟨⟨t365, t366⟩, A40, H⟩ := H
 replace H : (if t366 = 0 then ((pianolaref03_slot.f a2_0 a2_1).bind fun t367 => (if t367 = true then ((pianolaref03_smallest.f k a0_0 l0_1 l1 a2_0 a2_1).bind fun t368 => (some (t368, 0))) else (some (0, 3)))) else (some (0, t366))) = some (r1, r2) := H
 have A4 := Aside0.mk A40
 clear A40
 by_cases c5 : t366 = 0
 · rw [if_pos c5] at H
   have c5b0 : (t366 == 0) = true := beq_iff_eq.mpr c5
   have c5b1 : (t366 != 0) = false := bne_eq_false_iff_eq.mpr c5
   clear c5
   replace H := Option.bind_eq_some_iff.mp H
   obtain ⟨t367, A60, H⟩ := H
   replace H : (if t367 = true then ((pianolaref03_smallest.f k a0_0 l0_1 l1 a2_0 a2_1).bind fun t368 => (some (t368, 0))) else (some (0, 3))) = some (r1, r2) := H
   have A6 := Aside0.mk A60
   clear A60
   by_cases c7 : t367 = true
   · subst c7
     have H1 : ((pianolaref03_smallest.f k a0_0 l0_1 l1 a2_0 a2_1).bind fun t368 => (some (t368, 0))) = some (r1, r2) := by rw [if_pos rfl] at H; exact H
     clear H
     have H := H1
     clear H1
     replace H := Option.bind_eq_some_iff.mp H
     obtain ⟨t368, A80, H⟩ := H
     replace H : (some (t368, 0)) = some (r1, r2) := H
     have A8 := Aside0.mk A80
     clear A80
     simp only [Option.some.injEq, Prod.mk.injEq] at H
     obtain ⟨rfl, rfl⟩ := H
     go_enter Try.func29, Try.ntmps29
     go_wp2_with (first | ((with_reducible refine gate_dst (N := 3) rfl ?_); refine box_event ?hg (N := 3) ?hd (cs := #[.int .i64 a0_0, .slice A0_1 l0_1.length c0_1]) (t := 33) ?hr ?_; (case hd => rfl); (case hg => rfl); (case hr => first | (go_simp; done) | (go_simp; rfl)); intro gb363 hg w9 hbox hb; have BK363 := Aside0.mk (hbox); have GW363 := bgw_ HB hg; have GE363 := bgw_ HB hg; replace HB := bls_ HB hb; clear hb hbox hg) | ((with_reducible refine gate_dst (N := 5) rfl ?_); refine box_event ?hg (N := 5) ?hd (cs := #[.int .i64 a2_0, .int .i64 a2_1]) (t := 52) ?hr ?_; (case hd => rfl); (case hg => rfl); (case hr => first | (go_simp; done) | (go_simp; rfl)); intro gb364 hg w10 hbox hb; have BK364 := Aside0.mk (hbox); have GW364 := bgw_ HB hg; have GE364 := bgw_ HB hg; have NB363_364 := bnl_ BK363 hg; have NB364_363 := bng_ BK363 hg; replace BK363 := bkb_ BK363 hb; replace HB := bls_ HB hb; clear hb hbox hg; have hnb11 := NB363_364.out; have hnc11 := NB364_363.out; have hcz12_0 := bkc_ BK363 0 (.int .i64 a0_0) rfl; have hcz12_1 := bkc_ BK363 1 (.slice A0_1 l0_1.length c0_1) rfl; have hfz12_0 := blk_frozen BK363.out 0; have hfz12_1 := blk_frozen BK363.out 1) | ((with_reducible refine gate_callee (f := 27) rfl ?_); refine goesL_ (some 13) rfl rfl Try.func27 (by kernel_rfl) rfl #[.agg #[.int .i64 a0_0, .slice A0_1 l0_1.length c0_1], .slice A1 l1.length c1] rfl (by (try simp only [List.map_toArray, List.map_cons, List.map_nil]); first | done | rfl | (simp only [List.length_drop, List.length_take]; rfl)) ?_; (with_reducible refine (pianolaref03_Verify.calls k a0_0 _ _ l0_1 _ _ l1 t365 t366 _ ?side1 ?side2 ?side3 ?side4 A4.out).mono ?_); (case side1 => repeat (first | exact (Kd.C_below HR0_1.out HB.out) | (with_reducible refine Kd.C_alloc ?_ _) | (with_reducible refine Kd.C_drewN ?_ _) | (with_reducible refine Kd.C_drew ?_))); (case side2 => exact HC0_1.out); (case side3 => repeat (first | exact (Kd.C_below HR1.out HB.out) | (with_reducible refine Kd.C_alloc ?_ _) | (with_reducible refine Kd.C_drewN ?_ _) | (with_reducible refine Kd.C_drew ?_))); (case side4 => exact HC1.out); rintro e w13 ⟨rfl, hb⟩; refine ⟨_, rfl, ?_⟩; replace BK363 := bkb_ BK363 hb; replace BK364 := bkb_ BK364 hb; replace HB := bls_ HB hb; (try clear hb); (try clear hb2); (try clear hk); (try clear hi); have hcz14_0 := bkc_ BK364 0 (.int .i64 a2_0) rfl; have hcz14_1 := bkc_ BK364 1 (.int .i64 a2_1) rfl; have hfz14_0 := blk_frozen BK364.out 0; have hfz14_1 := blk_frozen BK364.out 1) | ((with_reducible refine gate_callee (f := 56) rfl ?_); refine goesL_ (some 20) rfl rfl Try.func56 (by kernel_rfl) rfl #[.agg #[.int .i64 a2_0, .int .i64 a2_1]] rfl (by (try simp only [List.map_toArray, List.map_cons, List.map_nil]); first | done | rfl | (simp only [List.length_drop, List.length_take]; rfl)) ?_; (with_reducible refine (pianolaref03_slot.calls a2_0 a2_1 true _ A6.out).mono ?_); rintro e w15 ⟨rfl, hb⟩; refine ⟨_, rfl, ?_⟩; replace BK363 := bkb_ BK363 hb; replace BK364 := bkb_ BK364 hb; replace HB := bls_ HB hb; (try clear hb); (try clear hb2); (try clear hk); (try clear hi); have hcz16_0 := bkc_ BK363 0 (.int .i64 a0_0) rfl; have hcz16_1 := bkc_ BK363 1 (.slice A0_1 l0_1.length c0_1) rfl; have hfz16_0 := blk_frozen BK363.out 0; have hfz16_1 := blk_frozen BK363.out 1; have hcz17_0 := bkc_ BK364 0 (.int .i64 a2_0) rfl; have hcz17_1 := bkc_ BK364 1 (.int .i64 a2_1) rfl; have hfz17_0 := blk_frozen BK364.out 0; have hfz17_1 := blk_frozen BK364.out 1) | ((with_reducible refine gate_callee (f := 64) rfl ?_); refine goesL_ (some 25) rfl rfl Try.func64 (by kernel_rfl) rfl #[.agg #[.int .i64 a0_0, .slice A0_1 l0_1.length c0_1], .slice A1 l1.length c1, .agg #[.int .i64 a2_0, .int .i64 a2_1]] rfl (by (try simp only [List.map_toArray, List.map_cons, List.map_nil]); first | done | rfl | (simp only [List.length_drop, List.length_take]; rfl)) ?_; (with_reducible refine (pianolaref03_smallest.calls k a0_0 _ _ l0_1 _ _ l1 a2_0 a2_1 t368 _ ?side1 ?side2 ?side3 ?side4 A8.out).mono ?_); (case side1 => repeat (first | exact (Kd.C_below HR0_1.out HB.out) | (with_reducible refine Kd.C_alloc ?_ _) | (with_reducible refine Kd.C_drewN ?_ _) | (with_reducible refine Kd.C_drew ?_))); (case side2 => exact HC0_1.out); (case side3 => repeat (first | exact (Kd.C_below HR1.out HB.out) | (with_reducible refine Kd.C_alloc ?_ _) | (with_reducible refine Kd.C_drewN ?_ _) | (with_reducible refine Kd.C_drew ?_))); (case side4 => exact HC1.out); rintro e w18 ⟨rfl, hb⟩; refine ⟨_, rfl, ?_⟩; replace BK363 := bkb_ BK363 hb; replace BK364 := bkb_ BK364 hb; replace HB := bls_ HB hb; (try clear hb); (try clear hb2); (try clear hk); (try clear hi)))
     go_ret2
     exact ⟨by first | rfl | (simp [errW_none, errW_some] <;> rfl) | (simp [*, errW_none, errW_some] <;> rfl), by repeat (first | (with_reducible first | exact HB.out | apply below_alloc | apply pw_below_drewN | apply below_drew1 | refine below_set ?_ GE363.out | refine below_set ?_ GE364.out) | exact HB.out)⟩
   · replace c7 := Bool.eq_false_iff.mpr c7
     subst c7
     have H1 : (some (0, 3)) = some (r1, r2) := by rw [if_neg (show ¬ (false = true) by decide)] at H; exact H
     clear H
     have H := H1
     clear H1
     simp only [Option.some.injEq, Prod.mk.injEq] at H
     obtain ⟨rfl, rfl⟩ := H
     go_enter Try.func29, Try.ntmps29
     go_wp2_with (first | ((with_reducible refine gate_dst (N := 3) rfl ?_); refine box_event ?hg (N := 3) ?hd (cs := #[.int .i64 a0_0, .slice A0_1 l0_1.length c0_1]) (t := 33) ?hr ?_; (case hd => rfl); (case hg => rfl); (case hr => first | (go_simp; done) | (go_simp; rfl)); intro gb363 hg w19 hbox hb; have BK363 := Aside0.mk (hbox); have GW363 := bgw_ HB hg; have GE363 := bgw_ HB hg; replace HB := bls_ HB hb; clear hb hbox hg) | ((with_reducible refine gate_dst (N := 5) rfl ?_); refine box_event ?hg (N := 5) ?hd (cs := #[.int .i64 a2_0, .int .i64 a2_1]) (t := 52) ?hr ?_; (case hd => rfl); (case hg => rfl); (case hr => first | (go_simp; done) | (go_simp; rfl)); intro gb364 hg w20 hbox hb; have BK364 := Aside0.mk (hbox); have GW364 := bgw_ HB hg; have GE364 := bgw_ HB hg; have NB363_364 := bnl_ BK363 hg; have NB364_363 := bng_ BK363 hg; replace BK363 := bkb_ BK363 hb; replace HB := bls_ HB hb; clear hb hbox hg; have hnb21 := NB363_364.out; have hnc21 := NB364_363.out; have hcz22_0 := bkc_ BK363 0 (.int .i64 a0_0) rfl; have hcz22_1 := bkc_ BK363 1 (.slice A0_1 l0_1.length c0_1) rfl; have hfz22_0 := blk_frozen BK363.out 0; have hfz22_1 := blk_frozen BK363.out 1) | ((with_reducible refine gate_callee (f := 27) rfl ?_); refine goesL_ (some 13) rfl rfl Try.func27 (by kernel_rfl) rfl #[.agg #[.int .i64 a0_0, .slice A0_1 l0_1.length c0_1], .slice A1 l1.length c1] rfl (by (try simp only [List.map_toArray, List.map_cons, List.map_nil]); first | done | rfl | (simp only [List.length_drop, List.length_take]; rfl)) ?_; (with_reducible refine (pianolaref03_Verify.calls k a0_0 _ _ l0_1 _ _ l1 t365 t366 _ ?side1 ?side2 ?side3 ?side4 A4.out).mono ?_); (case side1 => repeat (first | exact (Kd.C_below HR0_1.out HB.out) | (with_reducible refine Kd.C_alloc ?_ _) | (with_reducible refine Kd.C_drewN ?_ _) | (with_reducible refine Kd.C_drew ?_))); (case side2 => exact HC0_1.out); (case side3 => repeat (first | exact (Kd.C_below HR1.out HB.out) | (with_reducible refine Kd.C_alloc ?_ _) | (with_reducible refine Kd.C_drewN ?_ _) | (with_reducible refine Kd.C_drew ?_))); (case side4 => exact HC1.out); rintro e w23 ⟨rfl, hb⟩; refine ⟨_, rfl, ?_⟩; replace BK363 := bkb_ BK363 hb; replace BK364 := bkb_ BK364 hb; replace HB := bls_ HB hb; (try clear hb); (try clear hb2); (try clear hk); (try clear hi); have hcz24_0 := bkc_ BK364 0 (.int .i64 a2_0) rfl; have hcz24_1 := bkc_ BK364 1 (.int .i64 a2_1) rfl; have hfz24_0 := blk_frozen BK364.out 0; have hfz24_1 := blk_frozen BK364.out 1) | ((with_reducible refine gate_callee (f := 56) rfl ?_); refine goesL_ (some 20) rfl rfl Try.func56 (by kernel_rfl) rfl #[.agg #[.int .i64 a2_0, .int .i64 a2_1]] rfl (by (try simp only [List.map_toArray, List.map_cons, List.map_nil]); first | done | rfl | (simp only [List.length_drop, List.length_take]; rfl)) ?_; (with_reducible refine (pianolaref03_slot.calls a2_0 a2_1 false _ A6.out).mono ?_); rintro e w25 ⟨rfl, hb⟩; refine ⟨_, rfl, ?_⟩; replace BK363 := bkb_ BK363 hb; replace BK364 := bkb_ BK364 hb; replace HB := bls_ HB hb; (try clear hb); (try clear hb2); (try clear hk); (try clear hi)))
     go_ret2
     exact ⟨by first | rfl | (simp [errW_none, errW_some] <;> rfl) | (simp [*, errW_none, errW_some] <;> rfl), by repeat (first | (with_reducible first | exact HB.out | apply below_alloc | apply pw_below_drewN | apply below_drew1 | refine below_set ?_ GE363.out | refine below_set ?_ GE364.out) | exact HB.out)⟩
 · rw [if_neg c5] at H
   have c5b0 : (t366 == 0) = false := beq_eq_false_iff_ne.mpr c5
   have c5b1 : (t366 != 0) = true := bne_iff_ne.mpr c5
   simp only [Option.some.injEq, Prod.mk.injEq] at H
   obtain ⟨rfl, rfl⟩ := H
   go_enter Try.func29, Try.ntmps29
   go_wp2_with (first | ((with_reducible refine gate_dst (N := 3) rfl ?_); refine box_event ?hg (N := 3) ?hd (cs := #[.int .i64 a0_0, .slice A0_1 l0_1.length c0_1]) (t := 33) ?hr ?_; (case hd => rfl); (case hg => rfl); (case hr => first | (go_simp; done) | (go_simp; rfl)); intro gb363 hg w26 hbox hb; have BK363 := Aside0.mk (hbox); have GW363 := bgw_ HB hg; have GE363 := bgw_ HB hg; replace HB := bls_ HB hb; clear hb hbox hg) | ((with_reducible refine gate_dst (N := 5) rfl ?_); refine box_event ?hg (N := 5) ?hd (cs := #[.int .i64 a2_0, .int .i64 a2_1]) (t := 52) ?hr ?_; (case hd => rfl); (case hg => rfl); (case hr => first | (go_simp; done) | (go_simp; rfl)); intro gb364 hg w27 hbox hb; have BK364 := Aside0.mk (hbox); have GW364 := bgw_ HB hg; have GE364 := bgw_ HB hg; have NB363_364 := bnl_ BK363 hg; have NB364_363 := bng_ BK363 hg; replace BK363 := bkb_ BK363 hb; replace HB := bls_ HB hb; clear hb hbox hg; have hnb28 := NB363_364.out; have hnc28 := NB364_363.out; have hcz29_0 := bkc_ BK363 0 (.int .i64 a0_0) rfl; have hcz29_1 := bkc_ BK363 1 (.slice A0_1 l0_1.length c0_1) rfl; have hfz29_0 := blk_frozen BK363.out 0; have hfz29_1 := blk_frozen BK363.out 1) | ((with_reducible refine gate_callee (f := 27) rfl ?_); refine goesL_ (some 13) rfl rfl Try.func27 (by kernel_rfl) rfl #[.agg #[.int .i64 a0_0, .slice A0_1 l0_1.length c0_1], .slice A1 l1.length c1] rfl (by (try simp only [List.map_toArray, List.map_cons, List.map_nil]); first | done | rfl | (simp only [List.length_drop, List.length_take]; rfl)) ?_; (with_reducible refine (pianolaref03_Verify.calls k a0_0 _ _ l0_1 _ _ l1 t365 t366 _ ?side1 ?side2 ?side3 ?side4 A4.out).mono ?_); (case side1 => repeat (first | exact (Kd.C_below HR0_1.out HB.out) | (with_reducible refine Kd.C_alloc ?_ _) | (with_reducible refine Kd.C_drewN ?_ _) | (with_reducible refine Kd.C_drew ?_))); (case side2 => exact HC0_1.out); (case side3 => repeat (first | exact (Kd.C_below HR1.out HB.out) | (with_reducible refine Kd.C_alloc ?_ _) | (with_reducible refine Kd.C_drewN ?_ _) | (with_reducible refine Kd.C_drew ?_))); (case side4 => exact HC1.out); rintro e w30 ⟨rfl, hb⟩; refine ⟨_, rfl, ?_⟩; replace BK363 := bkb_ BK363 hb; replace BK364 := bkb_ BK364 hb; replace HB := bls_ HB hb; (try clear hb); (try clear hb2); (try clear hk); (try clear hi)))
   go_ret2
   exact ⟨by first | rfl | (simp [errW_none, errW_some] <;> rfl) | (simp [*, errW_none, errW_some] <;> rfl), by repeat (first | (with_reducible first | exact HB.out | apply below_alloc | apply pw_below_drewN | apply below_drew1 | refine below_set ?_ GE363.out | refine below_set ?_ GE364.out) | exact HB.out)⟩

/-! ### pianolalaw03_PunchVerifies: function 5 -/
def pianolalaw03_PunchVerifies.j0 : Nat → List Int → Bool → Int → List (S47) → Int → Int → Option (Bool)
 | 0, _, _, _, _, _, _ => none
 | k + 1, x1, x23, x370000, x370001, x371000, x371001 => if x23 = true then ((pianolalaw03_works.f k).bind fun t371 => (some t371)) else ((punch_Verify.f x370000 x370001 x1).bind fun bt372 => ((pianolalaw03_given.f k x370000 x370001).bind fun bt374 => ((pianolaref03_Verify.f k bt374.1 bt374.2 x1).bind fun bt378 => ((punch_Add.f x370000 x370001 x1 x371000 x371001).bind fun bt380 => ((pianolalaw03_given.f k x370000 x370001).bind fun bt382 => ((pianolaref03_Add.f k bt382.1 bt382.2 x1 x371000 x371001).bind fun bt386 => (if bt372.1 = bt378.1 then (if bt372.2 = bt378.2 then (if bt380.1 = bt386.1 then (if bt380.2 = bt386.2 then ((pianolalaw03_works.f k).bind fun t388 => (some t388)) else (none)) else (none)) else (none)) else (none))))))))
def pianolalaw03_PunchVerifies.f (k : Nat) (a0_0 : Int) (l0_1 : List (S47)) (l1 : List Int) (a2_0 : Int) (a2_1 : Int) : Option (Bool) := if (l0_1.length : Int) > 80 then (pianolalaw03_PunchVerifies.j0 k l1 true a0_0 l0_1 a2_0 a2_1) else (pianolalaw03_PunchVerifies.j0 k l1 (decide ((l1.length : Int) > 80)) a0_0 l0_1 a2_0 a2_1)
theorem pianolalaw03_PunchVerifies.mono_l : ∀ k, (∀ y0 y1 y2 y3 y4 y5, LeO (pianolalaw03_PunchVerifies.j0 k y0 y1 y2 y3 y4 y5) (pianolalaw03_PunchVerifies.j0 (k + 1) y0 y1 y2 y3 y4 y5))
 | 0 => fun _ _ _ _ _ _ r h => by simp [pianolalaw03_PunchVerifies.j0] at h
 | k + 1 => by
  have ih0 := pianolalaw03_PunchVerifies.mono_l k
  · intro y0 y1 y2 y3 y4 y5
    unfold pianolalaw03_PunchVerifies.j0
    repeat' first
    | (with_reducible exact ih0 _ _ _ _ _ _)
    | (with_reducible exact pianolalaw03_given.mono _ _ _)
    | (with_reducible exact pianolalaw03_works.mono _)
    | (with_reducible exact pianolaref03_Add.mono _ _ _ _ _ _)
    | (with_reducible exact pianolaref03_Verify.mono _ _ _ _)
    | (with_reducible exact LeO.refl _)
    | (with_reducible exact LeO.none _)
    | (with_reducible refine LeO.ite ?_ ?_)
    | (with_reducible refine LeO.bind ?_ (fun _ => ?_))
    | exact ih0 _ _ _ _ _ _
    | exact pianolalaw03_given.mono _ _ _
    | exact pianolalaw03_works.mono _
    | exact pianolaref03_Add.mono _ _ _ _ _ _
    | exact pianolaref03_Verify.mono _ _ _ _
    | exact LeO.none _
    | refine LeO.ite ?_ ?_
    | refine LeO.bind ?_ (fun _ => ?_)
theorem pianolalaw03_PunchVerifies.mono : ∀ a0 a1 a2 a3 a4 k, LeO (pianolalaw03_PunchVerifies.f k a0 a1 a2 a3 a4) (pianolalaw03_PunchVerifies.f (k + 1) a0 a1 a2 a3 a4) := by
 intro a0 a1 a2 a3 a4 k
 have ih0 := pianolalaw03_PunchVerifies.mono_l k
 unfold pianolalaw03_PunchVerifies.f
 repeat' first
  | (with_reducible exact ih0 _ _ _ _ _ _)
  | (with_reducible exact pianolalaw03_given.mono _ _ _)
  | (with_reducible exact pianolalaw03_works.mono _)
  | (with_reducible exact pianolaref03_Add.mono _ _ _ _ _ _)
  | (with_reducible exact pianolaref03_Verify.mono _ _ _ _)
  | (with_reducible exact LeO.refl _)
  | (with_reducible exact LeO.none _)
  | (with_reducible refine LeO.ite ?_ ?_)
  | (with_reducible refine LeO.bind ?_ (fun _ => ?_))
  | exact ih0 _ _ _ _ _ _
  | exact pianolalaw03_given.mono _ _ _
  | exact pianolalaw03_works.mono _
  | exact pianolaref03_Add.mono _ _ _ _ _ _
  | exact pianolaref03_Verify.mono _ _ _ _
  | exact LeO.none _
  | refine LeO.ite ?_ ?_
  | refine LeO.bind ?_ (fun _ => ?_)
def pianolalaw03_PunchVerifies.T6 : Bool × List (List Nat × List Nat) := (true, [([], []), ([0], [0]), ([], []), ([], []), ([1, 2, 3, 1], [1, 2, 3]), ([4], [4]), ([5], [5]), ([5], [5]), ([6, 4, 0, 1, 2, 3, 4, 5, 6], [6]), ([7, 8, 0, 1, 2, 3, 4, 5, 6, 7, 8], [7])])
def pianolalaw03_PunchVerifies.B6 : List Nat := [0, 1, 0, 0, 15, 31, 63, 63, 127, 511]
theorem pianolalaw03_PunchVerifies.tab6 : rtab .any (opsOf Try.f5 6) = pianolalaw03_PunchVerifies.T6 := by kernel_rfl
theorem pianolalaw03_PunchVerifies.bits6 : waitsOk pianolalaw03_PunchVerifies.T6.2 pianolalaw03_PunchVerifies.B6 = true := by kernel_rfl
set_option maxHeartbeats 8000000 in
set_option maxRecDepth 100000 in
theorem pianolalaw03_PunchVerifies.calls (k : Nat) (a0_0 : Int) (A0_1 : Option Addr) (c0_1 : Nat) (l0_1 : List (S47)) (A1 : Option Addr) (c1 : Nat) (l1 : List Int) (a2_0 : Int) (a2_1 : Int) (r : Bool) (w : World) (hr0_1 : Kd.C k47 w A0_1 l0_1.length l0_1) (hc0_1 : l0_1.length ≤ c0_1) (hr1 : Kd.C (Kd.int .i64) w A1 l1.length l1) (hc1 : l1.length ≤ c1) (h : pianolalaw03_PunchVerifies.f k a0_0 l0_1 l1 a2_0 a2_1 = some r) :
 Calls Try.prog 5 #[.agg #[.int .i64 a0_0, .slice A0_1 l0_1.length c0_1], .slice A1 l1.length c1, .agg #[.int .i64 a2_0, .int .i64 a2_1]] w fun e w' => e = .returned (.bool r) ∧ Below w.heap.size w w' := by
 have hu24 := Try.underlying24
 have hu47 := Try.underlying47
 have HR0_1 := Aside0.mk hr0_1
 have HC0_1 := Aside0.mk hc0_1
 clear hr0_1 hc0_1
 have HR1 := Aside0.mk hr1
 have HC1 := Aside0.mk hc1
 clear hr1 hc1
 have HB := Aside0.mk (Below.refl w.heap.size w)
 have H : (if (l0_1.length : Int) > 80 then (pianolalaw03_PunchVerifies.j0 k l1 true a0_0 l0_1 a2_0 a2_1) else (pianolalaw03_PunchVerifies.j0 k l1 (decide ((l1.length : Int) > 80)) a0_0 l0_1 a2_0 a2_1)) = some r := h
 clear h
 have HC4 := Aside0.mk H
 clear H
 go_enter Try.func5, Try.ntmps5
 go_upto_region 1 with (first | ((with_reducible refine gate_dst (N := 3) rfl ?_); (try (refine gate_guard (by rfl) ?_; dsimp only)); refine box_event ?hg (N := 3) ?hd (cs := #[.int .i64 a0_0, .slice A0_1 l0_1.length c0_1]) (t := 24) ?hr ?_; (case hd => rfl); (case hg => rfl); (case hr => first | (go_simp; done) | (go_simp; rfl)); intro gb369 hg w5 hbox hb; have BK369 := Aside0.mk (hbox); have GW369 := bgw_ HB hg; have GE369 := bgw_ HB hg; replace HB := bls_ HB hb; clear hb hbox hg) | ((with_reducible refine gate_dst (N := 5) rfl ?_); (try (refine gate_guard (by rfl) ?_; dsimp only)); refine box_event ?hg (N := 5) ?hd (cs := #[.int .i64 a2_0, .int .i64 a2_1]) (t := 47) ?hr ?_; (case hd => rfl); (case hg => rfl); (case hr => first | (go_simp; done) | (go_simp; rfl)); intro gb370 hg w6 hbox hb; have BK370 := Aside0.mk (hbox); have GW370 := bgw_ HB hg; have GE370 := bgw_ HB hg; have NB369_370 := bnl_ BK369 hg; have NB370_369 := bng_ BK369 hg; replace BK369 := bkb_ BK369 hb; replace HB := bls_ HB hb; clear hb hbox hg))
 (try simp only [Act.put, List.setIfInBounds_toArray, List.set_cons_zero, List.set_cons_succ])
 go_cut [23] (fun v23 wc => ∃ (kq : Nat) (x23_3 : Bool), v23 = .bool x23_3 ∧ Aside0 (pianolalaw03_PunchVerifies.j0 kq l1 x23_3 a0_0 l0_1 a2_0 a2_1 = some r) ∧ Aside0 (kq ≤ k) ∧ Aside0 (wc.heap[gb369]? = some (.cells #[.int .i64 a0_0, (.slice A0_1 l0_1.length c0_1)] 24 (0, 0))) ∧ Aside0 (wc.heap[gb370]? = some (.cells #[.int .i64 a2_0, .int .i64 a2_1] 47 (0, 0))) ∧ Aside0 (Below w.heap.size w wc))
 case first =>
  have H := HC4.out
  clear HC4
  by_cases c7 : (l0_1.length : Int) > 80
  · rw [if_pos c7] at H
    have c7b0 : decide (80 < (l0_1.length : Int)) = true := decide_eq_true c7
    have c7b1 : decide (80 < l0_1.length) = true := decide_eq_true (by omega)
    clear c7
    (first | rw [c7b0] | (simp only [i64_w, i32_w]; rw [c7b0]) | skip)
    have H' := Aside0.mk H
    clear H
    have hnb8 := NB369_370.out
    have hnc8 := NB370_369.out
    have hcz9_0 := bkc_ BK369 0 (.int .i64 a0_0) rfl
    have hcz9_1 := bkc_ BK369 1 (.slice A0_1 l0_1.length c0_1) rfl
    have hfz9_0 := blk_frozen BK369.out 0
    have hfz9_1 := blk_frozen BK369.out 1
    go_wp2
    go_meet
    case rel => exact ⟨_, (true), (by first | rfl | (simp; done) | (simp [*]; done)), H', ⟨by first | omega | exact Nat.le_refl _⟩, bkx_ BK369, bkx_ BK370, blx_ HB⟩
  · rw [if_neg c7] at H
    have c7b0 : decide (80 < (l0_1.length : Int)) = false := decide_eq_false c7
    have c7b1 : decide (80 < l0_1.length) = false := decide_eq_false (by omega)
    clear c7
    (first | rw [c7b0] | (simp only [i64_w, i32_w]; rw [c7b0]) | skip)
    have H' := Aside0.mk H
    clear H
    have hnb10 := NB369_370.out
    have hnc10 := NB370_369.out
    have hcz11_0 := bkc_ BK369 0 (.int .i64 a0_0) rfl
    have hcz11_1 := bkc_ BK369 1 (.slice A0_1 l0_1.length c0_1) rfl
    have hfz11_0 := blk_frozen BK369.out 0
    have hfz11_1 := blk_frozen BK369.out 1
    go_wp2
    go_meet
    case rel => exact ⟨_, (decide ((l1.length : Int) > 80)), (by first | rfl | (simp; done) | (simp [*]; done)), H', ⟨by first | omega | exact Nat.le_refl _⟩, bkx_ BK369, bkx_ BK370, blx_ HB⟩
 case rest =>
  clear HC4
  try clear c1
  try clear p2
  try clear c5
  try clear c7
  try clear c7b0
  try clear c7b1
  try clear c8
  try clear c10
  try clear hcz11_0
  try clear hcz11_1
  try clear hcz9_0
  try clear hcz9_1
  try clear hfz11_0
  try clear hfz11_1
  try clear hfz9_0
  try clear hfz9_1
  obtain ⟨kq, x23_3, rfl, HA, HJ3, BK369, BK370, HB⟩ := hcut
  cases kq with
  | zero => exact absurd HA.out (by simp [pianolalaw03_PunchVerifies.j0])
  | succ kj3 =>
   have H := HA.out
   clear HA
   simp only [pianolalaw03_PunchVerifies.j0] at H
   by_cases c12 : x23_3 = true
   · subst c12
     have H1 : ((pianolalaw03_works.f kj3).bind fun t371 => (some t371)) = some r := by rw [if_pos rfl] at H; exact H
     clear H
     have H := H1
     clear H1
     replace H := Option.bind_eq_some_iff.mp H
     obtain ⟨t371, A130, H⟩ := H
     replace H : (some t371) = some r := H
     have A13 := Aside0.mk A130
     clear A130
     obtain rfl := Option.some.inj H
     go_wp2_with (first | ((with_reducible refine gate_callee (f := 15) rfl ?_); refine goesL_ (some 24) rfl rfl Try.func15 (by kernel_rfl) rfl #[] rfl (by (try simp only [List.map_toArray, List.map_cons, List.map_nil]); first | done | rfl | (simp only [List.length_drop, List.length_take]; rfl)) ?_; (with_reducible refine (pianolalaw03_works.calls kj3  t371 _ A13.out).mono ?_); rintro e w14 ⟨rfl, hb⟩; refine ⟨_, rfl, ?_⟩; replace BK369 := bkb_ BK369 hb; replace BK370 := bkb_ BK370 hb; replace HB := bls_ HB hb; (try clear hb); (try clear hb2); (try clear hk); (try clear hi)))
     go_ret
     exact ⟨by first | rfl | (simp [errW_none, errW_some] <;> rfl) | (simp [*, errW_none, errW_some] <;> rfl), by repeat (first | (with_reducible first | exact HB.out | apply below_alloc | apply pw_below_drewN | apply below_drew1 | refine below_set ?_ GE369.out | refine below_set ?_ GE370.out) | exact HB.out)⟩
   · replace c12 := Bool.eq_false_iff.mpr c12
     subst c12
     have H1 : ((punch_Verify.f a0_0 l0_1 l1).bind fun bt372 => ((pianolalaw03_given.f kj3 a0_0 l0_1).bind fun bt374 => ((pianolaref03_Verify.f kj3 bt374.1 bt374.2 l1).bind fun bt378 => ((punch_Add.f a0_0 l0_1 l1 a2_0 a2_1).bind fun bt380 => ((pianolalaw03_given.f kj3 a0_0 l0_1).bind fun bt382 => ((pianolaref03_Add.f kj3 bt382.1 bt382.2 l1 a2_0 a2_1).bind fun bt386 => (if bt372.1 = bt378.1 then (if bt372.2 = bt378.2 then (if bt380.1 = bt386.1 then (if bt380.2 = bt386.2 then ((pianolalaw03_works.f kj3).bind fun t388 => (some t388)) else (none)) else (none)) else (none)) else (none)))))))) = some r := by rw [if_neg (show ¬ (false = true) by decide)] at H; exact H
     clear H
     have H := H1
     clear H1
     replace H := Option.bind_eq_some_iff.mp H
     obtain ⟨⟨t372, t373⟩, A150, H⟩ := H
     replace H : ((pianolalaw03_given.f kj3 a0_0 l0_1).bind fun bt374 => ((pianolaref03_Verify.f kj3 bt374.1 bt374.2 l1).bind fun bt378 => ((punch_Add.f a0_0 l0_1 l1 a2_0 a2_1).bind fun bt380 => ((pianolalaw03_given.f kj3 a0_0 l0_1).bind fun bt382 => ((pianolaref03_Add.f kj3 bt382.1 bt382.2 l1 a2_0 a2_1).bind fun bt386 => (if t372 = bt378.1 then (if t373 = bt378.2 then (if bt380.1 = bt386.1 then (if bt380.2 = bt386.2 then ((pianolalaw03_works.f kj3).bind fun t388 => (some t388)) else (none)) else (none)) else (none)) else (none))))))) = some r := H
     have A15 := Aside0.mk A150
     clear A150
     replace H := Option.bind_eq_some_iff.mp H
     obtain ⟨⟨t374, t375⟩, A160, H⟩ := H
     replace H : ((pianolaref03_Verify.f kj3 t374 t375 l1).bind fun bt378 => ((punch_Add.f a0_0 l0_1 l1 a2_0 a2_1).bind fun bt380 => ((pianolalaw03_given.f kj3 a0_0 l0_1).bind fun bt382 => ((pianolaref03_Add.f kj3 bt382.1 bt382.2 l1 a2_0 a2_1).bind fun bt386 => (if t372 = bt378.1 then (if t373 = bt378.2 then (if bt380.1 = bt386.1 then (if bt380.2 = bt386.2 then ((pianolalaw03_works.f kj3).bind fun t388 => (some t388)) else (none)) else (none)) else (none)) else (none)))))) = some r := H
     have A16 := Aside0.mk A160
     clear A160
     replace H := Option.bind_eq_some_iff.mp H
     obtain ⟨⟨t378, t379⟩, A170, H⟩ := H
     replace H : ((punch_Add.f a0_0 l0_1 l1 a2_0 a2_1).bind fun bt380 => ((pianolalaw03_given.f kj3 a0_0 l0_1).bind fun bt382 => ((pianolaref03_Add.f kj3 bt382.1 bt382.2 l1 a2_0 a2_1).bind fun bt386 => (if t372 = t378 then (if t373 = t379 then (if bt380.1 = bt386.1 then (if bt380.2 = bt386.2 then ((pianolalaw03_works.f kj3).bind fun t388 => (some t388)) else (none)) else (none)) else (none)) else (none))))) = some r := H
     have A17 := Aside0.mk A170
     clear A170
     replace H := Option.bind_eq_some_iff.mp H
     obtain ⟨⟨t380, t381⟩, A180, H⟩ := H
     replace H : ((pianolalaw03_given.f kj3 a0_0 l0_1).bind fun bt382 => ((pianolaref03_Add.f kj3 bt382.1 bt382.2 l1 a2_0 a2_1).bind fun bt386 => (if t372 = t378 then (if t373 = t379 then (if t380 = bt386.1 then (if t381 = bt386.2 then ((pianolalaw03_works.f kj3).bind fun t388 => (some t388)) else (none)) else (none)) else (none)) else (none)))) = some r := H
     have A18 := Aside0.mk A180
     clear A180
     replace H := Option.bind_eq_some_iff.mp H
     obtain ⟨⟨t382, t383⟩, A190, H⟩ := H
     replace H : ((pianolaref03_Add.f kj3 t382 t383 l1 a2_0 a2_1).bind fun bt386 => (if t372 = t378 then (if t373 = t379 then (if t380 = bt386.1 then (if t381 = bt386.2 then ((pianolalaw03_works.f kj3).bind fun t388 => (some t388)) else (none)) else (none)) else (none)) else (none))) = some r := H
     have A19 := Aside0.mk A190
     clear A190
     replace H := Option.bind_eq_some_iff.mp H
     obtain ⟨⟨t386, t387⟩, A200, H⟩ := H
     replace H : (if t372 = t378 then (if t373 = t379 then (if t380 = t386 then (if t381 = t387 then ((pianolalaw03_works.f kj3).bind fun t388 => (some t388)) else (none)) else (none)) else (none)) else (none)) = some r := H
     have A20 := Aside0.mk A200
     clear A200
     by_cases c21 : t372 = t378
     · rw [if_pos c21] at H
       have c21b0 : (t372 == t378) = true := beq_iff_eq.mpr c21
       have c21b1 : (t372 != t378) = false := bne_eq_false_iff_eq.mpr c21
       clear c21
       by_cases c22 : t373 = t379
       · rw [if_pos c22] at H
         have c22b0 : (t373 == t379) = true := beq_iff_eq.mpr c22
         have c22b1 : (t373 != t379) = false := bne_eq_false_iff_eq.mpr c22
         clear c22
         by_cases c23 : t380 = t386
         · rw [if_pos c23] at H
           have c23b0 : (t380 == t386) = true := beq_iff_eq.mpr c23
           have c23b1 : (t380 != t386) = false := bne_eq_false_iff_eq.mpr c23
           clear c23
           by_cases c24 : t381 = t387
           · rw [if_pos c24] at H
             have c24b0 : (t381 == t387) = true := beq_iff_eq.mpr c24
             have c24b1 : (t381 != t387) = false := bne_eq_false_iff_eq.mpr c24
             clear c24
             replace H := Option.bind_eq_some_iff.mp H
             obtain ⟨t388, A250, H⟩ := H
             replace H : (some t388) = some r := H
             have A25 := Aside0.mk A250
             clear A250
             obtain rfl := Option.some.inj H
             have hnb26 := NB369_370.out
             have hnc26 := NB370_369.out
             have hcz27_0 := bkc_ BK369 0 (.int .i64 a0_0) rfl
             have hcz27_1 := bkc_ BK369 1 (.slice A0_1 l0_1.length c0_1) rfl
             have hfz27_0 := blk_frozen BK369.out 0
             have hfz27_1 := blk_frozen BK369.out 1
             try go_wp2_with (first | ((with_reducible refine gate_callee (f := 26) rfl ?_); refine goesL_ (some 28) rfl rfl Try.func26 (by kernel_rfl) rfl #[.agg #[.int .i64 a0_0, .slice A0_1 l0_1.length c0_1], .slice A1 l1.length c1] rfl (by (try simp only [List.map_toArray, List.map_cons, List.map_nil]); first | done | rfl | (simp only [List.length_drop, List.length_take]; rfl)) ?_; (with_reducible refine (punch_Verify.calls a0_0 _ _ l0_1 _ _ l1 t372 t373 _ ?side1 ?side2 ?side3 ?side4 A15.out).mono ?_); (case side1 => repeat (first | exact (Kd.C_below HR0_1.out HB.out) | (with_reducible refine Kd.C_alloc ?_ _) | (with_reducible refine Kd.C_drewN ?_ _) | (with_reducible refine Kd.C_drew ?_))); (case side2 => exact HC0_1.out); (case side3 => repeat (first | exact (Kd.C_below HR1.out HB.out) | (with_reducible refine Kd.C_alloc ?_ _) | (with_reducible refine Kd.C_drewN ?_ _) | (with_reducible refine Kd.C_drew ?_))); (case side4 => exact HC1.out); rintro e w28 ⟨rfl, hb⟩; refine ⟨_, rfl, ?_⟩; replace BK369 := bkb_ BK369 hb; replace BK370 := bkb_ BK370 hb; replace HB := bls_ HB hb; (try clear hb); (try clear hb2); (try clear hk); (try clear hi); have hcz29_0 := bkc_ BK369 0 (.int .i64 a0_0) rfl; have hcz29_1 := bkc_ BK369 1 (.slice A0_1 l0_1.length c0_1) rfl; have hfz29_0 := blk_frozen BK369.out 0; have hfz29_1 := blk_frozen BK369.out 1) | ((with_reducible refine gate_callee (f := 18) rfl ?_); refine goesL_ (some 33) rfl rfl Try.func18 (by kernel_rfl) rfl #[.agg #[.int .i64 a0_0, .slice A0_1 l0_1.length c0_1]] rfl (by (try simp only [List.map_toArray, List.map_cons, List.map_nil]); first | done | rfl | (simp only [List.length_drop, List.length_take]; rfl)) ?_; (with_reducible refine (pianolalaw03_given.calls kj3 a0_0 _ _ l0_1 t374 t375 _ ?side1 ?side2 A16.out).mono ?_); (case side1 => repeat (first | exact (Kd.C_below HR0_1.out HB.out) | (with_reducible refine Kd.C_alloc ?_ _) | (with_reducible refine Kd.C_drewN ?_ _) | (with_reducible refine Kd.C_drew ?_))); (case side2 => exact HC0_1.out); rintro e w30 ⟨v376, rfl, ho0, hb⟩; refine ⟨_, rfl, ?_⟩; have HO377 := Aside0.mk (Kd.R_lower ho0 (below_size (blx_ HB).out)); replace BK369 := bkb_ BK369 hb; replace BK370 := bkb_ BK370 hb; replace HB := bls_ HB hb; (try clear hb); (try clear hb2); (try clear hk); (try clear hi); (try clear ho0); obtain ⟨Ao31, co31, eo31⟩ := Kd.R_slice HO377.out; subst eo31) | ((with_reducible refine gate_callee (f := 27) rfl ?_); refine goesL_ (some 35) rfl rfl Try.func27 (by kernel_rfl) rfl #[.agg #[.int .i64 t374, .slice Ao31 t375.length co31], .slice A1 l1.length c1] rfl (by (try simp only [List.map_toArray, List.map_cons, List.map_nil]); first | done | rfl | (simp only [List.length_drop, List.length_take]; rfl)) ?_; (with_reducible refine (pianolaref03_Verify.calls kj3 t374 _ _ t375 _ _ l1 t378 t379 _ ?side1 ?side2 ?side3 ?side4 A17.out).mono ?_); (case side1 => repeat (first | exact (Kd.R_reads' HO377.out).2.2 | (with_reducible refine Kd.C_alloc ?_ _) | (with_reducible refine Kd.C_drewN ?_ _) | (with_reducible refine Kd.C_drew ?_))); (case side2 => exact (Kd.R_reads' HO377.out).2.1); (case side3 => repeat (first | exact (Kd.C_below HR1.out HB.out) | (with_reducible refine Kd.C_alloc ?_ _) | (with_reducible refine Kd.C_drewN ?_ _) | (with_reducible refine Kd.C_drew ?_))); (case side4 => exact HC1.out); rintro e w32 ⟨rfl, hb⟩; refine ⟨_, rfl, ?_⟩; have n0_ := Aside0.mk (Kd.R_below (by (with_reducible repeat (first | apply Kd.R_alloc | apply Kd.R_drewN | apply Kd.R_drew)); exact HO377.out) hb); have n1_ := bkb_ BK369 hb; have n2_ := bkb_ BK370 hb; have n3_ := bls_ HB hb; clear HO377; clear BK369; clear BK370; clear HB; have HO377 := n0_; have BK369 := n1_; have BK370 := n2_; have HB := n3_; clear n0_ n1_ n2_ n3_; (try clear hb); (try clear hb2); (try clear hk); (try clear hi); have hcz33_0 := bkc_ BK369 0 (.int .i64 a0_0) rfl; have hcz33_1 := bkc_ BK369 1 (.slice A0_1 l0_1.length c0_1) rfl; have hfz33_0 := blk_frozen BK369.out 0; have hfz33_1 := blk_frozen BK369.out 1; have hcz34_0 := bkc_ BK370 0 (.int .i64 a2_0) rfl; have hcz34_1 := bkc_ BK370 1 (.int .i64 a2_1) rfl; have hfz34_0 := blk_frozen BK370.out 0; have hfz34_1 := blk_frozen BK370.out 1) | ((with_reducible refine gate_callee (f := 28) rfl ?_); refine goesL_ (some 42) rfl rfl Try.func28 (by kernel_rfl) rfl #[.agg #[.int .i64 a0_0, .slice A0_1 l0_1.length c0_1], .slice A1 l1.length c1, .agg #[.int .i64 a2_0, .int .i64 a2_1]] rfl (by (try simp only [List.map_toArray, List.map_cons, List.map_nil]); first | done | rfl | (simp only [List.length_drop, List.length_take]; rfl)) ?_; (with_reducible refine (punch_Add.calls a0_0 _ _ l0_1 _ _ l1 a2_0 a2_1 t380 t381 _ ?side1 ?side2 ?side3 ?side4 A18.out).mono ?_); (case side1 => repeat (first | exact (Kd.C_below HR0_1.out HB.out) | (with_reducible refine Kd.C_alloc ?_ _) | (with_reducible refine Kd.C_drewN ?_ _) | (with_reducible refine Kd.C_drew ?_))); (case side2 => exact HC0_1.out); (case side3 => repeat (first | exact (Kd.C_below HR1.out HB.out) | (with_reducible refine Kd.C_alloc ?_ _) | (with_reducible refine Kd.C_drewN ?_ _) | (with_reducible refine Kd.C_drew ?_))); (case side4 => exact HC1.out); rintro e w35 ⟨rfl, hb⟩; refine ⟨_, rfl, ?_⟩; have n0_ := Aside0.mk (Kd.R_below (by (with_reducible repeat (first | apply Kd.R_alloc | apply Kd.R_drewN | apply Kd.R_drew)); exact HO377.out) hb); have n1_ := bkb_ BK369 hb; have n2_ := bkb_ BK370 hb; have n3_ := bls_ HB hb; clear HO377; clear BK369; clear BK370; clear HB; have HO377 := n0_; have BK369 := n1_; have BK370 := n2_; have HB := n3_; clear n0_ n1_ n2_ n3_; (try clear hb); (try clear hb2); (try clear hk); (try clear hi)))
             have n0_ := Aside0.mk (Kd.R_drew HO377.out)
             have n1_ := Aside0.mk (blk_drew BK369.out)
             have n2_ := Aside0.mk (blk_drew BK370.out)
             have n3_ := Aside0.mk (below_drew1 HB.out)
             clear HO377
             clear BK369
             clear BK370
             clear HB
             have HO377 := n0_
             have BK369 := n1_
             have BK370 := n2_
             have HB := n3_
             clear n0_ n1_ n2_ n3_
             refine start_ (n := 10) (S := fun w' => w'.cell? ⟨gb369, 0, none⟩ = some (.int .i64 a0_0) ∧ w'.cell? ⟨gb369, 1, none⟩ = some (.slice A0_1 l0_1.length c0_1) ∧ w'.cell? ⟨gb370, 0, none⟩ = some (.int .i64 a2_0) ∧ w'.cell? ⟨gb370, 1, none⟩ = some (.int .i64 a2_1)) (ds := []) #[false, false, false, false, false, false, false, false, false, false] (by kernel_rfl) rfl rfl ⟨(blk_cell BK369.out 0).trans rfl, (blk_cell BK369.out 1).trans rfl, (blk_cell BK370.out 0).trans rfl, (blk_cell BK370.out 1).trans rfl⟩ (fun hHeld => ?_); refine with_tabW pianolalaw03_PunchVerifies.tab6 pianolalaw03_PunchVerifies.bits6 (fun HT_ HW_ => ?_)
             generalize w35.drew = w36 at HO377 BK369 BK370 HB hHeld ⊢
             refine pure_ (i := 2) (N := some 48) (v := ?_) (a' := ?_) #[false, false, true, false, false, false, false, false, false, false] rfl rfl (any_of HT_.out (by kernel_rfl)) (fun _ _ _ h => h) (Or.inl ⟨by rfl, ?_⟩) ?_ ?_
             rotate_left
             · intro w'
               go_simp
               with_reducible rfl
             rotate_left
             · simp only [Act.put, List.setIfInBounds_toArray, List.set_cons_zero, List.set_cons_succ, i64_w, i32_w]
               rfl
             refine take_ (i := 0) (N := some 46) (v := ?_) (a' := ?_) #[true, false, true, false, false, false, false, false, false, false] rfl rfl (take_ofW HT_.out HW_.out (by kernel_rfl)) (fun _ _ _ h => h) (Or.inl ⟨by rfl, ?_⟩) hHeld ?_ ?_
             rotate_left
             · rintro w' ⟨s0, s1, s2, s3⟩
               go_simp
               with_reducible rfl
             rotate_left
             · simp only [Act.put, List.setIfInBounds_toArray, List.set_cons_zero, List.set_cons_succ, i64_w, i32_w]
               rfl
             refine take_ (i := 3) (N := some 49) (v := ?_) (a' := ?_) #[true, false, true, true, false, false, false, false, false, false] rfl rfl (take_ofW HT_.out HW_.out (by kernel_rfl)) (fun _ _ _ h => h) (Or.inl ⟨by rfl, ?_⟩) hHeld ?_ ?_
             rotate_left
             · rintro w' ⟨s0, s1, s2, s3⟩
               go_simp
               with_reducible rfl
             rotate_left
             · simp only [Act.put, List.setIfInBounds_toArray, List.set_cons_zero, List.set_cons_succ, i64_w, i32_w]
               rfl
             refine one_ (i := 1) (N := some 47) #[true, true, true, true, false, false, false, false, false, false] rfl rfl (one_of HT_.out (by kernel_rfl)) (by decide) (fun K hK => ?_)
             refine goes_ Try.func18 (by kernel_rfl) rfl #[.agg #[.int .i64 a0_0, .slice A0_1 l0_1.length c0_1]] (by rfl) rfl rfl (by (try simp only [List.map_toArray, List.map_cons, List.map_nil]); first | done | rfl | (simp only [List.length_drop, List.length_take]; rfl)) ?_
             with_reducible refine (pianolalaw03_given.calls kj3 a0_0 _ _ l0_1 t382 t383 _ ?side1 ?side2 A19.out).mono ?_
             (case side1 => repeat (first | exact (Kd.C_below HR0_1.out HB.out) | (with_reducible refine Kd.C_alloc ?_ _) | (with_reducible refine Kd.C_drewN ?_ _) | (with_reducible refine Kd.C_drew ?_)))
             (case side2 => exact HC0_1.out)
             rintro e w37 ⟨v384, rfl, ho0, hb⟩
             refine ⟨_, rfl, ?_⟩
             have n0_ := Aside0.mk (Kd.R_elder' (by (with_reducible repeat (first | apply Kd.R_alloc | apply Kd.R_drewN | apply Kd.R_drew)); exact HO377.out) (Kd.R_base ho0) hb)
             have n1_ := Aside0.mk (Kd.R_lower (Kd.R_new' ho0 (Kd.R_lt (by (with_reducible repeat (first | apply Kd.R_alloc | apply Kd.R_drewN | apply Kd.R_drew)); exact HO377.out))) (below_size (blx_ HB).out))
             have n2_ := bkb_ BK369 hb
             have n3_ := bkb_ BK370 hb
             have n4_ := bls_ HB hb
             clear HO377
             clear BK369
             clear BK370
             clear HB
             have HO377 := n0_
             have HO385 := n1_
             have BK369 := n2_
             have BK370 := n3_
             have HB := n4_
             clear n0_ n1_ n2_ n3_ n4_
             (try clear hb)
             (try clear hb2)
             (try clear hk)
             (try clear hi)
             (try clear ho0)
             obtain ⟨Ao38, co38, eo38⟩ := Kd.R_slice HO385.out
             (first | subst eo38 | (injection eo38 with f1_ f2_ f3_; have f4_ := f1_.symm; have f5_ := f3_.symm; clear f1_ f2_ f3_; subst f4_; subst f5_))
             refine hK.out _ _ ⟨(blk_cell BK369.out 0).trans rfl, (blk_cell BK369.out 1).trans rfl, (blk_cell BK370.out 0).trans rfl, (blk_cell BK370.out 1).trans rfl⟩ (fun hHeld => ?_)
             clear hK K
             refine norm_ (a' := ?_) ?_ ?_
             rotate_left
             · show Act.put _ (some 47) _ = _
               simp only [Act.put, List.setIfInBounds_toArray, List.set_cons_zero, List.set_cons_succ, i64_w, i32_w]
               rfl
             refine one_ (i := 4) (N := some 50) #[true, true, true, true, true, false, false, false, false, false] rfl rfl (one_of HT_.out (by kernel_rfl)) (by decide) (fun K hK => ?_)
             refine goes_ Try.func29 (by kernel_rfl) rfl #[.agg #[.int .i64 t382, .slice Ao38 t383.length co38], .slice A1 l1.length c1, .agg #[.int .i64 a2_0, .int .i64 a2_1]] (by rfl) rfl rfl (by (try simp only [List.map_toArray, List.map_cons, List.map_nil]); first | done | rfl | (simp only [List.length_drop, List.length_take]; rfl)) ?_
             with_reducible refine (pianolaref03_Add.calls kj3 t382 _ _ t383 _ _ l1 a2_0 a2_1 t386 t387 _ ?side1 ?side2 ?side3 ?side4 A20.out).mono ?_
             (case side1 => repeat (first | exact (Kd.R_reads' HO385.out).2.2 | (with_reducible refine Kd.C_alloc ?_ _) | (with_reducible refine Kd.C_drewN ?_ _) | (with_reducible refine Kd.C_drew ?_)))
             (case side2 => exact (Kd.R_reads' HO385.out).2.1)
             (case side3 => repeat (first | exact (Kd.C_below HR1.out HB.out) | (with_reducible refine Kd.C_alloc ?_ _) | (with_reducible refine Kd.C_drewN ?_ _) | (with_reducible refine Kd.C_drew ?_)))
             (case side4 => exact HC1.out)
             rintro e w39 ⟨rfl, hb⟩
             refine ⟨_, rfl, ?_⟩
             have n0_ := Aside0.mk (Kd.R_below (by (with_reducible repeat (first | apply Kd.R_alloc | apply Kd.R_drewN | apply Kd.R_drew)); exact HO377.out) hb)
             have n1_ := Aside0.mk (Kd.R_below (by (with_reducible repeat (first | apply Kd.R_alloc | apply Kd.R_drewN | apply Kd.R_drew)); exact HO385.out) hb)
             have n2_ := bkb_ BK369 hb
             have n3_ := bkb_ BK370 hb
             have n4_ := bls_ HB hb
             clear HO377
             clear HO385
             clear BK369
             clear BK370
             clear HB
             have HO377 := n0_
             have HO385 := n1_
             have BK369 := n2_
             have BK370 := n3_
             have HB := n4_
             clear n0_ n1_ n2_ n3_ n4_
             (try clear hb)
             (try clear hb2)
             (try clear hk)
             (try clear hi)
             refine hK.out _ _ ⟨(blk_cell BK369.out 0).trans rfl, (blk_cell BK369.out 1).trans rfl, (blk_cell BK370.out 0).trans rfl, (blk_cell BK370.out 1).trans rfl⟩ (fun hHeld => ?_)
             clear hK K
             refine norm_ (a' := ?_) ?_ ?_
             rotate_left
             · show Act.put _ (some 50) _ = _
               simp only [Act.put, List.setIfInBounds_toArray, List.set_cons_zero, List.set_cons_succ, i64_w, i32_w]
               rfl
             refine pure_ (i := 5) (N := some 45) (v := ?_) (a' := ?_) #[true, true, true, true, true, true, false, false, false, false] rfl rfl (any_of HT_.out (by kernel_rfl)) (fun _ _ _ h => h) (Or.inl ⟨by rfl, ?_⟩) ?_ ?_
             rotate_left
             · intro w'
               go_simp
               with_reducible rfl
             rotate_left
             · simp only [Act.put, List.setIfInBounds_toArray, List.set_cons_zero, List.set_cons_succ, i64_w, i32_w]
               rfl
             refine pure_ (i := 6) (N := some 51) (v := ?_) (a' := ?_) #[true, true, true, true, true, true, true, false, false, false] rfl rfl (any_of HT_.out (by kernel_rfl)) (fun _ _ _ h => h) (Or.inl ⟨by rfl, ?_⟩) ?_ ?_
             rotate_left
             · intro w'
               go_simp
               with_reducible rfl
             rotate_left
             · simp only [Act.put, List.setIfInBounds_toArray, List.set_cons_zero, List.set_cons_succ, i64_w, i32_w]
               rfl
             refine pure_ (i := 7) (N := some 52) (v := ?_) (a' := ?_) #[true, true, true, true, true, true, true, true, false, false] rfl rfl (any_of HT_.out (by kernel_rfl)) (fun _ _ _ h => h) (Or.inl ⟨by rfl, ?_⟩) ?_ ?_
             rotate_left
             · intro w'
               go_simp
               with_reducible rfl
             rotate_left
             · simp only [Act.put, List.setIfInBounds_toArray, List.set_cons_zero, List.set_cons_succ, i64_w, i32_w]
               rfl
             refine pure_ (i := 8) (N := some 13) (v := ?_) (a' := ?_) #[true, true, true, true, true, true, true, true, true, false] rfl rfl (any_of HT_.out (by kernel_rfl)) (fun _ _ _ h => h) (Or.inl ⟨by rfl, ?_⟩) ?_ ?_
             rotate_left
             · intro w'
               go_simp
               with_reducible rfl
             rotate_left
             · simp only [Act.put, List.setIfInBounds_toArray, List.set_cons_zero, List.set_cons_succ, i64_w, i32_w]
               rfl
             refine pure_ (i := 9) (N := some 14) (v := ?_) (a' := ?_) #[true, true, true, true, true, true, true, true, true, true] rfl rfl (any_of HT_.out (by kernel_rfl)) (fun _ _ _ h => h) (Or.inl ⟨by rfl, ?_⟩) ?_ ?_
             rotate_left
             · intro w'
               go_simp
               with_reducible rfl
             rotate_left
             · simp only [Act.put, List.setIfInBounds_toArray, List.set_cons_zero, List.set_cons_succ, i64_w, i32_w]
               rfl
             refine done_ (done_of HT_.out (by kernel_rfl)) ?_
             try go_wp2_with (first | (go_at_call 15; (with_reducible refine (pianolalaw03_works.calls kj3  t388 _ A25.out).mono ?_); rintro e w40 ⟨rfl, hb⟩; have n0_ := Aside0.mk (Kd.R_below (by (with_reducible repeat (first | apply Kd.R_alloc | apply Kd.R_drewN | apply Kd.R_drew)); exact HO377.out) hb); have n1_ := Aside0.mk (Kd.R_below (by (with_reducible repeat (first | apply Kd.R_alloc | apply Kd.R_drewN | apply Kd.R_drew)); exact HO385.out) hb); have n2_ := bkb_ BK369 hb; have n3_ := bkb_ BK370 hb; have n4_ := bls_ HB hb; clear HO377; clear HO385; clear BK369; clear BK370; clear HB; have HO377 := n0_; have HO385 := n1_; have BK369 := n2_; have BK370 := n3_; have HB := n4_; clear n0_ n1_ n2_ n3_ n4_; (try clear hb); (try clear hb2); (try clear hk); (try clear hi)))
             go_ret
             exact ⟨by first | rfl | (simp [errW_none, errW_some] <;> rfl) | (simp [*, errW_none, errW_some] <;> rfl), by repeat (first | (with_reducible first | exact HB.out | apply below_alloc | apply pw_below_drewN | apply below_drew1 | refine below_set ?_ GE369.out | refine below_set ?_ GE370.out) | exact HB.out)⟩
           · rw [if_neg c24] at H
             exact absurd H (by simp)
         · rw [if_neg c23] at H
           exact absurd H (by simp)
       · rw [if_neg c22] at H
         exact absurd H (by simp)
     · rw [if_neg c21] at H
       exact absurd H (by simp)

end Go.Proofs.Ytaaonhfaoaabbaa.X
