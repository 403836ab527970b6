-- Written by a program (the kit's print, some functions told as proved by hand). Not trusted: Lean checks it.
import Derived.Test.YtaaonhfaoaabbaaXx0
import Derived.Test.YtaaonhfaoaabbaaWs
import Derived.Test.YtaaonhfaoaabbaaXx9
namespace Go.Proofs.Ytaaonhfaoaabbaa.X
open Go.RowKit Go.Proofs.YtaaonhfaoaabbaaW.PrintWords Go.Proofs.YtaaonhfaoaabbaaW.PrintLast Go.Proofs.YtaaonhfaoaabbaaW.PrintMore
attribute [local go_sem] max2_int min2_int max_two min_two max_three min_three max_four min_four   -- for this text's walks alone
set_option linter.unusedVariables false
set_option linter.unusedSimpArgs false

/-! ### pianolaref03_paper: function 71 -/
def pianolaref03_paper.f (a0_0 : Int) (a0_1 : Int) (a0_2 : Int) (a0_3 : Int) (a0_4 : Int) : Option (Int) := (pianolaref03_is.f a0_0 900 a0_1).bind fun t390 => (if t390 = true then (if a0_1 > 1100 then (some 3) else ((pianolaref03_is.f a0_2 1 1000).bind fun t391 => (if t391 = true then ((pianolaref03_is.f a0_3 1 1000).bind fun t392 => (if t392 = true then ((pianolaref03_is.f a0_4 1 1000).bind fun t393 => (if t393 = true then (some 0) else (some 3))) else (some 3))) else (some 3)))) else (some 3))
set_option maxHeartbeats 8000000 in
set_option maxRecDepth 100000 in
theorem pianolaref03_paper.calls (a0_0 : Int) (a0_1 : Int) (a0_2 : Int) (a0_3 : Int) (a0_4 : Int) (r : Int) (w : World) (h : pianolaref03_paper.f a0_0 a0_1 a0_2 a0_3 a0_4 = some r) :
 Calls Try.prog 71 #[.agg #[.int .i64 a0_0, .int .i64 a0_1, .int .i64 a0_2, .int .i64 a0_3, .int .i64 a0_4]] w fun e w' => e = .returned (.int .i64 r) ∧ Below w.heap.size w w' := by
 have hu58 := Try.underlying58
 have HB := Aside0.mk (Below.refl w.heap.size w)
 have H : ((pianolaref03_is.f a0_0 900 a0_1).bind fun t390 => (if t390 = true then (if a0_1 > 1100 then (some 3) else ((pianolaref03_is.f a0_2 1 1000).bind fun t391 => (if t391 = true then ((pianolaref03_is.f a0_3 1 1000).bind fun t392 => (if t392 = true then ((pianolaref03_is.f a0_4 1 1000).bind fun t393 => (if t393 = true then (some 0) else (some 3))) else (some 3))) else (some 3)))) else (some 3))) = some r := h
 clear h
 replace H := Option.bind_eq_some_iff.mp H
 obtain ⟨t390, A20, H⟩ := H
 replace H : (if t390 = true then (if a0_1 > 1100 then (some 3) else ((pianolaref03_is.f a0_2 1 1000).bind fun t391 => (if t391 = true then ((pianolaref03_is.f a0_3 1 1000).bind fun t392 => (if t392 = true then ((pianolaref03_is.f a0_4 1 1000).bind fun t393 => (if t393 = true then (some 0) else (some 3))) else (some 3))) else (some 3)))) else (some 3)) = some r := H
 have A2 := Aside0.mk A20
 clear A20
 by_cases c3 : t390 = true
 · subst c3
   have H1 : (if a0_1 > 1100 then (some 3) else ((pianolaref03_is.f a0_2 1 1000).bind fun t391 => (if t391 = true then ((pianolaref03_is.f a0_3 1 1000).bind fun t392 => (if t392 = true then ((pianolaref03_is.f a0_4 1 1000).bind fun t393 => (if t393 = true then (some 0) else (some 3))) else (some 3))) else (some 3)))) = some r := by rw [if_pos rfl] at H; exact H
   clear H
   have H := H1
   clear H1
   by_cases c4 : a0_1 > 1100
   · rw [if_pos c4] at H
     have c4b0 : decide (1100 < a0_1) = true := decide_eq_true c4
     clear c4
     obtain rfl := Option.some.inj H
     go_enter Try.func71, Try.ntmps71
     go_wp2_with (first | ((with_reducible refine gate_dst (N := 1) rfl ?_); refine box_event ?hg (N := 1) ?hd (cs := #[.int .i64 a0_0, .int .i64 a0_1, .int .i64 a0_2, .int .i64 a0_3, .int .i64 a0_4]) (t := 58) ?hr ?_; (case hd => rfl); (case hg => rfl); (case hr => first | (go_simp; done) | (go_simp; rfl)); intro gb389 hg w5 hbox hb; have BK389 := Aside0.mk (hbox); have GW389 := bgw_ HB hg; have GE389 := bgw_ HB hg; replace HB := bls_ HB hb; clear hb hbox hg; have hcz6_0 := bkc_ BK389 0 (.int .i64 a0_0) rfl; have hcz6_1 := bkc_ BK389 1 (.int .i64 a0_1) rfl; have hcz6_2 := bkc_ BK389 2 (.int .i64 a0_2) rfl; have hcz6_3 := bkc_ BK389 3 (.int .i64 a0_3) rfl; have hcz6_4 := bkc_ BK389 4 (.int .i64 a0_4) rfl; have hfz6_0 := blk_frozen BK389.out 0; have hfz6_1 := blk_frozen BK389.out 1; have hfz6_2 := blk_frozen BK389.out 2; have hfz6_3 := blk_frozen BK389.out 3; have hfz6_4 := blk_frozen BK389.out 4) | ((with_reducible refine gate_callee (f := 55) rfl ?_); refine goesL_ (some 9) rfl rfl Try.func55 (by kernel_rfl) rfl #[.int .i64 a0_0, .int .i64 900, .int .i64 a0_1] rfl (by (try simp only [List.map_toArray, List.map_cons, List.map_nil]); first | done | rfl | (simp only [List.length_drop, List.length_take]; rfl)) ?_; (with_reducible refine (pianolaref03_is.calls a0_0 900 a0_1 true _ A2.out).mono ?_); rintro e w' ⟨rfl, ⟨nd, rfl⟩⟩; refine ⟨_, rfl, ?_⟩))
     go_ret
     exact ⟨by first | rfl | (simp [errW_none, errW_some] <;> rfl) | (simp [*, errW_none, errW_some] <;> rfl), by repeat (first | (with_reducible first | exact HB.out | apply below_alloc | apply pw_below_drewN | apply below_drew1 | refine below_set ?_ GE389.out) | exact HB.out)⟩
   · rw [if_neg c4] at H
     have c4b0 : decide (1100 < a0_1) = false := decide_eq_false c4
     clear c4
     replace H := Option.bind_eq_some_iff.mp H
     obtain ⟨t391, A70, H⟩ := H
     replace H : (if t391 = true then ((pianolaref03_is.f a0_3 1 1000).bind fun t392 => (if t392 = true then ((pianolaref03_is.f a0_4 1 1000).bind fun t393 => (if t393 = true then (some 0) else (some 3))) else (some 3))) else (some 3)) = some r := H
     have A7 := Aside0.mk A70
     clear A70
     by_cases c8 : t391 = true
     · subst c8
       have H1 : ((pianolaref03_is.f a0_3 1 1000).bind fun t392 => (if t392 = true then ((pianolaref03_is.f a0_4 1 1000).bind fun t393 => (if t393 = true then (some 0) else (some 3))) else (some 3))) = some r := by rw [if_pos rfl] at H; exact H
       clear H
       have H := H1
       clear H1
       replace H := Option.bind_eq_some_iff.mp H
       obtain ⟨t392, A90, H⟩ := H
       replace H : (if t392 = true then ((pianolaref03_is.f a0_4 1 1000).bind fun t393 => (if t393 = true then (some 0) else (some 3))) else (some 3)) = some r := H
       have A9 := Aside0.mk A90
       clear A90
       by_cases c10 : t392 = true
       · subst c10
         have H1 : ((pianolaref03_is.f a0_4 1 1000).bind fun t393 => (if t393 = true then (some 0) else (some 3))) = some r := by rw [if_pos rfl] at H; exact H
         clear H
         have H := H1
         clear H1
         replace H := Option.bind_eq_some_iff.mp H
         obtain ⟨t393, A110, H⟩ := H
         replace H : (if t393 = true then (some 0) else (some 3)) = some r := H
         have A11 := Aside0.mk A110
         clear A110
         by_cases c12 : t393 = true
         · subst c12
           have H1 : (some 0) = some r := by rw [if_pos rfl] at H; exact H
           clear H
           have H := H1
           clear H1
           obtain rfl := Option.some.inj H
           go_enter Try.func71, Try.ntmps71
           have tok1_ : True := trivial
           have tok2_ : True := trivial
           have tok3_ : True := trivial
           go_wp2_with (first | ((with_reducible refine gate_dst (N := 1) rfl ?_); refine box_event ?hg (N := 1) ?hd (cs := #[.int .i64 a0_0, .int .i64 a0_1, .int .i64 a0_2, .int .i64 a0_3, .int .i64 a0_4]) (t := 58) ?hr ?_; (case hd => rfl); (case hg => rfl); (case hr => first | (go_simp; done) | (go_simp; rfl)); intro gb389 hg w13 hbox hb; have BK389 := Aside0.mk (hbox); have GW389 := bgw_ HB hg; have GE389 := bgw_ HB hg; replace HB := bls_ HB hb; clear hb hbox hg; have hcz14_0 := bkc_ BK389 0 (.int .i64 a0_0) rfl; have hcz14_1 := bkc_ BK389 1 (.int .i64 a0_1) rfl; have hcz14_2 := bkc_ BK389 2 (.int .i64 a0_2) rfl; have hcz14_3 := bkc_ BK389 3 (.int .i64 a0_3) rfl; have hcz14_4 := bkc_ BK389 4 (.int .i64 a0_4) rfl; have hfz14_0 := blk_frozen BK389.out 0; have hfz14_1 := blk_frozen BK389.out 1; have hfz14_2 := blk_frozen BK389.out 2; have hfz14_3 := blk_frozen BK389.out 3; have hfz14_4 := blk_frozen BK389.out 4) | ((with_reducible refine gate_callee (f := 55) rfl ?_); refine goesL_ (some 9) rfl rfl Try.func55 (by kernel_rfl) rfl #[.int .i64 a0_0, .int .i64 900, .int .i64 a0_1] rfl (by (try simp only [List.map_toArray, List.map_cons, List.map_nil]); first | done | rfl | (simp only [List.length_drop, List.length_take]; rfl)) ?_; (with_reducible refine (pianolaref03_is.calls a0_0 900 a0_1 true _ A2.out).mono ?_); rintro e w' ⟨rfl, ⟨nd, rfl⟩⟩; refine ⟨_, rfl, ?_⟩) | (clear tok1_; go_at_call 55; (with_reducible refine (pianolaref03_is.calls a0_2 1 1000 true _ A7.out).mono ?_); rintro e w' ⟨rfl, ⟨nd, rfl⟩⟩) | (clear tok2_; go_at_call 55; (with_reducible refine (pianolaref03_is.calls a0_3 1 1000 true _ A9.out).mono ?_); rintro e w' ⟨rfl, ⟨nd, rfl⟩⟩) | (clear tok3_; go_at_call 55; (with_reducible refine (pianolaref03_is.calls a0_4 1 1000 true _ A11.out).mono ?_); rintro e w' ⟨rfl, ⟨nd, rfl⟩⟩))
           go_ret
           exact ⟨by first | rfl | (simp [errW_none, errW_some] <;> rfl) | (simp [*, errW_none, errW_some] <;> rfl), by repeat (first | (with_reducible first | exact HB.out | apply below_alloc | apply pw_below_drewN | apply below_drew1 | refine below_set ?_ GE389.out) | exact HB.out)⟩
         · replace c12 := Bool.eq_false_iff.mpr c12
           subst c12
           have H1 : (some 3) = some r := by rw [if_neg (show ¬ (false = true) by decide)] at H; exact H
           clear H
           have H := H1
           clear H1
           obtain rfl := Option.some.inj H
           go_enter Try.func71, Try.ntmps71
           have tok1_ : True := trivial
           have tok2_ : True := trivial
           have tok3_ : True := trivial
           go_wp2_with (first | ((with_reducible refine gate_dst (N := 1) rfl ?_); refine box_event ?hg (N := 1) ?hd (cs := #[.int .i64 a0_0, .int .i64 a0_1, .int .i64 a0_2, .int .i64 a0_3, .int .i64 a0_4]) (t := 58) ?hr ?_; (case hd => rfl); (case hg => rfl); (case hr => first | (go_simp; done) | (go_simp; rfl)); intro gb389 hg w15 hbox hb; have BK389 := Aside0.mk (hbox); have GW389 := bgw_ HB hg; have GE389 := bgw_ HB hg; replace HB := bls_ HB hb; clear hb hbox hg; have hcz16_0 := bkc_ BK389 0 (.int .i64 a0_0) rfl; have hcz16_1 := bkc_ BK389 1 (.int .i64 a0_1) rfl; have hcz16_2 := bkc_ BK389 2 (.int .i64 a0_2) rfl; have hcz16_3 := bkc_ BK389 3 (.int .i64 a0_3) rfl; have hcz16_4 := bkc_ BK389 4 (.int .i64 a0_4) rfl; have hfz16_0 := blk_frozen BK389.out 0; have hfz16_1 := blk_frozen BK389.out 1; have hfz16_2 := blk_frozen BK389.out 2; have hfz16_3 := blk_frozen BK389.out 3; have hfz16_4 := blk_frozen BK389.out 4) | ((with_reducible refine gate_callee (f := 55) rfl ?_); refine goesL_ (some 9) rfl rfl Try.func55 (by kernel_rfl) rfl #[.int .i64 a0_0, .int .i64 900, .int .i64 a0_1] rfl (by (try simp only [List.map_toArray, List.map_cons, List.map_nil]); first | done | rfl | (simp only [List.length_drop, List.length_take]; rfl)) ?_; (with_reducible refine (pianolaref03_is.calls a0_0 900 a0_1 true _ A2.out).mono ?_); rintro e w' ⟨rfl, ⟨nd, rfl⟩⟩; refine ⟨_, rfl, ?_⟩) | (clear tok1_; go_at_call 55; (with_reducible refine (pianolaref03_is.calls a0_2 1 1000 true _ A7.out).mono ?_); rintro e w' ⟨rfl, ⟨nd, rfl⟩⟩) | (clear tok2_; go_at_call 55; (with_reducible refine (pianolaref03_is.calls a0_3 1 1000 true _ A9.out).mono ?_); rintro e w' ⟨rfl, ⟨nd, rfl⟩⟩) | (clear tok3_; go_at_call 55; (with_reducible refine (pianolaref03_is.calls a0_4 1 1000 false _ A11.out).mono ?_); rintro e w' ⟨rfl, ⟨nd, rfl⟩⟩))
           go_ret
           exact ⟨by first | rfl | (simp [errW_none, errW_some] <;> rfl) | (simp [*, errW_none, errW_some] <;> rfl), by repeat (first | (with_reducible first | exact HB.out | apply below_alloc | apply pw_below_drewN | apply below_drew1 | refine below_set ?_ GE389.out) | exact HB.out)⟩
       · replace c10 := Bool.eq_false_iff.mpr c10
         subst c10
         have H1 : (some 3) = some r := by rw [if_neg (show ¬ (false = true) by decide)] at H; exact H
         clear H
         have H := H1
         clear H1
         obtain rfl := Option.some.inj H
         go_enter Try.func71, Try.ntmps71
         have tok1_ : True := trivial
         have tok2_ : True := trivial
         go_wp2_with (first | ((with_reducible refine gate_dst (N := 1) rfl ?_); refine box_event ?hg (N := 1) ?hd (cs := #[.int .i64 a0_0, .int .i64 a0_1, .int .i64 a0_2, .int .i64 a0_3, .int .i64 a0_4]) (t := 58) ?hr ?_; (case hd => rfl); (case hg => rfl); (case hr => first | (go_simp; done) | (go_simp; rfl)); intro gb389 hg w17 hbox hb; have BK389 := Aside0.mk (hbox); have GW389 := bgw_ HB hg; have GE389 := bgw_ HB hg; replace HB := bls_ HB hb; clear hb hbox hg; have hcz18_0 := bkc_ BK389 0 (.int .i64 a0_0) rfl; have hcz18_1 := bkc_ BK389 1 (.int .i64 a0_1) rfl; have hcz18_2 := bkc_ BK389 2 (.int .i64 a0_2) rfl; have hcz18_3 := bkc_ BK389 3 (.int .i64 a0_3) rfl; have hcz18_4 := bkc_ BK389 4 (.int .i64 a0_4) rfl; have hfz18_0 := blk_frozen BK389.out 0; have hfz18_1 := blk_frozen BK389.out 1; have hfz18_2 := blk_frozen BK389.out 2; have hfz18_3 := blk_frozen BK389.out 3; have hfz18_4 := blk_frozen BK389.out 4) | ((with_reducible refine gate_callee (f := 55) rfl ?_); refine goesL_ (some 9) rfl rfl Try.func55 (by kernel_rfl) rfl #[.int .i64 a0_0, .int .i64 900, .int .i64 a0_1] rfl (by (try simp only [List.map_toArray, List.map_cons, List.map_nil]); first | done | rfl | (simp only [List.length_drop, List.length_take]; rfl)) ?_; (with_reducible refine (pianolaref03_is.calls a0_0 900 a0_1 true _ A2.out).mono ?_); rintro e w' ⟨rfl, ⟨nd, rfl⟩⟩; refine ⟨_, rfl, ?_⟩) | (clear tok1_; go_at_call 55; (with_reducible refine (pianolaref03_is.calls a0_2 1 1000 true _ A7.out).mono ?_); rintro e w' ⟨rfl, ⟨nd, rfl⟩⟩) | (clear tok2_; go_at_call 55; (with_reducible refine (pianolaref03_is.calls a0_3 1 1000 false _ A9.out).mono ?_); rintro e w' ⟨rfl, ⟨nd, rfl⟩⟩))
         go_ret
         exact ⟨by first | rfl | (simp [errW_none, errW_some] <;> rfl) | (simp [*, errW_none, errW_some] <;> rfl), by repeat (first | (with_reducible first | exact HB.out | apply below_alloc | apply pw_below_drewN | apply below_drew1 | refine below_set ?_ GE389.out) | exact HB.out)⟩
     · replace c8 := Bool.eq_false_iff.mpr c8
       subst c8
       have H1 : (some 3) = some r := by rw [if_neg (show ¬ (false = true) by decide)] at H; exact H
       clear H
       have H := H1
       clear H1
       obtain rfl := Option.some.inj H
       go_enter Try.func71, Try.ntmps71
       go_wp2_with (first | ((with_reducible refine gate_dst (N := 1) rfl ?_); refine box_event ?hg (N := 1) ?hd (cs := #[.int .i64 a0_0, .int .i64 a0_1, .int .i64 a0_2, .int .i64 a0_3, .int .i64 a0_4]) (t := 58) ?hr ?_; (case hd => rfl); (case hg => rfl); (case hr => first | (go_simp; done) | (go_simp; rfl)); intro gb389 hg w19 hbox hb; have BK389 := Aside0.mk (hbox); have GW389 := bgw_ HB hg; have GE389 := bgw_ HB hg; replace HB := bls_ HB hb; clear hb hbox hg; have hcz20_0 := bkc_ BK389 0 (.int .i64 a0_0) rfl; have hcz20_1 := bkc_ BK389 1 (.int .i64 a0_1) rfl; have hcz20_2 := bkc_ BK389 2 (.int .i64 a0_2) rfl; have hcz20_3 := bkc_ BK389 3 (.int .i64 a0_3) rfl; have hcz20_4 := bkc_ BK389 4 (.int .i64 a0_4) rfl; have hfz20_0 := blk_frozen BK389.out 0; have hfz20_1 := blk_frozen BK389.out 1; have hfz20_2 := blk_frozen BK389.out 2; have hfz20_3 := blk_frozen BK389.out 3; have hfz20_4 := blk_frozen BK389.out 4) | ((with_reducible refine gate_callee (f := 55) rfl ?_); refine goesL_ (some 9) rfl rfl Try.func55 (by kernel_rfl) rfl #[.int .i64 a0_0, .int .i64 900, .int .i64 a0_1] rfl (by (try simp only [List.map_toArray, List.map_cons, List.map_nil]); first | done | rfl | (simp only [List.length_drop, List.length_take]; rfl)) ?_; (with_reducible refine (pianolaref03_is.calls a0_0 900 a0_1 true _ A2.out).mono ?_); rintro e w' ⟨rfl, ⟨nd, rfl⟩⟩; refine ⟨_, rfl, ?_⟩) | (go_at_call 55; (with_reducible refine (pianolaref03_is.calls a0_2 1 1000 false _ A7.out).mono ?_); rintro e w' ⟨rfl, ⟨nd, rfl⟩⟩))
       go_ret
       exact ⟨by first | rfl | (simp [errW_none, errW_some] <;> rfl) | (simp [*, errW_none, errW_some] <;> rfl), by repeat (first | (with_reducible first | exact HB.out | apply below_alloc | apply pw_below_drewN | apply below_drew1 | refine below_set ?_ GE389.out) | exact HB.out)⟩
 · replace c3 := Bool.eq_false_iff.mpr c3
   subst c3
   have H1 : (some 3) = some r := by rw [if_neg (show ¬ (false = true) by decide)] at H; exact H
   clear H
   have H := H1
   clear H1
   obtain rfl := Option.some.inj H
   go_enter Try.func71, Try.ntmps71
   go_wp2_with (first | ((with_reducible refine gate_dst (N := 1) rfl ?_); refine box_event ?hg (N := 1) ?hd (cs := #[.int .i64 a0_0, .int .i64 a0_1, .int .i64 a0_2, .int .i64 a0_3, .int .i64 a0_4]) (t := 58) ?hr ?_; (case hd => rfl); (case hg => rfl); (case hr => first | (go_simp; done) | (go_simp; rfl)); intro gb389 hg w21 hbox hb; have BK389 := Aside0.mk (hbox); have GW389 := bgw_ HB hg; have GE389 := bgw_ HB hg; replace HB := bls_ HB hb; clear hb hbox hg; have hcz22_0 := bkc_ BK389 0 (.int .i64 a0_0) rfl; have hcz22_1 := bkc_ BK389 1 (.int .i64 a0_1) rfl; have hcz22_2 := bkc_ BK389 2 (.int .i64 a0_2) rfl; have hcz22_3 := bkc_ BK389 3 (.int .i64 a0_3) rfl; have hcz22_4 := bkc_ BK389 4 (.int .i64 a0_4) rfl; have hfz22_0 := blk_frozen BK389.out 0; have hfz22_1 := blk_frozen BK389.out 1; have hfz22_2 := blk_frozen BK389.out 2; have hfz22_3 := blk_frozen BK389.out 3; have hfz22_4 := blk_frozen BK389.out 4) | ((with_reducible refine gate_callee (f := 55) rfl ?_); refine goesL_ (some 9) rfl rfl Try.func55 (by kernel_rfl) rfl #[.int .i64 a0_0, .int .i64 900, .int .i64 a0_1] rfl (by (try simp only [List.map_toArray, List.map_cons, List.map_nil]); first | done | rfl | (simp only [List.length_drop, List.length_take]; rfl)) ?_; (with_reducible refine (pianolaref03_is.calls a0_0 900 a0_1 false _ A2.out).mono ?_); rintro e w' ⟨rfl, ⟨nd, rfl⟩⟩; refine ⟨_, rfl, ?_⟩))
   go_ret
   exact ⟨by first | rfl | (simp [errW_none, errW_some] <;> rfl) | (simp [*, errW_none, errW_some] <;> rfl), by repeat (first | (with_reducible first | exact HB.out | apply below_alloc | apply pw_below_drewN | apply below_drew1 | refine below_set ?_ GE389.out) | exact HB.out)⟩

/-! ### pianolaref03_hole: function 72 -/
def pianolaref03_hole.f (a0_0 : Int) (a0_1 : Int) (a0_2 : Int) (a0_3 : Int) (a0_4 : Int) (a1 : Int) : Option (Bool) := some (decide ((wrap64 (a1 * a0_1)) ≤ (wrap64 (1000 * a0_2))))
set_option maxHeartbeats 8000000 in
set_option maxRecDepth 100000 in
theorem pianolaref03_hole.calls (a0_0 : Int) (a0_1 : Int) (a0_2 : Int) (a0_3 : Int) (a0_4 : Int) (a1 : Int) (r : Bool) (w : World) (h : pianolaref03_hole.f a0_0 a0_1 a0_2 a0_3 a0_4 a1 = some r) :
 Calls Try.prog 72 #[.agg #[.int .i64 a0_0, .int .i64 a0_1, .int .i64 a0_2, .int .i64 a0_3, .int .i64 a0_4], .int .i64 a1] w fun e w' => e = .returned (.bool r) ∧ Below w.heap.size w w' := by
 have hu58 := Try.underlying58
 have HB := Aside0.mk (Below.refl w.heap.size w)
 have H : (some (decide ((wrap64 (a1 * a0_1)) ≤ (wrap64 (1000 * a0_2))))) = some r := h
 clear h
 obtain rfl := Option.some.inj H
 go_enter Try.func72, Try.ntmps72
 go_wp2_with (first | ((with_reducible refine gate_dst (N := 2) rfl ?_); refine box_event ?hg (N := 2) ?hd (cs := #[.int .i64 a0_0, .int .i64 a0_1, .int .i64 a0_2, .int .i64 a0_3, .int .i64 a0_4]) (t := 58) ?hr ?_; (case hd => rfl); (case hg => rfl); (case hr => first | (go_simp; done) | (go_simp; rfl)); intro gb394 hg w3 hbox hb; have BK394 := Aside0.mk (hbox); have GW394 := bgw_ HB hg; have GE394 := bgw_ HB hg; replace HB := bls_ HB hb; clear hb hbox hg; have hcz4_0 := bkc_ BK394 0 (.int .i64 a0_0) rfl; have hcz4_1 := bkc_ BK394 1 (.int .i64 a0_1) rfl; have hcz4_2 := bkc_ BK394 2 (.int .i64 a0_2) rfl; have hcz4_3 := bkc_ BK394 3 (.int .i64 a0_3) rfl; have hcz4_4 := bkc_ BK394 4 (.int .i64 a0_4) rfl; have hfz4_0 := blk_frozen BK394.out 0; have hfz4_1 := blk_frozen BK394.out 1; have hfz4_2 := blk_frozen BK394.out 2; have hfz4_3 := blk_frozen BK394.out 3; have hfz4_4 := blk_frozen BK394.out 4))
 go_ret
 exact ⟨by first | rfl | (simp [errW_none, errW_some] <;> rfl) | (simp [*, errW_none, errW_some] <;> rfl), by repeat (first | (with_reducible first | exact HB.out | apply below_alloc | apply pw_below_drewN | apply below_drew1 | refine below_set ?_ GE394.out) | exact HB.out)⟩

/-! ### pianolaref03_bridge: function 73 -/
def pianolaref03_bridge.f (a0_0 : Int) (a0_1 : Int) (a0_2 : Int) (a0_3 : Int) (a0_4 : Int) (a1 : Int) : Option (Bool) := if (wrap64 (a1 * a0_0)) ≥ (wrap64 (1000 * a0_3)) then (some (decide ((wrap64 (a1 * a0_1)) < (wrap64 (1000 * a0_4))))) else (some false)
set_option maxHeartbeats 8000000 in
set_option maxRecDepth 100000 in
theorem pianolaref03_bridge.calls (a0_0 : Int) (a0_1 : Int) (a0_2 : Int) (a0_3 : Int) (a0_4 : Int) (a1 : Int) (r : Bool) (w : World) (h : pianolaref03_bridge.f a0_0 a0_1 a0_2 a0_3 a0_4 a1 = some r) :
 Calls Try.prog 73 #[.agg #[.int .i64 a0_0, .int .i64 a0_1, .int .i64 a0_2, .int .i64 a0_3, .int .i64 a0_4], .int .i64 a1] w fun e w' => e = .returned (.bool r) ∧ Below w.heap.size w w' := by
 have hu58 := Try.underlying58
 have HB := Aside0.mk (Below.refl w.heap.size w)
 have H : (if (wrap64 (a1 * a0_0)) ≥ (wrap64 (1000 * a0_3)) then (some (decide ((wrap64 (a1 * a0_1)) < (wrap64 (1000 * a0_4))))) else (some false)) = some r := h
 clear h
 by_cases c3 : (wrap64 (a1 * a0_0)) ≥ (wrap64 (1000 * a0_3))
 · rw [if_pos c3] at H
   have c3b0 : decide ((wrap64 (1000 * a0_3)) ≤ (wrap64 (a1 * a0_0))) = true := decide_eq_true c3
   clear c3
   obtain rfl := Option.some.inj H
   go_enter Try.func73, Try.ntmps73
   go_wp2_with (first | ((with_reducible refine gate_dst (N := 2) rfl ?_); refine box_event ?hg (N := 2) ?hd (cs := #[.int .i64 a0_0, .int .i64 a0_1, .int .i64 a0_2, .int .i64 a0_3, .int .i64 a0_4]) (t := 58) ?hr ?_; (case hd => rfl); (case hg => rfl); (case hr => first | (go_simp; done) | (go_simp; rfl)); intro gb395 hg w4 hbox hb; have BK395 := Aside0.mk (hbox); have GW395 := bgw_ HB hg; have GE395 := bgw_ HB hg; replace HB := bls_ HB hb; clear hb hbox hg; have hcz5_0 := bkc_ BK395 0 (.int .i64 a0_0) rfl; have hcz5_1 := bkc_ BK395 1 (.int .i64 a0_1) rfl; have hcz5_2 := bkc_ BK395 2 (.int .i64 a0_2) rfl; have hcz5_3 := bkc_ BK395 3 (.int .i64 a0_3) rfl; have hcz5_4 := bkc_ BK395 4 (.int .i64 a0_4) rfl; have hfz5_0 := blk_frozen BK395.out 0; have hfz5_1 := blk_frozen BK395.out 1; have hfz5_2 := blk_frozen BK395.out 2; have hfz5_3 := blk_frozen BK395.out 3; have hfz5_4 := blk_frozen BK395.out 4))
   go_ret
   exact ⟨by first | rfl | (simp [errW_none, errW_some] <;> rfl) | (simp [*, errW_none, errW_some] <;> rfl), by repeat (first | (with_reducible first | exact HB.out | apply below_alloc | apply pw_below_drewN | apply below_drew1 | refine below_set ?_ GE395.out) | exact HB.out)⟩
 · rw [if_neg c3] at H
   have c3b0 : decide ((wrap64 (1000 * a0_3)) ≤ (wrap64 (a1 * a0_0))) = false := decide_eq_false c3
   clear c3
   obtain rfl := Option.some.inj H
   go_enter Try.func73, Try.ntmps73
   go_wp2_with (first | ((with_reducible refine gate_dst (N := 2) rfl ?_); refine box_event ?hg (N := 2) ?hd (cs := #[.int .i64 a0_0, .int .i64 a0_1, .int .i64 a0_2, .int .i64 a0_3, .int .i64 a0_4]) (t := 58) ?hr ?_; (case hd => rfl); (case hg => rfl); (case hr => first | (go_simp; done) | (go_simp; rfl)); intro gb395 hg w6 hbox hb; have BK395 := Aside0.mk (hbox); have GW395 := bgw_ HB hg; have GE395 := bgw_ HB hg; replace HB := bls_ HB hb; clear hb hbox hg; have hcz7_0 := bkc_ BK395 0 (.int .i64 a0_0) rfl; have hcz7_1 := bkc_ BK395 1 (.int .i64 a0_1) rfl; have hcz7_2 := bkc_ BK395 2 (.int .i64 a0_2) rfl; have hcz7_3 := bkc_ BK395 3 (.int .i64 a0_3) rfl; have hcz7_4 := bkc_ BK395 4 (.int .i64 a0_4) rfl; have hfz7_0 := blk_frozen BK395.out 0; have hfz7_1 := blk_frozen BK395.out 1; have hfz7_2 := blk_frozen BK395.out 2; have hfz7_3 := blk_frozen BK395.out 3; have hfz7_4 := blk_frozen BK395.out 4))
   go_ret
   exact ⟨by first | rfl | (simp [errW_none, errW_some] <;> rfl) | (simp [*, errW_none, errW_some] <;> rfl), by repeat (first | (with_reducible first | exact HB.out | apply below_alloc | apply pw_below_drewN | apply below_drew1 | refine below_set ?_ GE395.out) | exact HB.out)⟩

end Go.Proofs.Ytaaonhfaoaabbaa.X
