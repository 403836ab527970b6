-- Written by a program (the kit's print, some functions told as proved by hand). Not trusted: Lean checks it.
import Derived.Test.YtaaonhfaoaabbaaXx0
import Derived.Test.YtaaonhfaoaabbaaWs
import Derived.Test.YtaaonhfaoaabbaaXx1
import Derived.Test.YtaaonhfaoaabbaaXx5
import Derived.Test.YtaaonhfaoaabbaaE7
namespace Go.Proofs.Ytaaonhfaoaabbaa.X
open Go.RowKit Go.Proofs.YtaaonhfaoaabbaaW.PrintWords Go.Proofs.YtaaonhfaoaabbaaW.PrintLast Go.Proofs.YtaaonhfaoaabbaaW.PrintMore
attribute [local go_sem] max2_int min2_int max_two min_two max_three min_three max_four min_four   -- for this text's walks alone
set_option linter.unusedVariables false
set_option linter.unusedSimpArgs false

/-! ### punch_Bridge: function 32 -/
mutual
def punch_Bridge.j0 : Nat → Int → Int → Int → Int → Int → Int → Int → Int → Option ((List (S47)) × Int)
 | 0, _, _, _, _, _, _, _, _ => none
 | k + 1, x9, x10, x114000, x114001, x120000, x120001, x121000, x121001 => if x10 > 200 then (punch_Bridge.j1 k x10 true x114000 x114001 x120000 x120001 x121000 x121001) else (if x10 > 1 then (if x121001 = 0 then (punch_Bridge.j1 k x10 true x114000 x114001 x120000 x120001 x121000 x121001) else (punch_Bridge.j1 k x10 (decide (x9 < (wrap64 (x10 + (wrap64 ((wrap64 (x10 - 1)) * x121000)))))) x114000 x114001 x120000 x120001 x121000 x121001)) else (punch_Bridge.j1 k x10 (decide (x9 < (wrap64 (x10 + (wrap64 ((wrap64 (x10 - 1)) * x121000)))))) x114000 x114001 x120000 x120001 x121000 x121001))
def punch_Bridge.j1 : Nat → Int → Bool → Int → Int → Int → Int → Int → Int → Option ((List (S47)) × Int)
 | 0, _, _, _, _, _, _, _, _ => none
 | k + 1, x10, x82, x114000, x114001, x120000, x120001, x121000, x121001 => if x82 = true then (some (([] : List (S47)), 20)) else (punch_Bridge.l0 k ([] : List (S47)) x114000 (wrap64 (x10 - 1)) x114000 x114001 x120000 x120001 x121000 x121001)
def punch_Bridge.l0 : Nat → List (S47) → Int → Int → Int → Int → Int → Int → Int → Int → Option ((List (S47)) × Int)
 | 0, _, _, _, _, _, _, _, _, _ => none
 | k + 1, x11, x12, x13, x114000, x114001, x120000, x120001, x121000, x121001 => if x13 ≥ 0 then ((punch_least.f k x120001 (([wrap64 ((wrap64 (x114001 - x12)) - (wrap64 (x13 * (wrap64 (x120000 + x121000)))))] : List Int))).bind fun t125 => (if x11.length < 8796093022208 then ((some (x11 ++ [(⟨x12, wrap64 (x12 + t125)⟩ : S47)] : List (S47))).bind fun y126 => (if x13 > 0 then ((punch_least.f k x121001 (([wrap64 ((wrap64 ((wrap64 (x114001 - (wrap64 (x12 + t125)))) - (wrap64 (x13 * x120000)))) - (wrap64 ((wrap64 (x13 - 1)) * x121000)))] : List Int))).bind fun t132 => (punch_Bridge.l0 k y126 (wrap64 ((wrap64 (x12 + t125)) + t132)) (wrap64 (x13 - 1)) x114000 x114001 x120000 x120001 x121000 x121001)) else (punch_Bridge.l0 k y126 (wrap64 (x12 + t125)) (wrap64 (x13 - 1)) x114000 x114001 x120000 x120001 x121000 x121001))) else (none))) else (some (x11, 0))
end
def punch_Bridge.f (k : Nat) (a0_0 : Int) (a0_1 : Int) (a0_2 : Int) (a0_3 : Int) (a0_4 : Int) (a1_0 : Int) (a1_1 : Int) : Option ((List (S47)) × Int) := (punch_Bars.f a0_0 a0_1 a0_2 a0_3 a0_4).bind fun bt114 => (if bt114.2.2.2.2 = 0 then ((punch_Slot_good.f a1_0 a1_1).bind fun t121 => (if t121 = true then (if (wrap64 (a1_1 - a1_0)) > 10000 then (some (([] : List (S47)), 3)) else (if (wrap64 (a1_1 - a1_0)) > bt114.2.1 then (if (wrap64 (bt114.2.1 + bt114.2.2.2.1)) = 0 then (none) else (punch_Bridge.j0 k (wrap64 (a1_1 - a1_0)) (wrap64 (1 + (wrap64 (Int.tdiv (wrap64 ((wrap64 ((wrap64 ((wrap64 ((wrap64 (a1_1 - a1_0)) - bt114.2.1)) + bt114.2.1)) + bt114.2.2.2.1)) - 1)) (wrap64 (bt114.2.1 + bt114.2.2.2.1)))))) a1_0 a1_1 bt114.1 bt114.2.1 bt114.2.2.1 bt114.2.2.2.1)) else (punch_Bridge.j0 k (wrap64 (a1_1 - a1_0)) 1 a1_0 a1_1 bt114.1 bt114.2.1 bt114.2.2.1 bt114.2.2.2.1))) else (some (([] : List (S47)), 3)))) else (some (([] : List (S47)), bt114.2.2.2.2)))
theorem punch_Bridge.mono_l : ∀ k, (∀ y0 y1 y2 y3 y4 y5 y6 y7, LeO (punch_Bridge.j0 k y0 y1 y2 y3 y4 y5 y6 y7) (punch_Bridge.j0 (k + 1) y0 y1 y2 y3 y4 y5 y6 y7)) ∧ (∀ y0 y1 y2 y3 y4 y5 y6 y7, LeO (punch_Bridge.j1 k y0 y1 y2 y3 y4 y5 y6 y7) (punch_Bridge.j1 (k + 1) y0 y1 y2 y3 y4 y5 y6 y7)) ∧ (∀ y0 y1 y2 y3 y4 y5 y6 y7 y8, LeO (punch_Bridge.l0 k y0 y1 y2 y3 y4 y5 y6 y7 y8) (punch_Bridge.l0 (k + 1) y0 y1 y2 y3 y4 y5 y6 y7 y8))
 | 0 => ⟨fun _ _ _ _ _ _ _ _ r h => by simp [punch_Bridge.j0] at h, fun _ _ _ _ _ _ _ _ r h => by simp [punch_Bridge.j1] at h, fun _ _ _ _ _ _ _ _ _ r h => by simp [punch_Bridge.l0] at h⟩
 | k + 1 => by
  obtain ⟨ih0, ih1, ih2⟩ := punch_Bridge.mono_l k
  refine ⟨?_, ?_, ?_⟩
  · intro y0 y1 y2 y3 y4 y5 y6 y7
    unfold punch_Bridge.j0
    repeat' first
    | (with_reducible exact ih0 _ _ _ _ _ _ _ _)
    | (with_reducible exact ih1 _ _ _ _ _ _ _ _)
    | (with_reducible exact ih2 _ _ _ _ _ _ _ _ _)
    | (with_reducible exact punch_least.mono _ _ _)
    | (with_reducible exact LeO.refl _)
    | (with_reducible exact LeO.none _)
    | (with_reducible refine LeO.ite ?_ ?_)
    | (with_reducible refine LeO.bind ?_ (fun _ => ?_))
    | exact ih0 _ _ _ _ _ _ _ _
    | exact ih1 _ _ _ _ _ _ _ _
    | exact ih2 _ _ _ _ _ _ _ _ _
    | exact punch_least.mono _ _ _
    | exact LeO.none _
    | refine LeO.ite ?_ ?_
    | refine LeO.bind ?_ (fun _ => ?_)
  · intro y0 y1 y2 y3 y4 y5 y6 y7
    unfold punch_Bridge.j1
    repeat' first
    | (with_reducible exact ih0 _ _ _ _ _ _ _ _)
    | (with_reducible exact ih1 _ _ _ _ _ _ _ _)
    | (with_reducible exact ih2 _ _ _ _ _ _ _ _ _)
    | (with_reducible exact punch_least.mono _ _ _)
    | (with_reducible exact LeO.refl _)
    | (with_reducible exact LeO.none _)
    | (with_reducible refine LeO.ite ?_ ?_)
    | (with_reducible refine LeO.bind ?_ (fun _ => ?_))
    | exact ih0 _ _ _ _ _ _ _ _
    | exact ih1 _ _ _ _ _ _ _ _
    | exact ih2 _ _ _ _ _ _ _ _ _
    | exact punch_least.mono _ _ _
    | exact LeO.none _
    | refine LeO.ite ?_ ?_
    | refine LeO.bind ?_ (fun _ => ?_)
  · intro y0 y1 y2 y3 y4 y5 y6 y7 y8
    unfold punch_Bridge.l0
    repeat' first
    | (with_reducible exact ih0 _ _ _ _ _ _ _ _)
    | (with_reducible exact ih1 _ _ _ _ _ _ _ _)
    | (with_reducible exact ih2 _ _ _ _ _ _ _ _ _)
    | (with_reducible exact punch_least.mono _ _ _)
    | (with_reducible exact LeO.refl _)
    | (with_reducible exact LeO.none _)
    | (with_reducible refine LeO.ite ?_ ?_)
    | (with_reducible refine LeO.bind ?_ (fun _ => ?_))
    | exact ih0 _ _ _ _ _ _ _ _
    | exact ih1 _ _ _ _ _ _ _ _
    | exact ih2 _ _ _ _ _ _ _ _ _
    | exact punch_least.mono _ _ _
    | exact LeO.none _
    | refine LeO.ite ?_ ?_
    | refine LeO.bind ?_ (fun _ => ?_)
theorem punch_Bridge.mono : ∀ a0 a1 a2 a3 a4 a5 a6 k, LeO (punch_Bridge.f k a0 a1 a2 a3 a4 a5 a6) (punch_Bridge.f (k + 1) a0 a1 a2 a3 a4 a5 a6) := by
 intro a0 a1 a2 a3 a4 a5 a6 k
 obtain ⟨ih0, ih1, ih2⟩ := punch_Bridge.mono_l k
 unfold punch_Bridge.f
 repeat' first
  | (with_reducible exact ih0 _ _ _ _ _ _ _ _)
  | (with_reducible exact ih1 _ _ _ _ _ _ _ _)
  | (with_reducible exact ih2 _ _ _ _ _ _ _ _ _)
  | (with_reducible exact punch_least.mono _ _ _)
  | (with_reducible exact LeO.refl _)
  | (with_reducible exact LeO.none _)
  | (with_reducible refine LeO.ite ?_ ?_)
  | (with_reducible refine LeO.bind ?_ (fun _ => ?_))
  | exact ih0 _ _ _ _ _ _ _ _
  | exact ih1 _ _ _ _ _ _ _ _
  | exact ih2 _ _ _ _ _ _ _ _ _
  | exact punch_least.mono _ _ _
  | exact LeO.none _
  | refine LeO.ite ?_ ?_
  | refine LeO.bind ?_ (fun _ => ?_)
set_option maxHeartbeats 8000000 in
set_option maxRecDepth 100000 in
theorem punch_Bridge.calls (k : Nat) (a0_0 : Int) (a0_1 : Int) (a0_2 : Int) (a0_3 : Int) (a0_4 : Int) (a1_0 : Int) (a1_1 : Int) (r1 : List (S47)) (r2 : Int) (w : World) (h : punch_Bridge.f k a0_0 a0_1 a0_2 a0_3 a0_4 a1_0 a1_1 = some (r1, r2)) :
 Calls Try.prog 32 #[.agg #[.int .i64 a0_0, .int .i64 a0_1, .int .i64 a0_2, .int .i64 a0_3, .int .i64 a0_4], .agg #[.int .i64 a1_0, .int .i64 a1_1]] w fun e w' => ∃ v0_ : Value, e = .returned (.tuple #[v0_, .int .i64 r2]) ∧ Kd.R k47 47 w' w.heap.size (fun _ => True) v0_ r1 ∧ Below w.heap.size w w' := by
 have hu57 := Try.underlying57
 have hu47 := Try.underlying47
 have hu55 := Try.underlying55
 have HB := Aside0.mk (Below.refl w.heap.size w)
 have H : ((punch_Bars.f a0_0 a0_1 a0_2 a0_3 a0_4).bind fun bt114 => (if bt114.2.2.2.2 = 0 then ((punch_Slot_good.f a1_0 a1_1).bind fun t121 => (if t121 = true then (if (wrap64 (a1_1 - a1_0)) > 10000 then (some (([] : List (S47)), 3)) else (if (wrap64 (a1_1 - a1_0)) > bt114.2.1 then (if (wrap64 (bt114.2.1 + bt114.2.2.2.1)) = 0 then (none) else (punch_Bridge.j0 k (wrap64 (a1_1 - a1_0)) (wrap64 (1 + (wrap64 (Int.tdiv (wrap64 ((wrap64 ((wrap64 ((wrap64 ((wrap64 (a1_1 - a1_0)) - bt114.2.1)) + bt114.2.1)) + bt114.2.2.2.1)) - 1)) (wrap64 (bt114.2.1 + bt114.2.2.2.1)))))) a1_0 a1_1 bt114.1 bt114.2.1 bt114.2.2.1 bt114.2.2.2.1)) else (punch_Bridge.j0 k (wrap64 (a1_1 - a1_0)) 1 a1_0 a1_1 bt114.1 bt114.2.1 bt114.2.2.1 bt114.2.2.2.1))) else (some (([] : List (S47)), 3)))) else (some (([] : List (S47)), bt114.2.2.2.2)))) = some (r1, r2) := h
 clear h
 replace H := Option.bind_eq_some_iff.mp H
 obtain ⟨⟨t114, t115, t116, t117, t118⟩, A30, H⟩ := H
 replace H : (if t118 = 0 then ((punch_Slot_good.f a1_0 a1_1).bind fun t121 => (if t121 = true then (if (wrap64 (a1_1 - a1_0)) > 10000 then (some (([] : List (S47)), 3)) else (if (wrap64 (a1_1 - a1_0)) > t115 then (if (wrap64 (t115 + t117)) = 0 then (none) else (punch_Bridge.j0 k (wrap64 (a1_1 - a1_0)) (wrap64 (1 + (wrap64 (Int.tdiv (wrap64 ((wrap64 ((wrap64 ((wrap64 ((wrap64 (a1_1 - a1_0)) - t115)) + t115)) + t117)) - 1)) (wrap64 (t115 + t117)))))) a1_0 a1_1 t114 t115 t116 t117)) else (punch_Bridge.j0 k (wrap64 (a1_1 - a1_0)) 1 a1_0 a1_1 t114 t115 t116 t117))) else (some (([] : List (S47)), 3)))) else (some (([] : List (S47)), t118))) = some (r1, r2) := H
 have A3 := Aside0.mk A30
 clear A30
 by_cases c4 : t118 = 0
 · rw [if_pos c4] at H
   have c4b0 : (t118 == 0) = true := beq_iff_eq.mpr c4
   have c4b1 : (t118 != 0) = false := bne_eq_false_iff_eq.mpr c4
   clear c4
   replace H := Option.bind_eq_some_iff.mp H
   obtain ⟨t121, A50, H⟩ := H
   replace H : (if t121 = true then (if (wrap64 (a1_1 - a1_0)) > 10000 then (some (([] : List (S47)), 3)) else (if (wrap64 (a1_1 - a1_0)) > t115 then (if (wrap64 (t115 + t117)) = 0 then (none) else (punch_Bridge.j0 k (wrap64 (a1_1 - a1_0)) (wrap64 (1 + (wrap64 (Int.tdiv (wrap64 ((wrap64 ((wrap64 ((wrap64 ((wrap64 (a1_1 - a1_0)) - t115)) + t115)) + t117)) - 1)) (wrap64 (t115 + t117)))))) a1_0 a1_1 t114 t115 t116 t117)) else (punch_Bridge.j0 k (wrap64 (a1_1 - a1_0)) 1 a1_0 a1_1 t114 t115 t116 t117))) else (some (([] : List (S47)), 3))) = some (r1, r2) := H
   have A5 := Aside0.mk A50
   clear A50
   by_cases c6 : t121 = true
   · subst c6
     have H1 : (if (wrap64 (a1_1 - a1_0)) > 10000 then (some (([] : List (S47)), 3)) else (if (wrap64 (a1_1 - a1_0)) > t115 then (if (wrap64 (t115 + t117)) = 0 then (none) else (punch_Bridge.j0 k (wrap64 (a1_1 - a1_0)) (wrap64 (1 + (wrap64 (Int.tdiv (wrap64 ((wrap64 ((wrap64 ((wrap64 ((wrap64 (a1_1 - a1_0)) - t115)) + t115)) + t117)) - 1)) (wrap64 (t115 + t117)))))) a1_0 a1_1 t114 t115 t116 t117)) else (punch_Bridge.j0 k (wrap64 (a1_1 - a1_0)) 1 a1_0 a1_1 t114 t115 t116 t117))) = some (r1, r2) := by rw [if_pos rfl] at H; exact H
     clear H
     have H := H1
     clear H1
     by_cases c7 : (wrap64 (a1_1 - a1_0)) > 10000
     · rw [if_pos c7] at H
       have c7b0 : decide (10000 < (wrap64 (a1_1 - a1_0))) = true := decide_eq_true c7
       clear c7
       simp only [Option.some.injEq, Prod.mk.injEq] at H
       obtain ⟨rfl, rfl⟩ := H
       go_enter Try.func32, Try.ntmps32
       go_wp2_with (first | ((with_reducible refine gate_dst (N := 2) rfl ?_); refine box_event ?hg (N := 2) ?hd (cs := #[.int .i64 a0_0, .int .i64 a0_1, .int .i64 a0_2, .int .i64 a0_3, .int .i64 a0_4]) (t := 57) ?hr ?_; (case hd => rfl); (case hg => rfl); (case hr => first | (go_simp; done) | (go_simp; rfl)); intro gb112 hg w8 hbox hb; have BK112 := Aside0.mk (hbox); have GW112 := bgw_ HB hg; have GE112 := bgw_ HB hg; replace HB := bls_ HB hb; clear hb hbox hg) | ((with_reducible refine gate_dst (N := 3) rfl ?_); refine box_event ?hg (N := 3) ?hd (cs := #[.int .i64 a1_0, .int .i64 a1_1]) (t := 47) ?hr ?_; (case hd => rfl); (case hg => rfl); (case hr => first | (go_simp; done) | (go_simp; rfl)); intro gb113 hg w9 hbox hb; have BK113 := Aside0.mk (hbox); have GW113 := bgw_ HB hg; have GE113 := bgw_ HB hg; have NB112_113 := bnl_ BK112 hg; have NB113_112 := bng_ BK112 hg; replace BK112 := bkb_ BK112 hb; replace HB := bls_ HB hb; clear hb hbox hg; have hnb10 := NB112_113.out; have hnc10 := NB113_112.out; have hcz11_0 := bkc_ BK112 0 (.int .i64 a0_0) rfl; have hcz11_1 := bkc_ BK112 1 (.int .i64 a0_1) rfl; have hcz11_2 := bkc_ BK112 2 (.int .i64 a0_2) rfl; have hcz11_3 := bkc_ BK112 3 (.int .i64 a0_3) rfl; have hcz11_4 := bkc_ BK112 4 (.int .i64 a0_4) rfl; have hfz11_0 := blk_frozen BK112.out 0; have hfz11_1 := blk_frozen BK112.out 1; have hfz11_2 := blk_frozen BK112.out 2; have hfz11_3 := blk_frozen BK112.out 3; have hfz11_4 := blk_frozen BK112.out 4) | ((with_reducible refine gate_callee (f := 30) rfl ?_); refine goesL_ (some 17) rfl rfl Try.func30 (by kernel_rfl) rfl #[.agg #[.int .i64 a0_0, .int .i64 a0_1, .int .i64 a0_2, .int .i64 a0_3, .int .i64 a0_4]] rfl (by (try simp only [List.map_toArray, List.map_cons, List.map_nil]); first | done | rfl | (simp only [List.length_drop, List.length_take]; rfl)) ?_; (with_reducible refine (punch_Bars.calls a0_0 a0_1 a0_2 a0_3 a0_4 t114 t115 t116 t117 t118 _ A3.out).mono ?_); rintro e w12 ⟨rfl, hb⟩; refine ⟨_, rfl, ?_⟩; replace BK112 := bkb_ BK112 hb; replace BK113 := bkb_ BK113 hb; replace HB := bls_ HB hb; (try clear hb); (try clear hb2); (try clear hk); (try clear hi)) | ((with_reducible refine gate_dst (N := 6) rfl ?_); refine box_event ?hg (N := 6) ?hd (cs := #[.int .i64 0, .int .i64 0]) (t := 55) ?hr ?_; (case hd => rfl); (case hg => rfl); (case hr => first | (go_simp; done) | (go_simp; rfl)); intro gb119 hg w13 hbox hb; have BK119 := Aside0.mk (hbox); have GW119 := bgw_ HB hg; have GE119 := bgw_ HB hg; have NB112_119 := bnl_ BK112 hg; have NB119_112 := bng_ BK112 hg; have NB113_119 := bnl_ BK113 hg; have NB119_113 := bng_ BK113 hg; replace BK112 := bkb_ BK112 hb; replace BK113 := bkb_ BK113 hb; replace HB := bls_ HB hb; clear hb hbox hg) | ((with_reducible refine gate_dst (N := 7) rfl ?_); refine box_event ?hg (N := 7) ?hd (cs := #[.int .i64 0, .int .i64 0]) (t := 55) ?hr ?_; (case hd => rfl); (case hg => rfl); (case hr => first | (go_simp; done) | (go_simp; rfl)); intro gb120 hg w14 hbox hb; have BK120 := Aside0.mk (hbox); have GW120 := bgw_ HB hg; have GE120 := bgw_ HB hg; have NB112_120 := bnl_ BK112 hg; have NB120_112 := bng_ BK112 hg; have NB113_120 := bnl_ BK113 hg; have NB120_113 := bng_ BK113 hg; have NB119_120 := bnl_ BK119 hg; have NB120_119 := bng_ BK119 hg; replace BK112 := bkb_ BK112 hb; replace BK113 := bkb_ BK113 hb; replace BK119 := bkb_ BK119 hb; replace HB := bls_ HB hb; clear hb hbox hg; have hnb15 := NB119_112.out; have hnc15 := NB112_119.out; have hnb16 := NB119_113.out; have hnc16 := NB113_119.out; have hnb17 := NB119_120.out; have hnc17 := NB120_119.out; have hcz18_0 := bkc_ BK119 0 (.int .i64 0) rfl; have hcz18_1 := bkc_ BK119 1 (.int .i64 0) rfl; have hfz18_0 := blk_frozen BK119.out 0; have hfz18_1 := blk_frozen BK119.out 1; have hnb19 := NB120_112.out; have hnc19 := NB112_120.out; have hnb20 := NB120_113.out; have hnc20 := NB113_120.out; have hcz21_0 := bkc_ BK120 0 (.int .i64 0) rfl; have hcz21_1 := bkc_ BK120 1 (.int .i64 0) rfl; have hfz21_0 := blk_frozen BK120.out 0; have hfz21_1 := blk_frozen BK120.out 1; have hcz22_0 := bkc_ BK113 0 (.int .i64 a1_0) rfl; have hcz22_1 := bkc_ BK113 1 (.int .i64 a1_1) rfl; have hfz22_0 := blk_frozen BK113.out 0; have hfz22_1 := blk_frozen BK113.out 1) | ((with_reducible refine gate_callee (f := 54) rfl ?_); refine goesL_ (some 32) rfl rfl Try.func54 (by kernel_rfl) rfl #[.agg #[.int .i64 a1_0, .int .i64 a1_1]] rfl (by (try simp only [List.map_toArray, List.map_cons, List.map_nil]); first | done | rfl | (simp only [List.length_drop, List.length_take]; rfl)) ?_; (with_reducible refine (punch_Slot_good.calls a1_0 a1_1 true _ A5.out).mono ?_); rintro e w23 ⟨rfl, hb⟩; refine ⟨_, rfl, ?_⟩; have n0_ := bkb_ BK112 hb; have n1_ := bkb_ BK113 hb; have n2_ := Aside0.mk (blk_below (g := gb119) (o := .cells #[.int .i64 t114, .int .i64 t115] 55 (0, 0)) (by (with_reducible repeat (first | refine blk_drewN ?_ _ | refine blk_drew ?_ | refine blk_alloc ?_ _)); refine blk_far ?_ NB119_120.out _; (with_reducible repeat (first | refine blk_drewN ?_ _ | refine blk_drew ?_ | refine blk_alloc ?_ _)); refine blk_far ?_ NB119_120.out _; (with_reducible repeat (first | refine blk_drewN ?_ _ | refine blk_drew ?_ | refine blk_alloc ?_ _)); refine blk_put (cs := #[.int .i64 t114, .int .i64 0]) ?_ 1 _ rfl; (with_reducible repeat (first | refine blk_drewN ?_ _ | refine blk_drew ?_ | refine blk_alloc ?_ _)); refine blk_put (cs := #[.int .i64 0, .int .i64 0]) ?_ 0 _ rfl; (with_reducible repeat (first | refine blk_drewN ?_ _ | refine blk_drew ?_ | refine blk_alloc ?_ _)); exact BK119.out) hb); have n3_ := Aside0.mk (blk_below (g := gb120) (o := .cells #[.int .i64 t116, .int .i64 t117] 55 (0, 0)) (by (with_reducible repeat (first | refine blk_drewN ?_ _ | refine blk_drew ?_ | refine blk_alloc ?_ _)); refine blk_put (cs := #[.int .i64 t116, .int .i64 0]) ?_ 1 _ rfl; (with_reducible repeat (first | refine blk_drewN ?_ _ | refine blk_drew ?_ | refine blk_alloc ?_ _)); refine blk_put (cs := #[.int .i64 0, .int .i64 0]) ?_ 0 _ rfl; (with_reducible repeat (first | refine blk_drewN ?_ _ | refine blk_drew ?_ | refine blk_alloc ?_ _)); refine blk_far ?_ NB120_119.out _; (with_reducible repeat (first | refine blk_drewN ?_ _ | refine blk_drew ?_ | refine blk_alloc ?_ _)); refine blk_far ?_ NB120_119.out _; (with_reducible repeat (first | refine blk_drewN ?_ _ | refine blk_drew ?_ | refine blk_alloc ?_ _)); exact BK120.out) hb); have n4_ := bls_ HB hb; clear BK112; clear BK113; clear BK119; clear BK120; clear HB; have BK112 := n0_; have BK113 := n1_; have BK119 := n2_; have BK120 := n3_; have HB := n4_; clear n0_ n1_ n2_ n3_ n4_; (try clear hb); (try clear hb2); (try clear hk); (try clear hi)))
       go_ret2
       exact ⟨_, by first | rfl | (simp [errW_none, errW_some] <;> rfl) | (simp [*, errW_none, errW_some] <;> rfl), by first | exact Kd.R_nil _ _ _ _ _ | exact Kd.N_nil _ _ _ _ _ | exact Kd.V_nil _ _ _ _ _ | exact Kd.Q_nil _ _ _ _ _ | exact Kd.S_nil _ _ _ _ _, by repeat (first | (with_reducible first | exact HB.out | apply below_alloc | apply pw_below_drewN | apply below_drew1 | refine below_set ?_ GE112.out | refine below_set ?_ GE113.out | refine below_set ?_ GE119.out | refine below_set ?_ GE120.out) | exact HB.out)⟩
     · rw [if_neg c7] at H
       have c7b0 : decide (10000 < (wrap64 (a1_1 - a1_0))) = false := decide_eq_false c7
       clear c7
       have HC24 := Aside0.mk H
       clear H
       go_enter Try.func32, Try.ntmps32
       go_upto_if 41 with (first | ((with_reducible refine gate_dst (N := 2) rfl ?_); refine box_event ?hg (N := 2) ?hd (cs := #[.int .i64 a0_0, .int .i64 a0_1, .int .i64 a0_2, .int .i64 a0_3, .int .i64 a0_4]) (t := 57) ?hr ?_; (case hd => rfl); (case hg => rfl); (case hr => first | (go_simp; done) | (go_simp; rfl)); intro gb112 hg w25 hbox hb; have BK112 := Aside0.mk (hbox); have GW112 := bgw_ HB hg; have GE112 := bgw_ HB hg; replace HB := bls_ HB hb; clear hb hbox hg) | ((with_reducible refine gate_dst (N := 3) rfl ?_); refine box_event ?hg (N := 3) ?hd (cs := #[.int .i64 a1_0, .int .i64 a1_1]) (t := 47) ?hr ?_; (case hd => rfl); (case hg => rfl); (case hr => first | (go_simp; done) | (go_simp; rfl)); intro gb113 hg w26 hbox hb; have BK113 := Aside0.mk (hbox); have GW113 := bgw_ HB hg; have GE113 := bgw_ HB hg; have NB112_113 := bnl_ BK112 hg; have NB113_112 := bng_ BK112 hg; replace BK112 := bkb_ BK112 hb; replace HB := bls_ HB hb; clear hb hbox hg; have hnb27 := NB112_113.out; have hnc27 := NB113_112.out; have hcz28_0 := bkc_ BK112 0 (.int .i64 a0_0) rfl; have hcz28_1 := bkc_ BK112 1 (.int .i64 a0_1) rfl; have hcz28_2 := bkc_ BK112 2 (.int .i64 a0_2) rfl; have hcz28_3 := bkc_ BK112 3 (.int .i64 a0_3) rfl; have hcz28_4 := bkc_ BK112 4 (.int .i64 a0_4) rfl; have hfz28_0 := blk_frozen BK112.out 0; have hfz28_1 := blk_frozen BK112.out 1; have hfz28_2 := blk_frozen BK112.out 2; have hfz28_3 := blk_frozen BK112.out 3; have hfz28_4 := blk_frozen BK112.out 4) | ((with_reducible refine gate_callee (f := 30) rfl ?_); refine goesL_ (some 17) rfl rfl Try.func30 (by kernel_rfl) rfl #[.agg #[.int .i64 a0_0, .int .i64 a0_1, .int .i64 a0_2, .int .i64 a0_3, .int .i64 a0_4]] rfl (by (try simp only [List.map_toArray, List.map_cons, List.map_nil]); first | done | rfl | (simp only [List.length_drop, List.length_take]; rfl)) ?_; (with_reducible refine (punch_Bars.calls a0_0 a0_1 a0_2 a0_3 a0_4 t114 t115 t116 t117 t118 _ A3.out).mono ?_); rintro e w29 ⟨rfl, hb⟩; refine ⟨_, rfl, ?_⟩; replace BK112 := bkb_ BK112 hb; replace BK113 := bkb_ BK113 hb; replace HB := bls_ HB hb; (try clear hb); (try clear hb2); (try clear hk); (try clear hi)) | ((with_reducible refine gate_dst (N := 6) rfl ?_); refine box_event ?hg (N := 6) ?hd (cs := #[.int .i64 0, .int .i64 0]) (t := 55) ?hr ?_; (case hd => rfl); (case hg => rfl); (case hr => first | (go_simp; done) | (go_simp; rfl)); intro gb119 hg w30 hbox hb; have BK119 := Aside0.mk (hbox); have GW119 := bgw_ HB hg; have GE119 := bgw_ HB hg; have NB112_119 := bnl_ BK112 hg; have NB119_112 := bng_ BK112 hg; have NB113_119 := bnl_ BK113 hg; have NB119_113 := bng_ BK113 hg; replace BK112 := bkb_ BK112 hb; replace BK113 := bkb_ BK113 hb; replace HB := bls_ HB hb; clear hb hbox hg) | ((with_reducible refine gate_dst (N := 7) rfl ?_); refine box_event ?hg (N := 7) ?hd (cs := #[.int .i64 0, .int .i64 0]) (t := 55) ?hr ?_; (case hd => rfl); (case hg => rfl); (case hr => first | (go_simp; done) | (go_simp; rfl)); intro gb120 hg w31 hbox hb; have BK120 := Aside0.mk (hbox); have GW120 := bgw_ HB hg; have GE120 := bgw_ HB hg; have NB112_120 := bnl_ BK112 hg; have NB120_112 := bng_ BK112 hg; have NB113_120 := bnl_ BK113 hg; have NB120_113 := bng_ BK113 hg; have NB119_120 := bnl_ BK119 hg; have NB120_119 := bng_ BK119 hg; replace BK112 := bkb_ BK112 hb; replace BK113 := bkb_ BK113 hb; replace BK119 := bkb_ BK119 hb; replace HB := bls_ HB hb; clear hb hbox hg; have hnb32 := NB119_112.out; have hnc32 := NB112_119.out; have hnb33 := NB119_113.out; have hnc33 := NB113_119.out; have hnb34 := NB119_120.out; have hnc34 := NB120_119.out; have hcz35_0 := bkc_ BK119 0 (.int .i64 0) rfl; have hcz35_1 := bkc_ BK119 1 (.int .i64 0) rfl; have hfz35_0 := blk_frozen BK119.out 0; have hfz35_1 := blk_frozen BK119.out 1; have hnb36 := NB120_112.out; have hnc36 := NB112_120.out; have hnb37 := NB120_113.out; have hnc37 := NB113_120.out; have hcz38_0 := bkc_ BK120 0 (.int .i64 0) rfl; have hcz38_1 := bkc_ BK120 1 (.int .i64 0) rfl; have hfz38_0 := blk_frozen BK120.out 0; have hfz38_1 := blk_frozen BK120.out 1; have hcz39_0 := bkc_ BK113 0 (.int .i64 a1_0) rfl; have hcz39_1 := bkc_ BK113 1 (.int .i64 a1_1) rfl; have hfz39_0 := blk_frozen BK113.out 0; have hfz39_1 := blk_frozen BK113.out 1) | ((with_reducible refine gate_callee (f := 54) rfl ?_); refine goesL_ (some 32) rfl rfl Try.func54 (by kernel_rfl) rfl #[.agg #[.int .i64 a1_0, .int .i64 a1_1]] rfl (by (try simp only [List.map_toArray, List.map_cons, List.map_nil]); first | done | rfl | (simp only [List.length_drop, List.length_take]; rfl)) ?_; (with_reducible refine (punch_Slot_good.calls a1_0 a1_1 true _ A5.out).mono ?_); rintro e w40 ⟨rfl, hb⟩; refine ⟨_, rfl, ?_⟩; have n0_ := bkb_ BK112 hb; have n1_ := bkb_ BK113 hb; have n2_ := Aside0.mk (blk_below (g := gb119) (o := .cells #[.int .i64 t114, .int .i64 t115] 55 (0, 0)) (by (with_reducible repeat (first | refine blk_drewN ?_ _ | refine blk_drew ?_ | refine blk_alloc ?_ _)); refine blk_far ?_ NB119_120.out _; (with_reducible repeat (first | refine blk_drewN ?_ _ | refine blk_drew ?_ | refine blk_alloc ?_ _)); refine blk_far ?_ NB119_120.out _; (with_reducible repeat (first | refine blk_drewN ?_ _ | refine blk_drew ?_ | refine blk_alloc ?_ _)); refine blk_put (cs := #[.int .i64 t114, .int .i64 0]) ?_ 1 _ rfl; (with_reducible repeat (first | refine blk_drewN ?_ _ | refine blk_drew ?_ | refine blk_alloc ?_ _)); refine blk_put (cs := #[.int .i64 0, .int .i64 0]) ?_ 0 _ rfl; (with_reducible repeat (first | refine blk_drewN ?_ _ | refine blk_drew ?_ | refine blk_alloc ?_ _)); exact BK119.out) hb); have n3_ := Aside0.mk (blk_below (g := gb120) (o := .cells #[.int .i64 t116, .int .i64 t117] 55 (0, 0)) (by (with_reducible repeat (first | refine blk_drewN ?_ _ | refine blk_drew ?_ | refine blk_alloc ?_ _)); refine blk_put (cs := #[.int .i64 t116, .int .i64 0]) ?_ 1 _ rfl; (with_reducible repeat (first | refine blk_drewN ?_ _ | refine blk_drew ?_ | refine blk_alloc ?_ _)); refine blk_put (cs := #[.int .i64 0, .int .i64 0]) ?_ 0 _ rfl; (with_reducible repeat (first | refine blk_drewN ?_ _ | refine blk_drew ?_ | refine blk_alloc ?_ _)); refine blk_far ?_ NB120_119.out _; (with_reducible repeat (first | refine blk_drewN ?_ _ | refine blk_drew ?_ | refine blk_alloc ?_ _)); refine blk_far ?_ NB120_119.out _; (with_reducible repeat (first | refine blk_drewN ?_ _ | refine blk_drew ?_ | refine blk_alloc ?_ _)); exact BK120.out) hb); have n4_ := bls_ HB hb; clear BK112; clear BK113; clear BK119; clear BK120; clear HB; have BK112 := n0_; have BK113 := n1_; have BK119 := n2_; have BK120 := n3_; have HB := n4_; clear n0_ n1_ n2_ n3_ n4_; (try clear hb); (try clear hb2); (try clear hk); (try clear hi); have hcz41_0 := bkc_ BK119 0 (.int .i64 t114) rfl; have hcz41_1 := bkc_ BK119 1 (.int .i64 t115) rfl; have hfz41_0 := blk_frozen BK119.out 0; have hfz41_1 := blk_frozen BK119.out 1))
       (try simp only [Act.put, List.setIfInBounds_toArray, List.set_cons_zero, List.set_cons_succ])
       go_cut [10] (fun v10 wc => ∃ (kq : Nat) (x10_23 : Int), v10 = .int .i64 x10_23 ∧ Aside0 (punch_Bridge.j0 kq (wrap64 (a1_1 - a1_0)) x10_23 a1_0 a1_1 t114 t115 t116 t117 = some (r1, r2)) ∧ Aside0 (kq ≤ k) ∧ Aside0 (wc.heap[gb112]? = some (.cells #[.int .i64 a0_0, .int .i64 a0_1, .int .i64 a0_2, .int .i64 a0_3, .int .i64 a0_4] 57 (0, 0))) ∧ Aside0 (wc.heap[gb113]? = some (.cells #[.int .i64 a1_0, .int .i64 a1_1] 47 (0, 0))) ∧ Aside0 (wc.heap[gb119]? = some (.cells #[.int .i64 t114, .int .i64 t115] 55 (0, 0))) ∧ Aside0 (wc.heap[gb120]? = some (.cells #[.int .i64 t116, .int .i64 t117] 55 (0, 0))) ∧ Aside0 (Below w.heap.size w wc))
       case first =>
        have H := HC24.out
        clear HC24
        by_cases c42 : (wrap64 (a1_1 - a1_0)) > t115
        · rw [if_pos c42] at H
          have c42b0 : decide (t115 < (wrap64 (a1_1 - a1_0))) = true := decide_eq_true c42
          clear c42
          (first | rw [c42b0] | (simp only [i64_w, i32_w]; rw [c42b0]) | skip)
          by_cases c43 : (wrap64 (t115 + t117)) = 0
          · rw [if_pos c43] at H
            exact absurd H (by simp)
          · rw [if_neg c43] at H
            have c43b0 : ((wrap64 (t115 + t117)) == 0) = false := beq_eq_false_iff_ne.mpr c43
            have c43b1 : ((wrap64 (t115 + t117)) != 0) = true := bne_iff_ne.mpr c43
            have H' := Aside0.mk H
            clear H
            have hnb44 := NB119_112.out
            have hnc44 := NB112_119.out
            have hnb45 := NB119_113.out
            have hnc45 := NB113_119.out
            have hnb46 := NB119_120.out
            have hnc46 := NB120_119.out
            have hcz47_0 := bkc_ BK119 0 (.int .i64 t114) rfl
            have hcz47_1 := bkc_ BK119 1 (.int .i64 t115) rfl
            have hfz47_0 := blk_frozen BK119.out 0
            have hfz47_1 := blk_frozen BK119.out 1
            have hnb48 := NB120_112.out
            have hnc48 := NB112_120.out
            have hnb49 := NB120_113.out
            have hnc49 := NB113_120.out
            have hcz50_0 := bkc_ BK120 0 (.int .i64 t116) rfl
            have hcz50_1 := bkc_ BK120 1 (.int .i64 t117) rfl
            have hfz50_0 := blk_frozen BK120.out 0
            have hfz50_1 := blk_frozen BK120.out 1
            go_wp2
            go_meet
            case rel => exact ⟨_, (wrap64 (1 + (wrap64 (Int.tdiv (wrap64 ((wrap64 ((wrap64 ((wrap64 ((wrap64 (a1_1 - a1_0)) - t115)) + t115)) + t117)) - 1)) (wrap64 (t115 + t117)))))), (by first | rfl | (simp; done) | (simp [*]; done)), H', ⟨by first | omega | exact Nat.le_refl _⟩, bkx_ BK112, bkx_ BK113, bkx_ BK119, bkx_ BK120, blx_ HB⟩
        · rw [if_neg c42] at H
          have c42b0 : decide (t115 < (wrap64 (a1_1 - a1_0))) = false := decide_eq_false c42
          clear c42
          (first | rw [c42b0] | (simp only [i64_w, i32_w]; rw [c42b0]) | skip)
          have H' := Aside0.mk H
          clear H
          go_wp2
          go_meet
          case rel => exact ⟨_, (1), (by first | rfl | (simp; done) | (simp [*]; done)), H', ⟨by first | omega | exact Nat.le_refl _⟩, bkx_ BK112, bkx_ BK113, bkx_ BK119, bkx_ BK120, blx_ HB⟩
       case rest =>
        clear HC24
        try clear c1
        try clear c2
        try clear p2
        try clear c3
        try clear c4
        try clear c4b0
        try clear c4b1
        try clear c5
        try clear c6
        try clear p6
        try clear c7
        try clear c7b0
        try clear c10
        try clear c15
        try clear c16
        try clear c17
        try clear c19
        try clear c20
        try clear c27
        try clear c30
        try clear c32
        try clear c33
        try clear c34
        try clear c36
        try clear c37
        try clear c42
        try clear c42b0
        try clear c43
        try clear c43b0
        try clear c43b1
        try clear c44
        try clear c45
        try clear c46
        try clear c48
        try clear c49
        try clear hcz11_0
        try clear hcz11_1
        try clear hcz11_2
        try clear hcz11_3
        try clear hcz11_4
        try clear hcz18_0
        try clear hcz18_1
        try clear hcz21_0
        try clear hcz21_1
        try clear hcz22_0
        try clear hcz22_1
        try clear hcz28_0
        try clear hcz28_1
        try clear hcz28_2
        try clear hcz28_3
        try clear hcz28_4
        try clear hcz35_0
        try clear hcz35_1
        try clear hcz38_0
        try clear hcz38_1
        try clear hcz39_0
        try clear hcz39_1
        try clear hcz41_0
        try clear hcz41_1
        try clear hcz47_0
        try clear hcz47_1
        try clear hcz50_0
        try clear hcz50_1
        try clear hfz11_0
        try clear hfz11_1
        try clear hfz11_2
        try clear hfz11_3
        try clear hfz11_4
        try clear hfz18_0
        try clear hfz18_1
        try clear hfz21_0
        try clear hfz21_1
        try clear hfz22_0
        try clear hfz22_1
        try clear hfz28_0
        try clear hfz28_1
        try clear hfz28_2
        try clear hfz28_3
        try clear hfz28_4
        try clear hfz35_0
        try clear hfz35_1
        try clear hfz38_0
        try clear hfz38_1
        try clear hfz39_0
        try clear hfz39_1
        try clear hfz41_0
        try clear hfz41_1
        try clear hfz47_0
        try clear hfz47_1
        try clear hfz50_0
        try clear hfz50_1
        obtain ⟨kq, x10_23, rfl, HA, HJ23, BK112, BK113, BK119, BK120, HB⟩ := hcut
        cases kq with
        | zero => exact absurd HA.out (by simp [punch_Bridge.j0])
        | succ kj23 =>
         have H := HA.out
         clear HA
         simp only [punch_Bridge.j0] at H
         have HC51 := Aside0.mk H
         clear H
         go_upto_region 10 with (fail)
         go_cut [82] (fun v82 wc => ∃ (kq : Nat) (x82_50 : Bool), v82 = .bool x82_50 ∧ Aside0 (punch_Bridge.j1 kq x10_23 x82_50 a1_0 a1_1 t114 t115 t116 t117 = some (r1, r2)) ∧ Aside0 (kq ≤ kj23) ∧ Aside0 (wc.heap[gb112]? = some (.cells #[.int .i64 a0_0, .int .i64 a0_1, .int .i64 a0_2, .int .i64 a0_3, .int .i64 a0_4] 57 (0, 0))) ∧ Aside0 (wc.heap[gb113]? = some (.cells #[.int .i64 a1_0, .int .i64 a1_1] 47 (0, 0))) ∧ Aside0 (wc.heap[gb119]? = some (.cells #[.int .i64 t114, .int .i64 t115] 55 (0, 0))) ∧ Aside0 (wc.heap[gb120]? = some (.cells #[.int .i64 t116, .int .i64 t117] 55 (0, 0))) ∧ Aside0 (Below w.heap.size w wc))
         case first =>
          have H := HC51.out
          clear HC51
          by_cases c52 : x10_23 > 200
          · rw [if_pos c52] at H
            have c52b0 : decide (200 < x10_23) = true := decide_eq_true c52
            clear c52
            (first | rw [c52b0] | (simp only [i64_w, i32_w]; rw [c52b0]) | skip)
            have H' := Aside0.mk H
            clear H
            go_wp2
            go_meet
            case rel => exact ⟨_, (true), (by first | rfl | (simp; done) | (simp [*]; done)), H', ⟨by have := HJ23.out; first | omega | exact Nat.le_refl _⟩, bkx_ BK112, bkx_ BK113, bkx_ BK119, bkx_ BK120, blx_ HB⟩
          · rw [if_neg c52] at H
            have c52b0 : decide (200 < x10_23) = false := decide_eq_false c52
            clear c52
            (first | rw [c52b0] | (simp only [i64_w, i32_w]; rw [c52b0]) | skip)
            by_cases c53 : x10_23 > 1
            · rw [if_pos c53] at H
              have c53b0 : decide (1 < x10_23) = true := decide_eq_true c53
              clear c53
              by_cases c54 : t117 = 0
              · rw [if_pos c54] at H
                have c54b0 : (t117 == 0) = true := beq_iff_eq.mpr c54
                have c54b1 : (t117 != 0) = false := bne_eq_false_iff_eq.mpr c54
                clear c54
                have H' := Aside0.mk H
                clear H
                have hnb55 := NB120_112.out
                have hnc55 := NB112_120.out
                have hnb56 := NB120_113.out
                have hnc56 := NB113_120.out
                have hnb57 := NB120_119.out
                have hnc57 := NB119_120.out
                have hcz58_0 := bkc_ BK120 0 (.int .i64 t116) rfl
                have hcz58_1 := bkc_ BK120 1 (.int .i64 t117) rfl
                have hfz58_0 := blk_frozen BK120.out 0
                have hfz58_1 := blk_frozen BK120.out 1
                go_wp2
                go_meet
                case rel => exact ⟨_, (true), (by first | rfl | (simp; done) | (simp [*]; done)), H', ⟨by have := HJ23.out; first | omega | exact Nat.le_refl _⟩, bkx_ BK112, bkx_ BK113, bkx_ BK119, bkx_ BK120, blx_ HB⟩
              · rw [if_neg c54] at H
                have c54b0 : (t117 == 0) = false := beq_eq_false_iff_ne.mpr c54
                have c54b1 : (t117 != 0) = true := bne_iff_ne.mpr c54
                have H' := Aside0.mk H
                clear H
                have hnb59 := NB120_112.out
                have hnc59 := NB112_120.out
                have hnb60 := NB120_113.out
                have hnc60 := NB113_120.out
                have hnb61 := NB120_119.out
                have hnc61 := NB119_120.out
                have hcz62_0 := bkc_ BK120 0 (.int .i64 t116) rfl
                have hcz62_1 := bkc_ BK120 1 (.int .i64 t117) rfl
                have hfz62_0 := blk_frozen BK120.out 0
                have hfz62_1 := blk_frozen BK120.out 1
                go_wp2
                go_meet
                case rel => exact ⟨_, (decide ((wrap64 (a1_1 - a1_0)) < (wrap64 (x10_23 + (wrap64 ((wrap64 (x10_23 - 1)) * t116)))))), (by first | rfl | (simp; done) | (simp [*]; done)), H', ⟨by have := HJ23.out; first | omega | exact Nat.le_refl _⟩, bkx_ BK112, bkx_ BK113, bkx_ BK119, bkx_ BK120, blx_ HB⟩
            · rw [if_neg c53] at H
              have c53b0 : decide (1 < x10_23) = false := decide_eq_false c53
              clear c53
              have H' := Aside0.mk H
              clear H
              have hnb63 := NB120_112.out
              have hnc63 := NB112_120.out
              have hnb64 := NB120_113.out
              have hnc64 := NB113_120.out
              have hnb65 := NB120_119.out
              have hnc65 := NB119_120.out
              have hcz66_0 := bkc_ BK120 0 (.int .i64 t116) rfl
              have hcz66_1 := bkc_ BK120 1 (.int .i64 t117) rfl
              have hfz66_0 := blk_frozen BK120.out 0
              have hfz66_1 := blk_frozen BK120.out 1
              go_wp2
              go_meet
              case rel => exact ⟨_, (decide ((wrap64 (a1_1 - a1_0)) < (wrap64 (x10_23 + (wrap64 ((wrap64 (x10_23 - 1)) * t116)))))), (by first | rfl | (simp; done) | (simp [*]; done)), H', ⟨by have := HJ23.out; first | omega | exact Nat.le_refl _⟩, bkx_ BK112, bkx_ BK113, bkx_ BK119, bkx_ BK120, blx_ HB⟩
         case rest =>
          clear HC51
          try clear c1
          try clear c2
          try clear p2
          try clear c3
          try clear c4
          try clear c4b0
          try clear c4b1
          try clear c5
          try clear c6
          try clear p6
          try clear c7
          try clear c7b0
          try clear c10
          try clear c15
          try clear c16
          try clear c17
          try clear c19
          try clear c20
          try clear c27
          try clear c30
          try clear c32
          try clear c33
          try clear c34
          try clear c36
          try clear c37
          try clear c42
          try clear c42b0
          try clear c43
          try clear c43b0
          try clear c43b1
          try clear c44
          try clear c45
          try clear c46
          try clear c48
          try clear c49
          try clear c52
          try clear c52b0
          try clear c53
          try clear c53b0
          try clear c54
          try clear c54b0
          try clear c54b1
          try clear c55
          try clear c56
          try clear c57
          try clear c59
          try clear c60
          try clear c61
          try clear c63
          try clear c64
          try clear p64
          try clear c65
          try clear hcz11_0
          try clear hcz11_1
          try clear hcz11_2
          try clear hcz11_3
          try clear hcz11_4
          try clear hcz18_0
          try clear hcz18_1
          try clear hcz21_0
          try clear hcz21_1
          try clear hcz22_0
          try clear hcz22_1
          try clear hcz28_0
          try clear hcz28_1
          try clear hcz28_2
          try clear hcz28_3
          try clear hcz28_4
          try clear hcz35_0
          try clear hcz35_1
          try clear hcz38_0
          try clear hcz38_1
          try clear hcz39_0
          try clear hcz39_1
          try clear hcz41_0
          try clear hcz41_1
          try clear hcz47_0
          try clear hcz47_1
          try clear hcz50_0
          try clear hcz50_1
          try clear hcz58_0
          try clear hcz58_1
          try clear hcz62_0
          try clear hcz62_1
          try clear hcz66_0
          try clear hcz66_1
          try clear hfz11_0
          try clear hfz11_1
          try clear hfz11_2
          try clear hfz11_3
          try clear hfz11_4
          try clear hfz18_0
          try clear hfz18_1
          try clear hfz21_0
          try clear hfz21_1
          try clear hfz22_0
          try clear hfz22_1
          try clear hfz28_0
          try clear hfz28_1
          try clear hfz28_2
          try clear hfz28_3
          try clear hfz28_4
          try clear hfz35_0
          try clear hfz35_1
          try clear hfz38_0
          try clear hfz38_1
          try clear hfz39_0
          try clear hfz39_1
          try clear hfz41_0
          try clear hfz41_1
          try clear hfz47_0
          try clear hfz47_1
          try clear hfz50_0
          try clear hfz50_1
          try clear hfz58_0
          try clear hfz58_1
          try clear hfz62_0
          try clear hfz62_1
          try clear hfz66_0
          try clear hfz66_1
          try clear p2
          try clear p6
          obtain ⟨kq, x82_50, rfl, HA, HJ50, BK112, BK113, BK119, BK120, HB⟩ := hcut
          cases kq with
          | zero => exact absurd HA.out (by simp [punch_Bridge.j1])
          | succ kj50 =>
           have H := HA.out
           clear HA
           simp only [punch_Bridge.j1] at H
           by_cases c67 : x82_50 = true
           · subst c67
             have H1 : (some (([] : List (S47)), 20)) = some (r1, r2) := by rw [if_pos rfl] at H; exact H
             clear H
             have H := H1
             clear H1
             simp only [Option.some.injEq, Prod.mk.injEq] at H
             obtain ⟨rfl, rfl⟩ := H
             go_wp2
             go_ret2
             exact ⟨_, by first | rfl | (simp [errW_none, errW_some] <;> rfl) | (simp [*, errW_none, errW_some] <;> rfl), by first | exact Kd.R_nil _ _ _ _ _ | exact Kd.N_nil _ _ _ _ _ | exact Kd.V_nil _ _ _ _ _ | exact Kd.Q_nil _ _ _ _ _ | exact Kd.S_nil _ _ _ _ _, by repeat (first | (with_reducible first | exact HB.out | apply below_alloc | apply pw_below_drewN | apply below_drew1 | refine below_set ?_ GE112.out | refine below_set ?_ GE113.out | refine below_set ?_ GE119.out | refine below_set ?_ GE120.out) | exact HB.out)⟩
           · replace c67 := Bool.eq_false_iff.mpr c67
             subst c67
             have H1 : (punch_Bridge.l0 kj50 ([] : List (S47)) a1_0 (wrap64 (x10_23 - 1)) a1_0 a1_1 t114 t115 t116 t117) = some (r1, r2) := by rw [if_neg (show ¬ (false = true) by decide)] at H; exact H
             clear H
             have H := H1
             clear H1
             have H' := Aside0.mk H
             clear H
             have hnb68 := NB113_112.out
             have hnc68 := NB112_113.out
             have hnb69 := NB113_119.out
             have hnc69 := NB119_113.out
             have hnb70 := NB113_120.out
             have hnc70 := NB120_113.out
             have hcz71_0 := bkc_ BK113 0 (.int .i64 a1_0) rfl
             have hcz71_1 := bkc_ BK113 1 (.int .i64 a1_1) rfl
             have hfz71_0 := blk_frozen BK113.out 0
             have hfz71_1 := blk_frozen BK113.out 1
             go_wp2
             go_loopg [11, 12, 13] kj50 (fun kq v11 v12 v13 w' => ∃ (x11_3 : List (S47)) (x12_3 : Int) (x13_3 : Int), v12 = .int .i64 x12_3 ∧ v13 = .int .i64 x13_3 ∧ Aside0 (punch_Bridge.l0 kq x11_3 x12_3 x13_3 a1_0 a1_1 t114 t115 t116 t117 = some (r1, r2)) ∧ Aside0 (kq ≤ kj50) ∧ Aside0 (Kd.R k47 47 w' w.heap.size (fun k_ => k_ ≠ gb113) v11 x11_3) ∧ Aside0 (w'.heap[gb112]? = some (.cells #[.int .i64 a0_0, .int .i64 a0_1, .int .i64 a0_2, .int .i64 a0_3, .int .i64 a0_4] 57 (0, 0))) ∧ Aside0 (w'.heap[gb113]? = some (.cells #[.int .i64 a1_0, .int .i64 a1_1] 47 (0, 0))) ∧ Aside0 (w'.heap[gb119]? = some (.cells #[.int .i64 t114, .int .i64 t115] 55 (0, 0))) ∧ Aside0 (w'.heap[gb120]? = some (.cells #[.int .i64 t116, .int .i64 t117] 55 (0, 0))) ∧ Aside0 (Below w.heap.size w w'))
             case atStart => exact ⟨(([] : List (S47))), (a1_0), (wrap64 (x10_23 - 1)), (by first | rfl | (simp; done) | (simp [*]; done)), (by first | rfl | (simp; done) | (simp [*]; done)), H', ⟨Nat.le_refl _⟩, ⟨by first | exact Kd.R_nil _ _ _ _ _ | exact Kd.N_nil _ _ _ _ _ | exact Kd.V_nil _ _ _ _ _ | exact Kd.Q_nil _ _ _ _ _ | exact Kd.S_nil _ _ _ _ _⟩, bkx_ BK112, bkx_ BK113, bkx_ BK119, bkx_ BK120, blx_ HB⟩
             case round =>
              clear H'
              try clear c1
              try clear c2
              try clear p2
              try clear c3
              try clear c4
              try clear c4b0
              try clear c4b1
              try clear c5
              try clear c6
              try clear p6
              try clear c7
              try clear c7b0
              try clear c10
              try clear c15
              try clear c16
              try clear c17
              try clear c19
              try clear c20
              try clear c27
              try clear c30
              try clear c32
              try clear c33
              try clear c34
              try clear c36
              try clear c37
              try clear c42
              try clear c42b0
              try clear c43
              try clear c43b0
              try clear c43b1
              try clear c44
              try clear c45
              try clear c46
              try clear c48
              try clear c49
              try clear c52
              try clear c52b0
              try clear c53
              try clear c53b0
              try clear c54
              try clear c54b0
              try clear c54b1
              try clear c55
              try clear c56
              try clear c57
              try clear c59
              try clear c60
              try clear c61
              try clear c63
              try clear c64
              try clear p64
              try clear c65
              try clear c67
              try clear c68
              try clear c69
              try clear c70
              try clear hcz11_0
              try clear hcz11_1
              try clear hcz11_2
              try clear hcz11_3
              try clear hcz11_4
              try clear hcz18_0
              try clear hcz18_1
              try clear hcz21_0
              try clear hcz21_1
              try clear hcz22_0
              try clear hcz22_1
              try clear hcz28_0
              try clear hcz28_1
              try clear hcz28_2
              try clear hcz28_3
              try clear hcz28_4
              try clear hcz35_0
              try clear hcz35_1
              try clear hcz38_0
              try clear hcz38_1
              try clear hcz39_0
              try clear hcz39_1
              try clear hcz41_0
              try clear hcz41_1
              try clear hcz47_0
              try clear hcz47_1
              try clear hcz50_0
              try clear hcz50_1
              try clear hcz58_0
              try clear hcz58_1
              try clear hcz62_0
              try clear hcz62_1
              try clear hcz66_0
              try clear hcz66_1
              try clear hcz71_0
              try clear hcz71_1
              try clear hfz11_0
              try clear hfz11_1
              try clear hfz11_2
              try clear hfz11_3
              try clear hfz11_4
              try clear hfz18_0
              try clear hfz18_1
              try clear hfz21_0
              try clear hfz21_1
              try clear hfz22_0
              try clear hfz22_1
              try clear hfz28_0
              try clear hfz28_1
              try clear hfz28_2
              try clear hfz28_3
              try clear hfz28_4
              try clear hfz35_0
              try clear hfz35_1
              try clear hfz38_0
              try clear hfz38_1
              try clear hfz39_0
              try clear hfz39_1
              try clear hfz41_0
              try clear hfz41_1
              try clear hfz47_0
              try clear hfz47_1
              try clear hfz50_0
              try clear hfz50_1
              try clear hfz58_0
              try clear hfz58_1
              try clear hfz62_0
              try clear hfz62_1
              try clear hfz66_0
              try clear hfz66_1
              try clear hfz71_0
              try clear hfz71_1
              try clear p2
              try clear p6
              try clear p64
              obtain ⟨x11_3, x12_3, x13_3, rfl, rfl, HA, HK3, HO_11, BK112, BK113, BK119, BK120, HB⟩ := hrel
              cases gk with
              | zero => exact absurd HA.out (by simp [punch_Bridge.l0])
              | succ k3 =>
               have H := HA.out
               clear HA
               simp only [punch_Bridge.l0] at H
               by_cases c72 : x13_3 ≥ 0
               · rw [if_pos c72] at H
                 have c72b0 : decide (0 ≤ x13_3) = true := decide_eq_true c72
                 clear c72
                 obtain ⟨y122, hy122⟩ : ∃ y_ : List Int, y_ = (([wrap64 ((wrap64 (a1_1 - x12_3)) - (wrap64 (x13_3 * (wrap64 (t114 + t116)))))] : List Int)) := ⟨_, rfl⟩
                 replace H : ((punch_least.f k3 t115 y122).bind fun t125 => (if x11_3.length < 8796093022208 then ((some (x11_3 ++ [(⟨x12_3, wrap64 (x12_3 + t125)⟩ : S47)] : List (S47))).bind fun y126 => (if x13_3 > 0 then ((punch_least.f k3 t117 (([wrap64 ((wrap64 ((wrap64 (a1_1 - (wrap64 (x12_3 + t125)))) - (wrap64 (x13_3 * t114)))) - (wrap64 ((wrap64 (x13_3 - 1)) * t116)))] : List Int))).bind fun t132 => (punch_Bridge.l0 k3 y126 (wrap64 ((wrap64 (x12_3 + t125)) + t132)) (wrap64 (x13_3 - 1)) a1_0 a1_1 t114 t115 t116 t117)) else (punch_Bridge.l0 k3 y126 (wrap64 (x12_3 + t125)) (wrap64 (x13_3 - 1)) a1_0 a1_1 t114 t115 t116 t117))) else (none))) = some (r1, r2) := by first | (rw [hy122]; with_reducible exact H) | (have H2_ := (Option.bind_some _ _).symm.trans H; rw [hy122]; with_reducible exact H2_) | (have H2_ := (Option.bind_some _ _).symm.trans H; with_reducible exact H2_) | with_reducible exact H | (rw [hy122]; exact H) | exact H
                 have Ny122 := Aside0.mk hy122
                 clear hy122
                 replace H := Option.bind_eq_some_iff.mp H
                 obtain ⟨t125, A730, H⟩ := H
                 replace H : (if x11_3.length < 8796093022208 then ((some (x11_3 ++ [(⟨x12_3, wrap64 (x12_3 + t125)⟩ : S47)] : List (S47))).bind fun y126 => (if x13_3 > 0 then ((punch_least.f k3 t117 (([wrap64 ((wrap64 ((wrap64 (a1_1 - (wrap64 (x12_3 + t125)))) - (wrap64 (x13_3 * t114)))) - (wrap64 ((wrap64 (x13_3 - 1)) * t116)))] : List Int))).bind fun t132 => (punch_Bridge.l0 k3 y126 (wrap64 ((wrap64 (x12_3 + t125)) + t132)) (wrap64 (x13_3 - 1)) a1_0 a1_1 t114 t115 t116 t117)) else (punch_Bridge.l0 k3 y126 (wrap64 (x12_3 + t125)) (wrap64 (x13_3 - 1)) a1_0 a1_1 t114 t115 t116 t117))) else (none)) = some (r1, r2) := H
                 have A73 := Aside0.mk A730
                 clear A730
                 by_cases c74 : x11_3.length < 8796093022208
                 · rw [if_pos c74] at H
                   have LMc74 := Aside0.mk c74
                   clear c74
                   obtain ⟨y126, hy126⟩ : ∃ y_ : List (S47), y_ = (x11_3 ++ [(⟨x12_3, wrap64 (x12_3 + t125)⟩ : S47)]) := ⟨_, rfl⟩
                   replace H : (if x13_3 > 0 then ((punch_least.f k3 t117 (([wrap64 ((wrap64 ((wrap64 (a1_1 - (wrap64 (x12_3 + t125)))) - (wrap64 (x13_3 * t114)))) - (wrap64 ((wrap64 (x13_3 - 1)) * t116)))] : List Int))).bind fun t132 => (punch_Bridge.l0 k3 y126 (wrap64 ((wrap64 (x12_3 + t125)) + t132)) (wrap64 (x13_3 - 1)) a1_0 a1_1 t114 t115 t116 t117)) else (punch_Bridge.l0 k3 y126 (wrap64 (x12_3 + t125)) (wrap64 (x13_3 - 1)) a1_0 a1_1 t114 t115 t116 t117)) = some (r1, r2) := by first | (rw [hy126]; with_reducible exact H) | (have H2_ := (Option.bind_some _ _).symm.trans H; rw [hy126]; with_reducible exact H2_) | (have H2_ := (Option.bind_some _ _).symm.trans H; with_reducible exact H2_) | with_reducible exact H | (rw [hy126]; exact H) | exact H
                   have Ny126 := Aside0.mk hy126
                   clear hy126
                   by_cases c75 : x13_3 > 0
                   · rw [if_pos c75] at H
                     have c75b0 : decide (0 < x13_3) = true := decide_eq_true c75
                     clear c75
                     obtain ⟨y129, hy129⟩ : ∃ y_ : List Int, y_ = (([wrap64 ((wrap64 ((wrap64 (a1_1 - (wrap64 (x12_3 + t125)))) - (wrap64 (x13_3 * t114)))) - (wrap64 ((wrap64 (x13_3 - 1)) * t116)))] : List Int)) := ⟨_, rfl⟩
                     replace H : ((punch_least.f k3 t117 y129).bind fun t132 => (punch_Bridge.l0 k3 y126 (wrap64 ((wrap64 (x12_3 + t125)) + t132)) (wrap64 (x13_3 - 1)) a1_0 a1_1 t114 t115 t116 t117)) = some (r1, r2) := by first | (rw [hy129]; with_reducible exact H) | (have H2_ := (Option.bind_some _ _).symm.trans H; rw [hy129]; with_reducible exact H2_) | (have H2_ := (Option.bind_some _ _).symm.trans H; with_reducible exact H2_) | with_reducible exact H | (rw [hy129]; exact H) | exact H
                     have Ny129 := Aside0.mk hy129
                     clear hy129
                     replace H := Option.bind_eq_some_iff.mp H
                     obtain ⟨t132, A760, H⟩ := H
                     replace H : (punch_Bridge.l0 k3 y126 (wrap64 ((wrap64 (x12_3 + t125)) + t132)) (wrap64 (x13_3 - 1)) a1_0 a1_1 t114 t115 t116 t117) = some (r1, r2) := H
                     have A76 := Aside0.mk A760
                     clear A760
                     have H' := Aside0.mk H
                     clear H
                     have hnb77 := NB119_112.out
                     have hnc77 := NB112_119.out
                     have hnb78 := NB119_113.out
                     have hnc78 := NB113_119.out
                     have hnb79 := NB119_120.out
                     have hnc79 := NB120_119.out
                     have hcz80_0 := bkc_ BK119 0 (.int .i64 t114) rfl
                     have hcz80_1 := bkc_ BK119 1 (.int .i64 t115) rfl
                     have hfz80_0 := blk_frozen BK119.out 0
                     have hfz80_1 := blk_frozen BK119.out 1
                     have hnb81 := NB113_112.out
                     have hnc81 := NB112_113.out
                     have hnb82 := NB113_120.out
                     have hnc82 := NB120_113.out
                     have hcz83_0 := bkc_ BK113 0 (.int .i64 a1_0) rfl
                     have hcz83_1 := bkc_ BK113 1 (.int .i64 a1_1) rfl
                     have hfz83_0 := blk_frozen BK113.out 0
                     have hfz83_1 := blk_frozen BK113.out 1
                     have hnb84 := NB120_112.out
                     have hnc84 := NB112_120.out
                     have hcz85_0 := bkc_ BK120 0 (.int .i64 t116) rfl
                     have hcz85_1 := bkc_ BK120 1 (.int .i64 t117) rfl
                     have hfz85_0 := blk_frozen BK120.out 0
                     have hfz85_1 := blk_frozen BK120.out 1
                     go_wp2_with (first | ((with_reducible refine gate_dst (N := 105) rfl ?_); refine Kd.R_lit (Kd.int .i64) _ 3 ?hg (N := 105) ?hd (xs := ([wrap64 ((wrap64 (a1_1 - x12_3)) - (wrap64 (x13_3 * (wrap64 (t114 + t116)))))] : List Int)) (inner := [.int .i64 (wrap64 ((wrap64 (a1_1 - x12_3)) - (wrap64 (x13_3 * (wrap64 (t114 + t116))))))]) (ok := fun _ => True) (okp := fun _ => True) ?hr ?hp (fun _ hk => hk) trivial (Below.refl _ _) (Nat.le_refl _) (by simp) ?_; (case hd => rfl); (case hg => rfl); (case hr => first | (go_simp; done) | (go_simp; rfl)); (case hp => exact (Reps.one (show Kd.M (Kd.int .i64) _ _ _ (wrap64 ((wrap64 (a1_1 - x12_3)) - (wrap64 (x13_3 * (wrap64 (t114 + t116)))))) [.int .i64 (wrap64 ((wrap64 (a1_1 - x12_3)) - (wrap64 (x13_3 * (wrap64 (t114 + t116))))))] from rfl) (Reps.none _ _))); intro v123 w86 ho87 hb hg_ hnew_; clear hg_ hnew_; (first | rw [← Ny122.out] at ho87 | (simp only [Int.reduceToNat] at ho87; rw [← Ny122.out] at ho87)); have n0_ := Aside0.mk (Kd.R_below (by (with_reducible repeat (first | apply Kd.R_alloc | apply Kd.R_drewN | apply Kd.R_drew)); exact HO_11.out) hb); have n1_ := Aside0.mk (Kd.R_lower ho87 (below_size (blx_ HB).out)); have n2_ := bkb_ BK112 hb; have n3_ := bkb_ BK113 hb; have n4_ := bkb_ BK119 hb; have n5_ := bkb_ BK120 hb; have n6_ := bls_ HB hb; clear HO_11; clear BK112; clear BK113; clear BK119; clear BK120; clear HB; have HO_11 := n0_; have HO124 := n1_; have BK112 := n2_; have BK113 := n3_; have BK119 := n4_; have BK120 := n5_; have HB := n6_; clear n0_ n1_ n2_ n3_ n4_ n5_ n6_; clear hb ho87; obtain ⟨Ao88, co88, eo88⟩ := Kd.R_slice HO124.out; subst eo88) | ((with_reducible refine gate_callee (f := 74) rfl ?_); refine goesL_ (some 106) rfl rfl Try.func74 (by kernel_rfl) rfl #[.int .i64 t115, .slice Ao88 y122.length co88] rfl (by (try simp only [List.map_toArray, List.map_cons, List.map_nil]); first | done | rfl | (simp only [List.length_drop, List.length_take]; rfl)) ?_; (with_reducible refine (punch_least.calls k3 t115 _ _ y122 t125 _ ?side1 ?side2 A73.out).mono ?_); (case side1 => repeat (first | exact (Kd.R_reads' HO124.out).2.2 | (with_reducible refine Kd.C_alloc ?_ _) | (with_reducible refine Kd.C_drewN ?_ _) | (with_reducible refine Kd.C_drew ?_))); (case side2 => exact (Kd.R_reads' HO124.out).2.1); rintro e w89 ⟨rfl, hb⟩; refine ⟨_, rfl, ?_⟩; have n0_ := Aside0.mk (Kd.R_below (by (with_reducible repeat (first | apply Kd.R_alloc | apply Kd.R_drewN | apply Kd.R_drew)); exact HO_11.out) hb); have n1_ := Aside0.mk (Kd.R_below (by (with_reducible repeat (first | apply Kd.R_alloc | apply Kd.R_drewN | apply Kd.R_drew)); exact HO124.out) hb); have n2_ := bkb_ BK112 hb; have n3_ := bkb_ BK113 hb; have n4_ := bkb_ BK119 hb; have n5_ := bkb_ BK120 hb; have n6_ := bls_ HB hb; clear HO_11; clear HO124; clear BK112; clear BK113; clear BK119; clear BK120; clear HB; have HO_11 := n0_; have HO124 := n1_; have BK112 := n2_; have BK113 := n3_; have BK119 := n4_; have BK120 := n5_; have HB := n6_; clear n0_ n1_ n2_ n3_ n4_ n5_ n6_; (try clear hb); (try clear hb2); (try clear hk); (try clear hi)) | ((with_reducible refine gate_builtin (b := .append) (xs := #[.tmp 107, .tmp 113]) rfl ?_); at_builtin; refine Kd.R_append k47 (w0 := w) w.heap.size rfl (.tmp 107) (.tmp 113) 22 47 (.agg #[(.int .i64 0), (.int .i64 0)]) 16 rfl Try.underlying22 info47 rfl (by decide) (by omega) u11 x11_3 (⟨x12_3, wrap64 (x12_3 + t125)⟩ : S47) [.int .i64 x12_3, .int .i64 (wrap64 (x12_3 + t125))] (fun k_ => k_ ≠ gb113) (fun _ => False) rfl rfl ?aP (fun _ hk => hk.elim) ?aF ?aO ?aB ?aS ?aL ?_; (case aP => exact k47_mkM _ _ _ (⟨x12_3, wrap64 (x12_3 + t125)⟩ : S47)); (case aB => exact (blx_ HB).out); (case aF => exact (fun k_ hk => Kd.freshB (g := gb113) (o := .cells #[.int .i64 a1_0, .int .i64 a1_1] 47 (0, 0)) (bkx_ BK113).out k_ hk)); (case aO => exact (by (with_reducible repeat (first | apply Kd.R_alloc | apply Kd.R_drewN | apply Kd.R_drew)); exact HO_11.out)); (case aS => exact (below_size (blx_ HB).out)); (case aL => have := LMc74.out; omega); intro v127 w90 ho hb hg hat; rw [← Ny126.out] at ho; have n0_ := Aside0.mk (blk_grown (g := gb112) (o := .cells #[.int .i64 a0_0, .int .i64 a0_1, .int .i64 a0_2, .int .i64 a0_3, .int .i64 a0_4] 57 (0, 0)) (bkx_ BK112).out hg (Kd.R_ne HO_11.out BK112.out (by decide))); have n1_ := Aside0.mk (blk_grown (g := gb113) (o := .cells #[.int .i64 a1_0, .int .i64 a1_1] 47 (0, 0)) (bkx_ BK113).out hg (Kd.R_away HO_11.out (fun _ hk => hk))); have n2_ := Aside0.mk (blk_grown (g := gb119) (o := .cells #[.int .i64 t114, .int .i64 t115] 55 (0, 0)) (bkx_ BK119).out hg (Kd.R_ne HO_11.out BK119.out (by decide))); have n3_ := Aside0.mk (blk_grown (g := gb120) (o := .cells #[.int .i64 t116, .int .i64 t117] 55 (0, 0)) (bkx_ BK120).out hg (Kd.R_ne HO_11.out BK120.out (by decide))); have n4_ := Aside0.mk (Kd.R_over' (by (with_reducible repeat (first | apply Kd.R_alloc | apply Kd.R_drewN | apply Kd.R_drew)); exact HO124.out) (Kd.R_typed (by (with_reducible repeat (first | apply Kd.R_alloc | apply Kd.R_drewN | apply Kd.R_drew)); exact HO_11.out)) (by decide) hg); have n5_ := Aside0.mk (hb); have n6_ := Aside0.mk (ho); clear BK112; clear BK113; clear BK119; clear BK120; clear HO124; clear HB; clear HO_11; have BK112 := n0_; have BK113 := n1_; have BK119 := n2_; have BK120 := n3_; have HO124 := n4_; have HB := n5_; have HO128 := n6_; clear n0_ n1_ n2_ n3_ n4_ n5_ n6_; clear ho hb hg hat; have hcz91_0 := bkc_ BK120 0 (.int .i64 t116) rfl; have hcz91_1 := bkc_ BK120 1 (.int .i64 t117) rfl; have hfz91_0 := blk_frozen BK120.out 0; have hfz91_1 := blk_frozen BK120.out 1; have hcz92_0 := bkc_ BK113 0 (.int .i64 a1_0) rfl; have hcz92_1 := bkc_ BK113 1 (.int .i64 a1_1) rfl; have hfz92_0 := blk_frozen BK113.out 0; have hfz92_1 := blk_frozen BK113.out 1; have hcz93_0 := bkc_ BK119 0 (.int .i64 t114) rfl; have hcz93_1 := bkc_ BK119 1 (.int .i64 t115) rfl; have hfz93_0 := blk_frozen BK119.out 0; have hfz93_1 := blk_frozen BK119.out 1) | ((with_reducible refine gate_dst (N := 138) rfl ?_); refine Kd.R_lit (Kd.int .i64) _ 3 ?hg (N := 138) ?hd (xs := ([wrap64 ((wrap64 ((wrap64 (a1_1 - (wrap64 (x12_3 + t125)))) - (wrap64 (x13_3 * t114)))) - (wrap64 ((wrap64 (x13_3 - 1)) * t116)))] : List Int)) (inner := [.int .i64 (wrap64 ((wrap64 ((wrap64 (a1_1 - (wrap64 (x12_3 + t125)))) - (wrap64 (x13_3 * t114)))) - (wrap64 ((wrap64 (x13_3 - 1)) * t116))))]) (ok := fun _ => True) (okp := fun _ => True) ?hr ?hp (fun _ hk => hk) trivial (Below.refl _ _) (Nat.le_refl _) (by simp) ?_; (case hd => rfl); (case hg => rfl); (case hr => first | (go_simp; done) | (go_simp; rfl)); (case hp => exact (Reps.one (show Kd.M (Kd.int .i64) _ _ _ (wrap64 ((wrap64 ((wrap64 (a1_1 - (wrap64 (x12_3 + t125)))) - (wrap64 (x13_3 * t114)))) - (wrap64 ((wrap64 (x13_3 - 1)) * t116)))) [.int .i64 (wrap64 ((wrap64 ((wrap64 (a1_1 - (wrap64 (x12_3 + t125)))) - (wrap64 (x13_3 * t114)))) - (wrap64 ((wrap64 (x13_3 - 1)) * t116))))] from rfl) (Reps.none _ _))); intro v130 w94 ho95 hb hg_ hnew_; clear hg_ hnew_; (first | rw [← Ny129.out] at ho95 | (simp only [Int.reduceToNat] at ho95; rw [← Ny129.out] at ho95)); have n0_ := Aside0.mk (Kd.R_elder' (by (with_reducible repeat (first | apply Kd.R_alloc | apply Kd.R_drewN | apply Kd.R_drew)); exact HO124.out) (Kd.R_base ho95) hb); have n1_ := Aside0.mk (Kd.R_below (by (with_reducible repeat (first | apply Kd.R_alloc | apply Kd.R_drewN | apply Kd.R_drew)); exact HO128.out) hb); have n2_ := Aside0.mk (Kd.R_lower (Kd.R_new' ho95 (Kd.R_lt (by (with_reducible repeat (first | apply Kd.R_alloc | apply Kd.R_drewN | apply Kd.R_drew)); exact HO124.out))) (below_size (blx_ HB).out)); have n3_ := bkb_ BK112 hb; have n4_ := bkb_ BK113 hb; have n5_ := bkb_ BK119 hb; have n6_ := bkb_ BK120 hb; have n7_ := bls_ HB hb; clear HO124; clear HO128; clear BK112; clear BK113; clear BK119; clear BK120; clear HB; have HO124 := n0_; have HO128 := n1_; have HO131 := n2_; have BK112 := n3_; have BK113 := n4_; have BK119 := n5_; have BK120 := n6_; have HB := n7_; clear n0_ n1_ n2_ n3_ n4_ n5_ n6_ n7_; clear hb ho95; obtain ⟨Ao96, co96, eo96⟩ := Kd.R_slice HO131.out; subst eo96) | ((with_reducible refine gate_callee (f := 74) rfl ?_); refine goesL_ (some 139) rfl rfl Try.func74 (by kernel_rfl) rfl #[.int .i64 t117, .slice Ao96 y129.length co96] rfl (by (try simp only [List.map_toArray, List.map_cons, List.map_nil]); first | done | rfl | (simp only [List.length_drop, List.length_take]; rfl)) ?_; (with_reducible refine (punch_least.calls k3 t117 _ _ y129 t132 _ ?side1 ?side2 A76.out).mono ?_); (case side1 => repeat (first | exact (Kd.R_reads' HO131.out).2.2 | (with_reducible refine Kd.C_alloc ?_ _) | (with_reducible refine Kd.C_drewN ?_ _) | (with_reducible refine Kd.C_drew ?_))); (case side2 => exact (Kd.R_reads' HO131.out).2.1); rintro e w97 ⟨rfl, hb⟩; refine ⟨_, rfl, ?_⟩; have n0_ := Aside0.mk (Kd.R_below (by (with_reducible repeat (first | apply Kd.R_alloc | apply Kd.R_drewN | apply Kd.R_drew)); exact HO124.out) hb); have n1_ := Aside0.mk (Kd.R_below (by (with_reducible repeat (first | apply Kd.R_alloc | apply Kd.R_drewN | apply Kd.R_drew)); exact HO128.out) hb); have n2_ := Aside0.mk (Kd.R_below (by (with_reducible repeat (first | apply Kd.R_alloc | apply Kd.R_drewN | apply Kd.R_drew)); exact HO131.out) hb); have n3_ := bkb_ BK112 hb; have n4_ := bkb_ BK113 hb; have n5_ := bkb_ BK119 hb; have n6_ := bkb_ BK120 hb; have n7_ := bls_ HB hb; clear HO124; clear HO128; clear HO131; clear BK112; clear BK113; clear BK119; clear BK120; clear HB; have HO124 := n0_; have HO128 := n1_; have HO131 := n2_; have BK112 := n3_; have BK113 := n4_; have BK119 := n5_; have BK120 := n6_; have HB := n7_; clear n0_ n1_ n2_ n3_ n4_ n5_ n6_ n7_; (try clear hb); (try clear hb2); (try clear hk); (try clear hi)))
                     go_roundg k3
                     case measure => have := HJ23.out; have := HJ50.out; have := HK3.out; omega
                     case rel => exact ⟨(y126), (wrap64 ((wrap64 (x12_3 + t125)) + t132)), (wrap64 (x13_3 - 1)), (by first | rfl | (simp; done) | (simp [*]; done)), (by first | rfl | (simp; done) | (simp [*]; done)), H', ⟨by have := HJ23.out; have := HJ50.out; have := HK3.out; omega⟩, ⟨by (with_reducible repeat (first | apply Kd.R_alloc | apply Kd.R_drewN | apply Kd.R_drew)); exact HO128.out⟩, bkx_ BK112, bkx_ BK113, bkx_ BK119, bkx_ BK120, blx_ HB⟩
                   · rw [if_neg c75] at H
                     have c75b0 : decide (0 < x13_3) = false := decide_eq_false c75
                     clear c75
                     have H' := Aside0.mk H
                     clear H
                     have hnb98 := NB119_112.out
                     have hnc98 := NB112_119.out
                     have hnb99 := NB119_113.out
                     have hnc99 := NB113_119.out
                     have hnb100 := NB119_120.out
                     have hnc100 := NB120_119.out
                     have hcz101_0 := bkc_ BK119 0 (.int .i64 t114) rfl
                     have hcz101_1 := bkc_ BK119 1 (.int .i64 t115) rfl
                     have hfz101_0 := blk_frozen BK119.out 0
                     have hfz101_1 := blk_frozen BK119.out 1
                     have hnb102 := NB113_112.out
                     have hnc102 := NB112_113.out
                     have hnb103 := NB113_120.out
                     have hnc103 := NB120_113.out
                     have hcz104_0 := bkc_ BK113 0 (.int .i64 a1_0) rfl
                     have hcz104_1 := bkc_ BK113 1 (.int .i64 a1_1) rfl
                     have hfz104_0 := blk_frozen BK113.out 0
                     have hfz104_1 := blk_frozen BK113.out 1
                     have hnb105 := NB120_112.out
                     have hnc105 := NB112_120.out
                     have hcz106_0 := bkc_ BK120 0 (.int .i64 t116) rfl
                     have hcz106_1 := bkc_ BK120 1 (.int .i64 t117) rfl
                     have hfz106_0 := blk_frozen BK120.out 0
                     have hfz106_1 := blk_frozen BK120.out 1
                     go_wp2_with (first | ((with_reducible refine gate_dst (N := 105) rfl ?_); refine Kd.R_lit (Kd.int .i64) _ 3 ?hg (N := 105) ?hd (xs := ([wrap64 ((wrap64 (a1_1 - x12_3)) - (wrap64 (x13_3 * (wrap64 (t114 + t116)))))] : List Int)) (inner := [.int .i64 (wrap64 ((wrap64 (a1_1 - x12_3)) - (wrap64 (x13_3 * (wrap64 (t114 + t116))))))]) (ok := fun _ => True) (okp := fun _ => True) ?hr ?hp (fun _ hk => hk) trivial (Below.refl _ _) (Nat.le_refl _) (by simp) ?_; (case hd => rfl); (case hg => rfl); (case hr => first | (go_simp; done) | (go_simp; rfl)); (case hp => exact (Reps.one (show Kd.M (Kd.int .i64) _ _ _ (wrap64 ((wrap64 (a1_1 - x12_3)) - (wrap64 (x13_3 * (wrap64 (t114 + t116)))))) [.int .i64 (wrap64 ((wrap64 (a1_1 - x12_3)) - (wrap64 (x13_3 * (wrap64 (t114 + t116))))))] from rfl) (Reps.none _ _))); intro v123 w107 ho108 hb hg_ hnew_; clear hg_ hnew_; (first | rw [← Ny122.out] at ho108 | (simp only [Int.reduceToNat] at ho108; rw [← Ny122.out] at ho108)); have n0_ := Aside0.mk (Kd.R_below (by (with_reducible repeat (first | apply Kd.R_alloc | apply Kd.R_drewN | apply Kd.R_drew)); exact HO_11.out) hb); have n1_ := Aside0.mk (Kd.R_lower ho108 (below_size (blx_ HB).out)); have n2_ := bkb_ BK112 hb; have n3_ := bkb_ BK113 hb; have n4_ := bkb_ BK119 hb; have n5_ := bkb_ BK120 hb; have n6_ := bls_ HB hb; clear HO_11; clear BK112; clear BK113; clear BK119; clear BK120; clear HB; have HO_11 := n0_; have HO124 := n1_; have BK112 := n2_; have BK113 := n3_; have BK119 := n4_; have BK120 := n5_; have HB := n6_; clear n0_ n1_ n2_ n3_ n4_ n5_ n6_; clear hb ho108; obtain ⟨Ao109, co109, eo109⟩ := Kd.R_slice HO124.out; subst eo109) | ((with_reducible refine gate_callee (f := 74) rfl ?_); refine goesL_ (some 106) rfl rfl Try.func74 (by kernel_rfl) rfl #[.int .i64 t115, .slice Ao109 y122.length co109] rfl (by (try simp only [List.map_toArray, List.map_cons, List.map_nil]); first | done | rfl | (simp only [List.length_drop, List.length_take]; rfl)) ?_; (with_reducible refine (punch_least.calls k3 t115 _ _ y122 t125 _ ?side1 ?side2 A73.out).mono ?_); (case side1 => repeat (first | exact (Kd.R_reads' HO124.out).2.2 | (with_reducible refine Kd.C_alloc ?_ _) | (with_reducible refine Kd.C_drewN ?_ _) | (with_reducible refine Kd.C_drew ?_))); (case side2 => exact (Kd.R_reads' HO124.out).2.1); rintro e w110 ⟨rfl, hb⟩; refine ⟨_, rfl, ?_⟩; have n0_ := Aside0.mk (Kd.R_below (by (with_reducible repeat (first | apply Kd.R_alloc | apply Kd.R_drewN | apply Kd.R_drew)); exact HO_11.out) hb); have n1_ := Aside0.mk (Kd.R_below (by (with_reducible repeat (first | apply Kd.R_alloc | apply Kd.R_drewN | apply Kd.R_drew)); exact HO124.out) hb); have n2_ := bkb_ BK112 hb; have n3_ := bkb_ BK113 hb; have n4_ := bkb_ BK119 hb; have n5_ := bkb_ BK120 hb; have n6_ := bls_ HB hb; clear HO_11; clear HO124; clear BK112; clear BK113; clear BK119; clear BK120; clear HB; have HO_11 := n0_; have HO124 := n1_; have BK112 := n2_; have BK113 := n3_; have BK119 := n4_; have BK120 := n5_; have HB := n6_; clear n0_ n1_ n2_ n3_ n4_ n5_ n6_; (try clear hb); (try clear hb2); (try clear hk); (try clear hi)) | ((with_reducible refine gate_builtin (b := .append) (xs := #[.tmp 107, .tmp 113]) rfl ?_); at_builtin; refine Kd.R_append k47 (w0 := w) w.heap.size rfl (.tmp 107) (.tmp 113) 22 47 (.agg #[(.int .i64 0), (.int .i64 0)]) 16 rfl Try.underlying22 info47 rfl (by decide) (by omega) u11 x11_3 (⟨x12_3, wrap64 (x12_3 + t125)⟩ : S47) [.int .i64 x12_3, .int .i64 (wrap64 (x12_3 + t125))] (fun k_ => k_ ≠ gb113) (fun _ => False) rfl rfl ?aP (fun _ hk => hk.elim) ?aF ?aO ?aB ?aS ?aL ?_; (case aP => exact k47_mkM _ _ _ (⟨x12_3, wrap64 (x12_3 + t125)⟩ : S47)); (case aB => exact (blx_ HB).out); (case aF => exact (fun k_ hk => Kd.freshB (g := gb113) (o := .cells #[.int .i64 a1_0, .int .i64 a1_1] 47 (0, 0)) (bkx_ BK113).out k_ hk)); (case aO => exact (by (with_reducible repeat (first | apply Kd.R_alloc | apply Kd.R_drewN | apply Kd.R_drew)); exact HO_11.out)); (case aS => exact (below_size (blx_ HB).out)); (case aL => have := LMc74.out; omega); intro v127 w111 ho hb hg hat; rw [← Ny126.out] at ho; have n0_ := Aside0.mk (blk_grown (g := gb112) (o := .cells #[.int .i64 a0_0, .int .i64 a0_1, .int .i64 a0_2, .int .i64 a0_3, .int .i64 a0_4] 57 (0, 0)) (bkx_ BK112).out hg (Kd.R_ne HO_11.out BK112.out (by decide))); have n1_ := Aside0.mk (blk_grown (g := gb113) (o := .cells #[.int .i64 a1_0, .int .i64 a1_1] 47 (0, 0)) (bkx_ BK113).out hg (Kd.R_away HO_11.out (fun _ hk => hk))); have n2_ := Aside0.mk (blk_grown (g := gb119) (o := .cells #[.int .i64 t114, .int .i64 t115] 55 (0, 0)) (bkx_ BK119).out hg (Kd.R_ne HO_11.out BK119.out (by decide))); have n3_ := Aside0.mk (blk_grown (g := gb120) (o := .cells #[.int .i64 t116, .int .i64 t117] 55 (0, 0)) (bkx_ BK120).out hg (Kd.R_ne HO_11.out BK120.out (by decide))); have n4_ := Aside0.mk (Kd.R_over' (by (with_reducible repeat (first | apply Kd.R_alloc | apply Kd.R_drewN | apply Kd.R_drew)); exact HO124.out) (Kd.R_typed (by (with_reducible repeat (first | apply Kd.R_alloc | apply Kd.R_drewN | apply Kd.R_drew)); exact HO_11.out)) (by decide) hg); have n5_ := Aside0.mk (hb); have n6_ := Aside0.mk (ho); clear BK112; clear BK113; clear BK119; clear BK120; clear HO124; clear HB; clear HO_11; have BK112 := n0_; have BK113 := n1_; have BK119 := n2_; have BK120 := n3_; have HO124 := n4_; have HB := n5_; have HO128 := n6_; clear n0_ n1_ n2_ n3_ n4_ n5_ n6_; clear ho hb hg hat))
                     go_roundg k3
                     case measure => have := HJ23.out; have := HJ50.out; have := HK3.out; omega
                     case rel => exact ⟨(y126), (wrap64 (x12_3 + t125)), (wrap64 (x13_3 - 1)), (by first | rfl | (simp; done) | (simp [*]; done)), (by first | rfl | (simp; done) | (simp [*]; done)), H', ⟨by have := HJ23.out; have := HJ50.out; have := HK3.out; omega⟩, ⟨by (with_reducible repeat (first | apply Kd.R_alloc | apply Kd.R_drewN | apply Kd.R_drew)); exact HO128.out⟩, bkx_ BK112, bkx_ BK113, bkx_ BK119, bkx_ BK120, blx_ HB⟩
                 · rw [if_neg c74] at H
                   exact absurd H (by simp)
               · rw [if_neg c72] at H
                 have c72b0 : decide (0 ≤ x13_3) = false := decide_eq_false c72
                 clear c72
                 simp only [Option.some.injEq, Prod.mk.injEq] at H
                 obtain ⟨rfl, rfl⟩ := H
                 go_wp2
                 go_ret2
                 exact ⟨_, by first | rfl | (simp [errW_none, errW_some] <;> rfl) | (simp [*, errW_none, errW_some] <;> rfl), by (with_reducible repeat (first | apply Kd.R_alloc | apply Kd.R_drewN | apply Kd.R_drew)); exact Kd.R_mono HO_11.out (fun _ hk => trivial), by repeat (first | (with_reducible first | exact HB.out | apply below_alloc | apply pw_below_drewN | apply below_drew1 | refine below_set ?_ GE112.out | refine below_set ?_ GE113.out | refine below_set ?_ GE119.out | refine below_set ?_ GE120.out) | exact HB.out)⟩
   · replace c6 := Bool.eq_false_iff.mpr c6
     subst c6
     have H1 : (some (([] : List (S47)), 3)) = some (r1, r2) := by rw [if_neg (show ¬ (false = true) by decide)] at H; exact H
     clear H
     have H := H1
     clear H1
     simp only [Option.some.injEq, Prod.mk.injEq] at H
     obtain ⟨rfl, rfl⟩ := H
     go_enter Try.func32, Try.ntmps32
     go_wp2_with (first | ((with_reducible refine gate_dst (N := 2) rfl ?_); refine box_event ?hg (N := 2) ?hd (cs := #[.int .i64 a0_0, .int .i64 a0_1, .int .i64 a0_2, .int .i64 a0_3, .int .i64 a0_4]) (t := 57) ?hr ?_; (case hd => rfl); (case hg => rfl); (case hr => first | (go_simp; done) | (go_simp; rfl)); intro gb112 hg w112 hbox hb; have BK112 := Aside0.mk (hbox); have GW112 := bgw_ HB hg; have GE112 := bgw_ HB hg; replace HB := bls_ HB hb; clear hb hbox hg) | ((with_reducible refine gate_dst (N := 3) rfl ?_); refine box_event ?hg (N := 3) ?hd (cs := #[.int .i64 a1_0, .int .i64 a1_1]) (t := 47) ?hr ?_; (case hd => rfl); (case hg => rfl); (case hr => first | (go_simp; done) | (go_simp; rfl)); intro gb113 hg w113 hbox hb; have BK113 := Aside0.mk (hbox); have GW113 := bgw_ HB hg; have GE113 := bgw_ HB hg; have NB112_113 := bnl_ BK112 hg; have NB113_112 := bng_ BK112 hg; replace BK112 := bkb_ BK112 hb; replace HB := bls_ HB hb; clear hb hbox hg; have hnb114 := NB112_113.out; have hnc114 := NB113_112.out; have hcz115_0 := bkc_ BK112 0 (.int .i64 a0_0) rfl; have hcz115_1 := bkc_ BK112 1 (.int .i64 a0_1) rfl; have hcz115_2 := bkc_ BK112 2 (.int .i64 a0_2) rfl; have hcz115_3 := bkc_ BK112 3 (.int .i64 a0_3) rfl; have hcz115_4 := bkc_ BK112 4 (.int .i64 a0_4) rfl; have hfz115_0 := blk_frozen BK112.out 0; have hfz115_1 := blk_frozen BK112.out 1; have hfz115_2 := blk_frozen BK112.out 2; have hfz115_3 := blk_frozen BK112.out 3; have hfz115_4 := blk_frozen BK112.out 4) | ((with_reducible refine gate_callee (f := 30) rfl ?_); refine goesL_ (some 17) rfl rfl Try.func30 (by kernel_rfl) rfl #[.agg #[.int .i64 a0_0, .int .i64 a0_1, .int .i64 a0_2, .int .i64 a0_3, .int .i64 a0_4]] rfl (by (try simp only [List.map_toArray, List.map_cons, List.map_nil]); first | done | rfl | (simp only [List.length_drop, List.length_take]; rfl)) ?_; (with_reducible refine (punch_Bars.calls a0_0 a0_1 a0_2 a0_3 a0_4 t114 t115 t116 t117 t118 _ A3.out).mono ?_); rintro e w116 ⟨rfl, hb⟩; refine ⟨_, rfl, ?_⟩; replace BK112 := bkb_ BK112 hb; replace BK113 := bkb_ BK113 hb; replace HB := bls_ HB hb; (try clear hb); (try clear hb2); (try clear hk); (try clear hi)) | ((with_reducible refine gate_dst (N := 6) rfl ?_); refine box_event ?hg (N := 6) ?hd (cs := #[.int .i64 0, .int .i64 0]) (t := 55) ?hr ?_; (case hd => rfl); (case hg => rfl); (case hr => first | (go_simp; done) | (go_simp; rfl)); intro gb119 hg w117 hbox hb; have BK119 := Aside0.mk (hbox); have GW119 := bgw_ HB hg; have GE119 := bgw_ HB hg; have NB112_119 := bnl_ BK112 hg; have NB119_112 := bng_ BK112 hg; have NB113_119 := bnl_ BK113 hg; have NB119_113 := bng_ BK113 hg; replace BK112 := bkb_ BK112 hb; replace BK113 := bkb_ BK113 hb; replace HB := bls_ HB hb; clear hb hbox hg) | ((with_reducible refine gate_dst (N := 7) rfl ?_); refine box_event ?hg (N := 7) ?hd (cs := #[.int .i64 0, .int .i64 0]) (t := 55) ?hr ?_; (case hd => rfl); (case hg => rfl); (case hr => first | (go_simp; done) | (go_simp; rfl)); intro gb120 hg w118 hbox hb; have BK120 := Aside0.mk (hbox); have GW120 := bgw_ HB hg; have GE120 := bgw_ HB hg; have NB112_120 := bnl_ BK112 hg; have NB120_112 := bng_ BK112 hg; have NB113_120 := bnl_ BK113 hg; have NB120_113 := bng_ BK113 hg; have NB119_120 := bnl_ BK119 hg; have NB120_119 := bng_ BK119 hg; replace BK112 := bkb_ BK112 hb; replace BK113 := bkb_ BK113 hb; replace BK119 := bkb_ BK119 hb; replace HB := bls_ HB hb; clear hb hbox hg; have hnb119 := NB119_112.out; have hnc119 := NB112_119.out; have hnb120 := NB119_113.out; have hnc120 := NB113_119.out; have hnb121 := NB119_120.out; have hnc121 := NB120_119.out; have hcz122_0 := bkc_ BK119 0 (.int .i64 0) rfl; have hcz122_1 := bkc_ BK119 1 (.int .i64 0) rfl; have hfz122_0 := blk_frozen BK119.out 0; have hfz122_1 := blk_frozen BK119.out 1; have hnb123 := NB120_112.out; have hnc123 := NB112_120.out; have hnb124 := NB120_113.out; have hnc124 := NB113_120.out; have hcz125_0 := bkc_ BK120 0 (.int .i64 0) rfl; have hcz125_1 := bkc_ BK120 1 (.int .i64 0) rfl; have hfz125_0 := blk_frozen BK120.out 0; have hfz125_1 := blk_frozen BK120.out 1; have hcz126_0 := bkc_ BK113 0 (.int .i64 a1_0) rfl; have hcz126_1 := bkc_ BK113 1 (.int .i64 a1_1) rfl; have hfz126_0 := blk_frozen BK113.out 0; have hfz126_1 := blk_frozen BK113.out 1) | ((with_reducible refine gate_callee (f := 54) rfl ?_); refine goesL_ (some 32) rfl rfl Try.func54 (by kernel_rfl) rfl #[.agg #[.int .i64 a1_0, .int .i64 a1_1]] rfl (by (try simp only [List.map_toArray, List.map_cons, List.map_nil]); first | done | rfl | (simp only [List.length_drop, List.length_take]; rfl)) ?_; (with_reducible refine (punch_Slot_good.calls a1_0 a1_1 false _ A5.out).mono ?_); rintro e w127 ⟨rfl, hb⟩; refine ⟨_, rfl, ?_⟩; have n0_ := bkb_ BK112 hb; have n1_ := bkb_ BK113 hb; have n2_ := Aside0.mk (blk_below (g := gb119) (o := .cells #[.int .i64 t114, .int .i64 t115] 55 (0, 0)) (by (with_reducible repeat (first | refine blk_drewN ?_ _ | refine blk_drew ?_ | refine blk_alloc ?_ _)); refine blk_far ?_ NB119_120.out _; (with_reducible repeat (first | refine blk_drewN ?_ _ | refine blk_drew ?_ | refine blk_alloc ?_ _)); refine blk_far ?_ NB119_120.out _; (with_reducible repeat (first | refine blk_drewN ?_ _ | refine blk_drew ?_ | refine blk_alloc ?_ _)); refine blk_put (cs := #[.int .i64 t114, .int .i64 0]) ?_ 1 _ rfl; (with_reducible repeat (first | refine blk_drewN ?_ _ | refine blk_drew ?_ | refine blk_alloc ?_ _)); refine blk_put (cs := #[.int .i64 0, .int .i64 0]) ?_ 0 _ rfl; (with_reducible repeat (first | refine blk_drewN ?_ _ | refine blk_drew ?_ | refine blk_alloc ?_ _)); exact BK119.out) hb); have n3_ := Aside0.mk (blk_below (g := gb120) (o := .cells #[.int .i64 t116, .int .i64 t117] 55 (0, 0)) (by (with_reducible repeat (first | refine blk_drewN ?_ _ | refine blk_drew ?_ | refine blk_alloc ?_ _)); refine blk_put (cs := #[.int .i64 t116, .int .i64 0]) ?_ 1 _ rfl; (with_reducible repeat (first | refine blk_drewN ?_ _ | refine blk_drew ?_ | refine blk_alloc ?_ _)); refine blk_put (cs := #[.int .i64 0, .int .i64 0]) ?_ 0 _ rfl; (with_reducible repeat (first | refine blk_drewN ?_ _ | refine blk_drew ?_ | refine blk_alloc ?_ _)); refine blk_far ?_ NB120_119.out _; (with_reducible repeat (first | refine blk_drewN ?_ _ | refine blk_drew ?_ | refine blk_alloc ?_ _)); refine blk_far ?_ NB120_119.out _; (with_reducible repeat (first | refine blk_drewN ?_ _ | refine blk_drew ?_ | refine blk_alloc ?_ _)); exact BK120.out) hb); have n4_ := bls_ HB hb; clear BK112; clear BK113; clear BK119; clear BK120; clear HB; have BK112 := n0_; have BK113 := n1_; have BK119 := n2_; have BK120 := n3_; have HB := n4_; clear n0_ n1_ n2_ n3_ n4_; (try clear hb); (try clear hb2); (try clear hk); (try clear hi)))
     go_ret2
     exact ⟨_, by first | rfl | (simp [errW_none, errW_some] <;> rfl) | (simp [*, errW_none, errW_some] <;> rfl), by first | exact Kd.R_nil _ _ _ _ _ | exact Kd.N_nil _ _ _ _ _ | exact Kd.V_nil _ _ _ _ _ | exact Kd.Q_nil _ _ _ _ _ | exact Kd.S_nil _ _ _ _ _, by repeat (first | (with_reducible first | exact HB.out | apply below_alloc | apply pw_below_drewN | apply below_drew1 | refine below_set ?_ GE112.out | refine below_set ?_ GE113.out | refine below_set ?_ GE119.out | refine below_set ?_ GE120.out) | exact HB.out)⟩
 · rw [if_neg c4] at H
   have c4b0 : (t118 == 0) = false := beq_eq_false_iff_ne.mpr c4
   have c4b1 : (t118 != 0) = true := bne_iff_ne.mpr c4
   simp only [Option.some.injEq, Prod.mk.injEq] at H
   obtain ⟨rfl, rfl⟩ := H
   go_enter Try.func32, Try.ntmps32
   go_wp2_with (first | ((with_reducible refine gate_dst (N := 2) rfl ?_); refine box_event ?hg (N := 2) ?hd (cs := #[.int .i64 a0_0, .int .i64 a0_1, .int .i64 a0_2, .int .i64 a0_3, .int .i64 a0_4]) (t := 57) ?hr ?_; (case hd => rfl); (case hg => rfl); (case hr => first | (go_simp; done) | (go_simp; rfl)); intro gb112 hg w128 hbox hb; have BK112 := Aside0.mk (hbox); have GW112 := bgw_ HB hg; have GE112 := bgw_ HB hg; replace HB := bls_ HB hb; clear hb hbox hg) | ((with_reducible refine gate_dst (N := 3) rfl ?_); refine box_event ?hg (N := 3) ?hd (cs := #[.int .i64 a1_0, .int .i64 a1_1]) (t := 47) ?hr ?_; (case hd => rfl); (case hg => rfl); (case hr => first | (go_simp; done) | (go_simp; rfl)); intro gb113 hg w129 hbox hb; have BK113 := Aside0.mk (hbox); have GW113 := bgw_ HB hg; have GE113 := bgw_ HB hg; have NB112_113 := bnl_ BK112 hg; have NB113_112 := bng_ BK112 hg; replace BK112 := bkb_ BK112 hb; replace HB := bls_ HB hb; clear hb hbox hg; have hnb130 := NB112_113.out; have hnc130 := NB113_112.out; have hcz131_0 := bkc_ BK112 0 (.int .i64 a0_0) rfl; have hcz131_1 := bkc_ BK112 1 (.int .i64 a0_1) rfl; have hcz131_2 := bkc_ BK112 2 (.int .i64 a0_2) rfl; have hcz131_3 := bkc_ BK112 3 (.int .i64 a0_3) rfl; have hcz131_4 := bkc_ BK112 4 (.int .i64 a0_4) rfl; have hfz131_0 := blk_frozen BK112.out 0; have hfz131_1 := blk_frozen BK112.out 1; have hfz131_2 := blk_frozen BK112.out 2; have hfz131_3 := blk_frozen BK112.out 3; have hfz131_4 := blk_frozen BK112.out 4) | ((with_reducible refine gate_callee (f := 30) rfl ?_); refine goesL_ (some 17) rfl rfl Try.func30 (by kernel_rfl) rfl #[.agg #[.int .i64 a0_0, .int .i64 a0_1, .int .i64 a0_2, .int .i64 a0_3, .int .i64 a0_4]] rfl (by (try simp only [List.map_toArray, List.map_cons, List.map_nil]); first | done | rfl | (simp only [List.length_drop, List.length_take]; rfl)) ?_; (with_reducible refine (punch_Bars.calls a0_0 a0_1 a0_2 a0_3 a0_4 t114 t115 t116 t117 t118 _ A3.out).mono ?_); rintro e w132 ⟨rfl, hb⟩; refine ⟨_, rfl, ?_⟩; replace BK112 := bkb_ BK112 hb; replace BK113 := bkb_ BK113 hb; replace HB := bls_ HB hb; (try clear hb); (try clear hb2); (try clear hk); (try clear hi)) | ((with_reducible refine gate_dst (N := 6) rfl ?_); refine box_event ?hg (N := 6) ?hd (cs := #[.int .i64 0, .int .i64 0]) (t := 55) ?hr ?_; (case hd => rfl); (case hg => rfl); (case hr => first | (go_simp; done) | (go_simp; rfl)); intro gb119 hg w133 hbox hb; have BK119 := Aside0.mk (hbox); have GW119 := bgw_ HB hg; have GE119 := bgw_ HB hg; have NB112_119 := bnl_ BK112 hg; have NB119_112 := bng_ BK112 hg; have NB113_119 := bnl_ BK113 hg; have NB119_113 := bng_ BK113 hg; replace BK112 := bkb_ BK112 hb; replace BK113 := bkb_ BK113 hb; replace HB := bls_ HB hb; clear hb hbox hg) | ((with_reducible refine gate_dst (N := 7) rfl ?_); refine box_event ?hg (N := 7) ?hd (cs := #[.int .i64 0, .int .i64 0]) (t := 55) ?hr ?_; (case hd => rfl); (case hg => rfl); (case hr => first | (go_simp; done) | (go_simp; rfl)); intro gb120 hg w134 hbox hb; have BK120 := Aside0.mk (hbox); have GW120 := bgw_ HB hg; have GE120 := bgw_ HB hg; have NB112_120 := bnl_ BK112 hg; have NB120_112 := bng_ BK112 hg; have NB113_120 := bnl_ BK113 hg; have NB120_113 := bng_ BK113 hg; have NB119_120 := bnl_ BK119 hg; have NB120_119 := bng_ BK119 hg; replace BK112 := bkb_ BK112 hb; replace BK113 := bkb_ BK113 hb; replace BK119 := bkb_ BK119 hb; replace HB := bls_ HB hb; clear hb hbox hg; have hnb135 := NB119_112.out; have hnc135 := NB112_119.out; have hnb136 := NB119_113.out; have hnc136 := NB113_119.out; have hnb137 := NB119_120.out; have hnc137 := NB120_119.out; have hcz138_0 := bkc_ BK119 0 (.int .i64 0) rfl; have hcz138_1 := bkc_ BK119 1 (.int .i64 0) rfl; have hfz138_0 := blk_frozen BK119.out 0; have hfz138_1 := blk_frozen BK119.out 1; have hnb139 := NB120_112.out; have hnc139 := NB112_120.out; have hnb140 := NB120_113.out; have hnc140 := NB113_120.out; have hcz141_0 := bkc_ BK120 0 (.int .i64 0) rfl; have hcz141_1 := bkc_ BK120 1 (.int .i64 0) rfl; have hfz141_0 := blk_frozen BK120.out 0; have hfz141_1 := blk_frozen BK120.out 1; have hcz142_0 := bkc_ BK113 0 (.int .i64 a1_0) rfl; have hcz142_1 := bkc_ BK113 1 (.int .i64 a1_1) rfl; have hfz142_0 := blk_frozen BK113.out 0; have hfz142_1 := blk_frozen BK113.out 1))
   go_ret2
   exact ⟨_, by first | rfl | (simp [errW_none, errW_some] <;> rfl) | (simp [*, errW_none, errW_some] <;> rfl), by first | exact Kd.R_nil _ _ _ _ _ | exact Kd.N_nil _ _ _ _ _ | exact Kd.V_nil _ _ _ _ _ | exact Kd.Q_nil _ _ _ _ _ | exact Kd.S_nil _ _ _ _ _, by repeat (first | (with_reducible first | exact HB.out | apply below_alloc | apply pw_below_drewN | apply below_drew1 | refine below_set ?_ GE112.out | refine below_set ?_ GE113.out | refine below_set ?_ GE119.out | refine below_set ?_ GE120.out) | exact HB.out)⟩

end Go.Proofs.Ytaaonhfaoaabbaa.X
