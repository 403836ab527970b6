-- Written by a program (the kit's print, some functions told as proved by hand). Not trusted: Lean checks it.
import Derived.Test.YtaaonhfaoaabbaaXx0
import Derived.Test.YtaaonhfaoaabbaaWs
import Derived.Test.YtaaonhfaoaabbaaXx23
namespace Go.Proofs.Ytaaonhfaoaabbaa.X
open Go.RowKit Go.Proofs.YtaaonhfaoaabbaaW.PrintWords Go.Proofs.YtaaonhfaoaabbaaW.PrintLast Go.Proofs.YtaaonhfaoaabbaaW.PrintMore
attribute [local go_sem] max2_int min2_int max_two min_two max_three min_three max_four min_four   -- for this text's walks alone
set_option linter.unusedVariables false
set_option linter.unusedSimpArgs false

/-! ### pianolalaw03_fewest: function 40 -/
mutual
def pianolalaw03_fewest.l0 : Nat → List Int → Int → Int → Int → Int → List (S47) → Option (Int)
 | 0, _, _, _, _, _, _ => none
 | k + 1, x1, x2, x7, x8, x495000, x495001 => if x8 ≤ x2 then (pianolalaw03_fewest.j1 k x1 x2 x7 x8 (decide (x8 < x7)) x495000 x495001) else (pianolalaw03_fewest.j1 k x1 x2 x7 x8 false x495000 x495001)
def pianolalaw03_fewest.j1 : Nat → List Int → Int → Int → Int → Bool → Int → List (S47) → Option (Int)
 | 0, _, _, _, _, _, _, _ => none
 | k + 1, x1, x2, x7, x8, x27, x495000, x495001 => if x27 = true then ((some (([] : List Int) : List Int)).bind fun y495 => (if y495.length + x1.length < 17592186044416 then ((some (y495 ++ x1 : List Int)).bind fun y498 => (if y498.length < 17592186044416 then ((some (y498 ++ [x8] : List Int)).bind fun y501 => ((pianolalaw03_good.f k x495000 x495001 y501).bind fun t504 => (if t504 = true then ((pianolalaw03_fewest.f k x495000 x495001 y501 (mx x2 (wrap64 (x8 + 1)))).bind fun t505 => (pianolalaw03_fewest.l0 k x1 x2 (mn x7 t505) (wrap64 (x8 + 1)) x495000 x495001)) else (pianolalaw03_fewest.l0 k x1 x2 x7 (wrap64 (x8 + 1)) x495000 x495001)))) else (none))) else (none))) else (some x7)
def pianolalaw03_fewest.f : Nat → Int → List (S47) → List Int → Int → Option (Int)
 | 0, _, _, _, _ => none
 | k + 1, a0_0, l0_1, l1, a2 => if (l1.length : Int) = (l0_1.length : Int) then (some a2) else (pianolalaw03_fewest.l0 k l1 a2 (l0_1.length : Int) 0 a0_0 l0_1)
end
theorem pianolalaw03_fewest.mono_l : ∀ k, (∀ y0 y1 y2 y3, LeO (pianolalaw03_fewest.f k y0 y1 y2 y3) (pianolalaw03_fewest.f (k + 1) y0 y1 y2 y3)) ∧ (∀ y0 y1 y2 y3 y4 y5, LeO (pianolalaw03_fewest.l0 k y0 y1 y2 y3 y4 y5) (pianolalaw03_fewest.l0 (k + 1) y0 y1 y2 y3 y4 y5)) ∧ (∀ y0 y1 y2 y3 y4 y5 y6, LeO (pianolalaw03_fewest.j1 k y0 y1 y2 y3 y4 y5 y6) (pianolalaw03_fewest.j1 (k + 1) y0 y1 y2 y3 y4 y5 y6))
 | 0 => ⟨fun _ _ _ _ r h => by simp [pianolalaw03_fewest.f] at h, fun _ _ _ _ _ _ r h => by simp [pianolalaw03_fewest.l0] at h, fun _ _ _ _ _ _ _ r h => by simp [pianolalaw03_fewest.j1] at h⟩
 | k + 1 => by
  obtain ⟨ih0, ih1, ih2⟩ := pianolalaw03_fewest.mono_l k
  refine ⟨?_, ?_, ?_⟩
  · intro y0 y1 y2 y3
    unfold pianolalaw03_fewest.f
    repeat' first
    | (with_reducible exact ih0 _ _ _ _)
    | (with_reducible exact ih1 _ _ _ _ _ _)
    | (with_reducible exact ih2 _ _ _ _ _ _ _)
    | (with_reducible exact pianolalaw03_good.mono _ _ _ _)
    | (with_reducible exact LeO.refl _)
    | (with_reducible exact LeO.none _)
    | (with_reducible refine LeO.ite ?_ ?_)
    | (with_reducible refine LeO.bind ?_ (fun _ => ?_))
    | exact ih0 _ _ _ _
    | exact ih1 _ _ _ _ _ _
    | exact ih2 _ _ _ _ _ _ _
    | exact pianolalaw03_good.mono _ _ _ _
    | exact LeO.none _
    | refine LeO.ite ?_ ?_
    | refine LeO.bind ?_ (fun _ => ?_)
  · intro y0 y1 y2 y3 y4 y5
    unfold pianolalaw03_fewest.l0
    repeat' first
    | (with_reducible exact ih0 _ _ _ _)
    | (with_reducible exact ih1 _ _ _ _ _ _)
    | (with_reducible exact ih2 _ _ _ _ _ _ _)
    | (with_reducible exact pianolalaw03_good.mono _ _ _ _)
    | (with_reducible exact LeO.refl _)
    | (with_reducible exact LeO.none _)
    | (with_reducible refine LeO.ite ?_ ?_)
    | (with_reducible refine LeO.bind ?_ (fun _ => ?_))
    | exact ih0 _ _ _ _
    | exact ih1 _ _ _ _ _ _
    | exact ih2 _ _ _ _ _ _ _
    | exact pianolalaw03_good.mono _ _ _ _
    | exact LeO.none _
    | refine LeO.ite ?_ ?_
    | refine LeO.bind ?_ (fun _ => ?_)
  · intro y0 y1 y2 y3 y4 y5 y6
    unfold pianolalaw03_fewest.j1
    repeat' first
    | (with_reducible exact ih0 _ _ _ _)
    | (with_reducible exact ih1 _ _ _ _ _ _)
    | (with_reducible exact ih2 _ _ _ _ _ _ _)
    | (with_reducible exact pianolalaw03_good.mono _ _ _ _)
    | (with_reducible exact LeO.refl _)
    | (with_reducible exact LeO.none _)
    | (with_reducible refine LeO.ite ?_ ?_)
    | (with_reducible refine LeO.bind ?_ (fun _ => ?_))
    | exact ih0 _ _ _ _
    | exact ih1 _ _ _ _ _ _
    | exact ih2 _ _ _ _ _ _ _
    | exact pianolalaw03_good.mono _ _ _ _
    | exact LeO.none _
    | refine LeO.ite ?_ ?_
    | refine LeO.bind ?_ (fun _ => ?_)
theorem pianolalaw03_fewest.mono : ∀ a0 a1 a2 a3 k, LeO (pianolalaw03_fewest.f k a0 a1 a2 a3) (pianolalaw03_fewest.f (k + 1) a0 a1 a2 a3) := by
 intro a0 a1 a2 a3 k
 obtain ⟨ih0, ih1, ih2⟩ := pianolalaw03_fewest.mono_l k
 exact ih0 a0 a1 a2 a3
set_option maxHeartbeats 8000000 in
set_option maxRecDepth 100000 in
theorem pianolalaw03_fewest.calls (k : Nat) : ∀ (a0_0 : Int) (A0_1 : Option Addr) (c0_1 : Nat) (l0_1 : List (S47)) (A1 : Option Addr) (c1 : Nat) (l1 : List Int) (a2 : Int) (r : Int) (w : World) (hr0_1 : Kd.C k47 w A0_1 l0_1.length l0_1) (hc0_1 : l0_1.length ≤ c0_1) (hr1 : Kd.C (Kd.int .i64) w A1 l1.length l1) (hc1 : l1.length ≤ c1) (h : pianolalaw03_fewest.f k a0_0 l0_1 l1 a2 = some r),
 Calls Try.prog 40 #[.agg #[.int .i64 a0_0, .slice A0_1 l0_1.length c0_1], .slice A1 l1.length c1, .int .i64 a2] w fun e w' => e = .returned (.int .i64 r) ∧ Below w.heap.size w w' := by
 induction k using Nat.strongRecOn with
 | _ k ih =>
 intro a0_0 A0_1 c0_1 l0_1 A1 c1 l1 a2 r w hr0_1 hc0_1 hr1 hc1 h
 cases k with
 | zero => exact absurd h (by simp [pianolalaw03_fewest.f])
 | succ k =>
 simp only [pianolalaw03_fewest.f] at h
 have hu24 := Try.underlying24
 have HR0_1 := Aside0.mk hr0_1
 have HC0_1 := Aside0.mk hc0_1
 clear hr0_1 hc0_1
 have HR1 := Aside0.mk hr1
 have HC1 := Aside0.mk hc1
 clear hr1 hc1
 have HB := Aside0.mk (Below.refl w.heap.size w)
 have H : (if (l1.length : Int) = (l0_1.length : Int) then (some a2) else (pianolalaw03_fewest.l0 k l1 a2 (l0_1.length : Int) 0 a0_0 l0_1)) = some r := h
 clear h
 by_cases c4 : (l1.length : Int) = (l0_1.length : Int)
 · rw [if_pos c4] at H
   have c4b0 : ((l1.length : Int) == (l0_1.length : Int)) = true := beq_iff_eq.mpr c4
   have c4b1 : ((l1.length : Int) != (l0_1.length : Int)) = false := bne_eq_false_iff_eq.mpr c4
   have c4b2 : (l1.length == l0_1.length) = true := by first | simpa using c4 | (simp at c4 ⊢; omega)
   clear c4
   obtain rfl := Option.some.inj H
   go_enter Try.func40, Try.ntmps40
   go_wp2_with (first | ((with_reducible refine gate_dst (N := 3) rfl ?_); refine box_event ?hg (N := 3) ?hd (cs := #[.int .i64 a0_0, .slice A0_1 l0_1.length c0_1]) (t := 24) ?hr ?_; (case hd => rfl); (case hg => rfl); (case hr => first | (go_simp; done) | (go_simp; rfl)); intro gb494 hg w5 hbox hb; have BK494 := Aside0.mk (hbox); have GW494 := bgw_ HB hg; have GE494 := bgw_ HB hg; replace HB := bls_ HB hb; clear hb hbox hg; have hcz6_0 := bkc_ BK494 0 (.int .i64 a0_0) rfl; have hcz6_1 := bkc_ BK494 1 (.slice A0_1 l0_1.length c0_1) rfl; have hfz6_0 := blk_frozen BK494.out 0; have hfz6_1 := blk_frozen BK494.out 1))
   go_ret
   exact ⟨by first | rfl | (simp [errW_none, errW_some] <;> rfl) | (simp [*, errW_none, errW_some] <;> rfl), by repeat (first | (with_reducible first | exact HB.out | apply below_alloc | apply pw_below_drewN | apply below_drew1 | refine below_set ?_ GE494.out) | exact HB.out)⟩
 · rw [if_neg c4] at H
   have c4b0 : ((l1.length : Int) == (l0_1.length : Int)) = false := beq_eq_false_iff_ne.mpr c4
   have c4b1 : ((l1.length : Int) != (l0_1.length : Int)) = true := bne_iff_ne.mpr c4
   have c4b2 : (l1.length == l0_1.length) = false := by first | simpa using c4 | (simp at c4 ⊢; omega)
   have H' := Aside0.mk H
   clear H
   go_enter Try.func40, Try.ntmps40
   go_wp2_with (first | ((with_reducible refine gate_dst (N := 3) rfl ?_); refine box_event ?hg (N := 3) ?hd (cs := #[.int .i64 a0_0, .slice A0_1 l0_1.length c0_1]) (t := 24) ?hr ?_; (case hd => rfl); (case hg => rfl); (case hr => first | (go_simp; done) | (go_simp; rfl)); intro gb494 hg w7 hbox hb; have BK494 := Aside0.mk (hbox); have GW494 := bgw_ HB hg; have GE494 := bgw_ HB hg; replace HB := bls_ HB hb; clear hb hbox hg; have hcz8_0 := bkc_ BK494 0 (.int .i64 a0_0) rfl; have hcz8_1 := bkc_ BK494 1 (.slice A0_1 l0_1.length c0_1) rfl; have hfz8_0 := blk_frozen BK494.out 0; have hfz8_1 := blk_frozen BK494.out 1))
   go_loopg [7, 8] k (fun kq v7 v8 w' => ∃ (x7_1 : Int) (x8_1 : Int), v7 = .int .i64 x7_1 ∧ v8 = .int .i64 x8_1 ∧ Aside0 (pianolalaw03_fewest.l0 kq l1 a2 x7_1 x8_1 a0_0 l0_1 = some r) ∧ Aside0 (kq ≤ k) ∧ Aside0 (w'.heap[gb494]? = some (.cells #[.int .i64 a0_0, (.slice A0_1 l0_1.length c0_1)] 24 (0, 0))) ∧ Aside0 (Below w.heap.size w w'))
   case atStart => exact ⟨((l0_1.length : Int)), (0), (by first | rfl | (simp; done) | (simp [*]; done)), (by first | rfl | (simp; done) | (simp [*]; done)), H', ⟨Nat.le_refl _⟩, bkx_ BK494, blx_ HB⟩
   case round =>
    clear H'
    try clear c1
    try clear p2
    try clear c4
    try clear c4b0
    try clear c4b1
    try clear c4b2
    try clear hcz6_0
    try clear hcz6_1
    try clear hcz8_0
    try clear hcz8_1
    try clear hfz6_0
    try clear hfz6_1
    try clear hfz8_0
    try clear hfz8_1
    obtain ⟨x7_1, x8_1, rfl, rfl, HA, HK1, BK494, HB⟩ := hrel
    cases gk with
    | zero => exact absurd HA.out (by simp [pianolalaw03_fewest.l0])
    | succ k1 =>
     have H := HA.out
     clear HA
     simp only [pianolalaw03_fewest.l0] at H
     have HC9 := Aside0.mk H
     clear H
     go_upto_region 5 with (fail)
     go_cut [27] (fun v27 wc => ∃ (kq : Nat) (x27_8 : Bool), v27 = .bool x27_8 ∧ Aside0 (pianolalaw03_fewest.j1 kq l1 a2 x7_1 x8_1 x27_8 a0_0 l0_1 = some r) ∧ Aside0 (kq ≤ k1) ∧ Aside0 (wc.heap[gb494]? = some (.cells #[.int .i64 a0_0, (.slice A0_1 l0_1.length c0_1)] 24 (0, 0))) ∧ Aside0 (Below w.heap.size w wc))
     case first =>
      have H := HC9.out
      clear HC9
      by_cases c10 : x8_1 ≤ a2
      · rw [if_pos c10] at H
        have c10b0 : decide (x8_1 ≤ a2) = true := decide_eq_true c10
        clear c10
        (first | rw [c10b0] | (simp only [i64_w, i32_w]; rw [c10b0]) | skip)
        have H' := Aside0.mk H
        clear H
        go_wp2
        go_meet
        case rel => exact ⟨_, (decide (x8_1 < x7_1)), (by first | rfl | (simp; done) | (simp [*]; done)), H', ⟨by have := HK1.out; first | omega | exact Nat.le_refl _⟩, bkx_ BK494, blx_ HB⟩
      · rw [if_neg c10] at H
        have c10b0 : decide (x8_1 ≤ a2) = false := decide_eq_false c10
        clear c10
        (first | rw [c10b0] | (simp only [i64_w, i32_w]; rw [c10b0]) | skip)
        have H' := Aside0.mk H
        clear H
        go_wp2
        go_meet
        case rel => exact ⟨_, (false), (by first | rfl | (simp; done) | (simp [*]; done)), H', ⟨by have := HK1.out; first | omega | exact Nat.le_refl _⟩, bkx_ BK494, blx_ HB⟩
     case rest =>
      clear HC9
      try clear c1
      try clear p2
      try clear c4
      try clear c4b0
      try clear c4b1
      try clear c4b2
      try clear c10
      try clear c10b0
      try clear hcz6_0
      try clear hcz6_1
      try clear hcz8_0
      try clear hcz8_1
      try clear hfz6_0
      try clear hfz6_1
      try clear hfz8_0
      try clear hfz8_1
      try clear p2
      obtain ⟨kq, x27_8, rfl, HA, HJ8, BK494, HB⟩ := hcut
      cases kq with
      | zero => exact absurd HA.out (by simp [pianolalaw03_fewest.j1])
      | succ kj8 =>
       have H := HA.out
       clear HA
       simp only [pianolalaw03_fewest.j1] at H
       by_cases c11 : x27_8 = true
       · subst c11
         have H1 : ((some (([] : List Int) : List Int)).bind fun y495 => (if y495.length + l1.length < 17592186044416 then ((some (y495 ++ l1 : List Int)).bind fun y498 => (if y498.length < 17592186044416 then ((some (y498 ++ [x8_1] : List Int)).bind fun y501 => ((pianolalaw03_good.f kj8 a0_0 l0_1 y501).bind fun t504 => (if t504 = true then ((pianolalaw03_fewest.f kj8 a0_0 l0_1 y501 (mx a2 (wrap64 (x8_1 + 1)))).bind fun t505 => (pianolalaw03_fewest.l0 kj8 l1 a2 (mn x7_1 t505) (wrap64 (x8_1 + 1)) a0_0 l0_1)) else (pianolalaw03_fewest.l0 kj8 l1 a2 x7_1 (wrap64 (x8_1 + 1)) a0_0 l0_1)))) else (none))) else (none))) = some r := by rw [if_pos rfl] at H; exact H
         clear H
         have H := H1
         clear H1
         obtain ⟨y495, hy495⟩ : ∃ y_ : List Int, y_ = (([] : List Int)) := ⟨_, rfl⟩
         replace H : (if y495.length + l1.length < 17592186044416 then ((some (y495 ++ l1 : List Int)).bind fun y498 => (if y498.length < 17592186044416 then ((some (y498 ++ [x8_1] : List Int)).bind fun y501 => ((pianolalaw03_good.f kj8 a0_0 l0_1 y501).bind fun t504 => (if t504 = true then ((pianolalaw03_fewest.f kj8 a0_0 l0_1 y501 (mx a2 (wrap64 (x8_1 + 1)))).bind fun t505 => (pianolalaw03_fewest.l0 kj8 l1 a2 (mn x7_1 t505) (wrap64 (x8_1 + 1)) a0_0 l0_1)) else (pianolalaw03_fewest.l0 kj8 l1 a2 x7_1 (wrap64 (x8_1 + 1)) a0_0 l0_1)))) else (none))) else (none)) = some r := by first | (rw [hy495]; with_reducible exact H) | (have H2_ := (Option.bind_some _ _).symm.trans H; rw [hy495]; with_reducible exact H2_) | (have H2_ := (Option.bind_some _ _).symm.trans H; with_reducible exact H2_) | with_reducible exact H | (rw [hy495]; exact H) | exact H
         have Ny495 := Aside0.mk hy495
         clear hy495
         by_cases c12 : y495.length + l1.length < 17592186044416
         · rw [if_pos c12] at H
           have LMc12 := Aside0.mk c12
           clear c12
           obtain ⟨y498, hy498⟩ : ∃ y_ : List Int, y_ = (y495 ++ l1) := ⟨_, rfl⟩
           replace H : (if y498.length < 17592186044416 then ((some (y498 ++ [x8_1] : List Int)).bind fun y501 => ((pianolalaw03_good.f kj8 a0_0 l0_1 y501).bind fun t504 => (if t504 = true then ((pianolalaw03_fewest.f kj8 a0_0 l0_1 y501 (mx a2 (wrap64 (x8_1 + 1)))).bind fun t505 => (pianolalaw03_fewest.l0 kj8 l1 a2 (mn x7_1 t505) (wrap64 (x8_1 + 1)) a0_0 l0_1)) else (pianolalaw03_fewest.l0 kj8 l1 a2 x7_1 (wrap64 (x8_1 + 1)) a0_0 l0_1)))) else (none)) = some r := by first | (rw [hy498]; with_reducible exact H) | (have H2_ := (Option.bind_some _ _).symm.trans H; rw [hy498]; with_reducible exact H2_) | (have H2_ := (Option.bind_some _ _).symm.trans H; with_reducible exact H2_) | with_reducible exact H | (rw [hy498]; exact H) | exact H
           have Ny498 := Aside0.mk hy498
           clear hy498
           by_cases c13 : y498.length < 17592186044416
           · rw [if_pos c13] at H
             have LMc13 := Aside0.mk c13
             clear c13
             obtain ⟨y501, hy501⟩ : ∃ y_ : List Int, y_ = (y498 ++ [x8_1]) := ⟨_, rfl⟩
             replace H : ((pianolalaw03_good.f kj8 a0_0 l0_1 y501).bind fun t504 => (if t504 = true then ((pianolalaw03_fewest.f kj8 a0_0 l0_1 y501 (mx a2 (wrap64 (x8_1 + 1)))).bind fun t505 => (pianolalaw03_fewest.l0 kj8 l1 a2 (mn x7_1 t505) (wrap64 (x8_1 + 1)) a0_0 l0_1)) else (pianolalaw03_fewest.l0 kj8 l1 a2 x7_1 (wrap64 (x8_1 + 1)) a0_0 l0_1))) = some r := by first | (rw [hy501]; with_reducible exact H) | (have H2_ := (Option.bind_some _ _).symm.trans H; rw [hy501]; with_reducible exact H2_) | (have H2_ := (Option.bind_some _ _).symm.trans H; with_reducible exact H2_) | with_reducible exact H | (rw [hy501]; exact H) | exact H
             have Ny501 := Aside0.mk hy501
             clear hy501
             replace H := Option.bind_eq_some_iff.mp H
             obtain ⟨t504, A140, H⟩ := H
             replace H : (if t504 = true then ((pianolalaw03_fewest.f kj8 a0_0 l0_1 y501 (mx a2 (wrap64 (x8_1 + 1)))).bind fun t505 => (pianolalaw03_fewest.l0 kj8 l1 a2 (mn x7_1 t505) (wrap64 (x8_1 + 1)) a0_0 l0_1)) else (pianolalaw03_fewest.l0 kj8 l1 a2 x7_1 (wrap64 (x8_1 + 1)) a0_0 l0_1)) = some r := H
             have A14 := Aside0.mk A140
             clear A140
             by_cases c15 : t504 = true
             · subst c15
               have H1 : ((pianolalaw03_fewest.f kj8 a0_0 l0_1 y501 (mx a2 (wrap64 (x8_1 + 1)))).bind fun t505 => (pianolalaw03_fewest.l0 kj8 l1 a2 (mn x7_1 t505) (wrap64 (x8_1 + 1)) a0_0 l0_1)) = some r := by rw [if_pos rfl] at H; exact H
               clear H
               have H := H1
               clear H1
               obtain ⟨ji16, hji16⟩ : ∃ j_ : Int, (mx a2 (wrap64 (x8_1 + 1))) = j_ := ⟨_, rfl⟩
               replace H : ((pianolalaw03_fewest.f kj8 a0_0 l0_1 y501 (ji16)).bind fun t505 => (pianolalaw03_fewest.l0 kj8 l1 a2 (mn x7_1 t505) (wrap64 (x8_1 + 1)) a0_0 l0_1)) = some r := by first | (rw [hji16] at H; exact H) | (simp only [hji16] at H ⊢; exact H)
               (try rw [hji16] at A14)
               have hji16_ : (if a2 < (wrap64 (x8_1 + 1)) then (wrap64 (x8_1 + 1)) else a2) = ji16 := hji16
               replace H := Option.bind_eq_some_iff.mp H
               obtain ⟨t505, A170, H⟩ := H
               replace H : (pianolalaw03_fewest.l0 kj8 l1 a2 (mn x7_1 t505) (wrap64 (x8_1 + 1)) a0_0 l0_1) = some r := H
               have A17 := Aside0.mk A170
               clear A170
               obtain ⟨ji18, hji18⟩ : ∃ j_ : Int, (mn x7_1 t505) = j_ := ⟨_, rfl⟩
               replace H : (pianolalaw03_fewest.l0 kj8 l1 a2 ji18 (wrap64 (x8_1 + 1)) a0_0 l0_1) = some r := by first | (rw [hji18] at H; exact H) | (simp only [hji18] at H ⊢; exact H)
               (try rw [hji18] at A14)
               (try rw [hji18] at A17)
               have hji18_ : (if t505 < x7_1 then t505 else x7_1) = ji18 := hji18
               have H' := Aside0.mk H
               clear H
               go_wp2_with (first | ((with_reducible refine gate_dst (N := 30) rfl ?_); refine Kd.R_lit (Kd.int .i64) _ 3 ?hg (N := 30) ?hd (xs := ([] : List Int)) (inner := []) (ok := fun _ => True) (okp := fun _ => True) ?hr ?hp (fun _ hk => hk) trivial (Below.refl _ _) (Nat.le_refl _) (by simp) ?_; (case hd => rfl); (case hg => rfl); (case hr => first | (go_simp; done) | (go_simp; rfl)); (case hp => exact (Reps.none _ _)); intro v496 w19 ho20 hb hg_ hnew_; clear hg_ hnew_; (first | rw [← Ny495.out] at ho20 | (simp only [Int.reduceToNat] at ho20; rw [← Ny495.out] at ho20)); have HO497 := Aside0.mk (Kd.R_lower ho20 (below_size (blx_ HB).out)); replace BK494 := bkb_ BK494 hb; replace HB := bls_ HB hb; clear hb ho20) | ((with_reducible refine gate_builtin (b := .append) (xs := #[.tmp 30, .tmp 31]) rfl ?_); at_builtin; refine Kd.R_append_rows (Kd.int .i64) (w0 := w) w.heap.size rfl (.tmp 30) (.tmp 31) 26 3 (.int .i64 0) 8 rfl Try.underlying26 info3 rfl (by decide) (by omega) v496 y495 l1 _ _ _ (fun _ => True) (fun _ => False) rfl rfl ?aO ?aR (fun _ _ h => h) (fun _ h => h.elim) ?aF ?aB ?aS ?aL ?_; (case aR => repeat (first | exact (Kd.C_below HR1.out HB.out) | (with_reducible refine Kd.C_alloc ?_ _) | (with_reducible refine Kd.C_drewN ?_ _) | (with_reducible refine Kd.C_drew ?_))); (case aB => exact (blx_ HB).out); (case aF => exact (fun _ _ => trivial)); (case aO => exact (by (with_reducible repeat (first | apply Kd.R_alloc | apply Kd.R_drewN | apply Kd.R_drew)); exact HO497.out)); (case aS => exact (below_size (blx_ HB).out)); (case aL => have := LMc12.out; omega); intro v499 w21 ho hb hg hat; rw [← Ny498.out] at ho; have HO500 := Aside0.mk (ho); replace BK494 := Aside0.mk (blk_grown (g := gb494) (o := .cells #[.int .i64 a0_0, .slice A0_1 l0_1.length c0_1] 24 (0, 0)) (bkx_ BK494).out hg (Kd.R_ne HO497.out BK494.out (by decide))); replace HB := Aside0.mk (hb); clear HO497; clear ho hb hg hat) | ((with_reducible refine gate_builtin (b := .append) (xs := #[.tmp 32, .tmp 34]) rfl ?_); at_builtin; refine Kd.R_append (Kd.int .i64) (w0 := w) w.heap.size rfl (.tmp 32) (.tmp 34) 26 3 (.int .i64 0) 8 rfl Try.underlying26 info3 rfl (by decide) (by omega) v499 y498 x8_1 [.int .i64 x8_1] (fun _ => True) (fun _ => False) rfl rfl ?aP (fun _ hk => hk.elim) ?aF ?aO ?aB ?aS ?aL ?_; (case aP => exact rfl); (case aB => exact (blx_ HB).out); (case aF => exact (fun _ _ => trivial)); (case aO => exact (by (with_reducible repeat (first | apply Kd.R_alloc | apply Kd.R_drewN | apply Kd.R_drew)); exact HO500.out)); (case aS => exact (below_size (blx_ HB).out)); (case aL => have := LMc13.out; omega); intro v502 w22 ho hb hg hat; rw [← Ny501.out] at ho; have HO503 := Aside0.mk (ho); replace BK494 := Aside0.mk (blk_grown (g := gb494) (o := .cells #[.int .i64 a0_0, .slice A0_1 l0_1.length c0_1] 24 (0, 0)) (bkx_ BK494).out hg (Kd.R_ne HO500.out BK494.out (by decide))); replace HB := Aside0.mk (hb); clear HO500; clear ho hb hg hat; have hcz23_0 := bkc_ BK494 0 (.int .i64 a0_0) rfl; have hcz23_1 := bkc_ BK494 1 (.slice A0_1 l0_1.length c0_1) rfl; have hfz23_0 := blk_frozen BK494.out 0; have hfz23_1 := blk_frozen BK494.out 1; obtain ⟨Ao24, co24, eo24⟩ := Kd.R_slice HO503.out; subst eo24) | ((with_reducible refine gate_callee (f := 39) rfl ?_); refine goesL_ (some 38) rfl rfl Try.func39 (by kernel_rfl) rfl #[.agg #[.int .i64 a0_0, .slice A0_1 l0_1.length c0_1], .slice Ao24 y501.length co24] rfl (by (try simp only [List.map_toArray, List.map_cons, List.map_nil]); first | done | rfl | (simp only [List.length_drop, List.length_take]; rfl)) ?_; (with_reducible refine (pianolalaw03_good.calls kj8 a0_0 _ _ l0_1 _ _ y501 true _ ?side1 ?side2 ?side3 ?side4 A14.out).mono ?_); (case side1 => repeat (first | exact (Kd.C_below HR0_1.out HB.out) | (with_reducible refine Kd.C_alloc ?_ _) | (with_reducible refine Kd.C_drewN ?_ _) | (with_reducible refine Kd.C_drew ?_))); (case side2 => exact HC0_1.out); (case side3 => repeat (first | exact (Kd.R_reads' HO503.out).2.2 | (with_reducible refine Kd.C_alloc ?_ _) | (with_reducible refine Kd.C_drewN ?_ _) | (with_reducible refine Kd.C_drew ?_))); (case side4 => exact (Kd.R_reads' HO503.out).2.1); rintro e w25 ⟨rfl, hb⟩; refine ⟨_, rfl, ?_⟩; have n0_ := Aside0.mk (Kd.R_below (by (with_reducible repeat (first | apply Kd.R_alloc | apply Kd.R_drewN | apply Kd.R_drew)); exact HO503.out) hb); have n1_ := bkb_ BK494 hb; have n2_ := bls_ HB hb; clear HO503; clear BK494; clear HB; have HO503 := n0_; have BK494 := n1_; have HB := n2_; clear n0_ n1_ n2_; (try clear hb); (try clear hb2); (try clear hk); (try clear hi); have hcz26_0 := bkc_ BK494 0 (.int .i64 a0_0) rfl; have hcz26_1 := bkc_ BK494 1 (.slice A0_1 l0_1.length c0_1) rfl; have hfz26_0 := blk_frozen BK494.out 0; have hfz26_1 := blk_frozen BK494.out 1) | ((with_reducible refine gate_callee (f := 40) rfl ?_); refine goesL_ (some 46) rfl rfl Try.func40 (by kernel_rfl) rfl #[.agg #[.int .i64 a0_0, .slice A0_1 l0_1.length c0_1], .slice Ao24 y501.length co24, .int .i64 ji16] rfl (by (try simp only [List.map_toArray, List.map_cons, List.map_nil]); first | done | (simp only [hji16]; rfl) | rfl | (simp only [List.length_drop, List.length_take]; rfl)) ?_; (with_reducible refine (ih kj8 (by have := HK1.out; have := HJ8.out; omega) a0_0 _ _ l0_1 _ _ y501 ji16 t505 _ ?side1 ?side2 ?side3 ?side4 A17.out).mono ?_); (case side1 => repeat (first | exact (Kd.C_below HR0_1.out HB.out) | (with_reducible refine Kd.C_alloc ?_ _) | (with_reducible refine Kd.C_drewN ?_ _) | (with_reducible refine Kd.C_drew ?_))); (case side2 => exact HC0_1.out); (case side3 => repeat (first | exact (Kd.R_reads' HO503.out).2.2 | (with_reducible refine Kd.C_alloc ?_ _) | (with_reducible refine Kd.C_drewN ?_ _) | (with_reducible refine Kd.C_drew ?_))); (case side4 => exact (Kd.R_reads' HO503.out).2.1); rintro e w27 ⟨rfl, hb⟩; refine ⟨_, rfl, ?_⟩; have n0_ := Aside0.mk (Kd.R_below (by (with_reducible repeat (first | apply Kd.R_alloc | apply Kd.R_drewN | apply Kd.R_drew)); exact HO503.out) hb); have n1_ := bkb_ BK494 hb; have n2_ := bls_ HB hb; clear HO503; clear BK494; clear HB; have HO503 := n0_; have BK494 := n1_; have HB := n2_; clear n0_ n1_ n2_; (try clear hb); (try clear hb2); (try clear hk); (try clear hi)))
               go_roundg kj8
               case measure => have := HK1.out; have := HJ8.out; omega
               case rel => exact ⟨(ji18), (wrap64 (x8_1 + 1)), (by first | rfl | (simp; done) | (simp only [← hji18] <;> (first | rfl | simp)) | (simp [*]; done)), (by first | rfl | (simp; done) | (simp [*]; done)), H', ⟨by have := HK1.out; have := HJ8.out; omega⟩, bkx_ BK494, blx_ HB⟩
             · replace c15 := Bool.eq_false_iff.mpr c15
               subst c15
               have H1 : (pianolalaw03_fewest.l0 kj8 l1 a2 x7_1 (wrap64 (x8_1 + 1)) a0_0 l0_1) = some r := by rw [if_neg (show ¬ (false = true) by decide)] at H; exact H
               clear H
               have H := H1
               clear H1
               have H' := Aside0.mk H
               clear H
               go_wp2_with (first | ((with_reducible refine gate_dst (N := 30) rfl ?_); refine Kd.R_lit (Kd.int .i64) _ 3 ?hg (N := 30) ?hd (xs := ([] : List Int)) (inner := []) (ok := fun _ => True) (okp := fun _ => True) ?hr ?hp (fun _ hk => hk) trivial (Below.refl _ _) (Nat.le_refl _) (by simp) ?_; (case hd => rfl); (case hg => rfl); (case hr => first | (go_simp; done) | (go_simp; rfl)); (case hp => exact (Reps.none _ _)); intro v496 w28 ho29 hb hg_ hnew_; clear hg_ hnew_; (first | rw [← Ny495.out] at ho29 | (simp only [Int.reduceToNat] at ho29; rw [← Ny495.out] at ho29)); have HO497 := Aside0.mk (Kd.R_lower ho29 (below_size (blx_ HB).out)); replace BK494 := bkb_ BK494 hb; replace HB := bls_ HB hb; clear hb ho29) | ((with_reducible refine gate_builtin (b := .append) (xs := #[.tmp 30, .tmp 31]) rfl ?_); at_builtin; refine Kd.R_append_rows (Kd.int .i64) (w0 := w) w.heap.size rfl (.tmp 30) (.tmp 31) 26 3 (.int .i64 0) 8 rfl Try.underlying26 info3 rfl (by decide) (by omega) v496 y495 l1 _ _ _ (fun _ => True) (fun _ => False) rfl rfl ?aO ?aR (fun _ _ h => h) (fun _ h => h.elim) ?aF ?aB ?aS ?aL ?_; (case aR => repeat (first | exact (Kd.C_below HR1.out HB.out) | (with_reducible refine Kd.C_alloc ?_ _) | (with_reducible refine Kd.C_drewN ?_ _) | (with_reducible refine Kd.C_drew ?_))); (case aB => exact (blx_ HB).out); (case aF => exact (fun _ _ => trivial)); (case aO => exact (by (with_reducible repeat (first | apply Kd.R_alloc | apply Kd.R_drewN | apply Kd.R_drew)); exact HO497.out)); (case aS => exact (below_size (blx_ HB).out)); (case aL => have := LMc12.out; omega); intro v499 w30 ho hb hg hat; rw [← Ny498.out] at ho; have HO500 := Aside0.mk (ho); replace BK494 := Aside0.mk (blk_grown (g := gb494) (o := .cells #[.int .i64 a0_0, .slice A0_1 l0_1.length c0_1] 24 (0, 0)) (bkx_ BK494).out hg (Kd.R_ne HO497.out BK494.out (by decide))); replace HB := Aside0.mk (hb); clear HO497; clear ho hb hg hat) | ((with_reducible refine gate_builtin (b := .append) (xs := #[.tmp 32, .tmp 34]) rfl ?_); at_builtin; refine Kd.R_append (Kd.int .i64) (w0 := w) w.heap.size rfl (.tmp 32) (.tmp 34) 26 3 (.int .i64 0) 8 rfl Try.underlying26 info3 rfl (by decide) (by omega) v499 y498 x8_1 [.int .i64 x8_1] (fun _ => True) (fun _ => False) rfl rfl ?aP (fun _ hk => hk.elim) ?aF ?aO ?aB ?aS ?aL ?_; (case aP => exact rfl); (case aB => exact (blx_ HB).out); (case aF => exact (fun _ _ => trivial)); (case aO => exact (by (with_reducible repeat (first | apply Kd.R_alloc | apply Kd.R_drewN | apply Kd.R_drew)); exact HO500.out)); (case aS => exact (below_size (blx_ HB).out)); (case aL => have := LMc13.out; omega); intro v502 w31 ho hb hg hat; rw [← Ny501.out] at ho; have HO503 := Aside0.mk (ho); replace BK494 := Aside0.mk (blk_grown (g := gb494) (o := .cells #[.int .i64 a0_0, .slice A0_1 l0_1.length c0_1] 24 (0, 0)) (bkx_ BK494).out hg (Kd.R_ne HO500.out BK494.out (by decide))); replace HB := Aside0.mk (hb); clear HO500; clear ho hb hg hat; have hcz32_0 := bkc_ BK494 0 (.int .i64 a0_0) rfl; have hcz32_1 := bkc_ BK494 1 (.slice A0_1 l0_1.length c0_1) rfl; have hfz32_0 := blk_frozen BK494.out 0; have hfz32_1 := blk_frozen BK494.out 1; obtain ⟨Ao33, co33, eo33⟩ := Kd.R_slice HO503.out; subst eo33) | ((with_reducible refine gate_callee (f := 39) rfl ?_); refine goesL_ (some 38) rfl rfl Try.func39 (by kernel_rfl) rfl #[.agg #[.int .i64 a0_0, .slice A0_1 l0_1.length c0_1], .slice Ao33 y501.length co33] rfl (by (try simp only [List.map_toArray, List.map_cons, List.map_nil]); first | done | rfl | (simp only [List.length_drop, List.length_take]; rfl)) ?_; (with_reducible refine (pianolalaw03_good.calls kj8 a0_0 _ _ l0_1 _ _ y501 false _ ?side1 ?side2 ?side3 ?side4 A14.out).mono ?_); (case side1 => repeat (first | exact (Kd.C_below HR0_1.out HB.out) | (with_reducible refine Kd.C_alloc ?_ _) | (with_reducible refine Kd.C_drewN ?_ _) | (with_reducible refine Kd.C_drew ?_))); (case side2 => exact HC0_1.out); (case side3 => repeat (first | exact (Kd.R_reads' HO503.out).2.2 | (with_reducible refine Kd.C_alloc ?_ _) | (with_reducible refine Kd.C_drewN ?_ _) | (with_reducible refine Kd.C_drew ?_))); (case side4 => exact (Kd.R_reads' HO503.out).2.1); rintro e w34 ⟨rfl, hb⟩; refine ⟨_, rfl, ?_⟩; have n0_ := Aside0.mk (Kd.R_below (by (with_reducible repeat (first | apply Kd.R_alloc | apply Kd.R_drewN | apply Kd.R_drew)); exact HO503.out) hb); have n1_ := bkb_ BK494 hb; have n2_ := bls_ HB hb; clear HO503; clear BK494; clear HB; have HO503 := n0_; have BK494 := n1_; have HB := n2_; clear n0_ n1_ n2_; (try clear hb); (try clear hb2); (try clear hk); (try clear hi)))
               go_roundg kj8
               case measure => have := HK1.out; have := HJ8.out; omega
               case rel => exact ⟨(x7_1), (wrap64 (x8_1 + 1)), (by first | rfl | (simp; done) | (simp [*]; done)), (by first | rfl | (simp; done) | (simp [*]; done)), H', ⟨by have := HK1.out; have := HJ8.out; omega⟩, bkx_ BK494, blx_ HB⟩
           · rw [if_neg c13] at H
             exact absurd H (by simp)
         · rw [if_neg c12] at H
           exact absurd H (by simp)
       · replace c11 := Bool.eq_false_iff.mpr c11
         subst c11
         have H1 : (some x7_1) = some r := by rw [if_neg (show ¬ (false = true) by decide)] at H; exact H
         clear H
         have H := H1
         clear H1
         obtain rfl := Option.some.inj H
         go_wp2
         go_ret
         exact ⟨by first | rfl | (simp [errW_none, errW_some] <;> rfl) | (simp [*, errW_none, errW_some] <;> rfl), by repeat (first | (with_reducible first | exact HB.out | apply below_alloc | apply pw_below_drewN | apply below_drew1 | refine below_set ?_ GE494.out) | exact HB.out)⟩

end Go.Proofs.Ytaaonhfaoaabbaa.X
