-- Written by a program (the kit's print, some functions told as proved by hand). Not trusted: Lean checks it.
import Derived.Test.YtaaonhfaoaabbaaXx0
import Derived.Test.YtaaonhfaoaabbaaWs
namespace Go.Proofs.Ytaaonhfaoaabbaa.X
open Go.RowKit Go.Proofs.YtaaonhfaoaabbaaW.PrintWords Go.Proofs.YtaaonhfaoaabbaaW.PrintLast Go.Proofs.YtaaonhfaoaabbaaW.PrintMore
attribute [local go_sem] max2_int min2_int max_two min_two max_three min_three max_four min_four   -- for this text's walks alone
set_option linter.unusedVariables false
set_option linter.unusedSimpArgs false

/-! ### pianolalaw03_Lane_made: function 38 -/
def pianolalaw03_Lane_made.l0 : Nat → Int → Int → List (S82) → Int → List (S47) → Option (Int × (List (S47)))
 | 0, _, _, _, _, _ => none
 | k + 1, x4, x479000, x479001, x481000, x481001 => if x4 < (x479001.length : Int) then (if x4 < 7 then (if 0 ≤ x4 then (if x481001.length < 8796093022208 then (pianolalaw03_Lane_made.l0 k (wrap64 (x4 + 1)) x479000 x479001 x481000 (x481001 ++ [(⟨Int.tmod (wrap64 ((rd_T82 x479001 x4).f0)) 40, wrap64 ((wrap64 ((Int.tmod (wrap64 ((rd_T82 x479001 x4).f0)) 40) + 1)) + (Int.tmod (wrap64 ((rd_T82 x479001 x4).f1)) 12))⟩ : S47)])) else (none)) else (none)) else (some (x481000, x481001))) else (some (x481000, x481001))
def pianolalaw03_Lane_made.f (k : Nat) (a0_0 : Int) (l0_1 : List (S82)) : Option (Int × (List (S47))) := pianolalaw03_Lane_made.l0 k 0 a0_0 l0_1 (Int.tmod (wrap64 (a0_0)) 8) ([] : List (S47))
theorem pianolalaw03_Lane_made.mono_l : ∀ k, (∀ y0 y1 y2 y3 y4, LeO (pianolalaw03_Lane_made.l0 k y0 y1 y2 y3 y4) (pianolalaw03_Lane_made.l0 (k + 1) y0 y1 y2 y3 y4))
 | 0 => fun _ _ _ _ _ r h => by simp [pianolalaw03_Lane_made.l0] at h
 | k + 1 => by
  have ih0 := pianolalaw03_Lane_made.mono_l k
  · intro y0 y1 y2 y3 y4
    unfold pianolalaw03_Lane_made.l0
    repeat' first
    | (with_reducible exact ih0 _ _ _ _ _)
    | (with_reducible exact LeO.refl _)
    | (with_reducible exact LeO.none _)
    | (with_reducible refine LeO.ite ?_ ?_)
    | (with_reducible refine LeO.bind ?_ (fun _ => ?_))
    | exact ih0 _ _ _ _ _
    | exact LeO.none _
    | refine LeO.ite ?_ ?_
    | refine LeO.bind ?_ (fun _ => ?_)
theorem pianolalaw03_Lane_made.mono : ∀ a0 a1 k, LeO (pianolalaw03_Lane_made.f k a0 a1) (pianolalaw03_Lane_made.f (k + 1) a0 a1) := by
 intro a0 a1 k
 have ih0 := pianolalaw03_Lane_made.mono_l k
 unfold pianolalaw03_Lane_made.f
 repeat' first
  | (with_reducible exact ih0 _ _ _ _ _)
  | (with_reducible exact LeO.refl _)
  | (with_reducible exact LeO.none _)
  | (with_reducible refine LeO.ite ?_ ?_)
  | (with_reducible refine LeO.bind ?_ (fun _ => ?_))
  | exact ih0 _ _ _ _ _
  | exact LeO.none _
  | refine LeO.ite ?_ ?_
  | refine LeO.bind ?_ (fun _ => ?_)
def pianolalaw03_Lane_made.T6 : Bool × List (List Nat × List Nat) := (true, [([], []), ([0], [0]), ([], []), ([], []), ([3], [3]), ([], []), ([5], [5]), ([], []), ([6, 7], [6, 7]), ([8], [8]), ([9], [9]), ([10], [10]), ([11], [11]), ([4, 12], [4, 12]), ([2, 13], [2, 13]), ([14], [14]), ([1, 15], [1, 15]), ([0, 1, 2, 3, 4, 5, 6, 7, 8, 9, 10, 11, 12, 13, 14, 15, 16], []), ([17, 16, 16, 0, 1, 2, 3, 4, 5, 6, 7, 8, 9, 10, 11, 12, 13, 14, 15, 16], [16, 17])])
def pianolalaw03_Lane_made.B6 : List Nat := [0, 1, 0, 0, 8, 0, 32, 0, 224, 480, 992, 2016, 4064, 8184, 16380, 32764, 65535, 131071, 262143]
theorem pianolalaw03_Lane_made.tab6 : rtab .any (opsOf Try.f38 6) = pianolalaw03_Lane_made.T6 := by kernel_rfl
theorem pianolalaw03_Lane_made.bits6 : waitsOk pianolalaw03_Lane_made.T6.2 pianolalaw03_Lane_made.B6 = true := by kernel_rfl
set_option maxHeartbeats 8000000 in
set_option maxRecDepth 100000 in
theorem pianolalaw03_Lane_made.calls (k : Nat) (a0_0 : Int) (A0_1 : Option Addr) (c0_1 : Nat) (l0_1 : List (S82)) (r1 : Int) (r2 : List (S47)) (w : World) (hr0_1 : Kd.C k82 w A0_1 l0_1.length l0_1) (hc0_1 : l0_1.length ≤ c0_1) (h : pianolalaw03_Lane_made.f k a0_0 l0_1 = some (r1, r2)) :
 Calls Try.prog 38 #[.agg #[.int .u8 a0_0, .slice A0_1 l0_1.length c0_1]] w fun e w' => ∃ v1_ : Value, e = .returned (.agg #[.int .i64 r1, v1_]) ∧ Kd.R k47 47 w' w.heap.size (fun _ => True) v1_ r2 ∧ Below w.heap.size w w' := by
 have hu74 := Try.underlying74
 have hu24 := Try.underlying24
 have hu47 := Try.underlying47
 have HR0_1 := Aside0.mk hr0_1
 have HC0_1 := Aside0.mk hc0_1
 clear hr0_1 hc0_1
 have HB := Aside0.mk (Below.refl w.heap.size w)
 have H : (pianolalaw03_Lane_made.l0 k 0 a0_0 l0_1 (Int.tmod (wrap64 (a0_0)) 8) ([] : List (S47))) = some (r1, r2) := h
 clear h
 have H' := Aside0.mk H
 clear H
 go_enter Try.func38, Try.ntmps38
 go_wp2_with (first | ((with_reducible refine gate_dst (N := 1) rfl ?_); refine box_event ?hg (N := 1) ?hd (cs := #[.int .u8 a0_0, .slice A0_1 l0_1.length c0_1]) (t := 74) ?hr ?_; (case hd => rfl); (case hg => rfl); (case hr => first | (go_simp; done) | (go_simp; rfl)); intro gb478 hg w2 hbox hb; have BK478 := Aside0.mk (hbox); have GW478 := bgw_ HB hg; have GE478 := bgw_ HB hg; replace HB := bls_ HB hb; clear hb hbox hg) | ((with_reducible refine gate_dst (N := 2) rfl ?_); refine box_event ?hg (N := 2) ?hd (cs := #[.int .i64 0, .slice none 0 0]) (t := 24) ?hr ?_; (case hd => rfl); (case hg => rfl); (case hr => first | (go_simp; done) | (go_simp; rfl)); intro gb479 hg w3 hbox hb; have BK479 := Aside0.mk (hbox); have GW479 := bgw_ HB hg; have GE479 := bgw_ HB hg; have NB478_479 := bnl_ BK478 hg; have NB479_478 := bng_ BK478 hg; replace BK478 := bkb_ BK478 hb; replace HB := bls_ HB hb; clear hb hbox hg; have hnb4 := NB478_479.out; have hnc4 := NB479_478.out; have hcz5_0 := bkc_ BK478 0 (.int .u8 a0_0) rfl; have hcz5_1 := bkc_ BK478 1 (.slice A0_1 l0_1.length c0_1) rfl; have hfz5_0 := blk_frozen BK478.out 0; have hfz5_1 := blk_frozen BK478.out 1) | ((with_reducible refine gate_dst (N := 3) rfl ?_); refine box_event ?hg (N := 3) ?hd (cs := #[.int .i64 0, .slice none 0 0]) (t := 24) ?hr ?_; (case hd => rfl); (case hg => rfl); (case hr => first | (go_simp; done) | (go_simp; rfl)); intro gb480 hg w6 hbox hb; have BK480 := Aside0.mk (hbox); have GW480 := bgw_ HB hg; have GE480 := bgw_ HB hg; have NB478_480 := bnl_ BK478 hg; have NB480_478 := bng_ BK478 hg; have NB479_480 := bnl_ BK479 hg; have NB480_479 := bng_ BK479 hg; replace BK478 := bkb_ BK478 hb; replace BK479 := bkb_ BK479 hb; replace HB := bls_ HB hb; clear hb hbox hg; have hnb7 := NB480_478.out; have hnc7 := NB478_480.out; have hnb8 := NB480_479.out; have hnc8 := NB479_480.out; have hcz9_0 := bkc_ BK480 0 (.int .i64 0) rfl; have hcz9_1 := bkc_ BK480 1 (.slice none 0 0) rfl; have hfz9_0 := blk_frozen BK480.out 0; have hfz9_1 := blk_frozen BK480.out 1))
 go_loopg [4] k (fun kq v4 w' => ∃ (x4_1 : Int) (x481001_1 : List (S47)) (u481001 : Value), v4 = .int .i64 x4_1 ∧ Aside0 (pianolalaw03_Lane_made.l0 kq x4_1 a0_0 l0_1 (Int.tmod (wrap64 (a0_0)) 8) x481001_1 = some (r1, r2)) ∧ Aside0 (kq ≤ k) ∧ Aside0 (Kd.R k47 47 w' w.heap.size (fun _ => True) u481001 x481001_1) ∧ Aside0 (w'.heap[gb478]? = some (.cells #[.int .u8 a0_0, (.slice A0_1 l0_1.length c0_1)] 74 (0, 0))) ∧ Aside0 (w'.heap[gb479]? = some (.cells #[.int .i64 0, (.slice none 0 0)] 24 (0, 0))) ∧ Aside0 (w'.heap[gb480]? = some (.cells #[.int .i64 (Int.tmod (wrap64 (a0_0)) 8), u481001] 24 (0, 0))) ∧ Aside0 (Below w.heap.size w w'))
 case atStart => exact ⟨(0), (([] : List (S47))), (.slice none 0 0), (by first | rfl | (simp; done) | (simp [*]; done)), H', ⟨Nat.le_refl _⟩, ⟨by first | exact Kd.R_nil _ _ _ _ _ | exact Kd.N_nil _ _ _ _ _ | exact Kd.V_nil _ _ _ _ _ | exact Kd.Q_nil _ _ _ _ _ | exact Kd.S_nil _ _ _ _ _⟩, bkx_ BK478, bkx_ BK479, ⟨by (with_reducible repeat (first | refine blk_drewN ?_ _ | refine blk_drew ?_ | refine blk_alloc ?_ _)); refine blk_put (cs := #[.int .i64 (Int.tmod (wrap64 (a0_0)) 8), .slice none 0 0]) ?_ 1 _ rfl; (with_reducible repeat (first | refine blk_drewN ?_ _ | refine blk_drew ?_ | refine blk_alloc ?_ _)); refine blk_put (cs := #[.int .i64 0, .slice none 0 0]) ?_ 0 _ rfl; (with_reducible repeat (first | refine blk_drewN ?_ _ | refine blk_drew ?_ | refine blk_alloc ?_ _)); exact BK480.out⟩, blx_ HB⟩
 case round =>
  clear H'
  try clear p2
  try clear c3
  try clear c4
  try clear p6
  try clear c7
  try clear c8
  try clear hcz5_0
  try clear hcz5_1
  try clear hcz9_0
  try clear hcz9_1
  try clear hfz5_0
  try clear hfz5_1
  try clear hfz9_0
  try clear hfz9_1
  obtain ⟨x4_1, x481001_1, u481001, rfl, HA, HK1, HO_481001, BK478, BK479, BK480, HB⟩ := hrel
  cases gk with
  | zero => exact absurd HA.out (by simp [pianolalaw03_Lane_made.l0])
  | succ k1 =>
   have H := HA.out
   clear HA
   simp only [pianolalaw03_Lane_made.l0] at H
   by_cases c10 : x4_1 < (l0_1.length : Int)
   · rw [if_pos c10] at H
     have c10b0 : decide (x4_1 < (l0_1.length : Int)) = true := decide_eq_true c10
     clear c10
     by_cases c11 : x4_1 < 7
     · rw [if_pos c11] at H
       have c11b0 : decide (x4_1 < 7) = true := decide_eq_true c11
       clear c11
       by_cases c12 : 0 ≤ x4_1
       · rw [if_pos c12] at H
         have c12b0 : decide (0 ≤ x4_1) = true := decide_eq_true c12
         clear c12
         by_cases c13 : x481001_1.length < 8796093022208
         · rw [if_pos c13] at H
           have LMc13 := Aside0.mk c13
           clear c13
           obtain ⟨y483, hy483⟩ : ∃ y_ : List (S47), y_ = (x481001_1 ++ [(⟨Int.tmod (wrap64 ((rd_T82 l0_1 x4_1).f0)) 40, wrap64 ((wrap64 ((Int.tmod (wrap64 ((rd_T82 l0_1 x4_1).f0)) 40) + 1)) + (Int.tmod (wrap64 ((rd_T82 l0_1 x4_1).f1)) 12))⟩ : S47)]) := ⟨_, rfl⟩
           replace H : (pianolalaw03_Lane_made.l0 k1 (wrap64 (x4_1 + 1)) a0_0 l0_1 (Int.tmod (wrap64 (a0_0)) 8) y483) = some (r1, r2) := by first | (rw [hy483]; with_reducible exact H) | (have H2_ := (Option.bind_some _ _).symm.trans H; rw [hy483]; with_reducible exact H2_) | (have H2_ := (Option.bind_some _ _).symm.trans H; with_reducible exact H2_) | with_reducible exact H | (rw [hy483]; exact H) | exact H
           have Ny483 := Aside0.mk hy483
           clear hy483
           have H' := Aside0.mk H
           clear H
           have hnb14 := NB478_479.out
           have hnc14 := NB479_478.out
           have hnb15 := NB478_480.out
           have hnc15 := NB480_478.out
           have hcz16_0 := bkc_ BK478 0 (.int .u8 a0_0) rfl
           have hcz16_1 := bkc_ BK478 1 (.slice A0_1 l0_1.length c0_1) rfl
           have hfz16_0 := blk_frozen BK478.out 0
           have hfz16_1 := blk_frozen BK478.out 1
           have p481 : 0 ≤ (x4_1 : Int) := of_decide_eq_true (by first | (with_reducible assumption) | assumption)
           have q481 : x4_1 < (l0_1.length : Int) := of_decide_eq_true (by first | (with_reducible assumption) | assumption)
           obtain ⟨ad481, e481, hx481_0, hx481_1⟩ := at_T82 HR0_1.out x4_1 p481 q481
           cases e481
           replace hx481_0 := (HB.out.cell (World.block_lt_of_cell? w _ hx481_0)).trans hx481_0
           replace hx481_1 := (HB.out.cell (World.block_lt_of_cell? w _ hx481_1)).trans hx481_1
           replace p481 := eq_true p481
           replace q481 := eq_true q481
           try go_wp2
           have n0_ := Aside0.mk (Kd.R_drew HO_481001.out)
           have n1_ := Aside0.mk (blk_drew BK478.out)
           have n2_ := Aside0.mk (blk_drew BK479.out)
           have n3_ := Aside0.mk (blk_drew BK480.out)
           have n4_ := Aside0.mk (below_drew1 HB.out)
           clear HO_481001
           clear BK478
           clear BK479
           clear BK480
           clear HB
           have HO_481001 := n0_
           have BK478 := n1_
           have BK479 := n2_
           have BK480 := n3_
           have HB := n4_
           clear n0_ n1_ n2_ n3_ n4_
           have p482 : 0 ≤ (x4_1 : Int) := of_decide_eq_true (by first | (with_reducible assumption) | assumption)
           have q482 : x4_1 < (l0_1.length : Int) := of_decide_eq_true (by first | (with_reducible assumption) | assumption)
           obtain ⟨ad482, e482, hx482_0, hx482_1⟩ := at_T82 HR0_1.out x4_1 p482 q482
           have hw482_1 := hx482_1
           have hw482_0 := hx482_0
           obtain rfl : ad481 = ad482 := (by injection e482)
           replace hx482_0 := (HB.out.cell (World.block_lt_of_cell? w _ hx482_0)).trans hx482_0
           replace hx482_1 := (HB.out.cell (World.block_lt_of_cell? w _ hx482_1)).trans hx482_1
           replace p482 := eq_true p482
           replace q482 := eq_true q482
           refine start_ (n := 19) (S := fun w' => w'.cell? ⟨gb480, 0, none⟩ = some (.int .i64 (Int.tmod (wrap64 (a0_0)) 8)) ∧ w'.cell? ⟨gb480, 1, none⟩ = some (u481001) ∧ w'.cell? ⟨gb478, 0, none⟩ = some (.int .u8 a0_0) ∧ w'.cell? ⟨gb478, 1, none⟩ = some (.slice (some ad481) l0_1.length c0_1) ∧ w'.cell? (ad481.add ((x4_1).toNat * 2)) = some (.int .u8 ((rd_T82 l0_1 x4_1).f0)) ∧ w'.cell? ⟨(ad481.add ((x4_1).toNat * 2)).block, (ad481.add ((x4_1).toNat * 2)).off + 1, none⟩ = some (.int .u8 ((rd_T82 l0_1 x4_1).f1))) (ds := [18]) #[false, false, false, false, false, false, false, false, false, false, false, false, false, false, false, false, false, false, false] (by kernel_rfl) rfl rfl ⟨(blk_cell BK480.out 0).trans rfl, (blk_cell BK480.out 1).trans rfl, (blk_cell BK478.out 0).trans rfl, (blk_cell BK478.out 1).trans rfl, ((HB.out.cell (World.block_lt_of_cell? w _ hw482_0)).trans hw482_0), ((HB.out.cell (World.block_lt_of_cell? w _ hw482_1)).trans hw482_1)⟩ (fun hHeld => ?_); refine with_tabW pianolalaw03_Lane_made.tab6 pianolalaw03_Lane_made.bits6 (fun HT_ HW_ => ?_)
           generalize wr.drew = w17 at HO_481001 BK478 BK479 BK480 HB hx482_0 hx482_1 hHeld ⊢
           refine pure_ (i := 0) (N := some 30) (v := ?_) (a' := ?_) #[true, false, false, false, false, false, false, false, false, false, false, false, false, false, false, false, false, false, false] rfl rfl (any_of HT_.out (by kernel_rfl)) (fun _ _ _ h => h) (Or.inl ⟨by rfl, ?_⟩) ?_ ?_
           rotate_left
           · intro w'
             go_simp
             with_reducible rfl
           rotate_left
           · simp only [Act.put, List.setIfInBounds_toArray, List.set_cons_zero, List.set_cons_succ, i64_w, i32_w]
             rfl
           refine pure_ (i := 2) (N := some 32) (v := ?_) (a' := ?_) #[true, false, true, false, false, false, false, false, false, false, false, false, false, false, false, false, false, false, false] rfl rfl (any_of HT_.out (by kernel_rfl)) (fun _ _ _ h => h) (Or.inl ⟨by rfl, ?_⟩) ?_ ?_
           rotate_left
           · intro w'
             go_simp
             with_reducible rfl
           rotate_left
           · simp only [Act.put, List.setIfInBounds_toArray, List.set_cons_zero, List.set_cons_succ, i64_w, i32_w]
             rfl
           refine pure_ (i := 3) (N := some 33) (v := ?_) (a' := ?_) #[true, false, true, true, false, false, false, false, false, false, false, false, false, false, false, false, false, false, false] rfl rfl (any_of HT_.out (by kernel_rfl)) (fun _ _ _ h => h) (Or.inl ⟨by rfl, ?_⟩) ?_ ?_
           rotate_left
           · intro w'
             go_simp
             with_reducible rfl
           rotate_left
           · simp only [Act.put, List.setIfInBounds_toArray, List.set_cons_zero, List.set_cons_succ, i64_w, i32_w]
             rfl
           refine pure_ (i := 4) (N := some 34) (v := ?_) (a' := ?_) #[true, false, true, true, true, false, false, false, false, false, false, false, false, false, false, false, false, false, false] rfl rfl (any_of HT_.out (by kernel_rfl)) (fun _ _ _ h => h) (Or.inl ⟨by rfl, ?_⟩) ?_ ?_
           rotate_left
           · intro w'
             go_simp
             with_reducible rfl
           rotate_left
           · simp only [Act.put, List.setIfInBounds_toArray, List.set_cons_zero, List.set_cons_succ, i64_w, i32_w]
             rfl
           refine pure_ (i := 5) (N := some 35) (v := ?_) (a' := ?_) #[true, false, true, true, true, true, false, false, false, false, false, false, false, false, false, false, false, false, false] rfl rfl (any_of HT_.out (by kernel_rfl)) (fun _ _ _ h => h) (Or.inl ⟨by rfl, ?_⟩) ?_ ?_
           rotate_left
           · intro w'
             go_simp
             with_reducible rfl
           rotate_left
           · simp only [Act.put, List.setIfInBounds_toArray, List.set_cons_zero, List.set_cons_succ, i64_w, i32_w]
             rfl
           refine pure_ (i := 7) (N := some 37) (v := ?_) (a' := ?_) #[true, false, true, true, true, true, false, true, false, false, false, false, false, false, false, false, false, false, false] rfl rfl (any_of HT_.out (by kernel_rfl)) (fun _ _ _ h => h) (Or.inl ⟨by rfl, ?_⟩) ?_ ?_
           rotate_left
           · intro w'
             go_simp
             with_reducible rfl
           rotate_left
           · simp only [Act.put, List.setIfInBounds_toArray, List.set_cons_zero, List.set_cons_succ, i64_w, i32_w]
             rfl
           refine take_ (i := 1) (N := some 31) (v := ?_) (a' := ?_) #[true, true, true, true, true, true, false, true, false, false, false, false, false, false, false, false, false, false, false] rfl rfl (take_ofW HT_.out HW_.out (by kernel_rfl)) (fun _ _ _ h => h) (Or.inl ⟨by rfl, ?_⟩) hHeld ?_ ?_
           rotate_left
           · rintro w' ⟨s0, s1, s2, s3, s4, s5⟩
             go_simp
             with_reducible rfl
           rotate_left
           · simp only [Act.put, List.setIfInBounds_toArray, List.set_cons_zero, List.set_cons_succ, i64_w, i32_w]
             rfl
           refine take_ (i := 6) (N := some 36) (v := ?_) (a' := ?_) #[true, true, true, true, true, true, true, true, false, false, false, false, false, false, false, false, false, false, false] rfl rfl (take_ofW HT_.out HW_.out (by kernel_rfl)) (fun _ _ _ h => h) (Or.inl ⟨by rfl, ?_⟩) hHeld ?_ ?_
           rotate_left
           · rintro w' ⟨s0, s1, s2, s3, s4, s5⟩
             go_simp
             with_reducible rfl
           rotate_left
           · simp only [Act.put, List.setIfInBounds_toArray, List.set_cons_zero, List.set_cons_succ, i64_w, i32_w]
             rfl
           refine pure_ (i := 8) (N := some 38) (v := ?_) (a' := ?_) #[true, true, true, true, true, true, true, true, true, false, false, false, false, false, false, false, false, false, false] rfl rfl (any_of HT_.out (by kernel_rfl)) (fun _ _ _ h => h) (Or.inl ⟨by rfl, ?_⟩) ?_ ?_
           rotate_left
           · intro w'
             go_simp
             with_reducible rfl
           rotate_left
           · simp only [Act.put, List.setIfInBounds_toArray, List.set_cons_zero, List.set_cons_succ, i64_w, i32_w]
             rfl
           refine pure_ (i := 9) (N := some 39) (v := ?_) (a' := ?_) #[true, true, true, true, true, true, true, true, true, true, false, false, false, false, false, false, false, false, false] rfl rfl (any_of HT_.out (by kernel_rfl)) (fun _ _ _ h => h) (Or.inl ⟨by rfl, ?_⟩) ?_ ?_
           rotate_left
           · intro w'
             go_simp
             with_reducible rfl
           rotate_left
           · simp only [Act.put, List.setIfInBounds_toArray, List.set_cons_zero, List.set_cons_succ, i64_w, i32_w]
             rfl
           refine take_ (i := 10) (N := some 40) (v := ?_) (a' := ?_) #[true, true, true, true, true, true, true, true, true, true, true, false, false, false, false, false, false, false, false] rfl rfl (take_ofW HT_.out HW_.out (by kernel_rfl)) (fun _ _ _ h => h) (Or.inl ⟨by rfl, ?_⟩) hHeld ?_ ?_
           rotate_left
           · rintro w' ⟨s0, s1, s2, s3, s4, s5⟩
             go_simp
             with_reducible rfl
           rotate_left
           · simp only [Act.put, List.setIfInBounds_toArray, List.set_cons_zero, List.set_cons_succ, i64_w, i32_w]
             rfl
           refine pure_ (i := 11) (N := some 41) (v := ?_) (a' := ?_) #[true, true, true, true, true, true, true, true, true, true, true, true, false, false, false, false, false, false, false] rfl rfl (any_of HT_.out (by kernel_rfl)) (fun _ _ _ h => h) (Or.inl ⟨by rfl, ?_⟩) ?_ ?_
           rotate_left
           · intro w'
             go_simp
             with_reducible rfl
           rotate_left
           · simp only [Act.put, List.setIfInBounds_toArray, List.set_cons_zero, List.set_cons_succ, i64_w, i32_w]
             rfl
           refine pure_ (i := 12) (N := some 42) (v := ?_) (a' := ?_) #[true, true, true, true, true, true, true, true, true, true, true, true, true, false, false, false, false, false, false] rfl rfl (any_of HT_.out (by kernel_rfl)) (fun _ _ _ h => h) (Or.inl ⟨by rfl, ?_⟩) ?_ ?_
           rotate_left
           · intro w'
             go_simp
             with_reducible rfl
           rotate_left
           · simp only [Act.put, List.setIfInBounds_toArray, List.set_cons_zero, List.set_cons_succ, i64_w, i32_w]
             rfl
           refine pure_ (i := 13) (N := some 43) (v := ?_) (a' := ?_) #[true, true, true, true, true, true, true, true, true, true, true, true, true, true, false, false, false, false, false] rfl rfl (any_of HT_.out (by kernel_rfl)) (fun _ _ _ h => h) (Or.inl ⟨by rfl, ?_⟩) ?_ ?_
           rotate_left
           · intro w'
             go_simp
             with_reducible rfl
           rotate_left
           · simp only [Act.put, List.setIfInBounds_toArray, List.set_cons_zero, List.set_cons_succ, i64_w, i32_w]
             rfl
           refine pure_ (i := 14) (N := some 44) (v := ?_) (a' := ?_) #[true, true, true, true, true, true, true, true, true, true, true, true, true, true, true, false, false, false, false] rfl rfl (any_of HT_.out (by kernel_rfl)) (fun _ _ _ h => h) (Or.inl ⟨by rfl, ?_⟩) ?_ ?_
           rotate_left
           · intro w'
             go_simp
             with_reducible rfl
           rotate_left
           · simp only [Act.put, List.setIfInBounds_toArray, List.set_cons_zero, List.set_cons_succ, i64_w, i32_w]
             rfl
           refine one_ (i := 15) (N := some 45) #[true, true, true, true, true, true, true, true, true, true, true, true, true, true, true, true, false, false, false] rfl rfl (one_of HT_.out (by kernel_rfl)) (by decide) (fun K hK => ?_)
           refine value_ (w1 := ?_) (v := ?_) (by rfl) rfl ?_ ?_
           rotate_left 2
           · go_simp
             constructor
             · rfl
             · rfl
           refine hK.out _ _ ⟨(blk_cell (blk_alloc BK480.out _) 0).trans rfl, (blk_cell (blk_alloc BK480.out _) 1).trans rfl, (blk_cell (blk_alloc BK478.out _) 0).trans rfl, (blk_cell (blk_alloc BK478.out _) 1).trans rfl, (World.cell?_alloc_lt _ _ _ (World.block_lt_of_cell? _ _ (((HB.out.cell (World.block_lt_of_cell? w _ hw482_0)).trans hw482_0)))).trans (((HB.out.cell (World.block_lt_of_cell? w _ hw482_0)).trans hw482_0)), (World.cell?_alloc_lt _ _ _ (World.block_lt_of_cell? _ _ (((HB.out.cell (World.block_lt_of_cell? w _ hw482_1)).trans hw482_1)))).trans (((HB.out.cell (World.block_lt_of_cell? w _ hw482_1)).trans hw482_1))⟩ (fun hHeld => ?_)
           clear hK K
           refine norm_ (a' := ?_) ?_ ?_
           rotate_left
           · show Act.put _ (some 45) _ = _
             simp only [Act.put, List.setIfInBounds_toArray, List.set_cons_zero, List.set_cons_succ, i64_w, i32_w]
             rfl
           refine one_ (i := 16) (N := some 46) #[true, true, true, true, true, true, true, true, true, true, true, true, true, true, true, true, true, false, false] rfl rfl (one_of HT_.out (by kernel_rfl)) (by decide) (fun K hK => ?_)
           refine Kd.R_append_step k47 (w0 := w) w.heap.size (by rfl) (.tmp 31) (.tmp 45) 22 47 (.agg #[(.int .i64 0), (.int .i64 0)]) 16 rfl Try.underlying22 info47 rfl (by decide) (by omega) u481001 x481001_1 (⟨Int.tmod (wrap64 ((rd_T82 l0_1 x4_1).f0)) 40, wrap64 ((wrap64 ((Int.tmod (wrap64 ((rd_T82 l0_1 x4_1).f0)) 40) + 1)) + (Int.tmod (wrap64 ((rd_T82 l0_1 x4_1).f1)) 12))⟩ : S47) [.int .i64 (Int.tmod (wrap64 ((rd_T82 l0_1 x4_1).f0)) 40), .int .i64 (wrap64 ((wrap64 ((Int.tmod (wrap64 ((rd_T82 l0_1 x4_1).f0)) 40) + 1)) + (Int.tmod (wrap64 ((rd_T82 l0_1 x4_1).f1)) 12)))] (fun _ => True) (fun _ => False) rfl rfl ?aP (fun _ hk => hk.elim) ?aF ?aO ?aB ?aS ?aL ?_
           (case aP => exact k47_mkM _ _ _ (⟨Int.tmod (wrap64 ((rd_T82 l0_1 x4_1).f0)) 40, wrap64 ((wrap64 ((Int.tmod (wrap64 ((rd_T82 l0_1 x4_1).f0)) 40) + 1)) + (Int.tmod (wrap64 ((rd_T82 l0_1 x4_1).f1)) 12))⟩ : S47))
           (case aB => exact (blx_ HB).out)
           (case aF => exact (fun _ _ => trivial))
           (case aO => exact (by (with_reducible repeat (first | apply Kd.R_alloc | apply Kd.R_drewN | apply Kd.R_drew)); exact HO_481001.out))
           (case aS => exact (below_size (blx_ HB).out))
           (case aL => have := LMc13.out; omega)
           intro v484 w18 ho hb hg hat
           rw [← Ny483.out] at ho
           have n0_ := Aside0.mk (blk_grown (g := gb478) (o := .cells #[.int .u8 a0_0, .slice (some ad481) l0_1.length c0_1] 74 (0, 0)) (bkx_ BK478).out hg (Kd.R_ne HO_481001.out BK478.out (by decide)))
           have n1_ := Aside0.mk (blk_grown (g := gb479) (o := .cells #[.int .i64 0, .slice none 0 0] 24 (0, 0)) (bkx_ BK479).out hg (Kd.R_ne HO_481001.out BK479.out (by decide)))
           have n2_ := Aside0.mk (blk_grown (g := gb480) (o := .cells #[.int .i64 (Int.tmod (wrap64 (a0_0)) 8), u481001] 24 (0, 0)) (bkx_ BK480).out hg (Kd.R_ne HO_481001.out BK480.out (by decide)))
           have n3_ := Aside0.mk (hb)
           have n4_ := Aside0.mk (ho)
           clear BK478
           clear BK479
           clear BK480
           clear HB
           clear HO_481001
           have BK478 := n0_
           have BK479 := n1_
           have BK480 := n2_
           have HB := n3_
           have HO485 := n4_
           clear n0_ n1_ n2_ n3_ n4_
           clear ho hb hg hat
           obtain ⟨Ao19, co19, eo19⟩ := Kd.R_slice HO485.out
           (first | subst eo19 | (injection eo19 with f1_ f2_ f3_; have f4_ := f1_.symm; have f5_ := f3_.symm; clear f1_ f2_ f3_; subst f4_; subst f5_))
           refine hK.out _ _ ⟨(blk_cell BK480.out 0).trans rfl, (blk_cell BK480.out 1).trans rfl, (blk_cell BK478.out 0).trans rfl, (blk_cell BK478.out 1).trans rfl, ((HB.out.cell (World.block_lt_of_cell? w _ hw482_0)).trans hw482_0), ((HB.out.cell (World.block_lt_of_cell? w _ hw482_1)).trans hw482_1)⟩ (fun hHeld => ?_)
           clear hK K
           refine norm_ (a' := ?_) ?_ ?_
           rotate_left
           · show Act.put _ (some 46) _ = _
             simp only [Act.put, List.setIfInBounds_toArray, List.set_cons_zero, List.set_cons_succ, i64_w, i32_w]
             rfl
           refine pure_ (i := 17) (N := some 47) (v := ?_) (a' := ?_) #[true, true, true, true, true, true, true, true, true, true, true, true, true, true, true, true, true, true, false] rfl rfl (any_of HT_.out (by kernel_rfl)) (fun _ _ _ h => h) (Or.inl ⟨by rfl, ?_⟩) ?_ ?_
           rotate_left
           · intro w'
             go_simp
             with_reducible rfl
           rotate_left
           · simp only [Act.put, List.setIfInBounds_toArray, List.set_cons_zero, List.set_cons_succ, i64_w, i32_w]
             rfl
           refine last_ (i := 18) (N := none) #[true, true, true, true, true, true, true, true, true, true, true, true, true, true, true, true, true, true, true] rfl rfl (one_of HT_.out (by kernel_rfl)) (by decide) (fun K hK => ?_)
           have hs20 := bkc_ BK480 1 (u481001) rfl
           have hfs20 := blk_frozen BK480.out 1
           have hns20_0 := NB478_480.out
           have hns20_1 := NB479_480.out
           have hms20_0 := NB480_478.out
           have hms20_1 := NB480_479.out
           refine skip_ (w1 := ?_) (by rfl) rfl ?_ ?_
           rotate_left
           · go_simp
             rfl
           refine hK.out _ _ ?_
           clear hK K
           refine done_ (done_of HT_.out (by kernel_rfl)) ?_
           try go_wp2
           go_roundg k1
           case measure => have := HK1.out; omega
           case rel => exact ⟨(wrap64 (x4_1 + 1)), (y483), (.slice Ao19 y483.length co19), (by first | rfl | (simp; done) | (simp [*]; done)), H', ⟨by have := HK1.out; omega⟩, ⟨by (with_reducible repeat (first | apply Kd.R_alloc | apply Kd.R_drewN | apply Kd.R_drew)); exact Kd.R_mono (Kd.R_far (p := ⟨gb480, 1, none⟩) (Kd.R_types HO485.out BK480.out (by decide)) (fun _ hk => hk.2) (.slice Ao19 y483.length co19)) (fun _ hk => trivial)⟩, bkx_ BK478, bkx_ BK479, ⟨by (with_reducible repeat (first | refine blk_drewN ?_ _ | refine blk_drew ?_ | refine blk_alloc ?_ _)); refine blk_put (cs := #[.int .i64 (Int.tmod (wrap64 (a0_0)) 8), u481001]) ?_ 1 _ rfl; (with_reducible repeat (first | refine blk_drewN ?_ _ | refine blk_drew ?_ | refine blk_alloc ?_ _)); exact BK480.out⟩, blx_ HB⟩
         · rw [if_neg c13] at H
           exact absurd H (by simp)
       · rw [if_neg c12] at H
         exact absurd H (by simp)
     · rw [if_neg c11] at H
       have c11b0 : decide (x4_1 < 7) = false := decide_eq_false c11
       clear c11
       simp only [Option.some.injEq, Prod.mk.injEq] at H
       obtain ⟨rfl, rfl⟩ := H
       have hnb21 := NB478_479.out
       have hnc21 := NB479_478.out
       have hnb22 := NB478_480.out
       have hnc22 := NB480_478.out
       have hcz23_0 := bkc_ BK478 0 (.int .u8 a0_0) rfl
       have hcz23_1 := bkc_ BK478 1 (.slice A0_1 l0_1.length c0_1) rfl
       have hfz23_0 := blk_frozen BK478.out 0
       have hfz23_1 := blk_frozen BK478.out 1
       have hnb24 := NB480_479.out
       have hnc24 := NB479_480.out
       have hcz25_0 : wr.cell? ⟨gb480, 0, none⟩ = some (.int .i64 (Int.tmod (wrap64 (a0_0)) 8)) := (blk_cell BK480.out 0).trans rfl
       have hcz25_1 := bkc_ BK480 1 (u481001) rfl
       have hfz25_0 := blk_frozen BK480.out 0
       have hfz25_1 := blk_frozen BK480.out 1
       have hcz26_0 := bkc_ BK479 0 (.int .i64 0) rfl
       have hcz26_1 := bkc_ BK479 1 (.slice none 0 0) rfl
       have hfz26_0 := blk_frozen BK479.out 0
       have hfz26_1 := blk_frozen BK479.out 1
       obtain ⟨Ao27, co27, eo27⟩ := Kd.R_slice HO_481001.out
       subst eo27
       go_wp2
       refine bodyPost_ret (results_cell_row rfl _ _ gb479 24 #[.int .i64 (Int.tmod (wrap64 (a0_0)) 8), .slice Ao27 x481001_1.length co27] (0, 0) _ rfl (by (with_reducible repeat (first | refine blk_drewN ?_ _ | refine blk_drew ?_ | refine blk_alloc ?_ _)); refine blk_put (cs := #[.int .i64 (Int.tmod (wrap64 (a0_0)) 8), .slice none 0 0]) ?_ 1 _ rfl; (with_reducible repeat (first | refine blk_drewN ?_ _ | refine blk_drew ?_ | refine blk_alloc ?_ _)); refine blk_put (cs := #[.int .i64 0, .slice none 0 0]) ?_ 0 _ rfl; (with_reducible repeat (first | refine blk_drewN ?_ _ | refine blk_drew ?_ | refine blk_alloc ?_ _)); exact BK479.out) Try.underlying24 rfl (by kernel_rfl)) rfl ?_
       exact ⟨_, by first | rfl | (simp [errW_none, errW_some] <;> rfl) | (simp [*, errW_none, errW_some] <;> rfl), by (with_reducible repeat (first | apply Kd.R_alloc | apply Kd.R_drewN | apply Kd.R_drew)); exact Kd.R_mono (Kd.R_far (p := ⟨gb479, 1, none⟩) (Kd.R_far (p := ⟨gb479, 0, none⟩) (Kd.R_types HO_481001.out BK479.out (by decide)) (fun _ hk => hk.2) (.int .i64 (Int.tmod (wrap64 (a0_0)) 8))) (fun _ hk => hk.2) (.slice Ao27 x481001_1.length co27)) (fun _ hk => trivial), by repeat (first | (with_reducible first | exact HB.out | apply below_alloc | apply pw_below_drewN | apply below_drew1 | refine below_set ?_ GE478.out | refine below_set ?_ GE479.out | refine below_set ?_ GE480.out) | exact HB.out)⟩
   · rw [if_neg c10] at H
     have c10b0 : decide (x4_1 < (l0_1.length : Int)) = false := decide_eq_false c10
     clear c10
     simp only [Option.some.injEq, Prod.mk.injEq] at H
     obtain ⟨rfl, rfl⟩ := H
     have hnb28 := NB478_479.out
     have hnc28 := NB479_478.out
     have hnb29 := NB478_480.out
     have hnc29 := NB480_478.out
     have hcz30_0 := bkc_ BK478 0 (.int .u8 a0_0) rfl
     have hcz30_1 := bkc_ BK478 1 (.slice A0_1 l0_1.length c0_1) rfl
     have hfz30_0 := blk_frozen BK478.out 0
     have hfz30_1 := blk_frozen BK478.out 1
     have hnb31 := NB480_479.out
     have hnc31 := NB479_480.out
     have hcz32_0 : wr.cell? ⟨gb480, 0, none⟩ = some (.int .i64 (Int.tmod (wrap64 (a0_0)) 8)) := (blk_cell BK480.out 0).trans rfl
     have hcz32_1 := bkc_ BK480 1 (u481001) rfl
     have hfz32_0 := blk_frozen BK480.out 0
     have hfz32_1 := blk_frozen BK480.out 1
     have hcz33_0 := bkc_ BK479 0 (.int .i64 0) rfl
     have hcz33_1 := bkc_ BK479 1 (.slice none 0 0) rfl
     have hfz33_0 := blk_frozen BK479.out 0
     have hfz33_1 := blk_frozen BK479.out 1
     obtain ⟨Ao34, co34, eo34⟩ := Kd.R_slice HO_481001.out
     subst eo34
     go_wp2
     refine bodyPost_ret (results_cell_row rfl _ _ gb479 24 #[.int .i64 (Int.tmod (wrap64 (a0_0)) 8), .slice Ao34 x481001_1.length co34] (0, 0) _ rfl (by (with_reducible repeat (first | refine blk_drewN ?_ _ | refine blk_drew ?_ | refine blk_alloc ?_ _)); refine blk_put (cs := #[.int .i64 (Int.tmod (wrap64 (a0_0)) 8), .slice none 0 0]) ?_ 1 _ rfl; (with_reducible repeat (first | refine blk_drewN ?_ _ | refine blk_drew ?_ | refine blk_alloc ?_ _)); refine blk_put (cs := #[.int .i64 0, .slice none 0 0]) ?_ 0 _ rfl; (with_reducible repeat (first | refine blk_drewN ?_ _ | refine blk_drew ?_ | refine blk_alloc ?_ _)); exact BK479.out) Try.underlying24 rfl (by kernel_rfl)) rfl ?_
     exact ⟨_, by first | rfl | (simp [errW_none, errW_some] <;> rfl) | (simp [*, errW_none, errW_some] <;> rfl), by (with_reducible repeat (first | apply Kd.R_alloc | apply Kd.R_drewN | apply Kd.R_drew)); exact Kd.R_mono (Kd.R_far (p := ⟨gb479, 1, none⟩) (Kd.R_far (p := ⟨gb479, 0, none⟩) (Kd.R_types HO_481001.out BK479.out (by decide)) (fun _ hk => hk.2) (.int .i64 (Int.tmod (wrap64 (a0_0)) 8))) (fun _ hk => hk.2) (.slice Ao34 x481001_1.length co34)) (fun _ hk => trivial), by repeat (first | (with_reducible first | exact HB.out | apply below_alloc | apply pw_below_drewN | apply below_drew1 | refine below_set ?_ GE478.out | refine below_set ?_ GE479.out | refine below_set ?_ GE480.out) | exact HB.out)⟩

/-! ### pianolalaw03_near: function 41 -/
def pianolalaw03_near.l0 : Nat → Int → Int → Int → Int → Int → Int → Option (Bool)
 | 0, _, _, _, _, _, _ => none
 | k + 1, x2, x7, x487000, x487001, x488000, x488001 => if x7 < 80 then (if x487000 ≤ x7 then (if x7 < (wrap64 (x487001 + x2)) then (if x488000 ≤ x7 then (if x7 < (wrap64 (x488001 + x2)) then (some true) else (pianolalaw03_near.l0 k x2 (wrap64 (x7 + 1)) x487000 x487001 x488000 x488001)) else (pianolalaw03_near.l0 k x2 (wrap64 (x7 + 1)) x487000 x487001 x488000 x488001)) else (pianolalaw03_near.l0 k x2 (wrap64 (x7 + 1)) x487000 x487001 x488000 x488001)) else (pianolalaw03_near.l0 k x2 (wrap64 (x7 + 1)) x487000 x487001 x488000 x488001)) else (some false)
def pianolalaw03_near.f (k : Nat) (a0_0 : Int) (a0_1 : Int) (a1_0 : Int) (a1_1 : Int) (a2 : Int) : Option (Bool) := pianolalaw03_near.l0 k a2 0 a0_0 a0_1 a1_0 a1_1
theorem pianolalaw03_near.mono_l : ∀ k, (∀ y0 y1 y2 y3 y4 y5, LeO (pianolalaw03_near.l0 k y0 y1 y2 y3 y4 y5) (pianolalaw03_near.l0 (k + 1) y0 y1 y2 y3 y4 y5))
 | 0 => fun _ _ _ _ _ _ r h => by simp [pianolalaw03_near.l0] at h
 | k + 1 => by
  have ih0 := pianolalaw03_near.mono_l k
  · intro y0 y1 y2 y3 y4 y5
    unfold pianolalaw03_near.l0
    repeat' first
    | (with_reducible exact ih0 _ _ _ _ _ _)
    | (with_reducible exact LeO.refl _)
    | (with_reducible exact LeO.none _)
    | (with_reducible refine LeO.ite ?_ ?_)
    | (with_reducible refine LeO.bind ?_ (fun _ => ?_))
    | exact ih0 _ _ _ _ _ _
    | exact LeO.none _
    | refine LeO.ite ?_ ?_
    | refine LeO.bind ?_ (fun _ => ?_)
theorem pianolalaw03_near.mono : ∀ a0 a1 a2 a3 a4 k, LeO (pianolalaw03_near.f k a0 a1 a2 a3 a4) (pianolalaw03_near.f (k + 1) a0 a1 a2 a3 a4) := by
 intro a0 a1 a2 a3 a4 k
 have ih0 := pianolalaw03_near.mono_l k
 unfold pianolalaw03_near.f
 repeat' first
  | (with_reducible exact ih0 _ _ _ _ _ _)
  | (with_reducible exact LeO.refl _)
  | (with_reducible exact LeO.none _)
  | (with_reducible refine LeO.ite ?_ ?_)
  | (with_reducible refine LeO.bind ?_ (fun _ => ?_))
  | exact ih0 _ _ _ _ _ _
  | exact LeO.none _
  | refine LeO.ite ?_ ?_
  | refine LeO.bind ?_ (fun _ => ?_)
set_option maxHeartbeats 8000000 in
set_option maxRecDepth 100000 in
theorem pianolalaw03_near.calls (k : Nat) (a0_0 : Int) (a0_1 : Int) (a1_0 : Int) (a1_1 : Int) (a2 : Int) (r : Bool) (w : World) (h : pianolalaw03_near.f k a0_0 a0_1 a1_0 a1_1 a2 = some r) :
 Calls Try.prog 41 #[.agg #[.int .i64 a0_0, .int .i64 a0_1], .agg #[.int .i64 a1_0, .int .i64 a1_1], .int .i64 a2] w fun e w' => e = .returned (.bool r) ∧ Below w.heap.size w w' := by
 have hu47 := Try.underlying47
 have HB := Aside0.mk (Below.refl w.heap.size w)
 have H : (pianolalaw03_near.l0 k a2 0 a0_0 a0_1 a1_0 a1_1) = some r := h
 clear h
 have H' := Aside0.mk H
 clear H
 go_enter Try.func41, Try.ntmps41
 go_wp2_with (first | ((with_reducible refine gate_dst (N := 3) rfl ?_); refine box_event ?hg (N := 3) ?hd (cs := #[.int .i64 a0_0, .int .i64 a0_1]) (t := 47) ?hr ?_; (case hd => rfl); (case hg => rfl); (case hr => first | (go_simp; done) | (go_simp; rfl)); intro gb486 hg w4 hbox hb; have BK486 := Aside0.mk (hbox); have GW486 := bgw_ HB hg; have GE486 := bgw_ HB hg; replace HB := bls_ HB hb; clear hb hbox hg) | ((with_reducible refine gate_dst (N := 4) rfl ?_); refine box_event ?hg (N := 4) ?hd (cs := #[.int .i64 a1_0, .int .i64 a1_1]) (t := 47) ?hr ?_; (case hd => rfl); (case hg => rfl); (case hr => first | (go_simp; done) | (go_simp; rfl)); intro gb487 hg w5 hbox hb; have BK487 := Aside0.mk (hbox); have GW487 := bgw_ HB hg; have GE487 := bgw_ HB hg; have NB486_487 := bnl_ BK486 hg; have NB487_486 := bng_ BK486 hg; replace BK486 := bkb_ BK486 hb; replace HB := bls_ HB hb; clear hb hbox hg))
 go_loopg [7] k (fun kq v7 w' => ∃ (x7_1 : Int), v7 = .int .i64 x7_1 ∧ Aside0 (pianolalaw03_near.l0 kq a2 x7_1 a0_0 a0_1 a1_0 a1_1 = some r) ∧ Aside0 (kq ≤ k) ∧ Aside0 (w'.heap[gb486]? = some (.cells #[.int .i64 a0_0, .int .i64 a0_1] 47 (0, 0))) ∧ Aside0 (w'.heap[gb487]? = some (.cells #[.int .i64 a1_0, .int .i64 a1_1] 47 (0, 0))) ∧ Aside0 (Below w.heap.size w w'))
 case atStart => exact ⟨(0), (by first | rfl | (simp; done) | (simp [*]; done)), H', ⟨Nat.le_refl _⟩, bkx_ BK486, bkx_ BK487, blx_ HB⟩
 case round =>
  clear H'
  try clear p2
  try clear c4
  obtain ⟨x7_1, rfl, HA, HK1, BK486, BK487, HB⟩ := hrel
  cases gk with
  | zero => exact absurd HA.out (by simp [pianolalaw03_near.l0])
  | succ k1 =>
   have H := HA.out
   clear HA
   simp only [pianolalaw03_near.l0] at H
   by_cases c6 : x7_1 < 80
   · rw [if_pos c6] at H
     have c6b0 : decide (x7_1 < 80) = true := decide_eq_true c6
     clear c6
     by_cases c7 : a0_0 ≤ x7_1
     · rw [if_pos c7] at H
       have c7b0 : decide (a0_0 ≤ x7_1) = true := decide_eq_true c7
       clear c7
       by_cases c8 : x7_1 < (wrap64 (a0_1 + a2))
       · rw [if_pos c8] at H
         have c8b0 : decide (x7_1 < (wrap64 (a0_1 + a2))) = true := decide_eq_true c8
         clear c8
         by_cases c9 : a1_0 ≤ x7_1
         · rw [if_pos c9] at H
           have c9b0 : decide (a1_0 ≤ x7_1) = true := decide_eq_true c9
           clear c9
           by_cases c10 : x7_1 < (wrap64 (a1_1 + a2))
           · rw [if_pos c10] at H
             have c10b0 : decide (x7_1 < (wrap64 (a1_1 + a2))) = true := decide_eq_true c10
             clear c10
             obtain rfl := Option.some.inj H
             have hnb11 := NB486_487.out
             have hnc11 := NB487_486.out
             have hcz12_0 := bkc_ BK486 0 (.int .i64 a0_0) rfl
             have hcz12_1 := bkc_ BK486 1 (.int .i64 a0_1) rfl
             have hfz12_0 := blk_frozen BK486.out 0
             have hfz12_1 := blk_frozen BK486.out 1
             have hcz13_0 := bkc_ BK487 0 (.int .i64 a1_0) rfl
             have hcz13_1 := bkc_ BK487 1 (.int .i64 a1_1) rfl
             have hfz13_0 := blk_frozen BK487.out 0
             have hfz13_1 := blk_frozen BK487.out 1
             go_wp2
             go_ret
             exact ⟨by first | rfl | (simp [errW_none, errW_some] <;> rfl) | (simp [*, errW_none, errW_some] <;> rfl), by repeat (first | (with_reducible first | exact HB.out | apply below_alloc | apply pw_below_drewN | apply below_drew1 | refine below_set ?_ GE486.out | refine below_set ?_ GE487.out) | exact HB.out)⟩
           · rw [if_neg c10] at H
             have c10b0 : decide (x7_1 < (wrap64 (a1_1 + a2))) = false := decide_eq_false c10
             clear c10
             have H' := Aside0.mk H
             clear H
             have hnb14 := NB486_487.out
             have hnc14 := NB487_486.out
             have hcz15_0 := bkc_ BK486 0 (.int .i64 a0_0) rfl
             have hcz15_1 := bkc_ BK486 1 (.int .i64 a0_1) rfl
             have hfz15_0 := blk_frozen BK486.out 0
             have hfz15_1 := blk_frozen BK486.out 1
             have hcz16_0 := bkc_ BK487 0 (.int .i64 a1_0) rfl
             have hcz16_1 := bkc_ BK487 1 (.int .i64 a1_1) rfl
             have hfz16_0 := blk_frozen BK487.out 0
             have hfz16_1 := blk_frozen BK487.out 1
             go_wp2
             go_roundg k1
             case measure => have := HK1.out; omega
             case rel => exact ⟨(wrap64 (x7_1 + 1)), (by first | rfl | (simp; done) | (simp [*]; done)), H', ⟨by have := HK1.out; omega⟩, bkx_ BK486, bkx_ BK487, blx_ HB⟩
         · rw [if_neg c9] at H
           have c9b0 : decide (a1_0 ≤ x7_1) = false := decide_eq_false c9
           clear c9
           have H' := Aside0.mk H
           clear H
           have hnb17 := NB486_487.out
           have hnc17 := NB487_486.out
           have hcz18_0 := bkc_ BK486 0 (.int .i64 a0_0) rfl
           have hcz18_1 := bkc_ BK486 1 (.int .i64 a0_1) rfl
           have hfz18_0 := blk_frozen BK486.out 0
           have hfz18_1 := blk_frozen BK486.out 1
           have hcz19_0 := bkc_ BK487 0 (.int .i64 a1_0) rfl
           have hcz19_1 := bkc_ BK487 1 (.int .i64 a1_1) rfl
           have hfz19_0 := blk_frozen BK487.out 0
           have hfz19_1 := blk_frozen BK487.out 1
           go_wp2
           go_roundg k1
           case measure => have := HK1.out; omega
           case rel => exact ⟨(wrap64 (x7_1 + 1)), (by first | rfl | (simp; done) | (simp [*]; done)), H', ⟨by have := HK1.out; omega⟩, bkx_ BK486, bkx_ BK487, blx_ HB⟩
       · rw [if_neg c8] at H
         have c8b0 : decide (x7_1 < (wrap64 (a0_1 + a2))) = false := decide_eq_false c8
         clear c8
         have H' := Aside0.mk H
         clear H
         have hnb20 := NB486_487.out
         have hnc20 := NB487_486.out
         have hcz21_0 := bkc_ BK486 0 (.int .i64 a0_0) rfl
         have hcz21_1 := bkc_ BK486 1 (.int .i64 a0_1) rfl
         have hfz21_0 := blk_frozen BK486.out 0
         have hfz21_1 := blk_frozen BK486.out 1
         go_wp2
         go_roundg k1
         case measure => have := HK1.out; omega
         case rel => exact ⟨(wrap64 (x7_1 + 1)), (by first | rfl | (simp; done) | (simp [*]; done)), H', ⟨by have := HK1.out; omega⟩, bkx_ BK486, bkx_ BK487, blx_ HB⟩
     · rw [if_neg c7] at H
       have c7b0 : decide (a0_0 ≤ x7_1) = false := decide_eq_false c7
       clear c7
       have H' := Aside0.mk H
       clear H
       have hnb22 := NB486_487.out
       have hnc22 := NB487_486.out
       have hcz23_0 := bkc_ BK486 0 (.int .i64 a0_0) rfl
       have hcz23_1 := bkc_ BK486 1 (.int .i64 a0_1) rfl
       have hfz23_0 := blk_frozen BK486.out 0
       have hfz23_1 := blk_frozen BK486.out 1
       go_wp2
       go_roundg k1
       case measure => have := HK1.out; omega
       case rel => exact ⟨(wrap64 (x7_1 + 1)), (by first | rfl | (simp; done) | (simp [*]; done)), H', ⟨by have := HK1.out; omega⟩, bkx_ BK486, bkx_ BK487, blx_ HB⟩
   · rw [if_neg c6] at H
     have c6b0 : decide (x7_1 < 80) = false := decide_eq_false c6
     clear c6
     obtain rfl := Option.some.inj H
     go_wp2
     go_ret
     exact ⟨by first | rfl | (simp [errW_none, errW_some] <;> rfl) | (simp [*, errW_none, errW_some] <;> rfl), by repeat (first | (with_reducible first | exact HB.out | apply below_alloc | apply pw_below_drewN | apply below_drew1 | refine below_set ?_ GE486.out | refine below_set ?_ GE487.out) | exact HB.out)⟩

end Go.Proofs.Ytaaonhfaoaabbaa.X
