-- Written by a program (the kit's print, some functions told as proved by hand). Not trusted: Lean checks it.
import Derived.Test.YtaaonhfaoaabbaaXx0
import Derived.Test.YtaaonhfaoaabbaaWs
namespace Go.Proofs.Ytaaonhfaoaabbaa.X
open Go.RowKit Go.Proofs.YtaaonhfaoaabbaaW.PrintWords Go.Proofs.YtaaonhfaoaabbaaW.PrintLast Go.Proofs.YtaaonhfaoaabbaaW.PrintMore
attribute [local go_sem] max2_int min2_int max_two min_two max_three min_three max_four min_four   -- for this text's walks alone
set_option linter.unusedVariables false
set_option linter.unusedSimpArgs false

/-! ### pianolalaw03_given: function 18 -/
def pianolalaw03_given.l0 : Nat → Int → Int → List (S47) → Int → List (S52) → Option (Int × (List (S52)))
 | 0, _, _, _, _, _ => none
 | k + 1, x4, x269000, x269001, x271000, x271001 => if x4 < (x269001.length : Int) then (if 0 ≤ x4 then (if x271001.length < 8796093022208 then (pianolalaw03_given.l0 k (wrap64 (x4 + 1)) x269000 x269001 x271000 (x271001 ++ [(⟨(rd_T47 x269001 x4).f0, (rd_T47 x269001 x4).f1⟩ : S52)])) else (none)) else (none)) else (some (x271000, x271001))
def pianolalaw03_given.f (k : Nat) (a0_0 : Int) (l0_1 : List (S47)) : Option (Int × (List (S52))) := pianolalaw03_given.l0 k 0 a0_0 l0_1 a0_0 ([] : List (S52))
theorem pianolalaw03_given.mono_l : ∀ k, (∀ y0 y1 y2 y3 y4, LeO (pianolalaw03_given.l0 k y0 y1 y2 y3 y4) (pianolalaw03_given.l0 (k + 1) y0 y1 y2 y3 y4))
 | 0 => fun _ _ _ _ _ r h => by simp [pianolalaw03_given.l0] at h
 | k + 1 => by
  have ih0 := pianolalaw03_given.mono_l k
  · intro y0 y1 y2 y3 y4
    unfold pianolalaw03_given.l0
    repeat' first
    | (with_reducible exact ih0 _ _ _ _ _)
    | (with_reducible exact LeO.refl _)
    | (with_reducible exact LeO.none _)
    | (with_reducible refine LeO.ite ?_ ?_)
    | (with_reducible refine LeO.bind ?_ (fun _ => ?_))
    | exact ih0 _ _ _ _ _
    | exact LeO.none _
    | refine LeO.ite ?_ ?_
    | refine LeO.bind ?_ (fun _ => ?_)
theorem pianolalaw03_given.mono : ∀ a0 a1 k, LeO (pianolalaw03_given.f k a0 a1) (pianolalaw03_given.f (k + 1) a0 a1) := by
 intro a0 a1 k
 have ih0 := pianolalaw03_given.mono_l k
 unfold pianolalaw03_given.f
 repeat' first
  | (with_reducible exact ih0 _ _ _ _ _)
  | (with_reducible exact LeO.refl _)
  | (with_reducible exact LeO.none _)
  | (with_reducible refine LeO.ite ?_ ?_)
  | (with_reducible refine LeO.bind ?_ (fun _ => ?_))
  | exact ih0 _ _ _ _ _
  | exact LeO.none _
  | refine LeO.ite ?_ ?_
  | refine LeO.bind ?_ (fun _ => ?_)
def pianolalaw03_given.T5 : Bool × List (List Nat × List Nat) := (true, [([], []), ([0], [0]), ([], []), ([2], [2]), ([], []), ([3, 4], [3, 4]), ([5], [5]), ([6], [6]), ([1, 7], [1, 7]), ([0, 1, 2, 3, 4, 5, 6, 7, 8], []), ([9, 8, 8, 0, 1, 2, 3, 4, 5, 6, 7, 8], [8, 9])])
def pianolalaw03_given.B5 : List Nat := [0, 1, 0, 4, 0, 28, 60, 124, 255, 511, 1023]
theorem pianolalaw03_given.tab5 : rtab .any (opsOf Try.f18 5) = pianolalaw03_given.T5 := by kernel_rfl
theorem pianolalaw03_given.bits5 : waitsOk pianolalaw03_given.T5.2 pianolalaw03_given.B5 = true := by kernel_rfl
set_option maxHeartbeats 8000000 in
set_option maxRecDepth 100000 in
theorem pianolalaw03_given.calls (k : Nat) (a0_0 : Int) (A0_1 : Option Addr) (c0_1 : Nat) (l0_1 : List (S47)) (r1 : Int) (r2 : List (S52)) (w : World) (hr0_1 : Kd.C k47 w A0_1 l0_1.length l0_1) (hc0_1 : l0_1.length ≤ c0_1) (h : pianolalaw03_given.f k a0_0 l0_1 = some (r1, r2)) :
 Calls Try.prog 18 #[.agg #[.int .i64 a0_0, .slice A0_1 l0_1.length c0_1]] w fun e w' => ∃ v1_ : Value, e = .returned (.agg #[.int .i64 r1, v1_]) ∧ Kd.R k52 52 w' w.heap.size (fun _ => True) v1_ r2 ∧ Below w.heap.size w w' := by
 have hu24 := Try.underlying24
 have hu33 := Try.underlying33
 have hu47 := Try.underlying47
 have HR0_1 := Aside0.mk hr0_1
 have HC0_1 := Aside0.mk hc0_1
 clear hr0_1 hc0_1
 have HB := Aside0.mk (Below.refl w.heap.size w)
 have H : (pianolalaw03_given.l0 k 0 a0_0 l0_1 a0_0 ([] : List (S52))) = some (r1, r2) := h
 clear h
 have H' := Aside0.mk H
 clear H
 go_enter Try.func18, Try.ntmps18
 go_wp2_with (first | ((with_reducible refine gate_dst (N := 1) rfl ?_); refine box_event ?hg (N := 1) ?hd (cs := #[.int .i64 a0_0, .slice A0_1 l0_1.length c0_1]) (t := 24) ?hr ?_; (case hd => rfl); (case hg => rfl); (case hr => first | (go_simp; done) | (go_simp; rfl)); intro gb268 hg w2 hbox hb; have BK268 := Aside0.mk (hbox); have GW268 := bgw_ HB hg; have GE268 := bgw_ HB hg; replace HB := bls_ HB hb; clear hb hbox hg) | ((with_reducible refine gate_dst (N := 2) rfl ?_); refine box_event ?hg (N := 2) ?hd (cs := #[.int .i64 0, .slice none 0 0]) (t := 33) ?hr ?_; (case hd => rfl); (case hg => rfl); (case hr => first | (go_simp; done) | (go_simp; rfl)); intro gb269 hg w3 hbox hb; have BK269 := Aside0.mk (hbox); have GW269 := bgw_ HB hg; have GE269 := bgw_ HB hg; have NB268_269 := bnl_ BK268 hg; have NB269_268 := bng_ BK268 hg; replace BK268 := bkb_ BK268 hb; replace HB := bls_ HB hb; clear hb hbox hg; have hnb4 := NB268_269.out; have hnc4 := NB269_268.out; have hcz5_0 := bkc_ BK268 0 (.int .i64 a0_0) rfl; have hcz5_1 := bkc_ BK268 1 (.slice A0_1 l0_1.length c0_1) rfl; have hfz5_0 := blk_frozen BK268.out 0; have hfz5_1 := blk_frozen BK268.out 1) | ((with_reducible refine gate_dst (N := 3) rfl ?_); refine box_event ?hg (N := 3) ?hd (cs := #[.int .i64 0, .slice none 0 0]) (t := 33) ?hr ?_; (case hd => rfl); (case hg => rfl); (case hr => first | (go_simp; done) | (go_simp; rfl)); intro gb270 hg w6 hbox hb; have BK270 := Aside0.mk (hbox); have GW270 := bgw_ HB hg; have GE270 := bgw_ HB hg; have NB268_270 := bnl_ BK268 hg; have NB270_268 := bng_ BK268 hg; have NB269_270 := bnl_ BK269 hg; have NB270_269 := bng_ BK269 hg; replace BK268 := bkb_ BK268 hb; replace BK269 := bkb_ BK269 hb; replace HB := bls_ HB hb; clear hb hbox hg; have hnb7 := NB270_268.out; have hnc7 := NB268_270.out; have hnb8 := NB270_269.out; have hnc8 := NB269_270.out; have hcz9_0 := bkc_ BK270 0 (.int .i64 0) rfl; have hcz9_1 := bkc_ BK270 1 (.slice none 0 0) rfl; have hfz9_0 := blk_frozen BK270.out 0; have hfz9_1 := blk_frozen BK270.out 1))
 go_loopg [4] k (fun kq v4 w' => ∃ (x4_1 : Int) (x271001_1 : List (S52)) (u271001 : Value), v4 = .int .i64 x4_1 ∧ Aside0 (pianolalaw03_given.l0 kq x4_1 a0_0 l0_1 a0_0 x271001_1 = some (r1, r2)) ∧ Aside0 (kq ≤ k) ∧ Aside0 (Kd.R k52 52 w' w.heap.size (fun _ => True) u271001 x271001_1) ∧ Aside0 (w'.heap[gb268]? = some (.cells #[.int .i64 a0_0, (.slice A0_1 l0_1.length c0_1)] 24 (0, 0))) ∧ Aside0 (w'.heap[gb269]? = some (.cells #[.int .i64 0, (.slice none 0 0)] 33 (0, 0))) ∧ Aside0 (w'.heap[gb270]? = some (.cells #[.int .i64 a0_0, u271001] 33 (0, 0))) ∧ Aside0 (Below w.heap.size w w'))
 case atStart => exact ⟨(0), (([] : List (S52))), (.slice none 0 0), (by first | rfl | (simp; done) | (simp [*]; done)), H', ⟨Nat.le_refl _⟩, ⟨by first | exact Kd.R_nil _ _ _ _ _ | exact Kd.N_nil _ _ _ _ _ | exact Kd.V_nil _ _ _ _ _ | exact Kd.Q_nil _ _ _ _ _ | exact Kd.S_nil _ _ _ _ _⟩, bkx_ BK268, bkx_ BK269, ⟨by (with_reducible repeat (first | refine blk_drewN ?_ _ | refine blk_drew ?_ | refine blk_alloc ?_ _)); refine blk_put (cs := #[.int .i64 a0_0, .slice none 0 0]) ?_ 1 _ rfl; (with_reducible repeat (first | refine blk_drewN ?_ _ | refine blk_drew ?_ | refine blk_alloc ?_ _)); refine blk_put (cs := #[.int .i64 0, .slice none 0 0]) ?_ 0 _ rfl; (with_reducible repeat (first | refine blk_drewN ?_ _ | refine blk_drew ?_ | refine blk_alloc ?_ _)); exact BK270.out⟩, blx_ HB⟩
 case round =>
  clear H'
  try clear c1
  try clear p2
  try clear c4
  try clear c7
  try clear c8
  try clear hcz5_0
  try clear hcz5_1
  try clear hcz9_0
  try clear hcz9_1
  try clear hfz5_0
  try clear hfz5_1
  try clear hfz9_0
  try clear hfz9_1
  obtain ⟨x4_1, x271001_1, u271001, rfl, HA, HK1, HO_271001, BK268, BK269, BK270, HB⟩ := hrel
  cases gk with
  | zero => exact absurd HA.out (by simp [pianolalaw03_given.l0])
  | succ k1 =>
   have H := HA.out
   clear HA
   simp only [pianolalaw03_given.l0] at H
   by_cases c10 : x4_1 < (l0_1.length : Int)
   · rw [if_pos c10] at H
     have c10b0 : decide (x4_1 < (l0_1.length : Int)) = true := decide_eq_true c10
     clear c10
     by_cases c11 : 0 ≤ x4_1
     · rw [if_pos c11] at H
       have c11b0 : decide (0 ≤ x4_1) = true := decide_eq_true c11
       clear c11
       by_cases c12 : x271001_1.length < 8796093022208
       · rw [if_pos c12] at H
         have LMc12 := Aside0.mk c12
         clear c12
         obtain ⟨y272, hy272⟩ : ∃ y_ : List (S52), y_ = (x271001_1 ++ [(⟨(rd_T47 l0_1 x4_1).f0, (rd_T47 l0_1 x4_1).f1⟩ : S52)]) := ⟨_, rfl⟩
         replace H : (pianolalaw03_given.l0 k1 (wrap64 (x4_1 + 1)) a0_0 l0_1 a0_0 y272) = some (r1, r2) := by first | (rw [hy272]; with_reducible exact H) | (have H2_ := (Option.bind_some _ _).symm.trans H; rw [hy272]; with_reducible exact H2_) | (have H2_ := (Option.bind_some _ _).symm.trans H; with_reducible exact H2_) | with_reducible exact H | (rw [hy272]; exact H) | exact H
         have Ny272 := Aside0.mk hy272
         clear hy272
         have H' := Aside0.mk H
         clear H
         have hnb13 := NB268_269.out
         have hnc13 := NB269_268.out
         have hnb14 := NB268_270.out
         have hnc14 := NB270_268.out
         have hcz15_0 := bkc_ BK268 0 (.int .i64 a0_0) rfl
         have hcz15_1 := bkc_ BK268 1 (.slice A0_1 l0_1.length c0_1) rfl
         have hfz15_0 := blk_frozen BK268.out 0
         have hfz15_1 := blk_frozen BK268.out 1
         try go_wp2
         have n0_ := Aside0.mk (Kd.R_drew HO_271001.out)
         have n1_ := Aside0.mk (blk_drew BK268.out)
         have n2_ := Aside0.mk (blk_drew BK269.out)
         have n3_ := Aside0.mk (blk_drew BK270.out)
         have n4_ := Aside0.mk (below_drew1 HB.out)
         clear HO_271001
         clear BK268
         clear BK269
         clear BK270
         clear HB
         have HO_271001 := n0_
         have BK268 := n1_
         have BK269 := n2_
         have BK270 := n3_
         have HB := n4_
         clear n0_ n1_ n2_ n3_ n4_
         have p271 : 0 ≤ (x4_1 : Int) := of_decide_eq_true (by first | (with_reducible assumption) | assumption)
         have q271 : x4_1 < (l0_1.length : Int) := of_decide_eq_true (by first | (with_reducible assumption) | assumption)
         obtain ⟨ad271, e271, hx271_0, hx271_1⟩ := at_T47 HR0_1.out x4_1 p271 q271
         have hw271_1 := hx271_1
         have hw271_0 := hx271_0
         cases e271
         replace hx271_0 := (HB.out.cell (World.block_lt_of_cell? w _ hx271_0)).trans hx271_0
         replace hx271_1 := (HB.out.cell (World.block_lt_of_cell? w _ hx271_1)).trans hx271_1
         replace p271 := eq_true p271
         replace q271 := eq_true q271
         refine start_ (n := 11) (S := fun w' => w'.cell? ⟨gb270, 0, none⟩ = some (.int .i64 a0_0) ∧ w'.cell? ⟨gb270, 1, none⟩ = some (u271001) ∧ w'.cell? ⟨gb268, 0, none⟩ = some (.int .i64 a0_0) ∧ w'.cell? ⟨gb268, 1, none⟩ = some (.slice (some ad271) l0_1.length c0_1) ∧ w'.cell? (ad271.add ((x4_1).toNat * 2)) = some (.int .i64 ((rd_T47 l0_1 x4_1).f0)) ∧ w'.cell? ⟨(ad271.add ((x4_1).toNat * 2)).block, (ad271.add ((x4_1).toNat * 2)).off + 1, none⟩ = some (.int .i64 ((rd_T47 l0_1 x4_1).f1))) (ds := [10]) #[false, false, false, false, false, false, false, false, false, false, false] (by kernel_rfl) rfl rfl ⟨(blk_cell BK270.out 0).trans rfl, (blk_cell BK270.out 1).trans rfl, (blk_cell BK268.out 0).trans rfl, (blk_cell BK268.out 1).trans rfl, ((HB.out.cell (World.block_lt_of_cell? w _ hw271_0)).trans hw271_0), ((HB.out.cell (World.block_lt_of_cell? w _ hw271_1)).trans hw271_1)⟩ (fun hHeld => ?_); refine with_tabW pianolalaw03_given.tab5 pianolalaw03_given.bits5 (fun HT_ HW_ => ?_)
         generalize wr.drew = w16 at HO_271001 BK268 BK269 BK270 HB hx271_0 hx271_1 hHeld ⊢
         refine pure_ (i := 0) (N := some 15) (v := ?_) (a' := ?_) #[true, false, false, false, false, false, false, false, false, false, false] rfl rfl (any_of HT_.out (by kernel_rfl)) (fun _ _ _ h => h) (Or.inl ⟨by rfl, ?_⟩) ?_ ?_
         rotate_left
         · intro w'
           go_simp
           with_reducible rfl
         rotate_left
         · simp only [Act.put, List.setIfInBounds_toArray, List.set_cons_zero, List.set_cons_succ, i64_w, i32_w]
           rfl
         refine pure_ (i := 2) (N := some 17) (v := ?_) (a' := ?_) #[true, false, true, false, false, false, false, false, false, false, false] rfl rfl (any_of HT_.out (by kernel_rfl)) (fun _ _ _ h => h) (Or.inl ⟨by rfl, ?_⟩) ?_ ?_
         rotate_left
         · intro w'
           go_simp
           with_reducible rfl
         rotate_left
         · simp only [Act.put, List.setIfInBounds_toArray, List.set_cons_zero, List.set_cons_succ, i64_w, i32_w]
           rfl
         refine pure_ (i := 4) (N := some 19) (v := ?_) (a' := ?_) #[true, false, true, false, true, false, false, false, false, false, false] rfl rfl (any_of HT_.out (by kernel_rfl)) (fun _ _ _ h => h) (Or.inl ⟨by rfl, ?_⟩) ?_ ?_
         rotate_left
         · intro w'
           go_simp
           with_reducible rfl
         rotate_left
         · simp only [Act.put, List.setIfInBounds_toArray, List.set_cons_zero, List.set_cons_succ, i64_w, i32_w]
           rfl
         refine take_ (i := 1) (N := some 16) (v := ?_) (a' := ?_) #[true, true, true, false, true, false, false, false, false, false, false] rfl rfl (take_ofW HT_.out HW_.out (by kernel_rfl)) (fun _ _ _ h => h) (Or.inl ⟨by rfl, ?_⟩) hHeld ?_ ?_
         rotate_left
         · rintro w' ⟨s0, s1, s2, s3, s4, s5⟩
           go_simp
           with_reducible rfl
         rotate_left
         · simp only [Act.put, List.setIfInBounds_toArray, List.set_cons_zero, List.set_cons_succ, i64_w, i32_w]
           rfl
         refine take_ (i := 3) (N := some 18) (v := ?_) (a' := ?_) #[true, true, true, true, true, false, false, false, false, false, false] rfl rfl (take_ofW HT_.out HW_.out (by kernel_rfl)) (fun _ _ _ h => h) (Or.inl ⟨by rfl, ?_⟩) hHeld ?_ ?_
         rotate_left
         · rintro w' ⟨s0, s1, s2, s3, s4, s5⟩
           go_simp
           with_reducible rfl
         rotate_left
         · simp only [Act.put, List.setIfInBounds_toArray, List.set_cons_zero, List.set_cons_succ, i64_w, i32_w]
           rfl
         refine pure_ (i := 5) (N := some 20) (v := ?_) (a' := ?_) #[true, true, true, true, true, true, false, false, false, false, false] rfl rfl (any_of HT_.out (by kernel_rfl)) (fun _ _ _ h => h) (Or.inl ⟨by rfl, ?_⟩) ?_ ?_
         rotate_left
         · intro w'
           go_simp
           with_reducible rfl
         rotate_left
         · simp only [Act.put, List.setIfInBounds_toArray, List.set_cons_zero, List.set_cons_succ, i64_w, i32_w]
           rfl
         refine take_ (i := 6) (N := some 21) (v := ?_) (a' := ?_) #[true, true, true, true, true, true, true, false, false, false, false] rfl rfl (take_ofW HT_.out HW_.out (by kernel_rfl)) (fun _ _ _ h => h) (Or.inl ⟨by rfl, ?_⟩) hHeld ?_ ?_
         rotate_left
         · rintro w' ⟨s0, s1, s2, s3, s4, s5⟩
           go_simp
           with_reducible rfl
         rotate_left
         · simp only [Act.put, List.setIfInBounds_toArray, List.set_cons_zero, List.set_cons_succ, i64_w, i32_w]
           rfl
         refine one_ (i := 7) (N := some 22) #[true, true, true, true, true, true, true, true, false, false, false] rfl rfl (one_of HT_.out (by kernel_rfl)) (by decide) (fun K hK => ?_)
         refine value_ (w1 := ?_) (v := ?_) (by rfl) rfl ?_ ?_
         rotate_left 2
         · go_simp
           constructor
           · rfl
           · rfl
         refine hK.out _ _ ⟨(blk_cell (blk_alloc BK270.out _) 0).trans rfl, (blk_cell (blk_alloc BK270.out _) 1).trans rfl, (blk_cell (blk_alloc BK268.out _) 0).trans rfl, (blk_cell (blk_alloc BK268.out _) 1).trans rfl, (World.cell?_alloc_lt _ _ _ (World.block_lt_of_cell? _ _ (((HB.out.cell (World.block_lt_of_cell? w _ hw271_0)).trans hw271_0)))).trans (((HB.out.cell (World.block_lt_of_cell? w _ hw271_0)).trans hw271_0)), (World.cell?_alloc_lt _ _ _ (World.block_lt_of_cell? _ _ (((HB.out.cell (World.block_lt_of_cell? w _ hw271_1)).trans hw271_1)))).trans (((HB.out.cell (World.block_lt_of_cell? w _ hw271_1)).trans hw271_1))⟩ (fun hHeld => ?_)
         clear hK K
         refine norm_ (a' := ?_) ?_ ?_
         rotate_left
         · show Act.put _ (some 22) _ = _
           simp only [Act.put, List.setIfInBounds_toArray, List.set_cons_zero, List.set_cons_succ, i64_w, i32_w]
           rfl
         refine one_ (i := 8) (N := some 23) #[true, true, true, true, true, true, true, true, true, false, false] rfl rfl (one_of HT_.out (by kernel_rfl)) (by decide) (fun K hK => ?_)
         refine Kd.R_append_step k52 (w0 := w) w.heap.size (by rfl) (.tmp 16) (.tmp 22) 31 52 (.agg #[(.int .i64 0), (.int .i64 0)]) 16 rfl Try.underlying31 info52 rfl (by decide) (by omega) u271001 x271001_1 (⟨(rd_T47 l0_1 x4_1).f0, (rd_T47 l0_1 x4_1).f1⟩ : S52) [.int .i64 ((rd_T47 l0_1 x4_1).f0), .int .i64 ((rd_T47 l0_1 x4_1).f1)] (fun _ => True) (fun _ => False) rfl rfl ?aP (fun _ hk => hk.elim) ?aF ?aO ?aB ?aS ?aL ?_
         (case aP => exact k52_mkM _ _ _ (⟨(rd_T47 l0_1 x4_1).f0, (rd_T47 l0_1 x4_1).f1⟩ : S52))
         (case aB => exact (blx_ HB).out)
         (case aF => exact (fun _ _ => trivial))
         (case aO => exact (by (with_reducible repeat (first | apply Kd.R_alloc | apply Kd.R_drewN | apply Kd.R_drew)); exact HO_271001.out))
         (case aS => exact (below_size (blx_ HB).out))
         (case aL => have := LMc12.out; omega)
         intro v273 w17 ho hb hg hat
         rw [← Ny272.out] at ho
         have n0_ := Aside0.mk (blk_grown (g := gb268) (o := .cells #[.int .i64 a0_0, .slice (some ad271) l0_1.length c0_1] 24 (0, 0)) (bkx_ BK268).out hg (Kd.R_ne HO_271001.out BK268.out (by decide)))
         have n1_ := Aside0.mk (blk_grown (g := gb269) (o := .cells #[.int .i64 0, .slice none 0 0] 33 (0, 0)) (bkx_ BK269).out hg (Kd.R_ne HO_271001.out BK269.out (by decide)))
         have n2_ := Aside0.mk (blk_grown (g := gb270) (o := .cells #[.int .i64 a0_0, u271001] 33 (0, 0)) (bkx_ BK270).out hg (Kd.R_ne HO_271001.out BK270.out (by decide)))
         have n3_ := Aside0.mk (hb)
         have n4_ := Aside0.mk (ho)
         clear BK268
         clear BK269
         clear BK270
         clear HB
         clear HO_271001
         have BK268 := n0_
         have BK269 := n1_
         have BK270 := n2_
         have HB := n3_
         have HO274 := n4_
         clear n0_ n1_ n2_ n3_ n4_
         clear ho hb hg hat
         obtain ⟨Ao18, co18, eo18⟩ := Kd.R_slice HO274.out
         (first | subst eo18 | (injection eo18 with f1_ f2_ f3_; have f4_ := f1_.symm; have f5_ := f3_.symm; clear f1_ f2_ f3_; subst f4_; subst f5_))
         refine hK.out _ _ ⟨(blk_cell BK270.out 0).trans rfl, (blk_cell BK270.out 1).trans rfl, (blk_cell BK268.out 0).trans rfl, (blk_cell BK268.out 1).trans rfl, ((HB.out.cell (World.block_lt_of_cell? w _ hw271_0)).trans hw271_0), ((HB.out.cell (World.block_lt_of_cell? w _ hw271_1)).trans hw271_1)⟩ (fun hHeld => ?_)
         clear hK K
         refine norm_ (a' := ?_) ?_ ?_
         rotate_left
         · show Act.put _ (some 23) _ = _
           simp only [Act.put, List.setIfInBounds_toArray, List.set_cons_zero, List.set_cons_succ, i64_w, i32_w]
           rfl
         refine pure_ (i := 9) (N := some 24) (v := ?_) (a' := ?_) #[true, true, true, true, true, true, true, true, true, true, false] rfl rfl (any_of HT_.out (by kernel_rfl)) (fun _ _ _ h => h) (Or.inl ⟨by rfl, ?_⟩) ?_ ?_
         rotate_left
         · intro w'
           go_simp
           with_reducible rfl
         rotate_left
         · simp only [Act.put, List.setIfInBounds_toArray, List.set_cons_zero, List.set_cons_succ, i64_w, i32_w]
           rfl
         refine last_ (i := 10) (N := none) #[true, true, true, true, true, true, true, true, true, true, true] rfl rfl (one_of HT_.out (by kernel_rfl)) (by decide) (fun K hK => ?_)
         have hs19 := bkc_ BK270 1 (u271001) rfl
         have hfs19 := blk_frozen BK270.out 1
         have hns19_0 := NB268_270.out
         have hns19_1 := NB269_270.out
         have hms19_0 := NB270_268.out
         have hms19_1 := NB270_269.out
         refine skip_ (w1 := ?_) (by rfl) rfl ?_ ?_
         rotate_left
         · go_simp
           rfl
         refine hK.out _ _ ?_
         clear hK K
         refine done_ (done_of HT_.out (by kernel_rfl)) ?_
         try go_wp2
         go_roundg k1
         case measure => have := HK1.out; omega
         case rel => exact ⟨(wrap64 (x4_1 + 1)), (y272), (.slice Ao18 y272.length co18), (by first | rfl | (simp; done) | (simp [*]; done)), H', ⟨by have := HK1.out; omega⟩, ⟨by (with_reducible repeat (first | apply Kd.R_alloc | apply Kd.R_drewN | apply Kd.R_drew)); exact Kd.R_mono (Kd.R_far (p := ⟨gb270, 1, none⟩) (Kd.R_types HO274.out BK270.out (by decide)) (fun _ hk => hk.2) (.slice Ao18 y272.length co18)) (fun _ hk => trivial)⟩, bkx_ BK268, bkx_ BK269, ⟨by (with_reducible repeat (first | refine blk_drewN ?_ _ | refine blk_drew ?_ | refine blk_alloc ?_ _)); refine blk_put (cs := #[.int .i64 a0_0, u271001]) ?_ 1 _ rfl; (with_reducible repeat (first | refine blk_drewN ?_ _ | refine blk_drew ?_ | refine blk_alloc ?_ _)); exact BK270.out⟩, blx_ HB⟩
       · rw [if_neg c12] at H
         exact absurd H (by simp)
     · rw [if_neg c11] at H
       exact absurd H (by simp)
   · rw [if_neg c10] at H
     have c10b0 : decide (x4_1 < (l0_1.length : Int)) = false := decide_eq_false c10
     clear c10
     simp only [Option.some.injEq, Prod.mk.injEq] at H
     obtain ⟨rfl, rfl⟩ := H
     have hnb20 := NB268_269.out
     have hnc20 := NB269_268.out
     have hnb21 := NB268_270.out
     have hnc21 := NB270_268.out
     have hcz22_0 := bkc_ BK268 0 (.int .i64 a0_0) rfl
     have hcz22_1 := bkc_ BK268 1 (.slice A0_1 l0_1.length c0_1) rfl
     have hfz22_0 := blk_frozen BK268.out 0
     have hfz22_1 := blk_frozen BK268.out 1
     have hnb23 := NB270_269.out
     have hnc23 := NB269_270.out
     have hcz24_0 := bkc_ BK270 0 (.int .i64 a0_0) rfl
     have hcz24_1 := bkc_ BK270 1 (u271001) rfl
     have hfz24_0 := blk_frozen BK270.out 0
     have hfz24_1 := blk_frozen BK270.out 1
     have hcz25_0 := bkc_ BK269 0 (.int .i64 0) rfl
     have hcz25_1 := bkc_ BK269 1 (.slice none 0 0) rfl
     have hfz25_0 := blk_frozen BK269.out 0
     have hfz25_1 := blk_frozen BK269.out 1
     obtain ⟨Ao26, co26, eo26⟩ := Kd.R_slice HO_271001.out
     subst eo26
     go_wp2
     refine bodyPost_ret (results_cell_row rfl _ _ gb269 33 #[.int .i64 a0_0, .slice Ao26 x271001_1.length co26] (0, 0) _ rfl (by (with_reducible repeat (first | refine blk_drewN ?_ _ | refine blk_drew ?_ | refine blk_alloc ?_ _)); refine blk_put (cs := #[.int .i64 a0_0, .slice none 0 0]) ?_ 1 _ rfl; (with_reducible repeat (first | refine blk_drewN ?_ _ | refine blk_drew ?_ | refine blk_alloc ?_ _)); refine blk_put (cs := #[.int .i64 0, .slice none 0 0]) ?_ 0 _ rfl; (with_reducible repeat (first | refine blk_drewN ?_ _ | refine blk_drew ?_ | refine blk_alloc ?_ _)); exact BK269.out) Try.underlying33 rfl (by kernel_rfl)) rfl ?_
     exact ⟨_, by first | rfl | (simp [errW_none, errW_some] <;> rfl) | (simp [*, errW_none, errW_some] <;> rfl), by (with_reducible repeat (first | apply Kd.R_alloc | apply Kd.R_drewN | apply Kd.R_drew)); exact Kd.R_mono (Kd.R_far (p := ⟨gb269, 1, none⟩) (Kd.R_far (p := ⟨gb269, 0, none⟩) (Kd.R_types HO_271001.out BK269.out (by decide)) (fun _ hk => hk.2) (.int .i64 a0_0)) (fun _ hk => hk.2) (.slice Ao26 x271001_1.length co26)) (fun _ hk => trivial), by repeat (first | (with_reducible first | exact HB.out | apply below_alloc | apply pw_below_drewN | apply below_drew1 | refine below_set ?_ GE268.out | refine below_set ?_ GE269.out | refine below_set ?_ GE270.out) | exact HB.out)⟩

end Go.Proofs.Ytaaonhfaoaabbaa.X
