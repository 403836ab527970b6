-- Written by a program (the kit's print, some functions told as proved by hand). Not trusted: Lean checks it.
import Derived.Test.YtaaonhfaoaabbaaXx0
import Derived.Test.YtaaonhfaoaabbaaWs
import Derived.Test.YtaaonhfaoaabbaaXx9
import Derived.Test.YtaaonhfaoaabbaaXx22
import Derived.Test.YtaaonhfaoaabbaaXx23
import Derived.Test.YtaaonhfaoaabbaaXx24
import Derived.Test.YtaaonhfaoaabbaaE1
import Derived.Test.YtaaonhfaoaabbaaE10
import Derived.Test.YtaaonhfaoaabbaaE13
import Derived.Test.YtaaonhfaoaabbaaE6
namespace Go.Proofs.Ytaaonhfaoaabbaa.X
open Go.RowKit Go.Proofs.YtaaonhfaoaabbaaW.PrintWords Go.Proofs.YtaaonhfaoaabbaaW.PrintLast Go.Proofs.YtaaonhfaoaabbaaW.PrintMore
attribute [local go_sem] max2_int min2_int max_two min_two max_three min_three max_four min_four   -- for this text's walks alone
set_option linter.unusedVariables false
set_option linter.unusedSimpArgs false

/-! ### pianolalaw03_PunchBest: function 8 -/
mutual
def pianolalaw03_PunchBest.j0 : Nat → Int → Int → Int → Bool → Int → List (S47) → Option (Bool)
 | 0, _, _, _, _, _, _ => none
 | k + 1, x5, x7, x8, x63, x512000, x512001 => if x63 = true then (none) else (if x5 = 0 then (if x8 = 8 then (if (x512001.length : Int) = 0 then ((pianolalaw03_works.f k).bind fun t523 => (some t523)) else (none)) else (none)) else (if x8 = 0 then (pianolalaw03_PunchBest.l0 k x5 x7 0 x512000 x512001) else (none)))
def pianolalaw03_PunchBest.l0 : Nat → Int → Int → Int → Int → List (S47) → Option (Bool)
 | 0, _, _, _, _, _ => none
 | k + 1, x5, x7, x11, x512000, x512001 => if x11 < 70 then ((punch_Crowd.f x512000 x512001 x11).bind fun bt524 => (if bt524.2 = 0 then (if (bt524.1.length : Int) > x5 then (none) else (if (bt524.1.length : Int) = x5 then (if x11 < x7 then (none) else (if x11 = x7 then (pianolalaw03_PunchBest.l0 k x5 x7 (wrap64 (x11 + 1)) x512000 x512001) else (pianolalaw03_PunchBest.l0 k x5 x7 (wrap64 (x11 + 1)) x512000 x512001))) else (if x11 = x7 then (none) else (pianolalaw03_PunchBest.l0 k x5 x7 (wrap64 (x11 + 1)) x512000 x512001)))) else (none))) else (if x7 ≥ 0 then (if x7 < 70 then ((pianolalaw03_works.f k).bind fun t528 => (some t528)) else (none)) else (none))
end
def pianolalaw03_PunchBest.f (k : Nat) (a0_0 : Int) (l0_1 : List (S82)) : Option (Bool) := (pianolalaw03_Lane_made.f k a0_0 l0_1).bind fun bt507 => ((punch_Passes.f bt507.1 bt507.2).bind fun bt512 => ((punch_Prove.f bt507.1 bt507.2).bind fun bt517 => ((punch_Verify.f bt507.1 bt507.2 bt512.1).bind fun bt519 => (if bt512.2.2 = 0 then (if bt519.2 = 0 then (if (bt512.1.length : Int) = (bt507.2.length : Int) then ((pianolalaw03_good.f k bt507.1 bt507.2 bt512.1).bind fun t521 => (if t521 = true then (if bt519.1 = bt512.2.1 then ((pianolalaw03_fewest.f k bt507.1 bt507.2 ([] : List Int) 0).bind fun t522 => (pianolalaw03_PunchBest.j0 k bt512.2.1 bt517.1 bt517.2 (bt512.2.1 != t522) bt507.1 bt507.2)) else (pianolalaw03_PunchBest.j0 k bt512.2.1 bt517.1 bt517.2 true bt507.1 bt507.2)) else (pianolalaw03_PunchBest.j0 k bt512.2.1 bt517.1 bt517.2 true bt507.1 bt507.2))) else (pianolalaw03_PunchBest.j0 k bt512.2.1 bt517.1 bt517.2 true bt507.1 bt507.2)) else (pianolalaw03_PunchBest.j0 k bt512.2.1 bt517.1 bt517.2 true bt507.1 bt507.2)) else (pianolalaw03_PunchBest.j0 k bt512.2.1 bt517.1 bt517.2 true bt507.1 bt507.2)))))
theorem pianolalaw03_PunchBest.mono_l : ∀ k, (∀ y0 y1 y2 y3 y4 y5, LeO (pianolalaw03_PunchBest.j0 k y0 y1 y2 y3 y4 y5) (pianolalaw03_PunchBest.j0 (k + 1) y0 y1 y2 y3 y4 y5)) ∧ (∀ y0 y1 y2 y3 y4, LeO (pianolalaw03_PunchBest.l0 k y0 y1 y2 y3 y4) (pianolalaw03_PunchBest.l0 (k + 1) y0 y1 y2 y3 y4))
 | 0 => ⟨fun _ _ _ _ _ _ r h => by simp [pianolalaw03_PunchBest.j0] at h, fun _ _ _ _ _ r h => by simp [pianolalaw03_PunchBest.l0] at h⟩
 | k + 1 => by
  obtain ⟨ih0, ih1⟩ := pianolalaw03_PunchBest.mono_l k
  refine ⟨?_, ?_⟩
  · intro y0 y1 y2 y3 y4 y5
    unfold pianolalaw03_PunchBest.j0
    repeat' first
    | (with_reducible exact ih0 _ _ _ _ _ _)
    | (with_reducible exact ih1 _ _ _ _ _)
    | (with_reducible exact pianolalaw03_Lane_made.mono _ _ _)
    | (with_reducible exact pianolalaw03_fewest.mono _ _ _ _ _)
    | (with_reducible exact pianolalaw03_good.mono _ _ _ _)
    | (with_reducible exact pianolalaw03_works.mono _)
    | (with_reducible exact LeO.refl _)
    | (with_reducible exact LeO.none _)
    | (with_reducible refine LeO.ite ?_ ?_)
    | (with_reducible refine LeO.bind ?_ (fun _ => ?_))
    | exact ih0 _ _ _ _ _ _
    | exact ih1 _ _ _ _ _
    | exact pianolalaw03_Lane_made.mono _ _ _
    | exact pianolalaw03_fewest.mono _ _ _ _ _
    | exact pianolalaw03_good.mono _ _ _ _
    | exact pianolalaw03_works.mono _
    | exact LeO.none _
    | refine LeO.ite ?_ ?_
    | refine LeO.bind ?_ (fun _ => ?_)
  · intro y0 y1 y2 y3 y4
    unfold pianolalaw03_PunchBest.l0
    repeat' first
    | (with_reducible exact ih0 _ _ _ _ _ _)
    | (with_reducible exact ih1 _ _ _ _ _)
    | (with_reducible exact pianolalaw03_Lane_made.mono _ _ _)
    | (with_reducible exact pianolalaw03_fewest.mono _ _ _ _ _)
    | (with_reducible exact pianolalaw03_good.mono _ _ _ _)
    | (with_reducible exact pianolalaw03_works.mono _)
    | (with_reducible exact LeO.refl _)
    | (with_reducible exact LeO.none _)
    | (with_reducible refine LeO.ite ?_ ?_)
    | (with_reducible refine LeO.bind ?_ (fun _ => ?_))
    | exact ih0 _ _ _ _ _ _
    | exact ih1 _ _ _ _ _
    | exact pianolalaw03_Lane_made.mono _ _ _
    | exact pianolalaw03_fewest.mono _ _ _ _ _
    | exact pianolalaw03_good.mono _ _ _ _
    | exact pianolalaw03_works.mono _
    | exact LeO.none _
    | refine LeO.ite ?_ ?_
    | refine LeO.bind ?_ (fun _ => ?_)
theorem pianolalaw03_PunchBest.mono : ∀ a0 a1 k, LeO (pianolalaw03_PunchBest.f k a0 a1) (pianolalaw03_PunchBest.f (k + 1) a0 a1) := by
 intro a0 a1 k
 obtain ⟨ih0, ih1⟩ := pianolalaw03_PunchBest.mono_l k
 unfold pianolalaw03_PunchBest.f
 repeat' first
  | (with_reducible exact ih0 _ _ _ _ _ _)
  | (with_reducible exact ih1 _ _ _ _ _)
  | (with_reducible exact pianolalaw03_Lane_made.mono _ _ _)
  | (with_reducible exact pianolalaw03_fewest.mono _ _ _ _ _)
  | (with_reducible exact pianolalaw03_good.mono _ _ _ _)
  | (with_reducible exact pianolalaw03_works.mono _)
  | (with_reducible exact LeO.refl _)
  | (with_reducible exact LeO.none _)
  | (with_reducible refine LeO.ite ?_ ?_)
  | (with_reducible refine LeO.bind ?_ (fun _ => ?_))
  | exact ih0 _ _ _ _ _ _
  | exact ih1 _ _ _ _ _
  | exact pianolalaw03_Lane_made.mono _ _ _
  | exact pianolalaw03_fewest.mono _ _ _ _ _
  | exact pianolalaw03_good.mono _ _ _ _
  | exact pianolalaw03_works.mono _
  | exact LeO.none _
  | refine LeO.ite ?_ ?_
  | refine LeO.bind ?_ (fun _ => ?_)
set_option maxHeartbeats 8000000 in
set_option maxRecDepth 100000 in
theorem pianolalaw03_PunchBest.calls (k : Nat) (a0_0 : Int) (A0_1 : Option Addr) (c0_1 : Nat) (l0_1 : List (S82)) (r : Bool) (w : World) (hr0_1 : Kd.C k82 w A0_1 l0_1.length l0_1) (hc0_1 : l0_1.length ≤ c0_1) (h : pianolalaw03_PunchBest.f k a0_0 l0_1 = some r) :
 Calls Try.prog 8 #[.agg #[.int .u8 a0_0, .slice A0_1 l0_1.length c0_1]] w fun e w' => e = .returned (.bool r) ∧ Below w.heap.size w w' := by
 have hu74 := Try.underlying74
 have hu24 := Try.underlying24
 have HR0_1 := Aside0.mk hr0_1
 have HC0_1 := Aside0.mk hc0_1
 clear hr0_1 hc0_1
 have HB := Aside0.mk (Below.refl w.heap.size w)
 have H : ((pianolalaw03_Lane_made.f k a0_0 l0_1).bind fun bt507 => ((punch_Passes.f bt507.1 bt507.2).bind fun bt512 => ((punch_Prove.f bt507.1 bt507.2).bind fun bt517 => ((punch_Verify.f bt507.1 bt507.2 bt512.1).bind fun bt519 => (if bt512.2.2 = 0 then (if bt519.2 = 0 then (if (bt512.1.length : Int) = (bt507.2.length : Int) then ((pianolalaw03_good.f k bt507.1 bt507.2 bt512.1).bind fun t521 => (if t521 = true then (if bt519.1 = bt512.2.1 then ((pianolalaw03_fewest.f k bt507.1 bt507.2 ([] : List Int) 0).bind fun t522 => (pianolalaw03_PunchBest.j0 k bt512.2.1 bt517.1 bt517.2 (bt512.2.1 != t522) bt507.1 bt507.2)) else (pianolalaw03_PunchBest.j0 k bt512.2.1 bt517.1 bt517.2 true bt507.1 bt507.2)) else (pianolalaw03_PunchBest.j0 k bt512.2.1 bt517.1 bt517.2 true bt507.1 bt507.2))) else (pianolalaw03_PunchBest.j0 k bt512.2.1 bt517.1 bt517.2 true bt507.1 bt507.2)) else (pianolalaw03_PunchBest.j0 k bt512.2.1 bt517.1 bt517.2 true bt507.1 bt507.2)) else (pianolalaw03_PunchBest.j0 k bt512.2.1 bt517.1 bt517.2 true bt507.1 bt507.2)))))) = some r := h
 clear h
 replace H := Option.bind_eq_some_iff.mp H
 obtain ⟨⟨t507, t508⟩, A20, H⟩ := H
 replace H : ((punch_Passes.f t507 t508).bind fun bt512 => ((punch_Prove.f t507 t508).bind fun bt517 => ((punch_Verify.f t507 t508 bt512.1).bind fun bt519 => (if bt512.2.2 = 0 then (if bt519.2 = 0 then (if (bt512.1.length : Int) = (t508.length : Int) then ((pianolalaw03_good.f k t507 t508 bt512.1).bind fun t521 => (if t521 = true then (if bt519.1 = bt512.2.1 then ((pianolalaw03_fewest.f k t507 t508 ([] : List Int) 0).bind fun t522 => (pianolalaw03_PunchBest.j0 k bt512.2.1 bt517.1 bt517.2 (bt512.2.1 != t522) t507 t508)) else (pianolalaw03_PunchBest.j0 k bt512.2.1 bt517.1 bt517.2 true t507 t508)) else (pianolalaw03_PunchBest.j0 k bt512.2.1 bt517.1 bt517.2 true t507 t508))) else (pianolalaw03_PunchBest.j0 k bt512.2.1 bt517.1 bt517.2 true t507 t508)) else (pianolalaw03_PunchBest.j0 k bt512.2.1 bt517.1 bt517.2 true t507 t508)) else (pianolalaw03_PunchBest.j0 k bt512.2.1 bt517.1 bt517.2 true t507 t508))))) = some r := H
 have A2 := Aside0.mk A20
 clear A20
 replace H := Option.bind_eq_some_iff.mp H
 obtain ⟨⟨t512, t515, t516⟩, A30, H⟩ := H
 replace H : ((punch_Prove.f t507 t508).bind fun bt517 => ((punch_Verify.f t507 t508 t512).bind fun bt519 => (if t516 = 0 then (if bt519.2 = 0 then (if (t512.length : Int) = (t508.length : Int) then ((pianolalaw03_good.f k t507 t508 t512).bind fun t521 => (if t521 = true then (if bt519.1 = t515 then ((pianolalaw03_fewest.f k t507 t508 ([] : List Int) 0).bind fun t522 => (pianolalaw03_PunchBest.j0 k t515 bt517.1 bt517.2 (t515 != t522) t507 t508)) else (pianolalaw03_PunchBest.j0 k t515 bt517.1 bt517.2 true t507 t508)) else (pianolalaw03_PunchBest.j0 k t515 bt517.1 bt517.2 true t507 t508))) else (pianolalaw03_PunchBest.j0 k t515 bt517.1 bt517.2 true t507 t508)) else (pianolalaw03_PunchBest.j0 k t515 bt517.1 bt517.2 true t507 t508)) else (pianolalaw03_PunchBest.j0 k t515 bt517.1 bt517.2 true t507 t508)))) = some r := H
 have A3 := Aside0.mk A30
 clear A30
 replace H := Option.bind_eq_some_iff.mp H
 obtain ⟨⟨t517, t518⟩, A40, H⟩ := H
 replace H : ((punch_Verify.f t507 t508 t512).bind fun bt519 => (if t516 = 0 then (if bt519.2 = 0 then (if (t512.length : Int) = (t508.length : Int) then ((pianolalaw03_good.f k t507 t508 t512).bind fun t521 => (if t521 = true then (if bt519.1 = t515 then ((pianolalaw03_fewest.f k t507 t508 ([] : List Int) 0).bind fun t522 => (pianolalaw03_PunchBest.j0 k t515 t517 t518 (t515 != t522) t507 t508)) else (pianolalaw03_PunchBest.j0 k t515 t517 t518 true t507 t508)) else (pianolalaw03_PunchBest.j0 k t515 t517 t518 true t507 t508))) else (pianolalaw03_PunchBest.j0 k t515 t517 t518 true t507 t508)) else (pianolalaw03_PunchBest.j0 k t515 t517 t518 true t507 t508)) else (pianolalaw03_PunchBest.j0 k t515 t517 t518 true t507 t508))) = some r := H
 have A4 := Aside0.mk A40
 clear A40
 replace H := Option.bind_eq_some_iff.mp H
 obtain ⟨⟨t519, t520⟩, A50, H⟩ := H
 replace H : (if t516 = 0 then (if t520 = 0 then (if (t512.length : Int) = (t508.length : Int) then ((pianolalaw03_good.f k t507 t508 t512).bind fun t521 => (if t521 = true then (if t519 = t515 then ((pianolalaw03_fewest.f k t507 t508 ([] : List Int) 0).bind fun t522 => (pianolalaw03_PunchBest.j0 k t515 t517 t518 (t515 != t522) t507 t508)) else (pianolalaw03_PunchBest.j0 k t515 t517 t518 true t507 t508)) else (pianolalaw03_PunchBest.j0 k t515 t517 t518 true t507 t508))) else (pianolalaw03_PunchBest.j0 k t515 t517 t518 true t507 t508)) else (pianolalaw03_PunchBest.j0 k t515 t517 t518 true t507 t508)) else (pianolalaw03_PunchBest.j0 k t515 t517 t518 true t507 t508)) = some r := H
 have A5 := Aside0.mk A50
 clear A50
 have HC6 := Aside0.mk H
 clear H
 go_enter Try.func8, Try.ntmps8
 go_upto_region 5 with (first | ((with_reducible refine gate_dst (N := 1) rfl ?_); (try (refine gate_guard (by rfl) ?_; dsimp only)); refine box_event ?hg (N := 1) ?hd (cs := #[.int .u8 a0_0, .slice A0_1 l0_1.length c0_1]) (t := 74) ?hr ?_; (case hd => rfl); (case hg => rfl); (case hr => first | (go_simp; done) | (go_simp; rfl)); intro gb506 hg w7 hbox hb; have BK506 := Aside0.mk (hbox); have GW506 := bgw_ HB hg; have GE506 := bgw_ HB hg; replace HB := bls_ HB hb; clear hb hbox hg; have hcz8_0 := bkc_ BK506 0 (.int .u8 a0_0) rfl; have hcz8_1 := bkc_ BK506 1 (.slice A0_1 l0_1.length c0_1) rfl; have hfz8_0 := blk_frozen BK506.out 0; have hfz8_1 := blk_frozen BK506.out 1) | ((with_reducible refine gate_callee (f := 38) rfl ?_); refine goesL_ (some 15) rfl rfl Try.func38 (by kernel_rfl) rfl #[.agg #[.int .u8 a0_0, .slice A0_1 l0_1.length c0_1]] rfl (by (try simp only [List.map_toArray, List.map_cons, List.map_nil]); first | done | rfl | (simp only [List.length_drop, List.length_take]; rfl)) ?_; (with_reducible refine (pianolalaw03_Lane_made.calls k a0_0 _ _ l0_1 t507 t508 _ ?side1 ?side2 A2.out).mono ?_); (case side1 => repeat (first | exact (Kd.C_below HR0_1.out HB.out) | (with_reducible refine Kd.C_alloc ?_ _) | (with_reducible refine Kd.C_drewN ?_ _) | (with_reducible refine Kd.C_drew ?_))); (case side2 => exact HC0_1.out); rintro e w9 ⟨v509, rfl, ho0, hb⟩; refine ⟨_, rfl, ?_⟩; have HO510 := Aside0.mk (Kd.R_lower ho0 (below_size (blx_ HB).out)); replace BK506 := bkb_ BK506 hb; replace HB := bls_ HB hb; (try clear hb); (try clear hb2); (try clear hk); (try clear hi); (try clear ho0)) | ((with_reducible refine gate_dst (N := 3) rfl ?_); (try (refine gate_guard (by rfl) ?_; dsimp only)); refine box_event ?hg (N := 3) ?hd (cs := #[.int .i64 0, .slice none 0 0]) (t := 24) ?hr ?_; (case hd => rfl); (case hg => rfl); (case hr => first | (go_simp; done) | (go_simp; rfl)); intro gb511 hg w10 hbox hb; have n0_ := Aside0.mk (Kd.R_below (by (with_reducible repeat (first | apply Kd.R_alloc | apply Kd.R_drewN | apply Kd.R_drew)); exact HO510.out) hb); have n1_ := bkb_ BK506 hb; have n2_ := bls_ HB hb; have n3_ := Aside0.mk (hbox); have n4_ := bgw_ HB hg; have n5_ := bgw_ HB hg; have n6_ := bnl_ BK506 hg; have n7_ := bng_ BK506 hg; clear HO510; clear BK506; clear HB; have HO510 := n0_; have BK506 := n1_; have HB := n2_; have BK511 := n3_; have GW511 := n4_; have GE511 := n5_; have NB506_511 := n6_; have NB511_506 := n7_; clear n0_ n1_ n2_ n3_ n4_ n5_ n6_ n7_; clear hb hbox hg; have hnb11 := NB511_506.out; have hnc11 := NB506_511.out; have hcz12_0 := bkc_ BK511 0 (.int .i64 0) rfl; have hcz12_1 := bkc_ BK511 1 (.slice none 0 0) rfl; have hfz12_0 := blk_frozen BK511.out 0; have hfz12_1 := blk_frozen BK511.out 1; obtain ⟨Ao13, co13, eo13⟩ := Kd.R_slice HO510.out; subst eo13) | ((with_reducible refine gate_callee (f := 22) rfl ?_); refine goesL_ (some 18) rfl rfl Try.func22 (by kernel_rfl) rfl #[.agg #[.int .i64 t507, .slice Ao13 t508.length co13]] rfl (by (try simp only [List.map_toArray, List.map_cons, List.map_nil]); first | done | rfl | (simp only [List.length_drop, List.length_take]; rfl)) ?_; (with_reducible refine (punch_Passes.calls t507 _ _ t508 t512 t515 t516 _ ?side1 ?side2 A3.out).mono ?_); (case side1 => refine (Kd.R_reads' (e := 47) (base := w.heap.size) (ok := fun k_ => True) (n := t508.length) (c := co13) ?_).2.2; exact (by (with_reducible repeat (first | apply Kd.R_alloc | apply Kd.R_drewN | apply Kd.R_drew)); exact (Kd.R_mono (Kd.R_far (p := ⟨gb511, 1, none⟩) (Kd.R_far (p := ⟨gb511, 0, none⟩) (Kd.R_types HO510.out BK511.out (by decide)) (fun _ hk => hk.2) (.int .i64 t507)) (fun _ hk => hk.2) (.slice Ao13 t508.length co13)) (fun _ h_ => h_.1)))); (case side2 => exact (Kd.R_reads' HO510.out).2.1); rintro e w14 ⟨v513, rfl, ho0, hb⟩; refine ⟨_, rfl, ?_⟩; have n0_ := Aside0.mk (Kd.R_below (by (with_reducible repeat (first | apply Kd.R_alloc | apply Kd.R_drewN | apply Kd.R_drew)); exact (Kd.R_mono (Kd.R_far (p := ⟨gb511, 1, none⟩) (Kd.R_far (p := ⟨gb511, 0, none⟩) (Kd.R_types HO510.out BK511.out (by decide)) (fun _ hk => hk.2) (.int .i64 t507)) (fun _ hk => hk.2) (.slice Ao13 t508.length co13)) (fun _ h_ => h_.1))) hb); have n1_ := Aside0.mk (Kd.R_lower ho0 (below_size (blx_ HB).out)); have n2_ := bkb_ BK506 hb; have n3_ := Aside0.mk (blk_below (g := gb511) (o := .cells #[.int .i64 t507, .slice Ao13 t508.length co13] 24 (0, 0)) (by (with_reducible repeat (first | refine blk_drewN ?_ _ | refine blk_drew ?_ | refine blk_alloc ?_ _)); refine blk_put (cs := #[.int .i64 t507, .slice none 0 0]) ?_ 1 _ rfl; (with_reducible repeat (first | refine blk_drewN ?_ _ | refine blk_drew ?_ | refine blk_alloc ?_ _)); refine blk_put (cs := #[.int .i64 0, .slice none 0 0]) ?_ 0 _ rfl; (with_reducible repeat (first | refine blk_drewN ?_ _ | refine blk_drew ?_ | refine blk_alloc ?_ _)); exact BK511.out) hb); have n4_ := bls_ HB hb; clear HO510; clear BK506; clear BK511; clear HB; have HO510 := n0_; have HO514 := n1_; have BK506 := n2_; have BK511 := n3_; have HB := n4_; clear n0_ n1_ n2_ n3_ n4_; (try clear hb); (try clear hb2); (try clear hk); (try clear hi); (try clear ho0); have hcz15_0 := bkc_ BK511 0 (.int .i64 t507) rfl; have hcz15_1 := bkc_ BK511 1 (.slice Ao13 t508.length co13) rfl; have hfz15_0 := blk_frozen BK511.out 0; have hfz15_1 := blk_frozen BK511.out 1) | ((with_reducible refine gate_callee (f := 24) rfl ?_); refine goesL_ (some 24) rfl rfl Try.func24 (by kernel_rfl) rfl #[.agg #[.int .i64 t507, .slice Ao13 t508.length co13]] rfl (by (try simp only [List.map_toArray, List.map_cons, List.map_nil]); first | done | rfl | (simp only [List.length_drop, List.length_take]; rfl)) ?_; (with_reducible refine (punch_Prove.calls t507 _ _ t508 t517 t518 _ ?side1 ?side2 A4.out).mono ?_); (case side1 => repeat (first | exact (Kd.R_reads' HO510.out).2.2 | (with_reducible refine Kd.C_alloc ?_ _) | (with_reducible refine Kd.C_drewN ?_ _) | (with_reducible refine Kd.C_drew ?_))); (case side2 => exact (Kd.R_reads' HO510.out).2.1); rintro e w16 ⟨rfl, hb⟩; refine ⟨_, rfl, ?_⟩; have n0_ := Aside0.mk (Kd.R_below (by (with_reducible repeat (first | apply Kd.R_alloc | apply Kd.R_drewN | apply Kd.R_drew)); exact HO510.out) hb); have n1_ := Aside0.mk (Kd.R_below (by (with_reducible repeat (first | apply Kd.R_alloc | apply Kd.R_drewN | apply Kd.R_drew)); exact HO514.out) hb); have n2_ := bkb_ BK506 hb; have n3_ := bkb_ BK511 hb; have n4_ := bls_ HB hb; clear HO510; clear HO514; clear BK506; clear BK511; clear HB; have HO510 := n0_; have HO514 := n1_; have BK506 := n2_; have BK511 := n3_; have HB := n4_; clear n0_ n1_ n2_ n3_ n4_; (try clear hb); (try clear hb2); (try clear hk); (try clear hi); have hcz17_0 := bkc_ BK511 0 (.int .i64 t507) rfl; have hcz17_1 := bkc_ BK511 1 (.slice Ao13 t508.length co13) rfl; have hfz17_0 := blk_frozen BK511.out 0; have hfz17_1 := blk_frozen BK511.out 1; obtain ⟨Ao18, co18, eo18⟩ := Kd.R_slice HO514.out; subst eo18) | ((with_reducible refine gate_callee (f := 26) rfl ?_); refine goesL_ (some 30) rfl rfl Try.func26 (by kernel_rfl) rfl #[.agg #[.int .i64 t507, .slice Ao13 t508.length co13], .slice Ao18 t512.length co18] rfl (by (try simp only [List.map_toArray, List.map_cons, List.map_nil]); first | done | rfl | (simp only [List.length_drop, List.length_take]; rfl)) ?_; (with_reducible refine (punch_Verify.calls t507 _ _ t508 _ _ t512 t519 t520 _ ?side1 ?side2 ?side3 ?side4 A5.out).mono ?_); (case side1 => repeat (first | exact (Kd.R_reads' HO510.out).2.2 | (with_reducible refine Kd.C_alloc ?_ _) | (with_reducible refine Kd.C_drewN ?_ _) | (with_reducible refine Kd.C_drew ?_))); (case side2 => exact (Kd.R_reads' HO510.out).2.1); (case side3 => repeat (first | exact (Kd.R_reads' HO514.out).2.2 | (with_reducible refine Kd.C_alloc ?_ _) | (with_reducible refine Kd.C_drewN ?_ _) | (with_reducible refine Kd.C_drew ?_))); (case side4 => exact (Kd.R_reads' HO514.out).2.1); rintro e w19 ⟨rfl, hb⟩; refine ⟨_, rfl, ?_⟩; have n0_ := Aside0.mk (Kd.R_below (by (with_reducible repeat (first | apply Kd.R_alloc | apply Kd.R_drewN | apply Kd.R_drew)); exact HO510.out) hb); have n1_ := Aside0.mk (Kd.R_below (by (with_reducible repeat (first | apply Kd.R_alloc | apply Kd.R_drewN | apply Kd.R_drew)); exact HO514.out) hb); have n2_ := bkb_ BK506 hb; have n3_ := bkb_ BK511 hb; have n4_ := bls_ HB hb; clear HO510; clear HO514; clear BK506; clear BK511; clear HB; have HO510 := n0_; have HO514 := n1_; have BK506 := n2_; have BK511 := n3_; have HB := n4_; clear n0_ n1_ n2_ n3_ n4_; (try clear hb); (try clear hb2); (try clear hk); (try clear hi)))
 (try simp only [Act.put, List.setIfInBounds_toArray, List.set_cons_zero, List.set_cons_succ])
 go_cut [63] (fun v63 wc => ∃ (kq : Nat) (x63_5 : Bool), v63 = .bool x63_5 ∧ Aside0 (pianolalaw03_PunchBest.j0 kq t515 t517 t518 x63_5 t507 t508 = some r) ∧ Aside0 (kq ≤ k) ∧ Aside0 (Kd.R k47 47 wc w.heap.size (fun _ => True) (.slice Ao13 t508.length co13) t508) ∧ Aside0 (wc.heap[gb506]? = some (.cells #[.int .u8 a0_0, (.slice A0_1 l0_1.length c0_1)] 74 (0, 0))) ∧ Aside0 (wc.heap[gb511]? = some (.cells #[.int .i64 t507, (.slice Ao13 t508.length co13)] 24 (0, 0))) ∧ Aside0 (Below w.heap.size w wc))
 case first =>
  have H := HC6.out
  clear HC6
  by_cases c20 : t516 = 0
  · rw [if_pos c20] at H
    have c20b0 : (t516 == 0) = true := beq_iff_eq.mpr c20
    have c20b1 : (t516 != 0) = false := bne_eq_false_iff_eq.mpr c20
    clear c20
    (first | rw [c20b0] | (simp only [i64_w, i32_w]; rw [c20b0]) | skip)
    by_cases c21 : t520 = 0
    · rw [if_pos c21] at H
      have c21b0 : (t520 == 0) = true := beq_iff_eq.mpr c21
      have c21b1 : (t520 != 0) = false := bne_eq_false_iff_eq.mpr c21
      clear c21
      by_cases c22 : (t512.length : Int) = (t508.length : Int)
      · rw [if_pos c22] at H
        have c22b0 : ((t512.length : Int) == (t508.length : Int)) = true := beq_iff_eq.mpr c22
        have c22b1 : ((t512.length : Int) != (t508.length : Int)) = false := bne_eq_false_iff_eq.mpr c22
        have c22b2 : (t512.length == t508.length) = true := by first | simpa using c22 | (simp at c22 ⊢; omega)
        clear c22
        replace H := Option.bind_eq_some_iff.mp H
        obtain ⟨t521, A230, H⟩ := H
        replace H : (if t521 = true then (if t519 = t515 then ((pianolalaw03_fewest.f k t507 t508 ([] : List Int) 0).bind fun t522 => (pianolalaw03_PunchBest.j0 k t515 t517 t518 (t515 != t522) t507 t508)) else (pianolalaw03_PunchBest.j0 k t515 t517 t518 true t507 t508)) else (pianolalaw03_PunchBest.j0 k t515 t517 t518 true t507 t508)) = some r := H
        have A23 := Aside0.mk A230
        clear A230
        by_cases c24 : t521 = true
        · subst c24
          have H1 : (if t519 = t515 then ((pianolalaw03_fewest.f k t507 t508 ([] : List Int) 0).bind fun t522 => (pianolalaw03_PunchBest.j0 k t515 t517 t518 (t515 != t522) t507 t508)) else (pianolalaw03_PunchBest.j0 k t515 t517 t518 true t507 t508)) = some r := by rw [if_pos rfl] at H; exact H
          clear H
          have H := H1
          clear H1
          by_cases c25 : t519 = t515
          · rw [if_pos c25] at H
            have c25b0 : (t519 == t515) = true := beq_iff_eq.mpr c25
            have c25b1 : (t519 != t515) = false := bne_eq_false_iff_eq.mpr c25
            clear c25
            replace H := Option.bind_eq_some_iff.mp H
            obtain ⟨t522, A260, H⟩ := H
            replace H : (pianolalaw03_PunchBest.j0 k t515 t517 t518 (t515 != t522) t507 t508) = some r := H
            have A26 := Aside0.mk A260
            clear A260
            have H' := Aside0.mk H
            clear H
            have hnb27 := NB511_506.out
            have hnc27 := NB506_511.out
            have hcz28_0 := bkc_ BK511 0 (.int .i64 t507) rfl
            have hcz28_1 := bkc_ BK511 1 (.slice Ao13 t508.length co13) rfl
            have hfz28_0 := blk_frozen BK511.out 0
            have hfz28_1 := blk_frozen BK511.out 1
            go_wp2_with (first | (go_at_call 39; (with_reducible refine (pianolalaw03_good.calls k t507 _ _ t508 _ _ t512 true _ ?side1 ?side2 ?side3 ?side4 A23.out).mono ?_); (case side1 => repeat (first | exact (Kd.R_reads' HO510.out).2.2 | (with_reducible refine Kd.C_alloc ?_ _) | (with_reducible refine Kd.C_drewN ?_ _) | (with_reducible refine Kd.C_drew ?_))); (case side2 => exact (Kd.R_reads' HO510.out).2.1); (case side3 => repeat (first | exact (Kd.R_reads' HO514.out).2.2 | (with_reducible refine Kd.C_alloc ?_ _) | (with_reducible refine Kd.C_drewN ?_ _) | (with_reducible refine Kd.C_drew ?_))); (case side4 => exact (Kd.R_reads' HO514.out).2.1); rintro e w29 ⟨rfl, hb⟩; have n0_ := Aside0.mk (Kd.R_below (by (with_reducible repeat (first | apply Kd.R_alloc | apply Kd.R_drewN | apply Kd.R_drew)); exact HO510.out) hb); have n1_ := Aside0.mk (Kd.R_below (by (with_reducible repeat (first | apply Kd.R_alloc | apply Kd.R_drewN | apply Kd.R_drew)); exact HO514.out) hb); have n2_ := bkb_ BK506 hb; have n3_ := bkb_ BK511 hb; have n4_ := bls_ HB hb; clear HO510; clear HO514; clear BK506; clear BK511; clear HB; have HO510 := n0_; have HO514 := n1_; have BK506 := n2_; have BK511 := n3_; have HB := n4_; clear n0_ n1_ n2_ n3_ n4_; (try clear hb); (try clear hb2); (try clear hk); (try clear hi); have hcz30_0 := bkc_ BK511 0 (.int .i64 t507) rfl; have hcz30_1 := bkc_ BK511 1 (.slice Ao13 t508.length co13) rfl; have hfz30_0 := blk_frozen BK511.out 0; have hfz30_1 := blk_frozen BK511.out 1) | (go_at_call 40; (refine (pianolalaw03_fewest.calls k t507 _ _ t508 _ _ ([] : List Int) 0 t522 _ ?side1 ?side2 ?side3 ?side4 A26.out).mono ?_); (case side1 => repeat (first | exact (Kd.R_reads' HO510.out).2.2 | (with_reducible refine Kd.C_alloc ?_ _) | (with_reducible refine Kd.C_drewN ?_ _) | (with_reducible refine Kd.C_drew ?_))); (case side2 => exact (Kd.R_reads' HO510.out).2.1); (case side3 => exact Kd.C_nil _ _); (case side4 => exact Nat.le_refl _); rintro e w31 ⟨rfl, hb⟩; have n0_ := Aside0.mk (Kd.R_below (by (with_reducible repeat (first | apply Kd.R_alloc | apply Kd.R_drewN | apply Kd.R_drew)); exact HO510.out) hb); have n1_ := Aside0.mk (Kd.R_below (by (with_reducible repeat (first | apply Kd.R_alloc | apply Kd.R_drewN | apply Kd.R_drew)); exact HO514.out) hb); have n2_ := bkb_ BK506 hb; have n3_ := bkb_ BK511 hb; have n4_ := bls_ HB hb; clear HO510; clear HO514; clear BK506; clear BK511; clear HB; have HO510 := n0_; have HO514 := n1_; have BK506 := n2_; have BK511 := n3_; have HB := n4_; clear n0_ n1_ n2_ n3_ n4_; (try clear hb); (try clear hb2); (try clear hk); (try clear hi)))
            go_meet
            case rel => exact ⟨_, ((t515 != t522)), (by first | rfl | (simp; done) | (simp [*]; done)), H', ⟨by first | omega | exact Nat.le_refl _⟩, ⟨by (with_reducible repeat (first | apply Kd.R_alloc | apply Kd.R_drewN | apply Kd.R_drew)); exact HO510.out⟩, bkx_ BK506, bkx_ BK511, blx_ HB⟩
          · rw [if_neg c25] at H
            have c25b0 : (t519 == t515) = false := beq_eq_false_iff_ne.mpr c25
            have c25b1 : (t519 != t515) = true := bne_iff_ne.mpr c25
            have H' := Aside0.mk H
            clear H
            have hnb32 := NB511_506.out
            have hnc32 := NB506_511.out
            have hcz33_0 := bkc_ BK511 0 (.int .i64 t507) rfl
            have hcz33_1 := bkc_ BK511 1 (.slice Ao13 t508.length co13) rfl
            have hfz33_0 := blk_frozen BK511.out 0
            have hfz33_1 := blk_frozen BK511.out 1
            go_wp2_with (first | (go_at_call 39; (with_reducible refine (pianolalaw03_good.calls k t507 _ _ t508 _ _ t512 true _ ?side1 ?side2 ?side3 ?side4 A23.out).mono ?_); (case side1 => repeat (first | exact (Kd.R_reads' HO510.out).2.2 | (with_reducible refine Kd.C_alloc ?_ _) | (with_reducible refine Kd.C_drewN ?_ _) | (with_reducible refine Kd.C_drew ?_))); (case side2 => exact (Kd.R_reads' HO510.out).2.1); (case side3 => repeat (first | exact (Kd.R_reads' HO514.out).2.2 | (with_reducible refine Kd.C_alloc ?_ _) | (with_reducible refine Kd.C_drewN ?_ _) | (with_reducible refine Kd.C_drew ?_))); (case side4 => exact (Kd.R_reads' HO514.out).2.1); rintro e w34 ⟨rfl, hb⟩; have n0_ := Aside0.mk (Kd.R_below (by (with_reducible repeat (first | apply Kd.R_alloc | apply Kd.R_drewN | apply Kd.R_drew)); exact HO510.out) hb); have n1_ := Aside0.mk (Kd.R_below (by (with_reducible repeat (first | apply Kd.R_alloc | apply Kd.R_drewN | apply Kd.R_drew)); exact HO514.out) hb); have n2_ := bkb_ BK506 hb; have n3_ := bkb_ BK511 hb; have n4_ := bls_ HB hb; clear HO510; clear HO514; clear BK506; clear BK511; clear HB; have HO510 := n0_; have HO514 := n1_; have BK506 := n2_; have BK511 := n3_; have HB := n4_; clear n0_ n1_ n2_ n3_ n4_; (try clear hb); (try clear hb2); (try clear hk); (try clear hi)))
            go_meet
            case rel => exact ⟨_, (true), (by first | rfl | (simp; done) | (simp [*]; done)), H', ⟨by first | omega | exact Nat.le_refl _⟩, ⟨by (with_reducible repeat (first | apply Kd.R_alloc | apply Kd.R_drewN | apply Kd.R_drew)); exact HO510.out⟩, bkx_ BK506, bkx_ BK511, blx_ HB⟩
        · replace c24 := Bool.eq_false_iff.mpr c24
          subst c24
          have H1 : (pianolalaw03_PunchBest.j0 k t515 t517 t518 true t507 t508) = some r := by rw [if_neg (show ¬ (false = true) by decide)] at H; exact H
          clear H
          have H := H1
          clear H1
          have H' := Aside0.mk H
          clear H
          have hnb35 := NB511_506.out
          have hnc35 := NB506_511.out
          have hcz36_0 := bkc_ BK511 0 (.int .i64 t507) rfl
          have hcz36_1 := bkc_ BK511 1 (.slice Ao13 t508.length co13) rfl
          have hfz36_0 := blk_frozen BK511.out 0
          have hfz36_1 := blk_frozen BK511.out 1
          go_wp2_with (first | (go_at_call 39; (with_reducible refine (pianolalaw03_good.calls k t507 _ _ t508 _ _ t512 false _ ?side1 ?side2 ?side3 ?side4 A23.out).mono ?_); (case side1 => repeat (first | exact (Kd.R_reads' HO510.out).2.2 | (with_reducible refine Kd.C_alloc ?_ _) | (with_reducible refine Kd.C_drewN ?_ _) | (with_reducible refine Kd.C_drew ?_))); (case side2 => exact (Kd.R_reads' HO510.out).2.1); (case side3 => repeat (first | exact (Kd.R_reads' HO514.out).2.2 | (with_reducible refine Kd.C_alloc ?_ _) | (with_reducible refine Kd.C_drewN ?_ _) | (with_reducible refine Kd.C_drew ?_))); (case side4 => exact (Kd.R_reads' HO514.out).2.1); rintro e w37 ⟨rfl, hb⟩; have n0_ := Aside0.mk (Kd.R_below (by (with_reducible repeat (first | apply Kd.R_alloc | apply Kd.R_drewN | apply Kd.R_drew)); exact HO510.out) hb); have n1_ := Aside0.mk (Kd.R_below (by (with_reducible repeat (first | apply Kd.R_alloc | apply Kd.R_drewN | apply Kd.R_drew)); exact HO514.out) hb); have n2_ := bkb_ BK506 hb; have n3_ := bkb_ BK511 hb; have n4_ := bls_ HB hb; clear HO510; clear HO514; clear BK506; clear BK511; clear HB; have HO510 := n0_; have HO514 := n1_; have BK506 := n2_; have BK511 := n3_; have HB := n4_; clear n0_ n1_ n2_ n3_ n4_; (try clear hb); (try clear hb2); (try clear hk); (try clear hi)))
          go_meet
          case rel => exact ⟨_, (true), (by first | rfl | (simp; done) | (simp [*]; done)), H', ⟨by first | omega | exact Nat.le_refl _⟩, ⟨by (with_reducible repeat (first | apply Kd.R_alloc | apply Kd.R_drewN | apply Kd.R_drew)); exact HO510.out⟩, bkx_ BK506, bkx_ BK511, blx_ HB⟩
      · rw [if_neg c22] at H
        have c22b0 : ((t512.length : Int) == (t508.length : Int)) = false := beq_eq_false_iff_ne.mpr c22
        have c22b1 : ((t512.length : Int) != (t508.length : Int)) = true := bne_iff_ne.mpr c22
        have c22b2 : (t512.length == t508.length) = false := by first | simpa using c22 | (simp at c22 ⊢; omega)
        have H' := Aside0.mk H
        clear H
        have hnb38 := NB511_506.out
        have hnc38 := NB506_511.out
        have hcz39_0 := bkc_ BK511 0 (.int .i64 t507) rfl
        have hcz39_1 := bkc_ BK511 1 (.slice Ao13 t508.length co13) rfl
        have hfz39_0 := blk_frozen BK511.out 0
        have hfz39_1 := blk_frozen BK511.out 1
        go_wp2
        go_meet
        case rel => exact ⟨_, (true), (by first | rfl | (simp; done) | (simp [*]; done)), H', ⟨by first | omega | exact Nat.le_refl _⟩, ⟨by (with_reducible repeat (first | apply Kd.R_alloc | apply Kd.R_drewN | apply Kd.R_drew)); exact HO510.out⟩, bkx_ BK506, bkx_ BK511, blx_ HB⟩
    · rw [if_neg c21] at H
      have c21b0 : (t520 == 0) = false := beq_eq_false_iff_ne.mpr c21
      have c21b1 : (t520 != 0) = true := bne_iff_ne.mpr c21
      have H' := Aside0.mk H
      clear H
      go_wp2
      go_meet
      case rel => exact ⟨_, (true), (by first | rfl | (simp; done) | (simp [*]; done)), H', ⟨by first | omega | exact Nat.le_refl _⟩, ⟨by (with_reducible repeat (first | apply Kd.R_alloc | apply Kd.R_drewN | apply Kd.R_drew)); exact HO510.out⟩, bkx_ BK506, bkx_ BK511, blx_ HB⟩
  · rw [if_neg c20] at H
    have c20b0 : (t516 == 0) = false := beq_eq_false_iff_ne.mpr c20
    have c20b1 : (t516 != 0) = true := bne_iff_ne.mpr c20
    (first | rw [c20b0] | (simp only [i64_w, i32_w]; rw [c20b0]) | skip)
    have H' := Aside0.mk H
    clear H
    go_wp2
    go_meet
    case rel => exact ⟨_, (true), (by first | rfl | (simp; done) | (simp [*]; done)), H', ⟨by first | omega | exact Nat.le_refl _⟩, ⟨by (with_reducible repeat (first | apply Kd.R_alloc | apply Kd.R_drewN | apply Kd.R_drew)); exact HO510.out⟩, bkx_ BK506, bkx_ BK511, blx_ HB⟩
 case rest =>
  clear HC6
  try clear c1
  try clear c2
  try clear p2
  try clear c3
  try clear c8
  try clear c11
  try clear c20
  try clear c20b0
  try clear c20b1
  try clear c21
  try clear c21b0
  try clear c21b1
  try clear c22
  try clear c22b0
  try clear c22b1
  try clear c22b2
  try clear c24
  try clear c25
  try clear c25b0
  try clear c25b1
  try clear c26
  try clear c27
  try clear c32
  try clear c35
  try clear c38
  try clear hcz12_0
  try clear hcz12_1
  try clear hcz15_0
  try clear hcz15_1
  try clear hcz17_0
  try clear hcz17_1
  try clear hcz28_0
  try clear hcz28_1
  try clear hcz30_0
  try clear hcz30_1
  try clear hcz33_0
  try clear hcz33_1
  try clear hcz36_0
  try clear hcz36_1
  try clear hcz39_0
  try clear hcz39_1
  try clear hcz8_0
  try clear hcz8_1
  try clear hfz12_0
  try clear hfz12_1
  try clear hfz15_0
  try clear hfz15_1
  try clear hfz17_0
  try clear hfz17_1
  try clear hfz28_0
  try clear hfz28_1
  try clear hfz30_0
  try clear hfz30_1
  try clear hfz33_0
  try clear hfz33_1
  try clear hfz36_0
  try clear hfz36_1
  try clear hfz39_0
  try clear hfz39_1
  try clear hfz8_0
  try clear hfz8_1
  obtain ⟨kq, x63_5, rfl, HA, HJ5, HO_512001, BK506, BK511, HB⟩ := hcut
  cases kq with
  | zero => exact absurd HA.out (by simp [pianolalaw03_PunchBest.j0])
  | succ kj5 =>
   have H := HA.out
   clear HA
   simp only [pianolalaw03_PunchBest.j0] at H
   by_cases c40 : x63_5 = true
   · subst c40
     have H1 : (none) = some r := by rw [if_pos rfl] at H; exact H
     clear H
     have H := H1
     clear H1
     exact absurd H (by simp)
   · replace c40 := Bool.eq_false_iff.mpr c40
     subst c40
     have H1 : (if t515 = 0 then (if t518 = 8 then (if (t508.length : Int) = 0 then ((pianolalaw03_works.f kj5).bind fun t523 => (some t523)) else (none)) else (none)) else (if t518 = 0 then (pianolalaw03_PunchBest.l0 kj5 t515 t517 0 t507 t508) else (none))) = some r := by rw [if_neg (show ¬ (false = true) by decide)] at H; exact H
     clear H
     have H := H1
     clear H1
     by_cases c41 : t515 = 0
     · rw [if_pos c41] at H
       have c41b0 : (t515 == 0) = true := beq_iff_eq.mpr c41
       have c41b1 : (t515 != 0) = false := bne_eq_false_iff_eq.mpr c41
       clear c41
       by_cases c42 : t518 = 8
       · rw [if_pos c42] at H
         have c42b0 : (t518 == 8) = true := beq_iff_eq.mpr c42
         have c42b1 : (t518 != 8) = false := bne_eq_false_iff_eq.mpr c42
         clear c42
         by_cases c43 : (t508.length : Int) = 0
         · rw [if_pos c43] at H
           have c43b0 : ((t508.length : Int) == 0) = true := beq_iff_eq.mpr c43
           have c43b1 : ((t508.length : Int) != 0) = false := bne_eq_false_iff_eq.mpr c43
           clear c43
           replace H := Option.bind_eq_some_iff.mp H
           obtain ⟨t523, A440, H⟩ := H
           replace H : (some t523) = some r := H
           have A44 := Aside0.mk A440
           clear A440
           obtain rfl := Option.some.inj H
           have hnb45 := NB511_506.out
           have hnc45 := NB506_511.out
           have hcz46_0 := bkc_ BK511 0 (.int .i64 t507) rfl
           have hcz46_1 := bkc_ BK511 1 (.slice Ao13 t508.length co13) rfl
           have hfz46_0 := blk_frozen BK511.out 0
           have hfz46_1 := blk_frozen BK511.out 1
           go_wp2_with (first | (go_at_call 15; (with_reducible refine (pianolalaw03_works.calls kj5  t523 _ A44.out).mono ?_); rintro e w47 ⟨rfl, hb⟩; have n0_ := Aside0.mk (Kd.R_below (by (with_reducible repeat (first | apply Kd.R_alloc | apply Kd.R_drewN | apply Kd.R_drew)); exact HO_512001.out) hb); have n1_ := bkb_ BK506 hb; have n2_ := bkb_ BK511 hb; have n3_ := bls_ HB hb; clear HO_512001; clear BK506; clear BK511; clear HB; have HO_512001 := n0_; have BK506 := n1_; have BK511 := n2_; have HB := n3_; clear n0_ n1_ n2_ n3_; (try clear hb); (try clear hb2); (try clear hk); (try clear hi)))
           go_ret
           exact ⟨by first | rfl | (simp [errW_none, errW_some] <;> rfl) | (simp [*, errW_none, errW_some] <;> rfl), by repeat (first | (with_reducible first | exact HB.out | apply below_alloc | apply pw_below_drewN | apply below_drew1 | refine below_set ?_ GE506.out | refine below_set ?_ GE511.out) | exact HB.out)⟩
         · rw [if_neg c43] at H
           exact absurd H (by simp)
       · rw [if_neg c42] at H
         exact absurd H (by simp)
     · rw [if_neg c41] at H
       have c41b0 : (t515 == 0) = false := beq_eq_false_iff_ne.mpr c41
       have c41b1 : (t515 != 0) = true := bne_iff_ne.mpr c41
       by_cases c48 : t518 = 0
       · rw [if_pos c48] at H
         have c48b0 : (t518 == 0) = true := beq_iff_eq.mpr c48
         have c48b1 : (t518 != 0) = false := bne_eq_false_iff_eq.mpr c48
         clear c48
         have H' := Aside0.mk H
         clear H
         go_wp2
         go_loopg [11] kj5 (fun kq v11 w' => ∃ (x11_2 : Int), v11 = .int .i64 x11_2 ∧ Aside0 (pianolalaw03_PunchBest.l0 kq t515 t517 x11_2 t507 t508 = some r) ∧ Aside0 (kq ≤ kj5) ∧ Aside0 (Kd.R k47 47 w' w.heap.size (fun _ => True) (.slice Ao13 t508.length co13) t508) ∧ Aside0 (w'.heap[gb506]? = some (.cells #[.int .u8 a0_0, (.slice A0_1 l0_1.length c0_1)] 74 (0, 0))) ∧ Aside0 (w'.heap[gb511]? = some (.cells #[.int .i64 t507, (.slice Ao13 t508.length co13)] 24 (0, 0))) ∧ Aside0 (Below w.heap.size w w'))
         case atStart => exact ⟨(0), (by first | rfl | (simp; done) | (simp [*]; done)), H', ⟨Nat.le_refl _⟩, ⟨by (with_reducible repeat (first | apply Kd.R_alloc | apply Kd.R_drewN | apply Kd.R_drew)); exact HO_512001.out⟩, bkx_ BK506, bkx_ BK511, blx_ HB⟩
         case round =>
          clear H'
          try clear c1
          try clear c2
          try clear p2
          try clear c3
          try clear c4
          try clear c8
          try clear c11
          try clear c20
          try clear c20b0
          try clear c20b1
          try clear c21
          try clear c21b0
          try clear c21b1
          try clear c22
          try clear c22b0
          try clear c22b1
          try clear c22b2
          try clear c24
          try clear c25
          try clear c25b0
          try clear c25b1
          try clear c26
          try clear c27
          try clear c32
          try clear c35
          try clear c38
          try clear c40
          try clear c41
          try clear c41b0
          try clear c41b1
          try clear c42
          try clear c42b0
          try clear c42b1
          try clear c43
          try clear c43b0
          try clear c43b1
          try clear c45
          try clear c48
          try clear c48b0
          try clear c48b1
          try clear hcz12_0
          try clear hcz12_1
          try clear hcz15_0
          try clear hcz15_1
          try clear hcz17_0
          try clear hcz17_1
          try clear hcz28_0
          try clear hcz28_1
          try clear hcz30_0
          try clear hcz30_1
          try clear hcz33_0
          try clear hcz33_1
          try clear hcz36_0
          try clear hcz36_1
          try clear hcz39_0
          try clear hcz39_1
          try clear hcz46_0
          try clear hcz46_1
          try clear hcz8_0
          try clear hcz8_1
          try clear hfz12_0
          try clear hfz12_1
          try clear hfz15_0
          try clear hfz15_1
          try clear hfz17_0
          try clear hfz17_1
          try clear hfz28_0
          try clear hfz28_1
          try clear hfz30_0
          try clear hfz30_1
          try clear hfz33_0
          try clear hfz33_1
          try clear hfz36_0
          try clear hfz36_1
          try clear hfz39_0
          try clear hfz39_1
          try clear hfz46_0
          try clear hfz46_1
          try clear hfz8_0
          try clear hfz8_1
          try clear p2
          obtain ⟨x11_2, rfl, HA, HK2, HO_512001, BK506, BK511, HB⟩ := hrel
          cases gk with
          | zero => exact absurd HA.out (by simp [pianolalaw03_PunchBest.l0])
          | succ k2 =>
           have H := HA.out
           clear HA
           simp only [pianolalaw03_PunchBest.l0] at H
           by_cases c49 : x11_2 < 70
           · rw [if_pos c49] at H
             have c49b0 : decide (x11_2 < 70) = true := decide_eq_true c49
             clear c49
             replace H := Option.bind_eq_some_iff.mp H
             obtain ⟨⟨t524, t527⟩, A500, H⟩ := H
             replace H : (if t527 = 0 then (if (t524.length : Int) > t515 then (none) else (if (t524.length : Int) = t515 then (if x11_2 < t517 then (none) else (if x11_2 = t517 then (pianolalaw03_PunchBest.l0 k2 t515 t517 (wrap64 (x11_2 + 1)) t507 t508) else (pianolalaw03_PunchBest.l0 k2 t515 t517 (wrap64 (x11_2 + 1)) t507 t508))) else (if x11_2 = t517 then (none) else (pianolalaw03_PunchBest.l0 k2 t515 t517 (wrap64 (x11_2 + 1)) t507 t508)))) else (none)) = some r := H
             have A50 := Aside0.mk A500
             clear A500
             by_cases c51 : t527 = 0
             · rw [if_pos c51] at H
               have c51b0 : (t527 == 0) = true := beq_iff_eq.mpr c51
               have c51b1 : (t527 != 0) = false := bne_eq_false_iff_eq.mpr c51
               clear c51
               by_cases c52 : (t524.length : Int) > t515
               · rw [if_pos c52] at H
                 exact absurd H (by simp)
               · rw [if_neg c52] at H
                 have c52b0 : decide (t515 < (t524.length : Int)) = false := decide_eq_false c52
                 clear c52
                 by_cases c53 : (t524.length : Int) = t515
                 · rw [if_pos c53] at H
                   have c53b0 : ((t524.length : Int) == t515) = true := beq_iff_eq.mpr c53
                   have c53b1 : ((t524.length : Int) != t515) = false := bne_eq_false_iff_eq.mpr c53
                   clear c53
                   by_cases c54 : x11_2 < t517
                   · rw [if_pos c54] at H
                     exact absurd H (by simp)
                   · rw [if_neg c54] at H
                     have c54b0 : decide (x11_2 < t517) = false := decide_eq_false c54
                     clear c54
                     by_cases c55 : x11_2 = t517
                     · rw [if_pos c55] at H
                       have c55b0 : (x11_2 == t517) = true := beq_iff_eq.mpr c55
                       have c55b1 : (x11_2 != t517) = false := bne_eq_false_iff_eq.mpr c55
                       clear c55
                       have H' := Aside0.mk H
                       clear H
                       have hnb56 := NB511_506.out
                       have hnc56 := NB506_511.out
                       have hcz57_0 := bkc_ BK511 0 (.int .i64 t507) rfl
                       have hcz57_1 := bkc_ BK511 1 (.slice Ao13 t508.length co13) rfl
                       have hfz57_0 := blk_frozen BK511.out 0
                       have hfz57_1 := blk_frozen BK511.out 1
                       go_wp2_with (first | ((with_reducible refine gate_callee (f := 16) rfl ?_); refine goesL_ (some 86) rfl rfl Try.func16 (by kernel_rfl) rfl #[.agg #[.int .i64 t507, .slice Ao13 t508.length co13], .int .i64 x11_2] rfl (by (try simp only [List.map_toArray, List.map_cons, List.map_nil]); first | done | rfl | (simp only [List.length_drop, List.length_take]; rfl)) ?_; (with_reducible refine (punch_Crowd.calls t507 _ _ t508 x11_2 t524 t527 _ ?side1 ?side2 A50.out).mono ?_); (case side1 => repeat (first | exact (Kd.R_reads' HO_512001.out).2.2 | (with_reducible refine Kd.C_alloc ?_ _) | (with_reducible refine Kd.C_drewN ?_ _) | (with_reducible refine Kd.C_drew ?_))); (case side2 => exact (Kd.R_reads' HO_512001.out).2.1); rintro e w58 ⟨v525, rfl, ho0, hb⟩; refine ⟨_, rfl, ?_⟩; have n0_ := Aside0.mk (Kd.R_below (by (with_reducible repeat (first | apply Kd.R_alloc | apply Kd.R_drewN | apply Kd.R_drew)); exact HO_512001.out) hb); have n1_ := Aside0.mk (Kd.R_lower ho0 (below_size (blx_ HB).out)); have n2_ := bkb_ BK506 hb; have n3_ := bkb_ BK511 hb; have n4_ := bls_ HB hb; clear HO_512001; clear BK506; clear BK511; clear HB; have HO_512001 := n0_; have HO526 := n1_; have BK506 := n2_; have BK511 := n3_; have HB := n4_; clear n0_ n1_ n2_ n3_ n4_; (try clear hb); (try clear hb2); (try clear hk); (try clear hi); (try clear ho0); obtain ⟨Ao59, co59, eo59⟩ := Kd.R_slice HO526.out; subst eo59))
                       go_roundg k2
                       case measure => have := HJ5.out; have := HK2.out; omega
                       case rel => exact ⟨(wrap64 (x11_2 + 1)), (by first | rfl | (simp; done) | (simp [*]; done)), H', ⟨by have := HJ5.out; have := HK2.out; omega⟩, ⟨by (with_reducible repeat (first | apply Kd.R_alloc | apply Kd.R_drewN | apply Kd.R_drew)); exact HO_512001.out⟩, bkx_ BK506, bkx_ BK511, blx_ HB⟩
                     · rw [if_neg c55] at H
                       have c55b0 : (x11_2 == t517) = false := beq_eq_false_iff_ne.mpr c55
                       have c55b1 : (x11_2 != t517) = true := bne_iff_ne.mpr c55
                       have H' := Aside0.mk H
                       clear H
                       have hnb60 := NB511_506.out
                       have hnc60 := NB506_511.out
                       have hcz61_0 := bkc_ BK511 0 (.int .i64 t507) rfl
                       have hcz61_1 := bkc_ BK511 1 (.slice Ao13 t508.length co13) rfl
                       have hfz61_0 := blk_frozen BK511.out 0
                       have hfz61_1 := blk_frozen BK511.out 1
                       go_wp2_with (first | ((with_reducible refine gate_callee (f := 16) rfl ?_); refine goesL_ (some 86) rfl rfl Try.func16 (by kernel_rfl) rfl #[.agg #[.int .i64 t507, .slice Ao13 t508.length co13], .int .i64 x11_2] rfl (by (try simp only [List.map_toArray, List.map_cons, List.map_nil]); first | done | rfl | (simp only [List.length_drop, List.length_take]; rfl)) ?_; (with_reducible refine (punch_Crowd.calls t507 _ _ t508 x11_2 t524 t527 _ ?side1 ?side2 A50.out).mono ?_); (case side1 => repeat (first | exact (Kd.R_reads' HO_512001.out).2.2 | (with_reducible refine Kd.C_alloc ?_ _) | (with_reducible refine Kd.C_drewN ?_ _) | (with_reducible refine Kd.C_drew ?_))); (case side2 => exact (Kd.R_reads' HO_512001.out).2.1); rintro e w62 ⟨v525, rfl, ho0, hb⟩; refine ⟨_, rfl, ?_⟩; have n0_ := Aside0.mk (Kd.R_below (by (with_reducible repeat (first | apply Kd.R_alloc | apply Kd.R_drewN | apply Kd.R_drew)); exact HO_512001.out) hb); have n1_ := Aside0.mk (Kd.R_lower ho0 (below_size (blx_ HB).out)); have n2_ := bkb_ BK506 hb; have n3_ := bkb_ BK511 hb; have n4_ := bls_ HB hb; clear HO_512001; clear BK506; clear BK511; clear HB; have HO_512001 := n0_; have HO526 := n1_; have BK506 := n2_; have BK511 := n3_; have HB := n4_; clear n0_ n1_ n2_ n3_ n4_; (try clear hb); (try clear hb2); (try clear hk); (try clear hi); (try clear ho0); obtain ⟨Ao63, co63, eo63⟩ := Kd.R_slice HO526.out; subst eo63))
                       go_roundg k2
                       case measure => have := HJ5.out; have := HK2.out; omega
                       case rel => exact ⟨(wrap64 (x11_2 + 1)), (by first | rfl | (simp; done) | (simp [*]; done)), H', ⟨by have := HJ5.out; have := HK2.out; omega⟩, ⟨by (with_reducible repeat (first | apply Kd.R_alloc | apply Kd.R_drewN | apply Kd.R_drew)); exact HO_512001.out⟩, bkx_ BK506, bkx_ BK511, blx_ HB⟩
                 · rw [if_neg c53] at H
                   have c53b0 : ((t524.length : Int) == t515) = false := beq_eq_false_iff_ne.mpr c53
                   have c53b1 : ((t524.length : Int) != t515) = true := bne_iff_ne.mpr c53
                   by_cases c64 : x11_2 = t517
                   · rw [if_pos c64] at H
                     have c64b0 : (x11_2 == t517) = true := beq_iff_eq.mpr c64
                     have c64b1 : (x11_2 != t517) = false := bne_eq_false_iff_eq.mpr c64
                     clear c64
                     exact absurd H (by simp)
                   · rw [if_neg c64] at H
                     have c64b0 : (x11_2 == t517) = false := beq_eq_false_iff_ne.mpr c64
                     have c64b1 : (x11_2 != t517) = true := bne_iff_ne.mpr c64
                     have H' := Aside0.mk H
                     clear H
                     have hnb65 := NB511_506.out
                     have hnc65 := NB506_511.out
                     have hcz66_0 := bkc_ BK511 0 (.int .i64 t507) rfl
                     have hcz66_1 := bkc_ BK511 1 (.slice Ao13 t508.length co13) rfl
                     have hfz66_0 := blk_frozen BK511.out 0
                     have hfz66_1 := blk_frozen BK511.out 1
                     go_wp2_with (first | ((with_reducible refine gate_callee (f := 16) rfl ?_); refine goesL_ (some 86) rfl rfl Try.func16 (by kernel_rfl) rfl #[.agg #[.int .i64 t507, .slice Ao13 t508.length co13], .int .i64 x11_2] rfl (by (try simp only [List.map_toArray, List.map_cons, List.map_nil]); first | done | rfl | (simp only [List.length_drop, List.length_take]; rfl)) ?_; (with_reducible refine (punch_Crowd.calls t507 _ _ t508 x11_2 t524 t527 _ ?side1 ?side2 A50.out).mono ?_); (case side1 => repeat (first | exact (Kd.R_reads' HO_512001.out).2.2 | (with_reducible refine Kd.C_alloc ?_ _) | (with_reducible refine Kd.C_drewN ?_ _) | (with_reducible refine Kd.C_drew ?_))); (case side2 => exact (Kd.R_reads' HO_512001.out).2.1); rintro e w67 ⟨v525, rfl, ho0, hb⟩; refine ⟨_, rfl, ?_⟩; have n0_ := Aside0.mk (Kd.R_below (by (with_reducible repeat (first | apply Kd.R_alloc | apply Kd.R_drewN | apply Kd.R_drew)); exact HO_512001.out) hb); have n1_ := Aside0.mk (Kd.R_lower ho0 (below_size (blx_ HB).out)); have n2_ := bkb_ BK506 hb; have n3_ := bkb_ BK511 hb; have n4_ := bls_ HB hb; clear HO_512001; clear BK506; clear BK511; clear HB; have HO_512001 := n0_; have HO526 := n1_; have BK506 := n2_; have BK511 := n3_; have HB := n4_; clear n0_ n1_ n2_ n3_ n4_; (try clear hb); (try clear hb2); (try clear hk); (try clear hi); (try clear ho0); obtain ⟨Ao68, co68, eo68⟩ := Kd.R_slice HO526.out; subst eo68))
                     go_roundg k2
                     case measure => have := HJ5.out; have := HK2.out; omega
                     case rel => exact ⟨(wrap64 (x11_2 + 1)), (by first | rfl | (simp; done) | (simp [*]; done)), H', ⟨by have := HJ5.out; have := HK2.out; omega⟩, ⟨by (with_reducible repeat (first | apply Kd.R_alloc | apply Kd.R_drewN | apply Kd.R_drew)); exact HO_512001.out⟩, bkx_ BK506, bkx_ BK511, blx_ HB⟩
             · rw [if_neg c51] at H
               exact absurd H (by simp)
           · rw [if_neg c49] at H
             have c49b0 : decide (x11_2 < 70) = false := decide_eq_false c49
             clear c49
             by_cases c69 : t517 ≥ 0
             · rw [if_pos c69] at H
               have c69b0 : decide (0 ≤ t517) = true := decide_eq_true c69
               clear c69
               by_cases c70 : t517 < 70
               · rw [if_pos c70] at H
                 have c70b0 : decide (t517 < 70) = true := decide_eq_true c70
                 clear c70
                 replace H := Option.bind_eq_some_iff.mp H
                 obtain ⟨t528, A710, H⟩ := H
                 replace H : (some t528) = some r := H
                 have A71 := Aside0.mk A710
                 clear A710
                 obtain rfl := Option.some.inj H
                 go_wp2_with (first | (go_at_call 15; (with_reducible refine (pianolalaw03_works.calls k2  t528 _ A71.out).mono ?_); rintro e w72 ⟨rfl, hb⟩; have n0_ := Aside0.mk (Kd.R_below (by (with_reducible repeat (first | apply Kd.R_alloc | apply Kd.R_drewN | apply Kd.R_drew)); exact HO_512001.out) hb); have n1_ := bkb_ BK506 hb; have n2_ := bkb_ BK511 hb; have n3_ := bls_ HB hb; clear HO_512001; clear BK506; clear BK511; clear HB; have HO_512001 := n0_; have BK506 := n1_; have BK511 := n2_; have HB := n3_; clear n0_ n1_ n2_ n3_; (try clear hb); (try clear hb2); (try clear hk); (try clear hi)))
                 go_ret
                 exact ⟨by first | rfl | (simp [errW_none, errW_some] <;> rfl) | (simp [*, errW_none, errW_some] <;> rfl), by repeat (first | (with_reducible first | exact HB.out | apply below_alloc | apply pw_below_drewN | apply below_drew1 | refine below_set ?_ GE506.out | refine below_set ?_ GE511.out) | exact HB.out)⟩
               · rw [if_neg c70] at H
                 exact absurd H (by simp)
             · rw [if_neg c69] at H
               exact absurd H (by simp)
       · rw [if_neg c48] at H
         exact absurd H (by simp)

-- NOT PRINTED: function 9 (pianolalaw03_PunchCrowds)

-- NOT PRINTED: function 10 (pianolalaw03_PunchMore)

-- NOT PRINTED: function 11 (pianolalaw03_PunchAdded)
end Go.Proofs.Ytaaonhfaoaabbaa.X
