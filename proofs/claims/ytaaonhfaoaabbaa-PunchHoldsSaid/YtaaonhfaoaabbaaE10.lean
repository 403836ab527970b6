/- The calls of Passes. -/
import Derived.Test.YtaaonhfaoaabbaaE6
import Derived.Test.YtaaonhfaoaabbaaE9
import Derived.Shelf.Slices.Clone
import Derived.RegionCalls
import Derived.Laws.EntriesVeiled
import Derived.Deep.RegionLaw
namespace Go.Proofs.Ytaaonhfaoaabbaa.X
open Go.Shelf Go.Sort Go.Lib Go.Proofs.YtaaonhfaoaabbaaF Go.RowKit Go.Proofs.YtaaonhfaoaabbaaW.PrintWords Go.Proofs.YtaaonhfaoaabbaaW.PrintLast Go.Proofs.YtaaonhfaoaabbaaW.PrintMore
attribute [local go_sem] Oper.semAt_some
def renC : Ren := ⟨fun | 15 => 62 | n => n, fun | 22 => 26 | n => n, fun n => n⟩
theorem laysC : Lays2.n15 Try.prog renC := {
  mixed := by kernel_rfl
  f15 := by kernel_rfl
  t3 := by kernel_rfl
  a3 := by intro w; simp [renC, go_sem]
  z3 := by intro w; simp [renC, go_sem]
  v3 := by intro w; simp [renC, go_sem]
  t4 := by kernel_rfl
  a4 := by intro w; simp [renC, go_sem]
  z4 := by intro w; simp [renC, go_sem]
  v4 := by intro w; simp [renC, go_sem]
  t22 := by kernel_rfl
  a22 := by intro w; simp [renC, go_sem]
  z22 := by intro w; simp [renC, go_sem]
  v22 := by intro w; simp [renC, go_sem]
  i3 := by kernel_rfl }
/-- The numbers below k, then zeros. -/
def idxTo (n k : Nat) : Array Value := ((List.range k).map (fun i : Nat => Value.int .i64 (i : Int)) ++ List.replicate (n - k) (Value.int .i64 0)).toArray
theorem idxTo_zero (n : Nat) : idxTo n 0 = Array.replicate n (.int .i64 0) := by simp [idxTo]
theorem idxTo_set {n k : Nat} (h : k < n) : (idxTo n k).setIfInBounds k (.int .i64 (k : Int)) = idxTo n (k + 1) := by
  unfold idxTo
  rw [List.setIfInBounds_toArray]
  congr 1
  rw [List.set_append_right _ _ (by simp), List.range_succ, List.map_append, List.append_assoc]
  congr 1
  rw [show n - k = (n - (k + 1)) + 1 from by omega, List.replicate_succ]
  simp
theorem idxTo_get {n k j : Nat} (h : k ≤ n) (hj : j < n) : ∃ x : Int, (idxTo n k)[j]? = some (.int .i64 x) := by
  unfold idxTo
  simp only [List.getElem?_toArray]
  rcases Nat.lt_or_ge j k with h1 | h1
  · exact ⟨j, by rw [List.getElem?_append_left (by simpa using h1)]; simp [h1]⟩
  · exact ⟨0, by rw [List.getElem?_append_right (by simpa using h1)]; simp only [List.length_map, List.length_range, List.getElem?_replicate]; rw [if_pos (by omega)]⟩
theorem idxTo_all {n j : Nat} (hj : j < n) : (idxTo n n)[j]? = some (.int .i64 (j : Int)) := by
  unfold idxTo
  simp [hj]
theorem clone_calls (b n c : Nat) (off : Nat) (zs : List Int) (w : World) (hz : n ≤ zs.length) (hbig : n * 8 ≤ 140737488355328) (hc : ∀ j, j < zs.length → w.cell? ⟨b, off + j, none⟩ = some (.int .i64 (zs.getD j 0))) :
    Calls Try.prog 62 #[.slice (some ⟨b, off, none⟩) n c] w fun e w' => ∃ v', e = .returned v' ∧ w'.ownsRow w.heap.size 3 1 v' n ((zs.take n).map (Value.int .i64)) ∧ v' ≠ .slice none 0 0 ∧ Below w.heap.size w w' :=
  Any.slices_Clone_int laysC b off n c zs w hz hbig hc
theorem R_int_own {w : World} {base : Nat} {v : Value} {xs : List Int} (h : w.ownsRow base 3 1 v xs.length (xs.map (Value.int .i64))) : Kd.R (Kd.int .i64) 3 w base (fun _ => True) v xs := by
  exact Kd.R_of_own (enc := Value.int .i64) h (fun _ _ => trivial)
theorem made_zero (n : Nat) : madeCells #[.int .i64 0] n = idxTo n 0 := by
  rw [idxTo_zero]
  unfold madeCells
  apply Array.ext
  · simp
  · intro i h1 h2
    simp [Nat.mod_one]
theorem passStep_len (rest : Int) (l : List S47) (p : List Int) (i : Nat) : (passStep rest l p i).length = p.length := by simp [passStep]
theorem fold_len (rest : Int) (l : List S47) : ∀ (o : List Nat) (p : List Int), (o.foldl (passStep rest l) p).length = p.length
  | [], _ => rfl
  | i :: o, p => by rw [List.foldl_cons, fold_len rest l o, passStep_len]
theorem leastFree_le (xs : List Int) : leastFree xs ≤ xs.length := pigeon _ _ (leastFree_spec xs).2
theorem clashList_len (rest : Int) (l : List S47) (p : List Int) (s : S47) : (clashList rest l p s).length ≤ l.length := clashTo_len rest l p s l.length
theorem fold_bounds (rest : Int) (l : List S47) (hl : l.length ≤ 39) : ∀ (o : List Nat) (p : List Int), (∀ x ∈ p, -1 ≤ x ∧ x ≤ 39) → ∀ x ∈ o.foldl (passStep rest l) p, -1 ≤ x ∧ x ≤ 39
  | [], _, h => h
  | i :: o, p, h => by
    rw [List.foldl_cons]
    refine fold_bounds rest l hl o _ (fun x hx => ?_)
    unfold passStep at hx
    rcases List.mem_or_eq_of_mem_set hx with hx | rfl
    · exact h x hx
    · have h1 := leastFree_le (clashList rest l p (l.getD i z47))
      have h2 := clashList_len rest l p (l.getD i z47)
      omega
theorem planOf_bounds (rest : Int) (l : List S47) (hl : l.length ≤ 39) : ∀ x ∈ planOf rest l, -1 ≤ x ∧ x ≤ 39 := by
  intro x hx
  refine fold_bounds rest l hl _ _ (fun y hy => ?_) x (List.mem_of_mem_take hx)
  rw [List.eq_of_mem_replicate hy]
  decide
theorem planOf_len (rest : Int) (l : List S47) (hl : l.length ≤ 40) : (planOf rest l).length = l.length := by
  unfold planOf
  rw [List.length_take, fold_len, List.length_replicate]
  omega
theorem orderOf_lt {l : List S47} {i : Nat} (h : i ∈ orderOf l) : i < l.length := by
  unfold orderOf at h
  simpa using h
theorem orderOf_len (l : List S47) : (orderOf l).length = l.length := by
  unfold orderOf
  simp
theorem slice_sheet (g n : Nat) (hn : n ≤ 40) (W : World) : (Instr.sliceAt 106 (.pointer (some ⟨g, 2, none⟩)) none (some (.int .i64 (n : Int))) none).run Try.prog W = .ok (.slice (some ⟨g, 2, none⟩) n 40) W := by
  have ha : Try.prog.arrayLen 106 = 40 := by kernel_rfl
  rw [run_sliceAt_array_h W 106 ⟨g, 2, none⟩ (by kernel_rfl) .i64 (n : Int) (by omega) (by rw [ha]; omega)]
  have hs : (Sem.run Try.prog (Go.sizeOf (Try.prog.elem 106)) W) = .ok 1 W := by
    rw [show Try.prog.elem 106 = 3 from by kernel_rfl]
    simp [go_sem]
  rw [hs, ha]
  simp [slicedAt, Result.andThen, Addr.add]
set_option maxRecDepth 100000 in
set_option maxHeartbeats 4000000 in
theorem passes_some (a0_0 : Int) (A0_1 : Option Addr) (c0_1 : Nat) (l : List S47) (w : World) (hr : Kd.C k47 w A0_1 l.length l) (hc : l.length ≤ c0_1) (h : checkE a0_0 l = 0) (hn : 0 < l.length) (hm : l.length ≤ 19) :
    Calls Try.prog 22 #[.agg #[.int .i64 a0_0, .slice A0_1 l.length c0_1]] w fun e w' => ∃ v0_ : Value, e = .returned (.tuple #[v0_, .int .i64 (passesN (planOf a0_0 l)), .int .i64 0]) ∧ Kd.R (Kd.int .i64) 3 w' w.heap.size (fun _ => True) v0_ (planOf a0_0 l) ∧ Below w.heap.size w w' := by
  obtain ⟨r0, r1, hl, hok⟩ := check_ok h
  have hcon := fun W (hb : Below w.heap.size w W) => punch_Check.calls a0_0 A0_1 c0_1 l _ W (Kd.C_below hr hb) hc rfl
  rw [h] at hcon
  have HR := Aside0.mk hr
  have HOK := Aside0.mk hok
  clear h hr hok
  have hb1 := blk_new w (.cells #[.int .i64 a0_0, .slice A0_1 l.length c0_1] 24)
  have hB0 := below_alloc (Below.refl w.heap.size w) (.cells #[.int .i64 a0_0, .slice A0_1 l.length c0_1] 24)
  go_enter Try.func22, Try.ntmps22
  go_wp2_with fail
  obtain ⟨W0, hW0⟩ : ∃ W0, w.alloc (.cells #[.int .i64 a0_0, .slice A0_1 l.length c0_1] 24) = W0 := ⟨_, rfl⟩
  rw [hW0] at hb1 hB0 ⊢
  clear hW0
  refine (hcon W0 hB0).mono ?_
  rintro e w1 ⟨rfl, hb⟩
  have B1 := Aside0.mk (blk_below hb1 hb)
  have HB := Aside0.mk (below_step hB0 hb)
  clear hb1 hB0 hb hcon
  have c11 : w1.cell? ⟨w.heap.size, 1, none⟩ = some (.slice A0_1 l.length c0_1) := (blk_cell B1.out 1).trans rfl
  have l1 := blk_lt B1.out
  have hmk := print_make (P := Try.prog) 26 3 .i64 8 Try.underlying26 info3 (by decide) l.length (by omega)
  rw [made_zero] at hmk
  go_wp2
  have hb6 := blk_new w1 (.cells (idxTo l.length 0) 3)
  have hb1 := blk_alloc B1.out (.cells (idxTo l.length 0) 3)
  have hB := below_alloc HB.out (.cells (idxTo l.length 0) 3)
  go_loopw [23] (fun v wr => ∃ k : Nat, k ≤ l.length ∧ v = .int .i64 k ∧ Aside0 (wr.heap[w1.heap.size]? = some (.cells (idxTo l.length k) 3 (0, 0))) ∧ Aside0 (wr.heap[w.heap.size]? = some (.cells #[.int .i64 a0_0, .slice A0_1 l.length c0_1] 24 (0, 0))) ∧ Aside0 (Below w.heap.size w wr)) (fun v _ => l.length - (intOf v).toNat)
  case atStart => exact ⟨0, Nat.zero_le _, rfl, ⟨hb6⟩, ⟨hb1⟩, ⟨hB⟩⟩
  case round =>
    clear hb6 hb1 hB c11 l1
    obtain ⟨k, hk, rfl, H6, H1, HB'⟩ := hrel
    by_cases hlt : k < l.length
    · have hlz : (k : Int) < (l.length : Int) := by omega
      obtain ⟨xk, hxk⟩ := idxTo_get hk hlt
      have c6 := (blk_cell H6.out k).trans hxk
      have f6 := blk_frozen H6.out k
      go_wp2
      go_roundw
      case rel => exact ⟨k + 1, by omega, by go_num, ⟨by rw [← idxTo_set hlt]; exact blk_put H6.out k _ rfl⟩, ⟨(Below.heap_setCell _ _ _ _ (by have := blk_lt B1.out; dsimp only; omega)).trans H1.out⟩, ⟨below_set HB'.out (by have := blk_lt B1.out; omega)⟩⟩
      case measure => simp [intOf]; omega
    · have hlz : ¬ (k : Int) < (l.length : Int) := by omega
      obtain rfl : k = l.length := by omega
      go_wp2_with fail
      have hl6 := blk_lt H6.out
      have hl1 := blk_lt B1.out
      have q8 := blk_new wr (.cells #[.func (.func 57) #[] #[]] 100)
      have q6 := blk_alloc H6.out (.cells #[.func (.func 57) #[] #[]] 100)
      have q1 := blk_alloc H1.out (.cells #[.func (.func 57) #[] #[]] 100)
      have qB := below_alloc HB'.out (.cells #[.func (.func 57) #[] #[]] 100)
      obtain ⟨V0, hV0⟩ : ∃ V0, wr.alloc (.cells #[.func (.func 57) #[] #[]] 100) = V0 := ⟨_, rfl⟩
      rw [hV0] at q8 q6 q1 qB ⊢
      clear hV0
      haveI : Inhabited (Fin l.length) := ⟨⟨0, hn⟩⟩
      obtain ⟨d, hd⟩ : ∃ d : Array (Fin l.length), d = Array.ofFn (fun i => i) := ⟨_, rfl⟩
      have hds : d.size = l.length := by rw [hd]; simp
      have hdp : ∀ p, p < l.length → (d[p]!).val = p := fun p hp => by rw [hd, getElem!_pos _ p (by simpa using hp)]; simp
      clear hd
      have hHo : Holds (encF l.length) V0 w1.heap.size 0 d := fun j hj => by
        refine ⟨?_, ?_⟩
        · rw [Nat.zero_add]
          refine (blk_cell q6 j).trans ((idxTo_all (by omega)).trans ?_)
          unfold encF
          rw [hdp j (by omega)]
        · rw [Nat.zero_add]; exact blk_frozen q6 j
      have n16 : w.heap.size ≠ w1.heap.size := by omega
      have hlays := cmp_lays d.size wr.heap.size w.heap.size w1.heap.size A0_1 c0_1 l w V0 HR.out qB (by omega) (blk_lt q6) a0_0 q8 q1 (by omega) n16
      have hsort := sortStable_calls (fun x y : Fin l.length => cmpI (rd_T47 l (x.val : Int)).f0 (rd_T47 l (y.val : Int)).f0) 59 #[.pointer (some ⟨wr.heap.size, 0, none⟩), .pointer (some ⟨w.heap.size, 0, none⟩)] w1.heap.size l.length d V0 hm hds (enters_of Try.func59 (by kernel_rfl) rfl) hlays hHo (blk_lt q6)
      rw [ltOf_cmp] at hsort
      have hord := sort_stable_nat (n := l.length) (fun a => (rd_T47 l (a : Int)).f0) d hds hdp
      have hss : (insertionSort (ltK (fun x : Fin l.length => (rd_T47 l (x.val : Int)).f0)) d 0 l.length).size = l.length := by
        have := congrArg List.length hord
        simpa using this
      generalize insertionSort (ltK (fun x : Fin l.length => (rd_T47 l (x.val : Int)).f0)) d 0 l.length = ds at *
      refine hsort.mono ?_
      clear hsort hlays
      rintro e w2 ⟨rfl, hS⟩
      have hH2 := hS.holds (blk_lt q6) hHo (by rw [hss, hds])
      have hx : ∃ m os, w2 = sortWorld (encF l.length) V0 w1.heap.size 0 m ds os := hS
      obtain ⟨mm, os, hw2⟩ := hx
      have q1' : w2.heap[w.heap.size]? = some (.cells #[.int .i64 a0_0, .slice A0_1 l.length c0_1] 24 (0, 0)) := by
        rw [hw2]; exact (heap_sortWorld_other _ _ _ _ _ _ n16 (blk_lt q1)).trans q1
      have qB' : Below w.heap.size w w2 := by rw [hw2]; exact below_sortWorld _ _ _ _ _ qB (by omega) (Nat.le_refl _)
      have hrow : ∀ k : Nat, k < l.length → w2.cell? ⟨w1.heap.size, k, none⟩ = some (.int .i64 (((orderOf l).getD k 0 : Nat) : Int)) := fun k hk => by
        have h1 := (hH2 k (by rw [hss]; exact hk)).1
        rw [Nat.zero_add] at h1
        rw [h1]
        unfold encF
        congr 3
        have h2 : (orderOf l)[k]? = (ds.toList.map (·.val))[k]? := by rw [hord]; rfl
        rw [List.getD_eq_getElem?_getD, h2, getElem!_pos ds k (by rw [hss]; exact hk)]
        simp [hss, hk]
      have hl2 : w1.heap.size < w2.heap.size := by have := World.block_lt_of_cell? w2 _ (hrow 0 hn); exact this
      clear hw2 hS hH2 hHo hord hss hds hdp q8 q6 q1 qB H1 H6 HB'
      have Q1 := Aside0.mk q1'
      have QB := Aside0.mk qB'
      have QR := Aside0.mk hrow
      clear q1' qB' hrow
      have c10 : w2.cell? ⟨w.heap.size, 0, none⟩ = some (.int .i64 a0_0) := (blk_cell Q1.out 0).trans rfl
      have c11 : w2.cell? ⟨w.heap.size, 1, none⟩ = some (.slice A0_1 l.length c0_1) := (blk_cell Q1.out 1).trans rfl
      go_wp2_with fail
      refine (blank_calls a0_0 A0_1 l.length c0_1 w2).mono ?_
      rintro e w3 ⟨g, rfl, hg, hbs, hb⟩
      have X1 := Aside0.mk (blk_below Q1.out hb)
      have XB := Aside0.mk (below_step QB.out hb)
      have XS := Aside0.mk hbs
      have XL := Aside0.mk hb
      clear hb hbs c10 c11
      have hl3 : w2.heap.size ≤ w3.heap.size := XL.out.size
      go_wp2
      clear HB B1 Q1 QB hmk
      have HG := Aside0.mk hg
      have hlo := orderOf_len l
      go_loopw [38] (fun v wr => ∃ k : Nat, k ≤ l.length ∧ v = .int .i64 k ∧ Aside0 (wr.heap[g]? = some (.cells (sheetCells a0_0 A0_1 l.length c0_1 (((orderOf l).take k).foldl (passStep a0_0 l) (List.replicate 40 (-1)))) 108 (0, 0))) ∧ Aside0 (Below w2.heap.size w2 wr) ∧ Aside0 (Below w.heap.size w wr) ∧ Aside0 (wr.heap[w.heap.size]? = some (.cells #[.int .i64 a0_0, .slice A0_1 l.length c0_1] 24 (0, 0)))) (fun v _ => l.length - (intOf v).toNat)
      case atStart => exact ⟨0, Nat.zero_le _, rfl, XS, XL, XB, X1⟩
      case round =>
        clear XS XL XB X1
        obtain ⟨k, hk, rfl, XS, XL, XB, X1⟩ := hrel
        obtain ⟨p, hp⟩ : ∃ p, p = ((orderOf l).take k).foldl (passStep a0_0 l) (List.replicate 40 (-1)) := ⟨_, rfl⟩
        have hpl : p.length = 40 := by rw [hp, fold_len]; simp
        rw [← hp] at XS
        have HP := Aside0.mk hp
        clear hp
        by_cases hlt : k < l.length
        · have hlz : (k : Int) < (l.length : Int) := by omega
          have hki : k < (orderOf l).length := by rw [hlo]; exact hlt
          obtain ⟨i, hi⟩ : ∃ i, i = (orderOf l).getD k 0 := ⟨_, rfl⟩
          have hiN : i < l.length := by
            rw [hi, List.getD_eq_getElem?_getD, List.getElem?_eq_getElem hki]
            exact orderOf_lt (List.getElem_mem hki)
          have crow := (XL.out.cell hl2).trans (QR.out k hlt)
          rw [← hi] at crow
          have HI := Aside0.mk hi
          clear hi
          have hiz : (i : Int) < (l.length : Int) := by omega
          have hi40 : (i : Int) < 40 := by omega
          obtain ⟨ad, e1, s0, s1⟩ := at_T47 HR.out (i : Int) (by omega) (by omega)
          subst e1
          replace s0 := (XB.out.cell (World.block_lt_of_cell? w _ s0)).trans s0
          replace s1 := (XB.out.cell (World.block_lt_of_cell? w _ s1)).trans s1
          simp only [Int.toNat_natCast] at s0 s1
          have hbd := ok_bounds (all_at HOK.out hiN)
          have c11 : wr.cell? ⟨w.heap.size, 1, none⟩ = some (.slice (some ad) l.length c0_1) := (blk_cell X1.out 1).trans rfl
          have hsm := fun W (h1 : Below w.heap.size w W) (h2 : W.heap[g]? = some (.cells (sheetCells a0_0 (some ad) l.length c0_1 p) 108 (0, 0))) => smallest_calls g a0_0 (some ad) c0_1 l p (rd_T47 l (i : Int)).f0 (rd_T47 l (i : Int)).f1 W hl hpl r0 r1 HOK.out (by omega) hbd.2.2 h2 (Kd.C_below HR.out h1)
          have HBD := Aside0.mk hbd
          clear hbd
          obtain ⟨f0, hf0⟩ : ∃ f0, f0 = (rd_T47 l (i : Int)).f0 := ⟨_, rfl⟩
          obtain ⟨f1, hf1⟩ : ∃ f1, f1 = (rd_T47 l (i : Int)).f1 := ⟨_, rfl⟩
          rw [← hf0] at s0 hsm
          rw [← hf1] at s1 hsm
          have HF := Aside0.mk (And.intro hf0 hf1)
          clear hf0 hf1
          go_wp2
          go_region_with (go_at_call 61; refine (hsm _ ?_ ?_).mono ?_; exact below_drew XB.out; exact XS.out; rintro e w' ⟨rfl, hb⟩; have hxs := blk_below (w := World.drew _) XS.out hb; have hx1 := blk_below (w := World.drew _) X1.out hb; have hxl := (below_drew XL.out).trans (hb.mono (below_drew XL.out).size); have hxb := (below_drew XB.out).trans (hb.mono (below_drew XB.out).size); have c9 := (blk_cell hxs (2 + i)).trans (sheet_get _ _ _ _ _ i (by rw [hpl]; omega)); have f9 := blk_frozen hxs (2 + i); have YS := Aside0.mk hxs; have Y1 := Aside0.mk hx1; have YL := Aside0.mk hxl; have YB := Aside0.mk hxb; clear hb hxs hx1 hxl hxb)
          go_wp2
          go_roundw
          case rel =>
            refine ⟨k + 1, by omega, by go_num, ⟨?_⟩, ⟨below_set YL.out HG.out⟩, ⟨below_set YB.out (by have := HG.out; omega)⟩, ⟨(Below.heap_setCell _ _ _ _ (by have := HG.out; dsimp only; omega)).trans Y1.out⟩⟩
            have e1 : ((orderOf l).take (k + 1)).foldl (passStep a0_0 l) (List.replicate 40 (-1)) = passStep a0_0 l p i := by
              rw [List.take_succ_eq_append_getElem hki, List.foldl_append, ← HP.out, HI.out, List.getD_eq_getElem?_getD, List.getElem?_eq_getElem hki]
              rfl
            rw [e1]
            refine blk_put YS.out (2 + i) _ ?_
            rw [sheet_set, HF.out.1, HF.out.2]
            rfl
          case measure => simp [intOf]; omega
        · have hlz : ¬ (k : Int) < (l.length : Int) := by omega
          obtain rfl : k = l.length := by omega
          have hsl := slice_sheet g l.length hl
          have hpo : p.take l.length = planOf a0_0 l := by
            rw [HP.out, List.take_of_length_le (l := orderOf l) (by rw [hlo]; exact Nat.le_refl _)]
            rfl
          have hcl := clone_calls g l.length 40 2 p wr (by omega) (by omega) (fun j hj => (blk_cell XS.out (2 + j)).trans (sheet_get _ _ _ _ _ j hj))
          have hpll := planOf_len a0_0 l hl
          have hpb := planOf_bounds a0_0 l (by omega)
          obtain ⟨q, hq⟩ : ∃ q, q = planOf a0_0 l := ⟨_, rfl⟩
          rw [← hq] at hpo hpll hpb
          rw [hpo] at hcl
          have HQ := Aside0.mk hq
          clear hq
          go_wp2_with fail
          refine hcl.mono ?_
          rintro e w4 ⟨v, rfl, hown, _, hb4⟩
          have hR := R_int_own (hpll.symm ▸ hown)
          have hB4 := XB.out.trans (hb4.mono XB.out.size)
          obtain ⟨A, c, rfl, hcc, hC⟩ := Kd.R_reads hR
          have hpas := punch_passes.calls (q.length + 1) A c q _ w4 hC hcc (passes_eq' hpb (by omega))
          have hRR := Kd.R_lower hR XB.out.size
          rw [hpll] at hpas hRR
          have HRR := Aside0.mk hRR
          have HB4 := Aside0.mk hB4
          clear hown hb4 hR hB4 hC hcl XS XB XL X1 hRR hcc
          go_wp2_with (go_at_call 63; refine hpas.mono ?_; rintro e w5 ⟨rfl, hb5⟩)
          go_ret3
          rw [← HQ.out]
          exact ⟨_, rfl, Kd.R_below HRR.out hb5, below_step HB4.out hb5⟩
set_option maxRecDepth 100000 in
set_option maxHeartbeats 4000000 in
theorem passes_bad (a0_0 : Int) (A0_1 : Option Addr) (c0_1 : Nat) (l : List S47) (w : World) (hr : Kd.C k47 w A0_1 l.length l) (hc : l.length ≤ c0_1) (h : ¬ checkE a0_0 l = 0) :
    Calls Try.prog 22 #[.agg #[.int .i64 a0_0, .slice A0_1 l.length c0_1]] w fun e w' => e = .returned (.tuple #[.slice none 0 0, .int .i64 0, .int .i64 (checkE a0_0 l)]) ∧ Below w.heap.size w w' := by
  have hcon := fun W (hb : Below w.heap.size w W) => punch_Check.calls a0_0 A0_1 c0_1 l _ W (Kd.C_below hr hb) hc rfl
  have hz : (checkE a0_0 l != 0) = true := by rw [bne_iff_ne]; exact h
  clear h
  generalize checkE a0_0 l = z at *
  have hB0 := below_alloc (Below.refl w.heap.size w) (.cells #[.int .i64 a0_0, .slice A0_1 l.length c0_1] 24)
  go_enter Try.func22, Try.ntmps22
  go_wp2_with (go_at_call 20; refine (hcon _ hB0).mono ?_; rintro e w' ⟨rfl, hb⟩)
  go_ret3
  exact ⟨rfl, below_step hB0 hb⟩
set_option maxRecDepth 100000 in
set_option maxHeartbeats 4000000 in
theorem passes_none (a0_0 : Int) (A0_1 : Option Addr) (c0_1 : Nat) (w : World) (hr : Kd.C k47 w A0_1 0 []) (h : checkE a0_0 [] = 0) :
    Calls Try.prog 22 #[.agg #[.int .i64 a0_0, .slice A0_1 0 c0_1]] w fun e w' => ∃ v0_ : Value, e = .returned (.tuple #[v0_, .int .i64 0, .int .i64 0]) ∧ Kd.R (Kd.int .i64) 3 w' w.heap.size (fun _ => True) v0_ [] ∧ Below w.heap.size w w' := by
  have hcon := fun W (hb : Below w.heap.size w W) => punch_Check.calls a0_0 A0_1 c0_1 [] _ W (Kd.C_below hr hb) (Nat.zero_le _) rfl
  rw [h] at hcon
  simp only [List.length_nil] at hcon
  clear h hr
  have hb1 := blk_new w (.cells #[.int .i64 a0_0, .slice A0_1 0 c0_1] 24)
  have hB0 := below_alloc (Below.refl w.heap.size w) (.cells #[.int .i64 a0_0, .slice A0_1 0 c0_1] 24)
  go_enter Try.func22, Try.ntmps22
  go_wp2_with fail
  obtain ⟨W0, hW0⟩ : ∃ W0, w.alloc (.cells #[.int .i64 a0_0, .slice A0_1 0 c0_1] 24) = W0 := ⟨_, rfl⟩
  rw [hW0] at hb1 hB0 ⊢
  clear hW0
  refine (hcon W0 hB0).mono ?_
  rintro e w1 ⟨rfl, hb⟩
  have B1 := Aside0.mk (blk_below hb1 hb)
  have HB := Aside0.mk (below_step hB0 hb)
  clear hb1 hB0 hb hcon
  have c11 : w1.cell? ⟨w.heap.size, 1, none⟩ = some (.slice A0_1 0 c0_1) := (blk_cell B1.out 1).trans rfl
  have l1 := blk_lt B1.out
  have hmk := print_make (P := Try.prog) 26 3 .i64 8 Try.underlying26 info3 (by decide) 0 (by omega)
  simp only [Int.ofNat_eq_natCast, Int.natCast_zero, Int.cast_ofNat_Int] at hmk
  go_wp2
  refine wp_loop_once ?_
  go_wp2_with fail
  have hA1 := blk_alloc (blk_alloc B1.out (.cells (madeCells #[.int .i64 0] 0) 3)) (.cells #[.func (.func 57) #[] #[]] 100)
  have hAB := below_alloc (below_alloc HB.out (.cells (madeCells #[.int .i64 0] 0) 3)) (.cells #[.func (.func 57) #[] #[]] 100)
  obtain ⟨V0, hV0⟩ : ∃ V0, (w1.alloc (.cells (madeCells #[.int .i64 0] 0) 3)).alloc (.cells #[.func (.func 57) #[] #[]] 100) = V0 := ⟨_, rfl⟩
  rw [hV0] at hA1 hAB ⊢
  clear hV0 c11 l1
  refine (sortStable_none _ _ _ _).mono ?_
  rintro e w2 ⟨rfl, rfl⟩
  have c10 : w2.cell? ⟨w.heap.size, 0, none⟩ = some (.int .i64 a0_0) := (blk_cell hA1 0).trans rfl
  have c11 : w2.cell? ⟨w.heap.size, 1, none⟩ = some (.slice A0_1 0 c0_1) := (blk_cell hA1 1).trans rfl
  have HAB := Aside0.mk hAB
  clear hA1 hAB B1 HB
  go_wp2_with fail
  refine (blank_calls a0_0 A0_1 0 c0_1 w2).mono ?_
  rintro e w3 ⟨g, rfl, hg, hbs, hb⟩
  have XB := Aside0.mk (below_step HAB.out hb)
  clear hb hbs c10 c11 hg
  go_wp2
  refine wp_loop_once ?_
  have hsl := slice_sheet g 0 (by omega)
  simp only [Int.ofNat_eq_natCast, Int.natCast_zero, Int.cast_ofNat_Int] at hsl
  go_wp2_with fail
  refine (show Calls Try.prog 62 _ _ _ from Any.slices_Clone_int_zero laysC ⟨g, 2, none⟩ 40 w3).mono ?_
  rintro e w4 ⟨v, rfl, hown, _, hb4⟩
  have hR := R_int_own (xs := []) hown
  have hB4 := XB.out.trans (hb4.mono XB.out.size)
  obtain ⟨A, c, rfl, hcc, hC⟩ := Kd.R_reads hR
  have hpas := punch_passes.calls 1 A c [] 0 w4 hC hcc rfl
  have HRR := Aside0.mk (Kd.R_lower hR XB.out.size)
  have HB4 := Aside0.mk hB4
  simp only [List.length_nil] at hpas HRR
  clear hown hb4 hR hB4 hC XB hcc
  go_wp2_with (go_at_call 63; refine hpas.mono ?_; rintro e w5 ⟨rfl, hb5⟩)
  go_ret3
  exact ⟨_, rfl, Kd.R_below HRR.out hb5, below_step HB4.out hb5⟩
theorem planOf_nil (r : Int) : planOf r [] = [] := rfl
theorem punch_Passes.calls (a0_0 : Int) (A0_1 : Option Addr) (c0_1 : Nat) (l0_1 : List (S47)) (r1 : List Int) (r2 r3 : Int) (w : World) (hr0_1 : Kd.C k47 w A0_1 l0_1.length l0_1) (hc0_1 : l0_1.length ≤ c0_1) (h : punch_Passes.f a0_0 l0_1 = some (r1, r2, r3)) :
    Calls Try.prog 22 #[.agg #[.int .i64 a0_0, .slice A0_1 l0_1.length c0_1]] w fun e w' => ∃ v0_ : Value, e = .returned (.tuple #[v0_, .int .i64 r2, .int .i64 r3]) ∧ Kd.R (Kd.int .i64) 3 w' w.heap.size (fun _ => True) v0_ r1 ∧ Below w.heap.size w w' := by
  unfold punch_Passes.f at h
  by_cases hz : checkE a0_0 l0_1 = 0
  · rw [if_pos hz] at h
    by_cases hm : l0_1.length ≤ 19
    · rw [if_pos hm] at h
      obtain ⟨rfl, rfl, rfl⟩ : planOf a0_0 l0_1 = r1 ∧ passesN (planOf a0_0 l0_1) = r2 ∧ 0 = r3 := by simpa using h
      rcases Nat.eq_zero_or_pos l0_1.length with h0 | h0
      · obtain rfl : l0_1 = [] := List.length_eq_zero_iff.1 h0
        exact passes_none a0_0 A0_1 c0_1 w hr0_1 hz
      · exact passes_some a0_0 A0_1 c0_1 l0_1 w hr0_1 hc0_1 hz h0 hm
    · rw [if_neg hm] at h
      exact absurd h (by simp)
  · rw [if_neg hz] at h
    obtain ⟨rfl, rfl, rfl⟩ : [] = r1 ∧ 0 = r2 ∧ checkE a0_0 l0_1 = r3 := by simpa using h
    exact (passes_bad a0_0 A0_1 c0_1 l0_1 w hr0_1 hc0_1 hz).mono fun e w' h => ⟨_, h.1, Kd.R_nil _ _ _ _ _, h.2⟩
end Go.Proofs.Ytaaonhfaoaabbaa.X
