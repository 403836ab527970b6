/- The calls of Prove. -/
import Derived.Test.YtaaonhfaoaabbaaE12
namespace Go.Proofs.Ytaaonhfaoaabbaa.X
open Go.Shelf Go.Sort Go.Lib Go.Proofs.YtaaonhfaoaabbaaF Go.RowKit Go.Proofs.YtaaonhfaoaabbaaW.PrintWords Go.Proofs.YtaaonhfaoaabbaaW.PrintLast Go.Proofs.YtaaonhfaoaabbaaW.PrintMore
attribute [local go_sem] Oper.semAt_some
/-- One slot more. -/
def provStep (rest : Int) (l : List S47) (p : Int × Int) (s : S47) : Int × Int := if crowdN rest l s.f0 > p.1 then (crowdN rest l s.f0, s.f0) else p
/-- The crowd among the first k. -/
def crowdNTo (rest m : Int) (l : List S47) (k : Nat) : Int := (((l.take k).filter (inCrowd rest m)).length : Int)
theorem crowdNTo_succ {rest m : Int} {l : List S47} {k : Nat} (h : k < l.length) : crowdNTo rest m l (k + 1) = if inCrowd rest m (rd_T47 l k) then crowdNTo rest m l k + 1 else crowdNTo rest m l k := by
  unfold crowdNTo
  rw [take_snoc h, List.filter_append, List.length_append]
  cases hc : inCrowd rest m (rd_T47 l k) <;> simp [hc]
theorem crowdNTo_le (rest m : Int) (l : List S47) (k : Nat) : 0 ≤ crowdNTo rest m l k ∧ crowdNTo rest m l k ≤ k := by
  unfold crowdNTo
  have h := List.length_filter_le (inCrowd rest m) (l.take k)
  have h2 : (l.take k).length ≤ k := by simp; omega
  omega
theorem crowdNTo_all (rest m : Int) (l : List S47) : crowdNTo rest m l l.length = crowdN rest l m := by unfold crowdNTo crowdN; rw [List.take_length]
theorem provFold_max (rest : Int) (l : List S47) : ∀ (l' : List S47) (p : Int × Int), (l'.foldl (provStep rest l) p).1 = l'.foldl (fun a s => max a (crowdN rest l s.f0)) p.1
  | [], _ => rfl
  | s :: l', p => by
    rw [List.foldl_cons, List.foldl_cons, provFold_max rest l l']
    congr 1
    unfold provStep
    by_cases h : crowdN rest l s.f0 > p.1
    · rw [if_pos h]; show crowdN rest l s.f0 = _; omega
    · rw [if_neg h]; omega
theorem foldl_max_perm {f : S47 → Int} {l l' : List S47} (h : l'.Perm l) (a : Int) : l'.foldl (fun a s => max a (f s)) a = l.foldl (fun a s => max a (f s)) a := by
  refine h.foldl_eq' (fun x _ y _ z => ?_) a
  omega
theorem foldl_max_le {f : S47 → Int} : ∀ (l : List S47) (a : Int), a ≤ l.foldl (fun a s => max a (f s)) a ∧ ∀ s ∈ l, f s ≤ l.foldl (fun a s => max a (f s)) a
  | [], a => ⟨Int.le_refl _, by simp⟩
  | s :: l, a => by
    have h := foldl_max_le (f := f) l (max a (f s))
    rw [List.foldl_cons]
    refine ⟨by have := h.1; omega, fun t ht => ?_⟩
    rcases List.mem_cons.1 ht with rfl | ht
    · have := h.1; omega
    · exact h.2 t ht
theorem foldl_max_mem {f : S47 → Int} : ∀ (l : List S47) (a : Int), l.foldl (fun a s => max a (f s)) a = a ∨ ∃ s ∈ l, f s = l.foldl (fun a s => max a (f s)) a
  | [], a => .inl rfl
  | s :: l, a => by
    rw [List.foldl_cons]
    rcases foldl_max_mem (f := f) l (max a (f s)) with h | ⟨t, ht, he⟩
    · rw [h]
      rcases Int.le_total a (f s) with h1 | h1
      · exact .inr ⟨s, List.mem_cons_self, by omega⟩
      · exact .inl (by omega)
    · exact .inr ⟨t, List.mem_cons_of_mem _ ht, he⟩
theorem foldl_min_le : ∀ (l : List Int) (a : Int), l.foldl min a ≤ a ∧ (∀ x ∈ l, l.foldl min a ≤ x) ∧ (l.foldl min a = a ∨ l.foldl min a ∈ l)
  | [], a => ⟨Int.le_refl _, by simp, .inl rfl⟩
  | s :: l, a => by
    have h := foldl_min_le l (min a s)
    rw [List.foldl_cons]
    refine ⟨by have := h.1; omega, fun t ht => ?_, ?_⟩
    · rcases List.mem_cons.1 ht with rfl | ht
      · have := h.1; omega
      · exact h.2.1 t ht
    · rcases h.2.2 with h3 | h3
      · rw [h3]
        rcases Int.le_total a s with h1 | h1
        · exact .inl (by omega)
        · exact .inr (by rw [show min a s = s by omega]; exact List.mem_cons_self)
      · exact .inr (List.mem_cons_of_mem _ h3)
/-- The moment is the first at which the most was reached. -/
theorem provFold_first (rest : Int) (l : List S47) : ∀ (l' : List S47) (p : Int × Int), (∀ i j : Nat, i < j → j < l'.length → (rd_T47 l' i).f0 ≤ (rd_T47 l' j).f0) →
    (l'.foldl (provStep rest l) p = p ∧ ∀ s ∈ l', crowdN rest l s.f0 ≤ p.1) ∨
    (∃ s ∈ l', (l'.foldl (provStep rest l) p).2 = s.f0 ∧ crowdN rest l s.f0 = (l'.foldl (provStep rest l) p).1 ∧ p.1 < crowdN rest l s.f0 ∧ ∀ t ∈ l', crowdN rest l t.f0 = (l'.foldl (provStep rest l) p).1 → s.f0 ≤ t.f0)
  | [], p, _ => .inl ⟨rfl, by simp⟩
  | x :: l', p, hs => by
    have hs' : ∀ i j : Nat, i < j → j < l'.length → (rd_T47 l' i).f0 ≤ (rd_T47 l' j).f0 := fun i j hij hj => by
      have := hs (i + 1) (j + 1) (by omega) (by simp; omega)
      simpa [rd_T47] using this
    have hx : ∀ t ∈ l', x.f0 ≤ t.f0 := fun t ht => by
      obtain ⟨j, hj, rfl⟩ := List.getElem_of_mem ht
      have := hs 0 (j + 1) (by omega) (by simp; omega)
      simpa [rd_T47, List.getD_eq_getElem?_getD, hj] using this
    rw [List.foldl_cons]
    by_cases hgt : crowdN rest l x.f0 > p.1
    · have e : provStep rest l p x = (crowdN rest l x.f0, x.f0) := by unfold provStep; rw [if_pos hgt]
      rw [e]
      rcases provFold_first rest l l' (crowdN rest l x.f0, x.f0) hs' with ⟨h1, h2⟩ | ⟨s, hm, h1, h2, h3, h4⟩
      · rw [h1]
        refine .inr ⟨x, List.mem_cons_self, rfl, rfl, hgt, fun t ht _ => ?_⟩
        rcases List.mem_cons.1 ht with rfl | ht
        · exact Int.le_refl _
        · exact hx t ht
      · refine .inr ⟨s, List.mem_cons_of_mem _ hm, h1, h2, ?_, fun t ht htc => ?_⟩
        · dsimp only at h3; omega
        · rcases List.mem_cons.1 ht with rfl | ht
          · dsimp only at h3; omega
          · exact h4 t ht htc
    · have e : provStep rest l p x = p := by unfold provStep; rw [if_neg hgt]
      rw [e]
      rcases provFold_first rest l l' p hs' with ⟨h1, h2⟩ | ⟨s, hm, h1, h2, h3, h4⟩
      · refine .inl ⟨h1, fun t ht => ?_⟩
        rcases List.mem_cons.1 ht with rfl | ht
        · omega
        · exact h2 t ht
      · refine .inr ⟨s, List.mem_cons_of_mem _ hm, h1, h2, h3, fun t ht htc => ?_⟩
        rcases List.mem_cons.1 ht with rfl | ht
        · omega
        · exact h4 t ht htc
theorem prov_eq (rest : Int) (l l' : List S47) (hok : l.all okSlot = true) (hp : l'.Perm l) (hs : ∀ i j : Nat, i < j → j < l'.length → (rd_T47 l' i).f0 ≤ (rd_T47 l' j).f0) :
    (l'.foldl (provStep rest l) (0, 0)).1 = mostN rest l ∧ (mostN rest l ≠ 0 → (l'.foldl (provStep rest l) (0, 0)).2 = momentOf rest l) := by
  have h1 : (l'.foldl (provStep rest l) (0, 0)).1 = mostN rest l := by
    rw [provFold_max]
    exact foldl_max_perm hp 0
  refine ⟨h1, fun hne => ?_⟩
  rcases provFold_first rest l l' (0, 0) hs with ⟨h2, _⟩ | ⟨s, hm, h2, h3, h4, h5⟩
  · rw [h2] at h1; exact absurd h1.symm hne
  · rw [h1] at h3 h5
    rw [h2]
    have hml : s ∈ l := hp.mem_iff.1 hm
    have hmin := foldl_min_le (((l.filter (fun s => decide (crowdN rest l s.f0 = mostN rest l))).map (·.f0))) 1000000
    unfold momentOf
    have hle := hmin.2.1 s.f0 (List.mem_map.2 ⟨s, List.mem_filter.2 ⟨hml, by simpa using h3⟩, rfl⟩)
    have hb := ok_bounds (List.all_eq_true.1 hok s hml)
    rcases hmin.2.2 with h6 | h6
    · omega
    · obtain ⟨t, ht, hte⟩ := List.mem_map.1 h6
      obtain ⟨ht1, ht2⟩ := List.mem_filter.1 ht
      have := h5 t (hp.mem_iff.2 ht1) (by simpa using ht2)
      omega
set_option maxRecDepth 100000 in
set_option maxHeartbeats 4000000 in
theorem prove_main (a0_0 : Int) (A0_1 : Option Addr) (c0_1 : Nat) (l : List S47) (w : World) (hr : Kd.C k47 w A0_1 l.length l) (hc : l.length ≤ c0_1) (h : checkE a0_0 l = 0) (hm : l.length ≤ 12) (z1 z2 : Int) (hz : mostN a0_0 l = 0 → z1 = 0 ∧ z2 = 8) (hnz : mostN a0_0 l ≠ 0 → z1 = momentOf a0_0 l ∧ z2 = 0) :
    Calls Try.prog 24 #[.agg #[.int .i64 a0_0, .slice A0_1 l.length c0_1]] w fun e w' => e = .returned (.tuple #[.int .i64 z1, .int .i64 z2]) ∧ Below w.heap.size w w' := by
  have HZ := Aside0.mk hz
  have HNZ := Aside0.mk hnz
  clear hz hnz
  obtain ⟨r0, r1, hl, hok⟩ := check_ok h
  have hcon := fun W (hb : Below w.heap.size w W) => punch_Check.calls a0_0 A0_1 c0_1 l _ W (Kd.C_below hr hb) hc rfl
  rw [h] at hcon
  have HR := Aside0.mk hr
  have HOK := Aside0.mk hok
  clear h hr hok
  have hb1 := blk_new w (.cells #[.int .i64 a0_0, .slice A0_1 l.length c0_1] 24)
  have hB0 := below_alloc (Below.refl w.heap.size w) (.cells #[.int .i64 a0_0, .slice A0_1 l.length c0_1] 24)
  go_enter Try.func24, Try.ntmps24
  go_wp2_with fail
  obtain ⟨W0, hW0⟩ : ∃ W0, w.alloc (.cells #[.int .i64 a0_0, .slice A0_1 l.length c0_1] 24) = W0 := ⟨_, rfl⟩
  rw [hW0] at hb1 hB0 ⊢
  clear hW0
  refine (hcon W0 hB0).mono ?_
  rintro e w1 ⟨rfl, hb⟩
  have B1 := Aside0.mk (blk_below hb1 hb)
  have HB := Aside0.mk (below_step hB0 hb)
  clear hb1 hB0 hb hcon
  have c11 : w1.cell? ⟨w.heap.size, 1, none⟩ = some (.slice A0_1 l.length c0_1) := (blk_cell B1.out 1).trans rfl
  have l1 := blk_lt B1.out
  go_wp2_with fail
  refine (values_calls _ A0_1 l.length c0_1 rfl w1).mono ?_
  rintro e w2 ⟨rfl, hw2⟩
  have hv2 := blk_new w1 (.cells #[.slice A0_1 l.length c0_1] 22)
  have hb2 := blk_alloc B1.out (.cells #[.slice A0_1 l.length c0_1] 22)
  have hB2 := below_alloc HB.out (.cells #[.slice A0_1 l.length c0_1] 22)
  rw [← hw2] at hv2 hb2 hB2
  clear hw2
  have hsf := sortedFunc_calls w1.heap.size A0_1 c0_1 l w2 hm hv2 (Kd.C_below HR.out hB2)
  clear hv2 c11
  go_wp2_with fail
  refine hsf.mono ?_
  clear hsf
  rintro e w3 ⟨A3, c3, l', rfl, hp, hso, hC, hb⟩
  have hlen : l'.length = l.length := hp.length_eq
  have HP := Aside0.mk hp
  have HSO := Aside0.mk hso
  have HC := Aside0.mk hC
  have X1 := Aside0.mk (blk_below hb2 hb)
  have XB := Aside0.mk (below_step hB2 hb)
  clear hp hso hC hb2 hB2 hb HB B1 l1
  have hl1 : w.heap.size < w3.heap.size := blk_lt X1.out
  go_wp2
  go_loopw [2, 5, 22] (fun v2 v5 v22 wr => ∃ k : Nat, k ≤ l'.length ∧ v2 = .int .i64 ((l'.take k).foldl (provStep a0_0 l) (0, 0)).2 ∧ v5 = .int .i64 ((l'.take k).foldl (provStep a0_0 l) (0, 0)).1 ∧ v22 = .int .i64 k ∧ Aside0 (Below w3.heap.size w3 wr) ∧ Aside0 (Below w.heap.size w wr)) (fun _ _ v22 _ => l'.length - (intOf v22).toNat)
  case atStart => exact ⟨0, Nat.zero_le _, rfl, rfl, rfl, ⟨Below.refl _ _⟩, XB⟩
  case round =>
    obtain ⟨k, hk, rfl, rfl, rfl, HL, HB⟩ := hrel
    obtain ⟨p, hp⟩ : ∃ p, p = (l'.take k).foldl (provStep a0_0 l) (0, 0) := ⟨_, rfl⟩
    rw [← hp]
    have HPP := Aside0.mk hp
    clear hp
    by_cases hlt : k < l'.length
    · have hlz : (k : Int) < (l.length : Int) := by omega
      have hlz' : (k : Int) < (l'.length : Int) := by omega
      obtain ⟨ad, rfl, h0, h1⟩ := at_T47 HC.out (k : Int) (by omega) (by omega)
      replace h0 := (HL.out.cell (World.block_lt_of_cell? w3 _ h0)).trans h0
      replace h1 := (HL.out.cell (World.block_lt_of_cell? w3 _ h1)).trans h1
      simp only [Int.toNat_natCast] at h0 h1
      have hx1 := blk_below X1.out HL.out
      have c10 : wr.cell? ⟨w.heap.size, 0, none⟩ = some (.int .i64 a0_0) := (blk_cell hx1 0).trans rfl
      have c11 : wr.cell? ⟨w.heap.size, 1, none⟩ = some (.slice A0_1 l.length c0_1) := (blk_cell hx1 1).trans rfl
      have hlw := blk_lt hx1
      obtain ⟨x, hx⟩ : ∃ x, x = rd_T47 l' (k : Int) := ⟨_, rfl⟩
      rw [← hx] at h0 h1
      have HX := Aside0.mk hx
      clear hx hx1
      go_wp2_with fail
      refine (crowd_calls a0_0 x.f0 A0_1 l.length c0_1 _).mono ?_
      rintro e w4 ⟨g1, g2, rfl, hg1, hg2, hh1, hh2, hb4⟩
      have hb7 := blk_below (blk_new wr (.cells #[.int .i64 x.f0, .int .i64 x.f1] 47)) hb4
      have hBL := (below_alloc (Below.refl wr.heap.size wr) (.cells #[.int .i64 x.f0, .int .i64 x.f1] 47)).trans (hb4.mono (by simp))
      have HB7 := Aside0.mk hb7
      have HG1 := Aside0.mk hh1
      have HG2 := Aside0.mk hh2
      have HL4 := Aside0.mk (HL.out.trans (hBL.mono HL.out.size))
      have HB4 := Aside0.mk (HB.out.trans (hBL.mono HB.out.size))
      have hx1 := blk_below X1.out HL4.out
      have c10 : w4.cell? ⟨w.heap.size, 0, none⟩ = some (.int .i64 a0_0) := (blk_cell hx1 0).trans rfl
      have c11 : w4.cell? ⟨w.heap.size, 1, none⟩ = some (.slice A0_1 l.length c0_1) := (blk_cell hx1 1).trans rfl
      have hlw4 := blk_lt hx1
      clear hb7 hh1 hh2 hBL hb4 hg1 hg2 h0 h1 HL HB hx1
      go_wp2
      go_loopw [8, 33] (fun v8 v33 wq => ∃ j : Nat, j ≤ l.length ∧ v8 = .int .i64 (crowdNTo a0_0 x.f0 l j) ∧ v33 = .int .i64 j ∧ Aside0 (Below w4.heap.size w4 wq)) (fun _ v33 _ => l.length - (intOf v33).toNat)
      case atStart => exact ⟨0, Nat.zero_le _, rfl, rfl, ⟨Below.refl _ _⟩⟩
      case round =>
        clear c10 c11
        obtain ⟨j, hj, rfl, rfl, HQ⟩ := hrel
        by_cases hjl : j < l.length
        · have hjz : (j : Int) < (l.length : Int) := by omega
          obtain ⟨ad2, rfl, h0, h1⟩ := at_T47 HR.out (j : Int) (by omega) (by omega)
          have hwq := HB4.out.trans (HQ.out.mono HB4.out.size)
          replace h0 := (hwq.cell (World.block_lt_of_cell? w _ h0)).trans h0
          replace h1 := (hwq.cell (World.block_lt_of_cell? w _ h1)).trans h1
          simp only [Int.toNat_natCast] at h0 h1
          have hbd := ok_bounds (all_at HOK.out hjl)
          have hcr := crowdNTo_le a0_0 x.f0 l j
          have hsu := Aside0.mk (crowdNTo_succ (rest := a0_0) (m := x.f0) hjl)
          have hin := fun W hA hB => in_calls a0_0 x.f0 (rd_T47 l (j : Int)).f0 (rd_T47 l (j : Int)).f1 (some ad2) l.length c0_1 g1 g2 W hA hB r0 r1 (by omega) hbd.2.2
          have Q1 := Aside0.mk (blk_below HG1.out HQ.out)
          have Q2 := Aside0.mk (blk_below HG2.out HQ.out)
          obtain ⟨f0, hf0⟩ : ∃ f0, f0 = (rd_T47 l (j : Int)).f0 := ⟨_, rfl⟩
          obtain ⟨f1, hf1⟩ : ∃ f1, f1 = (rd_T47 l (j : Int)).f1 := ⟨_, rfl⟩
          rw [← hf0] at h0
          rw [← hf1] at h1
          rw [← hf0, ← hf1] at hin
          have hic : inCrowd a0_0 x.f0 ⟨f0, f1⟩ = inCrowd a0_0 x.f0 (rd_T47 l (j : Int)) := by rw [hf0, hf1]
          have HIC := Aside0.mk hic
          clear hf0 hf1 hbd hic
          cases hg : inCrowd a0_0 x.f0 ⟨f0, f1⟩ with
          | true =>
            rw [hg] at hin
            go_wp2_with (go_at_call 76; refine (hin _ (blk_alloc Q1.out _) (blk_alloc Q2.out _)).mono ?_; rintro e w' ⟨rfl, hb⟩)
            go_roundw
            case rel => exact ⟨j + 1, by omega, by rw [hsu.out, ← HIC.out, hg]; rfl, by go_num, ⟨(HQ.out.alloc HQ.out.size _).trans (hb.mono (by have := HQ.out.size; simp; omega))⟩⟩
            case measure => simp [intOf]; omega
          | false =>
            rw [hg] at hin
            go_wp2_with (go_at_call 76; refine (hin _ (blk_alloc Q1.out _) (blk_alloc Q2.out _)).mono ?_; rintro e w' ⟨rfl, hb⟩)
            go_roundw
            case rel => exact ⟨j + 1, by omega, by rw [hsu.out, ← HIC.out, hg]; rfl, by go_num, ⟨(HQ.out.alloc HQ.out.size _).trans (hb.mono (by have := HQ.out.size; simp; omega))⟩⟩
            case measure => simp [intOf]; omega
        · have hjz : ¬ (j : Int) < (l.length : Int) := by omega
          obtain rfl : j = l.length := by omega
          rw [crowdNTo_all]
          have hb7 := blk_below HB7.out HQ.out
          have c7 := (blk_cell hb7 0).trans rfl
          have XL := Aside0.mk (HL4.out.trans (HQ.out.mono HL4.out.size))
          have XB2 := Aside0.mk (HB4.out.trans (HQ.out.mono HB4.out.size))
          have hsn : ((l'.take (k + 1)).foldl (provStep a0_0 l) (0, 0)) = provStep a0_0 l p x := by
            rw [take_snoc hlt, List.foldl_append, ← HPP.out, ← HX.out]
            rfl
          by_cases hgt : crowdN a0_0 l x.f0 > p.1
          · have HSN := Aside0.mk (hsn.trans (show provStep a0_0 l p x = (crowdN a0_0 l x.f0, x.f0) by unfold provStep; rw [if_pos hgt]))
            clear hsn hb7
            generalize crowdN a0_0 l x.f0 = cn at *
            go_wp2
            go_roundw
            case rel => exact ⟨k + 1, by omega, by rw [HSN.out], by rw [HSN.out], by go_num, XL, XB2⟩
            case measure => simp [intOf]; omega
          · have HSN := Aside0.mk (hsn.trans (show provStep a0_0 l p x = p by unfold provStep; rw [if_neg hgt]))
            clear hsn hb7
            generalize crowdN a0_0 l x.f0 = cn at *
            go_wp2
            go_roundw
            case rel => exact ⟨k + 1, by omega, by rw [HSN.out], by rw [HSN.out], by go_num, XL, XB2⟩
            case measure => simp [intOf]; omega
    · have hlz : ¬ (k : Int) < (l.length : Int) := by omega
      obtain rfl : k = l'.length := by omega
      have hpe := HPP.out
      rw [List.take_length] at hpe
      obtain ⟨e1, e2⟩ := prov_eq a0_0 l l' HOK.out HP.out HSO.out
      rw [← hpe] at e1 e2
      by_cases hz : mostN a0_0 l = 0
      · obtain ⟨rfl, rfl⟩ := HZ.out hz
        have hp1 : (p.1 == 0) = true := by rw [e1, hz]; rfl
        clear e1 e2 hz hpe
        go_wp2
        go_ret2
        exact ⟨rfl, HB.out⟩
      · obtain ⟨h1, rfl⟩ := HNZ.out hz
        have hp1 : (p.1 == 0) = false := by rw [e1, beq_eq_false_iff_ne]; exact hz
        have H2 := Aside0.mk (h1.trans (e2 hz).symm)
        clear e1 e2 hz hpe h1
        go_wp2
        go_ret2
        exact ⟨by rw [H2.out]; rfl, HB.out⟩
theorem prove_bad (a0_0 : Int) (A0_1 : Option Addr) (c0_1 : Nat) (l : List S47) (w : World) (hr : Kd.C k47 w A0_1 l.length l) (hc : l.length ≤ c0_1) (h : ¬ checkE a0_0 l = 0) :
    Calls Try.prog 24 #[.agg #[.int .i64 a0_0, .slice A0_1 l.length c0_1]] w fun e w' => e = .returned (.tuple #[.int .i64 0, .int .i64 (checkE a0_0 l)]) ∧ Below w.heap.size w w' := by
  have hcon := fun W (hb : Below w.heap.size w W) => punch_Check.calls a0_0 A0_1 c0_1 l _ W (Kd.C_below hr hb) hc rfl
  have hz : (checkE a0_0 l != 0) = true := by rw [bne_iff_ne]; exact h
  clear h
  generalize checkE a0_0 l = z at *
  have hB0 := below_alloc (Below.refl w.heap.size w) (.cells #[.int .i64 a0_0, .slice A0_1 l.length c0_1] 24)
  go_enter Try.func24, Try.ntmps24
  go_wp2_with (go_at_call 20; refine (hcon _ hB0).mono ?_; rintro e w' ⟨rfl, hb⟩)
  go_ret2
  exact ⟨rfl, below_step hB0 hb⟩
theorem punch_Prove.calls (a0_0 : Int) (A0_1 : Option Addr) (c0_1 : Nat) (l0_1 : List (S47)) (r1 r2 : Int) (w : World) (hr0_1 : Kd.C k47 w A0_1 l0_1.length l0_1) (hc0_1 : l0_1.length ≤ c0_1) (h : punch_Prove.f a0_0 l0_1 = some (r1, r2)) :
    Calls Try.prog 24 #[.agg #[.int .i64 a0_0, .slice A0_1 l0_1.length c0_1]] w fun e w' => e = .returned (.tuple #[.int .i64 r1, .int .i64 r2]) ∧ Below w.heap.size w w' := by
  unfold punch_Prove.f at h
  by_cases hz : checkE a0_0 l0_1 = 0
  · rw [if_pos hz] at h
    by_cases hm : l0_1.length ≤ 12
    · rw [if_pos hm] at h
      by_cases h0 : mostN a0_0 l0_1 = 0
      · rw [if_pos h0] at h
        obtain ⟨rfl, rfl⟩ : 0 = r1 ∧ 8 = r2 := by simpa using h
        exact prove_main a0_0 A0_1 c0_1 l0_1 w hr0_1 hc0_1 hz hm _ _ (fun _ => ⟨rfl, rfl⟩) (fun h => absurd h0 h)
      · rw [if_neg h0] at h
        obtain ⟨rfl, rfl⟩ : momentOf a0_0 l0_1 = r1 ∧ 0 = r2 := by simpa using h
        exact prove_main a0_0 A0_1 c0_1 l0_1 w hr0_1 hc0_1 hz hm _ _ (fun h => absurd h h0) (fun _ => ⟨rfl, rfl⟩)
    · rw [if_neg hm] at h
      exact absurd h (by simp)
  · rw [if_neg hz] at h
    obtain ⟨rfl, rfl⟩ : 0 = r1 ∧ checkE a0_0 l0_1 = r2 := by simpa using h
    exact prove_bad a0_0 A0_1 c0_1 l0_1 w hr0_1 hc0_1 hz
end Go.Proofs.Ytaaonhfaoaabbaa.X
