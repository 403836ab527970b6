/- The shelf's insertion sort at this program. -/
import Derived.Test.YtaaonhfaoaabbaaE1
import Derived.Shelf.SlSortCmp.Insertion1
import Derived.Lib.OwnBridge
import Derived.Test.YtaaonhfaoaabbaaE3
import Derived.Test.YtaaonhfaoaabbaaE8
namespace Go.Proofs.Ytaaonhfaoaabbaa.X
open Go.Shelf Go.Sort Go.Lib Go.Proofs.YtaaonhfaoaabbaaF Go.RowKit Go.Proofs.YtaaonhfaoaabbaaW.PrintWords Go.Proofs.YtaaonhfaoaabbaaW.PrintLast Go.Proofs.YtaaonhfaoaabbaaW.PrintMore
attribute [local go_sem] Oper.semAt_some
def renI : Ren := ⟨fun | 20 => 88 | n => n, fun | 0 => 0 | 3 => 3 | 4 => 4 | 22 => 26 | 24 => 3 | 25 => 103 | n => n, fun n => n⟩
theorem laysI : SlLaysF.n20 Try.prog renI := {
  mixed := by kernel_rfl
  f20 := ⟨Try.f88.name, by decide, by kernel_rfl⟩
  t0 := by kernel_rfl
  a0 := by intro w; simp [renI, go_sem]
  z0 := by intro w; simp [renI, go_sem]
  v0 := by intro w; simp [renI, go_sem]
  t3 := by kernel_rfl
  a3 := by intro w; simp [renI, go_sem]
  z3 := by intro w; simp [renI, go_sem]
  v3 := by intro w; simp [renI, go_sem]
  t4 := by kernel_rfl
  a4 := by intro w; simp [renI, go_sem]
  z4 := by intro w; simp [renI, go_sem]
  v4 := by intro w; simp [renI, go_sem]
  t22 := by kernel_rfl
  a22 := by intro w; simp [renI, go_sem]
  z22 := by intro w; simp [renI, go_sem]
  v22 := by intro w; simp [renI, go_sem]
  a24 := by intro w; simp [renI, go_sem]
  z24 := by intro w; simp [renI, go_sem]
  t25 := by kernel_rfl
  a25 := by intro w; simp [renI, go_sem]
  z25 := by intro w; simp [renI, go_sem]
  v25 := by intro w; simp [renI, go_sem] }
/-- A world with more draws and more blocks. -/
def GrowQ (w w' : World) : Prop := ∃ (q : Nat) (os : Array Obj), w' = grow (w.drewN q) os
theorem GrowQ.refl (w : World) : GrowQ w w := ⟨0, #[], by rw [grow_empty]; rfl⟩
theorem GrowQ.drewN {w w' : World} (h : GrowQ w w') (n : Nat) : GrowQ w (w'.drewN n) := by
  obtain ⟨q, os, rfl⟩ := h
  refine ⟨q + n, os, ?_⟩
  show grow ((w.drewN q).drewN n) os = _
  congr 1
  simp only [World.drewN, Nat.add_assoc]
theorem GrowQ.drew {w w' : World} (h : GrowQ w w') : GrowQ w w'.drew := h.drewN 1
theorem GrowQ.alloc {w w' : World} (h : GrowQ w w') (o : Obj) : GrowQ w (w'.alloc o) := by
  obtain ⟨q, os, rfl⟩ := h
  exact ⟨q, os ++ #[o], by rw [alloc_eq_grow, grow_grow]⟩
theorem GrowQ.trans {w w' w'' : World} (h : GrowQ w w') (k : GrowQ w' w'') : GrowQ w w'' := by
  obtain ⟨n, os, rfl⟩ := k
  obtain ⟨q, os', e⟩ := h.drewN n
  exact ⟨q, os' ++ os, by rw [e, grow_grow]⟩
/-- What cmp.Compare answers. -/
def cmpI (a b : Int) : Int := if a < b then -1 else if a > b then 1 else 0
theorem compare_eq (a b : Int) : cmp_Compare_int.f a b = some (cmpI a b) := by
  unfold cmp_Compare_int.f cmp_isNaN_int.f cmpI
  by_cases h1 : a < b <;> by_cases h2 : a > b <;> simp [h1, h2]
set_option maxHeartbeats 400000 in
theorem begins_calls (a0 a1 b0 b1 : Int) (w : World) : Calls Try.prog 57 #[.agg #[.int .i64 a0, .int .i64 a1], .agg #[.int .i64 b0, .int .i64 b1]] w fun e w' => e = .returned (.int .i64 (cmpI a0 b0)) ∧ GrowQ w w' := by
  go_enter Try.func57, Try.ntmps57
  go_wp2_with (go_at_call 79; refine (cmp_Compare_int.calls _ _ _ _ (compare_eq _ _)).mono ?_; rintro e w' ⟨rfl, ⟨q, rfl⟩⟩)
  go_ret
  exact ⟨rfl, (((GrowQ.refl _).alloc _).alloc _).drewN _⟩
set_option maxRecDepth 100000 in
set_option maxHeartbeats 2000000 in
theorem closure_calls (b8 b1 : Nat) (A : Option Addr) (c : Nat) (l : List S47) (x y : Nat) (w W : World) (hx : x < l.length) (hy : y < l.length)
    (h8 : W.cell? ⟨b8, 0, none⟩ = some (.func (.func 57) #[] #[])) (h1 : W.cell? ⟨b1, 1, none⟩ = some (.slice A l.length c)) (hr : Kd.C k47 w A l.length l) (hw : Below w.heap.size w W) (l1 : b1 < W.heap.size) (l8 : b8 < W.heap.size) :
    Calls Try.prog 59 #[.int .i64 x, .int .i64 y, .pointer (some ⟨b8, 0, none⟩), .pointer (some ⟨b1, 0, none⟩)] W fun e w' => e = .returned (.int .i64 (cmpI (rd_T47 l x).f0 (rd_T47 l y).f0)) ∧ GrowQ W w' := by
  have hxz : (x : Int) < (l.length : Int) := by omega
  have hyz : (y : Int) < (l.length : Int) := by omega
  obtain ⟨ad, e1, s0, s1⟩ := at_T47 hr (x : Int) (by omega) hxz
  obtain ⟨ad', e2, t0, t1⟩ := at_T47 hr (y : Int) (by omega) hyz
  subst e1
  obtain rfl : ad = ad' := by simpa using e2
  replace s0 := (hw.cell (World.block_lt_of_cell? w _ s0)).trans s0
  replace s1 := (hw.cell (World.block_lt_of_cell? w _ s1)).trans s1
  replace t0 := (hw.cell (World.block_lt_of_cell? w _ t0)).trans t0
  replace t1 := (hw.cell (World.block_lt_of_cell? w _ t1)).trans t1
  simp only [Int.toNat_natCast] at s0 s1 t0 t1
  generalize (rd_T47 l (x : Int)).f0 = x0 at *
  generalize (rd_T47 l (x : Int)).f1 = x1 at *
  generalize (rd_T47 l (y : Int)).f0 = y0 at *
  generalize (rd_T47 l (y : Int)).f1 = y1 at *
  go_enter Try.func59, Try.ntmps59
  go_wp2
  refine wp_region_still_tail 11 mixed (by kernel_rfl) ?_
  simp only [List.take_succ_cons, List.take_zero, List.drop_succ_cons, List.drop_zero]
  repeat still_step
  refine wpStill_nil ?_
  go_wp2_with (go_at_call 57; refine (begins_calls _ _ _ _ _).mono ?_; rintro e w' ⟨rfl, hg⟩)
  go_ret
  exact ⟨rfl, ((GrowQ.refl _).drew).trans hg⟩
/-- In the sort's worlds all is as it was below. -/
theorem below_sortWorld {α : Type} [Inhabited α] (enc : α → Value) {B : Nat} {w0 w : World} (blk m : Nat) (dk : Array α) (os : Array Obj) (h : RowKit.Below B w0 w) (hg : B ≤ blk) (hB : B ≤ w0.heap.size) : RowKit.Below B w0 (sortWorld enc w blk 0 m dk os) := by
  have h1 := below_putRow (enc := enc) (q := m) (d := dk) h hg
  have hsz : B ≤ (putRow enc (Sort.ahead w m) blk 0 dk).heap.size := Nat.le_trans hB h1.size
  unfold sortWorld grow
  refine ⟨h1.os, h1.tape, h1.output, by simp only [Array.size_append]; have := h1.size; omega, fun k hk => ?_⟩
  rw [← h1.block k hk, Array.getElem?_append_left (by omega)]
theorem heap_sortWorld_other {α : Type} [Inhabited α] (enc : α → Value) (w : World) (blk m : Nat) (dk : Array α) (os : Array Obj) {k : Nat} (hk : k ≠ blk) (hl : k < w.heap.size) : (sortWorld enc w blk 0 m dk os).heap[k]? = w.heap[k]? := by
  unfold sortWorld grow
  rw [Array.getElem?_append_left (by simpa [putRow, mapBlock, Sort.ahead] using hl)]
  simp [putRow, mapBlock, Sort.ahead, Array.getElem?_modify, show blk ≠ k from fun e => hk e.symm]
def encF (n : Nat) (x : Fin n) : Value := .int .i64 (x.val : Int)
/-- Who sorts by From. -/
theorem cmp_lays (N b8 b1 blk : Nat) (A : Option Addr) (c : Nat) (l : List S47) [Inhabited (Fin l.length)] (w w0 : World) (hr : Kd.C k47 w A l.length l) (hw : RowKit.Below w.heap.size w w0) (hb : w.heap.size ≤ blk) (hblk : blk < w0.heap.size)
    (rest : Int) (h8 : w0.heap[b8]? = some (.cells #[.func (.func 57) #[] #[]] 100 (0, 0))) (h1 : w0.heap[b1]? = some (.cells #[.int .i64 rest, .slice A l.length c] 24 (0, 0))) (n8 : b8 ≠ blk) (n1 : b1 ≠ blk) :
    CmpLays1 Try.prog 59 #[.pointer (some ⟨b8, 0, none⟩), .pointer (some ⟨b1, 0, none⟩)] (encF l.length) (fun x y => cmpI (rd_T47 l (x.val : Int)).f0 (rd_T47 l (y.val : Int)).f0) blk 0 N w0 := by
  intro m os dk hs x y
  have hsz := lt_sortWorld (encF l.length) w0 blk 0 m dk os hblk
  have hle : w0.heap.size ≤ (sortWorld (encF l.length) w0 blk 0 m dk os).heap.size := (below_sortWorld (encF l.length) blk m dk os (RowKit.Below.refl _ _) (Nat.zero_le _) (Nat.zero_le _)).size
  have l8 := blk_lt h8
  have l1 := blk_lt h1
  refine (closure_calls b8 b1 A c l x.val y.val w (sortWorld (encF l.length) w0 blk 0 m dk os) x.isLt y.isLt ?_ ?_ hr (below_sortWorld _ _ _ _ _ hw hb (Nat.le_refl _)) (by omega) (by omega)).mono ?_
  · exact (blk_cell ((heap_sortWorld_other _ _ _ _ _ _ n8 l8).trans h8) 0).trans rfl
  · exact (blk_cell ((heap_sortWorld_other _ _ _ _ _ _ n1 l1).trans h1) 1).trans rfl
  · rintro e w' ⟨rfl, q, os', rfl⟩
    exact ⟨rfl, q, os', rfl⟩
theorem ltOf_cmp (l : List S47) : ltOf (fun x y : Fin l.length => cmpI (rd_T47 l (x.val : Int)).f0 (rd_T47 l (y.val : Int)).f0) = ltK (fun x : Fin l.length => (rd_T47 l (x.val : Int)).f0) := by
  funext x y
  unfold ltOf ltK cmpI
  dsimp only
  congr 1
  apply propext
  constructor
  · intro h
    split at h
    · assumption
    · split at h <;> omega
  · intro h
    rw [if_pos h]
    omega
set_option maxRecDepth 100000 in
set_option maxHeartbeats 2000000 in
/-- The stable sort of at most 19. -/
theorem stable_calls {n : Nat} [Inhabited (Fin n)] (cf : Fin n → Fin n → Int) (g : Nat) (cb : Array Value) (blk c : Nat) (d : Array (Fin n)) (w : World) (hn : n ≤ 19) (hd : d.size = n)
    (eg : ∀ args w, (callFunc g args).run Try.prog w = .ok (.enter g args) w) (hcmp : CmpLays1 Try.prog g cb (encF n) cf blk 0 d.size w) (hH : Holds (encF n) w blk 0 d) (hblk : blk < w.heap.size) :
    Calls Try.prog 80 #[.slice (some ⟨blk, 0, none⟩) n c, .int .i64 n, .func (.func g) #[] cb] w fun e w' => e = .returned (.tuple #[]) ∧ SW (encF n) w blk 0 (insertionSort (ltOf cf) d 0 n) w' := by
  have hins := Any.insertionSortCmpFunc_s laysI (encF n) cf g cb blk 0 c 0 n d d w w eg hcmp ⟨fun x => rfl, hH, hblk⟩ rfl (SW.start hH) (Nat.zero_le _) (by omega) (by omega)
  rw [hd] at hins
  change Calls Try.prog 88 _ _ _ at hins
  rw [show ((0 : Nat) : Int) = 0 from rfl] at hins
  have h20 : ¬ (20 : Int) ≤ (n : Int) := by omega
  have h21 : ¬ (20 : Int) < (n : Int) := by omega
  clear hcmp hH
  go_enter Try.func80, Try.ntmps80
  go_wp2
  refine wp_loop_once ?_
  go_wp2_with (go_at_call 88; refine hins.mono ?_; rintro e w' ⟨rfl, hS⟩)
  refine wp_loop_once ?_
  go_wp2
  go_end0
  exact ⟨rfl, hS⟩
set_option maxHeartbeats 1000000 in
theorem sortStable_calls {n : Nat} [Inhabited (Fin n)] (cf : Fin n → Fin n → Int) (g : Nat) (cb : Array Value) (blk c : Nat) (d : Array (Fin n)) (w : World) (hn : n ≤ 19) (hd : d.size = n)
    (eg : ∀ args w, (callFunc g args).run Try.prog w = .ok (.enter g args) w) (hcmp : CmpLays1 Try.prog g cb (encF n) cf blk 0 d.size w) (hH : Holds (encF n) w blk 0 d) (hblk : blk < w.heap.size) :
    Calls Try.prog 58 #[.slice (some ⟨blk, 0, none⟩) n c, .func (.func g) #[] cb] w fun e w' => e = .returned (.tuple #[]) ∧ SW (encF n) w blk 0 (insertionSort (ltOf cf) d 0 n) w' := by
  have h := stable_calls cf g cb blk c d w hn hd eg hcmp hH hblk
  clear hcmp hH
  go_enter Try.func58, Try.ntmps58
  go_wp2_with (go_at_call 80; refine h.mono ?_; rintro e w' ⟨rfl, hS⟩)
  go_end0
  exact ⟨rfl, hS⟩
set_option maxHeartbeats 1000000 in
theorem insertion_none (A : Option Addr) (c : Nat) (fv : Value) (w : World) : Calls Try.prog 88 #[.slice A 0 c, .int .i64 0, .int .i64 0, fv] w fun e w' => e = .returned (.tuple #[]) ∧ w' = w := by
  go_enter Try.func88, Try.ntmps88
  go_wp2
  refine wp_loop_once ?_
  go_wp2
  go_end0
  exact ⟨rfl, rfl⟩
set_option maxHeartbeats 1000000 in
theorem stable_none (A : Option Addr) (c : Nat) (fv : Value) (w : World) : Calls Try.prog 80 #[.slice A 0 c, .int .i64 0, fv] w fun e w' => e = .returned (.tuple #[]) ∧ w' = w := by
  have h := insertion_none A c fv w
  go_enter Try.func80, Try.ntmps80
  go_wp2
  refine wp_loop_once ?_
  go_wp2_with (go_at_call 88; refine h.mono ?_; rintro e w' ⟨rfl, rfl⟩)
  refine wp_loop_once ?_
  go_wp2
  go_end0
  exact ⟨rfl, rfl⟩
set_option maxHeartbeats 1000000 in
theorem sortStable_none (A : Option Addr) (c : Nat) (fv : Value) (w : World) : Calls Try.prog 58 #[.slice A 0 c, fv] w fun e w' => e = .returned (.tuple #[]) ∧ w' = w := by
  have h := stable_none A c fv w
  go_enter Try.func58, Try.ntmps58
  go_wp2_with (go_at_call 80; refine h.mono ?_; rintro e w' ⟨rfl, rfl⟩)
  go_end0
  exact ⟨rfl, rfl⟩
end Go.Proofs.Ytaaonhfaoaabbaa.X
