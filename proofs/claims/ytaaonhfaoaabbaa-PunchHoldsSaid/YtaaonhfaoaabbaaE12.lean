/- The calls of slices.SortedFunc at slots. -/
import Derived.Test.YtaaonhfaoaabbaaE9
import Derived.Test.YtaaonhfaoaabbaaE11
import Derived.Shelf.SlSortCmp.InsertionK
namespace Go.Proofs.Ytaaonhfaoaabbaa.X
open Go.Shelf Go.Sort Go.Lib Go.Proofs.YtaaonhfaoaabbaaF Go.RowKit Go.Proofs.YtaaonhfaoaabbaaW.PrintWords Go.Proofs.YtaaonhfaoaabbaaW.PrintLast Go.Proofs.YtaaonhfaoaabbaaW.PrintMore
attribute [local go_sem] Oper.semAt_some
def renS : Ren := ⟨fun | 20 => 96 | n => n, fun | 24 => 47 | 25 => 100 | n => n, fun n => n⟩
theorem laysS : SlLaysF0.n20 Try.prog renS := {
  mixed := by kernel_rfl
  f20 := ⟨Try.f96.name, by decide, by kernel_rfl⟩
  t0 := by kernel_rfl
  a0 := by intro w; simp [renS, go_sem]
  z0 := by intro w; simp [renS, go_sem]
  v0 := by intro w; simp [renS, go_sem]
  t3 := by kernel_rfl
  a3 := by intro w; simp [renS, go_sem]
  z3 := by intro w; simp [renS, go_sem]
  v3 := by intro w; simp [renS, go_sem]
  t4 := by kernel_rfl
  a4 := by intro w; simp [renS, go_sem]
  z4 := by intro w; simp [renS, go_sem]
  v4 := by intro w; simp [renS, go_sem]
  t22 := by kernel_rfl
  a22 := by intro w; simp [renS, go_sem]
  z22 := by intro w; simp [renS, go_sem]
  v22 := by intro w; simp [renS, go_sem]
  t25 := by kernel_rfl
  a25 := by intro w; simp [renS, go_sem]
  z25 := by intro w; simp [renS, go_sem]
  v25 := by intro w; simp [renS, go_sem] }
instance : Inhabited S47 := ⟨z47⟩
theorem enc47_len (x : S47) : (enc47 x).length = 2 := rfl
theorem enc47_one (x : S47) : ∀ v ∈ enc47 x, v.oneCell' = true := by
  intro v hv
  simp [enc47] at hv
  rcases hv with rfl | rfl <;> rfl
theorem flat47_len (l : List S47) : (flat47 l).length = l.length * 2 := by
  induction l with
  | nil => rfl
  | cons x l ih => rw [show flat47 (x :: l) = enc47 x ++ flat47 l from rfl, List.length_append, ih, List.length_cons, enc47_len]; omega
theorem flat47_get : ∀ (l : List S47) (j : Nat), j < l.length * 2 → (flat47 l)[j]? = some ((enc47 (l[j / 2]!))[j % 2]!)
  | [], j, h => by simp at h
  | x :: l, 0, _ => rfl
  | x :: l, 1, _ => rfl
  | x :: l, j + 2, h => by
    have e : (flat47 (x :: l))[j + 2]? = (flat47 l)[j]? := rfl
    rw [e, flat47_get l j (by simp at h; omega), show (j + 2) / 2 = j / 2 + 1 from by omega, show (j + 2) % 2 = j % 2 from by omega]
    rfl
theorem holds_own {W : World} {g : Nat} {cur : Array Value} {l : List S47} (hg : W.heap[g]? = some (.cells cur 47 (0, 0))) (ht : cur.toList.take (l.length * 2) = flat47 l) : HoldsK enc47 2 W g 0 l.toArray := by
  intro j hj
  rw [size_flatK] at hj
  have hj' : j < l.length * 2 := by simpa using hj
  rw [Nat.zero_add, get_flatK _ _ _ _ hj]
  refine ⟨(blk_cell hg j).trans ?_, blk_frozen hg j⟩
  have h1 := flat47_get l j hj'
  rw [← ht, List.getElem?_take_of_lt hj', Array.getElem?_toList] at h1
  rw [h1]
  simp
theorem C_holds {W : World} {g : Nat} {d : Array S47} (h : HoldsK enc47 2 W g 0 d) (hn : d.size ≤ 40) : Kd.C k47 W (some ⟨g, 0, none⟩) d.size d.toList := by
  refine ⟨by simp, by omega, fun _ => ⟨_, rfl, fun j p hp => ⟨enc47 p, rfl, k47_mk W p, fun i u hu => ?_⟩⟩⟩
  have hj : j < d.size := by have := (List.getElem?_eq_some_iff.1 hp).1; simpa using this
  have hi : i < 2 := by have := (List.getElem?_eq_some_iff.1 hu).1; simpa [enc47] using this
  have h1 := (h.cell hj hi).1
  have hpe : d[j]! = p := by
    rw [getElem!_pos d j hj]
    have := (List.getElem?_eq_some_iff.1 hp).2
    simpa using this
  rw [hpe] at h1
  have hue : (enc47 p)[i]! = u := by
    rw [getElem!_pos (enc47 p) i (by simpa [enc47] using hi)]
    exact (List.getElem?_eq_some_iff.1 hu).2
  rw [hue] at h1
  have hsz : k47.sz = 2 := rfl
  rw [hsz, show (⟨g, 0, none⟩ : Addr).add (j * 2 + i) = ⟨g, 0 + j * 2 + i, none⟩ from by simp [Addr.add]; omega]
  exact h1
theorem begins_lays (N blk : Nat) (w : World) : CmpLays Try.prog 57 #[] enc47 2 (fun x y => cmpI x.f0 y.f0) blk 0 N w := by
  intro m os dk _ x y
  refine (begins_calls x.f0 x.f1 y.f0 y.f1 (sortWorldK enc47 2 w blk 0 m dk os)).mono ?_
  rintro e w' ⟨rfl, q, os', rfl⟩
  exact ⟨rfl, q, os', rfl⟩
/-- Before, by From. -/
def ltF (x y : S47) : Bool := decide (x.f0 < y.f0)
theorem ltOf_begins : ltOf (fun x y : S47 => cmpI x.f0 y.f0) = ltF := by
  funext x y
  unfold ltOf ltF cmpI
  dsimp only
  congr 1
  apply propext
  constructor
  · intro h
    split at h
    · assumption
    · split at h <;> omega
  · intro h
    rw [if_pos h]
    omega
theorem swoF : SWO ltF := by
  refine ⟨fun x => ?_, fun x y z => ?_, fun x y z => ?_⟩ <;> simp only [ltF, decide_eq_true_eq, decide_eq_false_iff_not] <;> omega
/-- What the sort leaves. -/
def Sorted12 (W : World) (blk : Nat) (l : List S47) (w' : World) : Prop := ∃ n d os, d.toList.Perm l ∧ SortedIn ltF 0 d.size d ∧ w' = sortWorldK enc47 2 W blk 0 n d os
theorem insertion_calls (blk c : Nat) (l : List S47) (W : World) (hl : l.length ≤ 12) (hH : HoldsK enc47 2 W blk 0 l.toArray) (hblk : blk < W.heap.size) :
    Calls Try.prog 96 #[.slice (some ⟨blk, 0, none⟩) l.length c, .int .i64 0, .int .i64 l.length, .func (.func 57) #[] #[]] W fun e w' => e = .returned (.tuple #[]) ∧ Sorted12 W blk l w' := by
  have h := AnyQ.insertionSortCmpFunc laysS 2 (by intro w; simp [renS, go_sem]) (by intro w; simp [renS, go_sem]) enc47 enc47_len enc47_one (fun x y => cmpI x.f0 y.f0) 57 #[] blk 0 c 0 l.length l.toArray W (enters_of Try.func57 (by kernel_rfl) rfl) (begins_lays _ _ _) hH hblk (Nat.zero_le _) (by simp) (by simp; omega)
  rw [ltOf_begins] at h
  refine (show Calls Try.prog 96 _ _ _ from h).mono ?_
  rintro e w' ⟨rfl, n, os, rfl⟩
  have hs := insertionSort_holds (lt := ltF) swoF l.toArray 0 l.length (Nat.zero_le _) (by simp)
  have hsz : (insertionSort ltF l.toArray 0 l.length).size = l.length := by rw [hs.1.1]; simp
  refine ⟨rfl, n, _, os, ?_, by rw [hsz]; exact hs.2, rfl⟩
  have hp := hs.1.2.2
  generalize insertionSort ltF l.toArray 0 l.length = D at *
  rw [show D.extract 0 l.length = D from by rw [← hsz]; simp, show l.toArray.extract 0 l.length = l.toArray from by simp] at hp
  simpa using hp
set_option maxRecDepth 100000 in
set_option maxHeartbeats 1000000 in
theorem pdq_calls (blk c : Nat) (l : List S47) (lim : Int) (W : World) (hl : l.length ≤ 12) (hH : HoldsK enc47 2 W blk 0 l.toArray) (hblk : blk < W.heap.size) :
    Calls Try.prog 92 #[.slice (some ⟨blk, 0, none⟩) l.length c, .int .i64 0, .int .i64 l.length, .int .i64 lim, .func (.func 57) #[] #[]] W fun e w' => e = .returned (.tuple #[]) ∧ Sorted12 W blk l w' := by
  have h := insertion_calls blk c l W hl hH hblk
  have hlz : (l.length : Int) ≤ 12 := by omega
  clear hH
  go_enter Try.func92, Try.ntmps92
  go_wp2
  refine wp_loop_once ?_
  go_wp2_with (go_at_call 96; refine h.mono ?_; rintro e w' ⟨rfl, hS⟩)
  exact bodyPost_ret (results_none rfl _ _ _) rfl ⟨rfl, hS⟩
theorem bitsLen64 (n : Nat) (hn : n ≤ 12) (W : World) : Calls Try.prog 105 #[.int .u64 n] W fun e w' => (∃ k : Int, e = .returned (.int .i64 k)) ∧ w' = W := by
  have hk : n = 0 ∨ n = 1 ∨ n = 2 ∨ n = 3 ∨ n = 4 ∨ n = 5 ∨ n = 6 ∨ n = 7 ∨ n = 8 ∨ n = 9 ∨ n = 10 ∨ n = 11 ∨ n = 12 := by omega
  rcases hk with rfl | rfl | rfl | rfl | rfl | rfl | rfl | rfl | rfl | rfl | rfl | rfl | rfl
  all_goals
    go_enter Try.func105, Try.ntmps105
    go_wp2
    go_ret
    exact ⟨⟨_, rfl⟩, rfl⟩
set_option maxHeartbeats 1000000 in
theorem bitsLen (n : Nat) (hn : n ≤ 12) (W : World) : Calls Try.prog 93 #[.int .u64 n] W fun e w' => (∃ k : Int, e = .returned (.int .i64 k)) ∧ w' = W := by
  have h := bitsLen64 n hn W
  go_enter Try.func93, Try.ntmps93
  go_wp2_with (go_at_call 105; refine h.mono ?_; rintro e w' ⟨⟨k, rfl⟩, rfl⟩)
  go_ret
  exact ⟨⟨_, rfl⟩, rfl⟩
set_option maxHeartbeats 1000000 in
theorem sortFunc_calls (blk c : Nat) (l : List S47) (W : World) (hl : l.length ≤ 12) (hH : HoldsK enc47 2 W blk 0 l.toArray) (hblk : blk < W.heap.size) :
    Calls Try.prog 83 #[.slice (some ⟨blk, 0, none⟩) l.length c, .func (.func 57) #[] #[]] W fun e w' => e = .returned (.tuple #[]) ∧ Sorted12 W blk l w' := by
  have h := fun lim => pdq_calls blk c l lim W hl hH hblk
  have hb := bitsLen l.length hl
  have hw : IntKind.u64.wrap (l.length : Int) = l.length := by simp [IntKind.wrap, IntKind.bits, IntKind.signed]; omega
  clear hH
  go_enter Try.func83, Try.ntmps83
  go_wp2_with (first | (go_at_call 93; refine (hb _).mono ?_; rintro e w' ⟨⟨k, rfl⟩, rfl⟩) | (go_at_call 92; refine (h _).mono ?_; rintro e w' ⟨rfl, hS⟩))
  go_end0
  exact ⟨rfl, hS⟩
set_option maxHeartbeats 1000000 in
theorem insertionS_none (c : Nat) (W : World) : Calls Try.prog 96 #[.slice none 0 c, .int .i64 0, .int .i64 0, .func (.func 57) #[] #[]] W fun e w' => e = .returned (.tuple #[]) ∧ w' = W := by
  go_enter Try.func96, Try.ntmps96
  go_wp2
  refine wp_loop_once ?_
  go_wp2
  go_end0
  exact ⟨rfl, rfl⟩
set_option maxRecDepth 100000 in
set_option maxHeartbeats 1000000 in
theorem pdqS_none (c : Nat) (lim : Int) (W : World) : Calls Try.prog 92 #[.slice none 0 c, .int .i64 0, .int .i64 0, .int .i64 lim, .func (.func 57) #[] #[]] W fun e w' => e = .returned (.tuple #[]) ∧ w' = W := by
  have h := insertionS_none c W
  go_enter Try.func92, Try.ntmps92
  go_wp2
  refine wp_loop_once ?_
  go_wp2_with (go_at_call 96; refine h.mono ?_; rintro e w' ⟨rfl, rfl⟩)
  exact bodyPost_ret (results_none rfl _ _ _) rfl ⟨rfl, rfl⟩
set_option maxHeartbeats 1000000 in
theorem sortFunc_none (c : Nat) (W : World) : Calls Try.prog 83 #[.slice none 0 c, .func (.func 57) #[] #[]] W fun e w' => e = .returned (.tuple #[]) ∧ w' = W := by
  have h := fun lim => pdqS_none c lim W
  have hb := bitsLen 0 (by omega)
  simp only [Int.ofNat_eq_natCast, Int.natCast_zero, Int.cast_ofNat_Int] at hb
  go_enter Try.func83, Try.ntmps83
  go_wp2_with (first | (go_at_call 93; refine (hb _).mono ?_; rintro e w' ⟨⟨k, rfl⟩, rfl⟩) | (go_at_call 92; refine (h _).mono ?_; rintro e w' ⟨rfl, rfl⟩))
  go_end0
  exact ⟨rfl, rfl⟩
set_option maxHeartbeats 1000000 in
theorem collect_calls (b1 : Nat) (A : Option Addr) (c : Nat) (l : List S47) (w : World) (hl : l.length ≤ 40) (h1 : w.heap[b1]? = some (.cells #[.slice A l.length c] 22 (0, 0))) (hr : Kd.C k47 w A l.length l) :
    Calls Try.prog 82 #[.func (.func 84) #[] #[.pointer (some ⟨b1, 0, none⟩)]] w fun e w' => ∃ v, e = .returned v ∧ w'.ownsRow w.heap.size 47 2 v l.length (flat47 l) ∧ Below w.heap.size w w' := by
  have h := appendSeq_calls b1 A c l w hl h1 hr
  clear h1 hr
  go_enter Try.func82, Try.ntmps82
  go_wp2_with (go_at_call 91; refine h.mono ?_; rintro e w' ⟨v, rfl, hR, hb⟩)
  go_ret
  exact ⟨_, rfl, hR, hb⟩
/-- What SortedFunc leaves: the slots, in the order of From. -/
def SortedRow (w : World) (l : List S47) (e : Ending) (w' : World) : Prop := ∃ A c l', e = .returned (.slice A l.length c) ∧ l'.Perm l ∧ (∀ i j : Nat, i < j → j < l'.length → (rd_T47 l' i).f0 ≤ (rd_T47 l' j).f0) ∧ Kd.C k47 w' A l'.length l' ∧ Below w.heap.size w w'
set_option maxHeartbeats 1000000 in
theorem sortedFunc_calls (b1 : Nat) (A : Option Addr) (c : Nat) (l : List S47) (w : World) (hl : l.length ≤ 12) (h1 : w.heap[b1]? = some (.cells #[.slice A l.length c] 22 (0, 0))) (hr : Kd.C k47 w A l.length l) :
    Calls Try.prog 66 #[.func (.func 84) #[] #[.pointer (some ⟨b1, 0, none⟩)], .func (.func 57) #[] #[]] w (SortedRow w l) := by
  have h := collect_calls b1 A c l w (by omega) h1 hr
  clear h1 hr
  go_enter Try.func66, Try.ntmps66
  go_wp2_with fail
  refine h.mono ?_
  rintro e w' ⟨v, rfl, hown, hb⟩
  obtain ⟨A1, c1, rfl⟩ := own_slice hown
  rcases hown.2 with ⟨he, hn⟩ | ⟨g, cap, cur, he, hg, hh, _, _, _, ht⟩
  · obtain ⟨rfl, hl0, rfl⟩ : A1 = none ∧ l.length = 0 ∧ c1 = 0 := by simpa using he
    have hs := sortFunc_none 0 w'
    rw [hl0] at h ⊢
    have HL := Aside0.mk (List.length_eq_zero_iff.1 hl0)
    clear hown h he hl0 hl hn
    go_wp2_with (go_at_call 83; refine hs.mono ?_; rintro e w'' ⟨rfl, rfl⟩)
    go_ret
    exact ⟨none, 0, [], by rw [HL.out]; rfl, by rw [HL.out], fun i j _ hj => by simp at hj, ⟨rfl, by simp, fun h => absurd h (by simp)⟩, hb⟩
  · obtain ⟨rfl, _, rfl⟩ : A1 = some ⟨g, 0, none⟩ ∧ l.length = l.length ∧ c1 = cap := by simpa using he
    have hs := sortFunc_calls g c1 l w' hl (holds_own hh ht) (blk_lt hh)
    have HH := Aside0.mk (holds_own hh ht)
    have hgl := blk_lt hh
    clear hown h he hh ht
    go_wp2_with (go_at_call 83; refine hs.mono ?_; rintro e w'' ⟨rfl, hS⟩)
    go_ret
    obtain ⟨n, d, os, hp, hso, rfl⟩ := hS
    have hds : d.size = l.length := by have := hp.length_eq; simpa using this
    have hH2 := holdsK_sortWorldK_c enc47 2 w' g 0 l.toArray d n os HH.out hgl (by simpa using hds)
    have hC := C_holds hH2 (by omega)
    refine ⟨_, _, d.toList, rfl, hp, fun i j hij hj => ?_, by simpa using hC, below_sortWorld (α := Value) id g n (flatK enc47 2 d) os hb hg (Nat.le_refl _)⟩
    have hj' : j < d.size := by simpa using hj
    have h2 := hso i j (Nat.zero_le _) hij hj'
    unfold ltF at h2
    have e1 : ∀ k, k < d.size → rd_T47 d.toList (k : Int) = d[k]! := fun k hk => by
      unfold rd_T47
      rw [getElem!_pos d k hk]
      simp [List.getD_eq_getElem?_getD, hk]
    rw [e1 i (by omega), e1 j hj']
    simpa using h2
end Go.Proofs.Ytaaonhfaoaabbaa.X
