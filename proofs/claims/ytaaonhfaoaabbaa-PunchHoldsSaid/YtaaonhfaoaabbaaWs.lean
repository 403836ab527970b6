/- Short words for printed texts: lemmas with a tactic of their own. -/
import Derived.Test.YtaaonhfaoaabbaaWWords
import Derived.Test.YtaaonhfaoaabbaaWLast
import Derived.Test.YtaaonhfaoaabbaaWMore
import Derived.RowKit
namespace Go.Proofs.YtaaonhfaoaabbaaW.PrintWords
open Go Go.RowKit
/-- A block is where it was, behind draws, new blocks and stores elsewhere. -/
theorem bkx_ {w0 w : World} {g : Nat} {t : TypeId} {cs : Array Value} (k : Aside0 (w0.heap[g]? = some (.cells cs t (0, 0))))
    (up : w0.heap[g]? = some (.cells cs t (0, 0)) → w.heap[g]? = some (.cells cs t (0, 0)) := by
      intro h_
      repeat (first | (with_reducible first | exact h_ | refine blk_drewN ?_ _ | refine blk_drew ?_ | refine blk_alloc ?_ _) | refine blk_far ?_ (Aside0.out (by assumption)) _ | exact h_)) :
    Aside0 (w.heap[g]? = some (.cells cs t (0, 0))) := ⟨up k.out⟩
/-- .. and behind what leaves all below alone. -/
theorem bkb_ {w0 w W : World} {g : Nat} {t : TypeId} {cs : Array Value} (k : Aside0 (w0.heap[g]? = some (.cells cs t (0, 0)))) (hb : Below w.heap.size w W)
    (up : w0.heap[g]? = some (.cells cs t (0, 0)) → w.heap[g]? = some (.cells cs t (0, 0)) := by
      intro h_
      repeat (first | (with_reducible first | exact h_ | refine blk_drewN ?_ _ | refine blk_drew ?_ | refine blk_alloc ?_ _) | refine blk_far ?_ (Aside0.out (by assumption)) _ | exact h_)) :
    Aside0 (W.heap[g]? = some (.cells cs t (0, 0))) := ⟨blk_below (up k.out) hb⟩
/-- All below is as it was, behind draws, new blocks and stores above. -/
theorem blx_ {w0 w1 w2 : World} (h : Aside0 (Below w0.heap.size w0 w1))
    (up : Below w0.heap.size w0 w1 → Below w0.heap.size w0 w2 := by
      intro h_
      repeat (first | (with_reducible first | exact h_ | apply below_alloc | apply pw_below_drewN | apply below_drew1 | refine below_set ?_ (Aside0.out (by assumption))) | exact h_)) :
    Aside0 (Below w0.heap.size w0 w2) := ⟨up h.out⟩
theorem bls_ {w0 w1 w2 W : World} (h : Aside0 (Below w0.heap.size w0 w1)) (hb : Below w2.heap.size w2 W)
    (up : Below w0.heap.size w0 w1 → Below w0.heap.size w0 w2 := by
      intro h_
      repeat (first | (with_reducible first | exact h_ | apply below_alloc | apply pw_below_drewN | apply below_drew1 | refine below_set ?_ (Aside0.out (by assumption))) | exact h_)) :
    Aside0 (Below w0.heap.size w0 W) := ⟨below_step (up h.out) hb⟩
theorem bgw_ {w0 w1 w2 : World} {g : Nat} (h : Aside0 (Below w0.heap.size w0 w1)) (hg : g = w2.heap.size)
    (up : Below w0.heap.size w0 w1 → Below w0.heap.size w0 w2 := by
      intro h_
      repeat (first | (with_reducible first | exact h_ | apply below_alloc | apply pw_below_drewN | apply below_drew1 | refine below_set ?_ (Aside0.out (by assumption))) | exact h_)) :
    Aside0 (w0.heap.size ≤ g) := ⟨hg ▸ below_size (up h.out)⟩
/-- An old block is no new one. -/
theorem bnl_ {w0 w : World} {g g' : Nat} {t : TypeId} {cs : Array Value} (k : Aside0 (w0.heap[g]? = some (.cells cs t (0, 0)))) (hg : g' = w.heap.size)
    (up : w0.heap[g]? = some (.cells cs t (0, 0)) → w.heap[g]? = some (.cells cs t (0, 0)) := by
      intro h_
      repeat (first | (with_reducible first | exact h_ | refine blk_drewN ?_ _ | refine blk_drew ?_ | refine blk_alloc ?_ _) | refine blk_far ?_ (Aside0.out (by assumption)) _ | exact h_)) :
    Aside0 (g ≠ g') := ⟨by rw [hg]; exact Nat.ne_of_lt (blk_lt (up k.out))⟩
theorem bng_ {w0 w : World} {g g' : Nat} {t : TypeId} {cs : Array Value} (k : Aside0 (w0.heap[g]? = some (.cells cs t (0, 0)))) (hg : g' = w.heap.size)
    (up : w0.heap[g]? = some (.cells cs t (0, 0)) → w.heap[g]? = some (.cells cs t (0, 0)) := by
      intro h_
      repeat (first | (with_reducible first | exact h_ | refine blk_drewN ?_ _ | refine blk_drew ?_ | refine blk_alloc ?_ _) | refine blk_far ?_ (Aside0.out (by assumption)) _ | exact h_)) :
    Aside0 (g' ≠ g) := ⟨by rw [hg]; exact Nat.ne_of_gt (blk_lt (up k.out))⟩
/-- A cell of a block. -/
theorem bkc_ {w : World} {g : Nat} {t : TypeId} {cs : Array Value} (k : Aside0 (w.heap[g]? = some (.cells cs t (0, 0)))) (i : Nat) (v : Value) (h : cs[i]? = some v) : w.cell? ⟨g, i, none⟩ = some v := (blk_cell k.out i).trans h
section
variable {P : Program}
theorem cut_to (t e : TypeId) (kh : IntKind) {i : TypeInfo} (ht : P.underlying t = some (.slice e)) (hi : P.info? e = some i) (A : Option Addr) (n c : Nat) (j : Int) (h0 : 0 ≤ j) (hm : j ≤ n) (hc : n ≤ c) :
    ∀ W : World, (Instr.slice t (.slice A n c) none (some (.int kh j)) none).run P W = .ok (.slice A j.toNat c) W := by
  intro W
  have hel : P.elem t = e := by simp [Program.elem, ht]
  have hu : P.underlying t = some (.slice (P.elem t)) := by rw [hel]; exact ht
  have ha : (A.map fun x => x.add 0) = A := by cases A <;> simp [Addr.add]
  rw [run_slice_h W t A n c hu kh j h0 (by omega), hel]
  simp [sizeOf, typeInfo, hi, sliced, Result.andThen, ha]
end
end Go.Proofs.YtaaonhfaoaabbaaW.PrintWords
