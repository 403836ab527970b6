/- Bars and Bridge of the program: plain. -/
import Derived.Test.YtaaonhfaoaabbaaXx6
import Derived.Test.YtaaonhfaoaabbaaE6
import Derived.Test.YtaaonhfaoaabbaaE7
import Derived.Test.YtaaonhfaoaabbaaG1
namespace Go.Proofs.Ytaaonhfaoaabbaa.X
open Go.RowKit Go.Proofs.YtaaonhfaoaabbaaW.PrintWords Go.Proofs.YtaaonhfaoaabbaaW.PrintLast
theorem mn_min (a b : Int) : mn a b = min a b := by unfold mn; omega
theorem mul_bd {a b A B : Int} (ha : 0 ≤ a ∧ a ≤ A) (hb : 0 ≤ b ∧ b ≤ B) : 0 ≤ a * b ∧ a * b ≤ A * B :=
  ⟨Int.mul_nonneg ha.1 hb.1, Int.mul_le_mul ha.2 hb.2 hb.1 (by omega)⟩
theorem good_facts {lo hi lg na sh : Int} (h : goodPaper lo hi lg na sh = true) : 900 ≤ lo ∧ lo ≤ hi ∧ hi ≤ 1100 ∧ 1 ≤ lg ∧ lg ≤ 1000 ∧ 1 ≤ na ∧ na ≤ 1000 ∧ 1 ≤ sh ∧ sh ≤ 1000 := by
  unfold goodPaper at h
  simp only [Bool.and_eq_true, decide_eq_true_eq] at h
  omega
theorem div_facts {lo hi lg na sh : Int} (g : 900 ≤ lo ∧ lo ≤ hi ∧ hi ≤ 1100 ∧ 1 ≤ lg ∧ lg ≤ 1000 ∧ 1 ≤ na ∧ na ≤ 1000 ∧ 1 ≤ sh ∧ sh ≤ 1000) :
    (∀ n : Int, n ≤ 1000 * lg / hi ↔ n * hi ≤ 1000 * lg) ∧ (∀ n : Int, (1000 * na + lo - 1) / lo ≤ n ↔ 1000 * na ≤ n * lo) ∧ (∀ n : Int, n ≤ (1000 * sh - 1) / hi ↔ n * hi < 1000 * sh) := by
  refine ⟨fun n => Int.le_ediv_iff_mul_le (by omega), fun n => ?_, fun n => ?_⟩
  · have h := Int.ediv_lt_iff_lt_mul (a := 1000 * na + lo - 1) (b := n + 1) (c := lo) (by omega)
    rw [Int.add_mul, Int.one_mul] at h
    constructor
    · intro h1; have := h.1 (by omega); omega
    · intro h1; have := h.2 (by omega); omega
  · rw [Int.le_ediv_iff_mul_le (by omega)]
    omega
theorem bars_bounds {lo hi lg na sh mo nl nh : Int} (g : 900 ≤ lo ∧ lo ≤ hi ∧ hi ≤ 1100 ∧ 1 ≤ lg ∧ lg ≤ 1000 ∧ 1 ≤ na ∧ na ≤ 1000 ∧ 1 ≤ sh ∧ sh ≤ 1000)
    (hmo : ∀ n : Int, n ≤ mo ↔ n * hi ≤ 1000 * lg) (hnl : ∀ n : Int, nl ≤ n ↔ 1000 * na ≤ n * lo) (hnh : ∀ n : Int, n ≤ nh ↔ n * hi < 1000 * sh) : mo ≤ 1200 ∧ 0 ≤ mo ∧ 1 ≤ nl ∧ nh ≤ 1200 := by
  have h1 := (hmo 1201)
  have h2 := (hnl 0)
  have h3 := (hnh 1201)
  have h4 := (hmo 0)
  omega
/-! ### bridges -/
def hOf (hHi bLo to_ at_ : Int) (left : Nat) : Int := min hHi (to_ - at_ - (left : Int) * (1 + bLo))
def wOf (bLo bHi to_ at_ : Int) (left : Nat) : Int := min bHi (to_ - at_ - (left : Int) - ((left : Int) - 1) * bLo)
/-- The holes. -/
def rowB (hHi bLo bHi to_ : Int) : Nat → Int → List S47
  | 0, at_ => [⟨at_, at_ + hOf hHi bLo to_ at_ 0⟩]
  | l + 1, at_ => ⟨at_, at_ + hOf hHi bLo to_ at_ (l + 1)⟩ :: rowB hHi bLo bHi to_ l (at_ + hOf hHi bLo to_ at_ (l + 1) + wOf bLo bHi to_ (at_ + hOf hHi bLo to_ at_ (l + 1)) (l + 1))
theorem least_eq {k : Nat} (hk : 2 ≤ k) (a b : Int) : punch_least.f k a [b] = some (min a b) := by
  obtain ⟨k, rfl⟩ : ∃ m, k = m + 2 := ⟨k - 2, by omega⟩
  unfold punch_least.f
  rw [punch_least.l0, if_pos (by simp), if_pos (by omega), if_pos (by simp), wrap_in (by omega), punch_least.l0, if_neg (by simp), mn_min]
  rfl
/-- What is left can be divided. -/
def InvB (hHi bLo bHi to_ at_ : Int) (left : Nat) : Prop := 0 ≤ at_ ∧ to_ ≤ 1000000 ∧ to_ - at_ ≤ 10000 ∧ (left : Int) + 1 + (left : Int) * bLo ≤ to_ - at_ ∧ to_ - at_ ≤ (left : Int) * hHi + hHi + (left : Int) * bHi
section
variable {hHi bLo bHi : Int} (h1 : 1 ≤ hHi) (h2 : hHi ≤ 1200) (h3 : 0 ≤ bLo) (h4 : bLo ≤ bHi) (h5 : bHi ≤ 1200)
include h1 h2 h3 h4 h5
theorem prods (l : Nat) : 0 ≤ (l : Int) * bLo ∧ (l : Int) * bLo ≤ (l : Int) * bHi ∧ (l : Int) ≤ (l : Int) * hHi := by
  have _ := h2; have _ := h5
  refine ⟨Int.mul_nonneg (by omega) h3, Int.mul_le_mul_of_nonneg_left h4 (by omega), ?_⟩
  have := Int.mul_le_mul_of_nonneg_left h1 (show (0 : Int) ≤ (l : Int) by omega)
  omega
theorem inv_h {to_ at_ : Int} {left : Nat} (hi : InvB hHi bLo bHi to_ at_ left) : 1 ≤ hOf hHi bLo to_ at_ left ∧ hOf hHi bLo to_ at_ left ≤ hHi ∧ (left : Int) + (left : Int) * bLo ≤ to_ - (at_ + hOf hHi bLo to_ at_ left) ∧ to_ - (at_ + hOf hHi bLo to_ at_ left) ≤ (left : Int) * hHi + (left : Int) * bHi := by
  have hp := prods h1 h2 h3 h4 h5 left
  unfold InvB at hi
  unfold hOf
  rw [Int.mul_add, Int.mul_one]
  omega
theorem inv_w {to_ at_ : Int} {left : Nat} (hi : InvB hHi bLo bHi to_ at_ (left + 1)) :
    bLo ≤ wOf bLo bHi to_ (at_ + hOf hHi bLo to_ at_ (left + 1)) (left + 1) ∧ wOf bLo bHi to_ (at_ + hOf hHi bLo to_ at_ (left + 1)) (left + 1) ≤ bHi ∧
    InvB hHi bLo bHi to_ (at_ + hOf hHi bLo to_ at_ (left + 1) + wOf bLo bHi to_ (at_ + hOf hHi bLo to_ at_ (left + 1)) (left + 1)) left := by
  have hp := prods h1 h2 h3 h4 h5 left
  have hh := inv_h h1 h2 h3 h4 h5 hi
  unfold InvB at hi ⊢
  generalize hOf hHi bLo to_ at_ (left + 1) = h at *
  unfold wOf
  rw [show ((left + 1 : Nat) : Int) = (left : Int) + 1 from rfl] at *
  rw [show (left : Int) + 1 - 1 = (left : Int) by omega]
  simp only [Int.add_mul, Int.one_mul] at *
  omega
/-- The program's holes. -/
theorem code_l0 {from_ to_ : Int} : ∀ (left : Nat) (k : Nat) (acc : List S47) (at_ : Int), acc.length + left ≤ 1000 → left ≤ 200 → InvB hHi bLo bHi to_ at_ left → left + 4 ≤ k →
    punch_Bridge.l0 k acc at_ (left : Int) from_ to_ 1 hHi bLo bHi = some (acc ++ rowB hHi bLo bHi to_ left at_, 0)
  | 0, k, acc, at_, ha, hl, hi, hk => by
    obtain ⟨k, rfl⟩ : ∃ m, k = m + 2 := ⟨k - 2, by omega⟩
    have hh := inv_h h1 h2 h3 h4 h5 hi
    have hv : hOf hHi bLo to_ at_ 0 = min hHi (to_ - at_) := by unfold hOf; simp
    unfold InvB at hi
    rw [punch_Bridge.l0, if_pos (by omega), show ((0 : Nat) : Int) = 0 from rfl, Int.zero_mul, wrap_in (x := 0) (by omega), wrap_in (x := to_ - at_) (by omega), Int.sub_zero, wrap_in (x := to_ - at_) (by omega),
      least_eq (by omega), Option.bind_some, if_pos (by omega), ← hv, wrap_in (x := at_ + hOf hHi bLo to_ at_ 0) (by omega), Option.bind_some, if_neg (by omega), wrap_in (x := 0 - 1) (by omega), punch_Bridge.l0, if_neg (by omega)]
    rfl
  | left + 1, k, acc, at_, ha, hl, hi, hk => by
    obtain ⟨k, rfl⟩ : ∃ m, k = m + 1 := ⟨k - 1, by omega⟩
    have hp := prods h1 h2 h3 h4 h5 left
    have hb1 := mul_bd (a := (left : Int)) (b := bLo) (A := 1000) (B := 1200) (by omega) (by omega)
    have hh := inv_h h1 h2 h3 h4 h5 hi
    have hw := inv_w h1 h2 h3 h4 h5 hi
    have ih := code_l0 (from_ := from_) (to_ := to_) left k
    have hv : hOf hHi bLo to_ at_ (left + 1) = min hHi (to_ - at_ - ((left + 1 : Nat) : Int) * (1 + bLo)) := rfl
    have hv2 : wOf bLo bHi to_ (at_ + hOf hHi bLo to_ at_ (left + 1)) (left + 1) = min bHi (to_ - (at_ + hOf hHi bLo to_ at_ (left + 1)) - ((left + 1 : Nat) : Int) - (((left + 1 : Nat) : Int) - 1) * bLo) := rfl
    have hm : ((left + 1 : Nat) : Int) * (1 + bLo) = (left : Int) + 1 + ((left : Int) * bLo + bLo) := by
      rw [show ((left + 1 : Nat) : Int) = (left : Int) + 1 from rfl, Int.mul_add, Int.mul_one, Int.add_mul, Int.one_mul]
    have hm2 : (((left + 1 : Nat) : Int) - 1) * bLo = (left : Int) * bLo := by
      rw [show ((left + 1 : Nat) : Int) - 1 = (left : Int) by omega]
    have hi' := hi
    unfold InvB at hi
    have hwI := hw.2.2
    unfold InvB at hwI
    rw [punch_Bridge.l0, if_pos (by omega), wrap_in (x := 1 + bLo) (by omega), wrap_in (x := ((left + 1 : Nat) : Int) * (1 + bLo)) (by omega), wrap_in (x := to_ - at_) (by omega), wrap_in (x := to_ - at_ - ((left + 1 : Nat) : Int) * (1 + bLo)) (by omega),
      least_eq (by omega), Option.bind_some, if_pos (by omega), ← hv, wrap_in (x := at_ + hOf hHi bLo to_ at_ (left + 1)) (by omega), Option.bind_some, if_pos (by omega), Int.mul_one, wrap_in (x := ((left + 1 : Nat) : Int)) (by omega), wrap_in (x := ((left + 1 : Nat) : Int) - 1) (by omega),
      wrap_in (x := (((left + 1 : Nat) : Int) - 1) * bLo) (by omega), wrap_in (x := to_ - (at_ + hOf hHi bLo to_ at_ (left + 1))) (by omega), wrap_in (x := to_ - (at_ + hOf hHi bLo to_ at_ (left + 1)) - ((left + 1 : Nat) : Int)) (by omega),
      wrap_in (x := to_ - (at_ + hOf hHi bLo to_ at_ (left + 1)) - ((left + 1 : Nat) : Int) - (((left + 1 : Nat) : Int) - 1) * bLo) (by omega), least_eq (by omega), Option.bind_some, ← hv2, wrap_in (x := at_ + hOf hHi bLo to_ at_ (left + 1) + wOf bLo bHi to_ (at_ + hOf hHi bLo to_ at_ (left + 1)) (left + 1)) (by omega),
      show ((left + 1 : Nat) : Int) - 1 = (left : Int) by omega, ih _ _ (by simp; omega) (by omega) hw.2.2 (by omega), List.append_assoc]
    rfl
end
section
variable {hHi bLo bHi : Int} (h1 : 1 ≤ hHi) (h2 : hHi ≤ 1200) (h3 : 0 ≤ bLo) (h4 : bLo ≤ bHi) (h5 : bHi ≤ 1200)
include h1 h2 h3 h4 h5
/-- How many holes. -/
def holesN (hHi bHi len : Int) : Int := if len > hHi then 1 + (len + bHi - 1) / (hHi + bHi) else 1
theorem holesN_facts {len : Int} (hl : 1 ≤ len ∧ len ≤ 10000) : 1 ≤ holesN hHi bHi len ∧ holesN hHi bHi len ≤ 12000 ∧ len + bHi ≤ holesN hHi bHi len * (hHi + bHi) ∧ ∀ m : Int, m < holesN hHi bHi len → 1 ≤ m → m * (hHi + bHi) < len + bHi := by
  unfold holesN
  by_cases c : len > hHi
  · rw [if_pos c]
    obtain ⟨q, hq⟩ : ∃ q, q = (len + bHi - 1) / (hHi + bHi) := ⟨_, rfl⟩
    rw [← hq]
    have a1 := Int.le_ediv_iff_mul_le (a := q) (b := len + bHi - 1) (c := hHi + bHi) (by omega)
    have a2 := Int.ediv_lt_iff_lt_mul (a := len + bHi - 1) (b := q + 1) (c := hHi + bHi) (by omega)
    rw [← hq] at a1 a2
    have a3 := a1.1 (Int.le_refl _)
    have a4 := a2.1 (by omega)
    have a5 : 0 ≤ q := by rw [hq]; exact Int.ediv_nonneg (by omega) (by omega)
    have a6 : q ≤ len + bHi - 1 := by
      have := Int.mul_le_mul_of_nonneg_left (show (1 : Int) ≤ hHi + bHi by omega) a5
      omega
    refine ⟨by omega, by omega, by rw [Int.add_comm 1 q]; omega, fun m hm hm1 => ?_⟩
    have := Int.mul_le_mul_of_nonneg_right (show m ≤ q by omega) (show (0 : Int) ≤ hHi + bHi by omega)
    omega
  · rw [if_neg c]
    exact ⟨by omega, by omega, by omega, fun m hm hm1 => by omega⟩
/-- What both answer. -/
def bridgeOf (hHi bLo bHi from_ to_ : Int) : List S47 × Int :=
  if holesN hHi bHi (to_ - from_) > 200 ∨ (holesN hHi bHi (to_ - from_) > 1 ∧ bHi = 0) ∨ to_ - from_ < holesN hHi bHi (to_ - from_) + (holesN hHi bHi (to_ - from_) - 1) * bLo then ([], 20)
  else (rowB hHi bLo bHi to_ (holesN hHi bHi (to_ - from_) - 1).toNat from_, 0)
theorem inv_start {from_ to_ : Int} (hs : 0 ≤ from_ ∧ from_ < to_ ∧ to_ ≤ 1000000) (hl : to_ - from_ ≤ 10000) (h : ¬ (holesN hHi bHi (to_ - from_) > 200 ∨ (holesN hHi bHi (to_ - from_) > 1 ∧ bHi = 0) ∨ to_ - from_ < holesN hHi bHi (to_ - from_) + (holesN hHi bHi (to_ - from_) - 1) * bLo)) :
    InvB hHi bLo bHi to_ from_ (holesN hHi bHi (to_ - from_) - 1).toNat := by
  obtain ⟨n1, n2, n3, n4⟩ := holesN_facts h1 h2 h3 h4 h5 (len := to_ - from_) (by omega)
  generalize holesN hHi bHi (to_ - from_) = N at *
  obtain ⟨m, rfl⟩ : ∃ m : Nat, N = (m : Int) + 1 := ⟨(N - 1).toNat, by omega⟩
  rw [show ((m : Int) + 1 - 1).toNat = m by omega]
  rw [show (m : Int) + 1 - 1 = (m : Int) by omega] at h
  simp only [Int.add_mul, Int.mul_add, Int.one_mul] at n3
  unfold InvB
  omega
theorem code_j0 {from_ to_ : Int} (hs : 0 ≤ from_ ∧ from_ < to_ ∧ to_ ≤ 1000000) (hl : to_ - from_ ≤ 10000) {k : Nat} (hk : 300 ≤ k) :
    punch_Bridge.j0 k (to_ - from_) (holesN hHi bHi (to_ - from_)) from_ to_ 1 hHi bLo bHi = some (bridgeOf hHi bLo bHi from_ to_) := by
  obtain ⟨n1, n2, n3, n4⟩ := holesN_facts h1 h2 h3 h4 h5 (len := to_ - from_) (by omega)
  have hst := inv_start h1 h2 h3 h4 h5 hs hl
  unfold bridgeOf
  generalize holesN hHi bHi (to_ - from_) = N at *
  obtain ⟨k, rfl⟩ : ∃ m, k = m + 2 := ⟨k - 2, by omega⟩
  have hp := mul_bd (a := N - 1) (b := bLo) (A := 12000) (B := 1200) (by omega) (by omega)
  rw [punch_Bridge.j0, wrap_in (x := N - 1) (by omega), wrap_in (x := (N - 1) * bLo) (by omega), wrap_in (x := N + (N - 1) * bLo) (by omega)]
  have stuck : punch_Bridge.j1 (k + 1) N true from_ to_ 1 hHi bLo bHi = some ([], 20) := by rw [punch_Bridge.j1, if_pos rfl]
  have last : punch_Bridge.j1 (k + 1) N (decide (to_ - from_ < N + (N - 1) * bLo)) from_ to_ 1 hHi bLo bHi = some (if to_ - from_ < N + (N - 1) * bLo then ([], 20) else (rowB hHi bLo bHi to_ (N - 1).toNat from_, 0)) ∨ (N > 200 ∨ (N > 1 ∧ bHi = 0)) := by
    by_cases c1 : N > 200 ∨ (N > 1 ∧ bHi = 0)
    · exact .inr c1
    · refine .inl ?_
      by_cases c : to_ - from_ < N + (N - 1) * bLo
      · rw [decide_eq_true c, stuck, if_pos c]
      · rw [decide_eq_false c, if_neg c, punch_Bridge.j1, if_neg (by simp), wrap_in (x := N - 1) (by omega)]
        have := code_l0 h1 h2 h3 h4 h5 (from_ := from_) (to_ := to_) (N - 1).toNat k [] from_ (by simp; omega) (by omega) (hst (by omega)) (by omega)
        rw [show (((N - 1).toNat : Nat) : Int) = N - 1 by omega] at this
        rw [this]
        rfl
  by_cases c1 : N > 200
  · rw [if_pos c1, stuck, if_pos (by omega)]
  · rw [if_neg c1]
    by_cases c2 : N > 1
    · rw [if_pos c2]
      by_cases c3 : bHi = 0
      · rw [if_pos c3, stuck, if_pos (by omega)]
      · rw [if_neg c3]
        rcases last with last | hx
        · rw [last]
          congr 1
          by_cases c : to_ - from_ < N + (N - 1) * bLo
          · rw [if_pos c, if_pos (by omega)]
          · rw [if_neg c, if_neg (by omega)]
        · omega
    · rw [if_neg c2]
      rcases last with last | hx
      · rw [last]
        congr 1
        by_cases c : to_ - from_ < N + (N - 1) * bLo
        · rw [if_pos c, if_pos (by omega)]
        · rw [if_neg c, if_neg (by omega)]
      · omega
end
theorem bars_cases (lo hi lg na sh : Int) : ∃ r1 r2 r3 r4 r5, punch_Bars.f lo hi lg na sh = some (r1, r2, r3, r4, r5) ∧ (r5 = 0 → r1 = 1 ∧ 1 ≤ r2 ∧ r2 ≤ 1200 ∧ 0 ≤ r3 ∧ r3 ≤ r4 ∧ r4 ≤ 1200) := by
  unfold punch_Bars.f
  cases hg : goodPaper lo hi lg na sh with
  | false => exact ⟨0, 0, 0, 0, 3, rfl, fun h => absurd h (by omega)⟩
  | true =>
    have g := good_facts hg
    obtain ⟨d1, d2, d3⟩ := div_facts g
    obtain ⟨b1, b2, b3, b4⟩ := bars_bounds g d1 d2 d3
    rw [if_pos rfl]
    split
    · exact ⟨_, _, _, _, _, rfl, fun h => absurd h (by omega)⟩
    · split
      · exact ⟨_, _, _, _, _, rfl, fun _ => by omega⟩
      · exact ⟨_, _, _, _, _, rfl, fun _ => by omega⟩
/-- What both Bridges answer. -/
def bridgeE (r2 r3 r4 r5 a b : Int) : List S47 × Int :=
  if r5 = 0 then (if okSlot ⟨a, b⟩ then (if b - a > 10000 then ([], 3) else bridgeOf r2 r3 r4 a b) else ([], 3)) else ([], r5)
theorem codeBridge_eq {lo hi lg na sh r1 r2 r3 r4 r5 a b : Int} (hB : punch_Bars.f lo hi lg na sh = some (r1, r2, r3, r4, r5)) (hF : r5 = 0 → r1 = 1 ∧ 1 ≤ r2 ∧ r2 ≤ 1200 ∧ 0 ≤ r3 ∧ r3 ≤ r4 ∧ r4 ≤ 1200) {k : Nat} (hk : 300 ≤ k) :
    punch_Bridge.f k lo hi lg na sh a b = some (bridgeE r2 r3 r4 r5 a b) := by
  unfold punch_Bridge.f bridgeE
  rw [hB, Option.bind_some]
  dsimp only
  by_cases h5 : r5 = 0
  · obtain ⟨rfl, f1, f2, f3, f4, f5⟩ := hF h5
    rw [if_pos h5, if_pos h5, good_eq, Option.bind_some]
    cases hg : okSlot ⟨a, b⟩ with
    | false => rw [if_neg (by simp), if_neg (by simp)]
    | true =>
      have ho := ok_bounds hg
      dsimp only at ho
      rw [if_pos rfl, if_pos rfl, wrap_in (x := b - a) (by omega)]
      by_cases hl : b - a > 10000
      · rw [if_pos hl, if_pos hl]
      · rw [if_neg hl, if_neg hl]
        have hj := code_j0 f1 f2 f3 f4 f5 (from_ := a) (to_ := b) (by omega) (by omega) hk
        by_cases hc : b - a > r2
        · have hN : holesN r2 r4 (b - a) = 1 + (b - a + r4 - 1) / (r2 + r4) := by unfold holesN; rw [if_pos hc]
          have hNb := (holesN_facts f1 f2 f3 f4 f5 (len := b - a) (by omega))
          rw [if_pos hc, wrap_in (x := r2 + r4) (by omega), if_neg (by omega), wrap_in (x := b - a - r2) (by omega), show b - a - r2 + r2 = b - a by omega, wrap_in (x := b - a) (by omega), wrap_in (x := b - a + r4) (by omega), wrap_in (x := b - a + r4 - 1) (by omega),
            Int.tdiv_eq_ediv_of_nonneg (by omega), wrap_in (x := (b - a + r4 - 1) / (r2 + r4)) (by omega), ← hN, wrap_in (by omega)]
          exact hj
        · have hN : holesN r2 r4 (b - a) = 1 := by unfold holesN; rw [if_neg hc]
          rw [if_neg hc]
          rw [hN] at hj
          exact hj
  · rw [if_neg h5, if_neg h5]
theorem rowB_len (hHi bLo bHi to_ : Int) : ∀ (l : Nat) (at_ : Int), (rowB hHi bLo bHi to_ l at_).length = l + 1
  | 0, _ => rfl
  | l + 1, at_ => by rw [rowB, List.length_cons, rowB_len hHi bLo bHi to_ l]
theorem bridgeE_len (r2 r3 r4 r5 a b : Int) : (bridgeE r2 r3 r4 r5 a b).1.length ≤ 1000 := by
  unfold bridgeE
  split
  · split
    · split
      · simp
      · unfold bridgeOf
        split
        · simp
        · dsimp only
          rw [rowB_len]
          omega
    · simp
  · simp
end Go.Proofs.Ytaaonhfaoaabbaa.X
