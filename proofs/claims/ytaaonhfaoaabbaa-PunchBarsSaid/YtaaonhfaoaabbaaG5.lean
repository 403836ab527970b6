/- The reference's Bars and Bridge come to the program's answers: plain law. -/
import Derived.Test.YtaaonhfaoaabbaaXx21
import Derived.Test.YtaaonhfaoaabbaaG16
import Derived.Test.YtaaonhfaoaabbaaG0
import Derived.Test.YtaaonhfaoaabbaaG11
namespace Go.Proofs.Ytaaonhfaoaabbaa.X
open Go.RowKit Go.Proofs.YtaaonhfaoaabbaaW.PrintWords Go.Proofs.YtaaonhfaoaabbaaW.PrintLast
theorem refpaper_eq (lo hi lg na sh : Int) : pianolaref03_paper.f lo hi lg na sh = some (if goodPaper lo hi lg na sh then 0 else 3) := by
  unfold pianolaref03_paper.f goodPaper
  simp only [is_eq, Option.bind_some]
  by_cases h1 : 900 ≤ lo ∧ lo ≤ hi
  · rw [if_pos (by simpa using h1)]
    by_cases h2 : hi ≤ 1100
    · rw [if_neg (by omega)]
      by_cases h3 : 1 ≤ lg ∧ lg ≤ 1000
      · rw [if_pos (by simpa using h3)]
        by_cases h4 : 1 ≤ na ∧ na ≤ 1000
        · rw [if_pos (by simpa using h4)]
          by_cases h5 : 1 ≤ sh ∧ sh ≤ 1000
          · rw [if_pos (by simpa using h5), if_pos (by simp [h1, h2, h3, h4, h5])]
          · rw [if_neg (by simpa using h5), if_neg (by simp; omega)]
        · rw [if_neg (by simpa using h4), if_neg (by simp; omega)]
      · rw [if_neg (by simpa using h3), if_neg (by simp; omega)]
    · rw [if_pos (by omega), if_neg (by simp; omega)]
  · rw [if_neg (by simpa using h1), if_neg (by simp; omega)]
section
variable {lo hi lg na sh mo nl nh : Int} (g : 900 ≤ lo ∧ lo ≤ hi ∧ hi ≤ 1100 ∧ 1 ≤ lg ∧ lg ≤ 1000 ∧ 1 ≤ na ∧ na ≤ 1000 ∧ 1 ≤ sh ∧ sh ≤ 1000)
  (hmo : ∀ n : Int, n ≤ mo ↔ n * hi ≤ 1000 * lg) (hnl : ∀ n : Int, nl ≤ n ↔ 1000 * na ≤ n * lo) (hnh : ∀ n : Int, n ≤ nh ↔ n * hi < 1000 * sh)
include g hmo hnl hnh
theorem refhole_eq {n : Int} (hn : 1 ≤ n ∧ n ≤ 1200) : pianolaref03_hole.f lo hi lg na sh n = some (decide (n ≤ mo)) := by
  have _ := hnl; have _ := hnh
  have hb := mul_bd (a := n) (b := hi) (A := 1200) (B := 1100) (by omega) (by omega)
  unfold pianolaref03_hole.f
  rw [wrap_in (by omega), wrap_in (by omega)]
  congr 1
  exact decide_eq_decide.2 (hmo n).symm
theorem refbridge_eq {n : Int} (hn : 1 ≤ n ∧ n ≤ 1200) : pianolaref03_bridge.f lo hi lg na sh n = some (decide (nl ≤ n) && decide (n ≤ nh)) := by
  have _ := hmo
  have hb := mul_bd (a := n) (b := hi) (A := 1200) (B := 1100) (by omega) (by omega)
  have hb' := mul_bd (a := n) (b := lo) (A := 1200) (B := 1100) (by omega) (by omega)
  have e1 := hnl n
  have e2 := hnh n
  unfold pianolaref03_bridge.f
  rw [wrap_in (x := n * lo) (by omega), wrap_in (x := 1000 * na) (by omega), wrap_in (x := n * hi) (by omega), wrap_in (x := 1000 * sh) (by omega)]
  by_cases h1 : n * lo ≥ 1000 * na
  · rw [if_pos h1, decide_eq_true (e1.2 h1), Bool.true_and]
    congr 1
    exact decide_eq_decide.2 e2.symm
  · rw [if_neg h1, decide_eq_false (fun h => h1 (e1.1 h)), Bool.false_and]
theorem refbars_l0 (m1 : mo ≤ 1200) (m2 : 1 ≤ nl) (m3 : nh ≤ 1200) : ∀ (d : Nat) (n a0 a1 b0 b1 : Int), n + d = 1201 → 1 ≤ n →
    a0 = (if 1 ≤ min (n - 1) mo then 1 else 0) → a1 = (if 1 ≤ min (n - 1) mo then min (n - 1) mo else 0) →
    b0 = (if nl ≤ min (n - 1) nh then nl else 0) → b1 = (if nl ≤ min (n - 1) nh then min (n - 1) nh else 0) →
    pianolaref03_Bars.l0 (2 * d + 1) n lo hi lg na sh a0 a1 b0 b1 = some (if mo < 1 then (0, 0, 0, 0, 20) else if nh < nl then (1, mo, 0, 0, 0) else (1, mo, nl, nh, 0))
  | 0, n, a0, a1, b0, b1, hd, hn, e0, e1, e2, e3 => by
    obtain rfl : n = 1201 := by omega
    rw [show 2 * 0 + 1 = 0 + 1 from rfl, pianolaref03_Bars.l0, if_neg (by omega)]
    by_cases c1 : mo < 1
    · rw [if_pos (by omega), if_pos c1]
    · rw [if_neg (by omega), if_neg c1]
      by_cases c2 : nh < nl
      · rw [if_pos c2, show a0 = 1 by omega, show a1 = mo by omega, show b0 = 0 by omega, show b1 = 0 by omega]
      · rw [if_neg c2, show a0 = 1 by omega, show a1 = mo by omega, show b0 = nl by omega, show b1 = nh by omega]
  | d + 1, n, a0, a1, b0, b1, hd, hn, e0, e1, e2, e3 => by
    have hh := refhole_eq g hmo hnl hnh (n := n) (by omega)
    have hb := refbridge_eq g hmo hnl hnh (n := n) (by omega)
    have ih := refbars_l0 m1 m2 m3 d (n + 1)
    have j1 : ∀ a0 a1, a0 = (if 1 ≤ min n mo then 1 else 0) → a1 = (if 1 ≤ min n mo then min n mo else 0) → pianolaref03_Bars.j1 (2 * d + 1 + 1) n lo hi lg na sh a0 a1 b0 b1 = some (if mo < 1 then (0, 0, 0, 0, 20) else if nh < nl then (1, mo, 0, 0, 0) else (1, mo, nl, nh, 0)) := by
      intro a0 a1 e0 e1
      rw [pianolaref03_Bars.j1, hb, Option.bind_some, wrap_in (x := n + 1) (by omega)]
      by_cases c : (decide (nl ≤ n) && decide (n ≤ nh)) = true
      · rw [if_pos c]
        simp only [Bool.and_eq_true, decide_eq_true_eq] at c
        by_cases c0 : b0 = 0
        · rw [if_pos c0]
          exact ih a0 a1 n n (by omega) (by omega) (by rw [show n + 1 - 1 = n by omega]; exact e0) (by rw [show n + 1 - 1 = n by omega]; exact e1) (by omega) (by omega)
        · rw [if_neg c0]
          exact ih a0 a1 b0 n (by omega) (by omega) (by rw [show n + 1 - 1 = n by omega]; exact e0) (by rw [show n + 1 - 1 = n by omega]; exact e1) (by omega) (by omega)
      · rw [if_neg c]
        simp only [Bool.and_eq_true, decide_eq_true_eq] at c
        exact ih a0 a1 b0 b1 (by omega) (by omega) (by rw [show n + 1 - 1 = n by omega]; exact e0) (by rw [show n + 1 - 1 = n by omega]; exact e1) (by omega) (by omega)
    rw [show 2 * (d + 1) + 1 = (2 * d + 1 + 1) + 1 by omega, pianolaref03_Bars.l0, if_pos (by omega), hh, Option.bind_some]
    by_cases c : n ≤ mo
    · rw [if_pos (by simpa using c)]
      exact j1 1 n (by omega) (by omega)
    · rw [if_neg (by simpa using c)]
      exact j1 a0 a1 (by omega) (by omega)
end
theorem refBars_eq (lo hi lg na sh : Int) : pianolaref03_Bars.f 2401 lo hi lg na sh = punch_Bars.f lo hi lg na sh := by
  unfold pianolaref03_Bars.f punch_Bars.f
  rw [refpaper_eq, Option.bind_some]
  cases hg : goodPaper lo hi lg na sh with
  | false => rfl
  | true =>
    have g := good_facts hg
    obtain ⟨d1, d2, d3⟩ := div_facts g
    obtain ⟨b1, b2, b3, b4⟩ := bars_bounds g d1 d2 d3
    rw [if_pos rfl, if_pos rfl, if_pos rfl, refbars_l0 g d1 d2 d3 b1 b3 b4 1200 1 0 0 0 0 (by omega) (by omega) (by rw [if_neg (by omega)]) (by rw [if_neg (by omega)]) (by rw [if_neg (by omega)]) (by rw [if_neg (by omega)])]
    split
    · rfl
    · split <;> rfl
section
variable {hHi bLo bHi : Int} (h1 : 1 ≤ hHi) (h2 : hHi ≤ 1200) (h3 : 0 ≤ bLo) (h4 : bLo ≤ bHi) (h5 : bHi ≤ 1200)
include h1 h2 h3 h4 h5
theorem can_eq {x h b : Int} (hh : 0 ≤ h ∧ h ≤ 300) (hb : 0 ≤ b ∧ b ≤ 300) : pianolaref03_can.f 1 hHi bLo bHi x h b = some (decide (h + b * bLo ≤ x) && decide (x ≤ h * hHi + b * bHi)) := by
  have p1 := mul_bd (a := b) (b := bLo) (A := 300) (B := 1200) (by omega) (by omega)
  have p2 := mul_bd (a := h) (b := hHi) (A := 300) (B := 1200) (by omega) (by omega)
  have p3 := mul_bd (a := b) (b := bHi) (A := 300) (B := 1200) (by omega) (by omega)
  unfold pianolaref03_can.f
  rw [Int.mul_one, wrap_in (x := h) (by omega), wrap_in (x := b * bLo) (by omega), wrap_in (x := h + b * bLo) (by omega), wrap_in (x := h * hHi) (by omega), wrap_in (x := b * bHi) (by omega), wrap_in (x := h * hHi + b * bHi) (by omega)]
  by_cases c : h + b * bLo ≤ x
  · rw [if_pos c, decide_eq_true c, Bool.true_and]
  · rw [if_neg c, decide_eq_false c, Bool.false_and]
/-- The reference tries lengths of a hole from the longest one down. -/
theorem ref_l2 {from_ to_ at_ : Int} {n i left : Nat} (hn : i + left + 1 = n) (hl : left ≤ 200) (hi200 : i ≤ 200) (acc : List S52) (ha : acc.length ≤ 1000) (hi : InvB hHi bLo bHi to_ at_ left) (r : List S52 × Int)
    (hc : ∃ k, (if left = 0 then some (acc ++ [(⟨at_, at_ + hOf hHi bLo to_ at_ left⟩ : S52)], (0 : Int)) else pianolaref03_Bridge.l3 k n (acc ++ [(⟨at_, at_ + hOf hHi bLo to_ at_ left⟩ : S52)]) (at_ + hOf hHi bLo to_ at_ left) i bHi from_ to_ 1 hHi bLo bHi) = some r) :
    ∀ (d : Nat) (x : Int), x = hOf hHi bLo to_ at_ left + d → x ≤ hHi → ∃ k, pianolaref03_Bridge.l2 k n acc at_ i x from_ to_ 1 hHi bLo bHi = some r := by
  have hh := inv_h h1 h2 h3 h4 h5 hi
  have hp := prods h1 h2 h3 h4 h5 left
  have hv : hOf hHi bLo to_ at_ left = min hHi (to_ - at_ - ((left : Int) + (left : Int) * bLo)) := by unfold hOf; rw [Int.mul_add, Int.mul_one]
  unfold InvB at hi
  have hcan : ∀ x : Int, pianolaref03_can.f 1 hHi bLo bHi (to_ - at_ - x) (left : Int) (left : Int) = some (decide ((left : Int) + (left : Int) * bLo ≤ to_ - at_ - x) && decide (to_ - at_ - x ≤ (left : Int) * hHi + (left : Int) * bHi)) :=
    fun x => can_eq h1 h2 h3 h4 h5 (by omega) (by omega)
  intro d
  induction d with
  | zero =>
    intro x hx hxh
    obtain rfl : x = hOf hHi bLo to_ at_ left := by omega
    obtain ⟨k, hk⟩ := hc
    refine ⟨k + 1, ?_⟩
    rw [pianolaref03_Bridge.l2, wrap_in (x := to_ - at_) (by omega), wrap_in (x := to_ - at_ - hOf hHi bLo to_ at_ left) (by omega), wrap_in (x := (n : Int) - 1) (by omega), wrap_in (x := (n : Int) - 1 - (i : Int)) (by omega),
      show (n : Int) - 1 - (i : Int) = (left : Int) by omega, hcan, Option.bind_some, if_pos (by simp; omega), if_pos (by omega), wrap_in (x := at_ + hOf hHi bLo to_ at_ left) (by omega), Option.bind_some]
    by_cases c : left = 0
    · rw [if_pos (by omega)]
      rw [if_pos c] at hk
      exact hk
    · rw [if_neg (by omega)]
      rw [if_neg c] at hk
      exact hk
  | succ d ih =>
    intro x hx hxh
    obtain ⟨k, hk⟩ := ih (x - 1) (by omega) (by omega)
    refine ⟨k + 1, ?_⟩
    rw [pianolaref03_Bridge.l2, wrap_in (x := to_ - at_) (by omega), wrap_in (x := to_ - at_ - x) (by omega), wrap_in (x := (n : Int) - 1) (by omega), wrap_in (x := (n : Int) - 1 - (i : Int)) (by omega),
      show (n : Int) - 1 - (i : Int) = (left : Int) by omega, hcan, Option.bind_some, if_neg (by simp; omega), wrap_in (x := x - 1) (by omega)]
    exact hk
/-- .. and of a bridge. -/
theorem ref_l3 {from_ to_ at_ : Int} {n i left : Nat} (hn : i + (left + 1) + 1 = n) (hl : left ≤ 200) (hi200 : i ≤ 200) (acc : List S52) (hi : InvB hHi bLo bHi to_ at_ (left + 1)) (r : List S52 × Int)
    (hc : ∃ k, pianolaref03_Bridge.l1 k n acc (at_ + hOf hHi bLo to_ at_ (left + 1) + wOf bLo bHi to_ (at_ + hOf hHi bLo to_ at_ (left + 1)) (left + 1)) ((i + 1 : Nat) : Int) from_ to_ 1 hHi bLo bHi = some r) :
    ∀ (d : Nat) (x : Int), x = wOf bLo bHi to_ (at_ + hOf hHi bLo to_ at_ (left + 1)) (left + 1) + d → x ≤ bHi → ∃ k, pianolaref03_Bridge.l3 k n acc (at_ + hOf hHi bLo to_ at_ (left + 1)) i x from_ to_ 1 hHi bLo bHi = some r := by
  have hh := inv_h h1 h2 h3 h4 h5 hi
  have hw := inv_w h1 h2 h3 h4 h5 hi
  have hp := prods h1 h2 h3 h4 h5 left
  have hv : wOf bLo bHi to_ (at_ + hOf hHi bLo to_ at_ (left + 1)) (left + 1) = min bHi (to_ - (at_ + hOf hHi bLo to_ at_ (left + 1)) - ((left : Int) + 1) - (left : Int) * bLo) := by
    unfold wOf
    rw [show ((left + 1 : Nat) : Int) = (left : Int) + 1 from rfl, show (left : Int) + 1 - 1 = (left : Int) by omega]
  generalize hOf hHi bLo to_ at_ (left + 1) = h at *
  have hcan : ∀ x : Int, pianolaref03_can.f 1 hHi bLo bHi (to_ - (at_ + h) - x) ((left : Int) + 1) (left : Int) = some (decide ((left : Int) + 1 + (left : Int) * bLo ≤ to_ - (at_ + h) - x) && decide (to_ - (at_ + h) - x ≤ ((left : Int) + 1) * hHi + (left : Int) * bHi)) :=
    fun x => can_eq h1 h2 h3 h4 h5 (by omega) (by omega)
  have hwI := hw.2.2
  unfold InvB at hwI hi
  simp only [Int.add_mul, Int.one_mul] at hcan
  rw [show ((left + 1 : Nat) : Int) = (left : Int) + 1 from rfl] at hh
  simp only [Int.add_mul, Int.one_mul] at hh
  generalize wOf bLo bHi to_ (at_ + h) (left + 1) = wv at *
  intro d
  induction d with
  | zero =>
    intro x hx hxh
    obtain rfl : x = wv := by omega
    obtain ⟨k, hk⟩ := hc
    refine ⟨k + 1, ?_⟩
    rw [pianolaref03_Bridge.l3, wrap_in (x := to_ - (at_ + h)) (by omega), wrap_in (x := to_ - (at_ + h) - x) (by omega), wrap_in (x := (n : Int) - 1) (by omega), wrap_in (x := (n : Int) - 1 - (i : Int)) (by omega), wrap_in (x := (n : Int) - 2) (by omega), wrap_in (x := (n : Int) - 2 - (i : Int)) (by omega),
      show (n : Int) - 1 - (i : Int) = (left : Int) + 1 by omega, show (n : Int) - 2 - (i : Int) = (left : Int) by omega, hcan, Option.bind_some, if_pos (by simp; omega), wrap_in (x := at_ + h + x) (by omega), wrap_in (x := (i : Int) + 1) (by omega)]
    exact hk
  | succ d ih =>
    intro x hx hxh
    obtain ⟨k, hk⟩ := ih (x - 1) (by omega) (by omega)
    refine ⟨k + 1, ?_⟩
    rw [pianolaref03_Bridge.l3, wrap_in (x := to_ - (at_ + h)) (by omega), wrap_in (x := to_ - (at_ + h) - x) (by omega), wrap_in (x := (n : Int) - 1) (by omega), wrap_in (x := (n : Int) - 1 - (i : Int)) (by omega), wrap_in (x := (n : Int) - 2) (by omega), wrap_in (x := (n : Int) - 2 - (i : Int)) (by omega),
      show (n : Int) - 1 - (i : Int) = (left : Int) + 1 by omega, show (n : Int) - 2 - (i : Int) = (left : Int) by omega, hcan, Option.bind_some, if_neg (by simp; omega), wrap_in (x := x - 1) (by omega)]
    exact hk
theorem ref_l1 {from_ to_ : Int} {n : Nat} : ∀ (left i : Nat) (acc : List S52) (at_ : Int), i + left + 1 = n → n ≤ 200 → acc.length + left ≤ 1000 → InvB hHi bLo bHi to_ at_ left →
    ∃ k, pianolaref03_Bridge.l1 k n acc at_ i from_ to_ 1 hHi bLo bHi = some (acc ++ conv (rowB hHi bLo bHi to_ left at_), 0)
  | 0, i, acc, at_, hn, hn2, ha, hi => by
    have hh := inv_h h1 h2 h3 h4 h5 hi
    obtain ⟨k, hk⟩ := ref_l2 h1 h2 h3 h4 h5 (from_ := from_) (n := n) (i := i) (left := 0) (by omega) (by omega) (by omega) acc (by omega) hi (acc ++ conv (rowB hHi bLo bHi to_ 0 at_), 0) ⟨0, by rw [if_pos rfl]; rfl⟩ (hHi - hOf hHi bLo to_ at_ 0).toNat hHi (by omega) (by omega)
    refine ⟨k + 1, ?_⟩
    rw [pianolaref03_Bridge.l1, if_pos (by omega)]
    exact hk
  | left + 1, i, acc, at_, hn, hn2, ha, hi => by
    have hh := inv_h h1 h2 h3 h4 h5 hi
    have hw := inv_w h1 h2 h3 h4 h5 hi
    have ih := ref_l1 (from_ := from_) left (i + 1) (acc ++ [(⟨at_, at_ + hOf hHi bLo to_ at_ (left + 1)⟩ : S52)]) _ (by omega) hn2 (by simp; omega) hw.2.2
    have h3' := ref_l3 h1 h2 h3 h4 h5 (from_ := from_) (n := n) (i := i) (by omega) (by omega) (by omega) _ hi _ ih (bHi - wOf bLo bHi to_ (at_ + hOf hHi bLo to_ at_ (left + 1)) (left + 1)).toNat bHi (by omega) (by omega)
    obtain ⟨k3, hk3⟩ := h3'
    obtain ⟨k, hk⟩ := ref_l2 h1 h2 h3 h4 h5 (from_ := from_) (n := n) (i := i) (left := left + 1) (by omega) (by omega) (by omega) acc (by omega) hi _ ⟨k3, by rw [if_neg (by omega)]; exact hk3⟩ (hHi - hOf hHi bLo to_ at_ (left + 1)).toNat hHi (by omega) (by omega)
    refine ⟨k + 1, ?_⟩
    rw [pianolaref03_Bridge.l1, if_pos (by omega), hk, List.append_assoc]
    rfl
/-- The reference tries numbers of holes. -/
theorem ref_l0 {from_ to_ : Int} (hs : 0 ≤ from_ ∧ from_ < to_ ∧ to_ ≤ 1000000) (hl : to_ - from_ ≤ 10000) : ∀ (d : Nat) (n : Nat), n + d = 200 → 1 ≤ n → ((n : Int) ≤ holesN hHi bHi (to_ - from_) ∨ to_ - from_ < holesN hHi bHi (to_ - from_) + (holesN hHi bHi (to_ - from_) - 1) * bLo) → (n = 1 ∨ bHi ≠ 0) →
    ∃ k, pianolaref03_Bridge.l0 k (n : Int) from_ to_ 1 hHi bLo bHi = some (conv (bridgeOf hHi bLo bHi from_ to_).1, (bridgeOf hHi bLo bHi from_ to_).2) := by
  obtain ⟨n1, n2, n3, n4⟩ := holesN_facts h1 h2 h3 h4 h5 (len := to_ - from_) (by omega)
  have hst := inv_start h1 h2 h3 h4 h5 hs hl
  have hbo : bridgeOf hHi bLo bHi from_ to_ = if holesN hHi bHi (to_ - from_) > 200 ∨ (holesN hHi bHi (to_ - from_) > 1 ∧ bHi = 0) ∨ to_ - from_ < holesN hHi bHi (to_ - from_) + (holesN hHi bHi (to_ - from_) - 1) * bLo then ([], 20)
    else (rowB hHi bLo bHi to_ (holesN hHi bHi (to_ - from_) - 1).toNat from_, 0) := rfl
  generalize holesN hHi bHi (to_ - from_) = N at *
  have hcan : ∀ n : Nat, 1 ≤ n → n ≤ 200 → pianolaref03_can.f 1 hHi bLo bHi (to_ - from_) (n : Int) ((n : Int) - 1) = some (decide ((n : Int) + ((n : Int) - 1) * bLo ≤ to_ - from_) && decide (to_ - from_ ≤ (n : Int) * hHi + ((n : Int) - 1) * bHi)) :=
    fun n h h' => can_eq h1 h2 h3 h4 h5 (by omega) (by omega)
  have step : ∀ (k n : Nat), 1 ≤ n → n ≤ 200 → pianolaref03_Bridge.l0 (k + 1) (n : Int) from_ to_ 1 hHi bLo bHi = if (decide ((n : Int) + ((n : Int) - 1) * bLo ≤ to_ - from_) && decide (to_ - from_ ≤ (n : Int) * hHi + ((n : Int) - 1) * bHi)) = true then pianolaref03_Bridge.l1 k (n : Int) [] from_ 0 from_ to_ 1 hHi bLo bHi else if (n : Int) + 1 > 200 then some ([], 20) else if bHi = 0 then some ([], 20) else pianolaref03_Bridge.l0 k ((n + 1 : Nat) : Int) from_ to_ 1 hHi bLo bHi := by
    intro k n hn hn'
    rw [pianolaref03_Bridge.l0, wrap_in (x := to_ - from_) (by omega), wrap_in (x := (n : Int) - 1) (by omega), hcan n hn hn', Option.bind_some, wrap_in (x := (n : Int) + 1) (by omega)]
    rfl
  intro d
  induction d with
  | zero =>
    intro n hn hn1 hcond hz
    obtain rfl : n = 200 := by omega
    by_cases c : (decide (((200 : Nat) : Int) + (((200 : Nat) : Int) - 1) * bLo ≤ to_ - from_) && decide (to_ - from_ ≤ ((200 : Nat) : Int) * hHi + (((200 : Nat) : Int) - 1) * bHi)) = true
    · simp only [Bool.and_eq_true, decide_eq_true_eq] at c
      have hN : N = 200 := by
        have hlt : ¬ (200 : Int) < N := fun h => by have := n4 200 h (by omega); omega
        rcases hcond with h | h
        · omega
        · rcases Int.lt_or_le N 200 with h' | h'
          · have := Int.mul_le_mul_of_nonneg_right (show N - 1 ≤ 199 by omega) h3
            omega
          · omega
      subst hN
      obtain ⟨k, hk⟩ := ref_l1 h1 h2 h3 h4 h5 (from_ := from_) (to_ := to_) (n := 200) 199 0 [] from_ (by omega) (by omega) (by simp) (hst (by omega))
      refine ⟨k + 1, ?_⟩
      rw [step k 200 (by omega) (by omega), if_pos (by simp; omega), hbo, if_neg (by omega)]
      exact hk
    · refine ⟨1, ?_⟩
      rw [step 0 200 (by omega) (by omega), if_neg c, if_pos (by omega), hbo]
      simp only [Bool.and_eq_true, decide_eq_true_eq] at c
      rw [if_pos ?_]
      · rfl
      · by_cases hN : N = 200
        · subst hN; omega
        · omega
  | succ d ih =>
    intro n hn hn1 hcond hz
    by_cases c : (decide ((n : Int) + ((n : Int) - 1) * bLo ≤ to_ - from_) && decide (to_ - from_ ≤ (n : Int) * hHi + ((n : Int) - 1) * bHi)) = true
    · have c' := c
      simp only [Bool.and_eq_true, decide_eq_true_eq] at c
      have e1 : ((n : Int) - 1) * bHi = (n : Int) * bHi - bHi := by rw [Int.sub_mul, Int.one_mul]
      have hN : N = (n : Int) := by
        have hlt : ¬ (n : Int) < N := fun h => by have := n4 n h (by omega); rw [Int.mul_add] at this; omega
        rcases hcond with h | h
        · omega
        · rcases Int.lt_or_le N (n : Int) with h' | h'
          · have := Int.mul_le_mul_of_nonneg_right (show N - 1 ≤ (n : Int) - 1 by omega) h3
            omega
          · omega
      subst hN
      obtain ⟨m, rfl⟩ : ∃ m, n = m + 1 := ⟨n - 1, by omega⟩
      have hcond2 : ¬ (((m + 1 : Nat) : Int) > 200 ∨ (((m + 1 : Nat) : Int) > 1 ∧ bHi = 0) ∨ to_ - from_ < ((m + 1 : Nat) : Int) + (((m + 1 : Nat) : Int) - 1) * bLo) := by
        rintro (h | ⟨h, h'⟩ | h)
        · omega
        · rcases hz with hz | hz
          · omega
          · exact hz h'
        · omega
      have hI := hst hcond2
      rw [show (((m + 1 : Nat) : Int) - 1).toNat = m by omega] at hI
      obtain ⟨k, hk⟩ := ref_l1 h1 h2 h3 h4 h5 (from_ := from_) (to_ := to_) (n := m + 1) m 0 [] from_ (by omega) (by omega) (by simp; omega) hI
      refine ⟨k + 1, ?_⟩
      rw [step k (m + 1) (by omega) (by omega), if_pos c', hbo, if_neg hcond2, show (((m + 1 : Nat) : Int) - 1).toNat = m by omega]
      exact hk
    · by_cases hb0 : bHi = 0
      · have hn1' : n = 1 := by rcases hz with h | h; exact h; exact absurd hb0 h
        subst hn1'
        refine ⟨1, ?_⟩
        rw [step 0 1 (by omega) (by omega), if_neg c, if_neg (by omega), if_pos hb0, hbo, if_pos ?_]
        · rfl
        · simp only [Bool.and_eq_true, decide_eq_true_eq] at c
          by_cases hN : N = 1
          · subst hN; omega
          · omega
      · have c' := c
        simp only [Bool.and_eq_true, decide_eq_true_eq] at c
        have e1 : ((n : Int) - 1) * bHi = (n : Int) * bHi - bHi := by rw [Int.sub_mul, Int.one_mul]
        obtain ⟨k, hk⟩ := ih (n + 1) (by omega) (by omega) (by
          by_cases hN : N = (n : Int)
          · subst hN
            rw [Int.mul_add] at n3
            exact .inr (by omega)
          · rcases hcond with h | h
            · exact .inl (by omega)
            · exact .inr h) (.inr hb0)
        refine ⟨k + 1, ?_⟩
        rw [step k n (by omega) (by omega), if_neg c', if_neg (by omega), if_neg hb0]
        exact hk
end
theorem refBridge_ex {lo hi lg na sh r1 r2 r3 r4 r5 a b : Int} (hB : punch_Bars.f lo hi lg na sh = some (r1, r2, r3, r4, r5)) (hF : r5 = 0 → r1 = 1 ∧ 1 ≤ r2 ∧ r2 ≤ 1200 ∧ 0 ≤ r3 ∧ r3 ≤ r4 ∧ r4 ≤ 1200) :
    ∃ k, pianolaref03_Bridge.f k lo hi lg na sh a b = some (conv (bridgeE r2 r3 r4 r5 a b).1, (bridgeE r2 r3 r4 r5 a b).2) := by
  have hRB : ∀ K, 2401 ≤ K → pianolaref03_Bars.f K lo hi lg na sh = some (r1, r2, r3, r4, r5) := fun K hK => more (f := fun k => pianolaref03_Bars.f k lo hi lg na sh) (pianolaref03_Bars.mono _ _ _ _ _) ((refBars_eq lo hi lg na sh).trans hB) hK
  unfold bridgeE
  by_cases h5 : r5 = 0
  · obtain ⟨rfl, f1, f2, f3, f4, f5⟩ := hF h5
    rw [if_pos h5]
    cases hg : okSlot ⟨a, b⟩ with
    | false =>
      refine ⟨2402, ?_⟩
      unfold pianolaref03_Bridge.f
      rw [hRB _ (by omega), Option.bind_some]
      dsimp only
      rw [if_pos h5, slot_eq ⟨a, b⟩, Option.bind_some, hg, if_neg (by simp), if_neg (by simp), pianolaref03_Bridge.j0, if_pos rfl]
      rfl
    | true =>
      have ho := ok_bounds hg
      dsimp only at ho
      rw [if_pos rfl]
      by_cases hl : b - a > 10000
      · refine ⟨2402, ?_⟩
        unfold pianolaref03_Bridge.f
        rw [hRB _ (by omega), Option.bind_some]
        dsimp only
        rw [if_pos h5, slot_eq ⟨a, b⟩, Option.bind_some, hg, if_pos rfl, wrap_in (x := b - a) (by omega), pianolaref03_Bridge.j0, if_pos (by simpa using hl), if_pos hl]
        rfl
      · rw [if_neg hl]
        obtain ⟨k, hk⟩ := ref_l0 f1 f2 f3 f4 f5 (from_ := a) (to_ := b) (by omega) (by omega) 199 1 (by omega) (by omega) (.inl (by have := (holesN_facts f1 f2 f3 f4 f5 (len := b - a) (by omega)).1; omega)) (.inl rfl)
        refine ⟨k + 2401 + 1, ?_⟩
        have hk' := more (f := fun k => pianolaref03_Bridge.l0 k ((1 : Nat) : Int) a b 1 r2 r3 r4) (fun k => (pianolaref03_Bridge.mono_l k).2.1 _ _ _ _ _ _ _) hk (show k ≤ k + 2401 by omega)
        unfold pianolaref03_Bridge.f
        rw [hRB _ (by omega), Option.bind_some]
        dsimp only
        rw [if_pos h5, slot_eq ⟨a, b⟩, Option.bind_some, hg, if_pos rfl, wrap_in (x := b - a) (by omega), pianolaref03_Bridge.j0, if_neg (by simpa using hl)]
        exact hk'
  · refine ⟨2401, ?_⟩
    unfold pianolaref03_Bridge.f
    rw [hRB _ (by omega), Option.bind_some]
    dsimp only
    rw [if_neg h5, if_neg h5]
    rfl
theorem same_l0 {l : List S47} (hl : l.length ≤ 1000) : ∀ (d j : Nat), j + d = l.length → pianolalaw03_same.l0 (d + 1) l (conv l) j = some true
  | 0, j, h => by
    rw [pianolalaw03_same.l0, if_neg (by omega)]
  | d + 1, j, h => by
    rw [pianolalaw03_same.l0, if_pos (by omega), if_pos (by omega), if_pos (by rw [conv_len]; omega), rd_conv (by omega), if_neg (by simp), wrap_in (by omega), show (j : Int) + 1 = ((j + 1 : Nat) : Int) from by omega]
    exact same_l0 hl d (j + 1) (by omega)
theorem same_more {l : List S47} (hl : l.length ≤ 1000) {K : Nat} (hK : 1001 ≤ K) : pianolalaw03_same.f K l (conv l) = some true := by
  refine more (f := fun k => pianolalaw03_same.f k l (conv l)) (pianolalaw03_same.mono _ _) (k := l.length + 1) ?_ (by omega)
  show pianolalaw03_same.f (l.length + 1) l (conv l) = some true
  unfold pianolalaw03_same.f
  rw [if_pos (by rw [conv_len])]
  exact same_l0 hl l.length 0 (by omega)
theorem punchBars_pure (lo hi lg na sh a b : Int) : ∃ k, pianolalaw03_PunchBars.f k lo hi lg na sh a b = some true := by
  obtain ⟨r1, r2, r3, r4, r5, hB, hF⟩ := bars_cases lo hi lg na sh
  obtain ⟨k, hk⟩ := refBridge_ex (a := a) (b := b) hB hF
  have hlen := bridgeE_len r2 r3 r4 r5 a b
  refine ⟨k + 2401, ?_⟩
  have hk' := more (f := fun k => pianolaref03_Bridge.f k lo hi lg na sh a b) (pianolaref03_Bridge.mono _ _ _ _ _ _ _) hk (show k ≤ k + 2401 by omega)
  have hRB := more (f := fun k => pianolaref03_Bars.f k lo hi lg na sh) (pianolaref03_Bars.mono _ _ _ _ _) ((refBars_eq lo hi lg na sh).trans hB) (show 2401 ≤ k + 2401 by omega)
  unfold pianolalaw03_PunchBars.f
  rw [hB, Option.bind_some, hRB, Option.bind_some, codeBridge_eq hB hF (by omega), Option.bind_some, hk', Option.bind_some]
  dsimp only
  simp [same_more hlen (K := k + 2401) (by omega), works_more (K := k + 2401) (by omega)]
end Go.Proofs.Ytaaonhfaoaabbaa.X
