/- PunchFewest: plain. -/
import Derived.Test.YtaaonhfaoaabbaaXx34
import Derived.Test.YtaaonhfaoaabbaaG0
import Derived.Test.YtaaonhfaoaabbaaG11
import Derived.Test.YtaaonhfaoaabbaaG13
import Derived.Test.YtaaonhfaoaabbaaG14
namespace Go.Proofs.Ytaaonhfaoaabbaa.X
open Go.RowKit Go.Proofs.YtaaonhfaoaabbaaW.PrintWords Go.Proofs.YtaaonhfaoaabbaaW.PrintLast
/-- A length can be divided into m + 1 holes and m bridges. -/
def DV (hHi bLo bHi len : Int) (m : Nat) : Prop := 1 + (m : Int) + (m : Int) * bLo ≤ len ∧ len ≤ (m : Int) * hHi + hHi + (m : Int) * bHi ∧ (m = 0 ∨ 1 ≤ bHi)
section
variable {hHi bLo bHi : Int} (h1 : 1 ≤ hHi) (h2 : hHi ≤ 1200) (h3 : 0 ≤ bLo) (h4 : bLo ≤ bHi) (h5 : bHi ≤ 1200) (hz : 1 ≤ bHi → 1 ≤ bLo)
include h1 h2 h3 h4 h5 hz
theorem dv_succ (len : Int) (m : Nat) : DV hHi bLo bHi len (m + 1) ↔ ∃ h, 1 ≤ h ∧ h ≤ hHi ∧ h < len ∧ ∃ w, max 1 bLo ≤ w ∧ w ≤ bHi ∧ h + w < len ∧ DV hHi bLo bHi (len - h - w) m := by
  have hp := prods h1 h2 h3 h4 h5 m
  unfold DV
  rw [show ((m + 1 : Nat) : Int) = (m : Int) + 1 from rfl]
  simp only [Int.add_mul, Int.one_mul]
  constructor
  · rintro ⟨a, b, c⟩
    have hb1 : 1 ≤ bHi := by omega
    have hb2 := hz hb1
    exact ⟨min hHi (len - ((m : Int) + 1 + ((m : Int) * bLo + bLo))), by omega, by omega, by omega, min bHi (len - min hHi (len - ((m : Int) + 1 + ((m : Int) * bLo + bLo))) - ((m : Int) + 1) - (m : Int) * bLo), by omega, by omega, by omega, by omega, by omega, by omega⟩
  · rintro ⟨h, a1, a2, a3, w, b1, b2, b3, c1, c2, c3⟩
    omega
theorem div_l1 {len h : Int} {m : Nat} (hlen : -10000 ≤ len ∧ len ≤ 10000) (hh : 1 ≤ h ∧ h ≤ hHi ∧ h < len) (hm : m ≤ 1000)
    (ih : ∀ len', -10000 ≤ len' ∧ len' ≤ 10000 → (DV hHi bLo bHi len' m → ∃ K, pianolalaw03_divided.f K 1 hHi bLo bHi len' ((m + 1 : Nat) : Int) = some true) ∧ (¬ DV hHi bLo bHi len' m → ∃ K, pianolalaw03_divided.f K 1 hHi bLo bHi len' ((m + 1 : Nat) : Int) = some false))
    (r : Bool) (hr : ∃ K, pianolalaw03_divided.l0 K len ((m + 2 : Nat) : Int) (h + 1) 1 hHi bLo bHi = some r) : ∀ (d : Nat) (w : Int), bHi + 1 - w ≤ d → 1 ≤ w → w ≤ 2000 →
    ((∃ w', w ≤ w' ∧ w' ≤ bHi ∧ h + w' < len ∧ DV hHi bLo bHi (len - h - w') m) → ∃ K, pianolalaw03_divided.l1 K len ((m + 2 : Nat) : Int) h w 1 hHi bLo bHi = some true) ∧
    ((¬ ∃ w', w ≤ w' ∧ w' ≤ bHi ∧ h + w' < len ∧ DV hHi bLo bHi (len - h - w') m) → ∃ K, pianolalaw03_divided.l1 K len ((m + 2 : Nat) : Int) h w 1 hHi bLo bHi = some r) := by
  have _ := hz
  have out : ∀ w, (∃ K, pianolalaw03_divided.j3 K len ((m + 2 : Nat) : Int) h w false 1 hHi bLo bHi = some r) := fun w => by
    obtain ⟨K, hK⟩ := hr
    exact ⟨K + 1, by rw [pianolalaw03_divided.j3, if_neg (by simp), wrap_in (x := h + 1) (by omega)]; exact hK⟩
  intro d
  induction d with
  | zero =>
    intro w hd hw hw2
    refine ⟨fun ⟨w', a, b, _⟩ => by omega, fun _ => ?_⟩
    obtain ⟨K, hK⟩ := out w
    exact ⟨K + 1, by rw [pianolalaw03_divided.l1, if_neg (by omega)]; exact hK⟩
  | succ d ihd =>
    intro w hd hw hw2
    by_cases c1 : w ≤ bHi
    · by_cases c2 : h + w < len
      · have st : ∀ K, pianolalaw03_divided.l1 (K + 2) len ((m + 2 : Nat) : Int) h w 1 hHi bLo bHi = (pianolalaw03_divided.f K 1 hHi bLo bHi (len - h - w) ((m + 1 : Nat) : Int)).bind fun t => if t = true then some true else pianolalaw03_divided.l1 K len ((m + 2 : Nat) : Int) h (w + 1) 1 hHi bLo bHi := fun K => by
          rw [pianolalaw03_divided.l1, if_pos c1, wrap_in (x := h + w) (by omega), decide_eq_true c2, pianolalaw03_divided.j3, if_pos rfl, wrap_in (x := len - h) (by omega), wrap_in (x := len - h - w) (by omega), wrap_in (x := ((m + 2 : Nat) : Int) - 1) (by omega), show ((m + 2 : Nat) : Int) - 1 = ((m + 1 : Nat) : Int) by omega, wrap_in (x := w + 1) (by omega)]
        have fm : ∀ {k v K}, pianolalaw03_divided.f k 1 hHi bLo bHi (len - h - w) ((m + 1 : Nat) : Int) = some v → k ≤ K → pianolalaw03_divided.f K 1 hHi bLo bHi (len - h - w) ((m + 1 : Nat) : Int) = some v := fun hk hK => more (f := fun k => pianolalaw03_divided.f k 1 hHi bLo bHi (len - h - w) ((m + 1 : Nat) : Int)) (fun k => (pianolalaw03_divided.mono_l k).1 _ _ _ _ _ _) hk hK
        have lm : ∀ {k v K}, pianolalaw03_divided.l1 k len ((m + 2 : Nat) : Int) h (w + 1) 1 hHi bLo bHi = some v → k ≤ K → pianolalaw03_divided.l1 K len ((m + 2 : Nat) : Int) h (w + 1) 1 hHi bLo bHi = some v := fun hk hK => more (f := fun k => pianolalaw03_divided.l1 k len ((m + 2 : Nat) : Int) h (w + 1) 1 hHi bLo bHi) (fun k => (pianolalaw03_divided.mono_l k).2.2.2.1 _ _ _ _ _ _ _ _) hk hK
        obtain ⟨i1, i2⟩ := ih (len - h - w) (by omega)
        obtain ⟨n1, n2⟩ := ihd (w + 1) (by omega) (by omega) (by omega)
        by_cases c3 : DV hHi bLo bHi (len - h - w) m
        · refine ⟨fun _ => ?_, fun hn => absurd ⟨w, Int.le_refl _, c1, c2, c3⟩ hn⟩
          obtain ⟨K, hK⟩ := i1 c3
          exact ⟨K + 2, by rw [st, hK]; rfl⟩
        · obtain ⟨K, hK⟩ := i2 c3
          refine ⟨fun ⟨w', a, b, c, e⟩ => ?_, fun hn => ?_⟩
          · have hne : w + 1 ≤ w' := by
              rcases Int.lt_or_le w w' with h' | h'
              · omega
              · obtain rfl : w' = w := by omega
                exact absurd e c3
            obtain ⟨K2, hK2⟩ := n1 ⟨w', hne, b, c, e⟩
            exact ⟨K + K2 + 2, by rw [st, fm hK (by omega), Option.bind_some, if_neg (by simp)]; exact lm hK2 (by omega)⟩
          · obtain ⟨K2, hK2⟩ := n2 (fun ⟨w', a, b, c, e⟩ => hn ⟨w', by omega, b, c, e⟩)
            exact ⟨K + K2 + 2, by rw [st, fm hK (by omega), Option.bind_some, if_neg (by simp)]; exact lm hK2 (by omega)⟩
      · refine ⟨fun ⟨w', a, b, c, _⟩ => by omega, fun _ => ?_⟩
        obtain ⟨K, hK⟩ := out w
        exact ⟨K + 1, by rw [pianolalaw03_divided.l1, if_pos c1, wrap_in (x := h + w) (by omega), decide_eq_false c2]; exact hK⟩
    · refine ⟨fun ⟨w', a, b, _⟩ => by omega, fun _ => ?_⟩
      obtain ⟨K, hK⟩ := out w
      exact ⟨K + 1, by rw [pianolalaw03_divided.l1, if_neg c1]; exact hK⟩
theorem div_l0 {len : Int} {m : Nat} (hlen : -10000 ≤ len ∧ len ≤ 10000) (hm : m ≤ 1000)
    (ih : ∀ len', -10000 ≤ len' ∧ len' ≤ 10000 → (DV hHi bLo bHi len' m → ∃ K, pianolalaw03_divided.f K 1 hHi bLo bHi len' ((m + 1 : Nat) : Int) = some true) ∧ (¬ DV hHi bLo bHi len' m → ∃ K, pianolalaw03_divided.f K 1 hHi bLo bHi len' ((m + 1 : Nat) : Int) = some false)) : ∀ (d : Nat) (h : Int), hHi + 1 - h ≤ d → 1 ≤ h → h ≤ 2000 →
    ((∃ h', h ≤ h' ∧ h' ≤ hHi ∧ h' < len ∧ ∃ w', max 1 bLo ≤ w' ∧ w' ≤ bHi ∧ h' + w' < len ∧ DV hHi bLo bHi (len - h' - w') m) → ∃ K, pianolalaw03_divided.l0 K len ((m + 2 : Nat) : Int) h 1 hHi bLo bHi = some true) ∧
    ((¬ ∃ h', h ≤ h' ∧ h' ≤ hHi ∧ h' < len ∧ ∃ w', max 1 bLo ≤ w' ∧ w' ≤ bHi ∧ h' + w' < len ∧ DV hHi bLo bHi (len - h' - w') m) → ∃ K, pianolalaw03_divided.l0 K len ((m + 2 : Nat) : Int) h 1 hHi bLo bHi = some false) := by
  have out : ∀ h, pianolalaw03_divided.j1 1 len ((m + 2 : Nat) : Int) h false 1 hHi bLo bHi = some false := fun h => by
    rw [pianolalaw03_divided.j1, if_neg (by simp)]
  intro d
  induction d with
  | zero =>
    intro h hd hh hh2
    exact ⟨fun ⟨h', a, b, _⟩ => by omega, fun _ => ⟨2, by rw [pianolalaw03_divided.l0, if_neg (by omega)]; exact out h⟩⟩
  | succ d ihd =>
    intro h hd hh hh2
    by_cases c1 : h ≤ hHi
    · by_cases c2 : h < len
      · obtain ⟨n1, n2⟩ := ihd (h + 1) (by omega) (by omega) (by omega)
        have st : ∀ K, pianolalaw03_divided.l0 (K + 2) len ((m + 2 : Nat) : Int) h 1 hHi bLo bHi = pianolalaw03_divided.l1 K len ((m + 2 : Nat) : Int) h (max 1 bLo) 1 hHi bLo bHi := fun K => by
          rw [pianolalaw03_divided.l0, if_pos c1, decide_eq_true c2, pianolalaw03_divided.j1, if_pos rfl, mx_max]
        have go := fun r hr => div_l1 h1 h2 h3 h4 h5 hz hlen ⟨hh, c1, c2⟩ hm ih r hr (bHi + 1 - max 1 bLo).toNat (max 1 bLo) (by omega) (by omega) (by omega)
        by_cases c3 : ∃ w', max 1 bLo ≤ w' ∧ w' ≤ bHi ∧ h + w' < len ∧ DV hHi bLo bHi (len - h - w') m
        · refine ⟨fun _ => ?_, fun hn => absurd ⟨h, Int.le_refl _, c1, c2, c3⟩ hn⟩
          by_cases c4 : ∃ h', h + 1 ≤ h' ∧ h' ≤ hHi ∧ h' < len ∧ ∃ w', max 1 bLo ≤ w' ∧ w' ≤ bHi ∧ h' + w' < len ∧ DV hHi bLo bHi (len - h' - w') m
          · obtain ⟨K, hK⟩ := (go _ (n1 c4)).1 c3
            exact ⟨K + 2, by rw [st]; exact hK⟩
          · obtain ⟨K, hK⟩ := (go _ (n2 c4)).1 c3
            exact ⟨K + 2, by rw [st]; exact hK⟩
        · refine ⟨fun ⟨h', a, b, c, e⟩ => ?_, fun hn => ?_⟩
          · have hne : h + 1 ≤ h' := by
              rcases Int.lt_or_le h h' with h6 | h6
              · omega
              · obtain rfl : h' = h := by omega
                exact absurd e c3
            obtain ⟨K, hK⟩ := (go _ (n1 ⟨h', hne, b, c, e⟩)).2 c3
            exact ⟨K + 2, by rw [st]; exact hK⟩
          · obtain ⟨K, hK⟩ := (go _ (n2 (fun ⟨h', a, b, c, e⟩ => hn ⟨h', by omega, b, c, e⟩))).2 c3
            exact ⟨K + 2, by rw [st]; exact hK⟩
      · exact ⟨fun ⟨h', a, b, c, _⟩ => by omega, fun _ => ⟨2, by rw [pianolalaw03_divided.l0, if_pos c1, decide_eq_false c2]; exact out h⟩⟩
    · exact ⟨fun ⟨h', a, b, _⟩ => by omega, fun _ => ⟨2, by rw [pianolalaw03_divided.l0, if_neg c1]; exact out h⟩⟩
theorem divided_ex : ∀ (m : Nat), m ≤ 1000 → ∀ len, -10000 ≤ len ∧ len ≤ 10000 →
    (DV hHi bLo bHi len m → ∃ K, pianolalaw03_divided.f K 1 hHi bLo bHi len ((m + 1 : Nat) : Int) = some true) ∧ (¬ DV hHi bLo bHi len m → ∃ K, pianolalaw03_divided.f K 1 hHi bLo bHi len ((m + 1 : Nat) : Int) = some false)
  | 0, _, len, hl => by
    have e : DV hHi bLo bHi len 0 ↔ 1 ≤ len ∧ len ≤ hHi := by unfold DV; simp
    rw [e]
    refine ⟨fun h => ⟨1, ?_⟩, fun h => ⟨1, ?_⟩⟩
    · rw [pianolalaw03_divided.f, if_pos (by omega), if_pos (by omega), decide_eq_true h.2]
    · rw [pianolalaw03_divided.f, if_pos (by omega)]
      by_cases c : len ≥ 1
      · rw [if_pos c, decide_eq_false (by omega)]
      · rw [if_neg c]
  | m + 1, hm, len, hl => by
    obtain ⟨a, b⟩ := div_l0 h1 h2 h3 h4 h5 hz hl (show m ≤ 1000 by omega) (fun len' hl' => divided_ex m (by omega) len' hl') hHi.toNat 1 (by omega) (by omega) (by omega)
    have e := dv_succ h1 h2 h3 h4 h5 hz len m
    refine ⟨fun h => ?_, fun h => ?_⟩
    · obtain ⟨K, hK⟩ := a (e.1 h)
      exact ⟨K + 1, by rw [pianolalaw03_divided.f, if_neg (by omega)]; exact hK⟩
    · obtain ⟨K, hK⟩ := b (fun hx => h (e.2 hx))
      exact ⟨K + 1, by rw [pianolalaw03_divided.f, if_neg (by omega)]; exact hK⟩
end
section
variable {hHi bLo bHi : Int} (h1 : 1 ≤ hHi) (h2 : hHi ≤ 20) (h3 : 0 ≤ bLo) (h4 : bLo ≤ bHi) (h5 : bHi ≤ 20) (hz : 1 ≤ bHi → 1 ≤ bLo)
include h1 h2 h3 h4 h5 hz
/-- No longer first hole would do: all bridges are tried. -/
theorem few_l2 {n h : Int} {M : Nat} {L : List S47} (hn : 1 ≤ n ∧ n ≤ 26) (hM : M + 1 ≤ 14) (hh : h ≤ hHi) (hlow : n - h < (M : Int) + 1 + ((M : Int) * bLo + bLo)) (hh0 : 0 ≤ h)
    (hr : ∃ K, pianolalaw03_PunchFewest.l1 K n L ((M + 2 : Nat) : Int) (h - 1) 1 hHi bLo bHi = some true) : ∀ (d : Nat) (w : Int), bHi + 1 - w ≤ d → max 1 bLo ≤ w → w ≤ 100 → ∃ K, pianolalaw03_PunchFewest.l2 K n L ((M + 2 : Nat) : Int) h w 1 hHi bLo bHi = some true := by
  have out : ∀ w, ¬ w ≤ bHi → ∃ K, pianolalaw03_PunchFewest.l2 K n L ((M + 2 : Nat) : Int) h w 1 hHi bLo bHi = some true := fun w hw => by
    obtain ⟨K, hK⟩ := hr
    exact ⟨K + 1, by rw [pianolalaw03_PunchFewest.l2, if_neg hw, wrap_in (x := h - 1) (by omega)]; exact hK⟩
  intro d
  induction d with
  | zero => intro w hd hw hw2; exact out w (by omega)
  | succ d ih =>
    intro w hd hw hw2
    by_cases c : w ≤ bHi
    · obtain ⟨K, hK⟩ := ih (w + 1) (by omega) (by omega) (by omega)
      have lm : ∀ {K'}, K ≤ K' → pianolalaw03_PunchFewest.l2 K' n L ((M + 2 : Nat) : Int) h (w + 1) 1 hHi bLo bHi = some true := fun hK' => more (f := fun k => pianolalaw03_PunchFewest.l2 k n L ((M + 2 : Nat) : Int) h (w + 1) 1 hHi bLo bHi) (fun k => (pianolalaw03_PunchFewest.mono_l k).2.2.2.2.2 _ _ _ _ _ _ _ _ _) hK hK'
      by_cases c2 : n - h - w ≥ 1
      · obtain ⟨K2, hK2⟩ := (divided_ex h1 (by omega) h3 h4 (by omega) hz M (by omega) (n - h - w) (by omega)).2 (by
          unfold DV
          rintro ⟨a, _⟩
          omega)
        have fm := more (f := fun k => pianolalaw03_divided.f k 1 hHi bLo bHi (n - h - w) ((M + 1 : Nat) : Int)) (fun k => (pianolalaw03_divided.mono_l k).1 _ _ _ _ _ _) hK2 (show K2 ≤ K + K2 by omega)
        refine ⟨K + K2 + 1, ?_⟩
        rw [pianolalaw03_PunchFewest.l2, if_pos c, wrap_in (x := n - h) (by omega), wrap_in (x := n - h - w) (by omega), if_pos c2, wrap_in (x := ((M + 2 : Nat) : Int) - 1) (by omega), show ((M + 2 : Nat) : Int) - 1 = ((M + 1 : Nat) : Int) by omega, fm, Option.bind_some, if_neg (by simp), wrap_in (x := w + 1) (by omega)]
        exact lm (by omega)
      · refine ⟨K + 1, ?_⟩
        rw [pianolalaw03_PunchFewest.l2, if_pos c, wrap_in (x := n - h) (by omega), wrap_in (x := n - h - w) (by omega), if_neg c2, wrap_in (x := w + 1) (by omega)]
        exact hK
    · exact out w c
theorem few_l1 {n : Int} {M : Nat} {L : List S47} (hn : 1 ≤ n ∧ n ≤ 26) (hM : M + 1 ≤ 14) (hL : L.length = M + 2) (h0 : Int) (hf : (rd_T47 L 0).f1 - (rd_T47 L 0).f0 = h0) (hh0 : h0 = min hHi (n - ((M : Int) + 1 + ((M : Int) * bLo + bLo)))) (hh1 : 1 ≤ h0) : ∀ (d : Nat) (h : Int), h = h0 + d → h ≤ hHi → ∃ K, pianolalaw03_PunchFewest.l1 K n L ((M + 2 : Nat) : Int) h 1 hHi bLo bHi = some true
  | 0, h, hd, hh => by
    refine ⟨102, ?_⟩
    rw [pianolalaw03_PunchFewest.l1, if_pos (by omega), if_pos (by omega), hf, wrap_in (x := h0) (by omega), decide_eq_false (by omega), pianolalaw03_PunchFewest.j4, if_neg (by simp), works_at]
    rfl
  | d + 1, h, hd, hh => by
    obtain ⟨K, hK⟩ := few_l2 h1 h2 h3 h4 h5 hz (L := L) hn hM hh (by omega) (by omega) (few_l1 hn hM hL h0 hf hh0 hh1 d (h - 1) (by omega) (by omega)) (bHi + 1 - max 1 bLo).toNat (max 1 bLo) (by omega) (by omega) (by omega)
    refine ⟨K + 2, ?_⟩
    rw [pianolalaw03_PunchFewest.l1, if_pos (by omega), if_pos (by omega), hf, wrap_in (x := h0) (by omega), decide_eq_true (by omega), pianolalaw03_PunchFewest.j4, if_pos rfl, mx_max]
    exact hK
end
/-- What the law's paper is. -/
theorem sheet_ex {a b c e f : Int} (ha : 0 ≤ a) (hb : 0 ≤ b) (hc : 0 ≤ c) (he : 0 ≤ e) (hf : 0 ≤ f) (la : a ≤ 255) (lb : b ≤ 255) (lc : c ≤ 255) (le_ : e ≤ 255) (lf : f ≤ 255) : ∃ lo hi lg na sh, pianolalaw03_Sheet_made.f a b c e f = some (lo, hi, lg, na, sh) ∧ goodPaper lo hi lg na sh = true ∧ hi ≤ 1098 ∧ lg ≤ 12 ∧ na ≤ 6 ∧ sh ≤ 14 := by
  have t1 := tmod_bdd (x := a) (m := 150) ha (by omega)
  have t2 := tmod_bdd (x := b) (m := 50) hb (by omega)
  have t3 := tmod_bdd (x := c) (m := 12) hc (by omega)
  have t4 := tmod_bdd (x := e) (m := 6) he (by omega)
  have t5 := tmod_bdd (x := f) (m := 14) hf (by omega)
  refine ⟨900 + Int.tmod a 150, 900 + Int.tmod a 150 + Int.tmod b 50, 1 + Int.tmod c 12, 1 + Int.tmod e 6, 1 + Int.tmod f 14, ?_, ?_, by omega, by omega, by omega, by omega⟩
  · unfold pianolalaw03_Sheet_made.f
    rw [wrap_in (x := a) (by omega), wrap_in (x := b) (by omega), wrap_in (x := c) (by omega), wrap_in (x := e) (by omega), wrap_in (x := f) (by omega), wrap_in (x := 900 + Int.tmod a 150) (by omega), wrap_in (x := 900 + Int.tmod a 150 + Int.tmod b 50) (by omega), wrap_in (x := 1 + Int.tmod c 12) (by omega), wrap_in (x := 1 + Int.tmod e 6) (by omega), wrap_in (x := 1 + Int.tmod f 14) (by omega)]
  · unfold goodPaper
    simp only [Bool.and_eq_true, decide_eq_true_eq]
    omega
section
variable {lo hi lg na sh hHi bLo bHi n : Int} (hg : goodPaper lo hi lg na sh = true) (h1 : 1 ≤ hHi) (h2 : hHi ≤ 20) (h3 : 0 ≤ bLo) (h4 : bLo ≤ bHi) (h5 : bHi ≤ 20) (hz : 1 ≤ bHi → 1 ≤ bLo)
  (hmo : ∀ n : Int, n ≤ hHi → n * hi ≤ 1000 * lg) (hbr : ∀ n : Int, 1 ≤ bLo → bLo ≤ n → n ≤ bHi → 1000 * na ≤ n * lo ∧ n * hi < 1000 * sh) (hn : 1 ≤ n ∧ n ≤ 26)
include hg h1 h2 h3 h4 h5 hz hmo hbr hn
theorem few_l0 : ∀ (d k : Nat), k + d = 15 → 1 ≤ k → (∀ k' : Nat, 1 ≤ k' → k' < k → ¬ DV hHi bLo bHi n (k' - 1)) → ∃ K, pianolalaw03_PunchFewest.l0 K n (bridgeOf hHi bLo bHi 3 (3 + n)).1 (bridgeOf hHi bLo bHi 3 (3 + n)).2 k lo hi lg na sh 1 hHi bLo bHi 3 (3 + n) = some true := by
  obtain ⟨n1, n2, n3, n4⟩ := holesN_facts h1 (by omega) h3 h4 (by omega) (len := n) (by omega)
  have hst := inv_start h1 (by omega) h3 h4 (by omega) (from_ := 3) (to_ := 3 + n) (by omega) (by omega)
  have hbo : bridgeOf hHi bLo bHi 3 (3 + n) = if holesN hHi bHi (3 + n - 3) > 200 ∨ (holesN hHi bHi (3 + n - 3) > 1 ∧ bHi = 0) ∨ 3 + n - 3 < holesN hHi bHi (3 + n - 3) + (holesN hHi bHi (3 + n - 3) - 1) * bLo then ([], 20) else (rowB hHi bLo bHi (3 + n) (holesN hHi bHi (3 + n - 3) - 1).toNat 3, 0) := rfl
  rw [show 3 + n - 3 = n by omega] at hst hbo
  generalize holesN hHi bHi n = N at *
  obtain ⟨M, rfl⟩ : ∃ M : Nat, N = (M : Int) + 1 := ⟨(N - 1).toNat, by omega⟩
  rw [show (M : Int) + 1 - 1 = (M : Int) by omega, Int.toNat_natCast] at *
  have hbl := Int.mul_nonneg (show (0 : Int) ≤ (M : Int) by omega) h3
  -- what the numbers say of a count
  have key : ∀ k : Nat, 1 ≤ k → k ≤ 14 → DV hHi bLo bHi n (k - 1) → (M : Int) + 1 ≤ (k : Int) ∧ ¬ ((M : Int) + 1 > 200 ∨ ((M : Int) + 1 > 1 ∧ bHi = 0) ∨ n < (M : Int) + 1 + (M : Int) * bLo) := by
    intro k hk hk14 hd
    obtain ⟨m, rfl⟩ : ∃ m, k = m + 1 := ⟨k - 1, by omega⟩
    rw [show m + 1 - 1 = m by omega] at hd
    unfold DV at hd
    obtain ⟨d1, d2, d3⟩ := hd
    have hle : (M : Int) + 1 ≤ ((m + 1 : Nat) : Int) := by
      refine Classical.byContradiction fun hc => ?_
      have := n4 ((m + 1 : Nat) : Int) (by omega) (by omega)
      rw [show ((m + 1 : Nat) : Int) = (m : Int) + 1 from rfl] at this
      simp only [Int.add_mul, Int.mul_add, Int.one_mul] at this
      omega
    have hmul := Int.mul_le_mul_of_nonneg_right (show (M : Int) ≤ (m : Int) by omega) h3
    exact ⟨hle, by omega⟩
  by_cases hc : (M : Int) + 1 > 200 ∨ ((M : Int) + 1 > 1 ∧ bHi = 0) ∨ n < (M : Int) + 1 + (M : Int) * bLo
  · rw [hbo, if_pos hc]
    intro d
    induction d with
    | zero =>
      intro k hk hk1 _
      refine ⟨101, ?_⟩
      rw [pianolalaw03_PunchFewest.l0, if_neg (by omega), if_pos rfl, if_pos (by simp), works_at]
      rfl
    | succ d ih =>
      intro k hk hk1 hall
      have hnd : ¬ DV hHi bLo bHi n (k - 1) := fun h => (key k hk1 (by omega) h).2 hc
      obtain ⟨K1, hK1⟩ := (divided_ex h1 (by omega) h3 h4 (by omega) hz (k - 1) (by omega) n (by omega)).2 hnd
      rw [show k - 1 + 1 = k by omega] at hK1
      obtain ⟨K, hK⟩ := ih (k + 1) (by omega) (by omega) (fun k' a b => by
        rcases Nat.lt_or_ge k' k with h | h
        · exact hall k' a h
        · obtain rfl : k' = k := by omega
          exact hnd)
      refine ⟨K + K1 + 1, ?_⟩
      have fm := more (f := fun K => pianolalaw03_divided.f K 1 hHi bLo bHi n (k : Int)) (fun k => (pianolalaw03_divided.mono_l k).1 _ _ _ _ _ _) hK1 (show K1 ≤ K + K1 by omega)
      rw [pianolalaw03_PunchFewest.l0, if_pos (by omega), fm, Option.bind_some, if_neg (by simp), wrap_in (x := (k : Int) + 1) (by omega)]
      exact more (f := fun K => pianolalaw03_PunchFewest.l0 K n [] 20 ((k + 1 : Nat) : Int) lo hi lg na sh 1 hHi bLo bHi 3 (3 + n)) (fun k => (pianolalaw03_PunchFewest.mono_l k).2.1 _ _ _ _ _ _ _ _ _ _ _ _ _ _ _) hK (by omega)
  · have hI := hst hc
    have hrow := rowOk h1 (by omega) h3 h4 (by omega) M 3 hI
    have hlen := rowB_len hHi bLo bHi (3 + n) M 3
    have hM14 : M + 1 ≤ 14 := by
      refine Classical.byContradiction fun hx => ?_
      have hb0 : bHi ≠ 0 := fun e => hc (.inr (.inl ⟨by omega, e⟩))
      have hb1 := hz (by omega)
      have := Int.mul_le_mul_of_nonneg_left hb1 (show (0 : Int) ≤ (M : Int) by omega)
      omega
    have hDM : DV hHi bLo bHi n M := by
      unfold DV
      simp only [Int.add_mul, Int.mul_add, Int.one_mul] at n3
      refine ⟨by omega, by omega, ?_⟩
      by_cases hM0 : M = 0
      · exact .inl hM0
      · exact .inr (by omega)
    have hholds := row_holds hg (a := 3) (b := 3 + n) (by unfold okSlot; simp; omega) hrow (by rw [hlen]; omega) hmo (fun h2' w a b => hbr w (hz (by
      rw [hlen] at h2'
      omega)) a b)
    rw [hbo, if_neg hc]
    intro d
    induction d with
    | zero =>
      intro k hk hk1 hall
      exact absurd (by rw [show M + 1 - 1 = M by omega]; exact hDM) (hall (M + 1) (by omega) (by omega))
    | succ d ih =>
      intro k hk hk1 hall
      by_cases hkM : k = M + 1
      · subst hkM
        obtain ⟨K1, hK1⟩ := (divided_ex h1 (by omega) h3 h4 (by omega) hz M (by omega) n (by omega)).1 hDM
        have hch := codeHolds_eq lo hi lg na sh 3 (3 + n) (rowB hHi bLo bHi (3 + n) M 3)
        rw [hholds] at hch
        have last : ∃ K, pianolalaw03_PunchFewest.l1 K n (rowB hHi bLo bHi (3 + n) M 3) ((M + 1 : Nat) : Int) hHi 1 hHi bLo bHi = some true := by
          cases M with
          | zero =>
            refine ⟨102, ?_⟩
            rw [pianolalaw03_PunchFewest.l1, if_neg (by omega), pianolalaw03_PunchFewest.j4, if_neg (by simp), works_at]
            rfl
          | succ M =>
            have hh := inv_h h1 (by omega) h3 h4 (by omega) hI
            have hv : hOf hHi bLo (3 + n) 3 (M + 1) = min hHi (n - ((M : Int) + 1 + ((M : Int) * bLo + bLo))) := by
              unfold hOf
              rw [show 3 + n - 3 = n by omega, show ((M + 1 : Nat) : Int) = (M : Int) + 1 from rfl, Int.mul_add, Int.mul_one, Int.add_mul, Int.one_mul]
            exact few_l1 h1 h2 h3 h4 h5 hz hn (by omega) (by rw [hlen]) (hOf hHi bLo (3 + n) 3 (M + 1)) (by
              show 3 + hOf hHi bLo (3 + n) 3 (M + 1) - 3 = _
              omega) hv hh.1 (hHi - hOf hHi bLo (3 + n) 3 (M + 1)).toNat hHi (by omega) (by omega)
        obtain ⟨K2, hK2⟩ := last
        obtain ⟨KH, hKH⟩ : ∃ KH, KH = (rowB hHi bLo bHi (3 + n) M 3).length + (rowB hHi bLo bHi (3 + n) M 3).length + (rowB hHi bLo bHi (3 + n) M 3).length + 10 := ⟨_, rfl⟩
        rw [← hKH] at hch
        refine ⟨K1 + K2 + KH + 1 + 1, ?_⟩
        have fm := more (f := fun K => pianolalaw03_divided.f K 1 hHi bLo bHi n ((M + 1 : Nat) : Int)) (fun k => (pianolalaw03_divided.mono_l k).1 _ _ _ _ _ _) hK1 (show K1 ≤ K1 + K2 + KH + 1 by omega)
        have hm := more (f := fun K => punch_Holds.f K lo hi lg na sh 3 (3 + n) (rowB hHi bLo bHi (3 + n) M 3)) (punch_Holds.mono _ _ _ _ _ _ _ _) hch (show KH ≤ K1 + K2 + KH + 1 by omega)
        rw [pianolalaw03_PunchFewest.l0, if_pos (by omega), fm, Option.bind_some, if_pos rfl, if_pos rfl, hlen, if_pos rfl, hm, Option.bind_some, pianolalaw03_PunchFewest.j2, if_neg (by simp)]
        exact more (f := fun K => pianolalaw03_PunchFewest.l1 K n (rowB hHi bLo bHi (3 + n) M 3) ((M + 1 : Nat) : Int) hHi 1 hHi bLo bHi) (fun k => (pianolalaw03_PunchFewest.mono_l k).2.2.2.1 _ _ _ _ _ _ _ _) hK2 (by omega)
      · have hlt : k < M + 1 := by
          rcases Nat.lt_or_ge k (M + 1) with h | h
          · exact h
          · exact absurd (by rw [show M + 1 - 1 = M by omega]; exact hDM) (hall (M + 1) (by omega) (by omega))
        have hnd : ¬ DV hHi bLo bHi n (k - 1) := fun h => by have := (key k hk1 (by omega) h).1; omega
        obtain ⟨K1, hK1⟩ := (divided_ex h1 (by omega) h3 h4 (by omega) hz (k - 1) (by omega) n (by omega)).2 hnd
        rw [show k - 1 + 1 = k by omega] at hK1
        obtain ⟨K, hK⟩ := ih (k + 1) (by omega) (by omega) (fun k' a b => by
          rcases Nat.lt_or_ge k' k with h | h
          · exact hall k' a h
          · obtain rfl : k' = k := by omega
            exact hnd)
        refine ⟨K + K1 + 1, ?_⟩
        have fm := more (f := fun K => pianolalaw03_divided.f K 1 hHi bLo bHi n (k : Int)) (fun k => (pianolalaw03_divided.mono_l k).1 _ _ _ _ _ _) hK1 (show K1 ≤ K + K1 by omega)
        rw [pianolalaw03_PunchFewest.l0, if_pos (by omega), fm, Option.bind_some, if_neg (by simp), wrap_in (x := (k : Int) + 1) (by omega)]
        exact more (f := fun K => pianolalaw03_PunchFewest.l0 K n (rowB hHi bLo bHi (3 + n) M 3) 0 ((k + 1 : Nat) : Int) lo hi lg na sh 1 hHi bLo bHi 3 (3 + n)) (fun k => (pianolalaw03_PunchFewest.mono_l k).2.1 _ _ _ _ _ _ _ _ _ _ _ _ _ _ _) hK (by omega)
end
theorem punchFewest_pure {a b c e f x : Int} (ha : (Lit.int .u8 a).wf = true) (hb : (Lit.int .u8 b).wf = true) (hc : (Lit.int .u8 c).wf = true) (he : (Lit.int .u8 e).wf = true) (hf : (Lit.int .u8 f).wf = true) (hx : (Lit.int .u8 x).wf = true) : ∃ k, pianolalaw03_PunchFewest.f k a b c e f x = some true := by
  have a' := u8_bd ha
  have b' := u8_bd hb
  have c' := u8_bd hc
  have e' := u8_bd he
  have f' := u8_bd hf
  have x' := u8_bd hx
  obtain ⟨lo, hi, lg, na, sh, hmade, hg, q1, q2, q3, q4⟩ := sheet_ex a'.1 b'.1 c'.1 e'.1 f'.1 a'.2 b'.2 c'.2 e'.2 f'.2
  have g := good_facts hg
  obtain ⟨d1, d2, d3⟩ := div_facts g
  obtain ⟨b1, b2, b3, b4⟩ := bars_bounds g d1 d2 d3
  have hB : punch_Bars.f lo hi lg na sh = some (if 1000 * lg / hi < 1 then (0, 0, 0, 0, 20) else if (1000 * sh - 1) / hi < (1000 * na + lo - 1) / lo then (1, 1000 * lg / hi, 0, 0, 0) else (1, 1000 * lg / hi, (1000 * na + lo - 1) / lo, (1000 * sh - 1) / hi, 0)) := by
    unfold punch_Bars.f
    rw [hg, if_pos rfl]
    split
    · rfl
    · split <;> rfl
  generalize 1000 * lg / hi = mo at *
  generalize (1000 * na + lo - 1) / lo = nl at *
  generalize (1000 * sh - 1) / hi = nh at *
  have mo20 : mo ≤ 20 := by
    have := d1 21
    have m := Int.mul_le_mul_of_nonneg_left (show 900 ≤ hi by omega) (show (0 : Int) ≤ 21 by omega)
    omega
  have nh20 : nh ≤ 20 := by
    have := d3 21
    have m := Int.mul_le_mul_of_nonneg_left (show 900 ≤ hi by omega) (show (0 : Int) ≤ 21 by omega)
    omega
  have tn := tmod_bdd (x := x) (m := 26) x'.1 (by omega)
  have rest : ∀ bLo bHi : Int, 1 ≤ mo → ((bLo = 0 ∧ bHi = 0) ∨ (bLo = nl ∧ bHi = nh ∧ nl ≤ nh)) → punch_Bars.f lo hi lg na sh = some (1, mo, bLo, bHi, 0) → ∃ k, pianolalaw03_PunchFewest.f k a b c e f x = some true := by
    intro bLo bHi hmo1 hcase hB'
    have k3 : 0 ≤ bLo := by omega
    have k4 : bLo ≤ bHi := by omega
    have k5 : bHi ≤ 20 := by omega
    obtain ⟨K, hK⟩ := few_l0 (n := 1 + Int.tmod x 26) hg hmo1 mo20 k3 k4 k5 (by omega) (fun n hn => (d1 n).1 hn) (fun n u v w => by
      rcases hcase with ⟨p1, p2⟩ | ⟨p1, p2, p3⟩
      · omega
      · subst p1 p2
        exact ⟨(d2 n).1 v, (d3 n).1 w⟩) (by omega) 14 1 (by omega) (by omega) (fun k' p q => by omega)
    have hcb := codeBridge_eq (a := 3) (b := 3 + (1 + Int.tmod x 26)) hB' (fun _ => by omega) (k := K + 300) (by omega)
    have hbe : bridgeE mo bLo bHi 0 3 (3 + (1 + Int.tmod x 26)) = bridgeOf mo bLo bHi 3 (3 + (1 + Int.tmod x 26)) := by
      unfold bridgeE
      rw [if_pos rfl, if_pos (by unfold okSlot; simp; omega), if_neg (by omega)]
    rw [hbe] at hcb
    refine ⟨K + 300 + 1, ?_⟩
    unfold pianolalaw03_PunchFewest.f
    rw [hmade, Option.bind_some]
    dsimp only
    rw [hB', Option.bind_some]
    dsimp only
    rw [if_pos rfl, if_pos rfl, if_neg (by omega), if_neg (by omega), decide_eq_false (by omega), pianolalaw03_PunchFewest.j0, if_neg (by simp), wrap_in (x := x) (by omega), wrap_in (x := 1 + Int.tmod x 26) (by omega), wrap_in (x := 3 + (1 + Int.tmod x 26)) (by omega), hcb, Option.bind_some]
    exact more (f := fun K => pianolalaw03_PunchFewest.l0 K (1 + Int.tmod x 26) (bridgeOf mo bLo bHi 3 (3 + (1 + Int.tmod x 26))).1 (bridgeOf mo bLo bHi 3 (3 + (1 + Int.tmod x 26))).2 ((1 : Nat) : Int) lo hi lg na sh 1 mo bLo bHi 3 (3 + (1 + Int.tmod x 26))) (fun k => (pianolalaw03_PunchFewest.mono_l k).2.1 _ _ _ _ _ _ _ _ _ _ _ _ _ _ _) hK (by omega)
  by_cases c1 : mo < 1
  · rw [if_pos c1] at hB
    refine ⟨100, ?_⟩
    unfold pianolalaw03_PunchFewest.f
    rw [hmade, Option.bind_some]
    dsimp only
    rw [hB, Option.bind_some]
    dsimp only
    rw [if_neg (by omega), if_pos rfl, works_at]
    rfl
  · rw [if_neg c1] at hB
    by_cases c2 : nh < nl
    · rw [if_pos c2] at hB
      exact rest 0 0 (by omega) (.inl ⟨rfl, rfl⟩) hB
    · rw [if_neg c2] at hB
      exact rest nl nh (by omega) (.inr ⟨rfl, rfl, by omega⟩) hB
end Go.Proofs.Ytaaonhfaoaabbaa.X
