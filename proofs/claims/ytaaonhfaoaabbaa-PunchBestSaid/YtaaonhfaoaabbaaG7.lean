/- Lanes, near, good, fewest told plainly. -/
import Derived.Test.YtaaonhfaoaabbaaXx25
import Derived.Test.YtaaonhfaoaabbaaG0
import Derived.Test.YtaaonhfaoaabbaaG6
import Derived.Test.YtaaonhfaoaabbaaG15
import Derived.OpenShut
namespace Go.Proofs.Ytaaonhfaoaabbaa.X
open Go.RowKit Go.Proofs.YtaaonhfaoaabbaaW.PrintWords Go.Proofs.YtaaonhfaoaabbaaW.PrintLast
/-- Some two of the first slots, from the i-th on, that clash have one number. -/
def BadUp (rest : Int) (l : List S47) (p : List Int) (i : Nat) : Prop := ∃ i' j', i ≤ i' ∧ i' < p.length ∧ j' < i' ∧ rd p (i' : Int) = rd p (j' : Int) ∧ clashB rest (rd_T47 l (i' : Int)) (rd_T47 l (j' : Int)) = true
/-- All slots are small. -/
def Small (rest : Int) (l : List S47) : Prop := 0 ≤ rest ∧ ∀ s ∈ l, 0 ≤ s.f0 ∧ s.f0 < s.f1 ∧ s.f1 + rest ≤ 80
theorem LaneOk.small {rest : Int} {j : List S47} (h : LaneOk rest j) : Small rest j := ⟨h.r0, fun s hs => by have h1 := h.slots s hs; have h2 := h.r1; omega⟩
section
variable {rest : Int} {l : List S47} {p : List Int} (h : Small rest l) (hlen : p.length ≤ l.length) (hl : l.length ≤ 1000)
include h hlen hl
theorem good_l1 (i : Nat) (hi : i < p.length) (r : Bool) (hr : ∃ k, pianolalaw03_good.l0 k p (p.length : Int) ((i + 1 : Nat) : Int) rest l = some r) : ∀ (d j : Nat), j + d = i →
    ((∃ j', j ≤ j' ∧ j' < i ∧ rd p (i : Int) = rd p (j' : Int) ∧ clashB rest (rd_T47 l (i : Int)) (rd_T47 l (j' : Int)) = true) → ∃ k, pianolalaw03_good.l1 k p i j (p.length : Int) i rest l = some false) ∧
    ((¬ ∃ j', j ≤ j' ∧ j' < i ∧ rd p (i : Int) = rd p (j' : Int) ∧ clashB rest (rd_T47 l (i : Int)) (rd_T47 l (j' : Int)) = true) → ∃ k, pianolalaw03_good.l1 k p i j (p.length : Int) i rest l = some r)
  | 0, j, hd => by
    refine ⟨fun ⟨j', h1, h2, _⟩ => by omega, fun _ => ?_⟩
    obtain ⟨k, hk⟩ := hr
    refine ⟨k + 1, ?_⟩
    rw [pianolalaw03_good.l1, if_neg (by omega), wrap_in (by omega)]
    exact hk
  | d + 1, j, hd => by
    have hji : j < i := by omega
    obtain ⟨ih1, ih2⟩ := good_l1 i hi r hr d (j + 1) (by omega)
    have hmem : ∀ a : Nat, a < l.length → rd_T47 l (a : Int) ∈ l := fun a ha => by rw [rd_get ha]; exact List.getElem_mem ha
    have hcl : ∀ k, 81 ≤ k → _ := fun k hk => near_eq h.1 (h.2 _ (hmem i (by omega))) (h.2 _ (hmem j (by omega))) hk
    have step : ∀ k, 81 ≤ k → pianolalaw03_good.l1 (k + 1) p i j (p.length : Int) i rest l = if rd p (i : Int) = rd p (j : Int) then (if clashB rest (rd_T47 l (i : Int)) (rd_T47 l (j : Int)) = true then some false else pianolalaw03_good.l1 k p i ((j + 1 : Nat) : Int) (p.length : Int) i rest l) else pianolalaw03_good.l1 k p i ((j + 1 : Nat) : Int) (p.length : Int) i rest l := by
      intro k hk
      rw [pianolalaw03_good.l1, if_pos (by omega), if_pos (by omega), if_pos (by omega), if_pos (by omega), if_pos (by omega), wrap_in (x := (j : Int) + 1) (by omega)]
      by_cases he : rd p (i : Int) = rd p (j : Int)
      · rw [if_pos he, if_pos he, if_pos (by omega), if_pos (by omega), hcl k hk, Option.bind_some]
        rfl
      · rw [if_neg he, if_neg he]
        rfl
    have up : ∀ {k v}, pianolalaw03_good.l1 k p i ((j + 1 : Nat) : Int) (p.length : Int) i rest l = some v → pianolalaw03_good.l1 (k + 81) p i ((j + 1 : Nat) : Int) (p.length : Int) i rest l = some v := fun hk =>
      more (f := fun k => pianolalaw03_good.l1 k p i ((j + 1 : Nat) : Int) (p.length : Int) i rest l) (fun k => (pianolalaw03_good.mono_l k).2 _ _ _ _ _ _ _) hk (by omega)
    by_cases he : rd p (i : Int) = rd p (j : Int) ∧ clashB rest (rd_T47 l (i : Int)) (rd_T47 l (j : Int)) = true
    · refine ⟨fun _ => ⟨82, by rw [step 81 (by omega), if_pos he.1, if_pos he.2]⟩, fun hn => absurd ⟨j, Nat.le_refl _, hji, he.1, he.2⟩ hn⟩
    · have step' : ∀ k, 81 ≤ k → pianolalaw03_good.l1 (k + 1) p i j (p.length : Int) i rest l = pianolalaw03_good.l1 k p i ((j + 1 : Nat) : Int) (p.length : Int) i rest l := by
        intro k hk
        rw [step k hk]
        by_cases h1 : rd p (i : Int) = rd p (j : Int)
        · rw [if_pos h1, if_neg (fun h2 => he ⟨h1, h2⟩)]
        · rw [if_neg h1]
      refine ⟨fun ⟨j', h1, h2, h3⟩ => ?_, fun hn => ?_⟩
      · have h4 : j + 1 ≤ j' := by
          rcases Nat.lt_or_ge j j' with h4 | h4
          · exact h4
          · obtain rfl : j' = j := by omega
            exact absurd h3 he
        obtain ⟨k, hk⟩ := ih1 ⟨j', h4, h2, h3⟩
        exact ⟨k + 81 + 1, by rw [step' _ (by omega)]; exact up hk⟩
      · obtain ⟨k, hk⟩ := ih2 (fun ⟨j', h1, h2, h3⟩ => hn ⟨j', by omega, h2, h3⟩)
        exact ⟨k + 81 + 1, by rw [step' _ (by omega)]; exact up hk⟩
theorem good_l0 : ∀ (d i : Nat), i + d = p.length → (BadUp rest l p i → ∃ k, pianolalaw03_good.l0 k p (p.length : Int) i rest l = some false) ∧ (¬ BadUp rest l p i → ∃ k, pianolalaw03_good.l0 k p (p.length : Int) i rest l = some true)
  | 0, i, hd => by
    refine ⟨fun ⟨i', j', h1, h2, _⟩ => by omega, fun _ => ⟨1, ?_⟩⟩
    rw [pianolalaw03_good.l0, if_neg (by omega)]
  | d + 1, i, hd => by
    have hi : i < p.length := by omega
    obtain ⟨ih1, ih2⟩ := good_l0 d (i + 1) (by omega)
    have split : BadUp rest l p i ↔ (BadUp rest l p (i + 1) ∨ ∃ j', 0 ≤ j' ∧ j' < i ∧ rd p (i : Int) = rd p (j' : Int) ∧ clashB rest (rd_T47 l (i : Int)) (rd_T47 l (j' : Int)) = true) := by
      constructor
      · rintro ⟨i', j', h1, h2, h3, h4⟩
        rcases Nat.lt_or_ge i i' with h5 | h5
        · exact .inl ⟨i', j', h5, h2, h3, h4⟩
        · obtain rfl : i' = i := by omega
          exact .inr ⟨j', Nat.zero_le _, h3, h4⟩
      · rintro (⟨i', j', h1, h2, h3, h4⟩ | ⟨j', _, h3, h4⟩)
        · exact ⟨i', j', by omega, h2, h3, h4⟩
        · exact ⟨i, j', Nat.le_refl _, hi, h3, h4⟩
    have st : ∀ k, pianolalaw03_good.l0 (k + 1) p (p.length : Int) i rest l = pianolalaw03_good.l1 k p i ((0 : Nat) : Int) (p.length : Int) i rest l := fun k => by
      rw [pianolalaw03_good.l0, if_pos (by omega)]
      rfl
    have lift : ∀ r, (∃ k, pianolalaw03_good.l1 k p i ((0 : Nat) : Int) (p.length : Int) i rest l = some r) → ∃ k, pianolalaw03_good.l0 k p (p.length : Int) i rest l = some r := fun r ⟨k, hk⟩ => ⟨k + 1, by rw [st]; exact hk⟩
    by_cases hrow : ∃ j', 0 ≤ j' ∧ j' < i ∧ rd p (i : Int) = rd p (j' : Int) ∧ clashB rest (rd_T47 l (i : Int)) (rd_T47 l (j' : Int)) = true
    · refine ⟨fun _ => lift _ ?_, fun hn => absurd (split.2 (.inr hrow)) hn⟩
      by_cases hb : BadUp rest l p (i + 1)
      · exact (good_l1 h hlen hl i hi _ (ih1 hb) i 0 (by omega)).1 hrow
      · exact (good_l1 h hlen hl i hi _ (ih2 hb) i 0 (by omega)).1 hrow
    · refine ⟨fun hb => lift _ ?_, fun hn => lift _ ?_⟩
      · rcases split.1 hb with hb | hb
        · exact (good_l1 h hlen hl i hi _ (ih1 hb) i 0 (by omega)).2 hrow
        · exact absurd hb hrow
      · exact (good_l1 h hlen hl i hi _ (ih2 (fun hb => hn (split.2 (.inl hb)))) i 0 (by omega)).2 hrow
theorem good_ex : (BadUp rest l p 0 → ∃ k, pianolalaw03_good.f k rest l p = some false) ∧ (¬ BadUp rest l p 0 → ∃ k, pianolalaw03_good.f k rest l p = some true) := good_l0 h hlen hl p.length 0 (by omega)
end
theorem badUp_iff {rest : Int} {l : List S47} {p : List Int} (h : p.length = l.length) : BadUp rest l p 0 ↔ badPair rest l p = true := by
  have e : badPair rest l p = true ↔ ¬ badPair rest l p = false := by simp
  rw [e, noBad_iff]
  have rdp : ∀ i : Nat, rd p (i : Int) = p.getD i 0 := fun i => by simp [rd]
  have rdl : ∀ i : Nat, rd_T47 l (i : Int) = l.getD i z47 := fun i => by simp [rd_T47]
  unfold BadUp
  constructor
  · rintro ⟨i, j, _, hi, hj, h1, h2⟩ hn
    rw [rdp, rdp] at h1
    rw [rdl, rdl] at h2
    exact hn i (by omega) j hj ⟨h1.symm, by rw [clashB_iff] at h2 ⊢; exact ⟨h2.2, h2.1⟩⟩
  · intro hn
    refine Classical.byContradiction fun hx => hn fun i hi k hk hc => hx ⟨i, k, Nat.zero_le _, by omega, hk, ?_, ?_⟩
    · rw [rdp, rdp]; exact hc.1.symm
    · rw [rdl, rdl, clashB_iff]
      have := clashB_iff.1 hc.2
      exact ⟨this.2, this.1⟩
/-! ### fewest -/
theorem badUp_pre {rest : Int} {l : List S47} {c : List Int} (hc : badPair rest l c = false) (hl : c.length = l.length) (m : Nat) : ¬ BadUp rest l (c.take m) 0 := by
  rintro ⟨i, j, _, hi, hj, h1, h2⟩
  rw [List.length_take] at hi
  have rdp : ∀ i : Nat, i < m → rd (c.take m) (i : Int) = c.getD i 0 := fun i h => by simp [rd, h]
  have rdl : ∀ i : Nat, rd_T47 l (i : Int) = l.getD i z47 := fun i => by simp [rd_T47]
  rw [rdp i (by omega), rdp j (by omega)] at h1
  rw [rdl, rdl] at h2
  exact noBad_iff.1 hc i (by omega) j hj ⟨h1.symm, by rw [clashB_iff] at h2 ⊢; exact ⟨h2.2, h2.1⟩⟩
/-- A plan can be continued with passes below n. -/
def Ext (rest : Int) (l : List S47) (p : List Int) (n : Int) : Prop := ∃ c : List Int, c.length = l.length ∧ c.take p.length = p ∧ (∀ x ∈ c, 0 ≤ x ∧ x < n) ∧ badPair rest l c = false
def swp (a b x : Int) : Int := if x = a then b else if x = b then a else x
theorem swp_inj {a b x y : Int} (h : swp a b x = swp a b y) : x = y := by
  unfold swp at h
  split at h <;> split at h <;> (try split at h) <;> (try split at h) <;> omega
theorem passesN_snoc (p : List Int) (q : Int) : passesN (p ++ [q]) = max (passesN p) (q + 1) := by unfold passesN; rw [List.foldl_append]; rfl
theorem take_snocD {c : List Int} {m : Nat} (h : m < c.length) : c.take (m + 1) = c.take m ++ [c.getD m 0] := by
  rw [List.take_succ_eq_append_getElem h]
  simp [List.getD_eq_getElem?_getD, h]
/-- A plan that can be continued can be continued by a number that is used or by the next one. -/
theorem ext_next {rest : Int} {l : List S47} {p : List Int} {n : Int} (he : Ext rest l p n) (hp : p.length < l.length) : ∃ q : Nat, (q : Int) ≤ passesN p ∧ ¬ BadUp rest l (p ++ [(q : Int)]) 0 ∧ Ext rest l (p ++ [(q : Int)]) n ∧ (q : Int) < n := by
  obtain ⟨c, hc1, hc2, hc3, hc4⟩ := he
  have hm : p.length < c.length := by omega
  obtain ⟨a, ha⟩ : ∃ a, a = c.getD p.length 0 := ⟨_, rfl⟩
  have hab := hc3 a (by rw [ha]; exact getD_memI hm)
  have hpre := take_snocD hm
  rw [hc2, ← ha] at hpre
  by_cases h : a ≤ passesN p
  · refine ⟨a.toNat, by omega, ?_, ⟨c, hc1, ?_, hc3, hc4⟩, by omega⟩
    · rw [show (a.toNat : Int) = a by omega, ← hpre]
      exact badUp_pre hc4 hc1 _
    · rw [show (a.toNat : Int) = a by omega, List.length_append, List.length_singleton, hpre]
  · obtain ⟨b, hb⟩ : ∃ b, b = passesN p := ⟨_, rfl⟩
    have hb0 := passesN_nonneg p
    obtain ⟨c', hc'⟩ : ∃ c', c' = c.map (swp a b) := ⟨_, rfl⟩
    have hlen : c'.length = l.length := by rw [hc', List.length_map]; exact hc1
    have hbad : badPair rest l c' = false := by
      rw [noBad_iff]
      intro i hi k hk hx
      have e : ∀ j, j < c.length → c'.getD j 0 = swp a b (c.getD j 0) := fun j hj => by rw [hc']; simp [hj]
      rw [e i (by omega), e k (by omega)] at hx
      exact noBad_iff.1 hc4 i hi k hk ⟨swp_inj hx.1, hx.2⟩
    have htake : c'.take p.length = p := by
      rw [hc', ← List.map_take, hc2]
      have : p.map (swp a b) = p.map id := List.map_congr_left fun x hx => by
        have := passesN_ge hx
        unfold swp
        rw [if_neg (by omega), if_neg (by omega)]
        rfl
      rw [this, List.map_id]
    have hat : c'.getD p.length 0 = b := by
      have e : c'.getD p.length 0 = swp a b (c.getD p.length 0) := by rw [hc']; simp [hm]
      rw [e, ← ha]
      unfold swp
      rw [if_pos rfl]
    have hpre' := take_snocD (c := c') (m := p.length) (by omega)
    rw [htake, hat] at hpre'
    have hbn : ((passesN p).toNat : Int) = b := by omega
    refine ⟨(passesN p).toNat, by omega, ?_, ⟨c', hlen, ?_, ?_, hbad⟩, by omega⟩
    · rw [hbn, ← hpre']
      exact badUp_pre hbad hlen _
    · rw [hbn, List.length_append, List.length_singleton, hpre']
    · intro x hx
      rw [hc'] at hx
      obtain ⟨y, hy, rfl⟩ := List.mem_map.1 hx
      have := hc3 y hy
      unfold swp
      split
      · omega
      · split <;> omega
theorem mn_min' (a b : Int) : mn a b = min a b := by unfold mn; omega
/-- What the search comes to. -/
def Fews (rest : Int) (l : List S47) (n : Int) (p : List Int) : Prop := ∃ k r, pianolalaw03_fewest.f k rest l p (passesN p) = some r ∧ n ≤ r ∧ (Ext rest l p n → r ≤ n)
section
variable {rest : Int} {l : List S47} {n : Int} (h : Small rest l) (hl : l.length ≤ 1000) (hn0 : 0 ≤ n) (hn : ∀ c : List Int, c.length = l.length → (∀ x ∈ c, 0 ≤ x) → badPair rest l c = false → n ≤ passesN c) (hnl : n ≤ (l.length : Int))
include h hl hn0 hn hnl
theorem few_loop {p : List Int} (hp : p.length < l.length) (hu : passesN p ≤ (p.length : Int)) (ih : ∀ q : Nat, (q : Int) ≤ passesN p → ¬ BadUp rest l (p ++ [(q : Int)]) 0 → Fews rest l n (p ++ [(q : Int)])) : ∀ (d q : Nat) (best : Int), (q : Int) + d = passesN p + 1 → n ≤ best →
    ∃ k r, pianolalaw03_fewest.l0 k p (passesN p) best q rest l = some r ∧ n ≤ r ∧ r ≤ best ∧ ∀ q' : Nat, q ≤ q' → (q' : Int) ≤ passesN p → ¬ BadUp rest l (p ++ [(q' : Int)]) 0 → Ext rest l (p ++ [(q' : Int)]) n → (q' : Int) < n → r ≤ n
  | 0, q, best, hd, hb => by
    have _ := hn0; have _ := hn; have _ := hnl
    refine ⟨2, best, ?_, hb, Int.le_refl _, fun q' h1 h2 => by omega⟩
    rw [pianolalaw03_fewest.l0, if_neg (by omega), pianolalaw03_fewest.j1, if_neg (by simp)]
  | d + 1, q, best, hd, hb => by
    by_cases hqb : (q : Int) < best
    · have hlen : (p ++ [(q : Int)]).length ≤ l.length := by simp; omega
      have st : ∀ k, pianolalaw03_fewest.l0 (k + 2) p (passesN p) best q rest l = (pianolalaw03_good.f k rest l (p ++ [(q : Int)])).bind fun t => if t = true then ((pianolalaw03_fewest.f k rest l (p ++ [(q : Int)]) (passesN (p ++ [(q : Int)]))).bind fun t5 => pianolalaw03_fewest.l0 k p (passesN p) (min best t5) ((q + 1 : Nat) : Int) rest l) else pianolalaw03_fewest.l0 k p (passesN p) best ((q + 1 : Nat) : Int) rest l := by
        intro k
        rw [pianolalaw03_fewest.l0, if_pos (by omega), decide_eq_true hqb, pianolalaw03_fewest.j1, if_pos rfl]
        simp only [Option.bind_some, List.nil_append]
        rw [if_pos (by simp; omega), if_pos (by omega), wrap_in (x := (q : Int) + 1) (by omega), passesN_snoc, mx_max]
        simp only [mn_min']
        rfl
      have gm : ∀ {k v K}, pianolalaw03_good.f k rest l (p ++ [(q : Int)]) = some v → k ≤ K → pianolalaw03_good.f K rest l (p ++ [(q : Int)]) = some v := fun hk hK => more (f := fun k => pianolalaw03_good.f k rest l (p ++ [(q : Int)])) (pianolalaw03_good.mono _ _ _) hk hK
      have lm : ∀ {k v K b q}, pianolalaw03_fewest.l0 k p (passesN p) b q rest l = some v → k ≤ K → pianolalaw03_fewest.l0 K p (passesN p) b q rest l = some v := fun {k v K b q} hk hK => more (f := fun k => pianolalaw03_fewest.l0 k p (passesN p) b q rest l) (fun k => (pianolalaw03_fewest.mono_l k).2.1 _ _ _ _ _ _) hk hK
      have fm : ∀ {k v K}, pianolalaw03_fewest.f k rest l (p ++ [(q : Int)]) (passesN (p ++ [(q : Int)])) = some v → k ≤ K → pianolalaw03_fewest.f K rest l (p ++ [(q : Int)]) (passesN (p ++ [(q : Int)])) = some v := fun hk hK => more (f := fun k => pianolalaw03_fewest.f k rest l (p ++ [(q : Int)]) (passesN (p ++ [(q : Int)]))) (fun k => (pianolalaw03_fewest.mono_l k).1 _ _ _ _) hk hK
      obtain ⟨g1, g2⟩ := good_ex h hlen hl
      by_cases hg : BadUp rest l (p ++ [(q : Int)]) 0
      · obtain ⟨k1, hk1⟩ := g1 hg
        obtain ⟨k2, r, hk2, r1, r2, r3⟩ := few_loop hp hu ih d (q + 1) best (by omega) hb
        refine ⟨k1 + k2 + 2, r, ?_, r1, r2, fun q' h1 h2 h3 h4 h5 => ?_⟩
        · rw [st, gm hk1 (by omega), Option.bind_some, if_neg (by simp)]
          exact lm hk2 (by omega)
        · rcases Nat.lt_or_ge q q' with h6 | h6
          · exact r3 q' h6 h2 h3 h4 h5
          · obtain rfl : q' = q := by omega
            exact absurd hg h3
      · obtain ⟨k1, hk1⟩ := g2 hg
        obtain ⟨k3, t, hk3, t1, t2⟩ := ih q (by omega) hg
        obtain ⟨k2, r, hk2, r1, r2, r3⟩ := few_loop hp hu ih d (q + 1) (min best t) (by omega) (by omega)
        refine ⟨k1 + k2 + k3 + 2, r, ?_, r1, by omega, fun q' h1 h2 h3 h4 h5 => ?_⟩
        · rw [st, gm hk1 (by omega), Option.bind_some, if_pos rfl, fm hk3 (by omega), Option.bind_some]
          exact lm hk2 (by omega)
        · rcases Nat.lt_or_ge q q' with h6 | h6
          · exact r3 q' h6 h2 h3 h4 h5
          · obtain rfl : q' = q := by omega
            have := t2 h4
            omega
    · refine ⟨2, best, ?_, hb, Int.le_refl _, fun q' h1 h2 h3 h4 h5 => by omega⟩
      rw [pianolalaw03_fewest.l0]
      by_cases hq : (q : Int) ≤ passesN p
      · rw [if_pos hq, decide_eq_false hqb, pianolalaw03_fewest.j1, if_neg (by simp)]
      · rw [if_neg hq, pianolalaw03_fewest.j1, if_neg (by simp)]
theorem few_all : ∀ (d : Nat) (p : List Int), p.length + d = l.length → passesN p ≤ (p.length : Int) → (∀ x ∈ p, 0 ≤ x) → ¬ BadUp rest l p 0 → Fews rest l n p
  | 0, p, hd, hu, hx, hb => by
    refine ⟨1, passesN p, ?_, ?_, fun ⟨c, c1, c2, c3, c4⟩ => ?_⟩
    · rw [pianolalaw03_fewest.f, if_pos (by omega)]
    · refine hn p (by omega) hx ?_
      cases hc : badPair rest l p with
      | false => rfl
      | true => exact absurd ((badUp_iff (by omega)).2 hc) hb
    · rw [List.take_of_length_le (by omega)] at c2
      subst c2
      exact passesN_le hn0 fun x hx => by have := c3 x hx; omega
  | d + 1, p, hd, hu, hx, hb => by
    have hp0 := passesN_nonneg p
    obtain ⟨k, r, hk, r1, r2, r3⟩ := few_loop h hl hn0 hn hnl (p := p) (by omega) hu (fun q hq hg => few_all d (p ++ [(q : Int)]) (by simp; omega) (by rw [passesN_snoc]; simp; omega) (fun x hx' => by
      rcases List.mem_append.1 hx' with h1 | h1
      · exact hx x h1
      · obtain rfl : x = (q : Int) := by simpa using h1
        omega) hg) (passesN p + 1).toNat 0 (l.length : Int) (by omega) hnl
    refine ⟨k + 1, r, ?_, r1, fun he => ?_⟩
    · rw [pianolalaw03_fewest.f, if_neg (by omega)]
      exact hk
    · obtain ⟨q, q1, q2, q3, q4⟩ := ext_next he (by omega)
      exact r3 q (Nat.zero_le _) q1 q2 q3 q4
end
/-! ### the law -/
theorem fewest_most {rest : Int} {l : List S47} (hL : LaneOk rest l) : ∃ k, pianolalaw03_fewest.f k rest l [] 0 = some (mostN rest l) := by
  have hc := hL.check
  obtain ⟨p1, p2, p3⟩ := plan_facts hc
  have hpm := passes_most hc
  have hnonneg : ∀ x ∈ planOf rest l, 0 ≤ x := fun x hx => by
    obtain ⟨i, hi, rfl⟩ := mem_getD hx
    exact (p2 i (by omega)).1
  have hnl : mostN rest l ≤ (l.length : Int) := by
    rcases mostN_at rest l with h0 | ⟨s, hs, h0⟩
    · omega
    · rw [h0, crowdN_idx]
      have : (idx rest l s.f0).length ≤ (List.range l.length).length := List.length_filter_le _ _
      rw [List.length_range] at this
      omega
  have hlen := hL.len
  obtain ⟨k, r, hk, r1, r2⟩ := few_all (rest := rest) (l := l) (n := mostN rest l) hL.small (by omega) (mostN_nonneg _ _) (fun c c1 c2 c3 => by
    rcases mostN_at rest l with h0 | ⟨s, hs, h0⟩
    · rw [h0]; exact passesN_nonneg c
    · rw [h0]; exact crowdN_le c1 c2 c3 _) hnl l.length [] (by simp) (by simp [passesN]) (by simp) (by rintro ⟨i, j, _, hi, _⟩; simp at hi)
  have := r2 ⟨planOf rest l, p1, by simp, fun x hx => ⟨hnonneg x hx, by have := passesN_ge hx; omega⟩, p3⟩
  obtain rfl : r = mostN rest l := by omega
  exact ⟨k, hk⟩
theorem planE_plan {rest : Int} {l : List S47} (hc : checkE rest l = 0) : planE rest l (planOf rest l) = 0 := by
  obtain ⟨p1, p2, p3⟩ := plan_facts hc
  obtain ⟨r0, r1, hl, hok⟩ := check_ok hc
  unfold planE
  rw [if_pos hc, if_neg (by simpa using p1), if_pos ?_, p3]
  · rfl
  · rw [List.all_eq_true]
    intro x hx
    obtain ⟨i, hi, rfl⟩ := mem_getD hx
    have h1 := p2 i (by omega)
    have h2 : crowdN rest l (l.getD i z47).f0 ≤ (l.length : Int) := by
      rw [crowdN_idx]
      have : (idx rest l (l.getD i z47).f0).length ≤ (List.range l.length).length := List.length_filter_le _ _
      rw [List.length_range] at this
      omega
    simp only [Bool.and_eq_true, decide_eq_true_eq]
    omega
theorem crowdOf_length (rest : Int) (l : List S47) (m : Int) : ((crowdOf rest l m).length : Int) = crowdN rest l m := by
  rw [crowdN_idx, crowdOf_idx, List.length_map]
theorem best_l0 {rest : Int} {l : List S47} (hL : LaneOk rest l) (hne : l ≠ []) : ∀ (d t : Nat), t + d = 70 → pianolalaw03_PunchBest.l0 (d + 101) (mostN rest l) (momentOf rest l) t rest l = some true
  | 0, t, hd => by
    obtain ⟨s, hs, h1, h2⟩ := moment_at hL.check hne
    have hb := hL.slots s hs
    rw [show 0 + 101 = 100 + 1 from rfl, pianolalaw03_PunchBest.l0, if_neg (by omega), if_pos (by omega), if_pos (by omega), works_at]
    rfl
  | d + 1, t, hd => by
    have ih := best_l0 hL hne d (t + 1) (by omega)
    have hc := hL.check
    obtain ⟨s, hs, h1, h2⟩ := moment_at hc hne
    have h3 := crowdN_most hc (t : Int)
    have h4 := fun h => moment_first hc hne (t := (t : Int)) h
    have hcr : punch_Crowd.f rest l (t : Int) = some (crowdOf rest l t, 0) := by unfold punch_Crowd.f; rw [if_pos hc]
    rw [show d + 1 + 101 = (d + 101) + 1 from rfl, pianolalaw03_PunchBest.l0, if_pos (by omega), hcr, Option.bind_some, crowdOf_length, if_pos rfl, if_neg (by omega), wrap_in (x := (t : Int) + 1) (by omega), show (t : Int) + 1 = ((t + 1 : Nat) : Int) from rfl]
    by_cases e : crowdN rest l (t : Int) = mostN rest l
    · have := h4 e
      rw [if_pos e, if_neg (by omega), ih]
      split <;> rfl
    · rw [if_neg e, if_neg (by intro h5; rw [h5, h1] at e; exact e h2), ih]
theorem punchBest_pure {rest : Int} {l : List S82} (hw : (Lit.int .u8 rest).wf = true) (hq : ∀ q ∈ l, (Lit.int .u8 q.f0).wf = true ∧ (Lit.int .u8 q.f1).wf = true) : ∃ k, pianolalaw03_PunchBest.f k rest l = some true := by
  obtain ⟨r', j, hL, hmade⟩ := lane_ex hw hq
  have hc := hL.check
  have hlen := hL.len
  obtain ⟨p1, p2, p3⟩ := plan_facts hc
  obtain ⟨k1, hk1⟩ := (good_ex hL.small (p := planOf r' j) (by omega) (by omega)).2 (by rw [badUp_iff p1, p3]; simp)
  obtain ⟨k2, hk2⟩ := fewest_most hL
  have hpass : punch_Passes.f r' j = some (planOf r' j, mostN r' j, 0) := by unfold punch_Passes.f; rw [if_pos hc, if_pos (by omega), passes_most hc]
  have hver : punch_Verify.f r' j (planOf r' j) = some (mostN r' j, 0) := by unfold punch_Verify.f; rw [if_pos (planE_plan hc), passes_most hc]
  refine ⟨k1 + k2 + 171 + 1, ?_⟩
  have gk := more (f := fun k => pianolalaw03_good.f k r' j (planOf r' j)) (pianolalaw03_good.mono _ _ _) hk1 (show k1 ≤ k1 + k2 + 171 + 1 by omega)
  have fk := more (f := fun k => pianolalaw03_fewest.f k r' j [] 0) (fun k => (pianolalaw03_fewest.mono_l k).1 _ _ _ _) hk2 (show k2 ≤ k1 + k2 + 171 + 1 by omega)
  unfold pianolalaw03_PunchBest.f
  rw [hmade _ (by omega), Option.bind_some]
  dsimp only
  rw [hpass, Option.bind_some]
  dsimp only
  by_cases hz : mostN r' j = 0
  · have hnil := (mostN_zero hc).1 hz
    have hpr : punch_Prove.f r' j = some (0, 8) := by unfold punch_Prove.f; rw [if_pos hc, if_pos (by omega), if_pos hz]
    rw [hpr, Option.bind_some, hver, Option.bind_some]
    dsimp only
    rw [if_pos rfl, if_pos rfl, if_pos (by rw [p1]), gk, Option.bind_some, if_pos rfl, if_pos rfl, fk, Option.bind_some, pianolalaw03_PunchBest.j0, if_neg (by simp), if_pos hz, if_pos rfl, if_pos (by rw [hnil]; rfl), works_more (by omega)]
    rfl
  · have hne : j ≠ [] := fun e => hz ((mostN_zero hc).2 e)
    have hpr : punch_Prove.f r' j = some (momentOf r' j, 0) := by unfold punch_Prove.f; rw [if_pos hc, if_pos (by omega), if_neg hz]
    have lk := more (f := fun k => pianolalaw03_PunchBest.l0 k (mostN r' j) (momentOf r' j) ((0 : Nat) : Int) r' j) (fun k => (pianolalaw03_PunchBest.mono_l k).2 _ _ _ _ _) (best_l0 hL hne 70 0 (by omega)) (show 70 + 101 ≤ k1 + k2 + 171 by omega)
    rw [hpr, Option.bind_some, hver, Option.bind_some]
    dsimp only
    rw [if_pos rfl, if_pos rfl, if_pos (by rw [p1]), gk, Option.bind_some, if_pos rfl, if_pos rfl, fk, Option.bind_some, pianolalaw03_PunchBest.j0, if_neg (by simp), if_neg hz, if_pos rfl]
    exact lk
end Go.Proofs.Ytaaonhfaoaabbaa.X
