/- Filling and draining a chamber round by round: the numbers alone. -/
import Derived.Test.YtmppoflgbmabpaaProg
import Derived.Test.YtmppoflgbmabpaaM5
import Derived.Test.YtmppoflgbmabpaaEnterL
import Derived.Test.YtmppoflgbmabpaaM6
import Derived.Test.YtmppoflgbmabpaaDrawLk
namespace Go.Proofs.Ytmppoflgbmabpaa
set_option linter.unusedVariables false

/-- The level of a volume by the table (0, 0), (500, 500000). -/
def lvl (v : Int) : Int := (v + 999) / 1000
/-- Where round k of filling and draining stands: W in the chamber, v in the reach, s in its pipe; q = W / A, L = the level. -/
def StandQ (A R B T W v s k q L : Int) : Prop :=
  0 ≤ W ∧ 0 ≤ s ∧ W + v + s = T ∧
    ((L - 1 ≤ B + q ∧ B + q ≤ L + 1 ∧ s ≤ 3000 + 100 * k) ∨
     (L - 5 ≤ B + q ∧ B + q ≤ L + 5 ∧ 1000 < R ∧ s ≤ 3000 + 100 * k ∧ k ≤ 150) ∨
     (B + q < L ∧ s = 0 ∧ A * (L - B) - W ≤ R * (145 - k) ∧ k ≤ 145) ∨
     (L < B + q ∧ s + W ≤ 3000 ∧ W - A * (L - B) ≤ R * (61 - k) ∧ k ≤ 61))
def Stand (A R B T W v s k : Int) : Prop := StandQ A R B T W v s k (W / A) (lvl v)
theorem div_facts {A W : Int} (hA : 1 ≤ A) : A * (W / A) ≤ W ∧ W < A * (W / A) + A := by
  have h1 := Int.mul_ediv_add_emod W A
  have h2 := Int.emod_nonneg W (by omega : A ≠ 0)
  have h3 := Int.emod_lt_of_pos W (by omega : 0 < A)
  omega
theorem mul_mono {A x y : Int} (hA : 0 ≤ A) (h : x ≤ y) : A * x ≤ A * y := Int.mul_le_mul_of_nonneg_left h hA
theorem q_le {A W m : Int} (hA : 1 ≤ A) (h : W < A * m + A) : W / A ≤ m := by
  have h1 := (div_facts (W := W) hA).1
  by_cases hc : W / A ≤ m
  · exact hc
  · have := mul_mono (A := A) (x := m + 1) (y := W / A) (by omega) (by omega)
    rw [Int.mul_add, Int.mul_one] at this
    omega
theorem le_q {A W m : Int} (hA : 1 ≤ A) (h : A * m ≤ W) : m ≤ W / A := by
  have h1 := (div_facts (W := W) hA).2
  by_cases hc : m ≤ W / A
  · exact hc
  · have := mul_mono (A := A) (x := W / A + 1) (y := m) (by omega) (by omega)
    rw [Int.mul_add, Int.mul_one] at this
    omega
/-- The bounds of what stands. -/
theorem stand_bounds {A R B T W v s k : Int} (hA : 1 ≤ A ∧ A ≤ 20) (hR : R = 50 ∨ R = 500 ∨ R = 5000) (hB : 0 ≤ B ∧ B ≤ 29) (hT : 100000 ≤ T ∧ T ≤ 358000) (hk : 0 ≤ k ∧ k ≤ 200) (h : Stand A R B T W v s k) : 0 ≤ W ∧ W ≤ 8000 ∧ 50000 ≤ v ∧ v ≤ 358000 ∧ 0 ≤ s ∧ s ≤ 40000 ∧ W + v + s = T := by
  unfold Stand StandQ at h
  obtain ⟨h1, h2, h3, h4⟩ := h
  obtain ⟨hd1, hd2⟩ := div_facts (W := W) hA.1
  have hL : lvl v ≤ 358 := by unfold lvl; omega
  have hw : W / A ≤ 364 ∨ W ≤ 3000 := by
    rcases h4 with h4 | h4 | h4 | h4
    · left; omega
    · left; omega
    · left; omega
    · right; omega
  have hW : W ≤ 8000 := by
    rcases hw with hw | hw
    · have e1 := mul_mono (A := A) (x := W / A) (y := 364) (by omega) hw
      omega
    · omega
  have hs : s ≤ 23000 := by rcases h4 with h4 | h4 | h4 | h4 <;> omega
  omega
theorem lvl_sub {v d j : Int} (h0 : 0 ≤ d) (h1 : d ≤ 1000 * j) : lvl v - j ≤ lvl (v - d) ∧ lvl (v - d) ≤ lvl v := by unfold lvl; omega
theorem lvl_add {v d j : Int} (h0 : 0 ≤ d) (h1 : d ≤ 1000 * j) : lvl v ≤ lvl (v + d) ∧ lvl (v + d) ≤ lvl v + j := by unfold lvl; omega

/-- One round of filling. -/
theorem stand_fill {A R B T W v s k tk : Int} (hA : 1 ≤ A ∧ A ≤ 20) (hR : R = 50 ∨ R = 500 ∨ R = 5000) (hB : 0 ≤ B ∧ B ≤ 29) (hT : 100000 ≤ T ∧ T ≤ 358000) (hk : 0 ≤ k ∧ k < 200) (h : Stand A R B T W v s k)
    (hlt : B + W / A < lvl v) (htk : tk = min (min (A * (lvl v - (B + W / A))) R) v) : Stand A R B T (W + tk) (v - tk) s (k + 1) ∧ 0 ≤ tk ∧ tk ≤ R ∧ tk ≤ v := by
  obtain ⟨b1, b2, b3, b4, b5, b6, b7⟩ := stand_bounds hA hR hB hT ⟨hk.1, by omega⟩ h
  unfold Stand StandQ at *
  obtain ⟨h1, h2, h3, h4⟩ := h
  obtain ⟨hd1, hd2⟩ := div_facts (W := W) hA.1
  obtain ⟨q, hq⟩ : ∃ q, W / A = q := ⟨_, rfl⟩
  obtain ⟨L, hL⟩ : ∃ L, lvl v = L := ⟨_, rfl⟩
  obtain ⟨D, hD⟩ : ∃ D, A * (L - (B + q)) = D := ⟨_, rfl⟩
  obtain ⟨M, hM⟩ : ∃ M, A * (L - B) = M := ⟨_, rfl⟩
  rw [hq] at hd1 hd2 hlt h4 htk
  rw [hL] at hlt h4 htk
  rw [hD] at htk
  rw [hM] at h4
  have e1 : D = M - A * q := by rw [← hD, ← hM, ← Int.mul_sub]; congr 1; omega
  have e2 : A ≤ D := by have := mul_mono (A := A) (x := 1) (y := L - (B + q)) (by omega) (by omega); omega
  have e3 : tk = if D ≤ R then D else R := by rw [htk]; split <;> omega
  clear htk
  by_cases hc : D ≤ R
  · rw [if_pos hc] at e3
    subst e3
    have c1 : (W + tk) / A = L - B := by
      apply Int.le_antisymm
      · exact q_le hA.1 (by rw [hM]; omega)
      · exact le_q hA.1 (by rw [hM]; omega)
    obtain ⟨l1, l2⟩ := lvl_sub (v := v) (d := tk) (j := 5) (by omega) (by omega)
    rw [c1]
    rw [hL] at l1 l2
    have l3 : tk ≤ 1000 → L - 1 ≤ lvl (v - tk) := fun h => by have := (lvl_sub (v := v) (d := tk) (j := 1) (by omega) (by omega)).1; omega
    have d5 : L - (B + q) ≤ 5 → tk ≤ 100 := fun h => by
      have := mul_mono (A := A) (x := L - (B + q)) (y := 5) (by omega) h
      omega
    obtain ⟨L', hL'⟩ : ∃ L', lvl (v - tk) = L' := ⟨_, rfl⟩
    rw [hL'] at l1 l2 l3 ⊢
    refine ⟨⟨by omega, h2, by omega, ?_⟩, by omega, by omega, by omega⟩
    rcases h4 with h4 | h4 | h4 | h4
    · left; have := d5 (by omega); have := l3 (by omega); omega
    · left; have := d5 (by omega); have := l3 (by omega); omega
    · by_cases ht : tk ≤ 1000
      · left; have := l3 ht; omega
      · right; left; omega
    · omega
  · rw [if_neg hc] at e3
    subst e3
    obtain ⟨l1, l2⟩ := lvl_sub (v := v) (d := tk) (j := 5) (by omega) (by omega)
    rw [hL] at l1 l2
    have l3 : tk ≤ 1000 → L - 1 ≤ lvl (v - tk) := fun h => by have := (lvl_sub (v := v) (d := tk) (j := 1) (by omega) (by omega)).1; omega
    have c1 : (W + tk) / A ≤ L - B := q_le hA.1 (by rw [hM]; omega)
    have m1 := mul_mono (A := A) (x := lvl (v - tk) - B) (y := L - B) (by omega) (by omega)
    obtain ⟨L', hL'⟩ : ∃ L', lvl (v - tk) = L' := ⟨_, rfl⟩
    obtain ⟨q', hq'⟩ : ∃ q', (W + tk) / A = q' := ⟨_, rfl⟩
    have c2 : tk = 50 ∨ tk = 500 ∨ tk = 5000 := hR
    rw [hL'] at l1 l2 l3 m1 ⊢
    rw [hq'] at c1 ⊢
    rw [hM] at m1
    have d5 : L - (B + q) ≤ 5 → D ≤ 100 := fun h => by
      have := mul_mono (A := A) (x := L - (B + q)) (y := 5) (by omega) h
      omega
    have d1 : L - (B + q) ≤ 1 → D ≤ 20 := fun h => by
      have := mul_mono (A := A) (x := L - (B + q)) (y := 1) (by omega) h
      omega
    have r1 : tk * (145 - (k + 1)) = tk * (145 - k) - tk := by
      rw [show (145 : Int) - (k + 1) = (145 - k) - 1 by omega, Int.mul_sub, Int.mul_one]
    refine ⟨⟨by omega, h2, by omega, ?_⟩, by omega, by omega, by omega⟩
    rcases h4 with h4 | h4 | h4 | h4
    · have := d1 (by omega); omega
    · have := d5 (by omega); omega
    · by_cases hx : B + q' < L'
      · right; right; left
        have k145 : k < 145 := by
          by_cases hk5 : k < 145
          · exact hk5
          · have : k = 145 := by omega
            subst this
            have : tk * (145 - 145) = 0 := by simp
            omega
        rw [r1]
        omega
      · by_cases ht : tk ≤ 1000
        · left; have := l3 ht; omega
        · right; left; omega
    · omega
/-- One round of draining: what is drained comes up at once, or goes into the pipe. -/
theorem stand_drain {A R B T W v s k am : Int} (p : Bool) (hA : 1 ≤ A ∧ A ≤ 20) (hR : R = 50 ∨ R = 500 ∨ R = 5000) (hB : 0 ≤ B ∧ B ≤ 29) (hT : 100000 ≤ T ∧ T ≤ 358000) (hk : 0 ≤ k ∧ k < 200) (h : Stand A R B T W v s k)
    (hlt : lvl v < B + W / A) (ham : am = min (min (A * (B + W / A - lvl v)) R) W) : Stand A R B T (W - am) (if p then v else v + am) (if p then s + am else s) (k + 1) ∧ 0 ≤ am ∧ am ≤ R ∧ am ≤ W := by
  obtain ⟨b1, b2, b3, b4, b5, b6, b7⟩ := stand_bounds hA hR hB hT ⟨hk.1, by omega⟩ h
  unfold Stand StandQ at *
  obtain ⟨h1, h2, h3, h4⟩ := h
  obtain ⟨hd1, hd2⟩ := div_facts (W := W) hA.1
  have hl50 : 50 ≤ lvl v := by unfold lvl; omega
  obtain ⟨q, hq⟩ : ∃ q, W / A = q := ⟨_, rfl⟩
  obtain ⟨L, hL⟩ : ∃ L, lvl v = L := ⟨_, rfl⟩
  obtain ⟨D, hD⟩ : ∃ D, A * (B + q - L) = D := ⟨_, rfl⟩
  obtain ⟨M, hM⟩ : ∃ M, A * (L - B) = M := ⟨_, rfl⟩
  rw [hq] at hd1 hd2 hlt h4 ham
  rw [hL] at hlt h4 ham hl50
  rw [hD] at ham
  rw [hM] at h4
  have e1 : D = A * q - M := by rw [← hD, ← hM, ← Int.mul_sub]; congr 1; omega
  have e2 : A ≤ D := by have := mul_mono (A := A) (x := 1) (y := B + q - L) (by omega) (by omega); omega
  have e4 : 0 ≤ M := by have := mul_mono (A := A) (x := 0) (y := L - B) (by omega) (by omega); omega
  have e3 : am = if D ≤ R then D else R := by rw [ham]; split <;> omega
  clear ham
  obtain ⟨L', hL', l1, l2, l3⟩ : ∃ L', lvl (if p then v else v + am) = L' ∧ L ≤ L' ∧ L' ≤ L + 5 ∧ (am ≤ 1000 → L' ≤ L + 1) := by
    have ha0 : 0 ≤ am ∧ am ≤ 5000 := by rw [e3]; split <;> omega
    cases p
    · obtain ⟨l1, l2⟩ := lvl_add (v := v) (d := am) (j := 5) (by omega) (by omega)
      exact ⟨_, rfl, by simp; omega, by simp; omega, fun h => by have := (lvl_add (v := v) (d := am) (j := 1) (by omega) (by omega)).2; simp; omega⟩
    · exact ⟨_, rfl, by simp; omega, by simp; omega, fun _ => by simp; omega⟩
  obtain ⟨v', hv', s', hs', hvs⟩ : ∃ v', (if p then v else v + am) = v' ∧ ∃ s', (if p then s + am else s) = s' ∧ (v' = v ∧ s' = s + am ∨ v' = v + am ∧ s' = s) := by
    cases p
    · exact ⟨_, rfl, _, rfl, .inr ⟨by simp, by simp⟩⟩
    · exact ⟨_, rfl, _, rfl, .inl ⟨by simp, by simp⟩⟩
  rw [hv'] at hL' ⊢
  rw [hs', hL']
  by_cases hc : D ≤ R
  · rw [if_pos hc] at e3
    subst e3
    have c1 : (W - am) / A = L - B := by
      apply Int.le_antisymm
      · exact q_le hA.1 (by rw [hM]; omega)
      · exact le_q hA.1 (by rw [hM]; omega)
    rw [c1]
    have d5 : B + q - L ≤ 5 → am ≤ 100 := fun h => by
      have := mul_mono (A := A) (x := B + q - L) (y := 5) (by omega) h
      omega
    refine ⟨⟨by omega, by omega, by omega, ?_⟩, by omega, by omega, by omega⟩
    rcases h4 with h4 | h4 | h4 | h4
    · left; have := d5 (by omega); have := l3 (by omega); omega
    · left; have := d5 (by omega); have := l3 (by omega); omega
    · omega
    · by_cases ht : am ≤ 1000
      · left; have := l3 ht; omega
      · right; left; omega
  · rw [if_neg hc] at e3
    subst e3
    have c1 : L - B ≤ (W - am) / A := le_q hA.1 (by rw [hM]; omega)
    have c3 : (W - am) / A ≤ q := by
      have := q_le (W := W - am) (m := q) hA.1 (by omega)
      exact this
    have m1 := mul_mono (A := A) (x := L - B) (y := L' - B) (by omega) (by omega)
    obtain ⟨q', hq'⟩ : ∃ q', (W - am) / A = q' := ⟨_, rfl⟩
    have c2 : am = 50 ∨ am = 500 ∨ am = 5000 := hR
    rw [hq'] at c1 c3 ⊢
    rw [hM] at m1
    have d5 : B + q - L ≤ 5 → D ≤ 100 := fun h => by
      have := mul_mono (A := A) (x := B + q - L) (y := 5) (by omega) h
      omega
    have d1 : B + q - L ≤ 1 → D ≤ 20 := fun h => by
      have := mul_mono (A := A) (x := B + q - L) (y := 1) (by omega) h
      omega
    have r1 : am * (61 - (k + 1)) = am * (61 - k) - am := by
      rw [show (61 : Int) - (k + 1) = (61 - k) - 1 by omega, Int.mul_sub, Int.mul_one]
    refine ⟨⟨by omega, by omega, by omega, ?_⟩, by omega, by omega, by omega⟩
    rcases h4 with h4 | h4 | h4 | h4
    · have := d1 (by omega); omega
    · have := d5 (by omega); omega
    · omega
    · by_cases hx : L' < B + q'
      · right; right; right
        have k61 : k < 61 := by
          by_cases hk5 : k < 61
          · exact hk5
          · have : k = 61 := by omega
            subst this
            have : am * (61 - 61) = 0 := by simp
            omega
        rw [r1]
        omega
      · by_cases ht : am ≤ 1000
        · left; have := l3 ht; omega
        · right; left; omega
theorem stand_same {A R B T W v s k : Int} (hk : 0 ≤ k) (h : Stand A R B T W v s k) (he : B + W / A = lvl v) : Stand A R B T W v s (k + 1) := by
  unfold Stand StandQ at *
  obtain ⟨h1, h2, h3, h4⟩ := h
  refine ⟨h1, h2, h3, .inl ?_⟩
  rcases h4 with h4 | h4 | h4 | h4 <;> omega
theorem stand_start {A R B T W v : Int} (hA : 1 ≤ A ∧ A ≤ 20) (hR : R = 50 ∨ R = 500 ∨ R = 5000) (hB : 0 ≤ B ∧ B ≤ 29) (hW : 0 ≤ W ∧ W ≤ 3000) (hv : 100000 ≤ v ∧ v ≤ 355000) (hT : W + v = T) : Stand A R B T W v 0 0 := by
  unfold Stand StandQ
  refine ⟨hW.1, by omega, by omega, ?_⟩
  have hL : 100 ≤ lvl v ∧ lvl v ≤ 355 := by unfold lvl; omega
  have e4 : 0 ≤ A * (lvl v - B) := by have := mul_mono (A := A) (x := 0) (y := lvl v - B) (by omega) (by omega); omega
  have e5 : A * (lvl v - B) ≤ 7100 := by have := Int.mul_le_mul hA.2 (show lvl v - B ≤ 355 by omega) (by omega) (by omega); omega
  rcases Int.lt_trichotomy (B + W / A) (lvl v) with h | h | h
  · right; right; left; rcases hR with h | h | h <;> subst h <;> omega
  · left; omega
  · right; right; right; rcases hR with h | h | h <;> subst h <;> omega
theorem stand_end {A R B T W v s : Int} (hA : 1 ≤ A) (h : Stand A R B T W v s 200) : lvl v - 1 ≤ B + W / A ∧ B + W / A ≤ lvl v + 1 := by
  unfold Stand StandQ at h
  obtain ⟨h1, h2, h3, h4⟩ := h
  rcases h4 with h4 | h4 | h4 | h4 <;> omega

/-- Where round k of draining to the lower reach stands. -/
def Sink (A R B T W v k : Int) : Prop :=
  0 ≤ W ∧ W ≤ 8000 ∧ 40000 ≤ v ∧ v ≤ 98000 ∧ W + v = T ∧ (B + W / A ≤ lvl v ∨ (lvl v < B + W / A ∧ W - A * (lvl v - B) ≤ R * (160 - k) ∧ k ≤ 160))
theorem sink_drain {A R B T W v k am : Int} (hA : 1 ≤ A ∧ A ≤ 20) (hR : R = 50 ∨ R = 500 ∨ R = 5000) (hB : 0 ≤ B ∧ B ≤ 29) (hT : T ≤ 98000) (h : Sink A R B T W v k)
    (hlt : lvl v < B + W / A) (ham : am = min (min (A * (B + W / A - lvl v)) R) W) : Sink A R B T (W - am) (v + am) (k + 1) ∧ 0 ≤ am ∧ am ≤ R ∧ am ≤ W := by
  unfold Sink at *
  obtain ⟨h1, h2, h3, h5, h6, h4⟩ := h
  obtain ⟨hd1, hd2⟩ := div_facts (W := W) hA.1
  have hl40 : 40 ≤ lvl v := by unfold lvl; omega
  obtain ⟨q, hq⟩ : ∃ q, W / A = q := ⟨_, rfl⟩
  obtain ⟨L, hL⟩ : ∃ L, lvl v = L := ⟨_, rfl⟩
  obtain ⟨D, hD⟩ : ∃ D, A * (B + q - L) = D := ⟨_, rfl⟩
  obtain ⟨M, hM⟩ : ∃ M, A * (L - B) = M := ⟨_, rfl⟩
  rw [hq] at hd1 hd2 hlt h4 ham
  rw [hL] at hlt h4 ham hl40
  rw [hD] at ham
  rw [hM] at h4
  have e1 : D = A * q - M := by rw [← hD, ← hM, ← Int.mul_sub]; congr 1; omega
  have e2 : A ≤ D := by have := mul_mono (A := A) (x := 1) (y := B + q - L) (by omega) (by omega); omega
  have e4 : 0 ≤ M := by have := mul_mono (A := A) (x := 0) (y := L - B) (by omega) (by omega); omega
  have e3 : am = if D ≤ R then D else R := by rw [ham]; split <;> omega
  clear ham
  have ha0 : 0 ≤ am := by rw [e3]; split <;> omega
  have haW : am ≤ W := by rw [e3]; split <;> omega
  have haR : am ≤ R := by rw [e3]; split <;> omega
  have l1 : L ≤ lvl (v + am) := by unfold lvl at *; omega
  refine ⟨⟨by omega, by omega, by omega, by omega, by omega, ?_⟩, ha0, haR, haW⟩
  by_cases hc : D ≤ R
  · rw [if_pos hc] at e3
    subst e3
    have c1 : (W - am) / A ≤ L - B := q_le hA.1 (by rw [hM]; omega)
    left; omega
  · rw [if_neg hc] at e3
    subst e3
    by_cases hx : lvl (v + am) < B + (W - am) / A
    · right
      have m1 := mul_mono (A := A) (x := L - B) (y := lvl (v + am) - B) (by omega) (by omega)
      rw [hM] at m1
      have r1 : am * (160 - (k + 1)) = am * (160 - k) - am := by
        rw [show (160 : Int) - (k + 1) = (160 - k) - 1 by omega, Int.mul_sub, Int.mul_one]
      have k160 : k < 160 := by
        by_cases hk5 : k < 160
        · exact hk5
        · have : k = 160 := by omega
          subst this
          have : am * (160 - 160) = 0 := by simp
          omega
      rw [r1]
      omega
    · left; omega
theorem sink_same {A R B T W v k : Int} (h : Sink A R B T W v k) (he : ¬ lvl v < B + W / A) : Sink A R B T W v (k + 1) := by
  unfold Sink at *
  obtain ⟨h1, h2, h3, h4, h5, h6⟩ := h
  exact ⟨h1, h2, h3, h4, h5, .inl (by omega)⟩
theorem sink_start {A R B T W v b : Int} (hA : 1 ≤ A ∧ A ≤ 20) (hR : R = 50 ∨ R = 500 ∨ R = 5000) (hB : 0 ≤ B ∧ B ≤ 29) (hW : 0 ≤ W ∧ W ≤ 8000) (hv : 40000 ≤ v ∧ v ≤ 90000) (hb : b ≤ 358) (hc : B + W / A ≤ b + 1) (hT : W + v = T) : Sink A R B T W v 0 := by
  unfold Sink
  refine ⟨hW.1, hW.2, hv.1, by omega, hT, ?_⟩
  by_cases hx : B + W / A ≤ lvl v
  · exact .inl hx
  · right
    have hl40 : 40 ≤ lvl v := by unfold lvl; omega
    obtain ⟨hd1, hd2⟩ := div_facts (W := W) hA.1
    have e4 := mul_mono (A := A) (x := W / A - 320) (y := lvl v - B) (by omega) (by omega)
    have e5 := mul_mono (A := 320) (x := A) (y := 20) (by omega) (by omega)
    rw [Int.mul_sub] at e4
    have e6 : A * 320 = 320 * A := Int.mul_comm _ _
    refine ⟨by omega, ?_, by omega⟩
    rcases hR with h | h | h <;> subst h <;> omega
theorem sink_end {A R B T W v : Int} (h : Sink A R B T W v 200) : B + W / A ≤ lvl v := by
  unfold Sink at h
  obtain ⟨h1, h2, h3, h4, h5, h6⟩ := h
  rcases h6 with h6 | h6 <;> omega
end Go.Proofs.Ytmppoflgbmabpaa
/- The table of the laws about chambers: its values and its levels. -/
namespace Go.Proofs.Ytmppoflgbmabpaa
open Go.RowKit
set_option linter.unusedSimpArgs false
set_option linter.unusedVariables false

/-- The table of the laws about chambers. -/
def tabL : List Pt := [(0, 0), (500, 500000)]
theorem tabL_ok : tableOk tabL = true := by decide
theorem tabL_at {w : World} {B : Nat} (h : RowAt w B 37 #[.int .i64 0, .int .i64 0, .int .i64 500, .int .i64 500000]) : FlatAt w ptCells 2 (some ⟨B, 0, none⟩) tabL := fun k hk => by
  have : k = 0 ∨ k = 1 := by simp [tabL] at hk; omega
  rcases this with rfl | rfl
  · refine ⟨B, 0, rfl, fun j v hv => ?_⟩
    match j, hv with
    | 0, hv => cases hv; exact h.cell rfl
    | 1, hv => cases hv; exact h.cell rfl
  · refine ⟨B, 0, rfl, fun j v hv => ?_⟩
    match j, hv with
    | 0, hv => cases hv; exact h.cell rfl
    | 1, hv => cases hv; exact h.cell rfl
theorem valueAt_L {x : Int} (h0 : 0 ≤ x) (h1 : x ≤ 500) : valueAt tabL x = 1000 * x := by
  unfold valueAt
  rw [if_pos tabL_ok]
  show (if x ≤ 0 then (0 : Int) else (if (500 : Int) ≤ x then (500000 : Int) else lin x (0, 0) (500, 500000))) = _
  by_cases c : x ≤ 0
  · rw [if_pos c]; omega
  · rw [if_neg c]
    by_cases d : (500 : Int) ≤ x
    · rw [if_pos d]; omega
    · rw [if_neg d]
      show (0 : Int) + Int.tdiv ((x - 0) * (500000 - 0)) (500 - 0) = _
      rw [Int.tdiv_eq_ediv_of_nonneg (by omega)]
      omega
theorem level_L {v : Int} {xs : List Int} (h : reachOk tabL v xs = true) (hv : v ≤ 500000) : levelOf tabL v xs = lvl v := by
  obtain ⟨_, h0, _⟩ := reachOk_parts h
  refine (level_at h (by decide) (show ¬ (500000 : Int) < v by omega) ?_).symm
  have hl : 0 ≤ lvl v ∧ lvl v ≤ 500 := by unfold lvl; omega
  refine ⟨by decide, hl.1, hl.2, ?_, ?_⟩
  · rw [valueAt_L hl.1 hl.2]; unfold lvl; omega
  · by_cases c : lvl v = 0
    · exact .inl c
    · refine .inr ?_
      rw [valueAt_L (by omega) (by omega)]
      unfold lvl; omega
end Go.Proofs.Ytmppoflgbmabpaa
/- FnDepthOverSills: the plain law. -/
namespace Go.Proofs.Ytmppoflgbmabpaa
open Go.RowKit
set_option linter.unusedSimpArgs false
set_option linter.unusedVariables false

theorem lockOk_swap {x0 x1 x2 x3 x4 x5 x6 x7 x8 : Int} {ts ts' : List Tn} (h : lockOk x0 x1 x2 x3 x4 x5 x6 x7 x8 ts = true) (h2 : distinct ts' = true) : lockOk x0 x1 x2 x3 x4 x5 x6 x7 x8 ts' = true := by
  unfold lockOk at h ⊢
  rw [Bool.and_eq_true] at h ⊢
  exact ⟨h.1, h2⟩
theorem lockOk_dist {x0 x1 x2 x3 x4 x5 x6 x7 x8 : Int} {ts : List Tn} (h : lockOk x0 x1 x2 x3 x4 x5 x6 x7 x8 ts = true) : distinct ts = true := by
  unfold lockOk at h
  rw [Bool.and_eq_true] at h
  exact h.2
theorem lk_start {x0 x1 x2 x3 x4 x5 x6 x7 x8 : Int} {ts : List Tn} (h : LkOk x0 x1 x2 x3 x4 x5 x6 x7 x8) (hd : distinct ts = true) : lockOk x0 x1 x2 x3 x4 x5 x6 x7 x8 ts = true := by
  have h0 := h.h0
  have h1 := h.h1
  have h2 := h.h2
  have h3 := h.h3
  have h4 := h.h4
  have h5 := h.h5
  have h6 := h.h6
  have h7 := h.h7
  have h8 := h.h8
  unfold lockOk
  simp only [Bool.and_eq_true, inR, decide_eq_true_eq]
  refine ⟨?_, hd⟩
  omega
theorem fits_dist {x0 x1 : Int} {ts : List Tn} (h : fits x0 x1 ts = true) : distinct ts = true := by
  unfold fits at h
  rw [Bool.and_eq_true] at h
  exact h.1
theorem difGo_sub {b a : List (List Int)} (h : b.Sublist a) : ∀ (seen seen' : List Int), (∀ x, x ∈ seen' → x ∈ seen) → difGo seen a = true → difGo seen' b = true := by
  induction h with
  | slnil => intro _ _ _ _; rfl
  | cons x h ih =>
    intro seen seen' hs ha
    unfold difGo at ha
    rw [Bool.and_eq_true] at ha
    exact ih (seen ++ x) seen' (fun y hy => List.mem_append_left _ (hs y hy)) ha.2
  | cons_cons x h ih =>
    intro seen seen' hs ha
    unfold difGo at ha ⊢
    rw [Bool.and_eq_true] at ha ⊢
    refine ⟨?_, ih (seen ++ x) (seen' ++ x) (fun y hy => ?_) ha.2⟩
    · have h1 := ha.1
      rw [Bool.not_eq_true'] at h1 ⊢
      rw [List.any_eq_false] at h1 ⊢
      intro y hy hc
      exact h1 y hy (by rw [List.contains_iff_mem] at hc ⊢; exact hs y hc)
    · rcases List.mem_append.1 hy with h | h
      · exact List.mem_append_left _ (hs y h)
      · exact List.mem_append_right _ h
theorem distinct_sub {ts' ts : List Tn} (h : ts'.Sublist ts) (hd : distinct ts = true) : distinct ts' = true := by
  unfold distinct at hd ⊢
  simp only [Bool.and_eq_true, decide_eq_true_eq] at hd ⊢
  refine ⟨⟨?_, ?_⟩, ?_⟩
  · have := h.length_le
    omega
  · unfold allOk
    rw [List.all_eq_true]
    exact fun t ht => List.all_eq_true.1 hd.1.2 t (h.mem ht)
  · exact difGo_sub (h.map _) _ _ (fun _ h => h) hd.2
theorem without_sub (ts : List Tn) (k : Nat) : (ts.take k ++ ts.drop (k + 1)).Sublist ts := by
  rw [← List.eraseIdx_eq_take_drop_succ]
  exact List.eraseIdx_sublist ts k
/-- What comes of EnterLock. -/
theorem enter_facts {x0 x1 x2 x3 x4 x5 x6 x7 x8 : Int} {ts ts1 : List Tn} {ps : List Pt} {vol : Int} {xs : List Int} {u ok : Bool} {rows : List (List Bt)} (h : lockOk x0 x1 x2 x3 x4 x5 x6 x7 x8 ts = true) (hr : enterRes x0 x1 x2 x3 x4 x5 x6 x7 x8 ts ps vol xs u rows = (ts1, ok)) :
    lockOk x0 x1 x2 x3 x4 x5 x6 x7 x8 ts1 = true ∧ (ok = false → ts1 = ts) ∧ (ok = true → ts1 = ts ++ [(u, rows)] ∧ mayEnter x0 x1 x2 x3 x4 x5 x6 x7 x8 ts ps vol xs u rows = true ∧ x8 = (if u then 2 else 1) ∧ draughtOf rows ≤ levelOf ps vol xs - (if u then x3 else x2)) := by
  unfold enterRes at hr
  by_cases hm : mayEnter x0 x1 x2 x3 x4 x5 x6 x7 x8 ts ps vol xs u rows = true
  · rw [if_pos hm] at hr
    by_cases hf : fits x0 x1 (ts ++ [(u, rows)]) = true
    · rw [if_pos hf] at hr
      obtain ⟨rfl, rfl⟩ := Prod.mk.inj hr
      refine ⟨lockOk_swap h (fits_dist hf), (fun h => by cases h), fun _ => ⟨rfl, hm, ?_⟩⟩
      unfold mayEnter at hm
      by_cases h1 : (lockOk x0 x1 x2 x3 x4 x5 x6 x7 x8 ts && (reachOk ps vol xs && trainOk rows)) = true
      · rw [if_pos h1] at hm
        by_cases h2 : x8 = (if u then 2 else 1)
        · rw [if_pos h2] at hm
          refine ⟨h2, ?_⟩
          unfold deep at hm
          exact of_decide_eq_true hm
        · rw [if_neg h2] at hm
          cases hm
      · rw [if_neg h1] at hm
        cases hm
    · rw [if_neg hf] at hr
      obtain ⟨rfl, rfl⟩ := Prod.mk.inj hr
      exact ⟨h, fun _ => rfl, fun h => by cases h⟩
  · rw [if_neg hm] at hr
    obtain ⟨rfl, rfl⟩ := Prod.mk.inj hr
    exact ⟨h, fun _ => rfl, fun h => by cases h⟩
theorem leaveGo_some {x8 s lev : Int} : ∀ (ts : List Tn) (k j : Nat), leaveGo x8 s lev k ts = some j → ∃ i, j = k + i ∧ ∃ h : i < ts.length, goesOut x8 s lev ts[i] = true
  | [], k, j, h => by cases h
  | t :: ts, k, j, h => by
    rw [leaveGo_cons] at h
    by_cases hg : goesOut x8 s lev t = true
    · rw [if_pos hg] at h
      cases h
      exact ⟨0, rfl, by simp, hg⟩
    · rw [if_neg hg] at h
      obtain ⟨i, h1, h2, h3⟩ := leaveGo_some ts (k + 1) j h
      exact ⟨i + 1, by omega, by simpa using h2, by simpa using h3⟩
/-- What comes of LeaveLock. -/
theorem leave_facts {x0 x1 x2 x3 x4 x5 x6 x7 x8 : Int} {ts ts1 : List Tn} {ps : List Pt} {vol : Int} {xs : List Int} {ut ok : Bool} {rows1 : List (List Bt)} (h : lockOk x0 x1 x2 x3 x4 x5 x6 x7 x8 ts = true) (hr : leaveRes x0 x1 x2 x3 x4 x5 x6 x7 x8 ts ps vol xs = (ts1, (ut, rows1), ok)) :
    lockOk x0 x1 x2 x3 x4 x5 x6 x7 x8 ts1 = true ∧ (ok = false → ts1.length = ts.length) ∧ (ok = true → ut = decide (x8 = 1) ∧ ts1.length + 1 = ts.length) := by
  unfold leaveRes at hr
  split at hr
  · obtain ⟨R, hR⟩ : ∃ R, leaveGo x8 (if x8 = 1 then x2 else x3) (levelOf ps vol xs) 0 ts = R := ⟨_, rfl⟩
    rw [hR] at hr
    cases R with
    | none =>
      obtain ⟨h1, h2⟩ := Prod.mk.inj hr
      obtain ⟨h2, h3⟩ := Prod.mk.inj h2
      subst h1
      subst h3
      exact ⟨h, fun _ => rfl, fun h => by cases h⟩
    | some j =>
      obtain ⟨i, e, hi, hg⟩ := leaveGo_some ts 0 j hR
      have e2 : j = i := by omega
      subst e2
      obtain ⟨h1, h2⟩ := Prod.mk.inj hr
      obtain ⟨h2, h3⟩ := Prod.mk.inj h2
      subst h1
      subst h3
      refine ⟨lockOk_swap h (distinct_sub (without_sub ts j) (lockOk_dist h)), (fun h => by cases h), fun _ => ⟨?_, ?_⟩⟩
      · unfold goesOut at hg
        rw [Bool.and_eq_true] at hg
        have h4 := eq_of_beq hg.1
        rw [← h4]
        have h5 : ts.getD j (false, []) = ts[j] := by simp [List.getD, List.getElem?_eq_getElem hi]
        have hq := (Prod.mk.inj h2).1
        rw [h5] at hq
        rw [hq]
      · rw [List.length_append, List.length_take, List.length_drop]
        omega
  · obtain ⟨h1, h2⟩ := Prod.mk.inj hr
    obtain ⟨h2, h3⟩ := Prod.mk.inj h2
    subst h1
    subst h3
    exact ⟨h, fun _ => rfl, fun h => by cases h⟩
theorem leave_small {x0 x1 x2 x3 x4 x5 x6 x7 x8 : Int} {ts ts1 : List Tn} {ps : List Pt} {vol : Int} {xs : List Int} {t : Tn} {ok : Bool} (h : ∀ t ∈ ts, SmallT t) (hr : leaveRes x0 x1 x2 x3 x4 x5 x6 x7 x8 ts ps vol xs = (ts1, t, ok)) : ∀ t ∈ ts1, SmallT t := by
  unfold leaveRes at hr
  split at hr
  · unfold leaveOut at hr
    split at hr
    · obtain ⟨h1, h2⟩ := Prod.mk.inj hr
      subst h1
      exact fun t ht => h t ((without_sub ts _).mem ht)
    · obtain ⟨h1, h2⟩ := Prod.mk.inj hr
      subst h1
      exact h
  · obtain ⟨h1, h2⟩ := Prod.mk.inj hr
    subst h1
    exact h
end Go.Proofs.Ytmppoflgbmabpaa
