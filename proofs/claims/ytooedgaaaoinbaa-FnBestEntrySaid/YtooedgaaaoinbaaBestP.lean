/- FnBestEntry: the plain law. -/
import Derived.Test.YtooedgaaaoinbaaBestG
namespace Go.Proofs.Ytooedgaaaoinbaa
open Go.RowKit
set_option linter.unusedSimpArgs false
set_option linter.unusedVariables false

/-- Does the law's choice c take train k? -/
def bitB (c k : Nat) : Bool := decide (c / 2 ^ k % 2 = 1)
def selB (c : Nat) : Nat → List Tn → List Tn
  | _, [] => []
  | i, t :: q => if bitB c i then t :: selB c (i + 1) q else selB c (i + 1) q
theorem selB_mem {c : Nat} {t : Tn} : ∀ {q : List Tn} {i : Nat}, t ∈ selB c i q → t ∈ q
  | [], _, h => by cases h
  | x :: q, i, h => by
    unfold selB at h
    split at h
    · rcases List.mem_cons.1 h with e | h
      · subst e; exact List.mem_cons_self
      · exact List.mem_cons_of_mem _ (selB_mem h)
    · exact List.mem_cons_of_mem _ (selB_mem h)
theorem sel_turn {c n d : Nat} (h : ∀ i, i < n → bitOn c n i = bitB d i) : ∀ (q : List Tn) (j : Nat), j + q.length ≤ n → selT c n j q = selB d j q
  | [], _, _ => rfl
  | t :: q, j, hj => by
    rw [List.length_cons] at hj
    have ih := sel_turn h q (j + 1) (by omega)
    unfold selT selB
    rw [h j (by omega), ih]
theorem turn_fin : ∀ n : Fin 6, ∀ d : Fin 32, d.val < 2 ^ n.val → ∃ c : Fin 32, c.val < 2 ^ n.val ∧ ∀ i : Fin 5, i.val < n.val → bitOn c.val n.val i.val = bitB d.val i.val := by decide +kernel
theorem back_fin : ∀ n : Fin 6, ∀ c : Fin 32, c.val < 2 ^ n.val → ∃ d : Fin 32, d.val < 2 ^ n.val ∧ ∀ i : Fin 5, i.val < n.val → bitOn c.val n.val i.val = bitB d.val i.val := by decide +kernel
theorem pow_le5 {n : Nat} (h : n ≤ 5) : 2 ^ n ≤ 32 := Nat.le_trans (Nat.pow_le_pow_right (by decide) h) (by decide)
theorem turn_ex {n d : Nat} {q : List Tn} (hn : n ≤ 5) (hq : q.length = n) (hd : d < 2 ^ n) : ∃ c, c < 2 ^ n ∧ selT c n 0 q = selB d 0 q := by
  have hp := pow_le5 hn
  obtain ⟨c, h1, h2⟩ := turn_fin ⟨n, by omega⟩ ⟨d, by omega⟩ hd
  exact ⟨c.val, h1, sel_turn (n := n) (fun i hi => h2 ⟨i, by omega⟩ hi) q 0 (by omega)⟩
theorem back_ex {n c : Nat} {q : List Tn} (hn : n ≤ 5) (hq : q.length = n) (hc : c < 2 ^ n) : ∃ d, d < 2 ^ n ∧ selT c n 0 q = selB d 0 q := by
  have hp := pow_le5 hn
  obtain ⟨d, h1, h2⟩ := back_fin ⟨n, by omega⟩ ⟨c, by omega⟩ hc
  exact ⟨d.val, h1, sel_turn (n := n) (fun i hi => h2 ⟨i, by omega⟩ hi) q 0 (by omega)⟩
theorem selT_zero (n : Nat) : ∀ (q : List Tn) (i : Nat), selT 0 n i q = []
  | [], _ => rfl
  | t :: q, i => by
    unfold selT
    have : bitOn 0 n i = false := by unfold bitOn; simp
    rw [this, if_neg (by decide)]
    exact selT_zero n q (i + 1)
/-- The greatest count over the choices below b. -/
noncomputable def mostTo (x0 x1 : Int) (ts q : List Tn) : Nat → Nat
  | 0 => 0
  | b + 1 => if fits x0 x1 (ts ++ selB b 0 q) = true then (if mostTo x0 x1 ts q b < cntOf boatsS (selB b 0 q) then cntOf boatsS (selB b 0 q) else mostTo x0 x1 ts q b) else mostTo x0 x1 ts q b
theorem mostTo_mono (x0 x1 : Int) (ts q : List Tn) (b : Nat) : mostTo x0 x1 ts q b ≤ mostTo x0 x1 ts q (b + 1) := by
  rw [mostTo]
  split
  · split <;> omega
  · omega
theorem mostTo_ge (x0 x1 : Int) (ts q : List Tn) : ∀ (B b : Nat), b < B → fits x0 x1 (ts ++ selB b 0 q) = true → cntOf boatsS (selB b 0 q) ≤ mostTo x0 x1 ts q B
  | 0, b, h, _ => absurd h (Nat.not_lt_zero _)
  | B + 1, b, h, hf => by
    by_cases e : b = B
    · subst e
      rw [mostTo, if_pos hf]
      split <;> omega
    · exact Nat.le_trans (mostTo_ge x0 x1 ts q B b (by omega) hf) (mostTo_mono _ _ _ _ _)
theorem mostTo_at (x0 x1 : Int) (ts q : List Tn) : ∀ (B : Nat), mostTo x0 x1 ts q B = 0 ∨ ∃ b, b < B ∧ fits x0 x1 (ts ++ selB b 0 q) = true ∧ mostTo x0 x1 ts q B = cntOf boatsS (selB b 0 q)
  | 0 => .inl rfl
  | B + 1 => by
    have ih := mostTo_at x0 x1 ts q B
    have old : mostTo x0 x1 ts q (B + 1) = mostTo x0 x1 ts q B → (mostTo x0 x1 ts q (B + 1) = 0 ∨ ∃ b, b < B + 1 ∧ fits x0 x1 (ts ++ selB b 0 q) = true ∧ mostTo x0 x1 ts q (B + 1) = cntOf boatsS (selB b 0 q)) := fun e => by
      rcases ih with h | ⟨b, h1, h2, h3⟩
      · exact .inl (by rw [e, h])
      · exact .inr ⟨b, by omega, h2, by rw [e, h3]⟩
    by_cases hf : fits x0 x1 (ts ++ selB B 0 q) = true
    · by_cases hl : mostTo x0 x1 ts q B < cntOf boatsS (selB B 0 q)
      · exact .inr ⟨B, by omega, hf, by rw [mostTo, if_pos hf, if_pos hl]⟩
      · exact old (by rw [mostTo, if_pos hf, if_neg hl])
    · exact old (by rw [mostTo, if_neg hf])
def Held (x0 x1 : Int) (ts q : List Tn) (n : Nat) (best : List Int) (m : Nat) : Prop :=
  (best = [] ∧ m = 0) ∨ ∃ c, c < 2 ^ n ∧ best = selI c n 0 q ∧ m = cntOf boatsS (selT c n 0 q) ∧ fits x0 x1 (ts ++ selT c n 0 q) = true
theorem bestGo_held (x0 x1 : Int) (ts q : List Tn) (n : Nat) : ∀ (c most : Nat) (best : List Int), c < 2 ^ n → Held x0 x1 ts q n best most →
    ∃ m, Held x0 x1 ts q n (bestGo boatsS x0 x1 ts q n c most best) m ∧ most ≤ m ∧ ∀ c', 1 ≤ c' → c' ≤ c → fits x0 x1 (ts ++ selT c' n 0 q) = true → cntOf boatsS (selT c' n 0 q) ≤ m
  | 0, most, best, _, h => ⟨most, h, Nat.le_refl _, fun c' h1 h2 _ => by omega⟩
  | c + 1, most, best, hc, h => by
    unfold bestGo
    by_cases hg : (decide (most < cntOf boatsS (selT (c + 1) n 0 q)) && fits x0 x1 (ts ++ selT (c + 1) n 0 q)) = true
    · rw [if_pos hg]
      rw [Bool.and_eq_true, decide_eq_true_eq] at hg
      obtain ⟨m, h1, h2, h3⟩ := bestGo_held x0 x1 ts q n c _ (selI (c + 1) n 0 q) (by omega) (.inr ⟨c + 1, hc, rfl, rfl, hg.2⟩)
      refine ⟨m, h1, by omega, fun c' k1 k2 k3 => ?_⟩
      by_cases e : c' = c + 1
      · subst e; exact h2
      · exact h3 c' k1 (by omega) k3
    · rw [if_neg hg]
      rw [Bool.and_eq_true, decide_eq_true_eq] at hg
      obtain ⟨m, h1, h2, h3⟩ := bestGo_held x0 x1 ts q n c most best (by omega) h
      refine ⟨m, h1, h2, fun c' k1 k2 k3 => ?_⟩
      by_cases e : c' = c + 1
      · subst e
        have : ¬ most < cntOf boatsS (selT (c + 1) n 0 q) := fun hl => hg ⟨hl, k3⟩
        omega
      · exact h3 c' k1 (by omega) k3
theorem sel_get (c n : Nat) : ∀ (q : List Tn) (i : Nat), (selI c n i q).length = (selT c n i q).length ∧ (∀ k (h : k < (selT c n i q).length), ∃ j, ∃ hj : j < q.length, (selI c n i q)[k]? = some (((i + j : Nat)) : Int) ∧ (selT c n i q)[k] = q[j]) ∧ (selI c n i q).Pairwise (· < ·) ∧ ∀ x ∈ selI c n i q, (i : Int) ≤ x
  | [], i => ⟨rfl, fun k h => absurd h (Nat.not_lt_zero _), List.Pairwise.nil, fun x h => by cases h⟩
  | t :: q, i => by
    obtain ⟨h1, h2, h3, h4⟩ := sel_get c n q (i + 1)
    cases hb : bitOn c n i with
    | false =>
      have e1 : selI c n i (t :: q) = selI c n (i + 1) q := by rw [selI, hb, if_neg (by decide)]
      have e2 : selT c n i (t :: q) = selT c n (i + 1) q := by rw [selT, hb, if_neg (by decide)]
      rw [e1]
      refine ⟨by rw [e2, h1], fun k hk => ?_, h3, fun x hx => by have := h4 x hx; omega⟩
      obtain ⟨j, hj, k1, k2⟩ := h2 k (by rw [← e2]; exact hk)
      refine ⟨j + 1, by rw [List.length_cons]; omega, by rw [k1]; congr 2; omega, ?_⟩
      rw [List.getElem_cons_succ, ← k2]
      exact List.getElem_of_eq e2 hk
    | true =>
      have e1 : selI c n i (t :: q) = (i : Int) :: selI c n (i + 1) q := by rw [selI, hb, if_pos rfl]
      have e2 : selT c n i (t :: q) = t :: selT c n (i + 1) q := by rw [selT, hb, if_pos rfl]
      rw [e1]
      refine ⟨by rw [e2, List.length_cons, List.length_cons, h1], fun k hk => ?_, List.Pairwise.cons (fun x hx => by have := h4 x hx; omega) h3, fun x hx => ?_⟩
      · have hk2 : k < (t :: selT c n (i + 1) q).length := by rw [← e2]; exact hk
        cases k with
        | zero => exact ⟨0, by simp, by simp, by rw [List.getElem_of_eq e2 hk]; rfl⟩
        | succ k =>
          obtain ⟨j, hj, k1, k2⟩ := h2 k (by simpa using hk2)
          refine ⟨j + 1, by rw [List.length_cons]; omega, by rw [List.getElem?_cons_succ, k1]; congr 2; omega, ?_⟩
          rw [List.getElem_of_eq e2 hk, List.getElem_cons_succ, List.getElem_cons_succ, ← k2]
      · rcases List.mem_cons.1 hx with e | hx
        · omega
        · have := h4 x hx; omega
/-- What the best entry is: a choice in order, with the greatest count. -/
def BestOf (x0 x1 : Int) (ts qs : List Tn) (R : List Int) (S : List Tn) : Prop :=
  R.length = S.length ∧ (∀ k (h : k < S.length), ∃ j, ∃ hj : j < qs.length, R[k]? = some (j : Int) ∧ S[k] = qs[j]) ∧ R.Pairwise (· < ·) ∧ cntOf boatsS S = mostTo x0 x1 ts qs (2 ^ qs.length) ∧ (R = [] ∨ fits x0 x1 (ts ++ S) = true)
theorem best_of {x0 x1 x2 x3 x4 x5 x6 x7 x8 : Int} {ts qs : List Tn} {R : List Int} (hok : lockOk x0 x1 x2 x3 x4 x5 x6 x7 x8 ts = true) (h5 : qs.length ≤ 5) (hR : bestRes boatsS x0 x1 x2 x3 x4 x5 x6 x7 x8 ts qs = R) : ∃ S, BestOf x0 x1 ts qs R S := by
  obtain ⟨n, hn⟩ : ∃ n, qs.length = n := ⟨_, rfl⟩
  have hp : 1 ≤ 2 ^ n := Nat.one_le_two_pow
  unfold bestRes at hR
  rw [if_pos hok, List.take_of_length_le (by omega), hn, (by omega : min n 8 = n)] at hR
  obtain ⟨m, h1, h2, h3⟩ := bestGo_held x0 x1 ts qs n (2 ^ n - 1) 0 [] (by omega) (.inl ⟨rfl, rfl⟩)
  rw [hR] at h1
  have hall : ∀ c, c < 2 ^ n → fits x0 x1 (ts ++ selT c n 0 qs) = true → cntOf boatsS (selT c n 0 qs) ≤ m := fun c hc hf => by
    by_cases e : c = 0
    · subst e
      rw [selT_zero]
      exact Nat.zero_le _
    · exact h3 c (by omega) (by omega) hf
  have hle : mostTo x0 x1 ts qs (2 ^ n) ≤ m := by
    rcases mostTo_at x0 x1 ts qs (2 ^ n) with h | ⟨b, k1, k2, k3⟩
    · omega
    · obtain ⟨c, q1, q2⟩ := turn_ex (by omega) hn k1
      rw [k3, ← q2]
      exact hall c q1 (by rw [q2]; exact k2)
  rcases h1 with ⟨e1, e2⟩ | ⟨c, hc, e1, e2, hf⟩
  · subst e1
    refine ⟨[], rfl, fun k h => absurd h (Nat.not_lt_zero _), List.Pairwise.nil, ?_, .inl rfl⟩
    rw [hn]
    have : cntOf boatsS [] = 0 := rfl
    omega
  · obtain ⟨k1, k2, k3, _⟩ := sel_get c n qs 0
    obtain ⟨d, q1, q2⟩ := back_ex (by omega) hn hc
    have hge := mostTo_ge x0 x1 ts qs (2 ^ n) d q1 (by rw [← q2]; exact hf)
    rw [← q2, ← e2] at hge
    refine ⟨selT c n 0 qs, by rw [e1]; exact k1, fun k hk => ?_, by rw [e1]; exact k3, by rw [hn, ← e2]; omega, .inr hf⟩
    obtain ⟨j, hj, r1, r2⟩ := k2 k hk
    exact ⟨j, hj, by rw [e1, r1, Nat.zero_add], r2⟩
theorem BestOf.at {x0 x1 : Int} {ts qs : List Tn} {R : List Int} {S : List Tn} (h : BestOf x0 x1 ts qs R S) (k : Nat) (hk : k < R.length) : ∃ j, ∃ hj : j < qs.length, R[k] = (j : Int) ∧ S.drop k = qs[j] :: S.drop (k + 1) ∧ ∀ (h0 : 0 < k), R[k - 1]'(by omega) < (j : Int) := by
  obtain ⟨h1, h2, h3, _⟩ := h
  have hs : k < S.length := by omega
  obtain ⟨j, hj, k1, k2⟩ := h2 k hs
  have e : R[k] = (j : Int) := by rw [List.getElem?_eq_getElem hk] at k1; exact Option.some.inj k1
  refine ⟨j, hj, e, by rw [List.drop_eq_getElem_cons hs, k2], fun h0 => ?_⟩
  rw [← e]
  exact List.pairwise_iff_getElem.1 h3 (k - 1) k (by omega) hk (by omega)
end Go.Proofs.Ytooedgaaaoinbaa
