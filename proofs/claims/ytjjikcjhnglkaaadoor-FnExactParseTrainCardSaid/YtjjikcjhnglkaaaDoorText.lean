/- Texts of trains, in plain lists of bytes: what is written can be read, and what can be read is what would be written. -/
import Derived.Test.YtjjikcjhnglkaaaDoorProg
import Derived.Test.YtjjikcjhnglkaaaDoorFormatS
import Derived.Lib.SplitLaws
import Derived.Lib.Join
import Derived.Lib.ItoaNum
namespace Go.Proofs.YtjjikcjhnglkaaaDoor
open Go.RowKit
set_option linter.unusedSimpArgs false
set_option linter.unusedVariables false

/-! ### Pieces -/
/-- The pieces of a text between the bytes c. -/
def splitP (c : UInt8) : List UInt8 → List (List UInt8)
  | [] => [[]]
  | b :: s => if b = c then [] :: splitP c s else match splitP c s with | [] => [[b]] | p :: ps => (b :: p) :: ps
theorem splitP_ne (c : UInt8) (s : List UInt8) : splitP c s ≠ [] := by
  cases s with
  | nil => simp [splitP]
  | cons b s =>
    unfold splitP
    split
    · simp
    · split <;> simp
theorem splitP_hit (c : UInt8) (s : List UInt8) : splitP c (c :: s) = [] :: splitP c s := by rw [splitP, if_pos rfl]
theorem splitP_miss {c b : UInt8} {s p : List UInt8} {ps : List (List UInt8)} (h : b ≠ c) (hs : splitP c s = p :: ps) : splitP c (b :: s) = (b :: p) :: ps := by rw [splitP, if_neg h, hs]
theorem splitP_cons (c : UInt8) (s : List UInt8) : ∃ p ps, splitP c s = p :: ps := by
  cases h : splitP c s with
  | nil => exact absurd h (splitP_ne c s)
  | cons p ps => exact ⟨p, ps, rfl⟩
theorem join_cons2 (x y : List UInt8) (r : List (List UInt8)) (sep : List UInt8) : Lib.join (x :: y :: r) sep = x ++ sep ++ Lib.join (y :: r) sep := by
  rw [Lib.join_cons, Lib.join_cons]
  simp [Lib.joinTail, List.append_assoc]
/-- The pieces, joined, are the text. -/
theorem join_splitP (c : UInt8) : ∀ s : List UInt8, Lib.join (splitP c s) [c] = s
  | [] => by simp [splitP, Lib.join_one]
  | b :: s => by
    have ih := join_splitP c s
    obtain ⟨p, ps, hp⟩ := splitP_cons c s
    rw [hp] at ih
    by_cases h : b = c
    · subst h
      rw [splitP_hit, hp, join_cons2, ih]; rfl
    · rw [splitP_miss h hp]
      rw [Lib.join_cons] at ih ⊢
      rw [List.cons_append, ih]
theorem splitP_self (c : UInt8) : ∀ (x : List UInt8), c ∉ x → splitP c x = [x]
  | [], _ => rfl
  | b :: x, h => splitP_miss (fun e => h (by simp [e])) (splitP_self c x (fun hm => h (by simp [hm])))
theorem splitP_app (c : UInt8) : ∀ (x s : List UInt8), c ∉ x → splitP c (x ++ c :: s) = x :: splitP c s
  | [], s, _ => splitP_hit c s
  | b :: x, s, h => splitP_miss (fun e => h (by simp [e])) (splitP_app c x s (fun hm => h (by simp [hm])))
/-- What is joined of pieces without the byte parts into them. -/
theorem splitP_join (c : UInt8) : ∀ (xs : List (List UInt8)), xs ≠ [] → (∀ x ∈ xs, c ∉ x) → splitP c (Lib.join xs [c]) = xs
  | [], h, _ => absurd rfl h
  | [x], _, h => by rw [Lib.join_one, splitP_self c x (h x (by simp))]
  | x :: y :: r, _, h => by
    rw [join_cons2, List.append_assoc, List.singleton_append, splitP_app c x _ (h x (by simp)), splitP_join c (y :: r) (by simp) (fun z hz => h z (by simp [hz]))]
theorem splitP_mem {c d : UInt8} : ∀ {s p : List UInt8}, p ∈ splitP c s → d ∈ p → d ∈ s
  | [], p, hp, hd => by simp [splitP] at hp; subst hp; exact hd
  | b :: s, p, hp, hd => by
    obtain ⟨q, qs, hq⟩ := splitP_cons c s
    by_cases h : b = c
    · subst h
      rw [splitP_hit] at hp
      rcases List.mem_cons.1 hp with e | hp
      · subst e; cases hd
      · exact List.mem_cons_of_mem _ (splitP_mem hp hd)
    · rw [splitP_miss h hq] at hp
      rcases List.mem_cons.1 hp with e | hp
      · subst e
        rcases List.mem_cons.1 hd with e | hd
        · subst e; exact List.mem_cons_self
        · exact List.mem_cons_of_mem _ (splitP_mem (c := c) (p := q) (by rw [hq]; simp) hd)
      · exact List.mem_cons_of_mem _ (splitP_mem (c := c) (p := p) (by rw [hq]; simp [hp]) hd)
theorem splitK_P (c : UInt8) : ∀ s : List UInt8, Lib.splitK [c] 0 (Lib.count s [c]) s = splitP c s
  | [] => rfl
  | b :: l => by
    have ih := splitK_P c l
    by_cases h : b = c
    · subst h
      have hi : Lib.index (b :: l) [b] = 0 := by simp [Lib.index, List.isPrefixOf]
      rw [Lib.count_cons_eq, Nat.add_comm, Lib.splitK, hi, splitP_hit, if_neg (by decide), ← ih]
      simp
    · have hi : Lib.index (b :: l) [c] = if Lib.index l [c] == -1 then -1 else Lib.index l [c] + 1 := by
        rw [Lib.index, if_neg (by simp [List.isPrefixOf]; exact fun e => h e.symm)]
      rw [Lib.count_cons_ne b c l h]
      obtain ⟨p, ps, hp⟩ := splitP_cons c l
      rw [splitP_miss h hp]
      cases hk : Lib.count l [c] with
      | zero =>
        rw [hk, hp] at ih
        simp only [Lib.splitK] at ih ⊢
        injection ih with e1 e2
        subst e1 e2
        rfl
      | succ k =>
        rw [hk, hp] at ih
        have hg := Lib.index_ge l [c]
        rw [Lib.splitK] at ih ⊢
        rw [hi]
        by_cases hm : Lib.index l [c] = -1
        · rw [if_pos (by simp [hm])] at ih
          rw [if_pos (by simp [hm])]
          injection ih with e1 e2
          subst e1 e2
          rfl
        · rw [if_neg (by simpa using hm)] at ih
          rw [if_neg (by rw [if_neg (by simpa using hm)]; simp; omega), if_neg (by simpa using hm)]
          obtain ⟨i, hi'⟩ : ∃ i : Nat, Lib.index l [c] = (i : Int) := ⟨(Lib.index l [c]).toNat, by omega⟩
          rw [hi'] at ih ⊢
          have e1 : ((i : Int) + 1).toNat = i + 1 := by omega
          have e2 : ((i : Int)).toNat = i := by omega
          rw [e2] at ih
          rw [e1]
          injection ih with e3 e4
          rw [← e3, ← e4]
          simp

/-! ### Numbers -/
theorem dec_digits : ∀ (k : Nat) (t : List UInt8), ¬ k = 0 → decGo k t = Lib.decDigits k ++ t := by
  intro k
  induction k using Nat.strongRecOn with
  | ind k ih =>
    intro t h
    rw [decGo_pos h]
    by_cases h9 : k < 10
    · have : k / 10 = 0 := by omega
      rw [this, decGo_zero, Lib.decDigits, dif_pos h9]
      have : fig k = UInt8.ofNat (48 + k) := by unfold fig; rw [Nat.mod_eq_of_lt h9]
      rw [this]; rfl
    · rw [ih (k / 10) (by omega) _ (by omega)]
      conv => rhs; rw [Lib.decDigits, dif_neg h9]
      simp [fig]
theorem dec_itoa (x : Nat) : dec x = Lib.decDigits x := by
  unfold dec
  split
  · rename_i h; subst h; rw [Lib.decDigits, dif_pos (by omega)]; rfl
  · rename_i h; rw [dec_digits x [] h, List.append_nil]
/-- A byte that is a figure. -/
def isFig (b : UInt8) : Bool := decide (48 ≤ b.toNat ∧ b.toNat ≤ 57)
/-- A figure's value. -/
def figVal (b : UInt8) : Nat := b.toNat - 48
theorem figVal_eq (b : UInt8) : figVal b = b.toNat - 48 := rfl
/-- The number of a row of figures behind the number n. -/
def numGo (n : Nat) (s : List UInt8) : Nat := s.foldl (fun n b => 10 * n + figVal b) n
theorem numGo_nil (n : Nat) : numGo n [] = n := rfl
theorem numGo_cons (n : Nat) (b : UInt8) (s : List UInt8) : numGo n (b :: s) = numGo (10 * n + figVal b) s := by unfold numGo; rw [List.foldl_cons]
/-- What ParseUint reads. -/
def readU (s : List UInt8) : Option Nat :=
  if s.length ≠ 0 ∧ s.length ≤ 10 ∧ ¬ (s.head? = some 48 ∧ 1 < s.length) ∧ s.all isFig = true ∧ numGo 0 s ≤ 1000000000 then some (numGo 0 s) else none
theorem fig_isFig (k : Nat) : isFig (fig k) = true := by
  have h := fig_nat k
  unfold isFig
  rw [decide_eq_true_eq]
  omega
theorem fig_sub (k : Nat) : (fig k).toNat - 48 = k % 10 := by
  have h := fig_nat k
  omega
theorem numGo_app (a b : List UInt8) (n : Nat) : numGo n (a ++ b) = numGo (numGo n a) b := by unfold numGo; rw [List.foldl_append]
theorem digits_last {x : Nat} (h : ¬ x < 10) : Lib.decDigits x = Lib.decDigits (x / 10) ++ [fig x] := by
  rw [Lib.decDigits, dif_neg h]; rfl
theorem digits_one {x : Nat} (h : x < 10) : Lib.decDigits x = [fig x] := by
  rw [Lib.decDigits, dif_pos h, fig, Nat.mod_eq_of_lt h]
theorem digits_fig (x : Nat) : (Lib.decDigits x).all isFig = true := by
  induction x using Nat.strongRecOn with
  | ind x ih =>
    by_cases h : x < 10
    · rw [digits_one h]; simp [fig_isFig]
    · rw [digits_last h, List.all_append, ih _ (by omega)]; simp [fig_isFig]
theorem digits_num (x : Nat) : numGo 0 (Lib.decDigits x) = x := by
  induction x using Nat.strongRecOn with
  | ind x ih =>
    by_cases h : x < 10
    · rw [digits_one h]
      rw [numGo_cons, numGo_nil, figVal_eq, fig_sub]; omega
    · rw [digits_last h, numGo_app, ih _ (by omega)]
      rw [numGo_cons, numGo_nil, figVal_eq, fig_sub]; omega
theorem digits_head (x : Nat) (h : x ≠ 0) : ∃ b s, Lib.decDigits x = b :: s ∧ b ≠ 48 := by
  induction x using Nat.strongRecOn with
  | ind x ih =>
    by_cases h9 : x < 10
    · refine ⟨fig x, [], digits_one h9, fun e => ?_⟩
      have h1 := fig_nat x
      rw [e] at h1
      have : ((48 : UInt8).toNat : Int) = 48 := rfl
      omega
    · obtain ⟨b, s, e, hb⟩ := ih (x / 10) (by omega) (by omega)
      exact ⟨b, s ++ [fig x], by rw [digits_last h9, e]; rfl, hb⟩
theorem digits_len (x : Nat) (n : Nat) (h : x < 10 ^ (n + 1)) : 1 ≤ (Lib.decDigits x).length ∧ (Lib.decDigits x).length ≤ n + 1 := by
  induction n generalizing x with
  | zero => rw [digits_one (by simpa using h)]; simp
  | succ n ih =>
    by_cases h9 : x < 10
    · rw [digits_one h9]; simp
    · have := ih (x / 10) (by rw [Nat.pow_succ] at h; omega)
      rw [digits_last h9, List.length_append]
      simp; omega
theorem readU_dec {x : Nat} (h : x ≤ 1000000000) : readU (dec x) = some x := by
  unfold readU
  rw [dec_itoa, digits_num, digits_fig]
  have hl := digits_len x 9 (by omega)
  rw [if_pos]
  refine ⟨by omega, by omega, fun ⟨h1, h2⟩ => ?_, rfl, h⟩
  by_cases h0 : x = 0
  · subst h0; rw [digits_one (by omega)] at h2; simp at h2
  · obtain ⟨b, s, e, hb⟩ := digits_head x h0
    rw [e] at h1
    exact hb (by simpa using h1)
theorem isFig_fig {b : UInt8} (h : isFig b = true) : b = fig (b.toNat - 48) := by
  unfold isFig at h
  rw [decide_eq_true_eq] at h
  apply UInt8.toNat_inj.1
  have := fig_nat (b.toNat - 48)
  omega
theorem fig_of {b : UInt8} (h : isFig b = true) (n : Nat) : fig (10 * n + (b.toNat - 48)) = b := by
  have h1 := isFig_fig h
  unfold isFig at h
  rw [decide_eq_true_eq] at h
  apply UInt8.toNat_inj.1
  have := fig_nat (10 * n + (b.toNat - 48))
  omega
/-- Figures behind a number that is not 0. -/
theorem digits_numGo : ∀ (s : List UInt8) (n : Nat), n ≠ 0 → s.all isFig = true → Lib.decDigits (numGo n s) = Lib.decDigits n ++ s
  | [], n, _, _ => by rw [numGo_nil, List.append_nil]
  | b :: s, n, h, hs => by
    rw [List.all_cons, Bool.and_eq_true] at hs
    have hb := hs.1
    unfold isFig at hb
    rw [decide_eq_true_eq] at hb
    rw [numGo_cons, figVal_eq, digits_numGo s _ (by omega) hs.2, digits_last (by omega), fig_of hs.1]
    have : (10 * n + (b.toNat - 48)) / 10 = n := by omega
    rw [this, List.append_assoc]; rfl
theorem readU_back {s : List UInt8} {x : Nat} (h : readU s = some x) : dec x = s ∧ x ≤ 1000000000 := by
  unfold readU at h
  split at h
  · rename_i hc
    obtain ⟨h1, h2, h3, h4, h5⟩ := hc
    have hx := Option.some.inj h
    rw [hx] at h5
    refine ⟨?_, h5⟩
    rw [dec_itoa]
    cases s with
    | nil => exact absurd rfl h1
    | cons b s =>
      rw [List.all_cons, Bool.and_eq_true] at h4
      have hf := h4.1
      unfold isFig at hf
      rw [decide_eq_true_eq] at hf
      have e0 : numGo 0 (b :: s) = numGo (b.toNat - 48) s := by rw [numGo_cons, figVal_eq]; simp
      by_cases hb : b = 48
      · subst hb
        have hs : s = [] := by
          cases s with
          | nil => rfl
          | cons c s => exact absurd ⟨rfl, by simp⟩ h3
        subst hs
        have : x = 0 := by rw [← hx]; rfl
        subst this
        rw [digits_one (by omega)]; rfl
      · have hne : b.toNat - 48 ≠ 0 := fun e => hb (by apply UInt8.toNat_inj.1; have : (48 : UInt8).toNat = 48 := rfl; omega)
        rw [e0] at hx
        rw [← hx, digits_numGo s _ hne h4.2, digits_one (by omega)]
        have := isFig_fig h4.1
        rw [← this]; rfl
  · cases h
end Go.Proofs.YtjjikcjhnglkaaaDoor
