/- Tables: what a table is, its value at a place, the least place with a value; the plain laws. -/
import Derived.Test.YtknpdhafafomaaaPoint
namespace Go.Proofs.Ytknpdhafafomaaa
open Go.RowKit
set_option linter.unusedSimpArgs false
set_option linter.unusedVariables false

def ptOk (p : Pt) : Bool := inR p.1 0 1000000000 && inR p.2 0 1000000000
/-- The points from here on, behind p. -/
def stepGo (p : Pt) : List Pt → Bool
  | [] => true
  | q :: qs => (ptOk q && (decide (p.1 < q.1) && decide (p.2 ≤ q.2))) && stepGo q qs
def tabGo : List Pt → Bool
  | [] => true
  | q :: qs => ptOk q && stepGo q qs
def tableOk (ps : List Pt) : Bool := decide (2 ≤ ps.length ∧ ps.length ≤ 20) && tabGo ps
/-- What is still to be asked ahead of point k. -/
def tabFrom (ps : List Pt) : Nat → Bool
  | 0 => tabGo ps
  | k + 1 => stepGo (ps.getD k (0, 0)) (ps.drop (k + 1))
theorem tabFrom_zero (ps : List Pt) (h : 0 < ps.length) : tabFrom ps 0 = (ptOk ps[0] && tabFrom ps 1) := by
  match ps, h with
  | p :: ps, _ => rfl
theorem tabFrom_succ (ps : List Pt) (k : Nat) (h : k + 1 < ps.length) : tabFrom ps (k + 1) = ((ptOk ps[k + 1] && (decide (ps[k].1 < ps[k + 1].1) && decide (ps[k].2 ≤ ps[k + 1].2))) && tabFrom ps (k + 2)) := by
  show stepGo (ps.getD k (0, 0)) (ps.drop (k + 1)) = _
  rw [List.drop_eq_getElem_cons h]
  have e1 : ps.getD k (0, 0) = ps[k] := by simp [List.getD, List.getElem?_eq_getElem (by omega : k < ps.length)]
  have e2 : ps.getD (k + 1) (0, 0) = ps[k + 1] := by simp [List.getD, List.getElem?_eq_getElem h]
  rw [e1]
  show _ = (_ && stepGo (ps.getD (k + 1) (0, 0)) (ps.drop (k + 1 + 1)))
  rw [e2]
  rfl
theorem tabFrom_end (ps : List Pt) : tabFrom ps ps.length = true := by
  cases ps with
  | nil => rfl
  | cons p ps => simp [tabFrom, stepGo]
/-- A table is in order. -/
def Tab : List Pt → Prop
  | [] => True
  | [p] => 0 ≤ p.1 ∧ p.1 ≤ 1000000000 ∧ 0 ≤ p.2 ∧ p.2 ≤ 1000000000
  | p :: q :: qs => (0 ≤ p.1 ∧ p.1 ≤ 1000000000 ∧ 0 ≤ p.2 ∧ p.2 ≤ 1000000000) ∧ p.1 < q.1 ∧ p.2 ≤ q.2 ∧ Tab (q :: qs)
theorem ptOk_iff {p : Pt} : ptOk p = true ↔ (0 ≤ p.1 ∧ p.1 ≤ 1000000000 ∧ 0 ≤ p.2 ∧ p.2 ≤ 1000000000) := by
  simp only [ptOk, inR, Bool.and_eq_true, decide_eq_true_eq]
  omega
theorem stepGo_tab : ∀ (qs : List Pt) (p : Pt), ptOk p = true → stepGo p qs = true → Tab (p :: qs)
  | [], p, h, _ => ptOk_iff.1 h
  | q :: qs, p, h, h2 => by
    simp only [stepGo, Bool.and_eq_true, decide_eq_true_eq] at h2
    exact ⟨ptOk_iff.1 h, h2.1.2.1, h2.1.2.2, stepGo_tab qs q h2.1.1 h2.2⟩
theorem tab_of {ps : List Pt} (h : tableOk ps = true) : Tab ps ∧ 2 ≤ ps.length ∧ ps.length ≤ 20 := by
  simp only [tableOk, Bool.and_eq_true, decide_eq_true_eq] at h
  refine ⟨?_, h.1⟩
  match ps, h with
  | [], _ => trivial
  | p :: ps, h =>
    have h2 := h.2
    simp only [tabGo, Bool.and_eq_true] at h2
    exact stepGo_tab _ _ h2.1 h2.2
theorem Tab.tail {p : Pt} {qs : List Pt} (h : Tab (p :: qs)) : Tab qs := by
  cases qs with
  | nil => trivial
  | cons q qs => exact h.2.2.2
theorem Tab.b {p : Pt} {qs : List Pt} (h : Tab (p :: qs)) : 0 ≤ p.1 ∧ p.1 ≤ 1000000000 ∧ 0 ≤ p.2 ∧ p.2 ≤ 1000000000 := by
  cases qs with
  | nil => exact h
  | cons q qs => exact h.1
theorem Tab.get : ∀ {ps : List Pt} (h : Tab ps) (k : Nat) (hk : k < ps.length), 0 ≤ ps[k].1 ∧ ps[k].1 ≤ 1000000000 ∧ 0 ≤ ps[k].2 ∧ ps[k].2 ≤ 1000000000
  | p :: ps, h, 0, _ => h.b
  | p :: ps, h, k + 1, hk => Tab.get h.tail k (by simpa using hk)
theorem Tab.step : ∀ {ps : List Pt} (h : Tab ps) (k : Nat) (hk : k + 1 < ps.length), ps[k].1 < ps[k + 1].1 ∧ ps[k].2 ≤ ps[k + 1].2
  | p :: q :: ps, h, 0, _ => ⟨h.2.1, h.2.2.1⟩
  | p :: q :: ps, h, k + 1, hk => Tab.step h.tail k (by simpa using hk)
/-- The value between two points. -/
def lin (x : Int) (p q : Pt) : Int := p.2 + Int.tdiv ((x - p.1) * (q.2 - p.2)) (q.1 - p.1)
/-- The value at x, of which the first point is not behind. -/
def seg (x : Int) (p : Pt) : List Pt → Int
  | [] => p.2
  | q :: qs => if q.1 ≤ x then seg x q qs else lin x p q
def lastP (p : Pt) : List Pt → Pt
  | [] => p
  | q :: qs => lastP q qs
def valueAt (ps : List Pt) (x : Int) : Int :=
  if tableOk ps then
    match ps with
    | [] => 0
    | p :: qs => if x ≤ p.1 then p.2 else seg x p qs
  else 0
theorem lin_b {x : Int} {p q : Pt} (h0 : p.1 ≤ x) (h1 : x < q.1) (h2 : p.2 ≤ q.2) : p.2 ≤ lin x p q ∧ lin x p q ≤ q.2 := by
  unfold lin
  have hm : 0 ≤ (x - p.1) * (q.2 - p.2) := Int.mul_nonneg (by omega) (by omega)
  rw [Int.tdiv_eq_ediv_of_nonneg hm]
  have h3 : 0 ≤ (x - p.1) * (q.2 - p.2) / (q.1 - p.1) := Int.ediv_nonneg hm (by omega)
  have h4 : (x - p.1) * (q.2 - p.2) / (q.1 - p.1) ≤ q.2 - p.2 := by
    apply Int.ediv_le_of_le_mul (by omega)
    rw [Int.mul_comm]
    exact Int.mul_le_mul_of_nonneg_left (by omega) (by omega)
  omega
theorem lin_mono {x y : Int} {p q : Pt} (h0 : p.1 ≤ x) (h : x ≤ y) (h1 : y < q.1) (h2 : p.2 ≤ q.2) : lin x p q ≤ lin y p q := by
  unfold lin
  rw [Int.tdiv_eq_ediv_of_nonneg (Int.mul_nonneg (by omega) (by omega)), Int.tdiv_eq_ediv_of_nonneg (Int.mul_nonneg (by omega) (by omega))]
  have : (x - p.1) * (q.2 - p.2) ≤ (y - p.1) * (q.2 - p.2) := Int.mul_le_mul_of_nonneg_right (by omega) (by omega)
  have := Int.ediv_le_ediv (c := q.1 - p.1) (by omega) this
  omega
theorem seg_ge : ∀ (qs : List Pt) (p : Pt) (x : Int), Tab (p :: qs) → p.1 ≤ x → p.2 ≤ seg x p qs
  | [], p, x, _, _ => Int.le_refl _
  | q :: qs, p, x, h, h0 => by
    unfold seg
    split
    · have := seg_ge qs q x h.tail (by assumption)
      have := h.2.2.1
      omega
    · exact (lin_b h0 (by omega) h.2.2.1).1
theorem seg_le : ∀ (qs : List Pt) (p : Pt) (x : Int), Tab (p :: qs) → p.1 ≤ x → seg x p qs ≤ (lastP p qs).2
  | [], p, x, _, _ => Int.le_refl _
  | q :: qs, p, x, h, h0 => by
    unfold seg
    split
    · exact seg_le qs q x h.tail (by assumption)
    · have h1 := (lin_b h0 (by omega) h.2.2.1 : p.2 ≤ lin x p q ∧ lin x p q ≤ q.2).2
      have h2 := seg_ge qs q q.1 h.tail (Int.le_refl _)
      have h3 := seg_le qs q q.1 h.tail (Int.le_refl _)
      show _ ≤ (lastP q qs).2
      omega
theorem seg_mono : ∀ (qs : List Pt) (p : Pt) (x y : Int), Tab (p :: qs) → p.1 ≤ x → x ≤ y → seg x p qs ≤ seg y p qs
  | [], p, x, y, _, _, _ => Int.le_refl _
  | q :: qs, p, x, y, h, h0, hxy => by
    unfold seg
    by_cases h1 : q.1 ≤ x
    · rw [if_pos h1, if_pos (by omega)]
      exact seg_mono qs q x y h.tail h1 hxy
    · rw [if_neg h1]
      by_cases h2 : q.1 ≤ y
      · rw [if_pos h2]
        have h3 := (lin_b h0 (by omega) h.2.2.1 : p.2 ≤ lin x p q ∧ lin x p q ≤ q.2).2
        have h4 := seg_ge qs q y h.tail h2
        omega
      · rw [if_neg h2]
        exact lin_mono h0 hxy (by omega) h.2.2.1
theorem seg_end : ∀ (qs : List Pt) (p : Pt) (x : Int), Tab (p :: qs) → (lastP p qs).1 ≤ x → seg x p qs = (lastP p qs).2
  | [], p, x, _, _ => rfl
  | q :: qs, p, x, h, h0 => by
    have key : ∀ (qs : List Pt) (q : Pt), Tab (q :: qs) → q.1 ≤ (lastP q qs).1 := by
      intro qs
      induction qs with
      | nil => intro q _; exact Int.le_refl _
      | cons r rs ih => intro q h; have := ih r h.tail; have := h.2.1; show q.1 ≤ (lastP r rs).1; omega
    have h1 := key qs q h.tail
    have h2 : (lastP q qs).1 ≤ x := h0
    unfold seg
    rw [if_pos (by omega)]
    exact seg_end qs q x h.tail h2
theorem lastP_get : ∀ (qs : List Pt) (p : Pt), lastP p qs = (p :: qs)[qs.length]
  | [], p => rfl
  | q :: qs, p => by
    show lastP q qs = _
    rw [lastP_get qs q]
    rfl
theorem lastP_ge : ∀ (qs : List Pt) (p : Pt), Tab (p :: qs) → p.1 ≤ (lastP p qs).1
  | [], p, _ => Int.le_refl _
  | q :: qs, p, h => by have := lastP_ge qs q h.tail; have := h.2.1; show p.1 ≤ (lastP q qs).1; omega
theorem valueAt_mono {ps : List Pt} {x y : Int} (h : x ≤ y) : valueAt ps x ≤ valueAt ps y := by
  unfold valueAt
  by_cases ht : tableOk ps = true
  · rw [if_pos ht, if_pos ht]
    obtain ⟨h1, h2, _⟩ := tab_of ht
    match ps, h1, h2 with
    | p :: qs, h1, _ =>
      show (if x ≤ p.1 then p.2 else seg x p qs) ≤ (if y ≤ p.1 then p.2 else seg y p qs)
      by_cases c : x ≤ p.1
      · rw [if_pos c]
        split
        · exact Int.le_refl _
        · exact seg_ge qs p y h1 (by omega)
      · rw [if_neg c, if_neg (by omega)]
        exact seg_mono qs p x y h1 (by omega) h
  · rw [if_neg ht, if_neg ht]
    exact Int.le_refl _
theorem valueAt_b (ps : List Pt) (x : Int) : 0 ≤ valueAt ps x ∧ valueAt ps x ≤ 1000000000 := by
  unfold valueAt
  by_cases ht : tableOk ps = true
  · rw [if_pos ht]
    obtain ⟨h1, h2, _⟩ := tab_of ht
    match ps, h1, h2 with
    | p :: qs, h1, _ =>
      show 0 ≤ (if x ≤ p.1 then p.2 else seg x p qs) ∧ (if x ≤ p.1 then p.2 else seg x p qs) ≤ _
      have hb := h1.b
      have hl := h1.get qs.length (by simp)
      rw [← lastP_get] at hl
      split
      · omega
      · have := seg_ge qs p x h1 (by omega)
        have := seg_le qs p x h1 (by omega)
        omega
  · rw [if_neg ht]
    omega
/-- The value at the last place. -/
theorem valueAt_last {ps : List Pt} (ht : tableOk ps = true) (k : Nat) (hk : k + 1 = ps.length) : valueAt ps (ps[k].1) = (ps[k]).2 := by
  unfold valueAt
  rw [if_pos ht]
  obtain ⟨h1, h2, _⟩ := tab_of ht
  match ps, h1, h2, hk with
  | p :: qs, h1, h2, hk =>
    have e : k = qs.length := by simp at hk; omega
    subst e
    rw [← lastP_get]
    show (if (lastP p qs).1 ≤ p.1 then p.2 else seg (lastP p qs).1 p qs) = _
    rw [if_neg, seg_end qs p _ h1 (Int.le_refl _)]
    match qs, h1, h2 with
    | q :: qs, h1, _ =>
      have h3 := h1.2.1
      have h4 := lastP_ge qs q h1.tail
      show ¬ (lastP q qs).1 ≤ p.1
      omega
/-- z is the least place with a value of y at least. -/
def IsPlace (ps : List Pt) (y z : Int) : Prop := ∃ (h : 0 < ps.length), ps[0].1 ≤ z ∧ z ≤ (ps[ps.length - 1]).1 ∧ y ≤ valueAt ps z ∧ (z = ps[0].1 ∨ valueAt ps (z - 1) < y)
theorem IsPlace.same {ps : List Pt} {y z z' : Int} (h : IsPlace ps y z) (h' : IsPlace ps y z') : z = z' := by
  obtain ⟨_, a1, a2, a3, a4⟩ := h
  obtain ⟨_, b1, b2, b3, b4⟩ := h'
  rcases Int.lt_trichotomy z z' with c | c | c
  · exfalso
    have := valueAt_mono (ps := ps) (x := z) (y := z' - 1) (by omega)
    omega
  · exact c
  · exfalso
    have := valueAt_mono (ps := ps) (x := z') (y := z - 1) (by omega)
    omega
/-! ### Reaches -/
def sumFrom (n : Int) (xs : List Int) : Int := xs.foldl (fun n x => n + x) n
def reachOk (ps : List Pt) (vol : Int) (xs : List Int) : Bool := (tableOk ps && (inR vol 0 1000000000 && decide (xs.length ≤ 12))) && (xs.all (fun x => inR x 0 1000000000) && decide (sumFrom vol xs ≤ 1000000000))
theorem reachOk_parts {ps : List Pt} {vol : Int} {xs : List Int} (h : reachOk ps vol xs = true) : tableOk ps = true ∧ (0 ≤ vol ∧ vol ≤ 1000000000) ∧ xs.length ≤ 12 ∧ (∀ x ∈ xs, 0 ≤ x ∧ x ≤ 1000000000) ∧ sumFrom vol xs ≤ 1000000000 := by
  simp only [reachOk, inR, Bool.and_eq_true, decide_eq_true_eq, List.all_eq_true] at h
  exact ⟨h.1.1, by omega, h.1.2.2, fun x hx => by have := h.2.1 x hx; omega, h.2.2⟩
/-- z is the level. -/
def IsLevel (ps : List Pt) (vol : Int) (xs : List Int) (z : Int) : Prop :=
  if reachOk ps vol xs then (∃ (h : 0 < ps.length), if (ps[ps.length - 1]).2 < vol then z = (ps[ps.length - 1]).1 else IsPlace ps vol z) else z = 0
theorem IsLevel.same {ps : List Pt} {vol : Int} {xs : List Int} {z z' : Int} (h : IsLevel ps vol xs z) (h' : IsLevel ps vol xs z') : z = z' := by
  unfold IsLevel at *
  split at h
  · rename_i c
    rw [if_pos c] at h'
    obtain ⟨p, h⟩ := h
    obtain ⟨_, h'⟩ := h'
    split at h
    · rename_i c; rw [if_pos c] at h'; rw [h, h']
    · rename_i c; rw [if_neg c] at h'; exact h.same h'
  · rename_i c; rw [if_neg c] at h'; rw [h, h']
open Classical in
noncomputable def levelOf (ps : List Pt) (vol : Int) (xs : List Int) : Int := if h : ∃ z, IsLevel ps vol xs z then Classical.choose h else 0
theorem IsLevel.eq {ps : List Pt} {vol : Int} {xs : List Int} {z : Int} (h : IsLevel ps vol xs z) : z = levelOf ps vol xs := by
  have he : ∃ z, IsLevel ps vol xs z := ⟨z, h⟩
  unfold levelOf
  rw [dif_pos he]
  exact h.same (Classical.choose_spec he)
theorem IsLevel.b {ps : List Pt} {vol : Int} {xs : List Int} {z : Int} (h : IsLevel ps vol xs z) : 0 ≤ z ∧ z ≤ 1000000000 := by
  unfold IsLevel at h
  split at h
  · rename_i c
    obtain ⟨p, h⟩ := h
    obtain ⟨ht, _⟩ := tab_of (reachOk_parts c).1
    have h1 := ht.get (ps.length - 1) (by omega)
    have h0 := ht.get 0 p
    split at h
    · omega
    · obtain ⟨_, a1, a2, _⟩ := h
      omega
  · omega
theorem levelOf_b (ps : List Pt) (vol : Int) (xs : List Int) : 0 ≤ levelOf ps vol xs ∧ levelOf ps vol xs ≤ 1000000000 := by
  by_cases he : ∃ z, IsLevel ps vol xs z
  · obtain ⟨z, h⟩ := he
    rw [← h.eq]
    exact h.b
  · unfold levelOf
    rw [dif_neg he]
    omega
end Go.Proofs.Ytknpdhafafomaaa
