/- Tables: what a table is, its value at a place, the least place with a value; the plain laws. -/
import Derived.Test.YtmppoflgbmabpaaM3
import Derived.Test.YtmppoflgbmabpaaProg
import Derived.Test.YtmppoflgbmabpaaM2
namespace Go.Proofs.Ytmppoflgbmabpaa
open Go.RowKit
set_option linter.unusedSimpArgs false
set_option linter.unusedVariables false

def ptOk (p : Pt) : Bool := inR p.1 0 1000000000 && inR p.2 0 1000000000
/-- The points from here on, behind p. -/
def stepGo (p : Pt) : List Pt → Bool
  | [] => true
  | q :: qs => (ptOk q && (decide (p.1 < q.1) && decide (p.2 ≤ q.2))) && stepGo q qs
def tabGo : List Pt → Bool
  | [] => true
  | q :: qs => ptOk q && stepGo q qs
def tableOk (ps : List Pt) : Bool := decide (2 ≤ ps.length ∧ ps.length ≤ 20) && tabGo ps
/-- What is still to be asked ahead of point k. -/
def tabFrom (ps : List Pt) : Nat → Bool
  | 0 => tabGo ps
  | k + 1 => stepGo (ps.getD k (0, 0)) (ps.drop (k + 1))
theorem tabFrom_zero (ps : List Pt) (h : 0 < ps.length) : tabFrom ps 0 = (ptOk ps[0] && tabFrom ps 1) := by
  match ps, h with
  | p :: ps, _ => rfl
theorem tabFrom_succ (ps : List Pt) (k : Nat) (h : k + 1 < ps.length) : tabFrom ps (k + 1) = ((ptOk ps[k + 1] && (decide (ps[k].1 < ps[k + 1].1) && decide (ps[k].2 ≤ ps[k + 1].2))) && tabFrom ps (k + 2)) := by
  show stepGo (ps.getD k (0, 0)) (ps.drop (k + 1)) = _
  rw [List.drop_eq_getElem_cons h]
  have e1 : ps.getD k (0, 0) = ps[k] := by simp [List.getD, List.getElem?_eq_getElem (by omega : k < ps.length)]
  have e2 : ps.getD (k + 1) (0, 0) = ps[k + 1] := by simp [List.getD, List.getElem?_eq_getElem h]
  rw [e1]
  show _ = (_ && stepGo (ps.getD (k + 1) (0, 0)) (ps.drop (k + 1 + 1)))
  rw [e2]
  rfl
theorem tabFrom_end (ps : List Pt) : tabFrom ps ps.length = true := by
  cases ps with
  | nil => rfl
  | cons p ps => simp [tabFrom, stepGo]
/-- A table is in order. -/
def Tab : List Pt → Prop
  | [] => True
  | [p] => 0 ≤ p.1 ∧ p.1 ≤ 1000000000 ∧ 0 ≤ p.2 ∧ p.2 ≤ 1000000000
  | p :: q :: qs => (0 ≤ p.1 ∧ p.1 ≤ 1000000000 ∧ 0 ≤ p.2 ∧ p.2 ≤ 1000000000) ∧ p.1 < q.1 ∧ p.2 ≤ q.2 ∧ Tab (q :: qs)
theorem ptOk_iff {p : Pt} : ptOk p = true ↔ (0 ≤ p.1 ∧ p.1 ≤ 1000000000 ∧ 0 ≤ p.2 ∧ p.2 ≤ 1000000000) := by
  simp only [ptOk, inR, Bool.and_eq_true, decide_eq_true_eq]
  omega
theorem stepGo_tab : ∀ (qs : List Pt) (p : Pt), ptOk p = true → stepGo p qs = true → Tab (p :: qs)
  | [], p, h, _ => ptOk_iff.1 h
  | q :: qs, p, h, h2 => by
    simp only [stepGo, Bool.and_eq_true, decide_eq_true_eq] at h2
    exact ⟨ptOk_iff.1 h, h2.1.2.1, h2.1.2.2, stepGo_tab qs q h2.1.1 h2.2⟩
theorem tab_of {ps : List Pt} (h : tableOk ps = true) : Tab ps ∧ 2 ≤ ps.length ∧ ps.length ≤ 20 := by
  simp only [tableOk, Bool.and_eq_true, decide_eq_true_eq] at h
  refine ⟨?_, h.1⟩
  match ps, h with
  | [], _ => trivial
  | p :: ps, h =>
    have h2 := h.2
    simp only [tabGo, Bool.and_eq_true] at h2
    exact stepGo_tab _ _ h2.1 h2.2
theorem Tab.tail {p : Pt} {qs : List Pt} (h : Tab (p :: qs)) : Tab qs := by
  cases qs with
  | nil => trivial
  | cons q qs => exact h.2.2.2
theorem Tab.b {p : Pt} {qs : List Pt} (h : Tab (p :: qs)) : 0 ≤ p.1 ∧ p.1 ≤ 1000000000 ∧ 0 ≤ p.2 ∧ p.2 ≤ 1000000000 := by
  cases qs with
  | nil => exact h
  | cons q qs => exact h.1
theorem Tab.get : ∀ {ps : List Pt} (h : Tab ps) (k : Nat) (hk : k < ps.length), 0 ≤ ps[k].1 ∧ ps[k].1 ≤ 1000000000 ∧ 0 ≤ ps[k].2 ∧ ps[k].2 ≤ 1000000000
  | p :: ps, h, 0, _ => h.b
  | p :: ps, h, k + 1, hk => Tab.get h.tail k (by simpa using hk)
theorem Tab.step : ∀ {ps : List Pt} (h : Tab ps) (k : Nat) (hk : k + 1 < ps.length), ps[k].1 < ps[k + 1].1 ∧ ps[k].2 ≤ ps[k + 1].2
  | p :: q :: ps, h, 0, _ => ⟨h.2.1, h.2.2.1⟩
  | p :: q :: ps, h, k + 1, hk => Tab.step h.tail k (by simpa using hk)
/-- The value between two points. -/
def lin (x : Int) (p q : Pt) : Int := p.2 + Int.tdiv ((x - p.1) * (q.2 - p.2)) (q.1 - p.1)
/-- The value at x, of which the first point is not behind. -/
def seg (x : Int) (p : Pt) : List Pt → Int
  | [] => p.2
  | q :: qs => if q.1 ≤ x then seg x q qs else lin x p q
def lastP (p : Pt) : List Pt → Pt
  | [] => p
  | q :: qs => lastP q qs
def valueAt (ps : List Pt) (x : Int) : Int :=
  if tableOk ps then
    match ps with
    | [] => 0
    | p :: qs => if x ≤ p.1 then p.2 else seg x p qs
  else 0
theorem lin_b {x : Int} {p q : Pt} (h0 : p.1 ≤ x) (h1 : x < q.1) (h2 : p.2 ≤ q.2) : p.2 ≤ lin x p q ∧ lin x p q ≤ q.2 := by
  unfold lin
  have hm : 0 ≤ (x - p.1) * (q.2 - p.2) := Int.mul_nonneg (by omega) (by omega)
  rw [Int.tdiv_eq_ediv_of_nonneg hm]
  have h3 : 0 ≤ (x - p.1) * (q.2 - p.2) / (q.1 - p.1) := Int.ediv_nonneg hm (by omega)
  have h4 : (x - p.1) * (q.2 - p.2) / (q.1 - p.1) ≤ q.2 - p.2 := by
    apply Int.ediv_le_of_le_mul (by omega)
    rw [Int.mul_comm]
    exact Int.mul_le_mul_of_nonneg_left (by omega) (by omega)
  omega
theorem lin_mono {x y : Int} {p q : Pt} (h0 : p.1 ≤ x) (h : x ≤ y) (h1 : y < q.1) (h2 : p.2 ≤ q.2) : lin x p q ≤ lin y p q := by
  unfold lin
  rw [Int.tdiv_eq_ediv_of_nonneg (Int.mul_nonneg (by omega) (by omega)), Int.tdiv_eq_ediv_of_nonneg (Int.mul_nonneg (by omega) (by omega))]
  have : (x - p.1) * (q.2 - p.2) ≤ (y - p.1) * (q.2 - p.2) := Int.mul_le_mul_of_nonneg_right (by omega) (by omega)
  have := Int.ediv_le_ediv (c := q.1 - p.1) (by omega) this
  omega
theorem seg_ge : ∀ (qs : List Pt) (p : Pt) (x : Int), Tab (p :: qs) → p.1 ≤ x → p.2 ≤ seg x p qs
  | [], p, x, _, _ => Int.le_refl _
  | q :: qs, p, x, h, h0 => by
    unfold seg
    split
    · have := seg_ge qs q x h.tail (by assumption)
      have := h.2.2.1
      omega
    · exact (lin_b h0 (by omega) h.2.2.1).1
theorem seg_le : ∀ (qs : List Pt) (p : Pt) (x : Int), Tab (p :: qs) → p.1 ≤ x → seg x p qs ≤ (lastP p qs).2
  | [], p, x, _, _ => Int.le_refl _
  | q :: qs, p, x, h, h0 => by
    unfold seg
    split
    · exact seg_le qs q x h.tail (by assumption)
    · have h1 := (lin_b h0 (by omega) h.2.2.1 : p.2 ≤ lin x p q ∧ lin x p q ≤ q.2).2
      have h2 := seg_ge qs q q.1 h.tail (Int.le_refl _)
      have h3 := seg_le qs q q.1 h.tail (Int.le_refl _)
      show _ ≤ (lastP q qs).2
      omega
theorem seg_mono : ∀ (qs : List Pt) (p : Pt) (x y : Int), Tab (p :: qs) → p.1 ≤ x → x ≤ y → seg x p qs ≤ seg y p qs
  | [], p, x, y, _, _, _ => Int.le_refl _
  | q :: qs, p, x, y, h, h0, hxy => by
    unfold seg
    by_cases h1 : q.1 ≤ x
    · rw [if_pos h1, if_pos (by omega)]
      exact seg_mono qs q x y h.tail h1 hxy
    · rw [if_neg h1]
      by_cases h2 : q.1 ≤ y
      · rw [if_pos h2]
        have h3 := (lin_b h0 (by omega) h.2.2.1 : p.2 ≤ lin x p q ∧ lin x p q ≤ q.2).2
        have h4 := seg_ge qs q y h.tail h2
        omega
      · rw [if_neg h2]
        exact lin_mono h0 hxy (by omega) h.2.2.1
theorem seg_end : ∀ (qs : List Pt) (p : Pt) (x : Int), Tab (p :: qs) → (lastP p qs).1 ≤ x → seg x p qs = (lastP p qs).2
  | [], p, x, _, _ => rfl
  | q :: qs, p, x, h, h0 => by
    have key : ∀ (qs : List Pt) (q : Pt), Tab (q :: qs) → q.1 ≤ (lastP q qs).1 := by
      intro qs
      induction qs with
      | nil => intro q _; exact Int.le_refl _
      | cons r rs ih => intro q h; have := ih r h.tail; have := h.2.1; show q.1 ≤ (lastP r rs).1; omega
    have h1 := key qs q h.tail
    have h2 : (lastP q qs).1 ≤ x := h0
    unfold seg
    rw [if_pos (by omega)]
    exact seg_end qs q x h.tail h2
theorem lastP_get : ∀ (qs : List Pt) (p : Pt), lastP p qs = (p :: qs)[qs.length]
  | [], p => rfl
  | q :: qs, p => by
    show lastP q qs = _
    rw [lastP_get qs q]
    rfl
theorem lastP_ge : ∀ (qs : List Pt) (p : Pt), Tab (p :: qs) → p.1 ≤ (lastP p qs).1
  | [], p, _ => Int.le_refl _
  | q :: qs, p, h => by have := lastP_ge qs q h.tail; have := h.2.1; show p.1 ≤ (lastP q qs).1; omega
theorem valueAt_mono {ps : List Pt} {x y : Int} (h : x ≤ y) : valueAt ps x ≤ valueAt ps y := by
  unfold valueAt
  by_cases ht : tableOk ps = true
  · rw [if_pos ht, if_pos ht]
    obtain ⟨h1, h2, _⟩ := tab_of ht
    match ps, h1, h2 with
    | p :: qs, h1, _ =>
      show (if x ≤ p.1 then p.2 else seg x p qs) ≤ (if y ≤ p.1 then p.2 else seg y p qs)
      by_cases c : x ≤ p.1
      · rw [if_pos c]
        split
        · exact Int.le_refl _
        · exact seg_ge qs p y h1 (by omega)
      · rw [if_neg c, if_neg (by omega)]
        exact seg_mono qs p x y h1 (by omega) h
  · rw [if_neg ht, if_neg ht]
    exact Int.le_refl _
theorem valueAt_b (ps : List Pt) (x : Int) : 0 ≤ valueAt ps x ∧ valueAt ps x ≤ 1000000000 := by
  unfold valueAt
  by_cases ht : tableOk ps = true
  · rw [if_pos ht]
    obtain ⟨h1, h2, _⟩ := tab_of ht
    match ps, h1, h2 with
    | p :: qs, h1, _ =>
      show 0 ≤ (if x ≤ p.1 then p.2 else seg x p qs) ∧ (if x ≤ p.1 then p.2 else seg x p qs) ≤ _
      have hb := h1.b
      have hl := h1.get qs.length (by simp)
      rw [← lastP_get] at hl
      split
      · omega
      · have := seg_ge qs p x h1 (by omega)
        have := seg_le qs p x h1 (by omega)
        omega
  · rw [if_neg ht]
    omega
/-- The value at the last place. -/
theorem valueAt_last {ps : List Pt} (ht : tableOk ps = true) (k : Nat) (hk : k + 1 = ps.length) : valueAt ps (ps[k].1) = (ps[k]).2 := by
  unfold valueAt
  rw [if_pos ht]
  obtain ⟨h1, h2, _⟩ := tab_of ht
  match ps, h1, h2, hk with
  | p :: qs, h1, h2, hk =>
    have e : k = qs.length := by simp at hk; omega
    subst e
    rw [← lastP_get]
    show (if (lastP p qs).1 ≤ p.1 then p.2 else seg (lastP p qs).1 p qs) = _
    rw [if_neg, seg_end qs p _ h1 (Int.le_refl _)]
    match qs, h1, h2 with
    | q :: qs, h1, _ =>
      have h3 := h1.2.1
      have h4 := lastP_ge qs q h1.tail
      show ¬ (lastP q qs).1 ≤ p.1
      omega
/-- z is the least place with a value of y at least. -/
def IsPlace (ps : List Pt) (y z : Int) : Prop := ∃ (h : 0 < ps.length), ps[0].1 ≤ z ∧ z ≤ (ps[ps.length - 1]).1 ∧ y ≤ valueAt ps z ∧ (z = ps[0].1 ∨ valueAt ps (z - 1) < y)
theorem IsPlace.same {ps : List Pt} {y z z' : Int} (h : IsPlace ps y z) (h' : IsPlace ps y z') : z = z' := by
  obtain ⟨_, a1, a2, a3, a4⟩ := h
  obtain ⟨_, b1, b2, b3, b4⟩ := h'
  rcases Int.lt_trichotomy z z' with c | c | c
  · exfalso
    have := valueAt_mono (ps := ps) (x := z) (y := z' - 1) (by omega)
    omega
  · exact c
  · exfalso
    have := valueAt_mono (ps := ps) (x := z') (y := z - 1) (by omega)
    omega
/-! ### Reaches -/
def sumFrom (n : Int) (xs : List Int) : Int := xs.foldl (fun n x => n + x) n
def reachOk (ps : List Pt) (vol : Int) (xs : List Int) : Bool := (tableOk ps && (inR vol 0 1000000000 && decide (xs.length ≤ 12))) && (xs.all (fun x => inR x 0 1000000000) && decide (sumFrom vol xs ≤ 1000000000))
theorem reachOk_parts {ps : List Pt} {vol : Int} {xs : List Int} (h : reachOk ps vol xs = true) : tableOk ps = true ∧ (0 ≤ vol ∧ vol ≤ 1000000000) ∧ xs.length ≤ 12 ∧ (∀ x ∈ xs, 0 ≤ x ∧ x ≤ 1000000000) ∧ sumFrom vol xs ≤ 1000000000 := by
  simp only [reachOk, inR, Bool.and_eq_true, decide_eq_true_eq, List.all_eq_true] at h
  exact ⟨h.1.1, by omega, h.1.2.2, fun x hx => by have := h.2.1 x hx; omega, h.2.2⟩
/-- z is the level. -/
def IsLevel (ps : List Pt) (vol : Int) (xs : List Int) (z : Int) : Prop :=
  if reachOk ps vol xs then (∃ (h : 0 < ps.length), if (ps[ps.length - 1]).2 < vol then z = (ps[ps.length - 1]).1 else IsPlace ps vol z) else z = 0
theorem IsLevel.same {ps : List Pt} {vol : Int} {xs : List Int} {z z' : Int} (h : IsLevel ps vol xs z) (h' : IsLevel ps vol xs z') : z = z' := by
  unfold IsLevel at *
  split at h
  · rename_i c
    rw [if_pos c] at h'
    obtain ⟨p, h⟩ := h
    obtain ⟨_, h'⟩ := h'
    split at h
    · rename_i c; rw [if_pos c] at h'; rw [h, h']
    · rename_i c; rw [if_neg c] at h'; exact h.same h'
  · rename_i c; rw [if_neg c] at h'; rw [h, h']
open Classical in
noncomputable def levelOf (ps : List Pt) (vol : Int) (xs : List Int) : Int := if h : ∃ z, IsLevel ps vol xs z then Classical.choose h else 0
theorem IsLevel.eq {ps : List Pt} {vol : Int} {xs : List Int} {z : Int} (h : IsLevel ps vol xs z) : z = levelOf ps vol xs := by
  have he : ∃ z, IsLevel ps vol xs z := ⟨z, h⟩
  unfold levelOf
  rw [dif_pos he]
  exact h.same (Classical.choose_spec he)
theorem IsLevel.b {ps : List Pt} {vol : Int} {xs : List Int} {z : Int} (h : IsLevel ps vol xs z) : 0 ≤ z ∧ z ≤ 1000000000 := by
  unfold IsLevel at h
  split at h
  · rename_i c
    obtain ⟨p, h⟩ := h
    obtain ⟨ht, _⟩ := tab_of (reachOk_parts c).1
    have h1 := ht.get (ps.length - 1) (by omega)
    have h0 := ht.get 0 p
    split at h
    · omega
    · obtain ⟨_, a1, a2, _⟩ := h
      omega
  · omega
theorem levelOf_b (ps : List Pt) (vol : Int) (xs : List Int) : 0 ≤ levelOf ps vol xs ∧ levelOf ps vol xs ≤ 1000000000 := by
  by_cases he : ∃ z, IsLevel ps vol xs z
  · obtain ⟨z, h⟩ := he
    rw [← h.eq]
    exact h.b
  · unfold levelOf
    rw [dif_neg he]
    omega
end Go.Proofs.Ytmppoflgbmabpaa
/- TableOk, ValueAt on both sides. -/
namespace Go.Proofs.Ytmppoflgbmabpaa
open Go.RowKit
set_option linter.unusedSimpArgs false
set_option linter.unusedVariables false

theorem tab_short {ps : List Pt} (h : ps.length < 2 ∨ 20 < ps.length) : false = tableOk ps := by
  rw [tableOk, decide_eq_false (by omega), Bool.false_and]
theorem tab_bad {ps : List Pt} {b : Bool} (h : tabGo ps = (false && b)) : false = tableOk ps := by
  rw [tableOk, h, Bool.false_and, Bool.and_false]
theorem tab_good {ps : List Pt} (h : 2 ≤ ps.length ∧ ps.length ≤ 20) (h2 : tabGo ps = true) : true = tableOk ps := by
  rw [tableOk, h2, decide_eq_true h]; rfl
theorem ptOk_eq (p1 p2 : Int) : ptOk (p1, p2) = (inR p1 0 1000000000 && inR p2 0 1000000000) := rfl

set_option maxRecDepth 100000 in
set_option maxHeartbeats 4000000 in
theorem implTableOk_any (a : Option Addr) (n c : Nat) (ps : List Pt) (w : World) (hn : n = ps.length) (hs : n ≤ maxLen) (hf : FlatAt w ptCells 2 a ps) :
    Calls Try.prog 51 #[.slice a n c] w fun e w' => e = .returned (.bool (tableOk ps)) ∧ Ext w w' := by
  unfold maxLen at hs
  have HF := Lib.hid hf; clear hf
  by_cases h : n < 2 ∨ 20 < n
  · have HN := Lib.hid hn; clear hn
    rcases (by omega : n < 2 ∨ (2 ≤ n ∧ 20 < n)) with h1 | ⟨h1, h2⟩
    all_goals
      go_enter Try.func51, Try.ntmps51
      go_wp2
      go_ret
      exact ⟨ret_bool (tab_short (by rw [← HN.out]; exact h)), by (repeat' (first | (with_reducible exact Ext.refl _) | (with_reducible assumption) | (with_reducible refine Ext.alloc ?_ _) | (with_reducible refine Ext.drewN ?_ _) | (with_reducible refine Ext.drew ?_) | (with_reducible refine Ext.setCell ?_ ?_ _) | (with_reducible exact Nat.le_refl _) | (with_reducible exact Nat.le_succ _) | (with_reducible refine Ext.trans ?_ (by assumption)) | (simp; done) | (simp; omega)))⟩
  have hn2 : 2 ≤ n := by omega
  have hn20 : n ≤ 20 := by omega
  have HN := Lib.hid hn; clear hn h
  go_enter Try.func51, Try.ntmps51
  go_wp2
  go_loopw [15] (fun i wr => ∃ (k : Nat), k ≤ n ∧ i = .int .i64 k ∧ Ext w wr ∧ Hid (tabGo ps = tabFrom ps k)) (fun i _ => n - (intOf i).toNat)
  case atStart => exact ⟨0, Nat.zero_le _, rfl, by (repeat' (first | (with_reducible exact Ext.refl _) | (with_reducible assumption) | (with_reducible refine Ext.alloc ?_ _) | (with_reducible refine Ext.drewN ?_ _) | (with_reducible refine Ext.drew ?_) | (with_reducible refine Ext.setCell ?_ ?_ _) | (with_reducible exact Nat.le_refl _) | (with_reducible exact Nat.le_succ _) | (with_reducible refine Ext.trans ?_ (by assumption)) | (simp; done) | (simp; omega))), rfl⟩
  case round =>
    obtain ⟨k, hk, rfl, hr, hgo⟩ := hrel
    by_cases hlt : k < n
    · have hlt' : k < ps.length := by rw [← HN.out]; exact hlt
      obtain ⟨b, off, rfl, hcell⟩ := HF.out.get k hlt'
      obtain ⟨p1, p2, hp⟩ : ∃ p1 p2, ps[k] = (p1, p2) := ⟨_, _, rfl⟩
      rw [hp] at hcell
      have e1 : wr.cell? ⟨b, off + k * 2, none⟩ = some (.int .i64 p1) := hcell 0 _ rfl _ hr
      have e2 : wr.cell? ⟨b, off + k * 2 + 1, none⟩ = some (.int .i64 p2) := hcell 1 _ rfl _ hr
      have eX := (Ext.refl wr).alloc (.cells #[.int .i64 p1, .int .i64 p2] 37)
      have x1 : ∀ x : Aft (wr.alloc (.cells #[.int .i64 p1, .int .i64 p2] 37)), x.1.cell? ⟨wr.heap.size, 0, none⟩ = some (.int .i64 p1) := fun x => ((RowAt.new wr 37 #[.int .i64 p1, .int .i64 p2]).ext x.2).cell rfl
      have x2 : ∀ x : Aft (wr.alloc (.cells #[.int .i64 p1, .int .i64 p2] 37)), x.1.cell? ⟨wr.heap.size, 1, none⟩ = some (.int .i64 p2) := fun x => ((RowAt.new wr 37 #[.int .i64 p1, .int .i64 p2]).ext x.2).cell rfl
      clear hcell
      cases k with
      | zero =>
        have HD := Lib.hid (show tabGo ps = ((inR p1 0 1000000000 && inR p2 0 1000000000) && tabFrom ps 1) by rw [hgo.out, tabFrom_zero ps (by omega), hp, ptOk_eq])
        clear hp hgo
        (try simp only [Nat.zero_mul, Nat.add_zero] at e1 e2)
        obtain ⟨b1, hb1⟩ : ∃ b1, inR p1 0 1000000000 = b1 := ⟨_, rfl⟩
        obtain ⟨b2, hb2⟩ : ∃ b2, inR p2 0 1000000000 = b2 := ⟨_, rfl⟩
        rw [hb1, hb2] at HD
        cases b1
        · go_wp2_with ((go_at_call 26; refine (inRange_any _ _ _ _).mono ?_; rintro e w' ⟨rfl, rfl⟩))
          go_ret
          exact ⟨ret_bool (tab_bad (b := false) (by rw [HD.out]; simp)), by (repeat' (first | (with_reducible exact Ext.refl _) | (with_reducible assumption) | (with_reducible refine Ext.alloc ?_ _) | (with_reducible refine Ext.drewN ?_ _) | (with_reducible refine Ext.drew ?_) | (with_reducible refine Ext.setCell ?_ ?_ _) | (with_reducible exact Nat.le_refl _) | (with_reducible exact Nat.le_succ _) | (with_reducible refine Ext.trans ?_ (by assumption)) | (simp; done) | (simp; omega)))⟩
        cases b2
        · go_wp2_with ((go_at_call 26; refine (inRange_any _ _ _ _).mono ?_; rintro e w' ⟨rfl, rfl⟩))
          go_ret
          exact ⟨ret_bool (tab_bad (b := false) (by rw [HD.out]; simp)), by (repeat' (first | (with_reducible exact Ext.refl _) | (with_reducible assumption) | (with_reducible refine Ext.alloc ?_ _) | (with_reducible refine Ext.drewN ?_ _) | (with_reducible refine Ext.drew ?_) | (with_reducible refine Ext.setCell ?_ ?_ _) | (with_reducible exact Nat.le_refl _) | (with_reducible exact Nat.le_succ _) | (with_reducible refine Ext.trans ?_ (by assumption)) | (simp; done) | (simp; omega)))⟩
        go_wp2_with ((go_at_call 26; refine (inRange_any _ _ _ _).mono ?_; rintro e w' ⟨rfl, rfl⟩))
        try ((refine wp_region_aft (wr.alloc (.cells #[.int .i64 p1, .int .i64 p2] 37)) (Ext.refl _) (by kernel_rfl) (by kernel_rfl) ?_; (repeat (go_big_quiet_step (fail))); refine wpQuiet_nil ?_; intro w2 hx2))
        go_wp2
        go_roundw
        case rel => exact ⟨1, by omega, by go_num, by (repeat' (first | (with_reducible exact Ext.refl _) | (with_reducible assumption) | (with_reducible refine Ext.alloc ?_ _) | (with_reducible refine Ext.drewN ?_ _) | (with_reducible refine Ext.drew ?_) | (with_reducible refine Ext.setCell ?_ ?_ _) | (with_reducible exact Nat.le_refl _) | (with_reducible exact Nat.le_succ _) | (with_reducible refine Ext.trans ?_ (by assumption)) | (simp; done) | (simp; omega))), by (show _ = _); rw [HD.out]; simp⟩
        case measure => simp [intOf]; omega
      | succ k =>
        have hlt2 : k < ps.length := by omega
        obtain ⟨b', off', e', hcell'⟩ := HF.out.get k hlt2
        cases e'
        obtain ⟨q1, q2, hq⟩ : ∃ q1 q2, ps[k] = (q1, q2) := ⟨_, _, rfl⟩
        rw [hq] at hcell'
        have y1 : ∀ x : Aft (wr.alloc (.cells #[.int .i64 p1, .int .i64 p2] 37)), x.1.cell? ⟨b, off + k * 2, none⟩ = some (.int .i64 q1) := fun x => hcell' 0 _ rfl _ (hr.trans (eX.trans x.2))
        have y2 : ∀ x : Aft (wr.alloc (.cells #[.int .i64 p1, .int .i64 p2] 37)), x.1.cell? ⟨b, off + k * 2 + 1, none⟩ = some (.int .i64 q2) := fun x => hcell' 1 _ rfl _ (hr.trans (eX.trans x.2))
        have HD := Lib.hid (show tabGo ps = (((inR p1 0 1000000000 && inR p2 0 1000000000) && (decide (q1 < p1) && decide (q2 ≤ p2))) && tabFrom ps (k + 2)) by rw [hgo.out, tabFrom_succ ps k hlt', hp, hq, ptOk_eq])
        clear hp hq hgo hcell'
        obtain ⟨b1, hb1⟩ : ∃ b1, inR p1 0 1000000000 = b1 := ⟨_, rfl⟩
        obtain ⟨b2, hb2⟩ : ∃ b2, inR p2 0 1000000000 = b2 := ⟨_, rfl⟩
        rw [hb1, hb2] at HD
        cases b1
        · go_wp2_with ((go_at_call 26; refine (inRange_any _ _ _ _).mono ?_; rintro e w' ⟨rfl, rfl⟩))
          go_ret
          exact ⟨ret_bool (tab_bad (b := false) (by rw [HD.out]; simp)), by (repeat' (first | (with_reducible exact Ext.refl _) | (with_reducible assumption) | (with_reducible refine Ext.alloc ?_ _) | (with_reducible refine Ext.drewN ?_ _) | (with_reducible refine Ext.drew ?_) | (with_reducible refine Ext.setCell ?_ ?_ _) | (with_reducible exact Nat.le_refl _) | (with_reducible exact Nat.le_succ _) | (with_reducible refine Ext.trans ?_ (by assumption)) | (simp; done) | (simp; omega)))⟩
        cases b2
        · go_wp2_with ((go_at_call 26; refine (inRange_any _ _ _ _).mono ?_; rintro e w' ⟨rfl, rfl⟩))
          go_ret
          exact ⟨ret_bool (tab_bad (b := false) (by rw [HD.out]; simp)), by (repeat' (first | (with_reducible exact Ext.refl _) | (with_reducible assumption) | (with_reducible refine Ext.alloc ?_ _) | (with_reducible refine Ext.drewN ?_ _) | (with_reducible refine Ext.drew ?_) | (with_reducible refine Ext.setCell ?_ ?_ _) | (with_reducible exact Nat.le_refl _) | (with_reducible exact Nat.le_succ _) | (with_reducible refine Ext.trans ?_ (by assumption)) | (simp; done) | (simp; omega)))⟩
        have k0 : 0 < k + 1 := by omega
        by_cases c1 : p1 ≤ q1
        · have d1 : decide (q1 < p1) = false := by simpa using c1
          go_wp2_with ((go_at_call 26; refine (inRange_any _ _ _ _).mono ?_; rintro e w' ⟨rfl, rfl⟩))
          (refine wp_region_aft (wr.alloc (.cells #[.int .i64 p1, .int .i64 p2] 37)) (Ext.refl _) (by kernel_rfl) (by kernel_rfl) ?_; (repeat (go_big_quiet_step (fail))); refine wpQuiet_nil ?_; intro w2 hx2)
          go_wp2
          go_ret
          exact ⟨ret_bool (tab_bad (b := false) (by rw [HD.out, d1]; simp)), by (repeat' (first | (with_reducible exact Ext.refl _) | (with_reducible assumption) | (with_reducible refine Ext.alloc ?_ _) | (with_reducible refine Ext.drewN ?_ _) | (with_reducible refine Ext.drew ?_) | (with_reducible refine Ext.setCell ?_ ?_ _) | (with_reducible exact Nat.le_refl _) | (with_reducible exact Nat.le_succ _) | (with_reducible refine Ext.trans ?_ (by assumption)) | (simp; done) | (simp; omega)))⟩
        have dd1 : decide (p1 ≤ q1) = false := by simp; omega
        by_cases c2 : p2 < q2
        · have d2 : decide (q2 ≤ p2) = false := by simpa using c2
          go_wp2_with ((go_at_call 26; refine (inRange_any _ _ _ _).mono ?_; rintro e w' ⟨rfl, rfl⟩))
          (refine wp_region_aft (wr.alloc (.cells #[.int .i64 p1, .int .i64 p2] 37)) (Ext.refl _) (by kernel_rfl) (by kernel_rfl) ?_; (repeat (go_big_quiet_step (fail))); refine wpQuiet_nil ?_; intro w2 hx2)
          go_wp2
          go_ret
          exact ⟨ret_bool (tab_bad (b := false) (by rw [HD.out, d2]; simp)), by (repeat' (first | (with_reducible exact Ext.refl _) | (with_reducible assumption) | (with_reducible refine Ext.alloc ?_ _) | (with_reducible refine Ext.drewN ?_ _) | (with_reducible refine Ext.drew ?_) | (with_reducible refine Ext.setCell ?_ ?_ _) | (with_reducible exact Nat.le_refl _) | (with_reducible exact Nat.le_succ _) | (with_reducible refine Ext.trans ?_ (by assumption)) | (simp; done) | (simp; omega)))⟩
        · have dd2 : decide (p2 < q2) = false := by simp; omega
          have d1 : decide (q1 < p1) = true := by simp; omega
          have d2 : decide (q2 ≤ p2) = true := by simp; omega
          go_wp2_with ((go_at_call 26; refine (inRange_any _ _ _ _).mono ?_; rintro e w' ⟨rfl, rfl⟩))
          (refine wp_region_aft (wr.alloc (.cells #[.int .i64 p1, .int .i64 p2] 37)) (Ext.refl _) (by kernel_rfl) (by kernel_rfl) ?_; (repeat (go_big_quiet_step (fail))); refine wpQuiet_nil ?_; intro w2 hx2)
          go_wp2
          go_roundw
          case rel => exact ⟨k + 2, by omega, by go_num, by (repeat' (first | (with_reducible exact Ext.refl _) | (with_reducible assumption) | (with_reducible refine Ext.alloc ?_ _) | (with_reducible refine Ext.drewN ?_ _) | (with_reducible refine Ext.drew ?_) | (with_reducible refine Ext.setCell ?_ ?_ _) | (with_reducible exact Nat.le_refl _) | (with_reducible exact Nat.le_succ _) | (with_reducible refine Ext.trans ?_ (by assumption)) | (simp; done) | (simp; omega))), by (show _ = _); rw [HD.out, d1, d2]; simp⟩
          case measure => simp [intOf]; omega
    · have hkn : k = n := by omega
      have HG := Lib.hid (show tabGo ps = true by rw [hgo.out, hkn, HN.out, tabFrom_end])
      go_wp2
      go_ret
      exact ⟨ret_bool (tab_good (by rw [← HN.out]; omega) HG.out), hr⟩

set_option maxRecDepth 100000 in
set_option maxHeartbeats 4000000 in
theorem specTableOk_any (a : Option Addr) (n c : Nat) (ps : List Pt) (w : World) (hn : n = ps.length) (hs : n ≤ maxLen) (hf : FlatAt w ptCells 2 a ps) :
    Calls Try.prog 53 #[.slice a n c] w fun e w' => e = .returned (.bool (tableOk ps)) ∧ Ext w w' := by
  unfold maxLen at hs
  have HF := Lib.hid hf; clear hf
  have HN := Lib.hid hn; clear hn
  go_enter Try.func53, Try.ntmps53
  go_wp2
  go_loopw [3] (fun i wr => ∃ (k : Nat), k ≤ n ∧ i = .int .i64 k ∧ Ext w wr ∧ Hid (tabGo ps = tabFrom ps k)) (fun i _ => n - (intOf i).toNat)
  case atStart => exact ⟨0, Nat.zero_le _, rfl, by (repeat' (first | (with_reducible exact Ext.refl _) | (with_reducible assumption) | (with_reducible refine Ext.alloc ?_ _) | (with_reducible refine Ext.drewN ?_ _) | (with_reducible refine Ext.drew ?_) | (with_reducible refine Ext.setCell ?_ ?_ _) | (with_reducible exact Nat.le_refl _) | (with_reducible exact Nat.le_succ _) | (with_reducible refine Ext.trans ?_ (by assumption)) | (simp; done) | (simp; omega))), rfl⟩
  case round =>
    obtain ⟨k, hk, rfl, hr, hgo⟩ := hrel
    by_cases hlt : k < n
    · have hlt' : k < ps.length := by rw [← HN.out]; exact hlt
      obtain ⟨b, off, rfl, hcell⟩ := HF.out.get k hlt'
      obtain ⟨p1, p2, hp⟩ : ∃ p1 p2, ps[k] = (p1, p2) := ⟨_, _, rfl⟩
      rw [hp] at hcell
      have x1 : ∀ x : Aft wr, x.1.cell? ⟨b, off + k * 2, none⟩ = some (.int .i64 p1) := fun x => hcell 0 _ rfl _ (hr.trans x.2)
      have x2 : ∀ x : Aft wr, x.1.cell? ⟨b, off + k * 2 + 1, none⟩ = some (.int .i64 p2) := fun x => hcell 1 _ rfl _ (hr.trans x.2)
      clear hcell
      cases k with
      | zero =>
        have HD := Lib.hid (show tabGo ps = ((inR p1 0 1000000000 && inR p2 0 1000000000) && tabFrom ps 1) by rw [hgo.out, tabFrom_zero ps (by omega), hp, ptOk_eq])
        clear hp hgo
        (try simp only [Nat.zero_mul, Nat.add_zero] at x1 x2)
        obtain ⟨b1, hb1⟩ : ∃ b1, inR p1 0 1000000000 = b1 := ⟨_, rfl⟩
        obtain ⟨b2, hb2⟩ : ∃ b2, inR p2 0 1000000000 = b2 := ⟨_, rfl⟩
        rw [hb1, hb2] at HD
        cases b1
        · go_wp2_with fail
          (refine wp_region_aft wr (Ext.refl _) (by kernel_rfl) (by kernel_rfl) ?_; (repeat (go_big_quiet_step ((go_at_call 36; exact aft_same (l01In_any _ _ _ _))))); refine wpQuiet_nil ?_; intro w2 hx2)
          go_wp2
          go_ret
          exact ⟨ret_bool (tab_bad (b := false) (by rw [HD.out]; simp)), by (repeat' (first | (with_reducible exact Ext.refl _) | (with_reducible assumption) | (with_reducible refine Ext.alloc ?_ _) | (with_reducible refine Ext.drewN ?_ _) | (with_reducible refine Ext.drew ?_) | (with_reducible refine Ext.setCell ?_ ?_ _) | (with_reducible exact Nat.le_refl _) | (with_reducible exact Nat.le_succ _) | (with_reducible refine Ext.trans ?_ (by assumption)) | (simp; done) | (simp; omega)))⟩
        cases b2
        · go_wp2_with fail
          (refine wp_region_aft wr (Ext.refl _) (by kernel_rfl) (by kernel_rfl) ?_; (repeat (go_big_quiet_step ((go_at_call 36; exact aft_same (l01In_any _ _ _ _))))); refine wpQuiet_nil ?_; intro w2 hx2)
          go_wp2
          go_ret
          exact ⟨ret_bool (tab_bad (b := false) (by rw [HD.out]; simp)), by (repeat' (first | (with_reducible exact Ext.refl _) | (with_reducible assumption) | (with_reducible refine Ext.alloc ?_ _) | (with_reducible refine Ext.drewN ?_ _) | (with_reducible refine Ext.drew ?_) | (with_reducible refine Ext.setCell ?_ ?_ _) | (with_reducible exact Nat.le_refl _) | (with_reducible exact Nat.le_succ _) | (with_reducible refine Ext.trans ?_ (by assumption)) | (simp; done) | (simp; omega)))⟩
        go_wp2_with fail
        (refine wp_region_aft wr (Ext.refl _) (by kernel_rfl) (by kernel_rfl) ?_; (repeat (go_big_quiet_step ((go_at_call 36; exact aft_same (l01In_any _ _ _ _))))); refine wpQuiet_nil ?_; intro w2 hx2)
        go_wp2
        go_roundw
        case rel => exact ⟨1, by omega, by go_num, by (repeat' (first | (with_reducible exact Ext.refl _) | (with_reducible assumption) | (with_reducible refine Ext.alloc ?_ _) | (with_reducible refine Ext.drewN ?_ _) | (with_reducible refine Ext.drew ?_) | (with_reducible refine Ext.setCell ?_ ?_ _) | (with_reducible exact Nat.le_refl _) | (with_reducible exact Nat.le_succ _) | (with_reducible refine Ext.trans ?_ (by assumption)) | (simp; done) | (simp; omega))), by (show _ = _); rw [HD.out]; simp⟩
        case measure => simp [intOf]; omega
      | succ k =>
        have hlt2 : k < ps.length := by omega
        obtain ⟨b', off', e', hcell'⟩ := HF.out.get k hlt2
        cases e'
        obtain ⟨q1, q2, hq⟩ : ∃ q1 q2, ps[k] = (q1, q2) := ⟨_, _, rfl⟩
        rw [hq] at hcell'
        have y1 : ∀ x : Aft wr, x.1.cell? ⟨b, off + k * 2, none⟩ = some (.int .i64 q1) := fun x => hcell' 0 _ rfl _ (hr.trans x.2)
        have y2 : ∀ x : Aft wr, x.1.cell? ⟨b, off + k * 2 + 1, none⟩ = some (.int .i64 q2) := fun x => hcell' 1 _ rfl _ (hr.trans x.2)
        have HD := Lib.hid (show tabGo ps = (((inR p1 0 1000000000 && inR p2 0 1000000000) && (decide (q1 < p1) && decide (q2 ≤ p2))) && tabFrom ps (k + 2)) by rw [hgo.out, tabFrom_succ ps k hlt', hp, hq, ptOk_eq])
        clear hp hq hgo hcell'
        obtain ⟨b1, hb1⟩ : ∃ b1, inR p1 0 1000000000 = b1 := ⟨_, rfl⟩
        obtain ⟨b2, hb2⟩ : ∃ b2, inR p2 0 1000000000 = b2 := ⟨_, rfl⟩
        rw [hb1, hb2] at HD
        cases b1
        · go_wp2_with fail
          (refine wp_region_aft wr (Ext.refl _) (by kernel_rfl) (by kernel_rfl) ?_; (repeat (go_big_quiet_step ((go_at_call 36; exact aft_same (l01In_any _ _ _ _))))); refine wpQuiet_nil ?_; intro w2 hx2)
          go_wp2
          go_ret
          exact ⟨ret_bool (tab_bad (b := false) (by rw [HD.out]; simp)), by (repeat' (first | (with_reducible exact Ext.refl _) | (with_reducible assumption) | (with_reducible refine Ext.alloc ?_ _) | (with_reducible refine Ext.drewN ?_ _) | (with_reducible refine Ext.drew ?_) | (with_reducible refine Ext.setCell ?_ ?_ _) | (with_reducible exact Nat.le_refl _) | (with_reducible exact Nat.le_succ _) | (with_reducible refine Ext.trans ?_ (by assumption)) | (simp; done) | (simp; omega)))⟩
        cases b2
        · go_wp2_with fail
          (refine wp_region_aft wr (Ext.refl _) (by kernel_rfl) (by kernel_rfl) ?_; (repeat (go_big_quiet_step ((go_at_call 36; exact aft_same (l01In_any _ _ _ _))))); refine wpQuiet_nil ?_; intro w2 hx2)
          go_wp2
          go_ret
          exact ⟨ret_bool (tab_bad (b := false) (by rw [HD.out]; simp)), by (repeat' (first | (with_reducible exact Ext.refl _) | (with_reducible assumption) | (with_reducible refine Ext.alloc ?_ _) | (with_reducible refine Ext.drewN ?_ _) | (with_reducible refine Ext.drew ?_) | (with_reducible refine Ext.setCell ?_ ?_ _) | (with_reducible exact Nat.le_refl _) | (with_reducible exact Nat.le_succ _) | (with_reducible refine Ext.trans ?_ (by assumption)) | (simp; done) | (simp; omega)))⟩
        have k0 : 0 < k + 1 := by omega
        by_cases c1 : p1 ≤ q1
        · have d1 : decide (q1 < p1) = false := by simpa using c1
          go_wp2_with fail
          (refine wp_region_aft wr (Ext.refl _) (by kernel_rfl) (by kernel_rfl) ?_; (repeat (go_big_quiet_step ((go_at_call 36; exact aft_same (l01In_any _ _ _ _))))); refine wpQuiet_nil ?_; intro w2 hx2)
          go_wp2
          go_ret
          exact ⟨ret_bool (tab_bad (b := false) (by rw [HD.out, d1]; simp)), by (repeat' (first | (with_reducible exact Ext.refl _) | (with_reducible assumption) | (with_reducible refine Ext.alloc ?_ _) | (with_reducible refine Ext.drewN ?_ _) | (with_reducible refine Ext.drew ?_) | (with_reducible refine Ext.setCell ?_ ?_ _) | (with_reducible exact Nat.le_refl _) | (with_reducible exact Nat.le_succ _) | (with_reducible refine Ext.trans ?_ (by assumption)) | (simp; done) | (simp; omega)))⟩
        have dd1 : decide (p1 ≤ q1) = false := by simp; omega
        by_cases c2 : p2 < q2
        · have d2 : decide (q2 ≤ p2) = false := by simpa using c2
          go_wp2_with fail
          (refine wp_region_aft wr (Ext.refl _) (by kernel_rfl) (by kernel_rfl) ?_; (repeat (go_big_quiet_step ((go_at_call 36; exact aft_same (l01In_any _ _ _ _))))); refine wpQuiet_nil ?_; intro w2 hx2)
          go_wp2
          go_ret
          exact ⟨ret_bool (tab_bad (b := false) (by rw [HD.out, d2]; simp)), by (repeat' (first | (with_reducible exact Ext.refl _) | (with_reducible assumption) | (with_reducible refine Ext.alloc ?_ _) | (with_reducible refine Ext.drewN ?_ _) | (with_reducible refine Ext.drew ?_) | (with_reducible refine Ext.setCell ?_ ?_ _) | (with_reducible exact Nat.le_refl _) | (with_reducible exact Nat.le_succ _) | (with_reducible refine Ext.trans ?_ (by assumption)) | (simp; done) | (simp; omega)))⟩
        · have dd2 : decide (p2 < q2) = false := by simp; omega
          have d1 : decide (q1 < p1) = true := by simp; omega
          have d2 : decide (q2 ≤ p2) = true := by simp; omega
          go_wp2_with fail
          (refine wp_region_aft wr (Ext.refl _) (by kernel_rfl) (by kernel_rfl) ?_; (repeat (go_big_quiet_step ((go_at_call 36; exact aft_same (l01In_any _ _ _ _))))); refine wpQuiet_nil ?_; intro w2 hx2)
          go_wp2
          go_roundw
          case rel => exact ⟨k + 2, by omega, by go_num, by (repeat' (first | (with_reducible exact Ext.refl _) | (with_reducible assumption) | (with_reducible refine Ext.alloc ?_ _) | (with_reducible refine Ext.drewN ?_ _) | (with_reducible refine Ext.drew ?_) | (with_reducible refine Ext.setCell ?_ ?_ _) | (with_reducible exact Nat.le_refl _) | (with_reducible exact Nat.le_succ _) | (with_reducible refine Ext.trans ?_ (by assumption)) | (simp; done) | (simp; omega))), by (show _ = _); rw [HD.out, d1, d2]; simp⟩
          case measure => simp [intOf]; omega
    · have hkn : k = n := by omega
      have HG := Lib.hid (show tabGo ps = true by rw [hgo.out, hkn, HN.out, tabFrom_end])
      have HT := Lib.hid (show inR (n : Int) 2 20 = tableOk ps by
        rw [tableOk, HG.out, Bool.and_true, inR, ← HN.out]
        exact decide_eq_decide.2 (by omega))
      go_wp2_with ((go_at_call 36; refine (l01In_any _ _ _ _).mono ?_; rintro e w' ⟨rfl, rfl⟩))
      go_ret
      exact ⟨ret_bool HT.out, hr⟩
end Go.Proofs.Ytmppoflgbmabpaa
/- ValueAt on both sides. -/
namespace Go.Proofs.Ytmppoflgbmabpaa
open Go.RowKit
set_option linter.unusedSimpArgs false
set_option linter.unusedVariables false

theorem specTableOk_is (R : Bool) (a : Option Addr) (n c : Nat) (ps : List Pt) (w : World) (hn : n = ps.length) (hs : n ≤ maxLen) (hf : FlatAt w ptCells 2 a ps) (hR : tableOk ps = R) :
    Calls Try.prog 53 #[.slice a n c] w fun e w' => e = .returned (.bool R) ∧ Ext w w' := by
  subst hR
  exact specTableOk_any a n c ps w hn hs hf
theorem implTableOk_is (R : Bool) (a : Option Addr) (n c : Nat) (ps : List Pt) (w : World) (hn : n = ps.length) (hs : n ≤ maxLen) (hf : FlatAt w ptCells 2 a ps) (hR : tableOk ps = R) :
    Calls Try.prog 51 #[.slice a n c] w fun e w' => e = .returned (.bool R) ∧ Ext w w' := by
  subst hR
  exact implTableOk_any a n c ps w hn hs hf
theorem Tab.head_le : ∀ (ps : List Pt) (h : Tab ps) (k : Nat) (hk : k < ps.length) (h0 : 0 < ps.length), ps[0].1 ≤ ps[k].1
  | p :: ps, _, 0, _, _ => Int.le_refl _
  | p :: q :: ps, h, k + 1, hk, _ => by
    have h1 := Tab.head_le (q :: ps) h.tail k (by simpa using hk) (by simp)
    have h2 := h.2.1
    simp only [List.getElem_cons_zero, List.getElem_cons_succ] at h1 ⊢
    omega
theorem seg_at : ∀ (qs : List Pt) (p : Pt) (x : Int) (k : Nat) (_ : Tab (p :: qs)) (hk : k + 1 < (p :: qs).length), ((p :: qs)[k]).1 ≤ x → x < ((p :: qs)[k + 1]).1 → seg x p qs = lin x ((p :: qs)[k]) ((p :: qs)[k + 1])
  | q :: qs, p, x, 0, h, _, h0, h1 => by
    unfold seg
    rw [if_neg (by simp only [List.getElem_cons_succ, List.getElem_cons_zero] at h1; omega)]
    rfl
  | q :: qs, p, x, k + 1, h, hk, h0, h1 => by
    have h2 := Tab.head_le (q :: qs) h.tail k (by simp at hk ⊢; omega) (by simp)
    simp only [List.getElem_cons_succ, List.getElem_cons_zero] at h0 h1 h2
    unfold seg
    rw [if_pos (by omega)]
    exact seg_at qs q x k h.tail (by simpa using hk) h0 h1
theorem valueAt_no {ps : List Pt} {x : Int} (h : tableOk ps = false) : valueAt ps x = 0 := by
  unfold valueAt
  rw [if_neg (by rw [h]; decide)]
theorem valueAt_first {ps : List Pt} {x : Int} (ht : tableOk ps = true) (h0 : 0 < ps.length) (h : x ≤ ps[0].1) : valueAt ps x = ps[0].2 := by
  unfold valueAt
  rw [if_pos ht]
  match ps, h0, h with
  | p :: qs, _, h => exact if_pos h
theorem valueAt_end {ps : List Pt} {x : Int} (ht : tableOk ps = true) (h0 : 0 < ps.length) (h1 : ps[0].1 < x) (h : (ps[ps.length - 1]).1 ≤ x) : valueAt ps x = (ps[ps.length - 1]).2 := by
  unfold valueAt
  rw [if_pos ht]
  obtain ⟨htab, _, _⟩ := tab_of ht
  match ps, h0, h1, h, htab with
  | p :: qs, _, h1, h, htab =>
    have e : (p :: qs)[(p :: qs).length - 1] = lastP p qs := by rw [lastP_get]; simp
    rw [e] at h ⊢
    show (if x ≤ p.1 then p.2 else seg x p qs) = _
    have h1' : p.1 < x := h1
    rw [if_neg (by omega)]
    exact seg_end qs p x htab h
theorem valueAt_lin {ps : List Pt} {x : Int} (ht : tableOk ps = true) (k : Nat) (hk : k + 1 < ps.length) (h1 : (ps[0]'(by omega)).1 < x) (h2 : ps[k].1 ≤ x) (h3 : x < ps[k + 1].1) : valueAt ps x = lin x ps[k] ps[k + 1] := by
  unfold valueAt
  rw [if_pos ht]
  obtain ⟨htab, _, _⟩ := tab_of ht
  match ps, hk, h1, h2, h3, htab with
  | p :: qs, hk, h1, h2, h3, htab =>
    show (if x ≤ p.1 then p.2 else seg x p qs) = _
    have h1' : p.1 < x := h1
    rw [if_neg (by omega)]
    exact seg_at qs p x k htab hk h2 h3
theorem lin_parts {x p1 p2 q1 q2 : Int} (h0 : p1 ≤ x) (h1 : x < q1) (h2 : p2 ≤ q2) (hp : 0 ≤ p1 ∧ 0 ≤ p2) (hq : q1 ≤ 1000000000 ∧ q2 ≤ 1000000000) :
    (0 ≤ (x - p1) * (q2 - p2) ∧ (x - p1) * (q2 - p2) ≤ 1000000000000000000) ∧ 0 ≤ Int.tdiv ((x - p1) * (q2 - p2)) (q1 - p1) ∧ Int.tdiv ((x - p1) * (q2 - p2)) (q1 - p1) ≤ q2 - p2 := by
  have hm : 0 ≤ (x - p1) * (q2 - p2) := Int.mul_nonneg (by omega) (by omega)
  have hb := lin_b (x := x) (p := (p1, p2)) (q := (q1, q2)) h0 h1 h2
  unfold lin at hb
  dsimp only at hb
  have hm2 : (x - p1) * (q2 - p2) ≤ 1000000000 * 1000000000 := Int.mul_le_mul (by omega) (by omega) (by omega) (by omega)
  exact ⟨⟨hm, by omega⟩, by omega, by omega⟩

set_option maxRecDepth 100000 in
set_option maxHeartbeats 1000000 in
theorem specValueAt_any (a : Option Addr) (n c : Nat) (ps : List Pt) (x : Int) (w : World) (hn : n = ps.length) (hs : n ≤ maxLen) (hf : FlatAt w ptCells 2 a ps) (hx : -9223372036854775808 ≤ x ∧ x ≤ 9223372036854775807) :
    Calls Try.prog 37 #[.slice a n c, .int .i64 x] w fun e w' => e = .returned (.int .i64 (valueAt ps x)) ∧ Ext w w' := by
  have HF := Lib.hid hf; clear hf
  have HS := Lib.hid hs
  unfold maxLen at hs
  obtain ⟨ok, hok⟩ : ∃ ok, tableOk ps = ok := ⟨_, rfl⟩
  have HOK := Lib.hid hok
  cases ok
  · have HV := Lib.hid (valueAt_no (x := x) hok)
    have HN := Lib.hid hn
    clear hok hn
    go_enter Try.func37, Try.ntmps37
    go_wp2_with (go_at_call 53; with_reducible refine (specTableOk_is _ _ _ _ ps _ HN.out HS.out HF.out HOK.out).mono ?_; rintro e w1 ⟨rfl, hb1⟩)
    go_ret
    exact ⟨ret_int HV.out.symm, hb1⟩
  obtain ⟨htab, hl2, hl20⟩ := tab_of hok
  have hlen0 : 0 < ps.length := by omega
  have hlenl : ps.length - 1 < ps.length := by omega
  rw [← hn] at hl2 hl20
  have hfirst := htab.get 0 hlen0
  have hlast := htab.get (ps.length - 1) hlenl
  have HTAB := Lib.hid htab
  obtain ⟨b, off, rfl, hc0⟩ := HF.out.get 0 hlen0
  obtain ⟨b', off', e', hcl⟩ := HF.out.get (ps.length - 1) hlenl
  cases e'
  have hV1 := fun (h : x ≤ (ps[0]'hlen0).1) => valueAt_first hok hlen0 h
  have hV2 := fun (h1 : (ps[0]'hlen0).1 < x) (h : (ps[ps.length - 1]'hlenl).1 ≤ x) => valueAt_end hok hlen0 h1 h
  have hV3 := fun (k : Nat) (hk : k + 1 < ps.length) (h1 : (ps[0]'hlen0).1 < x) h2 h3 => valueAt_lin hok k hk h1 h2 h3
  obtain ⟨f1, f2, hf0⟩ : ∃ f1 f2, ps[0]'hlen0 = (f1, f2) := ⟨_, _, rfl⟩
  obtain ⟨l1, l2, hfl⟩ : ∃ l1 l2, ps[ps.length - 1]'hlenl = (l1, l2) := ⟨_, _, rfl⟩
  have HF0 := Lib.hid hf0
  have HFL := Lib.hid hfl
  rw [hf0] at hc0 hV1 hV2 hfirst
  rw [hfl] at hcl hV2 hlast
  have HV3 := Lib.hid (fun (k : Nat) (hk : k + 1 < ps.length) (h1 : f1 < x) (h2 : ps[k].1 ≤ x) (h3 : x < ps[k + 1].1) => hV3 k hk (by rw [hf0]; exact h1) h2 h3)
  clear hV3 hf0 hfl hok htab
  dsimp only at hV1 hV2 hfirst hlast
  obtain ⟨m, rfl⟩ : ∃ m, n = m + 1 := ⟨n - 1, by omega⟩
  have e0 : ∀ w', Ext w w' → w'.cell? ⟨b, off, none⟩ = some (.int .i64 f1) := by simpa using hc0 0 _ rfl
  have e1 : ∀ w', Ext w w' → w'.cell? ⟨b, off + 1, none⟩ = some (.int .i64 f2) := by simpa using hc0 1 _ rfl
  rw [show ps.length - 1 = m by omega] at hcl
  have e2 : ∀ w', Ext w w' → w'.cell? ⟨b, off + m * 2, none⟩ = some (.int .i64 l1) := hcl 0 _ rfl
  have e3 : ∀ w', Ext w w' → w'.cell? ⟨b, off + m * 2 + 1, none⟩ = some (.int .i64 l2) := hcl 1 _ rfl
  have HN := Lib.hid hn
  clear hn hc0 hcl
  rcases (by omega : x ≤ f1 ∨ (f1 < x ∧ l1 ≤ x) ∨ (f1 < x ∧ x < l1)) with c1 | ⟨c1, c2⟩ | ⟨c1, c2⟩
  · have HV := Lib.hid (hV1 c1)
    clear hV1 hV2
    go_enter Try.func37, Try.ntmps37
    go_wp2_with (go_at_call 53; with_reducible refine (specTableOk_is _ _ _ _ ps _ HN.out HS.out HF.out HOK.out).mono ?_; rintro e w1 ⟨rfl, hb1⟩)
    go_ret
    exact ⟨ret_int HV.out.symm, by (repeat' (first | (with_reducible exact Ext.refl _) | (with_reducible assumption) | (with_reducible refine Ext.alloc ?_ _) | (with_reducible refine Ext.drewN ?_ _) | (with_reducible refine Ext.drew ?_) | (with_reducible refine Ext.setCell ?_ ?_ _) | (with_reducible exact Nat.le_refl _) | (with_reducible exact Nat.le_succ _) | (with_reducible refine Ext.trans ?_ (by assumption)) | (simp; done) | (simp; omega)))⟩
  · have HV := Lib.hid (hV2 c1 c2)
    clear hV1 hV2
    have d1 : decide (x ≤ f1) = false := by simp; omega
    go_enter Try.func37, Try.ntmps37
    go_wp2_with (go_at_call 53; with_reducible refine (specTableOk_is _ _ _ _ ps _ HN.out HS.out HF.out HOK.out).mono ?_; rintro e w1 ⟨rfl, hb1⟩)
    go_ret
    exact ⟨ret_int HV.out.symm, by (repeat' (first | (with_reducible exact Ext.refl _) | (with_reducible assumption) | (with_reducible refine Ext.alloc ?_ _) | (with_reducible refine Ext.drewN ?_ _) | (with_reducible refine Ext.drew ?_) | (with_reducible refine Ext.setCell ?_ ?_ _) | (with_reducible exact Nat.le_refl _) | (with_reducible exact Nat.le_succ _) | (with_reducible refine Ext.trans ?_ (by assumption)) | (simp; done) | (simp; omega)))⟩
  · clear hV1 hV2
    have d1 : decide (x ≤ f1) = false := by simp; omega
    have d2 : decide (l1 ≤ x) = false := by simp; omega
    go_enter Try.func37, Try.ntmps37
    go_wp2_with fail
    refine (specTableOk_is _ _ _ _ ps _ HN.out HS.out HF.out HOK.out).mono ?_
    rintro e w1 ⟨rfl, hb1⟩
    go_wp2
    go_loop [6] (fun i => ∃ (k : Nat), k < m ∧ i = .int .i64 k ∧ Hid (∃ (h : k < ps.length), ps[k].1 ≤ x)) (fun i => m - (intOf i).toNat)
    case atStart => exact ⟨0, by omega, rfl, ⟨by have := HN.out; omega, by rw [HF0.out]; dsimp only; omega⟩⟩
    case round =>
      obtain ⟨k, hk, rfl, hkx⟩ := hrel
      have hk1 : k + 1 < ps.length := by have := HN.out; omega
      obtain ⟨_, hx0⟩ := hkx.out
      obtain ⟨b2, off2, e', hca⟩ := HF.out.get k (by omega)
      cases e'
      obtain ⟨b2, off2, e', hcb⟩ := HF.out.get (k + 1) hk1
      cases e'
      have hstep := HTAB.out.step k hk1
      have hbp := HTAB.out.get k (by omega)
      have hbq := HTAB.out.get (k + 1) hk1
      have hV := fun h3 => HV3.out k hk1 c1 hx0 h3
      obtain ⟨p1, p2, hp⟩ : ∃ p1 p2, ps[k] = (p1, p2) := ⟨_, _, rfl⟩
      obtain ⟨q1, q2, hq⟩ : ∃ q1 q2, ps[k + 1] = (q1, q2) := ⟨_, _, rfl⟩
      have HQ := Lib.hid hq
      rw [hp] at hca hstep hbp hx0 hV
      rw [hq] at hcb hstep hbq hV
      have HL := Lib.hid (show k + 1 = m → q1 = l1 from fun h => by
        have h1 := HFL.out
        have h2 := HN.out
        have e : ps[ps.length - 1] = ps[k + 1] := by congr 1; omega
        rw [e, hq] at h1
        exact (Prod.mk.inj h1).1)
      clear hp hq
      dsimp only at hstep hbp hbq hx0 hV
      have y0 : w1.cell? ⟨b, off + (k + 1) * 2, none⟩ = some (.int .i64 q1) := hcb 0 _ rfl _ hb1
      by_cases c3 : q1 ≤ x
      · have hkm : k + 1 ≠ m := fun h => by have := HL.out h; omega
        clear hV hca hcb
        go_wp2
        go_round
        case rel => exact ⟨k + 1, by omega, by go_num, ⟨hk1, by rw [HQ.out]; exact c3⟩⟩
        case measure => simp [intOf]; omega
      · have HV := Lib.hid (hV (by omega))
        clear hV
        have d3 : decide (q1 ≤ x) = false := by simp; omega
        obtain ⟨⟨hm0, hm1⟩, ht0, ht1⟩ := lin_parts hx0 (show x < q1 by omega) hstep.2 ⟨hbp.1, hbp.2.2.1⟩ ⟨hbq.2.1, hbq.2.2.2⟩
        obtain ⟨M, hM⟩ : ∃ M, (x - p1) * (q2 - p2) = M := ⟨_, rfl⟩
        rw [hM] at hm0 hm1 ht0 ht1
        obtain ⟨d, hd⟩ : ∃ d, Int.tdiv M (q1 - p1) = d := ⟨_, rfl⟩
        rw [hd] at ht0 ht1
        have HR := Lib.hid (show valueAt ps x = p2 + d by rw [HV.out, lin, ← hd, ← hM])
        have nz : (q1 - p1 == 0) = false := by simp; omega
        have nm : ¬ q1 - p1 = 0 := by omega
        have x0 : w1.cell? ⟨b, off + k * 2, none⟩ = some (.int .i64 p1) := hca 0 _ rfl _ hb1
        have x1 : w1.cell? ⟨b, off + k * 2 + 1, none⟩ = some (.int .i64 p2) := hca 1 _ rfl _ hb1
        have y1 : w1.cell? ⟨b, off + (k + 1) * 2 + 1, none⟩ = some (.int .i64 q2) := hcb 1 _ rfl _ hb1
        have y1' : (w1.alloc (.cells #[.int .i64 p1, .int .i64 p2] 37)).cell? ⟨b, off + (k + 1) * 2 + 1, none⟩ = some (.int .i64 q2) := ((Ext.refl w1).alloc _).cell y1
        have y0' : (w1.alloc (.cells #[.int .i64 p1, .int .i64 p2] 37)).cell? ⟨b, off + (k + 1) * 2, none⟩ = some (.int .i64 q1) := ((Ext.refl w1).alloc _).cell y0
        clear hca hcb
        go_wp2_with fail
        have g0 : ∀ z : Aft ((w1.alloc (.cells #[.int .i64 p1, .int .i64 p2] 37)).alloc (.cells #[.int .i64 q1, .int .i64 q2] 37)), z.1.cell? ⟨w1.heap.size, 0, none⟩ = some (.int .i64 p1) := fun z => ((RowAt.new w1 37 #[.int .i64 p1, .int .i64 p2]).ext (((Ext.refl _).alloc _).trans z.2)).cell rfl
        have g1 : ∀ z : Aft ((w1.alloc (.cells #[.int .i64 p1, .int .i64 p2] 37)).alloc (.cells #[.int .i64 q1, .int .i64 q2] 37)), z.1.cell? ⟨w1.heap.size, 1, none⟩ = some (.int .i64 p2) := fun z => ((RowAt.new w1 37 #[.int .i64 p1, .int .i64 p2]).ext (((Ext.refl _).alloc _).trans z.2)).cell rfl
        have hrr := RowAt.new (w1.alloc (.cells #[.int .i64 p1, .int .i64 p2] 37)) 37 #[.int .i64 q1, .int .i64 q2]
        rw [World.size_alloc] at hrr
        have g2 : ∀ z : Aft ((w1.alloc (.cells #[.int .i64 p1, .int .i64 p2] 37)).alloc (.cells #[.int .i64 q1, .int .i64 q2] 37)), z.1.cell? ⟨w1.heap.size + 1, 0, none⟩ = some (.int .i64 q1) := fun z => (hrr.ext z.2).cell rfl
        have g3 : ∀ z : Aft ((w1.alloc (.cells #[.int .i64 p1, .int .i64 p2] 37)).alloc (.cells #[.int .i64 q1, .int .i64 q2] 37)), z.1.cell? ⟨w1.heap.size + 1, 1, none⟩ = some (.int .i64 q2) := fun z => (hrr.ext z.2).cell rfl
        (refine wp_region_aft ((w1.alloc (.cells #[.int .i64 p1, .int .i64 p2] 37)).alloc (.cells #[.int .i64 q1, .int .i64 q2] 37)) (Ext.refl _) (by kernel_rfl) (by kernel_rfl) ?_; (repeat (go_big_quiet_step (fail))); refine wpQuiet_nil ?_; intro w2 hx2)
        go_wp2
        go_ret
        exact ⟨ret_int HR.out.symm, by (repeat' (first | (with_reducible exact Ext.refl _) | (with_reducible assumption) | (with_reducible refine Ext.alloc ?_ _) | (with_reducible refine Ext.drewN ?_ _) | (with_reducible refine Ext.drew ?_) | (with_reducible refine Ext.setCell ?_ ?_ _) | (with_reducible exact Nat.le_refl _) | (with_reducible exact Nat.le_succ _) | (with_reducible refine Ext.trans ?_ (by assumption)) | (simp; done) | (simp; omega)))⟩
end Go.Proofs.Ytmppoflgbmabpaa
/- ValueAt of the program. -/
namespace Go.Proofs.Ytmppoflgbmabpaa
open Go.RowKit
set_option linter.unusedSimpArgs false
set_option linter.unusedVariables false

set_option maxRecDepth 100000 in
set_option maxHeartbeats 1000000 in
theorem implValueAt_any (a : Option Addr) (n c : Nat) (ps : List Pt) (x : Int) (w : World) (hn : n = ps.length) (hs : n ≤ maxLen) (hf : FlatAt w ptCells 2 a ps) (hx : -9223372036854775808 ≤ x ∧ x ≤ 9223372036854775807) :
    Calls Try.prog 28 #[.slice a n c, .int .i64 x] w fun e w' => e = .returned (.int .i64 (valueAt ps x)) ∧ Ext w w' := by
  have HF := Lib.hid hf; clear hf
  have HS := Lib.hid hs
  unfold maxLen at hs
  obtain ⟨ok, hok⟩ : ∃ ok, tableOk ps = ok := ⟨_, rfl⟩
  have HOK := Lib.hid hok
  cases ok
  · have HV := Lib.hid (valueAt_no (x := x) hok)
    have HN := Lib.hid hn
    clear hok hn
    go_enter Try.func28, Try.ntmps28
    go_wp2_with (go_at_call 51; with_reducible refine (implTableOk_is _ _ _ _ ps _ HN.out HS.out HF.out HOK.out).mono ?_; rintro e w1 ⟨rfl, hb1⟩)
    go_ret
    exact ⟨ret_int HV.out.symm, hb1⟩
  obtain ⟨htab, hl2, hl20⟩ := tab_of hok
  have hlen0 : 0 < ps.length := by omega
  have hlenl : ps.length - 1 < ps.length := by omega
  rw [← hn] at hl2 hl20
  have hfirst := htab.get 0 hlen0
  have hlast := htab.get (ps.length - 1) hlenl
  have HTAB := Lib.hid htab
  obtain ⟨b, off, rfl, hc0⟩ := HF.out.get 0 hlen0
  obtain ⟨b', off', e', hcl⟩ := HF.out.get (ps.length - 1) hlenl
  cases e'
  have hV1 := fun (h : x ≤ (ps[0]'hlen0).1) => valueAt_first hok hlen0 h
  have hV2 := fun (h1 : (ps[0]'hlen0).1 < x) (h : (ps[ps.length - 1]'hlenl).1 ≤ x) => valueAt_end hok hlen0 h1 h
  have hV3 := fun (k : Nat) (hk : k + 1 < ps.length) (h1 : (ps[0]'hlen0).1 < x) h2 h3 => valueAt_lin hok k hk h1 h2 h3
  obtain ⟨f1, f2, hf0⟩ : ∃ f1 f2, ps[0]'hlen0 = (f1, f2) := ⟨_, _, rfl⟩
  obtain ⟨l1, l2, hfl⟩ : ∃ l1 l2, ps[ps.length - 1]'hlenl = (l1, l2) := ⟨_, _, rfl⟩
  have HF0 := Lib.hid hf0
  have HFL := Lib.hid hfl
  rw [hf0] at hc0 hV1 hV2 hfirst
  rw [hfl] at hcl hV2 hlast
  have HV3 := Lib.hid (fun (k : Nat) (hk : k + 1 < ps.length) (h1 : f1 < x) (h2 : ps[k].1 ≤ x) (h3 : x < ps[k + 1].1) => hV3 k hk (by rw [hf0]; exact h1) h2 h3)
  clear hV3 hf0 hfl hok htab
  dsimp only at hV1 hV2 hfirst hlast
  obtain ⟨m, rfl⟩ : ∃ m, n = m + 1 := ⟨n - 1, by omega⟩
  have e0 : ∀ w', Ext w w' → w'.cell? ⟨b, off, none⟩ = some (.int .i64 f1) := by simpa using hc0 0 _ rfl
  have e1 : ∀ w', Ext w w' → w'.cell? ⟨b, off + 1, none⟩ = some (.int .i64 f2) := by simpa using hc0 1 _ rfl
  rw [show ps.length - 1 = m by omega] at hcl
  have e2 : ∀ w', Ext w w' → w'.cell? ⟨b, off + m * 2, none⟩ = some (.int .i64 l1) := hcl 0 _ rfl
  have e3 : ∀ w', Ext w w' → w'.cell? ⟨b, off + m * 2 + 1, none⟩ = some (.int .i64 l2) := hcl 1 _ rfl
  have HN := Lib.hid hn
  clear hn hc0 hcl
  rcases (by omega : x ≤ f1 ∨ (f1 < x ∧ l1 ≤ x) ∨ (f1 < x ∧ x < l1)) with c1 | ⟨c1, c2⟩ | ⟨c1, c2⟩
  · have HV := Lib.hid (hV1 c1)
    clear hV1 hV2
    go_enter Try.func28, Try.ntmps28
    go_wp2_with fail
    refine (implTableOk_is _ _ _ _ ps _ HN.out HS.out HF.out HOK.out).mono ?_
    rintro e w1 ⟨rfl, hb1⟩
    have eb := hb1.trans ((Ext.refl w1).alloc (.cells #[.int .i64 l1, .int .i64 l2] 37))
    have g2 := e2 _ hb1
    have g3 := e3 _ hb1
    have g0 := e0 _ eb
    have g1 := e1 _ eb
    clear e0 e1 e2 e3
    go_wp2
    go_ret
    exact ⟨ret_int HV.out.symm, by (repeat' (first | (with_reducible exact Ext.refl _) | (with_reducible assumption) | (with_reducible refine Ext.alloc ?_ _) | (with_reducible refine Ext.drewN ?_ _) | (with_reducible refine Ext.drew ?_) | (with_reducible refine Ext.setCell ?_ ?_ _) | (with_reducible exact Nat.le_refl _) | (with_reducible exact Nat.le_succ _) | (with_reducible refine Ext.trans ?_ (by assumption)) | (simp; done) | (simp; omega)))⟩
  · have HV := Lib.hid (hV2 c1 c2)
    clear hV1 hV2
    have d1 : decide (x ≤ f1) = false := by simp; omega
    go_enter Try.func28, Try.ntmps28
    go_wp2_with fail
    refine (implTableOk_is _ _ _ _ ps _ HN.out HS.out HF.out HOK.out).mono ?_
    rintro e w1 ⟨rfl, hb1⟩
    have eb := hb1.trans ((Ext.refl w1).alloc (.cells #[.int .i64 l1, .int .i64 l2] 37))
    have g2 := e2 _ hb1
    have g3 := e3 _ hb1
    have g0 := e0 _ eb
    have g1 := e1 _ eb
    clear e0 e1 e2 e3
    go_wp2
    go_ret
    exact ⟨ret_int HV.out.symm, by (repeat' (first | (with_reducible exact Ext.refl _) | (with_reducible assumption) | (with_reducible refine Ext.alloc ?_ _) | (with_reducible refine Ext.drewN ?_ _) | (with_reducible refine Ext.drew ?_) | (with_reducible refine Ext.setCell ?_ ?_ _) | (with_reducible exact Nat.le_refl _) | (with_reducible exact Nat.le_succ _) | (with_reducible refine Ext.trans ?_ (by assumption)) | (simp; done) | (simp; omega)))⟩
  · clear hV1 hV2
    have d1 : decide (x ≤ f1) = false := by simp; omega
    have d2 : decide (l1 ≤ x) = false := by simp; omega
    go_enter Try.func28, Try.ntmps28
    go_wp2_with fail
    refine (implTableOk_is _ _ _ _ ps _ HN.out HS.out HF.out HOK.out).mono ?_
    rintro e w1 ⟨rfl, hb1'⟩
    have eb := hb1'.trans ((Ext.refl w1).alloc (.cells #[.int .i64 l1, .int .i64 l2] 37))
    have g2 := e2 _ hb1'
    have g3 := e3 _ hb1'
    have g0 := e0 _ eb
    have g1 := e1 _ eb
    clear e0 e1 e2 e3
    go_wp2_with fail
    obtain ⟨wB, hwB⟩ : ∃ x, x = w1.alloc (.cells #[.int .i64 l1, .int .i64 l2] 37) := ⟨_, rfl⟩
    rw [← hwB] at eb g0 g1
    (try rw [← hwB])
    have hb1 := eb
    clear hwB eb g2 g3
    go_loop [6] (fun i => ∃ (k : Nat), k < m ∧ i = .int .i64 k ∧ Hid (∃ (h : k < ps.length), ps[k].1 ≤ x)) (fun i => m - (intOf i).toNat)
    case atStart => exact ⟨0, by omega, rfl, ⟨by have := HN.out; omega, by rw [HF0.out]; dsimp only; omega⟩⟩
    case round =>
      obtain ⟨k, hk, rfl, hkx⟩ := hrel
      have hk1 : k + 1 < ps.length := by have := HN.out; omega
      obtain ⟨_, hx0⟩ := hkx.out
      obtain ⟨b2, off2, e', hca⟩ := HF.out.get k (by omega)
      cases e'
      obtain ⟨b2, off2, e', hcb⟩ := HF.out.get (k + 1) hk1
      cases e'
      have hstep := HTAB.out.step k hk1
      have hbp := HTAB.out.get k (by omega)
      have hbq := HTAB.out.get (k + 1) hk1
      have hV := fun h3 => HV3.out k hk1 c1 hx0 h3
      obtain ⟨p1, p2, hp⟩ : ∃ p1 p2, ps[k] = (p1, p2) := ⟨_, _, rfl⟩
      obtain ⟨q1, q2, hq⟩ : ∃ q1 q2, ps[k + 1] = (q1, q2) := ⟨_, _, rfl⟩
      have HQ := Lib.hid hq
      rw [hp] at hca hstep hbp hx0 hV
      rw [hq] at hcb hstep hbq hV
      have HL := Lib.hid (show k + 1 = m → q1 = l1 from fun h => by
        have h1 := HFL.out
        have h2 := HN.out
        have e : ps[ps.length - 1] = ps[k + 1] := by congr 1; omega
        rw [e, hq] at h1
        exact (Prod.mk.inj h1).1)
      clear hp hq
      dsimp only at hstep hbp hbq hx0 hV
      have y0 : wB.cell? ⟨b, off + (k + 1) * 2, none⟩ = some (.int .i64 q1) := hcb 0 _ rfl _ hb1
      by_cases c3 : q1 ≤ x
      · have hkm : k + 1 ≠ m := fun h => by have := HL.out h; omega
        clear hV hca hcb
        go_wp2
        go_round
        case rel => exact ⟨k + 1, by omega, by go_num, ⟨hk1, by rw [HQ.out]; exact c3⟩⟩
        case measure => simp [intOf]; omega
      · have HV := Lib.hid (hV (by omega))
        clear hV
        have d3 : decide (q1 ≤ x) = false := by simp; omega
        obtain ⟨⟨hm0, hm1⟩, ht0, ht1⟩ := lin_parts hx0 (show x < q1 by omega) hstep.2 ⟨hbp.1, hbp.2.2.1⟩ ⟨hbq.2.1, hbq.2.2.2⟩
        obtain ⟨M, hM⟩ : ∃ M, (x - p1) * (q2 - p2) = M := ⟨_, rfl⟩
        rw [hM] at hm0 hm1 ht0 ht1
        obtain ⟨d, hd⟩ : ∃ d, Int.tdiv M (q1 - p1) = d := ⟨_, rfl⟩
        rw [hd] at ht0 ht1
        have HR := Lib.hid (show valueAt ps x = p2 + d by rw [HV.out, lin, ← hd, ← hM])
        have nz : (q1 - p1 == 0) = false := by simp; omega
        have nm : ¬ q1 - p1 = 0 := by omega
        have x0 : wB.cell? ⟨b, off + k * 2, none⟩ = some (.int .i64 p1) := hca 0 _ rfl _ hb1
        have x1 : wB.cell? ⟨b, off + k * 2 + 1, none⟩ = some (.int .i64 p2) := hca 1 _ rfl _ hb1
        have y1 : wB.cell? ⟨b, off + (k + 1) * 2 + 1, none⟩ = some (.int .i64 q2) := hcb 1 _ rfl _ hb1
        clear hca hcb
        go_wp2_with fail
        have i0 : (0 : Int) ≤ (k : Int) := by omega
        have i1 : (k : Int) < (m : Int) + 1 := by omega
        have i2 : (0 : Int) ≤ (k : Int) + 1 := by omega
        have i3 : (k : Int) + 1 < (m : Int) + 1 := by omega
        have i4 := IntWalk.i64_in ((k : Int) + 1) (by omega)
        have i5 : ((k : Int) + 1).toNat = k + 1 := by omega
        refine wp_region_held_drew (S := (fun w' => w'.cell? ⟨b, off + k * 2, none⟩ = some (.int .i64 p1) ∧ w'.cell? ⟨b, off + k * 2 + 1, none⟩ = some (.int .i64 p2) ∧ w'.cell? ⟨b, off + (k + 1) * 2, none⟩ = some (.int .i64 q1) ∧ w'.cell? ⟨b, off + (k + 1) * 2 + 1, none⟩ = some (.int .i64 q2))) (by kernel_rfl) ?_ (fun hH0 => ?_)
        · (try dsimp only)
          ((repeat' (refine And.intro ?_ ?_)) <;> (first | (exact Ext.cell (w := wB) (by (repeat' (first | (with_reducible exact Ext.refl _) | (with_reducible assumption) | (with_reducible refine Ext.alloc ?_ _) | (with_reducible refine Ext.drewN ?_ _) | (with_reducible refine Ext.drew ?_) | (with_reducible refine Ext.setCell ?_ ?_ _) | (with_reducible exact Nat.le_refl _) | (with_reducible exact Nat.le_succ _) | (with_reducible refine Ext.trans ?_ (by assumption)) | (simp; done) | (simp; omega)))) x0) | (exact Ext.cell (w := wB) (by (repeat' (first | (with_reducible exact Ext.refl _) | (with_reducible assumption) | (with_reducible refine Ext.alloc ?_ _) | (with_reducible refine Ext.drewN ?_ _) | (with_reducible refine Ext.drew ?_) | (with_reducible refine Ext.setCell ?_ ?_ _) | (with_reducible exact Nat.le_refl _) | (with_reducible exact Nat.le_succ _) | (with_reducible refine Ext.trans ?_ (by assumption)) | (simp; done) | (simp; omega)))) x1) | (exact Ext.cell (w := wB) (by (repeat' (first | (with_reducible exact Ext.refl _) | (with_reducible assumption) | (with_reducible refine Ext.alloc ?_ _) | (with_reducible refine Ext.drewN ?_ _) | (with_reducible refine Ext.drew ?_) | (with_reducible refine Ext.setCell ?_ ?_ _) | (with_reducible exact Nat.le_refl _) | (with_reducible exact Nat.le_succ _) | (with_reducible refine Ext.trans ?_ (by assumption)) | (simp; done) | (simp; omega)))) y0) | (exact Ext.cell (w := wB) (by (repeat' (first | (with_reducible exact Ext.refl _) | (with_reducible assumption) | (with_reducible refine Ext.alloc ?_ _) | (with_reducible refine Ext.drewN ?_ _) | (with_reducible refine Ext.drew ?_) | (with_reducible refine Ext.setCell ?_ ?_ _) | (with_reducible exact Nat.le_refl _) | (with_reducible exact Nat.le_succ _) | (with_reducible refine Ext.trans ?_ (by assumption)) | (simp; done) | (simp; omega)))) y1)))
        refine take_l 0 (v := ?_) rfl (by kernel_rfl) (by kernel_rfl) (by kernel_rfl) (fun _ _ _ h => h) (by rfl) ?_ (by assumption) ?_
        rotate_left
        · (intro w hSw; (try dsimp only at hSw); go_simp; (try with_reducible rfl))
        (try simp only [Act.put, List.setIfInBounds_toArray, List.set_cons_zero, List.set_cons_succ])
        refine take_l 1 (v := ?_) rfl (by kernel_rfl) (by kernel_rfl) (by kernel_rfl) (fun _ _ _ h => h) (by rfl) ?_ (by assumption) ?_
        rotate_left
        · (intro w hSw; (try dsimp only at hSw); go_simp; (try with_reducible rfl))
        (try simp only [Act.put, List.setIfInBounds_toArray, List.set_cons_zero, List.set_cons_succ])
        refine take_l 2 (v := ?_) rfl (by kernel_rfl) (by kernel_rfl) (by kernel_rfl) (fun _ _ _ h => h) (by rfl) ?_ (by assumption) ?_
        rotate_left
        · (intro w hSw; (try dsimp only at hSw); go_simp; (try with_reducible rfl))
        (try simp only [Act.put, List.setIfInBounds_toArray, List.set_cons_zero, List.set_cons_succ])
        refine take_l 3 (v := ?_) rfl (by kernel_rfl) (by kernel_rfl) (by kernel_rfl) (fun _ _ _ h => h) (by rfl) ?_ (by assumption) ?_
        rotate_left
        · (intro w hSw; (try dsimp only at hSw); go_simp; (try with_reducible rfl))
        (try simp only [Act.put, List.setIfInBounds_toArray, List.set_cons_zero, List.set_cons_succ])
        refine take_l 4 (v := ?_) rfl (by kernel_rfl) (by kernel_rfl) (by kernel_rfl) (fun _ _ _ h => h) (by rfl) ?_ (by assumption) ?_
        rotate_left
        · (intro w hSw; (try dsimp only at hSw); go_simp; (try with_reducible rfl))
        (try simp only [Act.put, List.setIfInBounds_toArray, List.set_cons_zero, List.set_cons_succ])
        refine take_l 5 (v := ?_) rfl (by kernel_rfl) (by kernel_rfl) (by kernel_rfl) (fun _ _ _ h => h) (by rfl) ?_ (by assumption) ?_
        rotate_left
        · (intro w hSw; (try dsimp only at hSw); go_simp; (try with_reducible rfl))
        (try simp only [Act.put, List.setIfInBounds_toArray, List.set_cons_zero, List.set_cons_succ])
        refine take_l 6 (v := ?_) rfl (by kernel_rfl) (by kernel_rfl) (by kernel_rfl) (fun _ _ _ h => h) (by rfl) ?_ (by assumption) ?_
        rotate_left
        · (intro w hSw; (try dsimp only at hSw); go_simp; (try with_reducible rfl))
        (try simp only [Act.put, List.setIfInBounds_toArray, List.set_cons_zero, List.set_cons_succ])
        refine take_l 7 (v := ?_) rfl (by kernel_rfl) (by kernel_rfl) (by kernel_rfl) (fun _ _ _ h => h) (by rfl) ?_ (by assumption) ?_
        rotate_left
        · (intro w hSw; (try dsimp only at hSw); go_simp; (try with_reducible rfl))
        (try simp only [Act.put, List.setIfInBounds_toArray, List.set_cons_zero, List.set_cons_succ])
        refine take_l 8 (v := ?_) rfl (by kernel_rfl) (by kernel_rfl) (by kernel_rfl) (fun _ _ _ h => h) (by rfl) ?_ (by assumption) ?_
        rotate_left
        · (intro w hSw; (try dsimp only at hSw); go_simp; (try with_reducible rfl))
        (try simp only [Act.put, List.setIfInBounds_toArray, List.set_cons_zero, List.set_cons_succ])
        refine wpAnyH_ready (rs := [9, 10]) (by kernel_rfl) (by simp) ?_
        refine cons_l (i := 9) rfl (fun K hK => ?_) ?_
        go_simp
        refine hK.out _ _ ?_ (fun hH1 => ?_)
        · (try dsimp only)
          ((repeat' (refine And.intro ?_ ?_)) <;> (first | (exact Ext.cell (w := wB) (by (repeat' (first | (with_reducible exact Ext.refl _) | (with_reducible assumption) | (with_reducible refine Ext.alloc ?_ _) | (with_reducible refine Ext.drewN ?_ _) | (with_reducible refine Ext.drew ?_) | (with_reducible refine Ext.setCell ?_ ?_ _) | (with_reducible exact Nat.le_refl _) | (with_reducible exact Nat.le_succ _) | (with_reducible refine Ext.trans ?_ (by assumption)) | (simp; done) | (simp; omega)))) x0) | (exact Ext.cell (w := wB) (by (repeat' (first | (with_reducible exact Ext.refl _) | (with_reducible assumption) | (with_reducible refine Ext.alloc ?_ _) | (with_reducible refine Ext.drewN ?_ _) | (with_reducible refine Ext.drew ?_) | (with_reducible refine Ext.setCell ?_ ?_ _) | (with_reducible exact Nat.le_refl _) | (with_reducible exact Nat.le_succ _) | (with_reducible refine Ext.trans ?_ (by assumption)) | (simp; done) | (simp; omega)))) x1) | (exact Ext.cell (w := wB) (by (repeat' (first | (with_reducible exact Ext.refl _) | (with_reducible assumption) | (with_reducible refine Ext.alloc ?_ _) | (with_reducible refine Ext.drewN ?_ _) | (with_reducible refine Ext.drew ?_) | (with_reducible refine Ext.setCell ?_ ?_ _) | (with_reducible exact Nat.le_refl _) | (with_reducible exact Nat.le_succ _) | (with_reducible refine Ext.trans ?_ (by assumption)) | (simp; done) | (simp; omega)))) y0) | (exact Ext.cell (w := wB) (by (repeat' (first | (with_reducible exact Ext.refl _) | (with_reducible assumption) | (with_reducible refine Ext.alloc ?_ _) | (with_reducible refine Ext.drewN ?_ _) | (with_reducible refine Ext.drew ?_) | (with_reducible refine Ext.setCell ?_ ?_ _) | (with_reducible exact Nat.le_refl _) | (with_reducible exact Nat.le_succ _) | (with_reducible refine Ext.trans ?_ (by assumption)) | (simp; done) | (simp; omega)))) y1)))
        clear hK K hH0
        (try simp only [Act.put, List.setIfInBounds_toArray, List.set_cons_zero, List.set_cons_succ])
        refine wpAnyH_ready (rs := [10]) (by kernel_rfl) (by simp) ?_
        refine cons_l (i := 10) rfl (fun K hK => ?_) ?_
        go_simp
        refine hK.out _ _ ?_ (fun hH2 => ?_)
        · (try dsimp only)
          ((repeat' (refine And.intro ?_ ?_)) <;> (first | (exact Ext.cell (w := wB) (by (repeat' (first | (with_reducible exact Ext.refl _) | (with_reducible assumption) | (with_reducible refine Ext.alloc ?_ _) | (with_reducible refine Ext.drewN ?_ _) | (with_reducible refine Ext.drew ?_) | (with_reducible refine Ext.setCell ?_ ?_ _) | (with_reducible exact Nat.le_refl _) | (with_reducible exact Nat.le_succ _) | (with_reducible refine Ext.trans ?_ (by assumption)) | (simp; done) | (simp; omega)))) x0) | (exact Ext.cell (w := wB) (by (repeat' (first | (with_reducible exact Ext.refl _) | (with_reducible assumption) | (with_reducible refine Ext.alloc ?_ _) | (with_reducible refine Ext.drewN ?_ _) | (with_reducible refine Ext.drew ?_) | (with_reducible refine Ext.setCell ?_ ?_ _) | (with_reducible exact Nat.le_refl _) | (with_reducible exact Nat.le_succ _) | (with_reducible refine Ext.trans ?_ (by assumption)) | (simp; done) | (simp; omega)))) x1) | (exact Ext.cell (w := wB) (by (repeat' (first | (with_reducible exact Ext.refl _) | (with_reducible assumption) | (with_reducible refine Ext.alloc ?_ _) | (with_reducible refine Ext.drewN ?_ _) | (with_reducible refine Ext.drew ?_) | (with_reducible refine Ext.setCell ?_ ?_ _) | (with_reducible exact Nat.le_refl _) | (with_reducible exact Nat.le_succ _) | (with_reducible refine Ext.trans ?_ (by assumption)) | (simp; done) | (simp; omega)))) y0) | (exact Ext.cell (w := wB) (by (repeat' (first | (with_reducible exact Ext.refl _) | (with_reducible assumption) | (with_reducible refine Ext.alloc ?_ _) | (with_reducible refine Ext.drewN ?_ _) | (with_reducible refine Ext.drew ?_) | (with_reducible refine Ext.setCell ?_ ?_ _) | (with_reducible exact Nat.le_refl _) | (with_reducible exact Nat.le_succ _) | (with_reducible refine Ext.trans ?_ (by assumption)) | (simp; done) | (simp; omega)))) y1)))
        clear hK K hH1
        (try simp only [Act.put, List.setIfInBounds_toArray, List.set_cons_zero, List.set_cons_succ])
        refine wpAnyH_ready (rs := [11]) (by kernel_rfl) (by simp) ?_
        refine cons_l (i := 11) rfl (fun K hK => ?_) ?_
        go_simp
        refine hK.out _ _ ?_ (fun hH3 => ?_)
        · (try dsimp only)
          ((repeat' (refine And.intro ?_ ?_)) <;> (first | (exact Ext.cell (w := wB) (by (repeat' (first | (with_reducible exact Ext.refl _) | (with_reducible assumption) | (with_reducible refine Ext.alloc ?_ _) | (with_reducible refine Ext.drewN ?_ _) | (with_reducible refine Ext.drew ?_) | (with_reducible refine Ext.setCell ?_ ?_ _) | (with_reducible exact Nat.le_refl _) | (with_reducible exact Nat.le_succ _) | (with_reducible refine Ext.trans ?_ (by assumption)) | (simp; done) | (simp; omega)))) x0) | (exact Ext.cell (w := wB) (by (repeat' (first | (with_reducible exact Ext.refl _) | (with_reducible assumption) | (with_reducible refine Ext.alloc ?_ _) | (with_reducible refine Ext.drewN ?_ _) | (with_reducible refine Ext.drew ?_) | (with_reducible refine Ext.setCell ?_ ?_ _) | (with_reducible exact Nat.le_refl _) | (with_reducible exact Nat.le_succ _) | (with_reducible refine Ext.trans ?_ (by assumption)) | (simp; done) | (simp; omega)))) x1) | (exact Ext.cell (w := wB) (by (repeat' (first | (with_reducible exact Ext.refl _) | (with_reducible assumption) | (with_reducible refine Ext.alloc ?_ _) | (with_reducible refine Ext.drewN ?_ _) | (with_reducible refine Ext.drew ?_) | (with_reducible refine Ext.setCell ?_ ?_ _) | (with_reducible exact Nat.le_refl _) | (with_reducible exact Nat.le_succ _) | (with_reducible refine Ext.trans ?_ (by assumption)) | (simp; done) | (simp; omega)))) y0) | (exact Ext.cell (w := wB) (by (repeat' (first | (with_reducible exact Ext.refl _) | (with_reducible assumption) | (with_reducible refine Ext.alloc ?_ _) | (with_reducible refine Ext.drewN ?_ _) | (with_reducible refine Ext.drew ?_) | (with_reducible refine Ext.setCell ?_ ?_ _) | (with_reducible exact Nat.le_refl _) | (with_reducible exact Nat.le_succ _) | (with_reducible refine Ext.trans ?_ (by assumption)) | (simp; done) | (simp; omega)))) y1)))
        clear hK K hH2
        (try simp only [Act.put, List.setIfInBounds_toArray, List.set_cons_zero, List.set_cons_succ])
        refine wpAnyH_ready (rs := [12]) (by kernel_rfl) (by simp) ?_
        refine cons_l (i := 12) rfl (fun K hK => ?_) ?_
        go_simp
        refine hK.out _ _ ?_ (fun hH4 => ?_)
        · (try dsimp only)
          ((repeat' (refine And.intro ?_ ?_)) <;> (first | (exact Ext.cell (w := wB) (by (repeat' (first | (with_reducible exact Ext.refl _) | (with_reducible assumption) | (with_reducible refine Ext.alloc ?_ _) | (with_reducible refine Ext.drewN ?_ _) | (with_reducible refine Ext.drew ?_) | (with_reducible refine Ext.setCell ?_ ?_ _) | (with_reducible exact Nat.le_refl _) | (with_reducible exact Nat.le_succ _) | (with_reducible refine Ext.trans ?_ (by assumption)) | (simp; done) | (simp; omega)))) x0) | (exact Ext.cell (w := wB) (by (repeat' (first | (with_reducible exact Ext.refl _) | (with_reducible assumption) | (with_reducible refine Ext.alloc ?_ _) | (with_reducible refine Ext.drewN ?_ _) | (with_reducible refine Ext.drew ?_) | (with_reducible refine Ext.setCell ?_ ?_ _) | (with_reducible exact Nat.le_refl _) | (with_reducible exact Nat.le_succ _) | (with_reducible refine Ext.trans ?_ (by assumption)) | (simp; done) | (simp; omega)))) x1) | (exact Ext.cell (w := wB) (by (repeat' (first | (with_reducible exact Ext.refl _) | (with_reducible assumption) | (with_reducible refine Ext.alloc ?_ _) | (with_reducible refine Ext.drewN ?_ _) | (with_reducible refine Ext.drew ?_) | (with_reducible refine Ext.setCell ?_ ?_ _) | (with_reducible exact Nat.le_refl _) | (with_reducible exact Nat.le_succ _) | (with_reducible refine Ext.trans ?_ (by assumption)) | (simp; done) | (simp; omega)))) y0) | (exact Ext.cell (w := wB) (by (repeat' (first | (with_reducible exact Ext.refl _) | (with_reducible assumption) | (with_reducible refine Ext.alloc ?_ _) | (with_reducible refine Ext.drewN ?_ _) | (with_reducible refine Ext.drew ?_) | (with_reducible refine Ext.setCell ?_ ?_ _) | (with_reducible exact Nat.le_refl _) | (with_reducible exact Nat.le_succ _) | (with_reducible refine Ext.trans ?_ (by assumption)) | (simp; done) | (simp; omega)))) y1)))
        clear hK K hH3
        (try simp only [Act.put, List.setIfInBounds_toArray, List.set_cons_zero, List.set_cons_succ])
        refine wpAnyH_done (by kernel_rfl) ?_ _
        rotate_left
        exact AllReadyH.nil
        exact AllReadyH.nil
        exact AllReadyH.nil
        refine cons_l (i := 10) rfl (fun K hK => ?_) ?_
        go_simp
        refine hK.out _ _ ?_ (fun hH1 => ?_)
        · (try dsimp only)
          ((repeat' (refine And.intro ?_ ?_)) <;> (first | (exact Ext.cell (w := wB) (by (repeat' (first | (with_reducible exact Ext.refl _) | (with_reducible assumption) | (with_reducible refine Ext.alloc ?_ _) | (with_reducible refine Ext.drewN ?_ _) | (with_reducible refine Ext.drew ?_) | (with_reducible refine Ext.setCell ?_ ?_ _) | (with_reducible exact Nat.le_refl _) | (with_reducible exact Nat.le_succ _) | (with_reducible refine Ext.trans ?_ (by assumption)) | (simp; done) | (simp; omega)))) x0) | (exact Ext.cell (w := wB) (by (repeat' (first | (with_reducible exact Ext.refl _) | (with_reducible assumption) | (with_reducible refine Ext.alloc ?_ _) | (with_reducible refine Ext.drewN ?_ _) | (with_reducible refine Ext.drew ?_) | (with_reducible refine Ext.setCell ?_ ?_ _) | (with_reducible exact Nat.le_refl _) | (with_reducible exact Nat.le_succ _) | (with_reducible refine Ext.trans ?_ (by assumption)) | (simp; done) | (simp; omega)))) x1) | (exact Ext.cell (w := wB) (by (repeat' (first | (with_reducible exact Ext.refl _) | (with_reducible assumption) | (with_reducible refine Ext.alloc ?_ _) | (with_reducible refine Ext.drewN ?_ _) | (with_reducible refine Ext.drew ?_) | (with_reducible refine Ext.setCell ?_ ?_ _) | (with_reducible exact Nat.le_refl _) | (with_reducible exact Nat.le_succ _) | (with_reducible refine Ext.trans ?_ (by assumption)) | (simp; done) | (simp; omega)))) y0) | (exact Ext.cell (w := wB) (by (repeat' (first | (with_reducible exact Ext.refl _) | (with_reducible assumption) | (with_reducible refine Ext.alloc ?_ _) | (with_reducible refine Ext.drewN ?_ _) | (with_reducible refine Ext.drew ?_) | (with_reducible refine Ext.setCell ?_ ?_ _) | (with_reducible exact Nat.le_refl _) | (with_reducible exact Nat.le_succ _) | (with_reducible refine Ext.trans ?_ (by assumption)) | (simp; done) | (simp; omega)))) y1)))
        clear hK K hH0
        (try simp only [Act.put, List.setIfInBounds_toArray, List.set_cons_zero, List.set_cons_succ])
        refine wpAnyH_ready (rs := [9]) (by kernel_rfl) (by simp) ?_
        refine cons_l (i := 9) rfl (fun K hK => ?_) ?_
        go_simp
        refine hK.out _ _ ?_ (fun hH2 => ?_)
        · (try dsimp only)
          ((repeat' (refine And.intro ?_ ?_)) <;> (first | (exact Ext.cell (w := wB) (by (repeat' (first | (with_reducible exact Ext.refl _) | (with_reducible assumption) | (with_reducible refine Ext.alloc ?_ _) | (with_reducible refine Ext.drewN ?_ _) | (with_reducible refine Ext.drew ?_) | (with_reducible refine Ext.setCell ?_ ?_ _) | (with_reducible exact Nat.le_refl _) | (with_reducible exact Nat.le_succ _) | (with_reducible refine Ext.trans ?_ (by assumption)) | (simp; done) | (simp; omega)))) x0) | (exact Ext.cell (w := wB) (by (repeat' (first | (with_reducible exact Ext.refl _) | (with_reducible assumption) | (with_reducible refine Ext.alloc ?_ _) | (with_reducible refine Ext.drewN ?_ _) | (with_reducible refine Ext.drew ?_) | (with_reducible refine Ext.setCell ?_ ?_ _) | (with_reducible exact Nat.le_refl _) | (with_reducible exact Nat.le_succ _) | (with_reducible refine Ext.trans ?_ (by assumption)) | (simp; done) | (simp; omega)))) x1) | (exact Ext.cell (w := wB) (by (repeat' (first | (with_reducible exact Ext.refl _) | (with_reducible assumption) | (with_reducible refine Ext.alloc ?_ _) | (with_reducible refine Ext.drewN ?_ _) | (with_reducible refine Ext.drew ?_) | (with_reducible refine Ext.setCell ?_ ?_ _) | (with_reducible exact Nat.le_refl _) | (with_reducible exact Nat.le_succ _) | (with_reducible refine Ext.trans ?_ (by assumption)) | (simp; done) | (simp; omega)))) y0) | (exact Ext.cell (w := wB) (by (repeat' (first | (with_reducible exact Ext.refl _) | (with_reducible assumption) | (with_reducible refine Ext.alloc ?_ _) | (with_reducible refine Ext.drewN ?_ _) | (with_reducible refine Ext.drew ?_) | (with_reducible refine Ext.setCell ?_ ?_ _) | (with_reducible exact Nat.le_refl _) | (with_reducible exact Nat.le_succ _) | (with_reducible refine Ext.trans ?_ (by assumption)) | (simp; done) | (simp; omega)))) y1)))
        clear hK K hH1
        (try simp only [Act.put, List.setIfInBounds_toArray, List.set_cons_zero, List.set_cons_succ])
        refine wpAnyH_ready (rs := [11]) (by kernel_rfl) (by simp) ?_
        refine cons_l (i := 11) rfl (fun K hK => ?_) ?_
        go_simp
        refine hK.out _ _ ?_ (fun hH3 => ?_)
        · (try dsimp only)
          ((repeat' (refine And.intro ?_ ?_)) <;> (first | (exact Ext.cell (w := wB) (by (repeat' (first | (with_reducible exact Ext.refl _) | (with_reducible assumption) | (with_reducible refine Ext.alloc ?_ _) | (with_reducible refine Ext.drewN ?_ _) | (with_reducible refine Ext.drew ?_) | (with_reducible refine Ext.setCell ?_ ?_ _) | (with_reducible exact Nat.le_refl _) | (with_reducible exact Nat.le_succ _) | (with_reducible refine Ext.trans ?_ (by assumption)) | (simp; done) | (simp; omega)))) x0) | (exact Ext.cell (w := wB) (by (repeat' (first | (with_reducible exact Ext.refl _) | (with_reducible assumption) | (with_reducible refine Ext.alloc ?_ _) | (with_reducible refine Ext.drewN ?_ _) | (with_reducible refine Ext.drew ?_) | (with_reducible refine Ext.setCell ?_ ?_ _) | (with_reducible exact Nat.le_refl _) | (with_reducible exact Nat.le_succ _) | (with_reducible refine Ext.trans ?_ (by assumption)) | (simp; done) | (simp; omega)))) x1) | (exact Ext.cell (w := wB) (by (repeat' (first | (with_reducible exact Ext.refl _) | (with_reducible assumption) | (with_reducible refine Ext.alloc ?_ _) | (with_reducible refine Ext.drewN ?_ _) | (with_reducible refine Ext.drew ?_) | (with_reducible refine Ext.setCell ?_ ?_ _) | (with_reducible exact Nat.le_refl _) | (with_reducible exact Nat.le_succ _) | (with_reducible refine Ext.trans ?_ (by assumption)) | (simp; done) | (simp; omega)))) y0) | (exact Ext.cell (w := wB) (by (repeat' (first | (with_reducible exact Ext.refl _) | (with_reducible assumption) | (with_reducible refine Ext.alloc ?_ _) | (with_reducible refine Ext.drewN ?_ _) | (with_reducible refine Ext.drew ?_) | (with_reducible refine Ext.setCell ?_ ?_ _) | (with_reducible exact Nat.le_refl _) | (with_reducible exact Nat.le_succ _) | (with_reducible refine Ext.trans ?_ (by assumption)) | (simp; done) | (simp; omega)))) y1)))
        clear hK K hH2
        (try simp only [Act.put, List.setIfInBounds_toArray, List.set_cons_zero, List.set_cons_succ])
        refine wpAnyH_ready (rs := [12]) (by kernel_rfl) (by simp) ?_
        refine cons_l (i := 12) rfl (fun K hK => ?_) ?_
        go_simp
        refine hK.out _ _ ?_ (fun hH4 => ?_)
        · (try dsimp only)
          ((repeat' (refine And.intro ?_ ?_)) <;> (first | (exact Ext.cell (w := wB) (by (repeat' (first | (with_reducible exact Ext.refl _) | (with_reducible assumption) | (with_reducible refine Ext.alloc ?_ _) | (with_reducible refine Ext.drewN ?_ _) | (with_reducible refine Ext.drew ?_) | (with_reducible refine Ext.setCell ?_ ?_ _) | (with_reducible exact Nat.le_refl _) | (with_reducible exact Nat.le_succ _) | (with_reducible refine Ext.trans ?_ (by assumption)) | (simp; done) | (simp; omega)))) x0) | (exact Ext.cell (w := wB) (by (repeat' (first | (with_reducible exact Ext.refl _) | (with_reducible assumption) | (with_reducible refine Ext.alloc ?_ _) | (with_reducible refine Ext.drewN ?_ _) | (with_reducible refine Ext.drew ?_) | (with_reducible refine Ext.setCell ?_ ?_ _) | (with_reducible exact Nat.le_refl _) | (with_reducible exact Nat.le_succ _) | (with_reducible refine Ext.trans ?_ (by assumption)) | (simp; done) | (simp; omega)))) x1) | (exact Ext.cell (w := wB) (by (repeat' (first | (with_reducible exact Ext.refl _) | (with_reducible assumption) | (with_reducible refine Ext.alloc ?_ _) | (with_reducible refine Ext.drewN ?_ _) | (with_reducible refine Ext.drew ?_) | (with_reducible refine Ext.setCell ?_ ?_ _) | (with_reducible exact Nat.le_refl _) | (with_reducible exact Nat.le_succ _) | (with_reducible refine Ext.trans ?_ (by assumption)) | (simp; done) | (simp; omega)))) y0) | (exact Ext.cell (w := wB) (by (repeat' (first | (with_reducible exact Ext.refl _) | (with_reducible assumption) | (with_reducible refine Ext.alloc ?_ _) | (with_reducible refine Ext.drewN ?_ _) | (with_reducible refine Ext.drew ?_) | (with_reducible refine Ext.setCell ?_ ?_ _) | (with_reducible exact Nat.le_refl _) | (with_reducible exact Nat.le_succ _) | (with_reducible refine Ext.trans ?_ (by assumption)) | (simp; done) | (simp; omega)))) y1)))
        clear hK K hH3
        (try simp only [Act.put, List.setIfInBounds_toArray, List.set_cons_zero, List.set_cons_succ])
        refine wpAnyH_done (by kernel_rfl) ?_ _
        rotate_left
        exact AllReadyH.nil
        exact AllReadyH.nil
        exact AllReadyH.nil
        exact AllReadyH.nil
        · have n1 := ((RowAt.new wB 37 #[.int .i64 p1, .int .i64 p2]).ext ((Ext.refl _).alloc (.cells #[.int .i64 q1, .int .i64 q2] 37))).ext (Ext.refl _).drew
          have n2 := (RowAt.new (wB.alloc (.cells #[.int .i64 p1, .int .i64 p2] 37)) 37 #[.int .i64 q1, .int .i64 q2]).ext (Ext.refl _).drew
          rw [World.size_alloc] at n2
          have HXW := Lib.hid (show Ext w (((wB.alloc (.cells #[.int .i64 p1, .int .i64 p2] 37)).alloc (.cells #[.int .i64 q1, .int .i64 q2] 37)).drew) from ((hb1.alloc _).alloc _).drew)
          obtain ⟨W, hW⟩ : ∃ x, x = ((wB.alloc (.cells #[.int .i64 p1, .int .i64 p2] 37)).alloc (.cells #[.int .i64 q1, .int .i64 q2] 37)).drew := ⟨_, rfl⟩
          rw [← hW] at n1 n2 HXW
          (try rw [← hW])
          clear hW
          have g0 : ∀ z : Aft W, z.1.cell? ⟨wB.heap.size, 0, none⟩ = some (.int .i64 p1) := fun z => (n1.ext z.2).cell rfl
          have g1 : ∀ z : Aft W, z.1.cell? ⟨wB.heap.size, 1, none⟩ = some (.int .i64 p2) := fun z => (n1.ext z.2).cell rfl
          have g2 : ∀ z : Aft W, z.1.cell? ⟨wB.heap.size + 1, 0, none⟩ = some (.int .i64 q1) := fun z => (n2.ext z.2).cell rfl
          have g3 : ∀ z : Aft W, z.1.cell? ⟨wB.heap.size + 1, 1, none⟩ = some (.int .i64 q2) := fun z => (n2.ext z.2).cell rfl
          clear n1 n2 x0 x1 y0 y1
          go_wp2_with fail
          (refine wp_region_aft W (Ext.refl _) (by kernel_rfl) (by kernel_rfl) ?_; (repeat (go_big_quiet_step (fail))); refine wpQuiet_nil ?_; intro w2 hx2)
          go_wp2
          go_ret
          exact ⟨ret_int HR.out.symm, HXW.out.trans hx2⟩
        · have n1 := ((RowAt.new wB 37 #[.int .i64 q1, .int .i64 q2]).ext ((Ext.refl _).alloc (.cells #[.int .i64 p1, .int .i64 p2] 37))).ext (Ext.refl _).drew
          have n2 := (RowAt.new (wB.alloc (.cells #[.int .i64 q1, .int .i64 q2] 37)) 37 #[.int .i64 p1, .int .i64 p2]).ext (Ext.refl _).drew
          rw [World.size_alloc] at n2
          have HXW := Lib.hid (show Ext w (((wB.alloc (.cells #[.int .i64 q1, .int .i64 q2] 37)).alloc (.cells #[.int .i64 p1, .int .i64 p2] 37)).drew) from ((hb1.alloc _).alloc _).drew)
          obtain ⟨W, hW⟩ : ∃ x, x = ((wB.alloc (.cells #[.int .i64 q1, .int .i64 q2] 37)).alloc (.cells #[.int .i64 p1, .int .i64 p2] 37)).drew := ⟨_, rfl⟩
          rw [← hW] at n1 n2 HXW
          (try rw [← hW])
          clear hW
          have g0 : ∀ z : Aft W, z.1.cell? ⟨wB.heap.size + 1, 0, none⟩ = some (.int .i64 p1) := fun z => (n2.ext z.2).cell rfl
          have g1 : ∀ z : Aft W, z.1.cell? ⟨wB.heap.size + 1, 1, none⟩ = some (.int .i64 p2) := fun z => (n2.ext z.2).cell rfl
          have g2 : ∀ z : Aft W, z.1.cell? ⟨wB.heap.size, 0, none⟩ = some (.int .i64 q1) := fun z => (n1.ext z.2).cell rfl
          have g3 : ∀ z : Aft W, z.1.cell? ⟨wB.heap.size, 1, none⟩ = some (.int .i64 q2) := fun z => (n1.ext z.2).cell rfl
          clear n1 n2 x0 x1 y0 y1
          go_wp2_with fail
          (refine wp_region_aft W (Ext.refl _) (by kernel_rfl) (by kernel_rfl) ?_; (repeat (go_big_quiet_step (fail))); refine wpQuiet_nil ?_; intro w2 hx2)
          go_wp2
          go_ret
          exact ⟨ret_int HR.out.symm, HXW.out.trans hx2⟩
end Go.Proofs.Ytmppoflgbmabpaa
/- PlaceOf on both sides. -/
namespace Go.Proofs.Ytmppoflgbmabpaa
open Go.RowKit
set_option linter.unusedSimpArgs false
set_option linter.unusedVariables false

theorem specValueAt_is (v : Int) (a : Option Addr) (n c : Nat) (ps : List Pt) (x : Int) (w : World) (hn : n = ps.length) (hs : n ≤ maxLen) (hf : FlatAt w ptCells 2 a ps) (hx : -9223372036854775808 ≤ x ∧ x ≤ 9223372036854775807) (hv : valueAt ps x = v) :
    Calls Try.prog 37 #[.slice a n c, .int .i64 x] w fun e w' => e = .returned (.int .i64 v) ∧ Ext w w' := by
  subst hv
  exact specValueAt_any a n c ps x w hn hs hf hx
theorem implValueAt_is (v : Int) (a : Option Addr) (n c : Nat) (ps : List Pt) (x : Int) (w : World) (hn : n = ps.length) (hs : n ≤ maxLen) (hf : FlatAt w ptCells 2 a ps) (hx : -9223372036854775808 ≤ x ∧ x ≤ 9223372036854775807) (hv : valueAt ps x = v) :
    Calls Try.prog 28 #[.slice a n c, .int .i64 x] w fun e w' => e = .returned (.int .i64 v) ∧ Ext w w' := by
  subst hv
  exact implValueAt_any a n c ps x w hn hs hf hx
/-- What PlaceOf answers. -/
def Placed (ps : List Pt) (y : Int) (e : Ending) : Prop :=
  if h : tableOk ps = true ∧ 0 < ps.length ∧ y ≤ (ps.getD (ps.length - 1) (0, 0)).2 then ∃ z, IsPlace ps y z ∧ e = .returned (.tuple #[.int .i64 z, .bool true]) else e = .returned (.tuple #[.int .i64 0, .bool false])
theorem Placed.no {ps : List Pt} {y : Int} {e : Ending} (h : tableOk ps = false) (he : e = .returned (.tuple #[.int .i64 0, .bool false])) : Placed ps y e := by
  unfold Placed
  rw [dif_neg (by rw [h]; simp)]
  exact he
theorem Placed.high {ps : List Pt} {y : Int} {e : Ending} (h : (ps.getD (ps.length - 1) (0, 0)).2 < y) (he : e = .returned (.tuple #[.int .i64 0, .bool false])) : Placed ps y e := by
  unfold Placed
  rw [dif_neg (by omega)]
  exact he
theorem Placed.yes {ps : List Pt} {y z : Int} {e : Ending} (h : tableOk ps = true) (h0 : 0 < ps.length) (h2 : y ≤ (ps.getD (ps.length - 1) (0, 0)).2) (hz : IsPlace ps y z) (he : e = .returned (.tuple #[.int .i64 z, .bool true])) : Placed ps y e := by
  unfold Placed
  rw [dif_pos ⟨h, h0, h2⟩]
  exact ⟨z, hz, he⟩
theorem getD_last {ps : List Pt} (h : 0 < ps.length) : ps.getD (ps.length - 1) (0, 0) = ps[ps.length - 1] := by
  rw [List.getD_eq_getElem?_getD, List.getElem?_eq_getElem (by omega)]; rfl

set_option maxRecDepth 100000 in
set_option maxHeartbeats 1000000 in
theorem implPlaceOf_any (a : Option Addr) (n c : Nat) (ps : List Pt) (y : Int) (w : World) (hn : n = ps.length) (hs : n ≤ maxLen) (hf : FlatAt w ptCells 2 a ps) :
    Calls Try.prog 33 #[.slice a n c, .int .i64 y] w fun e w' => Placed ps y e ∧ Ext w w' := by
  have HF := Lib.hid hf; clear hf
  have HS := Lib.hid hs
  unfold maxLen at hs
  obtain ⟨ok, hok⟩ : ∃ ok, tableOk ps = ok := ⟨_, rfl⟩
  have HOK := Lib.hid hok
  cases ok
  · have HN := Lib.hid hn
    clear hok hn
    go_enter Try.func33, Try.ntmps33
    go_wp2_with (go_at_call 51; with_reducible refine (implTableOk_is _ _ _ _ ps _ HN.out HS.out HF.out HOK.out).mono ?_; rintro e w1 ⟨rfl, hb1⟩)
    refine bodyPost_ret (v := .tuple #[.int .i64 0, .bool false]) (by simp [results, Try.results33, go_sem, *]) rfl ⟨Placed.no HOK.out rfl, by (repeat' (first | (with_reducible exact Ext.refl _) | (with_reducible assumption) | (with_reducible refine Ext.alloc ?_ _) | (with_reducible refine Ext.drewN ?_ _) | (with_reducible refine Ext.drew ?_) | (with_reducible refine Ext.setCell ?_ ?_ _) | (with_reducible exact Nat.le_refl _) | (with_reducible exact Nat.le_succ _) | (with_reducible refine Ext.trans ?_ (by assumption)) | (simp; done) | (simp; omega)))⟩
  obtain ⟨htab, hl2, hl20⟩ := tab_of hok
  have hlen0 : 0 < ps.length := by omega
  have hlenl : ps.length - 1 < ps.length := by omega
  have hvl := valueAt_last hok (ps.length - 1) (by omega)
  rw [← hn] at hl2 hl20
  have hfirst := htab.get 0 hlen0
  have hlast := htab.get (ps.length - 1) hlenl
  have hfl := Tab.head_le ps htab (ps.length - 1) hlenl hlen0
  obtain ⟨b, off, rfl, hc0⟩ := HF.out.get 0 hlen0
  obtain ⟨b', off', e', hcl⟩ := HF.out.get (ps.length - 1) hlenl
  cases e'
  obtain ⟨f1, f2, hf0⟩ : ∃ f1 f2, ps[0]'hlen0 = (f1, f2) := ⟨_, _, rfl⟩
  obtain ⟨l1, l2, hll⟩ : ∃ l1 l2, ps[ps.length - 1]'hlenl = (l1, l2) := ⟨_, _, rfl⟩
  have HF0 := Lib.hid hf0
  have HFL := Lib.hid hll
  rw [hf0] at hc0 hfirst hfl
  rw [hll] at hcl hlast hfl hvl
  have HG := Lib.hid (getD_last hlen0)
  rw [hll] at HG
  dsimp only at hfirst hlast hfl hvl
  have HVL := Lib.hid hvl
  have HPL := Lib.hid (fun (z : Int) (h1 : f1 ≤ z) (h2 : z ≤ l1) (h3 : y ≤ valueAt ps z) (h4 : z = f1 ∨ valueAt ps (z - 1) < y) => (⟨hlen0, by rw [hf0]; exact h1, by rw [hll]; exact h2, h3, by rw [hf0]; exact h4⟩ : IsPlace ps y z))
  clear hf0 hll hok htab hvl
  obtain ⟨m, rfl⟩ : ∃ m, n = m + 1 := ⟨n - 1, by omega⟩
  have e0 : ∀ w', Ext w w' → w'.cell? ⟨b, off, none⟩ = some (.int .i64 f1) := by simpa using hc0 0 _ rfl
  rw [show ps.length - 1 = m by omega] at hcl
  have e2 : ∀ w', Ext w w' → w'.cell? ⟨b, off + m * 2, none⟩ = some (.int .i64 l1) := hcl 0 _ rfl
  have e3 : ∀ w', Ext w w' → w'.cell? ⟨b, off + m * 2 + 1, none⟩ = some (.int .i64 l2) := hcl 1 _ rfl
  have HN := Lib.hid hn
  have HL0 := Lib.hid hlen0
  clear hn hc0 hcl
  by_cases c1 : l2 < y
  · go_enter Try.func33, Try.ntmps33
    go_wp2_with (go_at_call 51; with_reducible refine (implTableOk_is _ _ _ _ ps _ HN.out HS.out HF.out HOK.out).mono ?_; rintro e w1 ⟨rfl, hb1⟩)
    refine bodyPost_ret (v := .tuple #[.int .i64 0, .bool false]) (by simp [results, Try.results33, go_sem, *]) rfl ⟨Placed.high (by rw [HG.out]; exact c1) rfl, by (repeat' (first | (with_reducible exact Ext.refl _) | (with_reducible assumption) | (with_reducible refine Ext.alloc ?_ _) | (with_reducible refine Ext.drewN ?_ _) | (with_reducible refine Ext.drew ?_) | (with_reducible refine Ext.setCell ?_ ?_ _) | (with_reducible exact Nat.le_refl _) | (with_reducible exact Nat.le_succ _) | (with_reducible refine Ext.trans ?_ (by assumption)) | (simp; done) | (simp; omega)))⟩
  · have d1 : decide (l2 < y) = false := by simp; omega
    go_enter Try.func33, Try.ntmps33
    go_wp2_with fail
    refine (implTableOk_is _ _ _ _ ps _ HN.out HS.out HF.out HOK.out).mono ?_
    rintro e w1 ⟨rfl, hb1⟩
    have g0 : ∀ z : Aft w1, z.1.cell? ⟨b, off, none⟩ = some (.int .i64 f1) := fun z => e0 _ (hb1.trans z.2)
    have g2 : ∀ z : Aft w1, z.1.cell? ⟨b, off + m * 2, none⟩ = some (.int .i64 l1) := fun z => e2 _ (hb1.trans z.2)
    go_wp2_with fail
    (refine wp_region_aft w1 (Ext.refl _) (by kernel_rfl) (by kernel_rfl) ?_; (repeat (go_big_quiet_step (fail))); refine wpQuiet_nil ?_; intro w2 hx2)
    have HX2 := Lib.hid (hb1.trans hx2)
    clear g0 g2 e0 e2 e3 hb1 hx2
    go_wp2
    go_loopw [6, 7] (fun lv hv wr => ∃ low high : Int, lv = .int .i64 low ∧ hv = .int .i64 high ∧ f1 ≤ low ∧ low ≤ high ∧ high ≤ l1 ∧ Ext w wr ∧ Hid (y ≤ valueAt ps high) ∧ Hid (low = f1 ∨ valueAt ps (low - 1) < y)) (fun lv hv _ => (intOf hv - intOf lv).toNat)
    case atStart => exact ⟨f1, l1, rfl, rfl, Int.le_refl _, hfl, Int.le_refl _, HX2.out, by (show _ ≤ _); rw [HVL.out]; omega, .inl rfl⟩
    case round =>
      obtain ⟨low, high, rfl, rfl, hl, hlh, hh, hr, hyv, hlv⟩ := hrel
      by_cases hlt : low < high
      · obtain ⟨mid, hmid⟩ : ∃ mid, Int.tdiv (low + high) 2 = mid := ⟨_, rfl⟩
        have hme : mid = (low + high) / 2 := by rw [← hmid, Int.tdiv_eq_ediv_of_nonneg (by omega)]
        have hm1 : low ≤ mid := by omega
        have hm2 : mid < high := by omega
        obtain ⟨v, hv⟩ : ∃ v, valueAt ps mid = v := ⟨_, rfl⟩
        have HV := Lib.hid hv
        clear hv hme
        have hd2 : (low + high) / 2 = mid := by rw [← hmid, Int.tdiv_eq_ediv_of_nonneg (by omega)]
        by_cases c2 : y ≤ v
        · go_wp2_with (go_at_call 28; refine (implValueAt_is v _ _ _ ps _ _ HN.out HS.out (HF.out.ext hr) (by omega) HV.out).mono ?_; rintro e w3 ⟨rfl, hb3⟩)
          go_roundw
          case rel => exact ⟨low, mid, rfl, rfl, hl, hm1, by omega, hr.trans hb3, by (show _ ≤ _); rw [HV.out]; exact c2, hlv.out⟩
          case measure => simp [intOf]; omega
        · have d2 : decide (y ≤ v) = false := by simp; omega
          go_wp2_with (go_at_call 28; refine (implValueAt_is v _ _ _ ps _ _ HN.out HS.out (HF.out.ext hr) (by omega) HV.out).mono ?_; rintro e w3 ⟨rfl, hb3⟩)
          go_roundw
          case rel => exact ⟨mid + 1, high, rfl, rfl, by omega, by omega, hh, hr.trans hb3, hyv.out, .inr (by rw [show mid + 1 - 1 = mid by omega, HV.out]; omega)⟩
          case measure => simp [intOf]; omega
      · have hle : low = high := by omega
        have d2 : decide (low < high) = false := by simp; omega
        go_wp2
        refine bodyPost_ret (v := .tuple #[.int .i64 low, .bool true]) (by simp [results, Try.results33, go_sem, *]) rfl ⟨Placed.yes HOK.out HL0.out (by rw [HG.out]; dsimp only; omega) (HPL.out low hl (by omega) (by rw [hle]; exact hyv.out) hlv.out) rfl, hr⟩

end Go.Proofs.Ytmppoflgbmabpaa
