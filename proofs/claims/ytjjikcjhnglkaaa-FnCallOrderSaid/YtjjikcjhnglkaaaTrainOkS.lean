/- TrainOk: the closed form, and the reference. -/
import Derived.Test.YtjjikcjhnglkaaaProg
import Derived.Test.YtjjikcjhnglkaaaTrainOk
namespace Go.Proofs.Ytjjikcjhnglkaaa
open Go.RowKit
set_option linter.unusedSimpArgs false
set_option linter.unusedVariables false

theorem boatsGo_append : ∀ (xs ys : List Bt) (seen : List Int), boatsGo seen (xs ++ ys) = (boatsGo seen xs && boatsGo (seen ++ xs.map Bt.id) ys)
  | [], ys, seen => by simp [boatsGo]
  | b :: xs, ys, seen => by
    simp only [List.cons_append, boatsGo, boatsGo_append xs ys, List.map_cons, List.append_assoc, Bool.and_assoc]
    rfl
theorem implGo_empty : ∀ (rows : List (List Bt)) (seen : List Int), (∃ r ∈ rows, r.length = 0) → implGo seen rows = false
  | [], _, h => by simp at h
  | r :: rs, seen, h => by
    unfold implGo
    split
    · rfl
    · rename_i hc
      obtain ⟨r', hr', h0⟩ := h
      rcases List.mem_cons.1 hr' with rfl | hm
      · exact absurd (.inl h0) hc
      · rw [implGo_empty rs _ ⟨r', hm, h0⟩, Bool.and_false]
theorem implGo_full : ∀ (rows : List (List Bt)) (seen : List Int), (∀ r ∈ rows, r.length ≠ 0) → implGo seen rows = (decide (rows.flatten.length = 0 ∨ seen.length + rows.flatten.length ≤ 6) && boatsGo seen rows.flatten)
  | [], seen, _ => by simp [implGo, boatsGo]
  | r :: rs, seen, h => by
    have h0 := h r (by simp)
    unfold implGo
    rw [List.flatten_cons, List.length_append, boatsGo_append]
    split
    · rename_i hc
      rw [decide_eq_false (by omega), Bool.false_and]
    · rename_i hc
      rw [implGo_full rs _ (fun r' hr' => h r' (by simp [hr'])), List.length_append, List.length_map]
      cases boatsGo seen r
      · simp
      · rw [Bool.true_and, Bool.true_and]
        congr 1
        apply decide_eq_decide.2
        omega
theorem len_le_flatten : ∀ (rows : List (List Bt)), (∀ r ∈ rows, r.length ≠ 0) → rows.length ≤ rows.flatten.length
  | [], _ => by simp
  | r :: rs, h => by
    have := h r (by simp)
    have := len_le_flatten rs (fun r' hr' => h r' (by simp [hr']))
    rw [List.flatten_cons, List.length_append, List.length_cons]
    omega
theorem trainOk_empty {rows : List (List Bt)} (h : ∃ r ∈ rows, r.length = 0) : trainOk rows = false := by
  unfold trainOk
  split
  · rfl
  · exact implGo_empty _ _ h
theorem trainOk_full {rows : List (List Bt)} (h : ∀ r ∈ rows, r.length ≠ 0) : trainOk rows = (inR rows.flatten.length 1 6 && boatsGo [] rows.flatten) := by
  have hl := len_le_flatten rows h
  unfold trainOk
  split
  · rename_i hc
    have : inR rows.flatten.length 1 6 = false := by
      unfold inR
      apply decide_eq_false
      rcases hc with hc | hc
      · have : rows = [] := List.eq_nil_of_length_eq_zero hc
        subst this
        simp
      · omega
    rw [this, Bool.false_and]
  · rename_i hc
    rw [implGo_full rows [] h]
    congr 1
    unfold inR
    apply decide_eq_decide.2
    have : ([] : List Int).length = 0 := rfl
    omega
/-- What a valid train is like. -/
theorem trainOk_true {rows : List (List Bt)} (h : trainOk rows = true) : rows ≠ [] ∧ (∀ r ∈ rows, r.length ≠ 0) ∧ 1 ≤ rows.flatten.length ∧ rows.flatten.length ≤ 6 ∧ rows.length ≤ 6 ∧ boatsGo [] rows.flatten = true := by
  by_cases he : ∃ r ∈ rows, r.length = 0
  · rw [trainOk_empty he] at h; cases h
  · have he' : ∀ r ∈ rows, r.length ≠ 0 := fun r hr h0 => he ⟨r, hr, h0⟩
    rw [trainOk_full he', Bool.and_eq_true] at h
    have h2 := inR_true h.1
    have hl := len_le_flatten rows he'
    refine ⟨?_, he', by omega, by omega, by omega, h.2⟩
    rintro rfl
    simp at h2

/-- The step of the reference: the boat's Id among those ahead of it. -/
theorem boatsGo_step {flat : List Bt} {k : Nat} (hk : k < flat.length) : boatsGo ((flat.take k).map Bt.id) (flat.drop k) = (bOk flat[k] && !((flat.take k).map Bt.id).contains flat[k].id && boatsGo ((flat.take (k + 1)).map Bt.id) (flat.drop (k + 1))) := by
  rw [List.drop_eq_getElem_cons hk]
  simp only [boatsGo]
  rw [List.take_succ_eq_append_getElem hk, List.map_append]
  rfl
theorem contains_take {flat : List Bt} {k i : Nat} (hk : k < flat.length) (hi : i < k) (v : Int) (h : (flat[i]'(by omega)).id = v) : ((flat.take k).map Bt.id).contains v = true := by
  rw [List.contains_iff_mem, List.mem_map]
  refine ⟨flat[i]'(by omega), ?_, h⟩
  rw [List.mem_take_iff_getElem]
  exact ⟨i, by omega, rfl⟩
theorem contains_take_no {flat : List Bt} {k : Nat} (v : Int) (h : ∀ i (hi : i < flat.length), i < k → flat[i].id ≠ v) : ((flat.take k).map Bt.id).contains v = false := by
  rw [Bool.eq_false_iff]
  intro hc
  rw [List.contains_iff_mem, List.mem_map] at hc
  obtain ⟨b, hb, e⟩ := hc
  rw [List.mem_take_iff_getElem] at hb
  obtain ⟨i, hi, e2⟩ := hb
  exact h i (by omega) (by omega) (by rw [e2]; exact e)

theorem notIn6 {m : Nat} (h : 6 < m) : inR m 1 6 = false := by
  unfold inR
  apply decide_eq_false
  omega
end Go.Proofs.Ytjjikcjhnglkaaa
