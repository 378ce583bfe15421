/- RankOf: what it computes, on both sides. -/
import Derived.Test.YtjjikcjhnglkaaaDoorProg
import Derived.Test.YtjjikcjhnglkaaaDoorCall
namespace Go.Proofs.YtjjikcjhnglkaaaDoor
open Go.RowKit
set_option linter.unusedSimpArgs false
set_option linter.unusedVariables false

theorem cls_bounds {rows : List (List Bt)} (h : trainOk rows = true) : 0 ≤ classOf rows ∧ classOf rows ≤ 2 := by
  obtain ⟨b0, r, rs, hr⟩ := trainOk_head h
  have hb : ∀ b ∈ rows.flatten, 0 ≤ b.cls ∧ b.cls ≤ 2 := fun b hb => (bOk_bounds (boatsGo_ok _ _ (trainOk_true h).2.2.2.2.2 b hb)).2.2.2.2.2
  have key : ∀ (bs : List Bt) (n : Int), 0 ≤ n → n ≤ 2 → (∀ b ∈ bs, 0 ≤ b.cls ∧ b.cls ≤ 2) → 0 ≤ clsGo n bs ∧ clsGo n bs ≤ 2 := by
    intro bs
    induction bs with
    | nil => intro n h0 h1 _; exact ⟨h0, h1⟩
    | cons b bs ih =>
      intro n h0 h1 hbs
      have hb := hbs b (by simp)
      exact ih (if b.cls < n then b.cls else n) (by split <;> omega) (by split <;> omega) (fun c hc => hbs c (by simp [hc]))
  unfold classOf
  rw [if_pos h]
  rw [hr] at hb ⊢
  have h0 := hb b0 (by simp)
  exact key _ _ h0.1 h0.2 hb

def rankOf (rows : List (List Bt)) (si bo now : Int) : Int :=
  if callOk rows si bo = true ∧ inR now si 1000000 = true then (if bo ≠ -1 ∧ bo ≤ now then -1 else if (now - si) / 20 < classOf rows then classOf rows - (now - si) / 20 else 0) else 3

end Go.Proofs.YtjjikcjhnglkaaaDoor
