/- LengthOf and WidthOf: what they compute, on both sides. -/
import Derived.Test.YtjjikcjhnglkaaaProg
import Derived.Test.YtjjikcjhnglkaaaTrainOkS
namespace Go.Proofs.Ytjjikcjhnglkaaa
open Go.RowKit
set_option linter.unusedSimpArgs false
set_option linter.unusedVariables false

theorem boatsGo_ok : ∀ (bs : List Bt) (seen : List Int), boatsGo seen bs = true → ∀ b ∈ bs, bOk b = true
  | [], _, _, b, hb => by cases hb
  | c :: bs, seen, h, b, hb => by
    rw [boatsGo, Bool.and_eq_true, Bool.and_eq_true] at h
    rcases List.mem_cons.1 hb with rfl | hb
    · exact h.1.1
    · exact boatsGo_ok bs _ h.2 b hb
theorem bOk_bounds {b : Bt} (h : bOk b = true) : (1 ≤ b.id ∧ b.id ≤ 9999) ∧ (1 ≤ b.len ∧ b.len ≤ 200) ∧ (1 ≤ b.wid ∧ b.wid ≤ 30) ∧ (1 ≤ b.dra ∧ b.dra ≤ 100) ∧ (1 ≤ b.spd ∧ b.spd ≤ 50) ∧ (0 ≤ b.cls ∧ b.cls ≤ 2) := by
  unfold bOk boatOk at h
  simp only [Bool.and_eq_true] at h
  obtain ⟨⟨⟨⟨⟨h1, h2⟩, h3⟩, h4⟩, h5⟩, h6⟩ := h
  exact ⟨inR_true h1, inR_true h2, inR_true h3, inR_true h4, inR_true h5, inR_true h6⟩
theorem trainOk_boats {rows : List (List Bt)} (h : trainOk rows = true) {r : List Bt} (hr : r ∈ rows) {b : Bt} (hb : b ∈ r) : bOk b = true :=
  boatsGo_ok _ _ (trainOk_true h).2.2.2.2.2 b (List.mem_flatten.2 ⟨r, hr, hb⟩)

def mostLen (n : Int) (row : List Bt) : Int := row.foldl (fun n b => if n < b.len then b.len else n) n
def lenGo (s : Int) (rows : List (List Bt)) : Int := rows.foldl (fun s r => s + (mostLen 0 r)) s
def lengthOf (rows : List (List Bt)) : Int := if trainOk rows then lenGo 0 rows else 0

end Go.Proofs.Ytjjikcjhnglkaaa
