/- DivideTrain, on both sides. -/
import Derived.Test.YtjjikcjhnglkaaaProg
import Derived.Test.YtjjikcjhnglkaaaCopy
namespace Go.Proofs.Ytjjikcjhnglkaaa
open Go.RowKit
set_option linter.unusedSimpArgs false
set_option linter.unusedVariables false

theorem RowsAt.take {w : World} {a : Option Addr} {rows : List (List Bt)} (h : RowsAt w a rows) (k : Nat) : RowsAt w a (rows.take k) := fun j hj => by
  have hj' : j < rows.length := by rw [List.length_take] at hj; omega
  obtain ⟨b, off, a', c, e, hc, hl, hf⟩ := h j hj'
  refine ⟨b, off, a', c, e, ?_⟩
  simp only [List.getElem_take]
  exact ⟨hc, hl, hf⟩
theorem RowsAt.drop {w : World} {b off : Nat} {rows : List (List Bt)} (h : RowsAt w (some ⟨b, off, none⟩) rows) (k : Nat) : RowsAt w (some ⟨b, off + k, none⟩) (rows.drop k) := fun j hj => by
  have hj' : k + j < rows.length := by rw [List.length_drop] at hj; omega
  obtain ⟨b', off', a', c, e, hc, hl, hf⟩ := h (k + j) hj'
  cases e
  refine ⟨b, off + k, a', c, rfl, ?_⟩
  simp only [List.getElem_drop]
  exact ⟨by rw [Nat.add_assoc]; exact hc, hl, hf⟩
/-- What DivideTrain answers: up, the rows of both trains, whether it can be divided. -/
def divRes (u : Bool) (rows : List (List Bt)) (k : Int) : Bool × List (List Bt) × List (List Bt) × Bool :=
  if trainOk rows = true ∧ 1 ≤ k ∧ k ≤ (rows.length : Int) - 1 then (u, rows.take k.toNat, rows.drop k.toNat, true) else (false, [], [], false)
/-- Two trains that have been laid, each in blocks of its own. -/
def Two (w w' : World) (u1 R : Bool) (r1 r2 : List (List Bt)) (n1 n2 : Nat) (e : Ending) : Prop :=
  ∃ a1 c1 a2 c2 mid, e = .returned (.tuple #[.agg #[.bool u1, .slice a1 n1 c1], .agg #[.bool u1, .slice a2 n2 c2], .bool R]) ∧ OwnRows w' w.heap.size mid a1 r1 ∧ OwnRows w' mid w'.heap.size a2 r2 ∧ (w.heap.size ≤ mid ∧ mid ≤ w'.heap.size) ∧ Ext w w'
theorem Two.zero {w w' : World} {n1 n2 : Nat} (h1 : n1 = 0) (h2 : n2 = 0) (hx : Ext w w') : Two w w' false false [] [] n1 n2 (.returned (.tuple #[.agg #[.bool false, .slice none 0 0], .agg #[.bool false, .slice none 0 0], .bool false])) := by
  subst h1 h2
  exact ⟨none, 0, none, 0, w.heap.size, rfl, .inl rfl, .inl rfl, ⟨Nat.le_refl _, hx.size⟩, hx⟩
theorem GR.ownAt {w : World} {lo hi n : Nat} {a : Option Addr} {c : Nat} {vs : List Value} {rows : List (List Bt)} (h : GR w lo hi (.slice a n c) vs rows) : OwnRows w lo hi a rows := by
  obtain ⟨a', c', e, _, ho⟩ := h.own
  injection e with ea _ _
  rw [ea]
  exact ho

end Go.Proofs.Ytjjikcjhnglkaaa
