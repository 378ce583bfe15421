/- Trains in memory: rows of boats; what the law's helpers on them do (sizes, conversion, comparison). -/
import Derived.Test.YtjjikcjhnglkaaaProg
import Derived.Test.YtjjikcjhnglkaaaLib
import Derived.Test.YtjjikcjhnglkaaaMem
import Derived.Test.YtjjikcjhnglkaaaBoat
namespace Go.Proofs.Ytjjikcjhnglkaaa
open Go.RowKit
set_option linter.unusedSimpArgs false
set_option linter.unusedVariables false

structure Bt where
  id : Int
  len : Int
  wid : Int
  dra : Int
  spd : Int
  cls : Int
def bCells (b : Bt) : List Value := [.int .i64 b.id, .int .i64 b.len, .int .i64 b.wid, .int .i64 b.dra, .int .i64 b.spd, .int .i64 b.cls]
theorem bCells_len (b : Bt) : (bCells b).length = 6 := rfl

/-- The rows lie one behind the other at a, each a slice of boats. -/
def RowsAt (w : World) (a : Option Addr) (rows : List (List Bt)) : Prop :=
  ∀ k (h : k < rows.length), ∃ b off a' c, a = some ⟨b, off, none⟩ ∧ w.cell? ⟨b, off + k, none⟩ = some (.slice a' rows[k].length c) ∧ (rows[k].length ≤ maxLen ∧ (a' = none → c = 0)) ∧ FlatAt w bCells 6 a' rows[k]
theorem RowsAt.ext {w w' : World} {a : Option Addr} {rows : List (List Bt)} (h : RowsAt w a rows) (hx : Ext w w') : RowsAt w' a rows :=
  fun k hk => let ⟨b, off, a', c, e, hc, hl, hf⟩ := h k hk; ⟨b, off, a', c, e, hx.cell hc, hl, hf.ext hx⟩

/-! ### Sizes -/
def szRow (left : Int) (n : Nat) : Int := if left < n then -1 else left - n
def szGo (left : Int) : List (List Bt) → Int
  | [] => left
  | r :: rs => if szRow left r.length < 0 then -1 else szGo (szRow left r.length) rs
def szRows (left : Int) (rows : List (List Bt)) : Int := if szRow left rows.length < 0 then -1 else szGo (szRow left rows.length) rows
def total (rows : List (List Bt)) : Nat := (rows.map List.length).sum
theorem szRow_val {left : Int} {n : Nat} (h : ¬ szRow left n < 0) : szRow left n = left - n ∧ (n : Int) ≤ left := by
  unfold szRow at *
  split at h
  · exact absurd (by decide) h
  · rename_i h1; rw [if_neg h1]; exact ⟨rfl, by omega⟩
theorem szGo_val : ∀ (rows : List (List Bt)) (left : Int), 0 ≤ left → 0 ≤ szGo left rows → szGo left rows = left - total rows
  | [], left, _, _ => by simp [szGo, total]
  | r :: rs, left, h0, h => by
    simp only [szGo] at h ⊢
    split at h
    · omega
    · rename_i h1
      rw [if_neg h1]
      obtain ⟨e, hl⟩ := szRow_val h1
      have := szGo_val rs (szRow left r.length) (by omega) h
      simp only [total, List.map_cons, List.sum_cons] at *
      omega
theorem szRows_val {left : Int} {rows : List (List Bt)} (h0 : 0 ≤ left) (h : 0 ≤ szRows left rows) : szRows left rows = left - rows.length - total rows := by
  unfold szRows at *
  split at h
  · omega
  · rename_i h1
    rw [if_neg h1]
    obtain ⟨e, hl⟩ := szRow_val h1
    rw [szGo_val rows _ (by omega) h, e]
theorem total_le {rows : List (List Bt)} {r : List Bt} (h : r ∈ rows) : r.length ≤ total rows := by
  induction rows with
  | nil => cases h
  | cons x xs ih =>
    simp only [total, List.map_cons, List.sum_cons] at *
    rcases List.mem_cons.1 h with rfl | h
    · omega
    · have := ih h; omega

end Go.Proofs.Ytjjikcjhnglkaaa
