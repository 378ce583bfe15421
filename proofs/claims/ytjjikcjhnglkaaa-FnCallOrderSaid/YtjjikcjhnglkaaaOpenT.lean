/- How trains that come as arguments read: opened to cells. -/
import Derived.Test.YtjjikcjhnglkaaaProg
import Derived.Test.YtjjikcjhnglkaaaOpen
import Derived.Test.YtjjikcjhnglkaaaTrainSz
namespace Go.Proofs.Ytjjikcjhnglkaaa
open Go.RowKit Go.WideShapes Go.ChangeShapes Go.Deep Go.Joins
set_option maxRecDepth 100000
section
variable {H : Type} {enc : TypeId × Value → H} {P : Program} {w : World} {base : Nat} {spare : Nat → Bool} {held : Bool}
/-- A slice, opened at every element, each read as 'Good' says. -/
theorem open_slice_good {α : Type} [Inhabited α] {t e : TypeId} {sz fuel : Nat} {cs : List Value} {x : DataW H × List MemPlace} (ht : P.underlying t = some (.slice e)) (hC : P.cellsOf e = sz) (h0 : 0 < sz) (Good : List Value → α → Prop)
    (hel : ∀ n cs y, cs.length = sz → DataW.trod enc P w base spare held n e cs = some y → ∃ x, Good cs x) (h : DataW.trod enc P w base spare held fuel t cs = some x) :
    ∃ (a : Option Addr) (len cap : Nat) (xs : List α), cs = [.slice a len cap] ∧ len = xs.length ∧ (len ≤ maxLen ∧ (a = none → cap = 0)) ∧
      ∀ k (h : k < xs.length), ∃ b off cs', a = some ⟨b, off, none⟩ ∧ cs'.length = sz ∧ (∀ j, j < sz → w.cell? ⟨b, off + k * sz + j, none⟩ = cs'[j]?) ∧ Good cs' xs[k] := by
  rcases open_slice ht h with ⟨rfl, _⟩ | ⟨a, len, cap, m, n, D, Pl, rfl, _, hl, hm, hmm, _, hi⟩
  · exact ⟨none, 0, 0, [], rfl, rfl, ⟨Nat.zero_le _, fun _ => rfl⟩, fun k hk => absurd hk (Nat.not_lt_zero _)⟩
  · have hlm : len ≤ m := by rw [hmm]; split <;> omega
    have key : ∀ i, i < len → ∃ x : α, ∃ cs', cs'.length = sz ∧ (∀ j, j < sz → w.cell? ((a.add (i * sz)).add j) = cs'[j]?) ∧ Good cs' x := fun i hil => by
      obtain ⟨cs', hc, htr⟩ := hi i (by omega)
      rw [hC] at hc
      obtain ⟨_, hcl, hat⟩ := World.cells?_some hc
      obtain ⟨x, hx⟩ := hel n cs' _ hcl htr
      exact ⟨x, cs', hcl, hat, hx⟩
    obtain ⟨Z, hZ⟩ := choose_lt (α := α) (p := fun i x => ∃ cs', cs'.length = sz ∧ (∀ j, j < sz → w.cell? ((a.add (i * sz)).add j) = cs'[j]?) ∧ Good cs' x) key
    refine ⟨some a, len, cap, (List.range len).map Z, rfl, by simp, ⟨by omega, fun h => by cases h⟩, fun k hk => ?_⟩
    have hk' : k < len := by simpa using hk
    obtain ⟨cs', hcl, hat, hg⟩ := hZ k hk'
    have hs : a.spot = none := by
      obtain ⟨cs0, hl0, hat0, _⟩ := hZ 0 (by omega)
      have h1 := hat0 0 h0
      rw [List.getElem?_eq_getElem (by omega)] at h1
      have := spot_of_cell h1
      simpa [Addr.add] using this
    refine ⟨a.block, a.off, cs', by rw [← hs], hcl, fun j hj => ?_, by simpa using hg⟩
    have := hat j hj
    rw [Go.Deep.add_add, add_plain hs] at this
    rw [Nat.add_assoc]
    exact this
end
instance : Inhabited Bt := ⟨⟨0, 0, 0, 0, 0, 0⟩⟩
section
variable {H : Type} {enc : TypeId × Value → H} {w : World} {base : Nat} {spare : Nat → Bool} {held : Bool}
theorem total_flatten (rows : List (List Bt)) : total rows = rows.flatten.length := by rw [List.length_flatten]; rfl
theorem szRows_bounds {L : Int} {rows : List (List Bt)} (h0 : 0 ≤ L) (h1 : L ≤ 1048576) (h : ¬ szRows L rows < 0) : rows.length ≤ 1048576 ∧ (∀ r ∈ rows, r.length ≤ 1048576) ∧ rows.flatten.length ≤ 1048576 := by
  have hv := szRows_val h0 (by omega : 0 ≤ szRows L rows)
  have ht := total_flatten rows
  refine ⟨by omega, fun r hr => ?_, by omega⟩
  have := total_le hr
  omega
end
end Go.Proofs.Ytjjikcjhnglkaaa
