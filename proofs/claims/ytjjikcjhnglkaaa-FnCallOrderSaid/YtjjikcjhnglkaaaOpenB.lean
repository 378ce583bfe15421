/- An argument that is a slice of bytes, opened. -/
import Derived.Test.YtjjikcjhnglkaaaLib
import Derived.Test.YtjjikcjhnglkaaaOpen
import Derived.Test.YtjjikcjhnglkaaaBytes
namespace Go.Proofs.Ytjjikcjhnglkaaa
open Go.RowKit Go.WideShapes Go.ChangeShapes Go.Deep Go.Joins
theorem open_bytes {H : Type} {enc : TypeId × Value → H} {P : Program} {w : World} {base : Nat} {spare : Nat → Bool} {held : Bool} {t e : TypeId} {v : Value} {d : DataW H} {p : List MemPlace} {r : Reach} {b0 : Nat}
    (ht : P.underlying t = some (.slice e)) (he : P.underlying e = some (.int .u8)) (hC : P.cellsOf e = 1) (hv : Value.okWide P w r b0 t v) (h : DataW.Trod enc P w base spare held t v d p) :
    ∃ (a : Option Addr) (len cap : Nat) (xs : List Int), v = .slice a len cap ∧ len = xs.length ∧ len ≤ maxLen ∧ BytesAt w a xs := by
  obtain ⟨a0, len0, cap0, rfl⟩ := okWide_slice ht hv
  obtain ⟨fuel, hf⟩ := h
  rcases open_ints ht he hC hf with ⟨hcs, _⟩ | ⟨a, len, cap, zs, hcs, _, hl, hm, hz, _, hc, hw⟩
  · simp [Value.cells] at hcs
    obtain ⟨rfl, rfl, rfl⟩ := hcs
    exact ⟨none, 0, 0, [], rfl, rfl, Nat.zero_le _, fun k hk => absurd hk (Nat.not_lt_zero _)⟩
  · simp [Value.cells] at hcs
    obtain ⟨rfl, rfl, rfl⟩ := hcs
    have hlz : len0 ≤ zs.length := by rw [hz]; split <;> omega
    refine ⟨some a, len0, cap0, zs.take len0, rfl, by simp; omega, by omega, fun k hk => ?_⟩
    have hk' : k < zs.length := by simp at hk; omega
    have hs : a.spot = none := by
      have := spot_of_cell (hc 0 (by omega))
      simpa [Addr.add] using this
    have hck := hc k hk'
    rw [add_plain hs] at hck
    have hb := bounds_u8 (hw zs[k] (List.getElem_mem _))
    refine ⟨by simpa using hb.1, by simpa using hb.2, a.block, a.off, by rw [← hs], ?_⟩
    rw [hck]
    simp [List.getD, List.getElem?_eq_getElem hk']
end Go.Proofs.Ytjjikcjhnglkaaa
