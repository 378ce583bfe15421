/- How trains that come as arguments read: opened to cells. -/
import Derived.Test.YtjjikcjhnglkaaaDoorProg
import Derived.Test.YtjjikcjhnglkaaaDoorOpen
import Derived.Test.YtjjikcjhnglkaaaDoorTrainSz
namespace Go.Proofs.YtjjikcjhnglkaaaDoor
open Go.RowKit Go.WideShapes Go.ChangeShapes Go.Deep Go.Joins
set_option maxRecDepth 100000
section
variable {H : Type} {enc : TypeId × Value → H} {P : Program} {w : World} {base : Nat} {spare : Nat → Bool} {held : Bool}
/-- A slice, opened at every element, each read as 'Good' says. -/
theorem open_slice_good {α : Type} [Inhabited α] {t e : TypeId} {sz fuel : Nat} {cs : List Value} {x : DataW H × List MemPlace} (ht : P.underlying t = some (.slice e)) (hC : P.cellsOf e = sz) (h0 : 0 < sz) (Good : List Value → α → Prop)
    (hel : ∀ n cs y, cs.length = sz → DataW.trod enc P w base spare held n e cs = some y → ∃ x, Good cs x) (h : DataW.trod enc P w base spare held fuel t cs = some x) :
    ∃ (a : Option Addr) (len cap : Nat) (xs : List α), cs = [.slice a len cap] ∧ len = xs.length ∧ (len ≤ maxLen ∧ (a = none → cap = 0)) ∧
      ∀ k (h : k < xs.length), ∃ b off cs', a = some ⟨b, off, none⟩ ∧ cs'.length = sz ∧ (∀ j, j < sz → w.cell? ⟨b, off + k * sz + j, none⟩ = cs'[j]?) ∧ Good cs' xs[k] := by
  rcases open_slice ht h with ⟨rfl, _⟩ | ⟨a, len, cap, m, n, D, Pl, rfl, _, hl, hm, hmm, _, hi⟩
  · exact ⟨none, 0, 0, [], rfl, rfl, ⟨Nat.zero_le _, fun _ => rfl⟩, fun k hk => absurd hk (Nat.not_lt_zero _)⟩
  · have hlm : len ≤ m := by rw [hmm]; split <;> omega
    have key : ∀ i, i < len → ∃ x : α, ∃ cs', cs'.length = sz ∧ (∀ j, j < sz → w.cell? ((a.add (i * sz)).add j) = cs'[j]?) ∧ Good cs' x := fun i hil => by
      obtain ⟨cs', hc, htr⟩ := hi i (by omega)
      rw [hC] at hc
      obtain ⟨_, hcl, hat⟩ := World.cells?_some hc
      obtain ⟨x, hx⟩ := hel n cs' _ hcl htr
      exact ⟨x, cs', hcl, hat, hx⟩
    obtain ⟨Z, hZ⟩ := choose_lt (α := α) (p := fun i x => ∃ cs', cs'.length = sz ∧ (∀ j, j < sz → w.cell? ((a.add (i * sz)).add j) = cs'[j]?) ∧ Good cs' x) key
    refine ⟨some a, len, cap, (List.range len).map Z, rfl, by simp, ⟨by omega, fun h => by cases h⟩, fun k hk => ?_⟩
    have hk' : k < len := by simpa using hk
    obtain ⟨cs', hcl, hat, hg⟩ := hZ k hk'
    have hs : a.spot = none := by
      obtain ⟨cs0, hl0, hat0, _⟩ := hZ 0 (by omega)
      have h1 := hat0 0 h0
      rw [List.getElem?_eq_getElem (by omega)] at h1
      have := spot_of_cell h1
      simpa [Addr.add] using this
    refine ⟨a.block, a.off, cs', by rw [← hs], hcl, fun j hj => ?_, by simpa using hg⟩
    have := hat j hj
    rw [Go.Deep.add_add, add_plain hs] at this
    rw [Nat.add_assoc]
    exact this
end
instance : Inhabited Bt := ⟨⟨0, 0, 0, 0, 0, 0⟩⟩
section
variable {H : Type} {enc : TypeId × Value → H} {w : World} {base : Nat} {spare : Nat → Bool} {held : Bool}
theorem total_flatten (rows : List (List Bt)) : total rows = rows.flatten.length := by rw [List.length_flatten]; rfl
theorem szRows_bounds {L : Int} {rows : List (List Bt)} (h0 : 0 ≤ L) (h1 : L ≤ 1048576) (h : ¬ szRows L rows < 0) : rows.length ≤ 1048576 ∧ (∀ r ∈ rows, r.length ≤ 1048576) ∧ rows.flatten.length ≤ 1048576 := by
  have hv := szRows_val h0 (by omega : 0 ≤ szRows L rows)
  have ht := total_flatten rows
  refine ⟨by omega, fun r hr => ?_, by omega⟩
  have := total_le hr
  omega
theorem open_boat_cells (n : Nat) (cs : List Value) (y : DataW H × List MemPlace) (hl : cs.length = 6) (h : DataW.trod enc Tryd.prog w base spare held n 89 cs = some y) : ∃ b, cs = bCells b := by
  obtain ⟨xs, n', _, _, _, hlen, hf⟩ := DataW.trod_struct Tryd.underlying89 h
  match cs, hl with
  | [c0, c1, c2, c3, c4, c5], _ =>
    have one : ∀ i, i < 6 → ∃ z : Int, [c0, c1, c2, c3, c4, c5][i]? = some (.int .i64 z) := fun i hi => by
      match i, hi with
      | 0, _ => obtain ⟨z, e, _⟩ := DataW.trod_int (k := .i64) Tryd.underlying3 ((hf 0 _ rfl).trans (List.getElem?_eq_getElem (by rw [hlen]; decide))); exact ⟨z, by cases e; rfl⟩
      | 1, _ => obtain ⟨z, e, _⟩ := DataW.trod_int (k := .i64) Tryd.underlying3 ((hf 1 _ rfl).trans (List.getElem?_eq_getElem (by rw [hlen]; decide))); exact ⟨z, by cases e; rfl⟩
      | 2, _ => obtain ⟨z, e, _⟩ := DataW.trod_int (k := .i64) Tryd.underlying3 ((hf 2 _ rfl).trans (List.getElem?_eq_getElem (by rw [hlen]; decide))); exact ⟨z, by cases e; rfl⟩
      | 3, _ => obtain ⟨z, e, _⟩ := DataW.trod_int (k := .i64) Tryd.underlying3 ((hf 3 _ rfl).trans (List.getElem?_eq_getElem (by rw [hlen]; decide))); exact ⟨z, by cases e; rfl⟩
      | 4, _ => obtain ⟨z, e, _⟩ := DataW.trod_int (k := .i64) Tryd.underlying3 ((hf 4 _ rfl).trans (List.getElem?_eq_getElem (by rw [hlen]; decide))); exact ⟨z, by cases e; rfl⟩
      | 5, _ => obtain ⟨z, e, _⟩ := DataW.trod_int (k := .i64) Tryd.underlying3 ((hf 5 _ rfl).trans (List.getElem?_eq_getElem (by rw [hlen]; decide))); exact ⟨z, by cases e; rfl⟩
    obtain ⟨z0, e0⟩ := one 0 (by decide)
    obtain ⟨z1, e1⟩ := one 1 (by decide)
    obtain ⟨z2, e2⟩ := one 2 (by decide)
    obtain ⟨z3, e3⟩ := one 3 (by decide)
    obtain ⟨z4, e4⟩ := one 4 (by decide)
    obtain ⟨z5, e5⟩ := one 5 (by decide)
    simp at e0 e1 e2 e3 e4 e5
    subst e0 e1 e2 e3 e4 e5
    exact ⟨⟨z0, z1, z2, z3, z4, z5⟩, rfl⟩
theorem open_row (n : Nat) (cs : List Value) (y : DataW H × List MemPlace) (h : DataW.trod enc Tryd.prog w base spare held n 63 cs = some y) :
    ∃ (row : List Bt) (a : Option Addr) (c : Nat), cs = [.slice a row.length c] ∧ (row.length ≤ maxLen ∧ (a = none → c = 0)) ∧ FlatAt w bCells 6 a row := by
  obtain ⟨a, len, cap, xs, rfl, rfl, hm, hk⟩ := open_slice_good (sz := 6) Tryd.underlying63 (by kernel_rfl) (by decide) (fun cs b => cs = bCells b) (fun n cs y hl h => open_boat_cells n cs y hl h) h
  refine ⟨xs, a, cap, rfl, hm, fun k hk' => ?_⟩
  obtain ⟨b, off, cs', e, hl, hc, rfl⟩ := hk k hk'
  refine ⟨b, off, e, fun j v hv => ?_⟩
  have hj : j < 6 := (List.getElem?_eq_some_iff.1 hv).1
  rw [hc j hj, hv]
theorem open_rows (n : Nat) (cs : List Value) (y : DataW H × List MemPlace) (h : DataW.trod enc Tryd.prog w base spare held n 22 cs = some y) :
    ∃ (rows : List (List Bt)) (a : Option Addr) (c : Nat), cs = [.slice a rows.length c] ∧ (rows.length ≤ maxLen ∧ (a = none → c = 0)) ∧ RowsAt w a rows := by
  obtain ⟨a, len, cap, xs, rfl, rfl, hm, hk⟩ := open_slice_good (α := List Bt) (sz := 1) Tryd.underlying22 (by kernel_rfl) (by decide) (fun cs (row : List Bt) => ∃ (a : Option Addr) (c : Nat), cs = [.slice a row.length c] ∧ (row.length ≤ maxLen ∧ (a = none → c = 0)) ∧ FlatAt w bCells 6 a row) (fun n cs y hl h => open_row n cs y h) h
  refine ⟨xs, a, cap, rfl, hm, fun k hk' => ?_⟩
  obtain ⟨b, off, cs', e, hl, hc, a', c, rfl, hm', hf⟩ := hk k hk'
  exact ⟨b, off, a', c, e, by have := hc 0 (by decide); simpa using this, hm', hf⟩
theorem open_train {r : Reach} {b0 : Nat} {v : Value} {d : DataW H} {p : List MemPlace} (hv : Value.okWide Tryd.prog w r b0 24 v) (h : DataW.Trod enc Tryd.prog w base spare held 24 v d p) :
    ∃ (u : Bool) (rows : List (List Bt)) (a : Option Addr) (c : Nat), v = .agg #[.bool u, .slice a rows.length c] ∧ rows.length ≤ maxLen ∧ RowsAt w a rows := by
  obtain ⟨c0, c1, y0, y1, n, rfl, rfl, rfl, k0, k1⟩ := open_agg2 Tryd.underlying24 (by kernel_rfl) (by kernel_rfl) hv h
  obtain ⟨u, e0, _⟩ := DataW.trod_bool Tryd.underlying4 k0
  obtain ⟨rows, a, c, e1, hm, hr⟩ := open_rows _ _ _ k1
  cases e0
  cases e1
  exact ⟨u, rows, a, c, rfl, hm.1, hr⟩
end
end Go.Proofs.YtjjikcjhnglkaaaDoor
