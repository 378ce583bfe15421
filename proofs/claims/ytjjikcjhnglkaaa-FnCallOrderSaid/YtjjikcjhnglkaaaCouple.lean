/- CoupleTrains, on both sides. -/
import Derived.Test.YtjjikcjhnglkaaaProg
import Derived.Test.YtjjikcjhnglkaaaDivideS
namespace Go.Proofs.Ytjjikcjhnglkaaa
open Go.RowKit
set_option linter.unusedSimpArgs false
set_option linter.unusedVariables false

/-- Rows behind rows. -/
theorem GR.concat {w w' : World} {lo1 hi1 lo2 hi2 n1 n2 : Nat} {v1 v2 v' : Value} {vs1 vs2 : List Value} {r1 r2 : List (List Bt)} (h1 : GR w lo1 hi1 v1 vs1 r1) (h2 : GR w lo2 hi2 v2 vs2 r2) (hl : lo1 ≤ lo2) (hh : hi1 ≤ lo2) (hw : hi2 ≤ w.heap.size) (hw1 : hi1 ≤ w.heap.size)
    (e1 : n1 = r1.length) (e2 : n2 = r2.length) (hown : w'.ownsRow lo1 54 1 v' (n1 + n2) (vs1 ++ vs2)) (hg : w.grownBy w' v1.ownBlock) (hat : v'.ownBlock = v1.ownBlock ∨ v'.ownBlock = some w.heap.size) : GR w' lo1 w'.heap.size v' (vs1 ++ vs2) (r1 ++ r2) := by
  subst e1 e2
  have hs := hg.size
  refine ⟨by simp [h1.1, h2.1], by rw [List.length_append]; exact hown, fun g hv => (ownsRow_lt hown hv).2, fun k hk => ?_⟩
  rw [List.length_append] at hk
  by_cases e : k < r1.length
  · obtain ⟨u, eu, hu, hd⟩ := h1.2.2.2 k e
    refine ⟨u, by rw [List.getElem?_append_left (by rw [h1.1]; exact e)]; exact eu, ?_, fun g hgu => ?_⟩
    · rw [List.getElem_append_left e]
      exact ownsRow_kept hu hg (fun g hgu e => (hd g hgu).2.1 e)
    · have q1 := (hd g hgu).1
      refine ⟨by omega, fun e => ?_, fun k' hk' u' hu' e => ?_⟩
      · rcases hat with hat | hat
        · rw [hat] at e
          exact (hd g hgu).2.1 e
        · rw [hat] at e
          have := Option.some.inj e
          omega
      · rw [List.getElem?_append_left (by rw [h1.1]; omega)] at hu'
        exact (hd g hgu).2.2 k' hk' u' hu' e
  · obtain ⟨u, eu, hu, hd⟩ := h2.2.2.2 (k - r1.length) (by omega)
    have hk2 : vs1.length ≤ k := by rw [h1.1]; omega
    refine ⟨u, by rw [List.getElem?_append_right hk2, h1.1]; exact eu, ?_, fun g hgu => ?_⟩
    · rw [List.getElem_append_right (by omega)]
      exact ownsRow_kept (ownsRow_low hu hl) hg (fun g hgu e => by have := (ownsRow_lt hu hgu).1; have := h1.2.2.1 g e; omega)
    · have q1 := (hd g hgu).1
      have q2 := (ownsRow_lt hu hgu).1
      refine ⟨by omega, fun e => ?_, fun k' hk' u' hu' e => ?_⟩
      · rcases hat with hat | hat
        · rw [hat] at e
          have := h1.2.2.1 g e
          omega
        · rw [hat] at e
          have := Option.some.inj e
          omega
      · by_cases e2 : k' < r1.length
        · rw [List.getElem?_append_left (by rw [h1.1]; exact e2)] at hu'
          obtain ⟨u2, f2, _, hd2⟩ := h1.2.2.2 k' e2
          rw [hu'] at f2
          cases f2
          have := (hd2 g e).1
          omega
        · rw [List.getElem?_append_right (by rw [h1.1]; omega), h1.1] at hu'
          exact (hd g hgu).2.2 (k' - r1.length) (by omega) u' hu' e
theorem ownsRow_type {w : World} {base : Nat} {e : TypeId} {size : Nat} {v : Value} {n : Nat} {xs : List Value} (h : w.ownsRow base e size v n xs) {g : Nat} (hg : v.ownBlock = some g) : ∃ cur, RowAt w g e cur := by
  rcases h.2 with ⟨rfl, _⟩ | ⟨g', cap, cur, rfl, _, hh, _⟩
  · cases hg
  · cases hg
    exact ⟨cur, hh⟩
/-- A block of another type has changed. -/
theorem GR.grownT {w w' : World} {lo hi : Nat} {v : Value} {vs : List Value} {rows : List (List Bt)} {B : Nat} {t : TypeId} {c : Array Value} (h : GR w lo hi v vs rows) (hg : w.grownBy w' (some B)) (hr : RowAt w B t c) (h1 : t ≠ 54) (h2 : t ≠ 57) : GR w' lo hi v vs rows := by
  have key : ∀ (e : TypeId) (size : Nat) (u : Value) (n : Nat) (xs : List Value), w.ownsRow lo e size u n xs → t ≠ e → w'.ownsRow lo e size u n xs := fun e size u n xs ho hne => ownsRow_kept ho hg (fun g hgu e' => by
    obtain ⟨cur, hc⟩ := ownsRow_type ho hgu
    cases e'
    unfold RowAt at hr hc
    rw [hr] at hc
    cases hc
    exact hne rfl)
  exact ⟨h.1, key _ _ _ _ _ h.2.1 h1, h.2.2.1, fun k hk => let ⟨u, e, ho, hd⟩ := h.2.2.2 k hk; ⟨u, e, key _ _ _ _ _ ho h2, hd⟩⟩
theorem grownBy_set (w : World) (p : Addr) (x : Value) : w.grownBy (w.setCell p x) (some p.block) :=
  ⟨rfl, rfl, rfl, by rw [size_setCell']; exact Nat.le_refl _, fun k hk hne => Below.heap_setCell w p x k (fun e => hne (by rw [e]))⟩
theorem GR.setT {w : World} {lo hi : Nat} {v : Value} {vs : List Value} {rows : List (List Bt)} {B : Nat} {t : TypeId} {c : Array Value} (h : GR w lo hi v vs rows) (hr : RowAt w B t c) (h1 : t ≠ 54) (h2 : t ≠ 57) (j : Nat) (x : Value) : GR (w.setCell ⟨B, j, none⟩ x) lo hi v vs rows :=
  h.grownT (B := B) (grownBy_set w ⟨B, j, none⟩ x) hr h1 h2
/-- The slices of the rows, as they lie. -/
theorem GR.cellsAt {w : World} {lo hi n : Nat} {a : Option Addr} {c : Nat} {vs : List Value} {rows : List (List Bt)} (h : GR w lo hi (.slice a n c) vs rows) :
    ∀ (j : Nat) u, vs[j]? = some u → ∃ b off, a = some ⟨b, off, none⟩ ∧ w.cell? ⟨b, off + j, none⟩ = some u := by
  intro j u hu
  have hj : j < vs.length := (List.getElem?_eq_some_iff.1 hu).1
  rcases h.2.1.2 with ⟨e, hn⟩ | ⟨g, cap, cur, e, hb, hheap, hnc, hcm, hcs, htake⟩
  · rw [h.1] at hj
    omega
  · injection e with ea _ _
    refine ⟨g, 0, ea, ?_⟩
    have hrow : RowAt w g 54 cur := hheap
    rw [Nat.zero_add]
    refine hrow.cell ?_
    have e1 : vs[j]? = (cur.toList.take (rows.length * 1))[j]? := by rw [htake]
    rw [hu, List.getElem?_take] at e1
    split at e1
    · simpa using e1.symm
    · cases e1
theorem GR.ones {w : World} {lo hi : Nat} {v : Value} {vs : List Value} {rows : List (List Bt)} (h : GR w lo hi v vs rows) : ∀ u ∈ vs, u.oneCell' = true := by
  intro u hu
  obtain ⟨j, hj, rfl⟩ := List.getElem_of_mem hu
  obtain ⟨u', e, ho, _⟩ := h.2.2.2 j (by rw [← h.1]; exact hj)
  rw [List.getElem?_eq_getElem hj] at e
  cases e
  exact ho.one
theorem GR.noneAt {w : World} {lo hi n : Nat} {a : Option Addr} {c : Nat} {vs : List Value} {rows : List (List Bt)} (h : GR w lo hi (.slice a n c) vs rows) : a = none → c = 0 := by
  intro e
  rcases h.2.1.2 with ⟨e', _⟩ | ⟨g, cap, cur, e', _⟩
  · injection e'
  · injection e' with e' _ _
    rw [e] at e'
    cases e'
theorem GR.lenAt {w : World} {lo hi n : Nat} {a : Option Addr} {c : Nat} {vs : List Value} {rows : List (List Bt)} (h : GR w lo hi (.slice a n c) vs rows) : n = rows.length := by
  obtain ⟨a', c', e, _⟩ := h.own
  injection e
/-- A block of another type has changed. -/
theorem OwnRows.setT {w : World} {lo hi : Nat} {a : Option Addr} {rows : List (List Bt)} {B : Nat} {t : TypeId} {c : Array Value} (h : OwnRows w lo hi a rows) (hr : RowAt w B t c) (h1 : t ≠ 54) (h2 : t ≠ 57) (j : Nat) (x : Value) : OwnRows (w.setCell ⟨B, j, none⟩ x) lo hi a rows := by
  have key : ∀ (e : TypeId) (g : Nat) (cc : Array Value), RowAt w g e cc → t ≠ e → RowAt (w.setCell ⟨B, j, none⟩ x) g e cc := fun e g cc hg hne => hg.other (p := ⟨B, j, none⟩) (fun e' => by
    have e'' : B = g := e'
    subst e''
    unfold RowAt at hr hg
    rw [hr] at hg
    cases hg
    exact hne rfl) x
  rcases h with h | ⟨ob, oo, oc, blk, e, q1, q2, q3, q4⟩
  · exact .inl h
  · refine .inr ⟨ob, oo, oc, blk, e, q1, q2, key _ _ _ q3 h1, fun k hk => ?_⟩
    obtain ⟨⟨v, g1, a', c', ev, hm, hz⟩, g3⟩ := q4 k hk
    refine ⟨⟨v, g1, a', c', ev, hm, hz.imp id fun ⟨off, cur, f1, f2, f3, f4, f5⟩ => ⟨off, cur, f1, f2, f3, key _ _ _ f4 h2, f5⟩⟩, g3⟩
/-- What CoupleTrains answers. -/
def couRes (ua ub : Bool) (ra rb : List (List Bt)) : Bool × List (List Bt) × Bool :=
  if trainOk ra = true ∧ trainOk rb = true ∧ ua = ub ∧ trainOk (ra ++ rb) = true then (ua, ra ++ rb, true) else (false, [], false)
/-- A train that has been laid in blocks of its own, and a bool. -/
def One (w w' : World) (u1 R : Bool) (r1 : List (List Bt)) (n1 : Nat) (e : Ending) : Prop :=
  ∃ a1 c1, e = .returned (.tuple #[.agg #[.bool u1, .slice a1 n1 c1], .bool R]) ∧ OwnRows w' w.heap.size w'.heap.size a1 r1 ∧ Ext w w'
theorem One.zero {w w' : World} {n1 : Nat} (h1 : n1 = 0) (hx : Ext w w') : One w w' false false [] n1 (.returned (.tuple #[.agg #[.bool false, .slice none 0 0], .bool false])) := by
  subst h1
  exact ⟨none, 0, rfl, .inl rfl, hx⟩
/-- 'One', and the capacity is no less than the length. -/
def OneC (w w' : World) (u1 R : Bool) (r1 : List (List Bt)) (n1 : Nat) (e : Ending) : Prop :=
  ∃ a1 c1, e = .returned (.tuple #[.agg #[.bool u1, .slice a1 n1 c1], .bool R]) ∧ OwnRows w' w.heap.size w'.heap.size a1 r1 ∧ Ext w w' ∧ (n1 ≤ c1 ∧ c1 ≤ 9223372036854775807)
theorem OneC.zero {w w' : World} {n1 : Nat} (h1 : n1 = 0) (hx : Ext w w') : OneC w w' false false [] n1 (.returned (.tuple #[.agg #[.bool false, .slice none 0 0], .bool false])) := by
  subst h1
  exact ⟨none, 0, rfl, .inl rfl, hx, by omega⟩
theorem OneC.one {w w' : World} {u1 R : Bool} {r1 : List (List Bt)} {n1 : Nat} {e : Ending} (h : OneC w w' u1 R r1 n1 e) : One w w' u1 R r1 n1 e :=
  let ⟨a1, c1, he, ho, hx, _⟩ := h; ⟨a1, c1, he, ho, hx⟩
theorem GR.cap {w : World} {lo hi n c : Nat} {a : Option Addr} {vs : List Value} {rows : List (List Bt)} (h : GR w lo hi (.slice a n c) vs rows) (hn : n = rows.length) : n ≤ c ∧ c ≤ 9223372036854775807 := by
  rcases h.2.1.2 with ⟨e, h0⟩ | ⟨g, cap, cur, e, hb, hh, hnc, hcm, hcs, ht⟩
  · injection e with e1 e2 e3
    omega
  · injection e with e1 e2 e3
    unfold maxLen at *
    omega
theorem world_as {Q : Exit → Act → World → Prop} {e : Exit} {a : Act} {w : World} (h : ∀ w', w' = w → Q e a w') : Q e a w := h _ rfl

end Go.Proofs.Ytjjikcjhnglkaaa
