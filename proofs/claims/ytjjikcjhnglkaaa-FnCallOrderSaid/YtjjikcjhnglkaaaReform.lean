/- ReformTrain: what it computes; the program's side. -/
import Derived.Test.YtjjikcjhnglkaaaProg
import Derived.Test.YtjjikcjhnglkaaaCouple
import Derived.Test.YtjjikcjhnglkaaaOpenC
namespace Go.Proofs.Ytjjikcjhnglkaaa
open Go.RowKit
set_option linter.unusedSimpArgs false
set_option linter.unusedVariables false

/-! ### The plain law -/
def addLast (rows : List (List Bt)) (b : Bt) : List (List Bt) := rows.set (rows.length - 1) ((rows.getD (rows.length - 1) []) ++ [b])
def refGo (W : Int) (acc : List (List Bt)) (used : Int) : List Bt → Option (List (List Bt))
  | [] => some acc
  | b :: bs => if W < b.wid then none
    else if 0 < acc.length ∧ used + b.wid ≤ W then refGo W (addLast acc b) (used + b.wid) bs
    else refGo W (acc ++ [[b]]) b.wid bs
def refRes (u : Bool) (rows : List (List Bt)) (W : Int) : Bool × List (List Bt) × Bool :=
  if trainOk rows = true then (match refGo W [] 0 rows.flatten with | some x => (u, x, true) | none => (false, [], false)) else (false, [], false)
theorem addLast_len (rows : List (List Bt)) (b : Bt) : (addLast rows b).length = rows.length := by simp [addLast]

/-! ### Memory: the last row grows -/
theorem ownsRow_setLast {w : World} {lo : Nat} {e : TypeId} {v : Value} {n : Nat} {vs : List Value} {g cap : Nat} (hv : v = .slice (some ⟨g, 0, none⟩) n cap) (h : w.ownsRow lo e 1 v n vs) (k : Nat) (hk : k < n) (x : Value) :
    (w.setCell ⟨g, k, none⟩ x).ownsRow lo e 1 v n (vs.set k x) := by
  refine ⟨by rw [List.length_set]; exact h.1, ?_⟩
  rcases h.2 with ⟨e', hn⟩ | ⟨g', cap', cur, e', hb, hh, hnc, hcm, hcs, ht⟩
  · rw [hv] at e'
    cases e'
  · rw [hv] at e'
    injection e' with ea en ec
    injection ea with ea
    injection ea with eg
    subst eg ec
    refine .inr ⟨g, cap, cur.setIfInBounds k x, hv, hb, (RowAt.set (show RowAt w g e cur from hh) k x), hnc, hcm, by simpa using hcs, ?_⟩
    rw [Array.toList_setIfInBounds, List.take_set, ht]
theorem GR.growLast {w w1 w2 : World} {lo hi : Nat} {v u u' : Value} {vs : List Value} {rows : List (List Bt)} {b : Bt} {k g cap : Nat} (h : GR w lo hi v vs rows) (hlen : rows.length = k + 1) (hv : v = .slice (some ⟨g, 0, none⟩) (k + 1) cap) (hu : vs[k]? = some u) (hx : Ext w w1) (hhi : hi ≤ w.heap.size)
    (hown : OwnRow w2 lo u' (rows.getD k [] ++ [b])) (hg : w1.grownBy w2 u.ownBlock) (hat : u'.ownBlock = u.ownBlock ∨ u'.ownBlock = some w1.heap.size) :
    GR (w2.setCell ⟨g, k, none⟩ u') lo (w2.setCell ⟨g, k, none⟩ u').heap.size v (vs.set k u') (addLast rows b) := by
  have hs1 := hx.size
  have hs2 := hg.size
  have hvb : v.ownBlock = some g := by rw [hv]; rfl
  have hghi := h.2.2.1 g hvb
  obtain ⟨u0, e0, ho0, hd0⟩ := h.2.2.2 k (by omega)
  rw [hu] at e0
  cases e0
  have hvu : ∀ g', u.ownBlock = some g' → g' ≠ g := fun g' hg' e => (hd0 g' hg').2.1 (by rw [hvb, e])
  have hrows : rows.length - 1 = k := by omega
  have hg3 := grownBy_set w2 ⟨g, k, none⟩ u'
  have hou : w2.ownsRow lo 54 1 v (k + 1) vs := by
    have := ownsRow_kept (ownsRow_ext h.2.1 hx) hg (fun g' hg' e => hvu g' e (by rw [hvb] at hg'; exact (Option.some.inj hg').symm))
    rw [hlen] at this
    exact this
  have hu'g : ∀ g', u'.ownBlock = some g' → g' ≠ g := fun g' hg' e => by
    rcases hat with hat | hat
    · exact hvu g' (by rw [← hat]; exact hg') e
    · rw [hat] at hg'
      have := Option.some.inj hg'
      omega
  refine ⟨by rw [List.length_set, addLast_len]; exact h.1, ?_, fun g' hg' => ?_, fun j hj => ?_⟩
  · rw [addLast_len, hlen]
    exact ownsRow_setLast hv hou k (by omega) u'
  · rw [size_setCell']
    have := h.2.2.1 g' hg'
    omega
  · rw [addLast_len] at hj
    rw [size_setCell']
    by_cases e : j = k
    · subst e
      refine ⟨u', ?_, ?_, fun g' hg' => ⟨?_, ?_, fun k' hk' u2 hu2 e => ?_⟩⟩
      · rw [List.getElem?_set_self (by rw [h.1]; exact hj)]
      · have e1 : (addLast rows b)[j]'(by rw [addLast_len]; exact hj) = rows.getD j [] ++ [b] := by simp [addLast, hrows]
        rw [e1]
        exact ownsRow_kept hown hg3 (fun g' hg' e => hu'g g' hg' (Option.some.inj e).symm)
      · exact (ownsRow_lt hown hg').2
      · intro e
        rw [hvb] at e
        exact hu'g g' hg' (Option.some.inj e).symm
      · rw [List.getElem?_set_ne (by omega)] at hu2
        rcases hat with hat | hat
        · exact (hd0 g' (by rw [← hat]; exact hg')).2.2 k' hk' u2 hu2 e
        · obtain ⟨u3, e3, _, hd3⟩ := h.2.2.2 k' (by omega)
          rw [hu2] at e3
          cases e3
          have := (hd3 g' e).1
          rw [hat] at hg'
          have := Option.some.inj hg'
          omega
    · obtain ⟨u2, e2, ho2, hd2⟩ := h.2.2.2 j hj
      have hju : ∀ g', u2.ownBlock = some g' → u.ownBlock ≠ some g' := fun g' hg' e => (hd0 g' e).2.2 j (by omega) u2 e2 hg'
      refine ⟨u2, by rw [List.getElem?_set_ne (by omega)]; exact e2, ?_, fun g' hg' => ⟨by have := (hd2 g' hg').1; omega, (hd2 g' hg').2.1, fun k' hk' u3 hu3 e => ?_⟩⟩
      · have e1 : (addLast rows b)[j]'(by rw [addLast_len]; exact hj) = rows[j] := by
          simp only [addLast, hrows]
          rw [List.getElem_set_ne (by omega)]
        rw [e1]
        exact ownsRow_kept (ownsRow_kept (ownsRow_ext ho2 hx) hg (fun g' hg' e => hju g' hg' e)) hg3 (fun g' hg' e => (hd2 g' hg').2.1 (by rw [hvb]; exact e))
      · rw [List.getElem?_set_ne (by omega)] at hu3
        exact (hd2 g' hg').2.2 k' hk' u3 hu3 e
theorem OwnRow.sing (w : World) (b : Bt) : OwnRow (w.alloc (.cells #[.int .i64 b.id, .int .i64 b.len, .int .i64 b.wid, .int .i64 b.dra, .int .i64 b.spd, .int .i64 b.cls] 57)) w.heap.size (.slice (some ⟨w.heap.size, 0, none⟩) 1 1) [b] :=
  ⟨rfl, .inr ⟨w.heap.size, 1, _, rfl, Nat.le_refl _, heap_alloc_new w _, Nat.le_refl _, by decide, rfl, rfl⟩⟩
theorem flat_one (w : World) (bi bl bw bd bs bc : Int) : FlatAt (w.alloc (.cells #[.int .i64 bi, .int .i64 bl, .int .i64 bw, .int .i64 bd, .int .i64 bs, .int .i64 bc] 57)) bCells 6 (some ⟨w.heap.size, 0, none⟩) [⟨bi, bl, bw, bd, bs, bc⟩] := by
  intro k hk
  have hk0 : k = 0 := by simpa using hk
  subst hk0
  refine ⟨w.heap.size, 0, rfl, fun j v hv => ?_⟩
  rw [Nat.zero_mul, Nat.add_zero, Nat.zero_add]
  exact (RowAt.new w 57 _).cell (by simpa [bCells] using hv)

end Go.Proofs.Ytjjikcjhnglkaaa
