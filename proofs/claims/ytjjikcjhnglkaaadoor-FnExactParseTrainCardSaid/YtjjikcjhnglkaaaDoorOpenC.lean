/- How calls that come as arguments read. -/
import Derived.Test.YtjjikcjhnglkaaaDoorProg
import Derived.Test.YtjjikcjhnglkaaaDoorOpenT
namespace Go.Proofs.YtjjikcjhnglkaaaDoor
open Go.RowKit Go.WideShapes Go.ChangeShapes Go.Deep Go.Joins
set_option maxRecDepth 100000
def I64 (z : Int) : Prop := -9223372036854775808 ≤ z ∧ z ≤ 9223372036854775807
theorem i64_of {z : Int} (h : (Lit.int .i64 z).wf = true) : I64 z := by
  unfold Lit.wf at h
  rw [Bool.and_eq_true] at h
  exact ⟨of_decide_eq_true h.1, of_decide_eq_true h.2⟩
section
variable {H : Type} {enc : TypeId × Value → H} {w : World} {base : Nat} {spare : Nat → Bool} {held : Bool}
theorem open_train_cells (n : Nat) (cs : List Value) (y : DataW H × List MemPlace) (h : DataW.trod enc Tryd.prog w base spare held n 24 cs = some y) :
    ∃ (u : Bool) (rows : List (List Bt)) (a : Option Addr) (c : Nat), cs = [.bool u, .slice a rows.length c] ∧ rows.length ≤ maxLen ∧ RowsAt w a rows := by
  obtain ⟨xs, n', _, _, hl, hlen, hf⟩ := DataW.trod_struct Tryd.underlying24 h
  have hl2 : cs.length = 2 := hl.trans (by kernel_rfl)
  match cs, hl2 with
  | [c0, c1], _ =>
    obtain ⟨u, e0, _⟩ := DataW.trod_bool Tryd.underlying4 ((hf 0 _ rfl).trans (List.getElem?_eq_getElem (by rw [hlen]; decide)))
    obtain ⟨rows, a, c, e1, hm, hr⟩ := open_rows _ _ _ ((hf 1 _ rfl).trans (List.getElem?_eq_getElem (by rw [hlen]; decide)))
    have e0' : [c0] = [Value.bool u] := e0
    have e1' : [c1] = [Value.slice a rows.length c] := e1
    cases e0'
    cases e1'
    exact ⟨u, rows, a, c, rfl, hm.1, hr⟩
end
end Go.Proofs.YtjjikcjhnglkaaaDoor
