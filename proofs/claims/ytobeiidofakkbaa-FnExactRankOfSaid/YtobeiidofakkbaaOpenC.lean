/- How calls that come as arguments read. -/
import Derived.Test.YtobeiidofakkbaaProg
import Derived.Test.YtobeiidofakkbaaOpenT
namespace Go.Proofs.Ytobeiidofakkbaa
open Go.RowKit Go.WideShapes Go.ChangeShapes Go.Deep Go.Joins
set_option maxRecDepth 100000
def I64 (z : Int) : Prop := -9223372036854775808 ≤ z ∧ z ≤ 9223372036854775807
theorem i64_of {z : Int} (h : (Lit.int .i64 z).wf = true) : I64 z := by
  unfold Lit.wf at h
  rw [Bool.and_eq_true] at h
  exact ⟨of_decide_eq_true h.1, of_decide_eq_true h.2⟩
section
variable {H : Type} {enc : TypeId × Value → H} {w : World} {base : Nat} {spare : Nat → Bool} {held : Bool}
theorem open_train_cells (n : Nat) (cs : List Value) (y : DataW H × List MemPlace) (h : DataW.trod enc Try.prog w base spare held n 24 cs = some y) :
    ∃ (u : Bool) (rows : List (List Bt)) (a : Option Addr) (c : Nat), cs = [.bool u, .slice a rows.length c] ∧ rows.length ≤ maxLen ∧ RowsAt w a rows := by
  obtain ⟨xs, n', _, _, hl, hlen, hf⟩ := DataW.trod_struct Try.underlying24 h
  have hl2 : cs.length = 2 := hl.trans (by kernel_rfl)
  match cs, hl2 with
  | [c0, c1], _ =>
    obtain ⟨u, e0, _⟩ := DataW.trod_bool Try.underlying4 ((hf 0 _ rfl).trans (List.getElem?_eq_getElem (by rw [hlen]; decide)))
    obtain ⟨rows, a, c, e1, hm, hr⟩ := open_rows _ _ _ ((hf 1 _ rfl).trans (List.getElem?_eq_getElem (by rw [hlen]; decide)))
    have e0' : [c0] = [Value.bool u] := e0
    have e1' : [c1] = [Value.slice a rows.length c] := e1
    cases e0'
    cases e1'
    exact ⟨u, rows, a, c, rfl, hm.1, hr⟩
theorem open_call_cells (n : Nat) (cs : List Value) (y : DataW H × List MemPlace) (h : DataW.trod enc Try.prog w base spare held n 35 cs = some y) :
    ∃ (u : Bool) (rows : List (List Bt)) (a : Option Addr) (c : Nat) (si bo : Int), cs = [.bool u, .slice a rows.length c, .int .i64 si, .int .i64 bo] ∧ rows.length ≤ maxLen ∧ RowsAt w a rows ∧ I64 si ∧ I64 bo := by
  obtain ⟨xs, n', _, _, hl, hlen, hf⟩ := DataW.trod_struct Try.underlying35 h
  have hl2 : cs.length = 4 := hl.trans (by kernel_rfl)
  match cs, hl2 with
  | [c0, c1, c2, c3], _ =>
    obtain ⟨u, rows, a, c, e0, hm, hr⟩ := open_train_cells _ _ _ ((hf 0 _ rfl).trans (List.getElem?_eq_getElem (by rw [hlen]; decide)))
    obtain ⟨si, e1, _, w1⟩ := DataW.trod_int (k := .i64) Try.underlying3 ((hf 1 _ rfl).trans (List.getElem?_eq_getElem (by rw [hlen]; decide)))
    obtain ⟨bo, e2, _, w2⟩ := DataW.trod_int (k := .i64) Try.underlying3 ((hf 2 _ rfl).trans (List.getElem?_eq_getElem (by rw [hlen]; decide)))
    have e0' : [c0, c1] = [Value.bool u, Value.slice a rows.length c] := e0
    have e1' : [c2] = [Value.int .i64 si] := e1
    have e2' : [c3] = [Value.int .i64 bo] := e2
    cases e0'
    cases e1'
    cases e2'
    exact ⟨u, rows, a, c, si, bo, rfl, hm, hr, i64_of w1, i64_of w2⟩
theorem open_call {r : Reach} {b0 : Nat} {v : Value} {d : DataW H} {p : List MemPlace} (hv : Value.okWide Try.prog w r b0 35 v) (h : DataW.Trod enc Try.prog w base spare held 35 v d p) :
    ∃ (u : Bool) (rows : List (List Bt)) (a : Option Addr) (c : Nat) (si bo : Int), v = .agg #[.bool u, .slice a rows.length c, .int .i64 si, .int .i64 bo] ∧ rows.length ≤ maxLen ∧ RowsAt w a rows ∧ I64 si ∧ I64 bo := by
  obtain ⟨cs, rfl, hsz⟩ := okWide_struct Try.underlying35 hv
  obtain ⟨l⟩ := cs
  obtain ⟨fuel, hf⟩ := h
  obtain ⟨u, rows, a, c, si, bo, e, hm, hr, w1, w2⟩ := open_call_cells _ _ _ hf
  have e' : l = _ := e
  subst e'
  exact ⟨u, rows, a, c, si, bo, rfl, hm, hr, w1, w2⟩
end
end Go.Proofs.Ytobeiidofakkbaa
