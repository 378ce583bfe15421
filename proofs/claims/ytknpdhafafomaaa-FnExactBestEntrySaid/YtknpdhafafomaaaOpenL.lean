/- How locks that come as arguments read. -/
import Derived.Test.YtknpdhafafomaaaProg
import Derived.Test.YtknpdhafafomaaaTrains
namespace Go.Proofs.Ytknpdhafafomaaa
open Go.RowKit Go.WideShapes Go.ChangeShapes Go.Deep Go.Joins
set_option maxRecDepth 100000
section
variable {H : Type} {enc : TypeId × Value → H} {w : World} {base : Nat} {spare : Nat → Bool} {held : Bool}
theorem open_lock {r : Reach} {b0 : Nat} {v : Value} {d : DataW H} {p : List MemPlace} (hv : Value.okWide Try.prog w r b0 59 v) (h : DataW.Trod enc Try.prog w base spare held 59 v d p) :
    ∃ (x0 x1 x2 x3 x4 x5 x6 x7 x8 : Int) (ts : List Tn) (a : Option Addr) (c : Nat), v = .agg #[.int .i64 x0, .int .i64 x1, .int .i64 x2, .int .i64 x3, .int .i64 x4, .int .i64 x5, .int .i64 x6, .int .i64 x7, .int .i64 x8, .slice a ts.length c] ∧ ts.length ≤ maxLen ∧ TrainsAt w a ts ∧ I64 x0 ∧ I64 x1 := by
  obtain ⟨cs, rfl, hsz⟩ := okWide_struct Try.underlying59 hv
  obtain ⟨l⟩ := cs
  obtain ⟨fuel, hf0⟩ := h
  obtain ⟨xs, n', _, _, hl, hlen, hf⟩ := DataW.trod_struct Try.underlying59 hf0
  have hl2 : l.length = 10 := hl.trans (by kernel_rfl)
  match l, hl2 with
  | [c0, c1, c2, c3, c4, c5, c6, c7, c8, c9], _ =>
    obtain ⟨x0, e0, _, w0⟩ := DataW.trod_int (k := .i64) Try.underlying3 ((hf 0 _ rfl).trans (List.getElem?_eq_getElem (by rw [hlen]; decide)))
    obtain ⟨x1, e1, _, w1⟩ := DataW.trod_int (k := .i64) Try.underlying3 ((hf 1 _ rfl).trans (List.getElem?_eq_getElem (by rw [hlen]; decide)))
    obtain ⟨x2, e2, _, w2⟩ := DataW.trod_int (k := .i64) Try.underlying3 ((hf 2 _ rfl).trans (List.getElem?_eq_getElem (by rw [hlen]; decide)))
    obtain ⟨x3, e3, _, w3⟩ := DataW.trod_int (k := .i64) Try.underlying3 ((hf 3 _ rfl).trans (List.getElem?_eq_getElem (by rw [hlen]; decide)))
    obtain ⟨x4, e4, _, w4⟩ := DataW.trod_int (k := .i64) Try.underlying3 ((hf 4 _ rfl).trans (List.getElem?_eq_getElem (by rw [hlen]; decide)))
    obtain ⟨x5, e5, _, w5⟩ := DataW.trod_int (k := .i64) Try.underlying3 ((hf 5 _ rfl).trans (List.getElem?_eq_getElem (by rw [hlen]; decide)))
    obtain ⟨x6, e6, _, w6⟩ := DataW.trod_int (k := .i64) Try.underlying3 ((hf 6 _ rfl).trans (List.getElem?_eq_getElem (by rw [hlen]; decide)))
    obtain ⟨x7, e7, _, w7⟩ := DataW.trod_int (k := .i64) Try.underlying3 ((hf 7 _ rfl).trans (List.getElem?_eq_getElem (by rw [hlen]; decide)))
    obtain ⟨x8, e8, _, w8⟩ := DataW.trod_int (k := .i64) Try.underlying3 ((hf 8 _ rfl).trans (List.getElem?_eq_getElem (by rw [hlen]; decide)))
    obtain ⟨ts, a, c, e9, hm, ht⟩ := open_trains _ _ _ ((hf 9 _ rfl).trans (List.getElem?_eq_getElem (by rw [hlen]; decide)))
    have g0 : [c0] = [Value.int .i64 x0] := e0
    have g1 : [c1] = [Value.int .i64 x1] := e1
    have g2 : [c2] = [Value.int .i64 x2] := e2
    have g3 : [c3] = [Value.int .i64 x3] := e3
    have g4 : [c4] = [Value.int .i64 x4] := e4
    have g5 : [c5] = [Value.int .i64 x5] := e5
    have g6 : [c6] = [Value.int .i64 x6] := e6
    have g7 : [c7] = [Value.int .i64 x7] := e7
    have g8 : [c8] = [Value.int .i64 x8] := e8
    have g9 : [c9] = [Value.slice a ts.length c] := e9
    cases g0
    cases g1
    cases g2
    cases g3
    cases g4
    cases g5
    cases g6
    cases g7
    cases g8
    cases g9
    exact ⟨x0, x1, x2, x3, x4, x5, x6, x7, x8, ts, a, c, rfl, hm.1, ht, i64_of w0, i64_of w1⟩
/-- A list of trains as an argument. -/
theorem open_trains_arg {r : Reach} {b0 : Nat} {v : Value} {d : DataW H} {p : List MemPlace} (hv : Value.okWide Try.prog w r b0 57 v) (h : DataW.Trod enc Try.prog w base spare held 57 v d p) :
    ∃ (ts : List Tn) (a : Option Addr) (c : Nat), v = .slice a ts.length c ∧ ts.length ≤ maxLen ∧ TrainsAt w a ts := by
  obtain ⟨a0, len0, cap0, rfl⟩ := okWide_slice Try.underlying57 hv
  obtain ⟨fuel, hf⟩ := h
  obtain ⟨ts, a, c, e, hm, ht⟩ := open_trains _ _ _ hf
  have e' : [Value.slice a0 len0 cap0] = [Value.slice a ts.length c] := by simpa [Value.cells] using e
  cases e'
  exact ⟨ts, _, _, rfl, hm.1, ht⟩
end
end Go.Proofs.Ytknpdhafafomaaa
