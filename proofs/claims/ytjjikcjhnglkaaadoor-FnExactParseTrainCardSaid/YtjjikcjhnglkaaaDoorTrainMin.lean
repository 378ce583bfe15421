/- DraughtOf, SpeedOf, ClassOf: what they compute, on both sides. -/
import Derived.Test.YtjjikcjhnglkaaaDoorProg
import Derived.Test.YtjjikcjhnglkaaaDoorTrainLen
namespace Go.Proofs.YtjjikcjhnglkaaaDoor
open Go.RowKit
set_option linter.unusedSimpArgs false
set_option linter.unusedVariables false

/-- A valid train's first boat. -/
theorem trainOk_head {rows : List (List Bt)} (h : trainOk rows = true) : ∃ b r rs, rows = (b :: r) :: rs := by
  obtain ⟨h1, h2, _⟩ := trainOk_true h
  match rows, h1, h2 with
  | r :: rs, _, h2 =>
    match r, h2 r (by simp) with
    | b :: r, _ => exact ⟨b, r, rs, rfl⟩
theorem headCells {w : World} {a : Option Addr} {b0 : Bt} {r : List Bt} {rs : List (List Bt)} (h : RowsAt w a ((b0 :: r) :: rs)) :
    ∃ b off b2 off2 c', a = some ⟨b, off, none⟩ ∧ w.cell? ⟨b, off, none⟩ = some (.slice (some ⟨b2, off2, none⟩) (r.length + 1) c') ∧
      ∀ j v, (bCells b0)[j]? = some v → w.cell? ⟨b2, off2 + j, none⟩ = some v := by
  obtain ⟨b, off, a', c', rfl, hc, _, hf⟩ := h 0 (by simp)
  obtain ⟨b2, off2, rfl, hcell⟩ := hf 0 (by simp)
  exact ⟨b, off, b2, off2, c', rfl, by simpa using hc, fun j v hv => by simpa using hcell j v (by simpa using hv)⟩
theorem specBoats_is {flat : List Bt} {m : Nat} (u : Bool) (a : Option Addr) (n c : Nat) (rows : List (List Bt)) (w : World) (hn : n = rows.length) (hs : n ≤ maxLen) (ht : rows.flatten.length ≤ 1048576) (hf : RowsAt w a rows) (hfl : flat = rows.flatten) (hm : m = flat.length) :
    Calls Tryd.prog 35 #[.agg #[.bool u, .slice a n c]] w fun e w' => ∃ (a : Option Addr) (c : Nat), e = .returned (.slice a m c) ∧ (FlatAt w' bCells 6 a flat ∧ ∀ ad, a = some ad → w.heap.size ≤ ad.block) ∧ Ext w w' := by
  subst hfl hm
  exact specBoats_any u a n c rows w hn hs ht hf

def draGo (n : Int) (bs : List Bt) : Int := bs.foldl (fun n b => if n < b.dra then b.dra else n) n
def draughtOf (rows : List (List Bt)) : Int := if trainOk rows then draGo 0 rows.flatten else 0

def spdGo (n : Int) (bs : List Bt) : Int := bs.foldl (fun n b => if b.spd < n then b.spd else n) n
def speedOf (rows : List (List Bt)) : Int := if trainOk rows then (match rows.flatten with | [] => 0 | b0 :: bs => spdGo b0.spd (b0 :: bs)) else 0

def clsGo (n : Int) (bs : List Bt) : Int := bs.foldl (fun n b => if b.cls < n then b.cls else n) n
def classOf (rows : List (List Bt)) : Int := if trainOk rows then (match rows.flatten with | [] => 0 | b0 :: bs => clsGo b0.cls (b0 :: bs)) else -1

end Go.Proofs.YtjjikcjhnglkaaaDoor
