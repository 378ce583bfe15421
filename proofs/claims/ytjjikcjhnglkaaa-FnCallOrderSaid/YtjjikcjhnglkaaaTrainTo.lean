/- Trains in memory: conversion and comparison. -/
import Derived.Test.YtjjikcjhnglkaaaProg
import Derived.Test.YtjjikcjhnglkaaaTrainSz
namespace Go.Proofs.Ytjjikcjhnglkaaa
open Go.RowKit
set_option linter.unusedSimpArgs false
set_option linter.unusedVariables false

/-- A row of boats in a block of its own, B, of which nothing is frozen. -/
def RowOwn (w : World) (lo hi : Nat) (v : Value) (row : List Bt) (B : Nat) : Prop :=
  ∃ a c, v = .slice a row.length c ∧ (row.length ≤ maxLen ∧ (a = none → c = 0)) ∧ (row = [] ∨ ∃ off cur, a = some ⟨B, off, none⟩ ∧ lo ≤ B ∧ B < hi ∧ RowAt w B 57 cur ∧
    ∀ k (h : k < row.length) (j : Nat) u, (bCells row[k])[j]? = some u → cur[off + k * 6 + j]? = some u)
theorem RowOwn.keep {w w' : World} {lo hi lo' hi' : Nat} {v : Value} {row : List Bt} {B : Nat} (h : RowOwn w lo hi v row B) (hl : lo' ≤ lo) (hh : hi ≤ hi') (hk : ∀ t c, lo ≤ B → B < hi → RowAt w B t c → RowAt w' B t c) : RowOwn w' lo' hi' v row B :=
  let ⟨a, c, e, hm, hr⟩ := h
  ⟨a, c, e, hm, hr.imp id fun ⟨off, cur, e1, h1, h2, h3, h4⟩ => ⟨off, cur, e1, Nat.le_trans hl h1, Nat.lt_of_lt_of_le h2 hh, hk _ _ h1 h2 h3, h4⟩⟩
theorem RowOwn.flat {w : World} {lo hi : Nat} {v : Value} {row : List Bt} {B : Nat} (h : RowOwn w lo hi v row B) : ∃ a c, v = .slice a row.length c ∧ (row.length ≤ maxLen ∧ (a = none → c = 0)) ∧ FlatAt w bCells 6 a row := by
  obtain ⟨a, c, rfl, hm, hr⟩ := h
  refine ⟨a, c, rfl, hm, fun k hk => ?_⟩
  rcases hr with rfl | ⟨off, cur, rfl, _, _, hrow, hc⟩
  · exact absurd hk (Nat.not_lt_zero _)
  · exact ⟨B, off, rfl, fun j u hu => hrow.cell (hc k hk j u hu)⟩

/-- Rows of boats in blocks of their own, all different, with numbers from lo to hi. -/
def OwnRows (w : World) (lo hi : Nat) (a : Option Addr) (rows : List (List Bt)) : Prop :=
  rows = [] ∨ ∃ (ob oo : Nat) (oc : Array Value) (blk : Nat → Nat), a = some ⟨ob, oo, none⟩ ∧ lo ≤ ob ∧ ob < hi ∧ RowAt w ob 54 oc ∧
    ∀ k (h : k < rows.length), (∃ v, oc[oo + k]? = some v ∧ RowOwn w lo hi v rows[k] (blk k)) ∧ (rows[k] ≠ [] → blk k ≠ ob ∧ ∀ k' (h' : k' < k), rows[k'] ≠ [] → blk k' ≠ blk k)
theorem OwnRows.keep {w w' : World} {lo hi lo' hi' : Nat} {a : Option Addr} {rows : List (List Bt)} (h : OwnRows w lo hi a rows) (hl : lo' ≤ lo) (hh : hi ≤ hi') (hk : ∀ B t c, lo ≤ B → B < hi → RowAt w B t c → RowAt w' B t c) : OwnRows w' lo' hi' a rows := by
  rcases h with h | ⟨ob, oo, oc, blk, e, h1, h2, h3, h4⟩
  · exact .inl h
  · exact .inr ⟨ob, oo, oc, blk, e, Nat.le_trans hl h1, Nat.lt_of_lt_of_le h2 hh, hk _ _ _ h1 h2 h3, fun k hk' => let ⟨⟨v, q1, q2⟩, q3⟩ := h4 k hk'; ⟨⟨v, q1, q2.keep hl hh (hk (blk k))⟩, q3⟩⟩
theorem OwnRows.ext {w w' : World} {lo hi : Nat} {a : Option Addr} {rows : List (List Bt)} (h : OwnRows w lo hi a rows) (hx : Ext w w') : OwnRows w' lo hi a rows := h.keep (Nat.le_refl _) (Nat.le_refl _) (fun _ _ _ _ _ hr => hr.ext hx)
theorem OwnRows.rows {w : World} {lo hi : Nat} {a : Option Addr} {rows : List (List Bt)} (h : OwnRows w lo hi a rows) : RowsAt w a rows := fun k hk => by
  rcases h with rfl | ⟨ob, oo, oc, blk, rfl, _, _, h3, h4⟩
  · exact absurd hk (Nat.not_lt_zero _)
  · obtain ⟨⟨v, q1, q2⟩, _⟩ := h4 k hk
    obtain ⟨a', c, rfl, hm, hf⟩ := q2.flat
    exact ⟨ob, oo, a', c, rfl, h3.cell q1, hm, hf⟩

theorem OwnRows.set {w : World} {lo hi : Nat} {a : Option Addr} {rows : List (List Bt)} (h : OwnRows w lo hi a rows) {p : Addr} (hp : p.block < lo) (v : Value) : OwnRows (w.setCell p v) lo hi a rows :=
  h.keep (Nat.le_refl _) (Nat.le_refl _) (fun B t c h1 _ hr => hr.other (by omega) v)
theorem OwnRows.wide {w : World} {lo hi lo' hi' : Nat} {a : Option Addr} {rows : List (List Bt)} (h : OwnRows w lo hi a rows) (hl : lo' ≤ lo) (hh : hi ≤ hi') : OwnRows w lo' hi' a rows := h.keep hl hh (fun _ _ _ _ _ hr => hr)
theorem size_setCell' (w : World) (p : Addr) (v : Value) : (w.setCell p v).heap.size = w.heap.size := by simp [World.setCell]

theorem info_boat : (Try.prog.info? 57).map (fun i => (i.zero, i.size, i.bytes)) = some (some (.agg #[.int .i64 0, .int .i64 0, .int .i64 0, .int .i64 0, .int .i64 0, .int .i64 0]), 6, 48) := by kernel_rfl
theorem info_boats : (Try.prog.info? 54).map (fun i => (i.zero, i.size, i.bytes)) = some (some (.slice none 0 0), 1, 24) := by kernel_rfl

def Laid (wr : World) (B : Nat) (oc : Array Value) (rows : List (List Bt)) (k : Nat) : Prop :=
  ∃ blk : Nat → Nat, ∀ j (h : j < rows.length), j < k → (∃ v, oc[j]? = some v ∧ RowOwn wr B wr.heap.size v rows[j] (blk j)) ∧ B < blk j ∧ blk j < wr.heap.size ∧ ∀ j', j' < j → blk j' < blk j

theorem Laid.step {wr w1 : World} {B : Nat} {oc : Array Value} {rows : List (List Bt)} {k : Nat} {v : Value} (h : Laid wr B oc rows k) (hk : k < rows.length) (hB : B < wr.heap.size) (hx : Ext wr w1)
    (hro : RowOwn w1 wr.heap.size w1.heap.size v rows[k] wr.heap.size) (hlt : wr.heap.size < w1.heap.size) (hsz : k < oc.size) : Laid (w1.setCell ⟨B, k, none⟩ v) B (oc.setIfInBounds k v) rows (k + 1) := by
  obtain ⟨blk, hblk⟩ := h
  have hsize : (w1.setCell ⟨B, k, none⟩ v).heap.size = w1.heap.size := by simp [World.setCell]
  refine ⟨fun j => if j = k then wr.heap.size else blk j, fun j hj hjk => ?_⟩
  rw [hsize]
  by_cases e : j = k
  · subst e
    simp only [if_true]
    refine ⟨⟨v, Array.getElem?_setIfInBounds_self_of_lt hsz, hro.keep (Nat.le_of_lt hB) (Nat.le_refl _) (fun t c h1 _ hr => hr.other (p := ⟨B, j, none⟩) (by simp; omega) _)⟩, hB, hlt, fun j' hj' => ?_⟩
    rw [if_neg (by omega)]
    exact (hblk j' (by omega) hj').2.2.1
  · simp only [if_neg e]
    obtain ⟨⟨u, q1, q2⟩, q3, q4, q5⟩ := hblk j hj (by omega)
    refine ⟨⟨u, by rw [Array.getElem?_setIfInBounds_ne (by omega)]; exact q1, q2.keep (Nat.le_refl _) hx.size (fun t c h1 _ hr => (hr.ext hx).other (p := ⟨B, k, none⟩) (by simp; omega) _)⟩, q3, by have := hx.size; omega, fun j' hj' => ?_⟩
    rw [if_neg (by omega)]
    exact q5 j' hj'

end Go.Proofs.Ytjjikcjhnglkaaa
