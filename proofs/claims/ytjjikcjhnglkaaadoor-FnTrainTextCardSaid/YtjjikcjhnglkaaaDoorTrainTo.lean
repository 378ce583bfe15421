/- Trains in memory: conversion and comparison. -/
import Derived.Test.YtjjikcjhnglkaaaDoorProg
import Derived.Test.YtjjikcjhnglkaaaDoorTrainSz
namespace Go.Proofs.YtjjikcjhnglkaaaDoor
open Go.RowKit
set_option linter.unusedSimpArgs false
set_option linter.unusedVariables false

/-- A row of boats in a block of its own, B, of which nothing is frozen. -/
def RowOwn (w : World) (lo hi : Nat) (v : Value) (row : List Bt) (B : Nat) : Prop :=
  ∃ a c, v = .slice a row.length c ∧ (row.length ≤ maxLen ∧ (a = none → c = 0)) ∧ (row = [] ∨ ∃ off cur, a = some ⟨B, off, none⟩ ∧ lo ≤ B ∧ B < hi ∧ RowAt w B 44 cur ∧
    ∀ k (h : k < row.length) (j : Nat) u, (bCells row[k])[j]? = some u → cur[off + k * 6 + j]? = some u)
theorem RowOwn.keep {w w' : World} {lo hi lo' hi' : Nat} {v : Value} {row : List Bt} {B : Nat} (h : RowOwn w lo hi v row B) (hl : lo' ≤ lo) (hh : hi ≤ hi') (hk : ∀ t c, lo ≤ B → B < hi → RowAt w B t c → RowAt w' B t c) : RowOwn w' lo' hi' v row B :=
  let ⟨a, c, e, hm, hr⟩ := h
  ⟨a, c, e, hm, hr.imp id fun ⟨off, cur, e1, h1, h2, h3, h4⟩ => ⟨off, cur, e1, Nat.le_trans hl h1, Nat.lt_of_lt_of_le h2 hh, hk _ _ h1 h2 h3, h4⟩⟩
theorem RowOwn.flat {w : World} {lo hi : Nat} {v : Value} {row : List Bt} {B : Nat} (h : RowOwn w lo hi v row B) : ∃ a c, v = .slice a row.length c ∧ (row.length ≤ maxLen ∧ (a = none → c = 0)) ∧ FlatAt w bCells 6 a row := by
  obtain ⟨a, c, rfl, hm, hr⟩ := h
  refine ⟨a, c, rfl, hm, fun k hk => ?_⟩
  rcases hr with rfl | ⟨off, cur, rfl, _, _, hrow, hc⟩
  · exact absurd hk (Nat.not_lt_zero _)
  · exact ⟨B, off, rfl, fun j u hu => hrow.cell (hc k hk j u hu)⟩

/-- Rows of boats in blocks of their own, all different, with numbers from lo to hi. -/
def OwnRows (w : World) (lo hi : Nat) (a : Option Addr) (rows : List (List Bt)) : Prop :=
  rows = [] ∨ ∃ (ob oo : Nat) (oc : Array Value) (blk : Nat → Nat), a = some ⟨ob, oo, none⟩ ∧ lo ≤ ob ∧ ob < hi ∧ RowAt w ob 42 oc ∧
    ∀ k (h : k < rows.length), (∃ v, oc[oo + k]? = some v ∧ RowOwn w lo hi v rows[k] (blk k)) ∧ (rows[k] ≠ [] → blk k ≠ ob ∧ ∀ k' (h' : k' < k), rows[k'] ≠ [] → blk k' ≠ blk k)
theorem OwnRows.keep {w w' : World} {lo hi lo' hi' : Nat} {a : Option Addr} {rows : List (List Bt)} (h : OwnRows w lo hi a rows) (hl : lo' ≤ lo) (hh : hi ≤ hi') (hk : ∀ B t c, lo ≤ B → B < hi → RowAt w B t c → RowAt w' B t c) : OwnRows w' lo' hi' a rows := by
  rcases h with h | ⟨ob, oo, oc, blk, e, h1, h2, h3, h4⟩
  · exact .inl h
  · exact .inr ⟨ob, oo, oc, blk, e, Nat.le_trans hl h1, Nat.lt_of_lt_of_le h2 hh, hk _ _ _ h1 h2 h3, fun k hk' => let ⟨⟨v, q1, q2⟩, q3⟩ := h4 k hk'; ⟨⟨v, q1, q2.keep hl hh (hk (blk k))⟩, q3⟩⟩
theorem OwnRows.ext {w w' : World} {lo hi : Nat} {a : Option Addr} {rows : List (List Bt)} (h : OwnRows w lo hi a rows) (hx : Ext w w') : OwnRows w' lo hi a rows := h.keep (Nat.le_refl _) (Nat.le_refl _) (fun _ _ _ _ _ hr => hr.ext hx)
theorem OwnRows.rows {w : World} {lo hi : Nat} {a : Option Addr} {rows : List (List Bt)} (h : OwnRows w lo hi a rows) : RowsAt w a rows := fun k hk => by
  rcases h with rfl | ⟨ob, oo, oc, blk, rfl, _, _, h3, h4⟩
  · exact absurd hk (Nat.not_lt_zero _)
  · obtain ⟨⟨v, q1, q2⟩, _⟩ := h4 k hk
    obtain ⟨a', c, rfl, hm, hf⟩ := q2.flat
    exact ⟨ob, oo, a', c, rfl, h3.cell q1, hm, hf⟩

theorem OwnRows.set {w : World} {lo hi : Nat} {a : Option Addr} {rows : List (List Bt)} (h : OwnRows w lo hi a rows) {p : Addr} (hp : p.block < lo) (v : Value) : OwnRows (w.setCell p v) lo hi a rows :=
  h.keep (Nat.le_refl _) (Nat.le_refl _) (fun B t c h1 _ hr => hr.other (by omega) v)
theorem OwnRows.wide {w : World} {lo hi lo' hi' : Nat} {a : Option Addr} {rows : List (List Bt)} (h : OwnRows w lo hi a rows) (hl : lo' ≤ lo) (hh : hi ≤ hi') : OwnRows w lo' hi' a rows := h.keep hl hh (fun _ _ _ _ _ hr => hr)
theorem size_setCell' (w : World) (p : Addr) (v : Value) : (w.setCell p v).heap.size = w.heap.size := by simp [World.setCell]

theorem info_boat : (Tryd.prog.info? 44).map (fun i => (i.zero, i.size, i.bytes)) = some (some (.agg #[.int .i64 0, .int .i64 0, .int .i64 0, .int .i64 0, .int .i64 0, .int .i64 0]), 6, 48) := by kernel_rfl
theorem info_boats : (Tryd.prog.info? 42).map (fun i => (i.zero, i.size, i.bytes)) = some (some (.slice none 0 0), 1, 24) := by kernel_rfl

set_option maxHeartbeats 2000000 in
theorem toBoatS_any (a : Option Addr) (n c : Nat) (ps : List Bt) (w : World) (hn : n = ps.length) (hs : n ≤ 1048576) (hf : FlatAt w bCells 6 a ps) :
    Calls Tryd.prog 39 #[.slice a n c] w fun e w' => e = .returned (.slice (some ⟨w.heap.size, 0, none⟩) n n) ∧ RowOwn w' w.heap.size w'.heap.size (.slice (some ⟨w.heap.size, 0, none⟩) n n) ps w.heap.size ∧ w.heap.size < w'.heap.size ∧ Ext w w' := by
  obtain ⟨i0, hi, hz0, hz1, hz2⟩ := info_parts info_boat
  have hmk := fun W => run_make_rowN (P := Tryd.prog) 42 44 i0 _ Tryd.underlying42 hi hz0 .i64 .i64 n n (Nat.le_refl _) (by rw [hz2]; omega) (by omega) W
  rw [hz1] at hmk
  clear hi hz0 hz1 hz2
  have HF := Lib.hid hf; clear hf
  have HN := Lib.hid hn; clear hn
  go_enter Tryd.func39, Tryd.ntmps39
  go_wp2
  go_loopw [4] (fun i wr => ∃ (k : Nat) (cc : Array Value), k ≤ n ∧ i = .int .i64 k ∧ Ext w wr ∧ RowAt wr w.heap.size 44 cc ∧ Hid (cc.size = n * 6) ∧ Hid (∀ j (h : j < ps.length), j < k → ∀ (q : Nat) u, (bCells ps[j])[q]? = some u → cc[j * 6 + q]? = some u)) (fun i _ => n - (intOf i).toNat)
  case atStart => exact ⟨0, _, Nat.zero_le _, rfl, by (repeat' (first | (with_reducible exact Ext.refl _) | (with_reducible assumption) | (with_reducible refine Ext.alloc ?_ _) | (with_reducible refine Ext.drewN ?_ _) | (with_reducible refine Ext.drew ?_) | (with_reducible refine Ext.setCell ?_ ?_ _) | (with_reducible exact Nat.le_refl _) | (with_reducible exact Nat.le_succ _) | (with_reducible refine Ext.trans ?_ (by assumption)) | (simp; done) | (simp; omega))), RowAt.new _ _ _, by (show _ = _); rw [size_madeCells], fun _ _ h => absurd h (Nat.not_lt_zero _)⟩
  case round =>
    obtain ⟨k, cc, hk, rfl, hr, hrow, hsz, hfill⟩ := hrel
    by_cases hlt : k < n
    · have hlt' : k < ps.length := by rw [← HN.out]; exact hlt
      obtain ⟨b, off, rfl, hcell⟩ := HF.out.get k hlt'
      have e0 : ∀ w', Ext w w' → w'.cell? ⟨b, off + k * 6, none⟩ = some (.int .i64 ps[k].id) := hcell 0 _ rfl
      have e1 : ∀ w', Ext w w' → w'.cell? ⟨b, off + k * 6 + 1, none⟩ = some (.int .i64 ps[k].len) := hcell 1 _ rfl
      have e2 : ∀ w', Ext w w' → w'.cell? ⟨b, off + k * 6 + 2, none⟩ = some (.int .i64 ps[k].wid) := hcell 2 _ rfl
      have e3 : ∀ w', Ext w w' → w'.cell? ⟨b, off + k * 6 + 3, none⟩ = some (.int .i64 ps[k].dra) := hcell 3 _ rfl
      have e4 : ∀ w', Ext w w' → w'.cell? ⟨b, off + k * 6 + 4, none⟩ = some (.int .i64 ps[k].spd) := hcell 4 _ rfl
      have e5 : ∀ w', Ext w w' → w'.cell? ⟨b, off + k * 6 + 5, none⟩ = some (.int .i64 ps[k].cls) := hcell 5 _ rfl
      have HV := Lib.hid (fun q (hq : q < 6) => (⟨_, Array.getElem?_eq_getElem (by have := hsz.out; omega)⟩ : ∃ v, cc[k * 6 + q]? = some v))
      clear hcell
      go_wp2_with fail
      refine (toBoat_any _ _ _ _ _ _ _).mono ?_
      rintro e w1 ⟨rfl, hb1⟩
      have r1 := hrow.ext hb1
      obtain ⟨v0, hv0⟩ := HV.out 0 (by decide)
      obtain ⟨v1, hv1⟩ := HV.out 1 (by decide)
      obtain ⟨v2, hv2⟩ := HV.out 2 (by decide)
      obtain ⟨v3, hv3⟩ := HV.out 3 (by decide)
      obtain ⟨v4, hv4⟩ := HV.out 4 (by decide)
      obtain ⟨v5, hv5⟩ := HV.out 5 (by decide)
      have g0 : w1.cell? ⟨w.heap.size, k * 6, none⟩ = some v0 := r1.cell hv0
      have g1 := r1.cell hv1
      have g2 := r1.cell hv2
      have g3 := r1.cell hv3
      have g4 := r1.cell hv4
      have g5 := r1.cell hv5
      have f0 := r1.frozen (k * 6)
      have f1 := r1.frozen (k * 6 + 1)
      have f2 := r1.frozen (k * 6 + 2)
      have f3 := r1.frozen (k * 6 + 3)
      have f4 := r1.frozen (k * 6 + 4)
      have f5 := r1.frozen (k * 6 + 5)
      clear hv0 hv1 hv2 hv3 hv4 hv5 HV
      go_wp2
      go_roundw
      case rel =>
        refine ⟨k + 1, _, by omega, by go_num, by (repeat' (first | (with_reducible exact Ext.refl _) | (with_reducible assumption) | (with_reducible refine Ext.alloc ?_ _) | (with_reducible refine Ext.drewN ?_ _) | (with_reducible refine Ext.drew ?_) | (with_reducible refine Ext.setCell ?_ ?_ _) | (with_reducible exact Nat.le_refl _) | (with_reducible exact Nat.le_succ _) | (with_reducible refine Ext.trans ?_ (by assumption)) | (simp; done) | (simp; omega))), (((((r1.set _ _).set _ _).set _ _).set _ _).set _ _).set _ _, by (show _ = _); simpa using hsz.out, fun j hj hjk q u hu => ?_⟩
        have hs2 := hsz.out
        have hq : q < 6 := (List.getElem?_eq_some_iff.1 hu).1
        by_cases hjk' : j = k
        · subst hjk'
          match q, hq, hu with
          | 0, _, hu => cases hu; simp [Array.getElem?_setIfInBounds]; omega
          | 1, _, hu => cases hu; simp [Array.getElem?_setIfInBounds]; omega
          | 2, _, hu => cases hu; simp [Array.getElem?_setIfInBounds]; omega
          | 3, _, hu => cases hu; simp [Array.getElem?_setIfInBounds]; omega
          | 4, _, hu => cases hu; simp [Array.getElem?_setIfInBounds]; omega
          | 5, _, hu => cases hu; simp [Array.getElem?_setIfInBounds]; omega
        · have := hfill.out j hj (by omega) q u hu
          rw [Array.getElem?_setIfInBounds_ne (by omega), Array.getElem?_setIfInBounds_ne (by omega), Array.getElem?_setIfInBounds_ne (by omega), Array.getElem?_setIfInBounds_ne (by omega), Array.getElem?_setIfInBounds_ne (by omega), Array.getElem?_setIfInBounds_ne (by omega)]
          exact this
      case measure => simp [intOf]; omega
    · go_wp2
      go_ret
      have hkn : k = n := by omega
      refine ⟨rfl, ⟨some ⟨w.heap.size, 0, none⟩, n, by rw [← HN.out], ⟨by rw [← HN.out]; unfold maxLen; omega, fun h => by cases h⟩, .inr ⟨0, cc, rfl, Nat.le_refl _, hrow.lt, hrow, fun j hj q u hu => ?_⟩⟩, hrow.lt, by (repeat' (first | (with_reducible exact Ext.refl _) | (with_reducible assumption) | (with_reducible refine Ext.alloc ?_ _) | (with_reducible refine Ext.drewN ?_ _) | (with_reducible refine Ext.drew ?_) | (with_reducible refine Ext.setCell ?_ ?_ _) | (with_reducible exact Nat.le_refl _) | (with_reducible exact Nat.le_succ _) | (with_reducible refine Ext.trans ?_ (by assumption)) | (simp; done) | (simp; omega)))⟩
      rw [Nat.zero_add]
      exact hfill.out j hj (by rw [hkn, HN.out]; exact hj) q u hu

/-- The first k rows have been laid, in blocks behind B. -/
def Laid (wr : World) (B : Nat) (oc : Array Value) (rows : List (List Bt)) (k : Nat) : Prop :=
  ∃ blk : Nat → Nat, ∀ j (h : j < rows.length), j < k → (∃ v, oc[j]? = some v ∧ RowOwn wr B wr.heap.size v rows[j] (blk j)) ∧ B < blk j ∧ blk j < wr.heap.size ∧ ∀ j', j' < j → blk j' < blk j

theorem Laid.step {wr w1 : World} {B : Nat} {oc : Array Value} {rows : List (List Bt)} {k : Nat} {v : Value} (h : Laid wr B oc rows k) (hk : k < rows.length) (hB : B < wr.heap.size) (hx : Ext wr w1)
    (hro : RowOwn w1 wr.heap.size w1.heap.size v rows[k] wr.heap.size) (hlt : wr.heap.size < w1.heap.size) (hsz : k < oc.size) : Laid (w1.setCell ⟨B, k, none⟩ v) B (oc.setIfInBounds k v) rows (k + 1) := by
  obtain ⟨blk, hblk⟩ := h
  have hsize : (w1.setCell ⟨B, k, none⟩ v).heap.size = w1.heap.size := by simp [World.setCell]
  refine ⟨fun j => if j = k then wr.heap.size else blk j, fun j hj hjk => ?_⟩
  rw [hsize]
  by_cases e : j = k
  · subst e
    simp only [if_true]
    refine ⟨⟨v, Array.getElem?_setIfInBounds_self_of_lt hsz, hro.keep (Nat.le_of_lt hB) (Nat.le_refl _) (fun t c h1 _ hr => hr.other (p := ⟨B, j, none⟩) (by simp; omega) _)⟩, hB, hlt, fun j' hj' => ?_⟩
    rw [if_neg (by omega)]
    exact (hblk j' (by omega) hj').2.2.1
  · simp only [if_neg e]
    obtain ⟨⟨u, q1, q2⟩, q3, q4, q5⟩ := hblk j hj (by omega)
    refine ⟨⟨u, by rw [Array.getElem?_setIfInBounds_ne (by omega)]; exact q1, q2.keep (Nat.le_refl _) hx.size (fun t c h1 _ hr => (hr.ext hx).other (p := ⟨B, k, none⟩) (by simp; omega) _)⟩, q3, by have := hx.size; omega, fun j' hj' => ?_⟩
    rw [if_neg (by omega)]
    exact q5 j' hj'

set_option maxHeartbeats 2000000 in
theorem toBoatSS_any (a : Option Addr) (n c : Nat) (rows : List (List Bt)) (w : World) (hn : n = rows.length) (hs : n ≤ 1048576) (hrs : ∀ r ∈ rows, r.length ≤ 1048576) (hf : RowsAt w a rows) :
    Calls Tryd.prog 21 #[.slice a n c] w fun e w' => e = .returned (.slice (some ⟨w.heap.size, 0, none⟩) n n) ∧ OwnRows w' w.heap.size w'.heap.size (some ⟨w.heap.size, 0, none⟩) rows ∧ Ext w w' := by
  obtain ⟨i0, hi, hz0, hz1, hz2⟩ := info_parts info_boats
  have hmk := fun W => run_make_rowN (P := Tryd.prog) 27 42 i0 _ Tryd.underlying27 hi hz0 .i64 .i64 n n (Nat.le_refl _) (by rw [hz2]; omega) (by omega) W
  rw [hz1, Nat.mul_one] at hmk
  clear hi hz0 hz1 hz2
  have HF := Lib.hid hf; clear hf
  have HN := Lib.hid hn; clear hn
  have HR := Lib.hid hrs; clear hrs
  go_enter Tryd.func21, Tryd.ntmps21
  go_wp2
  go_loopw [4] (fun i wr => ∃ (k : Nat) (cc : Array Value), k ≤ n ∧ i = .int .i64 k ∧ Ext w wr ∧ RowAt wr w.heap.size 42 cc ∧ Hid (cc.size = n) ∧ Hid (Laid wr w.heap.size cc rows k)) (fun i _ => n - (intOf i).toNat)
  case atStart => exact ⟨0, _, Nat.zero_le _, rfl, by (repeat' (first | (with_reducible exact Ext.refl _) | (with_reducible assumption) | (with_reducible refine Ext.alloc ?_ _) | (with_reducible refine Ext.drewN ?_ _) | (with_reducible refine Ext.drew ?_) | (with_reducible refine Ext.setCell ?_ ?_ _) | (with_reducible exact Nat.le_refl _) | (with_reducible exact Nat.le_succ _) | (with_reducible refine Ext.trans ?_ (by assumption)) | (simp; done) | (simp; omega))), RowAt.new _ _ _, by (show _ = _); rw [size_madeCells], ⟨fun _ => 0, fun _ _ h => absurd h (Nat.not_lt_zero _)⟩⟩
  case round =>
    obtain ⟨k, cc, hk, rfl, hr, hrow, hsz, hfill⟩ := hrel
    by_cases hlt : k < n
    · have hlt' : k < rows.length := by rw [← HN.out]; exact hlt
      obtain ⟨b, off, a', c', rfl, hc0, hml, hfr⟩ := HF.out k hlt'
      have e0 : wr.cell? ⟨b, off + k, none⟩ = some (.slice a' rows[k].length c') := hr.cell hc0
      obtain ⟨v0, hv0⟩ : ∃ v, cc[k]? = some v := ⟨_, Array.getElem?_eq_getElem (by have := hsz.out; omega)⟩
      have HV := Lib.hid hv0; clear hv0
      have HFR := Lib.hid hfr; clear hfr
      have HLR := Lib.hid (HR.out rows[k] (List.getElem_mem _))
      have hBlt := hrow.lt
      clear hc0
      go_wp2_with fail
      refine (toBoatS_any _ _ _ rows[k] _ rfl HLR.out (HFR.out.ext hr)).mono ?_
      rintro e w1 ⟨rfl, hro, hlt1, hb1⟩
      have HRO := Lib.hid hro; clear hro
      have r1 := hrow.ext hb1
      have g0 : w1.cell? ⟨w.heap.size, k, none⟩ = some v0 := r1.cell HV.out
      have f0 := r1.frozen k
      go_wp2
      go_roundw
      case rel =>
        have hs2 := hsz.out
        exact ⟨k + 1, _, by omega, by go_num, by (repeat' (first | (with_reducible exact Ext.refl _) | (with_reducible assumption) | (with_reducible refine Ext.alloc ?_ _) | (with_reducible refine Ext.drewN ?_ _) | (with_reducible refine Ext.drew ?_) | (with_reducible refine Ext.setCell ?_ ?_ _) | (with_reducible exact Nat.le_refl _) | (with_reducible exact Nat.le_succ _) | (with_reducible refine Ext.trans ?_ (by assumption)) | (simp; done) | (simp; omega))), r1.set _ _, by (show _ = _); simpa using hsz.out, hfill.out.step hlt' hBlt hb1 HRO.out hlt1 (by omega)⟩
      case measure => simp [intOf]; omega
    · go_wp2
      go_ret
      have hkn : k = n := by omega
      refine ⟨rfl, .inr ⟨w.heap.size, 0, cc, ?_⟩, by (repeat' (first | (with_reducible exact Ext.refl _) | (with_reducible assumption) | (with_reducible refine Ext.alloc ?_ _) | (with_reducible refine Ext.drewN ?_ _) | (with_reducible refine Ext.drew ?_) | (with_reducible refine Ext.setCell ?_ ?_ _) | (with_reducible exact Nat.le_refl _) | (with_reducible exact Nat.le_succ _) | (with_reducible refine Ext.trans ?_ (by assumption)) | (simp; done) | (simp; omega)))⟩
      obtain ⟨blk, hblk⟩ := hfill.out
      refine ⟨blk, rfl, Nat.le_refl _, hrow.lt, hrow, fun j hj => ?_⟩
      have hj2 : j < k := by rw [hkn, HN.out]; exact hj
      obtain ⟨q1, q2, q3, q4⟩ := hblk j hj hj2
      rw [Nat.zero_add]
      exact ⟨q1, fun _ => ⟨by omega, fun k' hk' _ => by have := q4 k' hk'; omega⟩⟩

set_option maxHeartbeats 1000000 in
theorem toTrain_any (u : Bool) (a : Option Addr) (n c : Nat) (rows : List (List Bt)) (w : World) (hn : n = rows.length) (hs : n ≤ 1048576) (hrs : ∀ r ∈ rows, r.length ≤ 1048576) (hf : RowsAt w a rows) :
    Calls Tryd.prog 8 #[.agg #[.bool u, .slice a n c]] w fun e w' => ∃ a', e = .returned (.agg #[.bool u, .slice (some a') n n]) ∧ OwnRows w' w.heap.size w'.heap.size (some a') rows ∧ Ext w w' := by
  have HF := Lib.hid hf; clear hf
  have HN := Lib.hid hn; clear hn
  have HR := Lib.hid hrs; clear hrs
  go_enter Tryd.func8, Tryd.ntmps8
  go_wp2_with fail
  (with_reducible refine (toBoatSS_any _ _ _ rows _ HN.out hs HR.out (HF.out.ext (by (repeat' (first | (with_reducible exact Ext.refl _) | (with_reducible assumption) | (with_reducible refine Ext.alloc ?_ _) | (with_reducible refine Ext.drewN ?_ _) | (with_reducible refine Ext.drew ?_) | (with_reducible refine Ext.setCell ?_ ?_ _) | (with_reducible exact Nat.le_refl _) | (with_reducible exact Nat.le_succ _) | (with_reducible refine Ext.trans ?_ (by assumption)) | (simp; done) | (simp; omega)))))).mono ?_); rintro e w1 ⟨rfl, hro1, hb1⟩
  have x0_1 := hb1
  obtain ⟨hc0_1, hf0_1⟩ := bcell x0_1.below
  have z0_1_0 : w.heap.size < w1.heap.size := by have h := x0_1.size; simp at h; omega
  have z0_1_1 : w.heap.size + 1 < w1.heap.size := by have h := x0_1.size; simp at h; omega
  have z0_1_2 : w.heap.size + 1 + 1 < w1.heap.size := by have h := x0_1.size; simp at h; omega
  go_wp2
  simp only [World.size_alloc] at hro1
  refine bodyPost_ret (v := .agg #[.bool u, .slice (some ⟨w.heap.size + 1 + 1 + 1, 0, none⟩) n n]) (by simp [results, Tryd.results8, go_sem, hc0_1, hf0_1, z0_1_0, z0_1_1, z0_1_2]) rfl ⟨_, rfl, ?_, by (repeat' (first | (with_reducible exact Ext.refl _) | (with_reducible assumption) | (with_reducible refine Ext.alloc ?_ _) | (with_reducible refine Ext.drewN ?_ _) | (with_reducible refine Ext.drew ?_) | (with_reducible refine Ext.setCell ?_ ?_ _) | (with_reducible exact Nat.le_refl _) | (with_reducible exact Nat.le_succ _) | (with_reducible refine Ext.trans ?_ (by assumption)) | (simp; done) | (simp; omega)))⟩
  refine OwnRows.wide (((hro1.set (p := ⟨w.heap.size + 1 + 1, 1, none⟩) (by simp) _).set (p := ⟨w.heap.size + 1, 0, none⟩) (by simp) _).set (p := ⟨w.heap.size + 1, 1, none⟩) (by simp) _) (by omega) (by simp [size_setCell'])

set_option maxHeartbeats 1000000 in
theorem eqBoat_same (a b c d e f : Int) (w : World) :
    Calls Tryd.prog 61 #[.agg #[.int .i64 a, .int .i64 b, .int .i64 c, .int .i64 d, .int .i64 e, .int .i64 f], .agg #[.int .i64 a, .int .i64 b, .int .i64 c, .int .i64 d, .int .i64 e, .int .i64 f]] w fun en w' => en = .returned (.bool true) ∧ Ext w w' := by
  go_enter Tryd.func61, Tryd.ntmps61
  go_wp2
  go_ret
  exact ⟨rfl, by (repeat' (first | (with_reducible exact Ext.refl _) | (with_reducible assumption) | (with_reducible refine Ext.alloc ?_ _) | (with_reducible refine Ext.drewN ?_ _) | (with_reducible refine Ext.drew ?_) | (with_reducible refine Ext.setCell ?_ ?_ _) | (with_reducible exact Nat.le_refl _) | (with_reducible exact Nat.le_succ _) | (with_reducible refine Ext.trans ?_ (by assumption)) | (simp; done) | (simp; omega)))⟩

set_option maxHeartbeats 1000000 in
theorem eqBoatS_same (a a' : Option Addr) (n c c' : Nat) (ps : List Bt) (w : World) (hn : n = ps.length) (hs : n ≤ maxLen) (hf : FlatAt w bCells 6 a ps) (hf' : FlatAt w bCells 6 a' ps) :
    Calls Tryd.prog 46 #[.slice a n c, .slice a' n c'] w fun e w' => e = .returned (.bool true) ∧ Ext w w' := by
  unfold maxLen at hs
  have HF := Lib.hid hf; clear hf
  have HF' := Lib.hid hf'; clear hf'
  have HN := Lib.hid hn; clear hn
  go_enter Tryd.func46, Tryd.ntmps46
  go_wp2
  go_loopw [5] (fun i wr => ∃ (k : Nat), k ≤ n ∧ i = .int .i64 k ∧ Ext w wr) (fun i _ => n - (intOf i).toNat)
  case atStart => exact ⟨0, Nat.zero_le _, rfl, by (repeat' (first | (with_reducible exact Ext.refl _) | (with_reducible assumption) | (with_reducible refine Ext.alloc ?_ _) | (with_reducible refine Ext.drewN ?_ _) | (with_reducible refine Ext.drew ?_) | (with_reducible refine Ext.setCell ?_ ?_ _) | (with_reducible exact Nat.le_refl _) | (with_reducible exact Nat.le_succ _) | (with_reducible refine Ext.trans ?_ (by assumption)) | (simp; done) | (simp; omega)))⟩
  case round =>
    obtain ⟨k, hk, rfl, hr⟩ := hrel
    by_cases hlt : k < n
    · have hlt' : k < ps.length := by rw [← HN.out]; exact hlt
      obtain ⟨b, off, rfl, hcell⟩ := HF.out.get k hlt'
      obtain ⟨b', off', rfl, hcell'⟩ := HF'.out.get k hlt'
      have e0 : ∀ x : Aft wr, x.1.cell? ⟨b, off + k * 6, none⟩ = some (.int .i64 ps[k].id) := fun x => hcell 0 _ rfl _ (hr.trans x.2)
      have e1 : ∀ x : Aft wr, x.1.cell? ⟨b, off + k * 6 + 1, none⟩ = some (.int .i64 ps[k].len) := fun x => hcell 1 _ rfl _ (hr.trans x.2)
      have e2 : ∀ x : Aft wr, x.1.cell? ⟨b, off + k * 6 + 2, none⟩ = some (.int .i64 ps[k].wid) := fun x => hcell 2 _ rfl _ (hr.trans x.2)
      have e3 : ∀ x : Aft wr, x.1.cell? ⟨b, off + k * 6 + 3, none⟩ = some (.int .i64 ps[k].dra) := fun x => hcell 3 _ rfl _ (hr.trans x.2)
      have e4 : ∀ x : Aft wr, x.1.cell? ⟨b, off + k * 6 + 4, none⟩ = some (.int .i64 ps[k].spd) := fun x => hcell 4 _ rfl _ (hr.trans x.2)
      have e5 : ∀ x : Aft wr, x.1.cell? ⟨b, off + k * 6 + 5, none⟩ = some (.int .i64 ps[k].cls) := fun x => hcell 5 _ rfl _ (hr.trans x.2)
      have e6 : ∀ x : Aft wr, x.1.cell? ⟨b', off' + k * 6, none⟩ = some (.int .i64 ps[k].id) := fun x => hcell' 0 _ rfl _ (hr.trans x.2)
      have e7 : ∀ x : Aft wr, x.1.cell? ⟨b', off' + k * 6 + 1, none⟩ = some (.int .i64 ps[k].len) := fun x => hcell' 1 _ rfl _ (hr.trans x.2)
      have e8 : ∀ x : Aft wr, x.1.cell? ⟨b', off' + k * 6 + 2, none⟩ = some (.int .i64 ps[k].wid) := fun x => hcell' 2 _ rfl _ (hr.trans x.2)
      have e9 : ∀ x : Aft wr, x.1.cell? ⟨b', off' + k * 6 + 3, none⟩ = some (.int .i64 ps[k].dra) := fun x => hcell' 3 _ rfl _ (hr.trans x.2)
      have e10 : ∀ x : Aft wr, x.1.cell? ⟨b', off' + k * 6 + 4, none⟩ = some (.int .i64 ps[k].spd) := fun x => hcell' 4 _ rfl _ (hr.trans x.2)
      have e11 : ∀ x : Aft wr, x.1.cell? ⟨b', off' + k * 6 + 5, none⟩ = some (.int .i64 ps[k].cls) := fun x => hcell' 5 _ rfl _ (hr.trans x.2)
      clear hcell hcell'
      go_wp2_with fail
      (refine wp_region_aft wr (Ext.refl _) (by kernel_rfl) (by kernel_rfl) ?_; (repeat (go_big_quiet_step ((go_at_call 61; exact aft_call (eqBoat_same _ _ _ _ _ _ _))))); refine wpQuiet_nil ?_; intro w2 hx2)
      go_wp2
      go_roundw
      case rel => exact ⟨k + 1, by omega, by go_num, by (repeat' (first | (with_reducible exact Ext.refl _) | (with_reducible assumption) | (with_reducible refine Ext.alloc ?_ _) | (with_reducible refine Ext.drewN ?_ _) | (with_reducible refine Ext.drew ?_) | (with_reducible refine Ext.setCell ?_ ?_ _) | (with_reducible exact Nat.le_refl _) | (with_reducible exact Nat.le_succ _) | (with_reducible refine Ext.trans ?_ (by assumption)) | (simp; done) | (simp; omega)))⟩
      case measure => simp [intOf]; omega
    · go_wp2
      go_ret
      exact ⟨rfl, by (repeat' (first | (with_reducible exact Ext.refl _) | (with_reducible assumption) | (with_reducible refine Ext.alloc ?_ _) | (with_reducible refine Ext.drewN ?_ _) | (with_reducible refine Ext.drew ?_) | (with_reducible refine Ext.setCell ?_ ?_ _) | (with_reducible exact Nat.le_refl _) | (with_reducible exact Nat.le_succ _) | (with_reducible refine Ext.trans ?_ (by assumption)) | (simp; done) | (simp; omega)))⟩

set_option maxHeartbeats 1000000 in
theorem eqBoatSS_same (a a' : Option Addr) (n c c' : Nat) (rows : List (List Bt)) (w : World) (hn : n = rows.length) (hs : n ≤ maxLen) (hf : RowsAt w a rows) (hf' : RowsAt w a' rows) :
    Calls Tryd.prog 25 #[.slice a n c, .slice a' n c'] w fun e w' => e = .returned (.bool true) ∧ Ext w w' := by
  unfold maxLen at hs
  have HF := Lib.hid hf; clear hf
  have HF' := Lib.hid hf'; clear hf'
  have HN := Lib.hid hn; clear hn
  go_enter Tryd.func25, Tryd.ntmps25
  go_wp2
  go_loopw [5] (fun i wr => ∃ (k : Nat), k ≤ n ∧ i = .int .i64 k ∧ Ext w wr) (fun i _ => n - (intOf i).toNat)
  case atStart => exact ⟨0, Nat.zero_le _, rfl, by (repeat' (first | (with_reducible exact Ext.refl _) | (with_reducible assumption) | (with_reducible refine Ext.alloc ?_ _) | (with_reducible refine Ext.drewN ?_ _) | (with_reducible refine Ext.drew ?_) | (with_reducible refine Ext.setCell ?_ ?_ _) | (with_reducible exact Nat.le_refl _) | (with_reducible exact Nat.le_succ _) | (with_reducible refine Ext.trans ?_ (by assumption)) | (simp; done) | (simp; omega)))⟩
  case round =>
    obtain ⟨k, hk, rfl, hr⟩ := hrel
    by_cases hlt : k < n
    · have hlt' : k < rows.length := by rw [← HN.out]; exact hlt
      obtain ⟨b, off, ra, rc, rfl, hc, hml, hfl⟩ := HF.out k hlt'
      obtain ⟨b', off', ra', rc', rfl, hc', _, hfl'⟩ := HF'.out k hlt'
      have e0 : ∀ x : Aft wr, x.1.cell? ⟨b, off + k, none⟩ = some (.slice ra rows[k].length rc) := fun x => (hr.trans x.2).cell hc
      have e1 : ∀ x : Aft wr, x.1.cell? ⟨b', off' + k, none⟩ = some (.slice ra' rows[k].length rc') := fun x => (hr.trans x.2).cell hc'
      have HA := Lib.hid hfl; clear hfl
      have HB := Lib.hid hfl'; clear hfl'
      have HM := Lib.hid hml.1; clear hml
      clear hc hc'
      go_wp2_with fail
      (refine wp_region_aft wr (Ext.refl _) (by kernel_rfl) (by kernel_rfl) ?_; (repeat (go_big_quiet_step ((go_at_call 46; exact aft_call (eqBoatS_same _ _ _ _ _ rows[k] _ rfl HM.out (HA.out.ext (hr.trans (Subtype.property _))) (HB.out.ext (hr.trans (Subtype.property _)))))))); refine wpQuiet_nil ?_; intro w2 hx2)
      go_wp2
      go_roundw
      case rel => exact ⟨k + 1, by omega, by go_num, by (repeat' (first | (with_reducible exact Ext.refl _) | (with_reducible assumption) | (with_reducible refine Ext.alloc ?_ _) | (with_reducible refine Ext.drewN ?_ _) | (with_reducible refine Ext.drew ?_) | (with_reducible refine Ext.setCell ?_ ?_ _) | (with_reducible exact Nat.le_refl _) | (with_reducible exact Nat.le_succ _) | (with_reducible refine Ext.trans ?_ (by assumption)) | (simp; done) | (simp; omega)))⟩
      case measure => simp [intOf]; omega
    · go_wp2
      go_ret
      exact ⟨rfl, by (repeat' (first | (with_reducible exact Ext.refl _) | (with_reducible assumption) | (with_reducible refine Ext.alloc ?_ _) | (with_reducible refine Ext.drewN ?_ _) | (with_reducible refine Ext.drew ?_) | (with_reducible refine Ext.setCell ?_ ?_ _) | (with_reducible exact Nat.le_refl _) | (with_reducible exact Nat.le_succ _) | (with_reducible refine Ext.trans ?_ (by assumption)) | (simp; done) | (simp; omega)))⟩

set_option maxHeartbeats 1000000 in
theorem eqTrain_same (u : Bool) (a a' : Option Addr) (n c c' : Nat) (rows : List (List Bt)) (w : World) (hn : n = rows.length) (hs : n ≤ maxLen) (hf : RowsAt w a rows) (hf' : RowsAt w a' rows) :
    Calls Tryd.prog 10 #[.agg #[.bool u, .slice a n c], .agg #[.bool u, .slice a' n c']] w fun e w' => e = .returned (.bool true) ∧ Ext w w' := by
  have HS := Lib.hid hs; clear hs
  have HF := Lib.hid hf; clear hf
  have HF' := Lib.hid hf'; clear hf'
  have HN := Lib.hid hn; clear hn
  go_enter Tryd.func10, Tryd.ntmps10
  go_wp2_with fail
  (with_reducible refine (eqBoatSS_same _ _ _ _ _ rows _ HN.out HS.out (HF.out.ext (by (repeat' (first | (with_reducible exact Ext.refl _) | (with_reducible assumption) | (with_reducible refine Ext.alloc ?_ _) | (with_reducible refine Ext.drewN ?_ _) | (with_reducible refine Ext.drew ?_) | (with_reducible refine Ext.setCell ?_ ?_ _) | (with_reducible exact Nat.le_refl _) | (with_reducible exact Nat.le_succ _) | (with_reducible refine Ext.trans ?_ (by assumption)) | (simp; done) | (simp; omega))))) (HF'.out.ext (by (repeat' (first | (with_reducible exact Ext.refl _) | (with_reducible assumption) | (with_reducible refine Ext.alloc ?_ _) | (with_reducible refine Ext.drewN ?_ _) | (with_reducible refine Ext.drew ?_) | (with_reducible refine Ext.setCell ?_ ?_ _) | (with_reducible exact Nat.le_refl _) | (with_reducible exact Nat.le_succ _) | (with_reducible refine Ext.trans ?_ (by assumption)) | (simp; done) | (simp; omega)))))).mono ?_); rintro e w1 ⟨rfl, hb1⟩
  have x0_1 := hb1
  obtain ⟨hc0_1, hf0_1⟩ := bcell x0_1.below
  have z0_1_0 : w.heap.size < w1.heap.size := by have h := x0_1.size; simp at h; omega
  have z0_1_1 : w.heap.size + 1 < w1.heap.size := by have h := x0_1.size; simp at h; omega
  go_wp2
  go_ret
  exact ⟨rfl, by (repeat' (first | (with_reducible exact Ext.refl _) | (with_reducible assumption) | (with_reducible refine Ext.alloc ?_ _) | (with_reducible refine Ext.drewN ?_ _) | (with_reducible refine Ext.drew ?_) | (with_reducible refine Ext.setCell ?_ ?_ _) | (with_reducible exact Nat.le_refl _) | (with_reducible exact Nat.le_succ _) | (with_reducible refine Ext.trans ?_ (by assumption)) | (simp; done) | (simp; omega)))⟩
end Go.Proofs.YtjjikcjhnglkaaaDoor
