/- Trains in memory: rows of boats; what the law's helpers on them do (sizes, conversion, comparison). -/
import Derived.Test.YtjjikcjhnglkaaaDoorProg
import Derived.Test.YtjjikcjhnglkaaaDoorLib
import Derived.Test.YtjjikcjhnglkaaaDoorMem
import Derived.Test.YtjjikcjhnglkaaaDoorBoat
namespace Go.Proofs.YtjjikcjhnglkaaaDoor
open Go.RowKit
set_option linter.unusedSimpArgs false
set_option linter.unusedVariables false

structure Bt where
  id : Int
  len : Int
  wid : Int
  dra : Int
  spd : Int
  cls : Int
def bCells (b : Bt) : List Value := [.int .i64 b.id, .int .i64 b.len, .int .i64 b.wid, .int .i64 b.dra, .int .i64 b.spd, .int .i64 b.cls]
theorem bCells_len (b : Bt) : (bCells b).length = 6 := rfl

/-- The rows lie one behind the other at a, each a slice of boats. -/
def RowsAt (w : World) (a : Option Addr) (rows : List (List Bt)) : Prop :=
  ∀ k (h : k < rows.length), ∃ b off a' c, a = some ⟨b, off, none⟩ ∧ w.cell? ⟨b, off + k, none⟩ = some (.slice a' rows[k].length c) ∧ (rows[k].length ≤ maxLen ∧ (a' = none → c = 0)) ∧ FlatAt w bCells 6 a' rows[k]
theorem RowsAt.ext {w w' : World} {a : Option Addr} {rows : List (List Bt)} (h : RowsAt w a rows) (hx : Ext w w') : RowsAt w' a rows :=
  fun k hk => let ⟨b, off, a', c, e, hc, hl, hf⟩ := h k hk; ⟨b, off, a', c, e, hx.cell hc, hl, hf.ext hx⟩

/-! ### Sizes -/
def szRow (left : Int) (n : Nat) : Int := if left < n then -1 else left - n
def szGo (left : Int) : List (List Bt) → Int
  | [] => left
  | r :: rs => if szRow left r.length < 0 then -1 else szGo (szRow left r.length) rs
def szRows (left : Int) (rows : List (List Bt)) : Int := if szRow left rows.length < 0 then -1 else szGo (szRow left rows.length) rows
def total (rows : List (List Bt)) : Nat := (rows.map List.length).sum
theorem szRow_val {left : Int} {n : Nat} (h : ¬ szRow left n < 0) : szRow left n = left - n ∧ (n : Int) ≤ left := by
  unfold szRow at *
  split at h
  · exact absurd (by decide) h
  · rename_i h1; rw [if_neg h1]; exact ⟨rfl, by omega⟩
theorem szGo_val : ∀ (rows : List (List Bt)) (left : Int), 0 ≤ left → 0 ≤ szGo left rows → szGo left rows = left - total rows
  | [], left, _, _ => by simp [szGo, total]
  | r :: rs, left, h0, h => by
    simp only [szGo] at h ⊢
    split at h
    · omega
    · rename_i h1
      rw [if_neg h1]
      obtain ⟨e, hl⟩ := szRow_val h1
      have := szGo_val rs (szRow left r.length) (by omega) h
      simp only [total, List.map_cons, List.sum_cons] at *
      omega
theorem szRows_val {left : Int} {rows : List (List Bt)} (h0 : 0 ≤ left) (h : 0 ≤ szRows left rows) : szRows left rows = left - rows.length - total rows := by
  unfold szRows at *
  split at h
  · omega
  · rename_i h1
    rw [if_neg h1]
    obtain ⟨e, hl⟩ := szRow_val h1
    rw [szGo_val rows _ (by omega) h, e]
theorem total_le {rows : List (List Bt)} {r : List Bt} (h : r ∈ rows) : r.length ≤ total rows := by
  induction rows with
  | nil => cases h
  | cons x xs ih =>
    simp only [total, List.map_cons, List.sum_cons] at *
    rcases List.mem_cons.1 h with rfl | h
    · omega
    · have := ih h; omega

set_option maxHeartbeats 400000 in
theorem szBoatS_any (a : Option Addr) (n c : Nat) (left : Int) (hn : n ≤ maxLen) (h0 : 0 ≤ left) (h1 : left ≤ 9223372036854775807) (w : World) :
    Calls Tryd.prog 34 #[.slice a n c, .int .i64 left] w fun e w' => e = .returned (.int .i64 (szRow left n)) ∧ w = w' := by
  unfold maxLen at hn
  by_cases h : left < n
  all_goals
    go_enter Tryd.func34, Tryd.ntmps34
    go_wp2
    go_ret
    exact ⟨ret_int (by unfold szRow; split <;> omega), rfl⟩

set_option maxHeartbeats 1000000 in
theorem szBoatSS_any (a : Option Addr) (n c : Nat) (rows : List (List Bt)) (left : Int) (hn : n = rows.length) (hs : n ≤ maxLen) (h0 : 0 ≤ left) (h1 : left ≤ 1048576) (w : World) (hf : RowsAt w a rows) :
    Calls Tryd.prog 18 #[.slice a n c, .int .i64 left] w fun e w' => e = .returned (.int .i64 (szRows left rows)) ∧ w = w' := by
  unfold maxLen at hs
  have HF := Lib.hid hf; clear hf
  by_cases h : left < n
  · go_enter Tryd.func18, Tryd.ntmps18
    go_wp2
    go_ret
    exact ⟨ret_int (by simp [szRows, szRow, ← hn, h]), rfl⟩
  have hz : szRows left rows = szGo (left - n) rows := by
    unfold szRows szRow
    rw [← hn, if_neg h, if_neg (by omega)]
  have HZ := Lib.hid hz; clear hz
  have HN := Lib.hid hn; clear hn
  go_enter Tryd.func18, Tryd.ntmps18
  go_wp2
  go_loop [1, 5] (fun l i => ∃ (k : Nat) (z : Int), k ≤ n ∧ i = .int .i64 k ∧ l = .int .i64 z ∧ 0 ≤ z ∧ z ≤ 1048576 ∧ Hid (szRows left rows = szGo z (rows.drop k))) (fun _ i => n - (intOf i).toNat)
  case atStart => exact ⟨0, _, Nat.zero_le _, rfl, rfl, by omega, by omega, HZ.out⟩
  case round =>
    obtain ⟨k, z, hk, rfl, rfl, hz0, hz1, hgo⟩ := hrel
    by_cases hlt : k < n
    · have hlt' : k < rows.length := by rw [← HN.out]; exact hlt
      obtain ⟨b, off, a', c', rfl, e1, hl, _⟩ := HF.out k hlt'
      have HD := Lib.hid (show szRows left rows = szGo z (rows[k] :: rows.drop (k + 1)) by rw [hgo.out, List.drop_eq_getElem_cons hlt'])
      clear hgo
      generalize rows[k] = r at *
      have HL := Lib.hid hl.1; clear hl
      by_cases hneg : szRow z r.length < 0
      · go_wp2_with fail
        refine (szBoatS_any _ _ _ _ HL.out (by omega) (by omega) _).mono ?_
        rintro e w1 ⟨rfl, rfl⟩
        have HNEG := Lib.hid hneg
        go_wp2
        go_ret
        exact ⟨ret_int (by rw [HD.out, szGo, if_pos (by have := HNEG.out; omega)]), rfl⟩
      · obtain ⟨v1, v2⟩ := szRow_val hneg
        have HV := Lib.hid v1; clear v1
        have HNEG := Lib.hid hneg
        go_wp2_with fail
        refine (szBoatS_any _ _ _ _ HL.out (by omega) (by omega) _).mono ?_
        rintro e w1 ⟨rfl, rfl⟩
        go_wp2
        go_round
        case rel => exact ⟨k + 1, _, by omega, by go_num, rfl, by omega, by rw [HV.out]; omega, by (show _ = _); rw [HD.out, szGo, if_neg (by have := HNEG.out; omega)]⟩
        case measure => simp [intOf]; omega
    · have hd : rows.drop k = [] := List.drop_eq_nil_of_le (by rw [← HN.out]; omega)
      rw [hd] at hgo
      go_wp2
      go_ret
      exact ⟨ret_int (by rw [hgo.out]; rfl), rfl⟩

set_option maxHeartbeats 1000000 in
theorem szTrain_any (u : Bool) (a : Option Addr) (n c : Nat) (rows : List (List Bt)) (left : Int) (hn : n = rows.length) (hs : n ≤ maxLen) (h0 : 0 ≤ left) (h1 : left ≤ 1048576) (w : World) (hf : RowsAt w a rows) :
    Calls Tryd.prog 6 #[.agg #[.bool u, .slice a n c], .int .i64 left] w fun e w' => e = .returned (.int .i64 (szRows left rows)) ∧ Ext w w' := by
  have HF := Lib.hid hf; clear hf
  have HN := Lib.hid hn; clear hn
  have HS := Lib.hid hs; clear hs
  have hcase : szRows left rows < 0 → szRows left rows = -1 := by
    intro h
    by_cases h1 : szRow left rows.length < 0
    · simp [szRows, h1]
    · unfold szRows at *
      rw [if_neg h1] at h ⊢
      obtain ⟨v1, v2⟩ := szRow_val h1
      clear h1
      have key : ∀ (rs : List (List Bt)) (l : Int), 0 ≤ l → szGo l rs < 0 → szGo l rs = -1 := by
        intro rs
        induction rs with
        | nil => intro l h0 h; simp [szGo] at h; omega
        | cons r rs ih =>
          intro l h0 h
          simp only [szGo] at h ⊢
          split at h
          · rw [if_pos (by assumption)]
          · rename_i h2
            rw [if_neg h2]
            exact ih _ (by omega) h
      exact key rows _ (by omega) h
  by_cases hneg : szRows left rows < 0
  · have HC := Lib.hid (hcase hneg)
    clear hcase
    go_enter Tryd.func6, Tryd.ntmps6
    go_wp2_with fail
    refine (szBoatSS_any _ _ _ rows _ HN.out HS.out h0 h1 _ (HF.out.ext ((Ext.refl _).alloc _))).mono ?_
    rintro e w1 ⟨rfl, rfl⟩
    go_wp2
    go_ret
    exact ⟨ret_int HC.out.symm, by (repeat' (first | (with_reducible exact Ext.refl _) | (with_reducible assumption) | (with_reducible refine Ext.alloc ?_ _) | (with_reducible refine Ext.drewN ?_ _) | (with_reducible refine Ext.drew ?_) | (with_reducible refine Ext.setCell ?_ ?_ _) | (with_reducible exact Nat.le_refl _) | (with_reducible exact Nat.le_succ _) | (with_reducible refine Ext.trans ?_ (by assumption)) | (simp; done) | (simp; omega)))⟩
  · clear hcase
    go_enter Tryd.func6, Tryd.ntmps6
    go_wp2_with fail
    refine (szBoatSS_any _ _ _ rows _ HN.out HS.out h0 h1 _ (HF.out.ext ((Ext.refl _).alloc _))).mono ?_
    rintro e w1 ⟨rfl, rfl⟩
    go_wp2
    go_ret
    exact ⟨rfl, by (repeat' (first | (with_reducible exact Ext.refl _) | (with_reducible assumption) | (with_reducible refine Ext.alloc ?_ _) | (with_reducible refine Ext.drewN ?_ _) | (with_reducible refine Ext.drew ?_) | (with_reducible refine Ext.setCell ?_ ?_ _) | (with_reducible exact Nat.le_refl _) | (with_reducible exact Nat.le_succ _) | (with_reducible refine Ext.trans ?_ (by assumption)) | (simp; done) | (simp; omega)))⟩
theorem szTrain_is (z : Int) (u : Bool) (a : Option Addr) (n c : Nat) (rows : List (List Bt)) (left : Int) (hn : n = rows.length) (hs : n ≤ maxLen) (h0 : 0 ≤ left) (h1 : left ≤ 1048576) (w : World) (hf : RowsAt w a rows) (hz : szRows left rows = z) :
    Calls Tryd.prog 6 #[.agg #[.bool u, .slice a n c], .int .i64 left] w fun e w' => e = .returned (.int .i64 z) ∧ Ext w w' := hz ▸ szTrain_any u a n c rows left hn hs h0 h1 w hf
end Go.Proofs.YtjjikcjhnglkaaaDoor
