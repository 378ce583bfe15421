/- WidthOf: what it computes, on both sides. -/
import Derived.Test.YtooedgaaaoinbaaProg
import Derived.Test.YtooedgaaaoinbaaTrainLen
namespace Go.Proofs.Ytooedgaaaoinbaa
open Go.RowKit
set_option linter.unusedSimpArgs false
set_option linter.unusedVariables false

def sumWid (n : Int) (row : List Bt) : Int := row.foldl (fun n b => n + b.wid) n
def widGo (s : Int) (rows : List (List Bt)) : Int := rows.foldl (fun s r => if s < (sumWid 0 r) then (sumWid 0 r) else s) s
def widthOf (rows : List (List Bt)) : Int := if trainOk rows then widGo 0 rows else 0

set_option maxHeartbeats 4000000 in
theorem implWidthOf_any (u : Bool) (a : Option Addr) (n c : Nat) (rows : List (List Bt)) (w : World) (hn : n = rows.length) (hs : n ≤ 1048576) (ht : rows.flatten.length ≤ 1048576) (hf : RowsAt w a rows) :
    Calls Try.prog 104 #[.agg #[.bool u, .slice a n c]] w fun e w' => e = .returned (.int .i64 (widthOf rows)) ∧ Ext w w' := by
  have HF := Lib.hid hf; clear hf
  have HS := Lib.hid hs
  have HT := Lib.hid ht; clear ht
  cases hok : trainOk rows
  · have hR := Lib.hid (show widthOf rows = 0 by rw [widthOf, hok]; rfl)
    have OK := Lib.hid hok; clear hok
    have HN := Lib.hid hn; clear hn
    go_enter Try.func104, Try.ntmps104
    go_wp2_with fail
    (with_reducible refine (OK.out ▸ implTrainOk_any _ _ _ _ rows _ HN.out HS.out HT.out (HF.out.ext (by (repeat' (first | (with_reducible exact Ext.refl _) | (with_reducible assumption) | (with_reducible refine Ext.alloc ?_ _) | (with_reducible refine Ext.drewN ?_ _) | (with_reducible refine Ext.drew ?_) | (with_reducible refine Ext.setCell ?_ ?_ _) | (with_reducible exact Nat.le_refl _) | (with_reducible exact Nat.le_succ _) | (with_reducible refine Ext.trans ?_ (by assumption)) | (simp; done) | (simp; omega)))))).mono ?_); rintro e w1 ⟨rfl, hb1⟩
    have x0_1 := hb1
    obtain ⟨hc0_1, hf0_1⟩ := bcell x0_1.below
    have z0_1_0 : w.heap.size < w1.heap.size := by have h := x0_1.size; simp at h; omega
    go_wp2
    go_ret
    exact ⟨ret_int hR.out.symm, by (repeat' (first | (with_reducible exact Ext.refl _) | (with_reducible assumption) | (with_reducible refine Ext.alloc ?_ _) | (with_reducible refine Ext.drewN ?_ _) | (with_reducible refine Ext.drew ?_) | (with_reducible refine Ext.setCell ?_ ?_ _) | (with_reducible exact Nat.le_refl _) | (with_reducible exact Nat.le_succ _) | (with_reducible refine Ext.trans ?_ (by assumption)) | (simp; done) | (simp; omega)))⟩
  · obtain ⟨_, _, _, ht6, hn6, _⟩ := trainOk_true hok
    rw [← hn] at hn6
    have hR := Lib.hid (show widthOf rows = widGo 0 (rows.drop 0) by rw [widthOf, hok, List.drop_zero]; rfl)
    obtain ⟨R, hR'⟩ : ∃ R, widthOf rows = R := ⟨_, rfl⟩
    rw [hR'] at hR ⊢
    clear hR'
    have OK := Lib.hid hok; clear hok
    have HN := Lib.hid hn; clear hn
    have HT6 := Lib.hid ht6; clear ht6
    go_enter Try.func104, Try.ntmps104
    go_wp2_with fail
    (with_reducible refine (OK.out ▸ implTrainOk_any _ _ _ _ rows _ HN.out HS.out HT.out (HF.out.ext (by (repeat' (first | (with_reducible exact Ext.refl _) | (with_reducible assumption) | (with_reducible refine Ext.alloc ?_ _) | (with_reducible refine Ext.drewN ?_ _) | (with_reducible refine Ext.drew ?_) | (with_reducible refine Ext.setCell ?_ ?_ _) | (with_reducible exact Nat.le_refl _) | (with_reducible exact Nat.le_succ _) | (with_reducible refine Ext.trans ?_ (by assumption)) | (simp; done) | (simp; omega)))))).mono ?_); rintro e w1 ⟨rfl, hb1⟩
    have x0_1 := hb1
    obtain ⟨hc0_1, hf0_1⟩ := bcell x0_1.below
    have z0_1_0 : w.heap.size < w1.heap.size := by have h := x0_1.size; simp at h; omega
    have HB := Lib.hid (Ext.trans ((Ext.refl w).alloc _) hb1)
    go_wp2
    go_loopw [3, 15] (fun s i wr => ∃ (k : Nat) (z : Int), k ≤ n ∧ i = .int .i64 k ∧ s = .int .i64 z ∧ 0 ≤ z ∧ z ≤ 200 ∧ Ext w wr ∧ Hid (R = widGo z (rows.drop k))) (fun _ i _ => n - (intOf i).toNat)
    case atStart => exact ⟨0, 0, Nat.zero_le _, rfl, rfl, Int.le_refl _, by decide, HB.out, hR⟩
    case round =>
      obtain ⟨w2, rfl⟩ : ∃ x, x = wr := ⟨_, rfl⟩
      obtain ⟨k, z, hk, rfl, rfl, hz0, hz1, hr0, hgo⟩ := hrel
      by_cases hlt : k < n
      · have hlt' : k < rows.length := by rw [← HN.out]; exact hlt
        obtain ⟨b, off, a', c', rfl, hc0, hml, hfr⟩ := HF.out k hlt'
        have e0 : w2.cell? ⟨b, off + k, none⟩ = some (.slice a' rows[k].length c') := hr0.cell hc0
        have hd := List.drop_eq_getElem_cons hlt'
        have hml2 := Nat.le_trans (row_le hlt') HT6.out
        have hmem : rows[k] ∈ rows := List.getElem_mem _
        obtain ⟨row, hrow'⟩ : ∃ row, rows[k] = row := ⟨_, rfl⟩
        rw [hrow'] at e0 hfr hd hml2 hmem hc0
        have HG := Lib.hid (show R = widGo (if z < (sumWid 0 (row.drop 0)) then (sumWid 0 (row.drop 0)) else z) (rows.drop (k + 1)) by rw [hgo.out, hd, List.drop_zero]; rfl)
        have HMEM := Lib.hid hmem; clear hmem
        clear hgo hd hrow' hml
        obtain ⟨p, hp⟩ : ∃ p, p = row.length := ⟨_, rfl⟩
        rw [← hp] at e0 hml2 hc0
        have HC0 := Lib.hid hc0; clear hc0
        have HFR := Lib.hid hfr; clear hfr
        have HP := Lib.hid hp; clear hp
        have HR0 := Lib.hid hr0
        go_wp2
        go_loopw [6, 21] (fun m i wr => ∃ (q : Nat) (y : Int), q ≤ p ∧ i = .int .i64 q ∧ m = .int .i64 y ∧ 0 ≤ y ∧ y ≤ 30 * ((q : Nat) : Int) ∧ Ext w wr ∧ Hid (R = widGo (if z < (sumWid y (row.drop q)) then (sumWid y (row.drop q)) else z) (rows.drop (k + 1)))) (fun _ i _ => p - (intOf i).toNat)
        case atStart => exact ⟨0, 0, Nat.zero_le _, rfl, rfl, Int.le_refl _, by decide, by (repeat' (first | (with_reducible exact Ext.refl _) | (with_reducible assumption) | (with_reducible refine Ext.alloc ?_ _) | (with_reducible refine Ext.drewN ?_ _) | (with_reducible refine Ext.drew ?_) | (with_reducible refine Ext.setCell ?_ ?_ _) | (with_reducible exact Nat.le_refl _) | (with_reducible exact Nat.le_succ _) | (with_reducible refine Ext.trans ?_ (by assumption)) | (simp; done) | (simp; omega))), HG⟩
        case round =>
          obtain ⟨q, y, hq, rfl, rfl, hy0, hy1, hr, hgo⟩ := hrel
          by_cases hlt : q < p
          · have hlt2 : q < row.length := by rw [← HP.out]; exact hlt
            obtain ⟨b2, off2, rfl, hcell⟩ := HFR.out.get q hlt2
            have hd := List.drop_eq_getElem_cons hlt2
            obtain ⟨bt, hbt⟩ : ∃ bt, row[q] = bt := ⟨_, rfl⟩
            have hbo := bOk_bounds (trainOk_boats OK.out HMEM.out (hbt ▸ List.getElem_mem hlt2))
            rw [hbt] at hcell hd
            clear hbt
            obtain ⟨bi, bl, bw, bd, bs, bc⟩ := bt
            have hl1 : 1 ≤ bw := hbo.2.2.1.1
            have hl2 : bw ≤ 30 := hbo.2.2.1.2
            have g0 : wr.cell? ⟨b2, off2 + q * 6, none⟩ = some (.int .i64 bi) := hcell 0 _ rfl _ hr
            have g1 : wr.cell? ⟨b2, off2 + q * 6 + 1, none⟩ = some (.int .i64 bl) := hcell 1 _ rfl _ hr
            have g2 : wr.cell? ⟨b2, off2 + q * 6 + 2, none⟩ = some (.int .i64 bw) := hcell 2 _ rfl _ hr
            have g3 : wr.cell? ⟨b2, off2 + q * 6 + 3, none⟩ = some (.int .i64 bd) := hcell 3 _ rfl _ hr
            have g4 : wr.cell? ⟨b2, off2 + q * 6 + 4, none⟩ = some (.int .i64 bs) := hcell 4 _ rfl _ hr
            have g5 : wr.cell? ⟨b2, off2 + q * 6 + 5, none⟩ = some (.int .i64 bc) := hcell 5 _ rfl _ hr
            have HG2 := Lib.hid (show R = widGo (if z < (sumWid (y + bw) (row.drop (q + 1))) then (sumWid (y + bw) (row.drop (q + 1))) else z) (rows.drop (k + 1)) by rw [hgo.out, hd]; rfl)
            clear hcell hd hgo hbo
            go_wp2
            go_roundw
            case rel => exact ⟨q + 1, y + bw, by omega, by go_num, rfl, by (first | omega | (split <;> omega)), by (first | omega | (split <;> omega)), by (repeat' (first | (with_reducible exact Ext.refl _) | (with_reducible assumption) | (with_reducible refine Ext.alloc ?_ _) | (with_reducible refine Ext.drewN ?_ _) | (with_reducible refine Ext.drew ?_) | (with_reducible refine Ext.setCell ?_ ?_ _) | (with_reducible exact Nat.le_refl _) | (with_reducible exact Nat.le_succ _) | (with_reducible refine Ext.trans ?_ (by assumption)) | (simp; done) | (simp; omega))), HG2⟩
            case measure => simp [intOf]; omega
          · have hqp : q = p := by omega
            have HG2 := Lib.hid (show R = widGo (if z < y then y else z) (rows.drop (k + 1)) by rw [hgo.out, List.drop_eq_nil_of_le (by have := HP.out; omega)]; rfl)
            clear hgo
            go_wp2
            go_roundw
            case rel => exact ⟨k + 1, if z < y then y else z, by omega, by go_num, rfl, by (first | omega | (split <;> omega)), by (first | omega | (split <;> omega)), hr, HG2⟩
            case measure => simp [intOf]; omega
      · have hR2 := Lib.hid (show R = z by rw [hgo.out, List.drop_eq_nil_of_le (by have := HN.out; omega)]; rfl)
        go_wp2
        go_ret
        exact ⟨ret_int hR2.out.symm, by (repeat' (first | (with_reducible exact Ext.refl _) | (with_reducible assumption) | (with_reducible refine Ext.alloc ?_ _) | (with_reducible refine Ext.drewN ?_ _) | (with_reducible refine Ext.drew ?_) | (with_reducible refine Ext.setCell ?_ ?_ _) | (with_reducible exact Nat.le_refl _) | (with_reducible exact Nat.le_succ _) | (with_reducible refine Ext.trans ?_ (by assumption)) | (simp; done) | (simp; omega)))⟩

set_option maxHeartbeats 4000000 in
theorem specWidthOf_any (u : Bool) (a : Option Addr) (n c : Nat) (rows : List (List Bt)) (w : World) (hn : n = rows.length) (hs : n ≤ 1048576) (ht : rows.flatten.length ≤ 1048576) (hf : RowsAt w a rows) :
    Calls Try.prog 106 #[.agg #[.bool u, .slice a n c]] w fun e w' => e = .returned (.int .i64 (widthOf rows)) ∧ Ext w w' := by
  have HF := Lib.hid hf; clear hf
  have HS := Lib.hid hs
  have HT := Lib.hid ht; clear ht
  cases hok : trainOk rows
  · have hR := Lib.hid (show widthOf rows = 0 by rw [widthOf, hok]; rfl)
    have OK := Lib.hid hok; clear hok
    have HN := Lib.hid hn; clear hn
    go_enter Try.func106, Try.ntmps106
    go_wp2
    go_loopw [3, 4] (fun s i wr => s = .int .i64 0 ∧ i = .int .i64 0 ∧ Ext w wr ∧ RowAt wr w.heap.size 36 #[.bool u, .slice a n c]) (fun _ i _ => n - (intOf i).toNat)
    case atStart => exact ⟨rfl, rfl, by (repeat' (first | (with_reducible exact Ext.refl _) | (with_reducible assumption) | (with_reducible refine Ext.alloc ?_ _) | (with_reducible refine Ext.drewN ?_ _) | (with_reducible refine Ext.drew ?_) | (with_reducible refine Ext.setCell ?_ ?_ _) | (with_reducible exact Nat.le_refl _) | (with_reducible exact Nat.le_succ _) | (with_reducible refine Ext.trans ?_ (by assumption)) | (simp; done) | (simp; omega))), RowAt.new _ _ _⟩
    case round =>
      obtain ⟨rfl, rfl, hr, hrow⟩ := hrel
      have g0 : wr.cell? ⟨w.heap.size, 0, none⟩ = some (.bool u) := hrow.cell rfl
      have g1 : wr.cell? ⟨w.heap.size, 1, none⟩ = some (.slice a n c) := hrow.cell rfl
      by_cases h0 : n = 0
      · subst h0
        go_wp2
        go_ret
        exact ⟨ret_int hR.out.symm, by (repeat' (first | (with_reducible exact Ext.refl _) | (with_reducible assumption) | (with_reducible refine Ext.alloc ?_ _) | (with_reducible refine Ext.drewN ?_ _) | (with_reducible refine Ext.drew ?_) | (with_reducible refine Ext.setCell ?_ ?_ _) | (with_reducible exact Nat.le_refl _) | (with_reducible exact Nat.le_succ _) | (with_reducible refine Ext.trans ?_ (by assumption)) | (simp; done) | (simp; omega)))⟩
      · have hpos : 0 < n := by omega
        go_wp2_with (go_at_call 103; refine (OK.out ▸ specTrainOk_any _ _ _ _ rows _ HN.out HS.out HT.out (HF.out.ext hr)).mono ?_; rintro e w9 ⟨rfl, hb9⟩)
        go_ret
        exact ⟨ret_int hR.out.symm, by (repeat' (first | (with_reducible exact Ext.refl _) | (with_reducible assumption) | (with_reducible refine Ext.alloc ?_ _) | (with_reducible refine Ext.drewN ?_ _) | (with_reducible refine Ext.drew ?_) | (with_reducible refine Ext.setCell ?_ ?_ _) | (with_reducible exact Nat.le_refl _) | (with_reducible exact Nat.le_succ _) | (with_reducible refine Ext.trans ?_ (by assumption)) | (simp; done) | (simp; omega)))⟩
  · obtain ⟨_, _, _, ht6, hn6, _⟩ := trainOk_true hok
    rw [← hn] at hn6
    have hR := Lib.hid (show widthOf rows = widGo 0 (rows.drop 0) by rw [widthOf, hok, List.drop_zero]; rfl)
    obtain ⟨R, hR'⟩ : ∃ R, widthOf rows = R := ⟨_, rfl⟩
    rw [hR'] at hR ⊢
    clear hR'
    have OK := Lib.hid hok; clear hok
    have HN := Lib.hid hn; clear hn
    have HT6 := Lib.hid ht6; clear ht6
    go_enter Try.func106, Try.ntmps106
    skip
    go_wp2
    go_loopw [3, 4] (fun s i wr => ∃ (k : Nat) (z : Int), k ≤ n ∧ i = .int .i64 k ∧ s = .int .i64 z ∧ 0 ≤ z ∧ z ≤ 200 ∧ Ext w wr ∧ RowAt wr w.heap.size 36 #[.bool u, .slice a n c] ∧ Hid (R = widGo z (rows.drop k))) (fun _ i _ => n - (intOf i).toNat)
    case atStart => exact ⟨0, 0, Nat.zero_le _, rfl, rfl, Int.le_refl _, by decide, by (repeat' (first | (with_reducible exact Ext.refl _) | (with_reducible assumption) | (with_reducible refine Ext.alloc ?_ _) | (with_reducible refine Ext.drewN ?_ _) | (with_reducible refine Ext.drew ?_) | (with_reducible refine Ext.setCell ?_ ?_ _) | (with_reducible exact Nat.le_refl _) | (with_reducible exact Nat.le_succ _) | (with_reducible refine Ext.trans ?_ (by assumption)) | (simp; done) | (simp; omega))), RowAt.new _ _ _, hR⟩
    case round =>
      obtain ⟨w2, rfl⟩ : ∃ x, x = wr := ⟨_, rfl⟩
      obtain ⟨k, z, hk, rfl, rfl, hz0, hz1, hr0, hrow0, hgo⟩ := hrel
      have t0 : w2.cell? ⟨w.heap.size, 0, none⟩ = some (.bool u) := hrow0.cell rfl
      have t1 : w2.cell? ⟨w.heap.size, 1, none⟩ = some (.slice a n c) := hrow0.cell rfl
      by_cases hlt : k < n
      · have hlt' : k < rows.length := by rw [← HN.out]; exact hlt
        obtain ⟨b, off, a', c', rfl, hc0, hml, hfr⟩ := HF.out k hlt'
        have e0 : w2.cell? ⟨b, off + k, none⟩ = some (.slice a' rows[k].length c') := hr0.cell hc0
        have hd := List.drop_eq_getElem_cons hlt'
        have hml2 := Nat.le_trans (row_le hlt') HT6.out
        have hmem : rows[k] ∈ rows := List.getElem_mem _
        obtain ⟨row, hrow'⟩ : ∃ row, rows[k] = row := ⟨_, rfl⟩
        rw [hrow'] at e0 hfr hd hml2 hmem hc0
        have HG := Lib.hid (show R = widGo (if z < (sumWid 0 (row.drop 0)) then (sumWid 0 (row.drop 0)) else z) (rows.drop (k + 1)) by rw [hgo.out, hd, List.drop_zero]; rfl)
        have HMEM := Lib.hid hmem; clear hmem
        clear hgo hd hrow' hml
        obtain ⟨p, hp⟩ : ∃ p, p = row.length := ⟨_, rfl⟩
        rw [← hp] at e0 hml2 hc0
        have HC0 := Lib.hid hc0; clear hc0
        have HFR := Lib.hid hfr; clear hfr
        have HP := Lib.hid hp; clear hp
        have HR0 := Lib.hid hr0
        go_wp2_with fail
        refine (OK.out ▸ specTrainOk_any _ _ _ _ rows _ HN.out HS.out HT.out (HF.out.ext hr0)).mono ?_
        rintro e w9 ⟨rfl, hb9⟩
        have hrow9 := hrow0.ext hb9
        have hr9 := hr0.trans hb9
        clear t0 t1 e0
        go_wp2
        go_loopw [5, 6] (fun m i wr => ∃ (q : Nat) (y : Int), q ≤ p ∧ i = .int .i64 q ∧ m = .int .i64 y ∧ 0 ≤ y ∧ y ≤ 30 * ((q : Nat) : Int) ∧ Ext w wr ∧ RowAt wr w.heap.size 36 #[.bool u, .slice (some ⟨b, off, none⟩) n c] ∧ Hid (R = widGo (if z < (sumWid y (row.drop q)) then (sumWid y (row.drop q)) else z) (rows.drop (k + 1)))) (fun _ i _ => p - (intOf i).toNat)
        case atStart => exact ⟨0, 0, Nat.zero_le _, rfl, rfl, Int.le_refl _, by decide, hr9, hrow9, HG⟩
        case round =>
          obtain ⟨q, y, hq, rfl, rfl, hy0, hy1, hr, hrow, hgo⟩ := hrel
          have t0 : wr.cell? ⟨w.heap.size, 0, none⟩ = some (.bool u) := hrow.cell rfl
          have t1 : wr.cell? ⟨w.heap.size, 1, none⟩ = some (.slice (some ⟨b, off, none⟩) n c) := hrow.cell rfl
          have e0 : wr.cell? ⟨b, off + k, none⟩ = some (.slice a' p c') := hr.cell HC0.out
          by_cases hlt : q < p
          · have hlt2 : q < row.length := by rw [← HP.out]; exact hlt
            obtain ⟨b2, off2, rfl, hcell⟩ := HFR.out.get q hlt2
            have hd := List.drop_eq_getElem_cons hlt2
            obtain ⟨bt, hbt⟩ : ∃ bt, row[q] = bt := ⟨_, rfl⟩
            have hbo := bOk_bounds (trainOk_boats OK.out HMEM.out (hbt ▸ List.getElem_mem hlt2))
            rw [hbt] at hcell hd
            clear hbt
            obtain ⟨bi, bl, bw, bd, bs, bc⟩ := bt
            have hl1 : 1 ≤ bw := hbo.2.2.1.1
            have hl2 : bw ≤ 30 := hbo.2.2.1.2
            have g0 : wr.cell? ⟨b2, off2 + q * 6, none⟩ = some (.int .i64 bi) := hcell 0 _ rfl _ hr
            have g1 : wr.cell? ⟨b2, off2 + q * 6 + 1, none⟩ = some (.int .i64 bl) := hcell 1 _ rfl _ hr
            have g2 : wr.cell? ⟨b2, off2 + q * 6 + 2, none⟩ = some (.int .i64 bw) := hcell 2 _ rfl _ hr
            have g3 : wr.cell? ⟨b2, off2 + q * 6 + 3, none⟩ = some (.int .i64 bd) := hcell 3 _ rfl _ hr
            have g4 : wr.cell? ⟨b2, off2 + q * 6 + 4, none⟩ = some (.int .i64 bs) := hcell 4 _ rfl _ hr
            have g5 : wr.cell? ⟨b2, off2 + q * 6 + 5, none⟩ = some (.int .i64 bc) := hcell 5 _ rfl _ hr
            have HG2 := Lib.hid (show R = widGo (if z < (sumWid (y + bw) (row.drop (q + 1))) then (sumWid (y + bw) (row.drop (q + 1))) else z) (rows.drop (k + 1)) by rw [hgo.out, hd]; rfl)
            clear hcell hd hgo hbo
            go_wp2
            go_roundw
            case rel => exact ⟨q + 1, y + bw, by omega, by go_num, rfl, by (first | omega | (split <;> omega)), by (first | omega | (split <;> omega)), by (repeat' (first | (with_reducible exact Ext.refl _) | (with_reducible assumption) | (with_reducible refine Ext.alloc ?_ _) | (with_reducible refine Ext.drewN ?_ _) | (with_reducible refine Ext.drew ?_) | (with_reducible refine Ext.setCell ?_ ?_ _) | (with_reducible exact Nat.le_refl _) | (with_reducible exact Nat.le_succ _) | (with_reducible refine Ext.trans ?_ (by assumption)) | (simp; done) | (simp; omega))), hrow, HG2⟩
            case measure => simp [intOf]; omega
          · have hqp : q = p := by omega
            have HG2 := Lib.hid (show R = widGo (if z < y then y else z) (rows.drop (k + 1)) by rw [hgo.out, List.drop_eq_nil_of_le (by have := HP.out; omega)]; rfl)
            clear hgo
            go_wp2
            go_roundw
            case rel => exact ⟨k + 1, if z < y then y else z, by omega, by go_num, rfl, by (first | omega | (split <;> omega)), by (first | omega | (split <;> omega)), hr, hrow, HG2⟩
            case measure => simp [intOf]; omega
      · have hR2 := Lib.hid (show R = z by rw [hgo.out, List.drop_eq_nil_of_le (by have := HN.out; omega)]; rfl)
        go_wp2
        go_ret
        exact ⟨ret_int hR2.out.symm, by (repeat' (first | (with_reducible exact Ext.refl _) | (with_reducible assumption) | (with_reducible refine Ext.alloc ?_ _) | (with_reducible refine Ext.drewN ?_ _) | (with_reducible refine Ext.drew ?_) | (with_reducible refine Ext.setCell ?_ ?_ _) | (with_reducible exact Nat.le_refl _) | (with_reducible exact Nat.le_succ _) | (with_reducible refine Ext.trans ?_ (by assumption)) | (simp; done) | (simp; omega)))⟩
end Go.Proofs.Ytooedgaaaoinbaa
