/- LengthOf and WidthOf: what they compute, on both sides. -/
import Derived.Test.YtmppoflgbmabpaaProg
import Derived.Test.YtmppoflgbmabpaaM1
import Derived.Maps.AppendAt
import Derived.Deep.RegionHeld3
namespace Go.Proofs.Ytmppoflgbmabpaa
open Go.RowKit
set_option linter.unusedSimpArgs false
set_option linter.unusedVariables false

theorem boatsGo_ok : ∀ (bs : List Bt) (seen : List Int), boatsGo seen bs = true → ∀ b ∈ bs, bOk b = true
  | [], _, _, b, hb => by cases hb
  | c :: bs, seen, h, b, hb => by
    rw [boatsGo, Bool.and_eq_true, Bool.and_eq_true] at h
    rcases List.mem_cons.1 hb with rfl | hb
    · exact h.1.1
    · exact boatsGo_ok bs _ h.2 b hb
theorem bOk_bounds {b : Bt} (h : bOk b = true) : (1 ≤ b.id ∧ b.id ≤ 9999) ∧ (1 ≤ b.len ∧ b.len ≤ 200) ∧ (1 ≤ b.wid ∧ b.wid ≤ 30) ∧ (1 ≤ b.dra ∧ b.dra ≤ 100) ∧ (1 ≤ b.spd ∧ b.spd ≤ 50) ∧ (0 ≤ b.cls ∧ b.cls ≤ 2) := by
  unfold bOk boatOk at h
  simp only [Bool.and_eq_true] at h
  obtain ⟨⟨⟨⟨⟨h1, h2⟩, h3⟩, h4⟩, h5⟩, h6⟩ := h
  exact ⟨inR_true h1, inR_true h2, inR_true h3, inR_true h4, inR_true h5, inR_true h6⟩
theorem trainOk_boats {rows : List (List Bt)} (h : trainOk rows = true) {r : List Bt} (hr : r ∈ rows) {b : Bt} (hb : b ∈ r) : bOk b = true :=
  boatsGo_ok _ _ (trainOk_true h).2.2.2.2.2 b (List.mem_flatten.2 ⟨r, hr, hb⟩)

def mostLen (n : Int) (row : List Bt) : Int := row.foldl (fun n b => if n < b.len then b.len else n) n
def lenGo (s : Int) (rows : List (List Bt)) : Int := rows.foldl (fun s r => s + (mostLen 0 r)) s
def lengthOf (rows : List (List Bt)) : Int := if trainOk rows then lenGo 0 rows else 0

set_option maxHeartbeats 4000000 in
theorem implLengthOf_any (u : Bool) (a : Option Addr) (n c : Nat) (rows : List (List Bt)) (w : World) (hn : n = rows.length) (hs : n ≤ 1048576) (ht : rows.flatten.length ≤ 1048576) (hf : RowsAt w a rows) :
    Calls Try.prog 57 #[.agg #[.bool u, .slice a n c]] w fun e w' => e = .returned (.int .i64 (lengthOf rows)) ∧ Ext w w' := by
  have HF := Lib.hid hf; clear hf
  have HS := Lib.hid hs
  have HT := Lib.hid ht; clear ht
  cases hok : trainOk rows
  · have hR := Lib.hid (show lengthOf rows = 0 by rw [lengthOf, hok]; rfl)
    have OK := Lib.hid hok; clear hok
    have HN := Lib.hid hn; clear hn
    go_enter Try.func57, Try.ntmps57
    go_wp2_with fail
    (with_reducible refine (OK.out ▸ implTrainOk_any _ _ _ _ rows _ HN.out HS.out HT.out (HF.out.ext (by (repeat' (first | (with_reducible exact Ext.refl _) | (with_reducible assumption) | (with_reducible refine Ext.alloc ?_ _) | (with_reducible refine Ext.drewN ?_ _) | (with_reducible refine Ext.drew ?_) | (with_reducible refine Ext.setCell ?_ ?_ _) | (with_reducible exact Nat.le_refl _) | (with_reducible exact Nat.le_succ _) | (with_reducible refine Ext.trans ?_ (by assumption)) | (simp; done) | (simp; omega)))))).mono ?_); rintro e w1 ⟨rfl, hb1⟩
    have x0_1 := hb1
    obtain ⟨hc0_1, hf0_1⟩ := bcell x0_1.below
    have z0_1_0 : w.heap.size < w1.heap.size := by have h := x0_1.size; simp at h; omega
    go_wp2
    go_ret
    exact ⟨ret_int hR.out.symm, by (repeat' (first | (with_reducible exact Ext.refl _) | (with_reducible assumption) | (with_reducible refine Ext.alloc ?_ _) | (with_reducible refine Ext.drewN ?_ _) | (with_reducible refine Ext.drew ?_) | (with_reducible refine Ext.setCell ?_ ?_ _) | (with_reducible exact Nat.le_refl _) | (with_reducible exact Nat.le_succ _) | (with_reducible refine Ext.trans ?_ (by assumption)) | (simp; done) | (simp; omega)))⟩
  · obtain ⟨_, _, _, ht6, hn6, _⟩ := trainOk_true hok
    rw [← hn] at hn6
    have hR := Lib.hid (show lengthOf rows = lenGo 0 (rows.drop 0) by rw [lengthOf, hok, List.drop_zero]; rfl)
    obtain ⟨R, hR'⟩ : ∃ R, lengthOf rows = R := ⟨_, rfl⟩
    rw [hR'] at hR ⊢
    clear hR'
    have OK := Lib.hid hok; clear hok
    have HN := Lib.hid hn; clear hn
    have HT6 := Lib.hid ht6; clear ht6
    go_enter Try.func57, Try.ntmps57
    go_wp2_with fail
    (with_reducible refine (OK.out ▸ implTrainOk_any _ _ _ _ rows _ HN.out HS.out HT.out (HF.out.ext (by (repeat' (first | (with_reducible exact Ext.refl _) | (with_reducible assumption) | (with_reducible refine Ext.alloc ?_ _) | (with_reducible refine Ext.drewN ?_ _) | (with_reducible refine Ext.drew ?_) | (with_reducible refine Ext.setCell ?_ ?_ _) | (with_reducible exact Nat.le_refl _) | (with_reducible exact Nat.le_succ _) | (with_reducible refine Ext.trans ?_ (by assumption)) | (simp; done) | (simp; omega)))))).mono ?_); rintro e w1 ⟨rfl, hb1⟩
    have x0_1 := hb1
    obtain ⟨hc0_1, hf0_1⟩ := bcell x0_1.below
    have z0_1_0 : w.heap.size < w1.heap.size := by have h := x0_1.size; simp at h; omega
    have HB := Lib.hid (Ext.trans ((Ext.refl w).alloc _) hb1)
    go_wp2
    go_loopw [3, 15] (fun s i wr => ∃ (k : Nat) (z : Int), k ≤ n ∧ i = .int .i64 k ∧ s = .int .i64 z ∧ 0 ≤ z ∧ z ≤ 200 * ((k : Nat) : Int) ∧ Ext w wr ∧ Hid (R = lenGo z (rows.drop k))) (fun _ i _ => n - (intOf i).toNat)
    case atStart => exact ⟨0, 0, Nat.zero_le _, rfl, rfl, Int.le_refl _, by decide, HB.out, hR⟩
    case round =>
      obtain ⟨w2, rfl⟩ : ∃ x, x = wr := ⟨_, rfl⟩
      obtain ⟨k, z, hk, rfl, rfl, hz0, hz1, hr0, hgo⟩ := hrel
      by_cases hlt : k < n
      · have hlt' : k < rows.length := by rw [← HN.out]; exact hlt
        obtain ⟨b, off, a', c', rfl, hc0, hml, hfr⟩ := HF.out k hlt'
        have e0 : w2.cell? ⟨b, off + k, none⟩ = some (.slice a' rows[k].length c') := hr0.cell hc0
        have hd := List.drop_eq_getElem_cons hlt'
        have hml2 := Nat.le_trans (row_le hlt') HT6.out
        have hmem : rows[k] ∈ rows := List.getElem_mem _
        obtain ⟨row, hrow'⟩ : ∃ row, rows[k] = row := ⟨_, rfl⟩
        rw [hrow'] at e0 hfr hd hml2 hmem hc0
        have HG := Lib.hid (show R = lenGo (z + (mostLen 0 (row.drop 0))) (rows.drop (k + 1)) by rw [hgo.out, hd, List.drop_zero]; rfl)
        have HMEM := Lib.hid hmem; clear hmem
        clear hgo hd hrow' hml
        obtain ⟨p, hp⟩ : ∃ p, p = row.length := ⟨_, rfl⟩
        rw [← hp] at e0 hml2 hc0
        have HC0 := Lib.hid hc0; clear hc0
        have HFR := Lib.hid hfr; clear hfr
        have HP := Lib.hid hp; clear hp
        have HR0 := Lib.hid hr0
        go_wp2
        go_loopw [6, 21] (fun m i wr => ∃ (q : Nat) (y : Int), q ≤ p ∧ i = .int .i64 q ∧ m = .int .i64 y ∧ 0 ≤ y ∧ y ≤ 200 ∧ Ext w wr ∧ Hid (R = lenGo (z + (mostLen y (row.drop q))) (rows.drop (k + 1)))) (fun _ i _ => p - (intOf i).toNat)
        case atStart => exact ⟨0, 0, Nat.zero_le _, rfl, rfl, Int.le_refl _, by decide, by (repeat' (first | (with_reducible exact Ext.refl _) | (with_reducible assumption) | (with_reducible refine Ext.alloc ?_ _) | (with_reducible refine Ext.drewN ?_ _) | (with_reducible refine Ext.drew ?_) | (with_reducible refine Ext.setCell ?_ ?_ _) | (with_reducible exact Nat.le_refl _) | (with_reducible exact Nat.le_succ _) | (with_reducible refine Ext.trans ?_ (by assumption)) | (simp; done) | (simp; omega))), HG⟩
        case round =>
          obtain ⟨q, y, hq, rfl, rfl, hy0, hy1, hr, hgo⟩ := hrel
          by_cases hlt : q < p
          · have hlt2 : q < row.length := by rw [← HP.out]; exact hlt
            obtain ⟨b2, off2, rfl, hcell⟩ := HFR.out.get q hlt2
            have hd := List.drop_eq_getElem_cons hlt2
            obtain ⟨bt, hbt⟩ : ∃ bt, row[q] = bt := ⟨_, rfl⟩
            have hbo := bOk_bounds (trainOk_boats OK.out HMEM.out (hbt ▸ List.getElem_mem hlt2))
            rw [hbt] at hcell hd
            clear hbt
            obtain ⟨bi, bl, bw, bd, bs, bc⟩ := bt
            have hl1 : 1 ≤ bl := hbo.2.1.1
            have hl2 : bl ≤ 200 := hbo.2.1.2
            have g0 : wr.cell? ⟨b2, off2 + q * 6, none⟩ = some (.int .i64 bi) := hcell 0 _ rfl _ hr
            have g1 : wr.cell? ⟨b2, off2 + q * 6 + 1, none⟩ = some (.int .i64 bl) := hcell 1 _ rfl _ hr
            have g2 : wr.cell? ⟨b2, off2 + q * 6 + 2, none⟩ = some (.int .i64 bw) := hcell 2 _ rfl _ hr
            have g3 : wr.cell? ⟨b2, off2 + q * 6 + 3, none⟩ = some (.int .i64 bd) := hcell 3 _ rfl _ hr
            have g4 : wr.cell? ⟨b2, off2 + q * 6 + 4, none⟩ = some (.int .i64 bs) := hcell 4 _ rfl _ hr
            have g5 : wr.cell? ⟨b2, off2 + q * 6 + 5, none⟩ = some (.int .i64 bc) := hcell 5 _ rfl _ hr
            have HG2 := Lib.hid (show R = lenGo (z + (mostLen (if y < bl then bl else y) (row.drop (q + 1)))) (rows.drop (k + 1)) by rw [hgo.out, hd]; rfl)
            clear hcell hd hgo hbo
            go_wp2
            go_roundw
            case rel => exact ⟨q + 1, if y < bl then bl else y, by omega, by go_num, rfl, by (first | omega | (split <;> omega)), by (first | omega | (split <;> omega)), by (repeat' (first | (with_reducible exact Ext.refl _) | (with_reducible assumption) | (with_reducible refine Ext.alloc ?_ _) | (with_reducible refine Ext.drewN ?_ _) | (with_reducible refine Ext.drew ?_) | (with_reducible refine Ext.setCell ?_ ?_ _) | (with_reducible exact Nat.le_refl _) | (with_reducible exact Nat.le_succ _) | (with_reducible refine Ext.trans ?_ (by assumption)) | (simp; done) | (simp; omega))), HG2⟩
            case measure => simp [intOf]; omega
          · have hqp : q = p := by omega
            have HG2 := Lib.hid (show R = lenGo (z + y) (rows.drop (k + 1)) by rw [hgo.out, List.drop_eq_nil_of_le (by have := HP.out; omega)]; rfl)
            clear hgo
            go_wp2
            go_roundw
            case rel => exact ⟨k + 1, z + y, by omega, by go_num, rfl, by (first | omega | (split <;> omega)), by (first | omega | (split <;> omega)), hr, HG2⟩
            case measure => simp [intOf]; omega
      · have hR2 := Lib.hid (show R = z by rw [hgo.out, List.drop_eq_nil_of_le (by have := HN.out; omega)]; rfl)
        go_wp2
        go_ret
        exact ⟨ret_int hR2.out.symm, by (repeat' (first | (with_reducible exact Ext.refl _) | (with_reducible assumption) | (with_reducible refine Ext.alloc ?_ _) | (with_reducible refine Ext.drewN ?_ _) | (with_reducible refine Ext.drew ?_) | (with_reducible refine Ext.setCell ?_ ?_ _) | (with_reducible exact Nat.le_refl _) | (with_reducible exact Nat.le_succ _) | (with_reducible refine Ext.trans ?_ (by assumption)) | (simp; done) | (simp; omega)))⟩

set_option maxHeartbeats 4000000 in
theorem specLengthOf_any (u : Bool) (a : Option Addr) (n c : Nat) (rows : List (List Bt)) (w : World) (hn : n = rows.length) (hs : n ≤ 1048576) (ht : rows.flatten.length ≤ 1048576) (hf : RowsAt w a rows) :
    Calls Try.prog 63 #[.agg #[.bool u, .slice a n c]] w fun e w' => e = .returned (.int .i64 (lengthOf rows)) ∧ Ext w w' := by
  have HF := Lib.hid hf; clear hf
  have HS := Lib.hid hs
  have HT := Lib.hid ht; clear ht
  cases hok : trainOk rows
  · have hR := Lib.hid (show lengthOf rows = 0 by rw [lengthOf, hok]; rfl)
    have OK := Lib.hid hok; clear hok
    have HN := Lib.hid hn; clear hn
    go_enter Try.func63, Try.ntmps63
    go_wp2
    go_loopw [3, 4] (fun s i wr => s = .int .i64 0 ∧ i = .int .i64 0 ∧ Ext w wr ∧ RowAt wr w.heap.size 47 #[.bool u, .slice a n c]) (fun _ i _ => n - (intOf i).toNat)
    case atStart => exact ⟨rfl, rfl, by (repeat' (first | (with_reducible exact Ext.refl _) | (with_reducible assumption) | (with_reducible refine Ext.alloc ?_ _) | (with_reducible refine Ext.drewN ?_ _) | (with_reducible refine Ext.drew ?_) | (with_reducible refine Ext.setCell ?_ ?_ _) | (with_reducible exact Nat.le_refl _) | (with_reducible exact Nat.le_succ _) | (with_reducible refine Ext.trans ?_ (by assumption)) | (simp; done) | (simp; omega))), RowAt.new _ _ _⟩
    case round =>
      obtain ⟨rfl, rfl, hr, hrow⟩ := hrel
      have g0 : wr.cell? ⟨w.heap.size, 0, none⟩ = some (.bool u) := hrow.cell rfl
      have g1 : wr.cell? ⟨w.heap.size, 1, none⟩ = some (.slice a n c) := hrow.cell rfl
      by_cases h0 : n = 0
      · subst h0
        go_wp2
        go_ret
        exact ⟨ret_int hR.out.symm, by (repeat' (first | (with_reducible exact Ext.refl _) | (with_reducible assumption) | (with_reducible refine Ext.alloc ?_ _) | (with_reducible refine Ext.drewN ?_ _) | (with_reducible refine Ext.drew ?_) | (with_reducible refine Ext.setCell ?_ ?_ _) | (with_reducible exact Nat.le_refl _) | (with_reducible exact Nat.le_succ _) | (with_reducible refine Ext.trans ?_ (by assumption)) | (simp; done) | (simp; omega)))⟩
      · have hpos : 0 < n := by omega
        go_wp2_with (go_at_call 61; refine (OK.out ▸ specTrainOk_any _ _ _ _ rows _ HN.out HS.out HT.out (HF.out.ext hr)).mono ?_; rintro e w9 ⟨rfl, hb9⟩)
        go_ret
        exact ⟨ret_int hR.out.symm, by (repeat' (first | (with_reducible exact Ext.refl _) | (with_reducible assumption) | (with_reducible refine Ext.alloc ?_ _) | (with_reducible refine Ext.drewN ?_ _) | (with_reducible refine Ext.drew ?_) | (with_reducible refine Ext.setCell ?_ ?_ _) | (with_reducible exact Nat.le_refl _) | (with_reducible exact Nat.le_succ _) | (with_reducible refine Ext.trans ?_ (by assumption)) | (simp; done) | (simp; omega)))⟩
  · obtain ⟨_, _, _, ht6, hn6, _⟩ := trainOk_true hok
    rw [← hn] at hn6
    have hR := Lib.hid (show lengthOf rows = lenGo 0 (rows.drop 0) by rw [lengthOf, hok, List.drop_zero]; rfl)
    obtain ⟨R, hR'⟩ : ∃ R, lengthOf rows = R := ⟨_, rfl⟩
    rw [hR'] at hR ⊢
    clear hR'
    have OK := Lib.hid hok; clear hok
    have HN := Lib.hid hn; clear hn
    have HT6 := Lib.hid ht6; clear ht6
    go_enter Try.func63, Try.ntmps63
    skip
    go_wp2
    go_loopw [3, 4] (fun s i wr => ∃ (k : Nat) (z : Int), k ≤ n ∧ i = .int .i64 k ∧ s = .int .i64 z ∧ 0 ≤ z ∧ z ≤ 200 * ((k : Nat) : Int) ∧ Ext w wr ∧ RowAt wr w.heap.size 47 #[.bool u, .slice a n c] ∧ Hid (R = lenGo z (rows.drop k))) (fun _ i _ => n - (intOf i).toNat)
    case atStart => exact ⟨0, 0, Nat.zero_le _, rfl, rfl, Int.le_refl _, by decide, by (repeat' (first | (with_reducible exact Ext.refl _) | (with_reducible assumption) | (with_reducible refine Ext.alloc ?_ _) | (with_reducible refine Ext.drewN ?_ _) | (with_reducible refine Ext.drew ?_) | (with_reducible refine Ext.setCell ?_ ?_ _) | (with_reducible exact Nat.le_refl _) | (with_reducible exact Nat.le_succ _) | (with_reducible refine Ext.trans ?_ (by assumption)) | (simp; done) | (simp; omega))), RowAt.new _ _ _, hR⟩
    case round =>
      obtain ⟨w2, rfl⟩ : ∃ x, x = wr := ⟨_, rfl⟩
      obtain ⟨k, z, hk, rfl, rfl, hz0, hz1, hr0, hrow0, hgo⟩ := hrel
      have t0 : w2.cell? ⟨w.heap.size, 0, none⟩ = some (.bool u) := hrow0.cell rfl
      have t1 : w2.cell? ⟨w.heap.size, 1, none⟩ = some (.slice a n c) := hrow0.cell rfl
      by_cases hlt : k < n
      · have hlt' : k < rows.length := by rw [← HN.out]; exact hlt
        obtain ⟨b, off, a', c', rfl, hc0, hml, hfr⟩ := HF.out k hlt'
        have e0 : w2.cell? ⟨b, off + k, none⟩ = some (.slice a' rows[k].length c') := hr0.cell hc0
        have hd := List.drop_eq_getElem_cons hlt'
        have hml2 := Nat.le_trans (row_le hlt') HT6.out
        have hmem : rows[k] ∈ rows := List.getElem_mem _
        obtain ⟨row, hrow'⟩ : ∃ row, rows[k] = row := ⟨_, rfl⟩
        rw [hrow'] at e0 hfr hd hml2 hmem hc0
        have HG := Lib.hid (show R = lenGo (z + (mostLen 0 (row.drop 0))) (rows.drop (k + 1)) by rw [hgo.out, hd, List.drop_zero]; rfl)
        have HMEM := Lib.hid hmem; clear hmem
        clear hgo hd hrow' hml
        obtain ⟨p, hp⟩ : ∃ p, p = row.length := ⟨_, rfl⟩
        rw [← hp] at e0 hml2 hc0
        have HC0 := Lib.hid hc0; clear hc0
        have HFR := Lib.hid hfr; clear hfr
        have HP := Lib.hid hp; clear hp
        have HR0 := Lib.hid hr0
        go_wp2_with fail
        refine (OK.out ▸ specTrainOk_any _ _ _ _ rows _ HN.out HS.out HT.out (HF.out.ext hr0)).mono ?_
        rintro e w9 ⟨rfl, hb9⟩
        have hrow9 := hrow0.ext hb9
        have hr9 := hr0.trans hb9
        clear t0 t1 e0
        go_wp2
        go_loopw [5, 6] (fun m i wr => ∃ (q : Nat) (y : Int), q ≤ p ∧ i = .int .i64 q ∧ m = .int .i64 y ∧ 0 ≤ y ∧ y ≤ 200 ∧ Ext w wr ∧ RowAt wr w.heap.size 47 #[.bool u, .slice (some ⟨b, off, none⟩) n c] ∧ Hid (R = lenGo (z + (mostLen y (row.drop q))) (rows.drop (k + 1)))) (fun _ i _ => p - (intOf i).toNat)
        case atStart => exact ⟨0, 0, Nat.zero_le _, rfl, rfl, Int.le_refl _, by decide, hr9, hrow9, HG⟩
        case round =>
          obtain ⟨q, y, hq, rfl, rfl, hy0, hy1, hr, hrow, hgo⟩ := hrel
          have t0 : wr.cell? ⟨w.heap.size, 0, none⟩ = some (.bool u) := hrow.cell rfl
          have t1 : wr.cell? ⟨w.heap.size, 1, none⟩ = some (.slice (some ⟨b, off, none⟩) n c) := hrow.cell rfl
          have e0 : wr.cell? ⟨b, off + k, none⟩ = some (.slice a' p c') := hr.cell HC0.out
          by_cases hlt : q < p
          · have hlt2 : q < row.length := by rw [← HP.out]; exact hlt
            obtain ⟨b2, off2, rfl, hcell⟩ := HFR.out.get q hlt2
            have hd := List.drop_eq_getElem_cons hlt2
            obtain ⟨bt, hbt⟩ : ∃ bt, row[q] = bt := ⟨_, rfl⟩
            have hbo := bOk_bounds (trainOk_boats OK.out HMEM.out (hbt ▸ List.getElem_mem hlt2))
            rw [hbt] at hcell hd
            clear hbt
            obtain ⟨bi, bl, bw, bd, bs, bc⟩ := bt
            have hl1 : 1 ≤ bl := hbo.2.1.1
            have hl2 : bl ≤ 200 := hbo.2.1.2
            have g0 : wr.cell? ⟨b2, off2 + q * 6, none⟩ = some (.int .i64 bi) := hcell 0 _ rfl _ hr
            have g1 : wr.cell? ⟨b2, off2 + q * 6 + 1, none⟩ = some (.int .i64 bl) := hcell 1 _ rfl _ hr
            have g2 : wr.cell? ⟨b2, off2 + q * 6 + 2, none⟩ = some (.int .i64 bw) := hcell 2 _ rfl _ hr
            have g3 : wr.cell? ⟨b2, off2 + q * 6 + 3, none⟩ = some (.int .i64 bd) := hcell 3 _ rfl _ hr
            have g4 : wr.cell? ⟨b2, off2 + q * 6 + 4, none⟩ = some (.int .i64 bs) := hcell 4 _ rfl _ hr
            have g5 : wr.cell? ⟨b2, off2 + q * 6 + 5, none⟩ = some (.int .i64 bc) := hcell 5 _ rfl _ hr
            have HG2 := Lib.hid (show R = lenGo (z + (mostLen (if y < bl then bl else y) (row.drop (q + 1)))) (rows.drop (k + 1)) by rw [hgo.out, hd]; rfl)
            clear hcell hd hgo hbo
            go_wp2
            go_roundw
            case rel => exact ⟨q + 1, if y < bl then bl else y, by omega, by go_num, rfl, by (first | omega | (split <;> omega)), by (first | omega | (split <;> omega)), by (repeat' (first | (with_reducible exact Ext.refl _) | (with_reducible assumption) | (with_reducible refine Ext.alloc ?_ _) | (with_reducible refine Ext.drewN ?_ _) | (with_reducible refine Ext.drew ?_) | (with_reducible refine Ext.setCell ?_ ?_ _) | (with_reducible exact Nat.le_refl _) | (with_reducible exact Nat.le_succ _) | (with_reducible refine Ext.trans ?_ (by assumption)) | (simp; done) | (simp; omega))), hrow, HG2⟩
            case measure => simp [intOf]; omega
          · have hqp : q = p := by omega
            have HG2 := Lib.hid (show R = lenGo (z + y) (rows.drop (k + 1)) by rw [hgo.out, List.drop_eq_nil_of_le (by have := HP.out; omega)]; rfl)
            clear hgo
            go_wp2
            go_roundw
            case rel => exact ⟨k + 1, z + y, by omega, by go_num, rfl, by (first | omega | (split <;> omega)), by (first | omega | (split <;> omega)), hr, hrow, HG2⟩
            case measure => simp [intOf]; omega
      · have hR2 := Lib.hid (show R = z by rw [hgo.out, List.drop_eq_nil_of_le (by have := HN.out; omega)]; rfl)
        go_wp2
        go_ret
        exact ⟨ret_int hR2.out.symm, by (repeat' (first | (with_reducible exact Ext.refl _) | (with_reducible assumption) | (with_reducible refine Ext.alloc ?_ _) | (with_reducible refine Ext.drewN ?_ _) | (with_reducible refine Ext.drew ?_) | (with_reducible refine Ext.setCell ?_ ?_ _) | (with_reducible exact Nat.le_refl _) | (with_reducible exact Nat.le_succ _) | (with_reducible refine Ext.trans ?_ (by assumption)) | (simp; done) | (simp; omega)))⟩
end Go.Proofs.Ytmppoflgbmabpaa
/- DraughtOf, SpeedOf, ClassOf: what they compute, on both sides. -/
namespace Go.Proofs.Ytmppoflgbmabpaa
open Go.RowKit
set_option linter.unusedSimpArgs false
set_option linter.unusedVariables false

/-- A valid train's first boat. -/
theorem trainOk_head {rows : List (List Bt)} (h : trainOk rows = true) : ∃ b r rs, rows = (b :: r) :: rs := by
  obtain ⟨h1, h2, _⟩ := trainOk_true h
  match rows, h1, h2 with
  | r :: rs, _, h2 =>
    match r, h2 r (by simp) with
    | b :: r, _ => exact ⟨b, r, rs, rfl⟩
theorem headCells {w : World} {a : Option Addr} {b0 : Bt} {r : List Bt} {rs : List (List Bt)} (h : RowsAt w a ((b0 :: r) :: rs)) :
    ∃ b off b2 off2 c', a = some ⟨b, off, none⟩ ∧ w.cell? ⟨b, off, none⟩ = some (.slice (some ⟨b2, off2, none⟩) (r.length + 1) c') ∧
      ∀ j v, (bCells b0)[j]? = some v → w.cell? ⟨b2, off2 + j, none⟩ = some v := by
  obtain ⟨b, off, a', c', rfl, hc, _, hf⟩ := h 0 (by simp)
  obtain ⟨b2, off2, rfl, hcell⟩ := hf 0 (by simp)
  exact ⟨b, off, b2, off2, c', rfl, by simpa using hc, fun j v hv => by simpa using hcell j v (by simpa using hv)⟩
theorem implBoats_is {flat : List Bt} {m : Nat} (u : Bool) (a : Option Addr) (n c : Nat) (rows : List (List Bt)) (w : World) (hn : n = rows.length) (hs : n ≤ maxLen) (ht : rows.flatten.length ≤ 1048576) (hf : RowsAt w a rows) (hfl : flat = rows.flatten) (hm : m = flat.length) :
    Calls Try.prog 43 #[.agg #[.bool u, .slice a n c]] w fun e w' => ∃ (a : Option Addr) (c : Nat), e = .returned (.slice a m c) ∧ (FlatAt w' bCells 6 a flat ∧ ∀ ad, a = some ad → w.heap.size ≤ ad.block) ∧ Ext w w' := by
  subst hfl hm
  exact implBoatsOf_any u a n c rows w hn hs ht hf
theorem specBoats_is {flat : List Bt} {m : Nat} (u : Bool) (a : Option Addr) (n c : Nat) (rows : List (List Bt)) (w : World) (hn : n = rows.length) (hs : n ≤ maxLen) (ht : rows.flatten.length ≤ 1048576) (hf : RowsAt w a rows) (hfl : flat = rows.flatten) (hm : m = flat.length) :
    Calls Try.prog 67 #[.agg #[.bool u, .slice a n c]] w fun e w' => ∃ (a : Option Addr) (c : Nat), e = .returned (.slice a m c) ∧ (FlatAt w' bCells 6 a flat ∧ ∀ ad, a = some ad → w.heap.size ≤ ad.block) ∧ Ext w w' := by
  subst hfl hm
  exact specBoats_any u a n c rows w hn hs ht hf

def draGo (n : Int) (bs : List Bt) : Int := bs.foldl (fun n b => if n < b.dra then b.dra else n) n
def draughtOf (rows : List (List Bt)) : Int := if trainOk rows then draGo 0 rows.flatten else 0

set_option maxHeartbeats 4000000 in
theorem implDraughtOf_any (u : Bool) (a : Option Addr) (n c : Nat) (rows : List (List Bt)) (w : World) (hn : n = rows.length) (hs : n ≤ 1048576) (ht : rows.flatten.length ≤ 1048576) (hf : RowsAt w a rows) :
    Calls Try.prog 18 #[.agg #[.bool u, .slice a n c]] w fun e w' => e = .returned (.int .i64 (draughtOf rows)) ∧ Ext w w' := by
  have HF := Lib.hid hf; clear hf
  have HS := Lib.hid hs
  have HSM := Lib.hid (show n ≤ maxLen by unfold maxLen; omega)
  have HT := Lib.hid ht
  obtain ⟨flat, hfl⟩ : ∃ flat, flat = rows.flatten := ⟨_, rfl⟩
  have HFLAT := Lib.hid hfl
  obtain ⟨m, hm⟩ : ∃ m, m = flat.length := ⟨_, rfl⟩
  have hm2 : m ≤ 1048576 := by rw [hm, hfl]; exact ht
  have HM := Lib.hid hm
  clear hm hfl ht
  cases hok : trainOk rows
  · have hR := Lib.hid (show draughtOf rows = 0 by rw [draughtOf, hok]; rfl)
    have OK := Lib.hid hok; clear hok
    have HN := Lib.hid hn; clear hn
    go_enter Try.func18, Try.ntmps18
    go_wp2_with fail
    (with_reducible refine (OK.out ▸ implTrainOk_any _ _ _ _ rows _ HN.out HS.out HT.out (HF.out.ext (by (repeat' (first | (with_reducible exact Ext.refl _) | (with_reducible assumption) | (with_reducible refine Ext.alloc ?_ _) | (with_reducible refine Ext.drewN ?_ _) | (with_reducible refine Ext.drew ?_) | (with_reducible refine Ext.setCell ?_ ?_ _) | (with_reducible exact Nat.le_refl _) | (with_reducible exact Nat.le_succ _) | (with_reducible refine Ext.trans ?_ (by assumption)) | (simp; done) | (simp; omega)))))).mono ?_); rintro e w1 ⟨rfl, hb1⟩
    have x0_1 := hb1
    obtain ⟨hc0_1, hf0_1⟩ := bcell x0_1.below
    have z0_1_0 : w.heap.size < w1.heap.size := by have h := x0_1.size; simp at h; omega
    go_wp2
    go_ret
    exact ⟨ret_int hR.out.symm, by (repeat' (first | (with_reducible exact Ext.refl _) | (with_reducible assumption) | (with_reducible refine Ext.alloc ?_ _) | (with_reducible refine Ext.drewN ?_ _) | (with_reducible refine Ext.drew ?_) | (with_reducible refine Ext.setCell ?_ ?_ _) | (with_reducible exact Nat.le_refl _) | (with_reducible exact Nat.le_succ _) | (with_reducible refine Ext.trans ?_ (by assumption)) | (simp; done) | (simp; omega)))⟩
  · have hbo := fun b (hb : b ∈ flat) => bOk_bounds (boatsGo_ok _ _ (trainOk_true hok).2.2.2.2.2 b (HFLAT.out ▸ hb))
    have HBO := Lib.hid hbo; clear hbo
    have hR := Lib.hid (show draughtOf rows = draGo 0 (flat.drop 0) by rw [draughtOf, hok, List.drop_zero, HFLAT.out]; rfl)
    obtain ⟨R, hR'⟩ : ∃ R, draughtOf rows = R := ⟨_, rfl⟩
    rw [hR'] at hR ⊢
    clear hR'
    have OK := Lib.hid hok; clear hok
    have HN := Lib.hid hn; clear hn
    go_enter Try.func18, Try.ntmps18
    go_wp2_with fail
    (with_reducible refine (OK.out ▸ implTrainOk_any _ _ _ _ rows _ HN.out HS.out HT.out (HF.out.ext (by (repeat' (first | (with_reducible exact Ext.refl _) | (with_reducible assumption) | (with_reducible refine Ext.alloc ?_ _) | (with_reducible refine Ext.drewN ?_ _) | (with_reducible refine Ext.drew ?_) | (with_reducible refine Ext.setCell ?_ ?_ _) | (with_reducible exact Nat.le_refl _) | (with_reducible exact Nat.le_succ _) | (with_reducible refine Ext.trans ?_ (by assumption)) | (simp; done) | (simp; omega)))))).mono ?_); rintro e w1 ⟨rfl, hb1⟩
    have x0_1 := hb1
    obtain ⟨hc0_1, hf0_1⟩ := bcell x0_1.below
    have z0_1_0 : w.heap.size < w1.heap.size := by have h := x0_1.size; simp at h; omega
    go_wp2_with fail
    (with_reducible refine (implBoats_is _ _ _ _ rows _ HN.out HSM.out HT.out (HF.out.ext (by (repeat' (first | (with_reducible exact Ext.refl _) | (with_reducible assumption) | (with_reducible refine Ext.alloc ?_ _) | (with_reducible refine Ext.drewN ?_ _) | (with_reducible refine Ext.drew ?_) | (with_reducible refine Ext.setCell ?_ ?_ _) | (with_reducible exact Nat.le_refl _) | (with_reducible exact Nat.le_succ _) | (with_reducible refine Ext.trans ?_ (by assumption)) | (simp; done) | (simp; omega))))) HFLAT.out HM.out).mono ?_); rintro e w2 ⟨a9, c9, rfl, ⟨hflat, _⟩, hb2⟩
    have x1_2 := hb2
    have x0_2 : Ext _ w2 := x0_1.trans (Ext.trans (b := _) (by (repeat' (first | (with_reducible exact Ext.refl _) | (with_reducible assumption) | (with_reducible refine Ext.alloc ?_ _) | (with_reducible refine Ext.drewN ?_ _) | (with_reducible refine Ext.drew ?_) | (with_reducible refine Ext.setCell ?_ ?_ _) | (with_reducible exact Nat.le_refl _) | (with_reducible exact Nat.le_succ _) | (with_reducible refine Ext.trans ?_ (by assumption)) | (simp; done) | (simp; omega)))) hb2)
    obtain ⟨hc0_2, hf0_2⟩ := bcell x0_2.below
    have z0_2_0 : w.heap.size < w2.heap.size := by have h := x0_2.size; simp at h; omega
    have HB := Lib.hid ((Ext.trans ((Ext.refl w).alloc _) hb1).trans hb2)
    have HFL := Lib.hid hflat; clear hflat
    go_wp2
    go_loopw [3, 12] (fun s i wr => ∃ (q : Nat) (z : Int), q ≤ m ∧ i = .int .i64 q ∧ s = .int .i64 z ∧ Ext w2 wr ∧ Ext w wr ∧ Hid (R = draGo z (flat.drop q))) (fun _ i _ => m - (intOf i).toNat)
    case atStart => exact ⟨0, 0, Nat.zero_le _, rfl, rfl, Ext.refl _, HB.out, hR⟩
    case round =>
      obtain ⟨q, z, hq, rfl, rfl, hr, hrw, hgo⟩ := hrel
      by_cases hlt : q < m
      · have hlt2 : q < flat.length := by rw [← HM.out]; exact hlt
        obtain ⟨b2, off2, e2, hcell⟩ := HFL.out.get q hlt2
        cases e2
        have hd := List.drop_eq_getElem_cons hlt2
        obtain ⟨bt, hbt⟩ : ∃ bt, flat[q] = bt := ⟨_, rfl⟩
        rw [hbt] at hcell hd
        clear hbt
        obtain ⟨bi, bl, bw, bd, bs, bc⟩ := bt
        have g0 : wr.cell? ⟨b2, off2 + q * 6, none⟩ = some (.int .i64 bi) := hcell 0 _ rfl _ hr
        have g1 : wr.cell? ⟨b2, off2 + q * 6 + 1, none⟩ = some (.int .i64 bl) := hcell 1 _ rfl _ hr
        have g2 : wr.cell? ⟨b2, off2 + q * 6 + 2, none⟩ = some (.int .i64 bw) := hcell 2 _ rfl _ hr
        have g3 : wr.cell? ⟨b2, off2 + q * 6 + 3, none⟩ = some (.int .i64 bd) := hcell 3 _ rfl _ hr
        have g4 : wr.cell? ⟨b2, off2 + q * 6 + 4, none⟩ = some (.int .i64 bs) := hcell 4 _ rfl _ hr
        have g5 : wr.cell? ⟨b2, off2 + q * 6 + 5, none⟩ = some (.int .i64 bc) := hcell 5 _ rfl _ hr
        have HG2 := Lib.hid (show R = draGo (if z < bd then bd else z) (flat.drop (q + 1)) by rw [hgo.out, hd]; rfl)
        clear hcell hd hgo
        go_wp2
        go_roundw
        case rel => exact ⟨q + 1, if z < bd then bd else z, by omega, by go_num, rfl, by (repeat' (first | (with_reducible exact Ext.refl _) | (with_reducible assumption) | (with_reducible refine Ext.alloc ?_ _) | (with_reducible refine Ext.drewN ?_ _) | (with_reducible refine Ext.drew ?_) | (with_reducible refine Ext.setCell ?_ ?_ _) | (with_reducible exact Nat.le_refl _) | (with_reducible exact Nat.le_succ _) | (with_reducible refine Ext.trans ?_ (by assumption)) | (simp; done) | (simp; omega))), by (repeat' (first | (with_reducible exact Ext.refl _) | (with_reducible assumption) | (with_reducible refine Ext.alloc ?_ _) | (with_reducible refine Ext.drewN ?_ _) | (with_reducible refine Ext.drew ?_) | (with_reducible refine Ext.setCell ?_ ?_ _) | (with_reducible exact Nat.le_refl _) | (with_reducible exact Nat.le_succ _) | (with_reducible refine Ext.trans ?_ (by assumption)) | (simp; done) | (simp; omega))), HG2⟩
        case measure => simp [intOf]; omega
      · have hR2 := Lib.hid (show R = z by rw [hgo.out, List.drop_eq_nil_of_le (by have := HM.out; omega)]; rfl)
        go_wp2
        go_ret
        exact ⟨ret_int hR2.out.symm, by (repeat' (first | (with_reducible exact Ext.refl _) | (with_reducible assumption) | (with_reducible refine Ext.alloc ?_ _) | (with_reducible refine Ext.drewN ?_ _) | (with_reducible refine Ext.drew ?_) | (with_reducible refine Ext.setCell ?_ ?_ _) | (with_reducible exact Nat.le_refl _) | (with_reducible exact Nat.le_succ _) | (with_reducible refine Ext.trans ?_ (by assumption)) | (simp; done) | (simp; omega)))⟩

def spdGo (n : Int) (bs : List Bt) : Int := bs.foldl (fun n b => if b.spd < n then b.spd else n) n
def speedOf (rows : List (List Bt)) : Int := if trainOk rows then (match rows.flatten with | [] => 0 | b0 :: bs => spdGo b0.spd (b0 :: bs)) else 0

def clsGo (n : Int) (bs : List Bt) : Int := bs.foldl (fun n b => if b.cls < n then b.cls else n) n
def classOf (rows : List (List Bt)) : Int := if trainOk rows then (match rows.flatten with | [] => 0 | b0 :: bs => clsGo b0.cls (b0 :: bs)) else -1

end Go.Proofs.Ytmppoflgbmabpaa
/- IdsOf: the list of the Ids, on both sides. -/
namespace Go.Proofs.Ytmppoflgbmabpaa
open Go.RowKit
set_option linter.unusedSimpArgs false
set_option linter.unusedVariables false

def iCells (x : Int) : List Value := [.int .i64 x]
theorem iCells_len (x : Int) : (iCells x).length = 1 := rfl
theorem info_int : (Try.prog.info? 3).map (fun i => (i.zero, i.size, i.bytes)) = some (some (.int .i64 0), 1, 8) := by kernel_rfl
def idsOf (rows : List (List Bt)) : List Int := if trainOk rows then rows.flatten.map Bt.id else []
/-- The ints 'xs' in a row of the call's own, from block 'base' on. -/
def OwnInts (w : World) (base : Nat) (v : Value) (xs : List Int) : Prop := w.ownsRow base 3 1 v xs.length (xs.flatMap iCells)

/-- append of one int to a slice of the call's own. -/
theorem append_int {w : World} {ops : Array Oper} {rest : List Oper} {o : Oper} {a : Act} {Q : Exit → Act → World → Prop} (hgd : o.guard = none) (s x : Operand)
    (ho : o.op = .call { callee := .builtin .append, args := #[s, x], argTypes := #[31, 31] })
    (base : Nat) (v : Value) (done done' : List Int) (z : Int) (hd : done' = done ++ [z]) (hs : a.eval s = v) (hown : OwnInts w base v done)
    (B c : Nat) (hx : a.eval x = .slice (some ⟨B, 0, none⟩) 1 c) (hc : w.cell? ⟨B, 0, none⟩ = some (.int .i64 z)) (hle : done'.length ≤ 1048576) (hbase : base ≤ w.heap.size)
    (h : ∀ v' w', OwnInts w' base v' done' → w.grownBy w' v.ownBlock → (v'.ownBlock = v.ownBlock ∨ v'.ownBlock = some w.heap.size) → wpList Try.prog ops Q rest (a.put o.dst v') w') : wpList Try.prog ops Q (o :: rest) a w := by
  subst hd
  rw [List.length_append] at hle
  obtain ⟨i0, hi, hz0, hz1, hz2⟩ := info_parts info_int
  refine wpList_append_own_at w hgd s x _ ho base 3 i0 _ 1 8 Try.underlying31 hi hz0 hz1 hz2 rfl (by decide) v _ _ hs hown ⟨B, 0, none⟩ 1 c [.int .i64 z] hx rfl ?_ (by simp [Value.oneCell']) (by simp at hle; unfold maxLen; omega) (by simp at hle; omega) hbase ?_
  · intro j u hu
    match j, hu with
    | 0, hu => cases hu; rw [add_plain rfl]; exact hc
    | j + 1, hu => simp at hu
  · intro v' w' h1 h2 _ h4
    refine h v' w' ?_ h2 h4
    unfold OwnInts
    rw [List.length_append, List.flatMap_append]
    exact h1
theorem OwnInts.ext {w w' : World} {base : Nat} {v : Value} {xs : List Int} (h : OwnInts w base v xs) (hx : Ext w w') : OwnInts w' base v xs := ownsRow_ext h hx
theorem OwnInts.nil (w : World) (base : Nat) : OwnInts w base (.slice none 0 0) [] := World.ownsRow_nil _ _ _ _
/-- What is owned, read. -/
theorem OwnInts.read {w : World} {base : Nat} {v : Value} {xs : List Int} (h : OwnInts w base v xs) : ∃ (a : Option Addr) (c : Nat), v = .slice a xs.length c ∧ IntsAt w a xs ∧ ∀ ad, a = some ad → base ≤ ad.block ∧ ∃ cur, RowAt w ad.block 3 cur := by
  obtain ⟨a, c, e, hf, hn⟩ := ownsRow_flat iCells_len h
  refine ⟨a, c, e, fun k hk => ?_, hn⟩
  obtain ⟨b, off, ea, hc⟩ := hf k hk
  exact ⟨b, off, ea, by have := hc 0 _ rfl; simpa using this⟩
theorem OwnInts.wide {w : World} {base base' : Nat} {v : Value} {xs : List Int} (h : OwnInts w base v xs) (hb : base' ≤ base) : OwnInts w base' v xs := by
  refine ⟨h.1, ?_⟩
  rcases h.2 with h2 | ⟨g, cap, cur, h3, h4, h5⟩
  · exact .inl h2
  · exact .inr ⟨g, cap, cur, h3, Nat.le_trans hb h4, h5⟩
theorem ids_step {flat : List Bt} {k : Nat} (hk : k < flat.length) : (flat.take (k + 1)).map Bt.id = (flat.take k).map Bt.id ++ [flat[k].id] := by
  rw [List.take_succ_eq_append_getElem hk, List.map_append]
  rfl

set_option maxHeartbeats 4000000 in
theorem implIdsOf_any (u : Bool) (a : Option Addr) (n c : Nat) (rows : List (List Bt)) (w : World) (hn : n = rows.length) (hs : n ≤ 1048576) (ht : rows.flatten.length ≤ 1048576) (hf : RowsAt w a rows) :
    Calls Try.prog 60 #[.agg #[.bool u, .slice a n c]] w fun e w' => ∃ v, e = .returned v ∧ OwnInts w' w.heap.size v (idsOf rows) ∧ Ext w w' := by
  have HF := Lib.hid hf; clear hf
  have HS := Lib.hid hs
  have HSM := Lib.hid (show n ≤ maxLen by unfold maxLen; omega)
  have HT := Lib.hid ht
  obtain ⟨flat, hfl⟩ : ∃ flat, flat = rows.flatten := ⟨_, rfl⟩
  have HFLAT := Lib.hid hfl
  obtain ⟨m, hm⟩ : ∃ m, m = flat.length := ⟨_, rfl⟩
  have hm2 : m ≤ 1048576 := by rw [hm, hfl]; exact ht
  have HM := Lib.hid hm
  clear hm hfl ht
  cases hok : trainOk rows
  · have hR := Lib.hid (show idsOf rows = [] by rw [idsOf, hok]; rfl)
    have OK := Lib.hid hok; clear hok
    have HN := Lib.hid hn; clear hn
    go_enter Try.func60, Try.ntmps60
    go_wp2_with fail
    (with_reducible refine (OK.out ▸ implTrainOk_any _ _ _ _ rows _ HN.out HS.out HT.out (HF.out.ext (by (repeat' (first | (with_reducible exact Ext.refl _) | (with_reducible assumption) | (with_reducible refine Ext.alloc ?_ _) | (with_reducible refine Ext.drewN ?_ _) | (with_reducible refine Ext.drew ?_) | (with_reducible refine Ext.setCell ?_ ?_ _) | (with_reducible exact Nat.le_refl _) | (with_reducible exact Nat.le_succ _) | (with_reducible refine Ext.trans ?_ (by assumption)) | (simp; done) | (simp; omega)))))).mono ?_); rintro e w1 ⟨rfl, hb1⟩
    have x0_1 := hb1
    obtain ⟨hc0_1, hf0_1⟩ := bcell x0_1.below
    have z0_1_0 : w.heap.size < w1.heap.size := by have h := x0_1.size; simp at h; omega
    go_wp2
    go_ret
    exact ⟨_, rfl, by rw [hR.out]; exact OwnInts.nil _ _, by (repeat' (first | (with_reducible exact Ext.refl _) | (with_reducible assumption) | (with_reducible refine Ext.alloc ?_ _) | (with_reducible refine Ext.drewN ?_ _) | (with_reducible refine Ext.drew ?_) | (with_reducible refine Ext.setCell ?_ ?_ _) | (with_reducible exact Nat.le_refl _) | (with_reducible exact Nat.le_succ _) | (with_reducible refine Ext.trans ?_ (by assumption)) | (simp; done) | (simp; omega)))⟩
  · have hR := Lib.hid (show idsOf rows = (flat.take m).map Bt.id by rw [idsOf, hok, HM.out, List.take_length, HFLAT.out]; rfl)
    have OK := Lib.hid hok; clear hok
    have HN := Lib.hid hn; clear hn
    go_enter Try.func60, Try.ntmps60
    go_wp2_with fail
    (with_reducible refine (OK.out ▸ implTrainOk_any _ _ _ _ rows _ HN.out HS.out HT.out (HF.out.ext (by (repeat' (first | (with_reducible exact Ext.refl _) | (with_reducible assumption) | (with_reducible refine Ext.alloc ?_ _) | (with_reducible refine Ext.drewN ?_ _) | (with_reducible refine Ext.drew ?_) | (with_reducible refine Ext.setCell ?_ ?_ _) | (with_reducible exact Nat.le_refl _) | (with_reducible exact Nat.le_succ _) | (with_reducible refine Ext.trans ?_ (by assumption)) | (simp; done) | (simp; omega)))))).mono ?_); rintro e w1 ⟨rfl, hb1⟩
    have x0_1 := hb1
    obtain ⟨hc0_1, hf0_1⟩ := bcell x0_1.below
    have z0_1_0 : w.heap.size < w1.heap.size := by have h := x0_1.size; simp at h; omega
    go_wp2_with fail
    (with_reducible refine (implBoats_is _ _ _ _ rows _ HN.out HSM.out HT.out (HF.out.ext (by (repeat' (first | (with_reducible exact Ext.refl _) | (with_reducible assumption) | (with_reducible refine Ext.alloc ?_ _) | (with_reducible refine Ext.drewN ?_ _) | (with_reducible refine Ext.drew ?_) | (with_reducible refine Ext.setCell ?_ ?_ _) | (with_reducible exact Nat.le_refl _) | (with_reducible exact Nat.le_succ _) | (with_reducible refine Ext.trans ?_ (by assumption)) | (simp; done) | (simp; omega))))) HFLAT.out HM.out).mono ?_); rintro e w2 ⟨a9, c9, rfl, ⟨hflat, _⟩, hb2⟩
    have x1_2 := hb2
    have x0_2 : Ext _ w2 := x0_1.trans (Ext.trans (b := _) (by (repeat' (first | (with_reducible exact Ext.refl _) | (with_reducible assumption) | (with_reducible refine Ext.alloc ?_ _) | (with_reducible refine Ext.drewN ?_ _) | (with_reducible refine Ext.drew ?_) | (with_reducible refine Ext.setCell ?_ ?_ _) | (with_reducible exact Nat.le_refl _) | (with_reducible exact Nat.le_succ _) | (with_reducible refine Ext.trans ?_ (by assumption)) | (simp; done) | (simp; omega)))) hb2)
    obtain ⟨hc0_2, hf0_2⟩ := bcell x0_2.below
    have z0_2_0 : w.heap.size < w2.heap.size := by have h := x0_2.size; simp at h; omega
    have HB := Lib.hid ((Ext.trans ((Ext.refl w).alloc _) hb1).trans hb2)
    have HFL := Lib.hid hflat; clear hflat
    go_wp2
    go_loopw [3, 12] (fun v i wr => ∃ (q : Nat) (ids : List Int), q ≤ m ∧ i = .int .i64 q ∧ Ext w2 wr ∧ Ext w wr ∧ Hid (ids = (flat.take q).map Bt.id) ∧ Hid (OwnInts wr w2.heap.size v ids)) (fun _ i _ => m - (intOf i).toNat)
    case atStart => exact ⟨0, [], Nat.zero_le _, rfl, Ext.refl _, HB.out, rfl, OwnInts.nil _ _⟩
    case round =>
      obtain ⟨q, ids, hq, rfl, hr, hrw, hids, hown⟩ := hrel
      by_cases hlt : q < m
      · have hlt2 : q < flat.length := by rw [← HM.out]; exact hlt
        obtain ⟨b2, off2, rfl, hcell⟩ := HFL.out.get q hlt2
        have hd := ids_step hlt2
        obtain ⟨bt, hbt⟩ : ∃ bt, flat[q] = bt := ⟨_, rfl⟩
        rw [hbt] at hcell hd
        clear hbt
        obtain ⟨bi, bl, bw, bd, bs, bc⟩ := bt
        obtain ⟨ids', hids'⟩ : ∃ x, x = (flat.take (q + 1)).map Bt.id := ⟨_, rfl⟩
        have HD := Lib.hid (show ids' = ids ++ [bi] by rw [hids', hd, hids.out])
        have HLE := Lib.hid (show ids'.length ≤ 1048576 by rw [hids', List.length_map, List.length_take]; omega)
        have HIDS := Lib.hid hids'
        clear hids' hd hids
        have g0 : wr.cell? ⟨b2, off2 + q * 6, none⟩ = some (.int .i64 bi) := hcell 0 _ rfl _ hr
        have g1 : wr.cell? ⟨b2, off2 + q * 6 + 1, none⟩ = some (.int .i64 bl) := hcell 1 _ rfl _ hr
        have g2 : wr.cell? ⟨b2, off2 + q * 6 + 2, none⟩ = some (.int .i64 bw) := hcell 2 _ rfl _ hr
        have g3 : wr.cell? ⟨b2, off2 + q * 6 + 3, none⟩ = some (.int .i64 bd) := hcell 3 _ rfl _ hr
        have g4 : wr.cell? ⟨b2, off2 + q * 6 + 4, none⟩ = some (.int .i64 bs) := hcell 4 _ rfl _ hr
        have g5 : wr.cell? ⟨b2, off2 + q * 6 + 5, none⟩ = some (.int .i64 bc) := hcell 5 _ rfl _ hr
        clear hcell
        have hsz := hr.size
        go_wp2_with (at_builtin; refine append_int rfl _ _ rfl w2.heap.size _ ids ids' bi HD.out rfl (hown.out.ext (((Ext.refl wr).alloc _).alloc _)) (wr.heap.size + 1) 1 rfl ?c1 HLE.out ?c2 ?_)
        case c1 =>
          have := RowAt.new (wr.alloc (Obj.cells #[Value.int IntKind.i64 bi, Value.int IntKind.i64 bl, Value.int IntKind.i64 bw, Value.int IntKind.i64 bd, Value.int IntKind.i64 bs, Value.int IntKind.i64 bc] 76)) 3 #[.int .i64 bi]
          rw [World.size_alloc] at this
          exact this.cell rfl
        case c2 => simp; omega
        intro v' w5 hown5 hgrow5 _
        have hv := World.ownsRow.lt hown.out
        have hx5 : Ext w2 w5 := Ext.own (hr.trans (((Ext.refl wr).alloc _).alloc _)) hgrow5 (fun k hk => (hv k hk).1)
        have HX5 := Lib.hid hx5
        have HO5 := Lib.hid hown5; clear hown5
        have hw5 : Ext w w5 := HB.out.trans hx5
        clear hgrow5 hv
        go_wp2
        go_roundw
        case rel => exact ⟨q + 1, ids', by omega, by go_num, HX5.out, hw5, HIDS.out, HO5.out⟩
        case measure => simp [intOf]; omega
      · have hqm : q = m := by omega
        have HR2 := Lib.hid (show idsOf rows = ids by rw [hR.out, hids.out, hqm])
        have hbs := HB.out.size
        clear hids
        go_wp2
        go_ret
        exact ⟨_, rfl, by rw [HR2.out]; exact hown.out.wide hbs, hrw⟩

theorem FlatAt.grown {α : Type} {w w' : World} {enc : α → List Value} {sz : Nat} {a : Option Addr} {xs : List α} {B : Nat} (h : FlatAt w enc sz a xs) (hg : w.grownBy w' (some B)) (hb : ∀ ad, a = some ad → ad.block ≠ B) : FlatAt w' enc sz a xs :=
  fun k hk => let ⟨b, off, e, hc⟩ := h k hk; ⟨b, off, e, fun j v hv => by
    have h1 := hc j v hv
    have hlt := World.block_lt_of_cell? w _ h1
    have := hg.block b hlt (fun e' => hb _ e (Option.some.inj e'))
    rw [World.cell?_of_block this]
    exact h1⟩
/-- The row of the call's own that began at block B grows; all else that was there at w1 stands. -/
theorem grown_step {w1 wr wx w5 : World} {B : Nat} {o : Option Nat} (h : w1.grownBy wr (some B)) (hx : Ext wr wx) (hg : wx.grownBy w5 o) (ho : ∀ k, o = some k → k = B ∨ w1.heap.size ≤ k) : w1.grownBy w5 (some B) := by
  refine ⟨hg.os.trans (hx.below.os.trans h.os), hg.tape.trans (hx.below.tape.trans h.tape), hg.output.trans (hx.below.output.trans h.output), Nat.le_trans h.size (Nat.le_trans hx.size hg.size), fun k hk hne => ?_⟩
  have e1 := h.block k hk hne
  have e2 := hx.below.block k (Nat.lt_of_lt_of_le hk h.size)
  have e3 := hg.block k (Nat.lt_of_lt_of_le hk (Nat.le_trans h.size hx.size)) (fun e => by
    rcases ho k e.symm with rfl | h2
    · exact hne rfl
    · omega)
  exact e3.trans (e2.trans e1)

set_option maxHeartbeats 4000000 in
theorem specIdsOf_any (u : Bool) (a : Option Addr) (n c : Nat) (rows : List (List Bt)) (w : World) (hn : n = rows.length) (hs : n ≤ 1048576) (ht : rows.flatten.length ≤ 1048576) (hf : RowsAt w a rows) :
    Calls Try.prog 69 #[.agg #[.bool u, .slice a n c]] w fun e w' => ∃ v, e = .returned v ∧ OwnInts w' w.heap.size v (idsOf rows) ∧ Ext w w' := by
  have HF := Lib.hid hf; clear hf
  have HS := Lib.hid hs
  have HSM := Lib.hid (show n ≤ maxLen by unfold maxLen; omega)
  have HT := Lib.hid ht
  obtain ⟨flat, hfl⟩ : ∃ flat, flat = rows.flatten := ⟨_, rfl⟩
  have HFLAT := Lib.hid hfl
  obtain ⟨m, hm⟩ : ∃ m, m = flat.length := ⟨_, rfl⟩
  have hm2 : m ≤ 1048576 := by rw [hm, hfl]; exact ht
  have HM := Lib.hid hm
  clear hm hfl ht
  have hlit := World.ownsRow_lit (base := w.heap.size + 1) (e := 3) (size := 1) (w.alloc (Obj.cells #[Value.bool u, Value.slice a n c] 47)) #[] 0 (by simp) (by unfold maxLen; omega) rfl
  rw [World.size_alloc] at hlit
  have HLIT : Hid (OwnInts ((w.alloc (Obj.cells #[Value.bool u, Value.slice a n c] 47)).alloc (Obj.cells #[] 3)) (w.heap.size + 1) (.slice (some ⟨w.heap.size + 1, 0, none⟩) 0 0) []) := hlit
  clear hlit
  cases hok : trainOk rows
  · have hR := Lib.hid (show idsOf rows = [] by rw [idsOf, hok]; rfl)
    have OK := Lib.hid hok; clear hok
    have HN := Lib.hid hn; clear hn
    go_enter Try.func69, Try.ntmps69
    go_wp2_with fail
    (with_reducible refine (specBoats_is _ _ _ _ rows _ HN.out HSM.out HT.out (HF.out.ext (by (repeat' (first | (with_reducible exact Ext.refl _) | (with_reducible assumption) | (with_reducible refine Ext.alloc ?_ _) | (with_reducible refine Ext.drewN ?_ _) | (with_reducible refine Ext.drew ?_) | (with_reducible refine Ext.setCell ?_ ?_ _) | (with_reducible exact Nat.le_refl _) | (with_reducible exact Nat.le_succ _) | (with_reducible refine Ext.trans ?_ (by assumption)) | (simp; done) | (simp; omega))))) HFLAT.out HM.out).mono ?_); rintro e w1 ⟨a9, c9, rfl, _, hb1⟩
    have x0_1 := hb1
    obtain ⟨hc0_1, hf0_1⟩ := bcell x0_1.below
    have z0_1_0 : w.heap.size < w1.heap.size := by have h := x0_1.size; simp at h; omega
    have z0_1_1 : w.heap.size + 1 < w1.heap.size := by have h := x0_1.size; simp at h; omega
    have hrow1 := (RowAt.new w 47 #[.bool u, .slice a n c]).ext (Ext.trans ((Ext.refl _).alloc _) x0_1)
    have HB := Lib.hid (Ext.trans (((Ext.refl w).alloc _).alloc _) hb1)
    have HROW := Lib.hid hrow1; clear hrow1
    have HO := Lib.hid (HLIT.out.ext x0_1)
    go_wp2
    go_loopw [3, 5] (fun v i wr => v = .slice (some ⟨w.heap.size + 1, 0, none⟩) 0 0 ∧ i = .int .i64 0 ∧ Ext w wr ∧ RowAt wr w.heap.size 47 #[.bool u, .slice a n c] ∧ Hid (OwnInts wr (w.heap.size + 1) (.slice (some ⟨w.heap.size + 1, 0, none⟩) 0 0) [])) (fun _ i _ => n - (intOf i).toNat)
    case atStart => exact ⟨rfl, rfl, HB.out, HROW.out, HO⟩
    case round =>
      obtain ⟨rfl, rfl, hr, hrow, hown⟩ := hrel
      have g0 : wr.cell? ⟨w.heap.size, 0, none⟩ = some (.bool u) := hrow.cell rfl
      have g1 : wr.cell? ⟨w.heap.size, 1, none⟩ = some (.slice a n c) := hrow.cell rfl
      by_cases h0 : m = 0
      · subst h0
        go_wp2
        go_ret
        exact ⟨_, rfl, by rw [hR.out]; exact hown.out.wide (Nat.le_succ _), by (repeat' (first | (with_reducible exact Ext.refl _) | (with_reducible assumption) | (with_reducible refine Ext.alloc ?_ _) | (with_reducible refine Ext.drewN ?_ _) | (with_reducible refine Ext.drew ?_) | (with_reducible refine Ext.setCell ?_ ?_ _) | (with_reducible exact Nat.le_refl _) | (with_reducible exact Nat.le_succ _) | (with_reducible refine Ext.trans ?_ (by assumption)) | (simp; done) | (simp; omega)))⟩
      · have hpos : 0 < m := by omega
        go_wp2_with (go_at_call 61; refine (OK.out ▸ specTrainOk_any _ _ _ _ rows _ HN.out HS.out HT.out (HF.out.ext hr)).mono ?_; rintro e w9 ⟨rfl, hb9⟩)
        go_ret
        exact ⟨_, rfl, by rw [hR.out]; exact (hown.out.ext hb9).wide (Nat.le_succ _), by (repeat' (first | (with_reducible exact Ext.refl _) | (with_reducible assumption) | (with_reducible refine Ext.alloc ?_ _) | (with_reducible refine Ext.drewN ?_ _) | (with_reducible refine Ext.drew ?_) | (with_reducible refine Ext.setCell ?_ ?_ _) | (with_reducible exact Nat.le_refl _) | (with_reducible exact Nat.le_succ _) | (with_reducible refine Ext.trans ?_ (by assumption)) | (simp; done) | (simp; omega)))⟩
  · have hR := Lib.hid (show idsOf rows = (flat.take m).map Bt.id by rw [idsOf, hok, HM.out, List.take_length, HFLAT.out]; rfl)
    have OK := Lib.hid hok; clear hok
    have HN := Lib.hid hn; clear hn
    go_enter Try.func69, Try.ntmps69
    go_wp2_with fail
    (with_reducible refine (specBoats_is _ _ _ _ rows _ HN.out HSM.out HT.out (HF.out.ext (by (repeat' (first | (with_reducible exact Ext.refl _) | (with_reducible assumption) | (with_reducible refine Ext.alloc ?_ _) | (with_reducible refine Ext.drewN ?_ _) | (with_reducible refine Ext.drew ?_) | (with_reducible refine Ext.setCell ?_ ?_ _) | (with_reducible exact Nat.le_refl _) | (with_reducible exact Nat.le_succ _) | (with_reducible refine Ext.trans ?_ (by assumption)) | (simp; done) | (simp; omega))))) HFLAT.out HM.out).mono ?_); rintro e w1 ⟨a9, c9, rfl, ⟨hflat, hnew⟩, hb1⟩
    have x0_1 := hb1
    obtain ⟨hc0_1, hf0_1⟩ := bcell x0_1.below
    have z0_1_0 : w.heap.size < w1.heap.size := by have h := x0_1.size; simp at h; omega
    have z0_1_1 : w.heap.size + 1 < w1.heap.size := by have h := x0_1.size; simp at h; omega
    simp only [World.size_alloc] at hnew
    have hrow1 := (RowAt.new w 47 #[.bool u, .slice a n c]).ext (Ext.trans ((Ext.refl _).alloc _) x0_1)
    have HB := Lib.hid (Ext.trans (((Ext.refl w).alloc _).alloc _) hb1)
    have HROW := Lib.hid hrow1; clear hrow1
    have HO := Lib.hid (HLIT.out.ext x0_1)
    have HFL := Lib.hid hflat; clear hflat
    have HNEW := Lib.hid hnew; clear hnew
    go_wp2
    go_loopw [3, 5] (fun v i wr => ∃ (q : Nat) (ids : List Int), q ≤ m ∧ i = .int .i64 q ∧ Ext w wr ∧ RowAt wr w.heap.size 47 #[.bool u, .slice a n c] ∧ Hid (w1.grownBy wr (some (w.heap.size + 1))) ∧ Hid (ids = (flat.take q).map Bt.id) ∧ Hid (OwnInts wr (w.heap.size + 1) v ids) ∧ Hid (∀ k, v.ownBlock = some k → k = w.heap.size + 1 ∨ w1.heap.size ≤ k)) (fun _ i _ => m - (intOf i).toNat)
    case atStart => exact ⟨0, [], Nat.zero_le _, rfl, HB.out, HROW.out, ⟨rfl, rfl, rfl, Nat.le_refl _, fun _ _ _ => rfl⟩, rfl, HO, fun k hk => by cases hk; exact .inl rfl⟩
    case round =>
      obtain ⟨q, ids, hq, rfl, hrw, hrow, hgrow, hids, hown, hblk⟩ := hrel
      by_cases hlt : q < m
      · have hlt2 : q < flat.length := by rw [← HM.out]; exact hlt
        have hfr := HFL.out.grown hgrow.out (fun ad e => by have := HNEW.out ad e; omega)
        obtain ⟨b2, off2, rfl, hcell⟩ := hfr.get q hlt2
        have hd := ids_step hlt2
        obtain ⟨bt, hbt⟩ : ∃ bt, flat[q] = bt := ⟨_, rfl⟩
        rw [hbt] at hcell hd
        clear hbt hfr
        obtain ⟨bi, bl, bw, bd, bs, bc⟩ := bt
        obtain ⟨ids', hids'⟩ : ∃ x, x = (flat.take (q + 1)).map Bt.id := ⟨_, rfl⟩
        have HD := Lib.hid (show ids' = ids ++ [bi] by rw [hids', hd, hids.out])
        have HLE := Lib.hid (show ids'.length ≤ 1048576 by rw [hids', List.length_map, List.length_take]; omega)
        have HIDS := Lib.hid hids'
        clear hids' hd hids
        have HC := Lib.hid (hcell 0 _ rfl)
        clear hcell
        have t0 : wr.cell? ⟨w.heap.size, 0, none⟩ = some (.bool u) := hrow.cell rfl
        have t1 : wr.cell? ⟨w.heap.size, 1, none⟩ = some (.slice a n c) := hrow.cell rfl
        have hlt0 := hrow.lt
        have hsz1 := HROW.out.lt
        have hsz2 := hgrow.out.size
        go_wp2_with fail
        refine (OK.out ▸ specTrainOk_any _ _ _ _ rows _ HN.out HS.out HT.out (HF.out.ext hrw)).mono ?_
        rintro e w9 ⟨rfl, hb9⟩
        have g0 : w9.cell? ⟨b2, off2 + q * 6, none⟩ = some (.int .i64 bi) := HC.out _ hb9
        clear t0 t1
        have HB9 := Lib.hid hb9
        have hsz9 := hb9.size
        go_wp2_with (at_builtin; refine append_int rfl _ _ rfl (w.heap.size + 1) _ ids ids' bi HD.out rfl (hown.out.ext (HB9.out.trans ((Ext.refl w9).alloc _))) w9.heap.size 1 rfl ((RowAt.new _ _ _).cell rfl) HLE.out ?c2 ?_)
        case c2 => simp; omega
        intro v' w5 hown5 hgrow5 hat
        have hv := World.ownsRow.lt hown.out
        have hx5 : Ext w w5 := Ext.own (hrw.trans (HB9.out.trans ((Ext.refl w9).alloc _))) hgrow5 (fun k hk => by have := (hv k hk).1; omega)
        have hr5 := ((hrow.ext hb9).ext ((Ext.refl w9).alloc _)).own hgrow5 (fun k hk => by have := (hv k hk).1; omega)
        have HG5 := Lib.hid (grown_step hgrow.out (HB9.out.trans ((Ext.refl w9).alloc _)) hgrow5 hblk.out)
        have HBK : Hid (∀ k, v'.ownBlock = some k → k = w.heap.size + 1 ∨ w1.heap.size ≤ k) := fun k hk => by
          rcases hat with e | e
          · exact hblk.out k (by rw [← e]; exact hk)
          · rw [e] at hk
            cases hk
            right
            first | omega | (simp; omega)
        have HO5 := Lib.hid hown5; clear hown5
        have HR5 := Lib.hid hr5; clear hr5
        clear hgrow5 hv hat
        go_wp2
        go_roundw
        case rel => exact ⟨q + 1, ids', by omega, by go_num, hx5, HR5.out, HG5, HIDS.out, HO5.out, HBK⟩
        case measure => simp [intOf]; omega
      · have hqm : q = m := by omega
        have HR2 := Lib.hid (show idsOf rows = ids by rw [hR.out, hids.out, hqm])
        clear hids
        go_wp2
        go_ret
        exact ⟨_, rfl, by rw [HR2.out]; exact hown.out.wide (Nat.le_succ _), hrw⟩
end Go.Proofs.Ytmppoflgbmabpaa
/- Marks: what the law's helpers that number and read back memory do, for ints and for rows of boats. -/
namespace Go.Proofs.Ytmppoflgbmabpaa
open Go.RowKit
set_option linter.unusedSimpArgs false
set_option linter.unusedVariables false

/-- From w to w' only blocks from lo to hi have changed, and new ones have come. -/
structure Chg (lo hi : Nat) (w w' : World) : Prop where
  os : w'.os = w.os
  tape : w'.tape = w.tape
  output : w'.output = w.output
  size : w.heap.size ≤ w'.heap.size
  block : ∀ k, k < w.heap.size → (k < lo ∨ hi ≤ k) → w'.heap[k]? = w.heap[k]?
theorem Chg.refl (lo hi : Nat) (w : World) : Chg lo hi w w := ⟨rfl, rfl, rfl, Nat.le_refl _, fun _ _ _ => rfl⟩
theorem Chg.trans {lo hi : Nat} {a b c : World} (h : Chg lo hi a b) (k : Chg lo hi b c) : Chg lo hi a c :=
  ⟨k.os.trans h.os, k.tape.trans h.tape, k.output.trans h.output, Nat.le_trans h.size k.size, fun i hi ho => (k.block i (Nat.lt_of_lt_of_le hi h.size) ho).trans (h.block i hi ho)⟩
theorem Chg.of_ext {lo hi : Nat} {w w' : World} (h : Ext w w') : Chg lo hi w w' := ⟨h.below.os, h.below.tape, h.below.output, h.size, fun k hk _ => h.below.block k hk⟩
theorem Chg.wide {lo hi lo' hi' : Nat} {w w' : World} (h : Chg lo hi w w') (hl : lo' ≤ lo) (hh : hi ≤ hi') : Chg lo' hi' w w' := ⟨h.os, h.tape, h.output, h.size, fun k hk ho => h.block k hk (by omega)⟩
theorem Chg.ext {lo hi : Nat} {w w1 w2 : World} (h : Chg lo hi w1 w2) (hx : Ext w w1) (hl : w.heap.size ≤ lo) : Ext w w2 :=
  ⟨h.os.trans hx.below.os, h.tape.trans hx.below.tape, h.output.trans hx.below.output, Nat.le_trans hx.size h.size, fun k hk => (h.block k (Nat.lt_of_lt_of_le hk hx.size) (.inl (Nat.lt_of_lt_of_le hk hl))).trans (hx.below.block k hk)⟩
theorem Chg.set {lo hi : Nat} {w w' : World} (h : Chg lo hi w w') {p : Addr} (hl : lo ≤ p.block) (hh : p.block < hi) (v : Value) : Chg lo hi w (w'.setCell p v) :=
  ⟨h.os, h.tape, h.output, by rw [size_setCell']; exact h.size, fun k hk ho => (Below.heap_setCell w' p v k (fun e => by omega)).trans (h.block k hk ho)⟩
theorem RowAt.chg {lo hi : Nat} {w w' : World} {B : Nat} {t : TypeId} {c : Array Value} (h : RowAt w B t c) (hc : Chg lo hi w w') (ho : B < lo ∨ hi ≤ B) : RowAt w' B t c := (hc.block B h.lt ho).trans h
theorem OwnRows.chg {lo hi lo2 hi2 : Nat} {w w' : World} {a : Option Addr} {rows : List (List Bt)} (h : OwnRows w lo hi a rows) (hc : Chg lo2 hi2 w w') (ho : hi ≤ lo2 ∨ hi2 ≤ lo) : OwnRows w' lo hi a rows :=
  h.keep (Nat.le_refl _) (Nat.le_refl _) (fun B t c h1 h2 hr => hr.chg hc (by omega))

/-! ### Ints in a block of their own -/
def IntOwn (w : World) (lo hi : Nat) (v : Value) (xs : List Int) : Prop :=
  ∃ a c, v = .slice a xs.length c ∧ (xs = [] ∨ ∃ B off cur, a = some ⟨B, off, none⟩ ∧ lo ≤ B ∧ B < hi ∧ RowAt w B 3 cur ∧ ∀ k (h : k < xs.length), cur[off + k]? = some (.int .i64 xs[k]))
theorem RowAt.cell_inv {w : World} {B : Nat} {t : TypeId} {c : Array Value} (h : RowAt w B t c) {j : Nat} {v : Value} (hv : w.cell? ⟨B, j, none⟩ = some v) : c[j]? = some v := by
  unfold RowAt at h
  simpa [World.cell?, h] using hv
theorem OwnInts.own {w : World} {base : Nat} {v : Value} {xs : List Int} (h : OwnInts w base v xs) : IntOwn w base w.heap.size v xs := by
  obtain ⟨a, c, rfl, hi, hn⟩ := h.read
  refine ⟨a, c, rfl, ?_⟩
  cases xs with
  | nil => exact .inl rfl
  | cons x xs =>
    obtain ⟨b, off, rfl, hc⟩ := hi 0 (by simp)
    obtain ⟨hb, cur, hr⟩ := hn _ rfl
    refine .inr ⟨b, off, cur, rfl, hb, hr.lt, hr, fun k hk => ?_⟩
    obtain ⟨b', off', e, hc'⟩ := hi k hk
    cases e
    exact hr.cell_inv hc'
theorem IntOwn.chg {lo hi lo2 hi2 : Nat} {w w' : World} {v : Value} {xs : List Int} (h : IntOwn w lo hi v xs) (hc : Chg lo2 hi2 w w') (ho : hi ≤ lo2 ∨ hi2 ≤ lo) : IntOwn w' lo hi v xs := by
  obtain ⟨a, c, e, hr⟩ := h
  exact ⟨a, c, e, hr.imp id fun ⟨B, off, cur, e1, h1, h2, h3, h4⟩ => ⟨B, off, cur, e1, h1, h2, h3.chg hc (by omega), h4⟩⟩
theorem IntOwn.ext {lo hi : Nat} {w w' : World} {v : Value} {xs : List Int} (h : IntOwn w lo hi v xs) (hx : Ext w w') : IntOwn w' lo hi v xs := by
  obtain ⟨a, c, e, hr⟩ := h
  exact ⟨a, c, e, hr.imp id fun ⟨B, off, cur, e1, h1, h2, h3, h4⟩ => ⟨B, off, cur, e1, h1, h2, h3.ext hx, h4⟩⟩
theorem IntOwn.ints {lo hi : Nat} {w : World} {v : Value} {xs : List Int} (h : IntOwn w lo hi v xs) : ∃ a c, v = .slice a xs.length c ∧ IntsAt w a xs := by
  obtain ⟨a, c, e, hr⟩ := h
  refine ⟨a, c, e, fun k hk => ?_⟩
  rcases hr with rfl | ⟨B, off, cur, rfl, _, _, h3, h4⟩
  · exact absurd hk (Nat.not_lt_zero _)
  · exact ⟨B, off, rfl, h3.cell (h4 k hk)⟩
theorem IntOwn.at {lo hi n : Nat} {w : World} {a : Option Addr} {c : Nat} {xs : List Int} (h : IntOwn w lo hi (.slice a n c) xs) : IntsAt w a xs := by
  obtain ⟨a', c', e, hi⟩ := h.ints
  injection e with ea _ _
  rw [ea]
  exact hi
theorem implIdsOf_is (ids : List Int) (m : Nat) (u : Bool) (a : Option Addr) (n c : Nat) (rows : List (List Bt)) (w : World) (hn : n = rows.length) (hs : n ≤ 1048576) (ht : rows.flatten.length ≤ 1048576) (hf : RowsAt w a rows) (hi : idsOf rows = ids) (hm : m = ids.length) :
    Calls Try.prog 60 #[.agg #[.bool u, .slice a n c]] w fun e w' => ∃ a' c', e = .returned (.slice a' m c') ∧ IntOwn w' w.heap.size w'.heap.size (.slice a' m c') ids ∧ Ext w w' :=
  (implIdsOf_any u a n c rows w hn hs ht hf).mono fun e w' ⟨v, he, ho, hx⟩ => by
    subst hi hm
    have h := ho.own
    obtain ⟨a', c', rfl, hr⟩ := id h
    exact ⟨a', c', he, h, hx⟩
theorem specIdsOf_is (ids : List Int) (m : Nat) (u : Bool) (a : Option Addr) (n c : Nat) (rows : List (List Bt)) (w : World) (hn : n = rows.length) (hs : n ≤ 1048576) (ht : rows.flatten.length ≤ 1048576) (hf : RowsAt w a rows) (hi : idsOf rows = ids) (hm : m = ids.length) :
    Calls Try.prog 69 #[.agg #[.bool u, .slice a n c]] w fun e w' => ∃ a' c', e = .returned (.slice a' m c') ∧ IntOwn w' w.heap.size w'.heap.size (.slice a' m c') ids ∧ Ext w w' :=
  (specIdsOf_any u a n c rows w hn hs ht hf).mono fun e w' ⟨v, he, ho, hx⟩ => by
    subst hi hm
    have h := ho.own
    obtain ⟨a', c', rfl, hr⟩ := id h
    exact ⟨a', c', he, h, hx⟩
def nums (k : Int) (n : Nat) : List Int := (List.range n).map (fun (j : Nat) => k + (j : Int))
theorem nums_len (k : Int) (n : Nat) : (nums k n).length = n := by simp [nums]
theorem nums_get (k : Int) (n j : Nat) (h : j < (nums k n).length) : (nums k n)[j] = k + (j : Int) := by simp [nums]

theorem IntOwn.at_nums {lo hi n : Nat} {w : World} {a : Option Addr} {c : Nat} {k : Int} (h : IntOwn w lo hi (.slice a n c) (nums k n)) : IntsAt w a (nums k n) := h.at

def numBoat (k : Int) : Bt := ⟨k, k + 1, k + 2, k + 3, k + 4, k + 5⟩
def numRow (k : Int) (n : Nat) : List Bt := (List.range n).map (fun (j : Nat) => numBoat (k + 6 * (j : Int)))
theorem numRow_len (k : Int) (n : Nat) : (numRow k n).length = n := by simp [numRow]
theorem numRow_get (k : Int) (n j : Nat) (h : j < (numRow k n).length) : (numRow k n)[j] = numBoat (k + 6 * (j : Int)) := by simp [numRow]
def numRows (k : Int) : List (List Bt) → List (List Bt)
  | [] => []
  | r :: rs => numRow k r.length :: numRows (k + 6 * (r.length : Int)) rs
theorem numRows_len : ∀ (rows : List (List Bt)) (k : Int), (numRows k rows).length = rows.length
  | [], _ => rfl
  | r :: rs, k => by simp [numRows, numRows_len rs]
theorem numRows_get : ∀ (rows : List (List Bt)) (k : Int) (j : Nat) (h : j < (numRows k rows).length) (h' : j < rows.length), (numRows k rows)[j] = numRow (k + 6 * (total (rows.take j) : Int)) rows[j].length
  | [], _, j, h, h' => absurd h' (Nat.not_lt_zero _)
  | r :: rs, k, 0, h, h' => by simp [numRows, total]
  | r :: rs, k, j + 1, h, h' => by
    simp only [numRows, List.getElem_cons_succ, List.take_succ_cons]
    rw [numRows_get rs _ j (by simpa [numRows] using h) (by simpa using h')]
    congr 1
    simp only [total, List.map_cons, List.sum_cons]
    omega
theorem total_step (rows : List (List Bt)) (j : Nat) (h : j < rows.length) : total (rows.take (j + 1)) = total (rows.take j) + rows[j].length := by
  rw [List.take_succ_eq_append_getElem h]
  unfold total
  rw [List.map_append, List.sum_append]
  simp only [List.map_cons, List.map_nil, List.sum_cons, List.sum_nil, Nat.add_zero]
theorem total_take_le (rows : List (List Bt)) (j : Nat) : total (rows.take j) ≤ total rows := by
  have h := congrArg total (List.take_append_drop j rows)
  simp only [total, List.map_append, List.sum_append] at *
  omega

/-- Where the change of a row of n boats in block B ends. -/
def chgTo (n B : Nat) : Nat := if n = 0 then B else B + 1
theorem chgTo_zero {n B : Nat} (h : n = 0) : chgTo n B = B := if_pos h
theorem chgTo_pos {n B : Nat} (h : ¬ n = 0) : chgTo n B = B + 1 := if_neg h

def Boxes (w : World) (l : List (Nat × TypeId × Array Value)) : Prop := ∀ p ∈ l, RowAt w p.1 p.2.1 p.2.2
theorem Boxes.ext {w w' : World} {l : List (Nat × TypeId × Array Value)} (h : Boxes w l) (hx : Ext w w') : Boxes w' l := fun p hp => (h p hp).ext hx
theorem Boxes.chg {w w' : World} {lo hi : Nat} {l : List (Nat × TypeId × Array Value)} (h : Boxes w l) (hc : Chg lo hi w w') (ho : ∀ p ∈ l, p.1 < lo ∨ hi ≤ p.1) : Boxes w' l := fun p hp => (h p hp).chg hc (ho p hp)
theorem Boxes.nil (w : World) : Boxes w [] := fun _ h => by cases h
theorem Boxes.cons {w : World} {b : Nat} {t : TypeId} {c : Array Value} {l : List (Nat × TypeId × Array Value)} (h : RowAt w b t c) (k : Boxes w l) : Boxes w ((b, t, c) :: l) := fun p hp => by
  rcases List.mem_cons.1 hp with rfl | hp
  · exact h
  · exact k p hp
end Go.Proofs.Ytmppoflgbmabpaa
/- How trains that come as arguments read: opened to cells. -/
namespace Go.Proofs.Ytmppoflgbmabpaa
open Go.RowKit Go.WideShapes Go.ChangeShapes Go.Deep Go.Joins
set_option maxRecDepth 100000
section
variable {H : Type} {enc : TypeId × Value → H} {P : Program} {w : World} {base : Nat} {spare : Nat → Bool} {held : Bool}
/-- A slice, opened at every element, each read as 'Good' says. -/
theorem open_slice_good {α : Type} [Inhabited α] {t e : TypeId} {sz fuel : Nat} {cs : List Value} {x : DataW H × List MemPlace} (ht : P.underlying t = some (.slice e)) (hC : P.cellsOf e = sz) (h0 : 0 < sz) (Good : List Value → α → Prop)
    (hel : ∀ n cs y, cs.length = sz → DataW.trod enc P w base spare held n e cs = some y → ∃ x, Good cs x) (h : DataW.trod enc P w base spare held fuel t cs = some x) :
    ∃ (a : Option Addr) (len cap : Nat) (xs : List α), cs = [.slice a len cap] ∧ len = xs.length ∧ (len ≤ maxLen ∧ (a = none → cap = 0)) ∧
      ∀ k (h : k < xs.length), ∃ b off cs', a = some ⟨b, off, none⟩ ∧ cs'.length = sz ∧ (∀ j, j < sz → w.cell? ⟨b, off + k * sz + j, none⟩ = cs'[j]?) ∧ Good cs' xs[k] := by
  rcases open_slice ht h with ⟨rfl, _⟩ | ⟨a, len, cap, m, n, D, Pl, rfl, _, hl, hm, hmm, _, hi⟩
  · exact ⟨none, 0, 0, [], rfl, rfl, ⟨Nat.zero_le _, fun _ => rfl⟩, fun k hk => absurd hk (Nat.not_lt_zero _)⟩
  · have hlm : len ≤ m := by rw [hmm]; split <;> omega
    have key : ∀ i, i < len → ∃ x : α, ∃ cs', cs'.length = sz ∧ (∀ j, j < sz → w.cell? ((a.add (i * sz)).add j) = cs'[j]?) ∧ Good cs' x := fun i hil => by
      obtain ⟨cs', hc, htr⟩ := hi i (by omega)
      rw [hC] at hc
      obtain ⟨_, hcl, hat⟩ := World.cells?_some hc
      obtain ⟨x, hx⟩ := hel n cs' _ hcl htr
      exact ⟨x, cs', hcl, hat, hx⟩
    obtain ⟨Z, hZ⟩ := choose_lt (α := α) (p := fun i x => ∃ cs', cs'.length = sz ∧ (∀ j, j < sz → w.cell? ((a.add (i * sz)).add j) = cs'[j]?) ∧ Good cs' x) key
    refine ⟨some a, len, cap, (List.range len).map Z, rfl, by simp, ⟨by omega, fun h => by cases h⟩, fun k hk => ?_⟩
    have hk' : k < len := by simpa using hk
    obtain ⟨cs', hcl, hat, hg⟩ := hZ k hk'
    have hs : a.spot = none := by
      obtain ⟨cs0, hl0, hat0, _⟩ := hZ 0 (by omega)
      have h1 := hat0 0 h0
      rw [List.getElem?_eq_getElem (by omega)] at h1
      have := spot_of_cell h1
      simpa [Addr.add] using this
    refine ⟨a.block, a.off, cs', by rw [← hs], hcl, fun j hj => ?_, by simpa using hg⟩
    have := hat j hj
    rw [Go.Deep.add_add, add_plain hs] at this
    rw [Nat.add_assoc]
    exact this
end
instance : Inhabited Bt := ⟨⟨0, 0, 0, 0, 0, 0⟩⟩
section
variable {H : Type} {enc : TypeId × Value → H} {w : World} {base : Nat} {spare : Nat → Bool} {held : Bool}
theorem total_flatten (rows : List (List Bt)) : total rows = rows.flatten.length := by rw [List.length_flatten]; rfl
theorem szRows_bounds {L : Int} {rows : List (List Bt)} (h0 : 0 ≤ L) (h1 : L ≤ 1048576) (h : ¬ szRows L rows < 0) : rows.length ≤ 1048576 ∧ (∀ r ∈ rows, r.length ≤ 1048576) ∧ rows.flatten.length ≤ 1048576 := by
  have hv := szRows_val h0 (by omega : 0 ≤ szRows L rows)
  have ht := total_flatten rows
  refine ⟨by omega, fun r hr => ?_, by omega⟩
  have := total_le hr
  omega
end
end Go.Proofs.Ytmppoflgbmabpaa
/- Points, ints and reaches: sizes, conversion, comparison, how they open. -/
namespace Go.Proofs.Ytmppoflgbmabpaa
open Go.RowKit
set_option linter.unusedSimpArgs false
set_option linter.unusedVariables false

abbrev Pt : Type := Int × Int
def ptCells (p : Pt) : List Value := [.int .i64 p.1, .int .i64 p.2]
/-- Points in a block of their own. -/
def PtOwn (w : World) (lo hi : Nat) (v : Value) (ps : List Pt) : Prop :=
  ∃ a c, v = .slice a ps.length c ∧ (ps = [] ∨ ∃ B off cur, a = some ⟨B, off, none⟩ ∧ lo ≤ B ∧ B < hi ∧ RowAt w B 37 cur ∧ ∀ k (h : k < ps.length), cur[off + k * 2]? = some (.int .i64 ps[k].1) ∧ cur[off + k * 2 + 1]? = some (.int .i64 ps[k].2))
theorem PtOwn.keep {w w' : World} {lo hi lo' hi' : Nat} {v : Value} {ps : List Pt} (h : PtOwn w lo hi v ps) (hl : lo' ≤ lo) (hh : hi ≤ hi') (hk : ∀ B t c, lo ≤ B → B < hi → RowAt w B t c → RowAt w' B t c) : PtOwn w' lo' hi' v ps := by
  obtain ⟨a, c, e, hr⟩ := h
  exact ⟨a, c, e, hr.imp id fun ⟨B, off, cur, e1, h1, h2, h3, h4⟩ => ⟨B, off, cur, e1, by omega, by omega, hk _ _ _ h1 h2 h3, h4⟩⟩
theorem PtOwn.ext {w w' : World} {lo hi : Nat} {v : Value} {ps : List Pt} (h : PtOwn w lo hi v ps) (hx : Ext w w') : PtOwn w' lo hi v ps := h.keep (Nat.le_refl _) (Nat.le_refl _) (fun _ _ _ _ _ hr => hr.ext hx)
theorem PtOwn.chg {lo hi lo2 hi2 : Nat} {w w' : World} {v : Value} {ps : List Pt} (h : PtOwn w lo hi v ps) (hc : Chg lo2 hi2 w w') (ho : hi ≤ lo2 ∨ hi2 ≤ lo) : PtOwn w' lo hi v ps := h.keep (Nat.le_refl _) (Nat.le_refl _) (fun B _ _ h1 h2 hr => hr.chg hc (by omega))
theorem PtOwn.at {lo hi n : Nat} {w : World} {a : Option Addr} {c : Nat} {ps : List Pt} (h : PtOwn w lo hi (.slice a n c) ps) : FlatAt w ptCells 2 a ps := by
  obtain ⟨a', c', e, hr⟩ := h
  injection e with ea _ _
  subst ea
  intro k hk
  rcases hr with rfl | ⟨B, off, cur, rfl, _, _, h3, h4⟩
  · exact absurd hk (Nat.not_lt_zero _)
  · refine ⟨B, off, rfl, fun j u hu => ?_⟩
    match j, hu with
    | 0, hu => cases hu; exact h3.cell (h4 k hk).1
    | 1, hu => cases hu; exact h3.cell (h4 k hk).2
theorem IntOwn.keep {w w' : World} {lo hi lo' hi' : Nat} {v : Value} {xs : List Int} (h : IntOwn w lo hi v xs) (hl : lo' ≤ lo) (hh : hi ≤ hi') (hk : ∀ B t c, lo ≤ B → B < hi → RowAt w B t c → RowAt w' B t c) : IntOwn w' lo' hi' v xs := by
  obtain ⟨a, c, e, hr⟩ := h
  exact ⟨a, c, e, hr.imp id fun ⟨B, off, cur, e1, h1, h2, h3, h4⟩ => ⟨B, off, cur, e1, by omega, by omega, hk _ _ _ h1 h2 h3, h4⟩⟩

theorem info_point : (Try.prog.info? 37).map (fun i => (i.zero, i.size, i.bytes)) = some (some (.agg #[.int .i64 0, .int .i64 0]), 2, 16) := by kernel_rfl
theorem info_int2 : (Try.prog.info? 3).map (fun i => (i.zero, i.size, i.bytes)) = some (some (.int .i64 0), 1, 8) := by kernel_rfl

section
open Go.WideShapes Go.ChangeShapes Go.Deep Go.Joins
variable {H : Type} {enc : TypeId × Value → H} {w : World} {base : Nat} {spare : Nat → Bool} {held : Bool}
set_option maxRecDepth 100000 in
theorem open_int_slice (n : Nat) (cs : List Value) (y : DataW H × List MemPlace) (h : DataW.trod enc Try.prog w base spare held n 31 cs = some y) :
    ∃ (row : List Int) (a : Option Addr) (c : Nat), cs = [.slice a row.length c] ∧ (row.length ≤ maxLen ∧ (a = none → c = 0)) ∧ IntsAt w a row := by
  obtain ⟨a, len, cap, xs, rfl, rfl, hm, hk⟩ := open_slice_good (α := Int) (sz := 1) Try.underlying31 (by kernel_rfl) (by decide) (fun cs (z : Int) => cs = [.int .i64 z]) (fun n cs y hl h => let ⟨z, e, _⟩ := DataW.trod_int (k := .i64) Try.underlying3 h; ⟨z, e⟩) h
  refine ⟨xs, a, cap, rfl, hm, fun k hk' => ?_⟩
  obtain ⟨b, off, cs', e, hl, hc, rfl⟩ := hk k hk'
  exact ⟨b, off, e, by have := hc 0 (by decide); simpa using this⟩
end
end Go.Proofs.Ytmppoflgbmabpaa
/- Tables: what a table is, its value at a place, the least place with a value; the plain laws. -/
namespace Go.Proofs.Ytmppoflgbmabpaa
open Go.RowKit
set_option linter.unusedSimpArgs false
set_option linter.unusedVariables false

def ptOk (p : Pt) : Bool := inR p.1 0 1000000000 && inR p.2 0 1000000000
/-- The points from here on, behind p. -/
def stepGo (p : Pt) : List Pt → Bool
  | [] => true
  | q :: qs => (ptOk q && (decide (p.1 < q.1) && decide (p.2 ≤ q.2))) && stepGo q qs
def tabGo : List Pt → Bool
  | [] => true
  | q :: qs => ptOk q && stepGo q qs
def tableOk (ps : List Pt) : Bool := decide (2 ≤ ps.length ∧ ps.length ≤ 20) && tabGo ps
/-- What is still to be asked ahead of point k. -/
def tabFrom (ps : List Pt) : Nat → Bool
  | 0 => tabGo ps
  | k + 1 => stepGo (ps.getD k (0, 0)) (ps.drop (k + 1))
theorem tabFrom_zero (ps : List Pt) (h : 0 < ps.length) : tabFrom ps 0 = (ptOk ps[0] && tabFrom ps 1) := by
  match ps, h with
  | p :: ps, _ => rfl
theorem tabFrom_succ (ps : List Pt) (k : Nat) (h : k + 1 < ps.length) : tabFrom ps (k + 1) = ((ptOk ps[k + 1] && (decide (ps[k].1 < ps[k + 1].1) && decide (ps[k].2 ≤ ps[k + 1].2))) && tabFrom ps (k + 2)) := by
  show stepGo (ps.getD k (0, 0)) (ps.drop (k + 1)) = _
  rw [List.drop_eq_getElem_cons h]
  have e1 : ps.getD k (0, 0) = ps[k] := by simp [List.getD, List.getElem?_eq_getElem (by omega : k < ps.length)]
  have e2 : ps.getD (k + 1) (0, 0) = ps[k + 1] := by simp [List.getD, List.getElem?_eq_getElem h]
  rw [e1]
  show _ = (_ && stepGo (ps.getD (k + 1) (0, 0)) (ps.drop (k + 1 + 1)))
  rw [e2]
  rfl
theorem tabFrom_end (ps : List Pt) : tabFrom ps ps.length = true := by
  cases ps with
  | nil => rfl
  | cons p ps => simp [tabFrom, stepGo]
/-- A table is in order. -/
def Tab : List Pt → Prop
  | [] => True
  | [p] => 0 ≤ p.1 ∧ p.1 ≤ 1000000000 ∧ 0 ≤ p.2 ∧ p.2 ≤ 1000000000
  | p :: q :: qs => (0 ≤ p.1 ∧ p.1 ≤ 1000000000 ∧ 0 ≤ p.2 ∧ p.2 ≤ 1000000000) ∧ p.1 < q.1 ∧ p.2 ≤ q.2 ∧ Tab (q :: qs)
theorem ptOk_iff {p : Pt} : ptOk p = true ↔ (0 ≤ p.1 ∧ p.1 ≤ 1000000000 ∧ 0 ≤ p.2 ∧ p.2 ≤ 1000000000) := by
  simp only [ptOk, inR, Bool.and_eq_true, decide_eq_true_eq]
  omega
theorem stepGo_tab : ∀ (qs : List Pt) (p : Pt), ptOk p = true → stepGo p qs = true → Tab (p :: qs)
  | [], p, h, _ => ptOk_iff.1 h
  | q :: qs, p, h, h2 => by
    simp only [stepGo, Bool.and_eq_true, decide_eq_true_eq] at h2
    exact ⟨ptOk_iff.1 h, h2.1.2.1, h2.1.2.2, stepGo_tab qs q h2.1.1 h2.2⟩
theorem tab_of {ps : List Pt} (h : tableOk ps = true) : Tab ps ∧ 2 ≤ ps.length ∧ ps.length ≤ 20 := by
  simp only [tableOk, Bool.and_eq_true, decide_eq_true_eq] at h
  refine ⟨?_, h.1⟩
  match ps, h with
  | [], _ => trivial
  | p :: ps, h =>
    have h2 := h.2
    simp only [tabGo, Bool.and_eq_true] at h2
    exact stepGo_tab _ _ h2.1 h2.2
theorem Tab.tail {p : Pt} {qs : List Pt} (h : Tab (p :: qs)) : Tab qs := by
  cases qs with
  | nil => trivial
  | cons q qs => exact h.2.2.2
theorem Tab.b {p : Pt} {qs : List Pt} (h : Tab (p :: qs)) : 0 ≤ p.1 ∧ p.1 ≤ 1000000000 ∧ 0 ≤ p.2 ∧ p.2 ≤ 1000000000 := by
  cases qs with
  | nil => exact h
  | cons q qs => exact h.1
theorem Tab.get : ∀ {ps : List Pt} (h : Tab ps) (k : Nat) (hk : k < ps.length), 0 ≤ ps[k].1 ∧ ps[k].1 ≤ 1000000000 ∧ 0 ≤ ps[k].2 ∧ ps[k].2 ≤ 1000000000
  | p :: ps, h, 0, _ => h.b
  | p :: ps, h, k + 1, hk => Tab.get h.tail k (by simpa using hk)
theorem Tab.step : ∀ {ps : List Pt} (h : Tab ps) (k : Nat) (hk : k + 1 < ps.length), ps[k].1 < ps[k + 1].1 ∧ ps[k].2 ≤ ps[k + 1].2
  | p :: q :: ps, h, 0, _ => ⟨h.2.1, h.2.2.1⟩
  | p :: q :: ps, h, k + 1, hk => Tab.step h.tail k (by simpa using hk)
/-- The value between two points. -/
def lin (x : Int) (p q : Pt) : Int := p.2 + Int.tdiv ((x - p.1) * (q.2 - p.2)) (q.1 - p.1)
/-- The value at x, of which the first point is not behind. -/
def seg (x : Int) (p : Pt) : List Pt → Int
  | [] => p.2
  | q :: qs => if q.1 ≤ x then seg x q qs else lin x p q
def lastP (p : Pt) : List Pt → Pt
  | [] => p
  | q :: qs => lastP q qs
def valueAt (ps : List Pt) (x : Int) : Int :=
  if tableOk ps then
    match ps with
    | [] => 0
    | p :: qs => if x ≤ p.1 then p.2 else seg x p qs
  else 0
theorem lin_b {x : Int} {p q : Pt} (h0 : p.1 ≤ x) (h1 : x < q.1) (h2 : p.2 ≤ q.2) : p.2 ≤ lin x p q ∧ lin x p q ≤ q.2 := by
  unfold lin
  have hm : 0 ≤ (x - p.1) * (q.2 - p.2) := Int.mul_nonneg (by omega) (by omega)
  rw [Int.tdiv_eq_ediv_of_nonneg hm]
  have h3 : 0 ≤ (x - p.1) * (q.2 - p.2) / (q.1 - p.1) := Int.ediv_nonneg hm (by omega)
  have h4 : (x - p.1) * (q.2 - p.2) / (q.1 - p.1) ≤ q.2 - p.2 := by
    apply Int.ediv_le_of_le_mul (by omega)
    rw [Int.mul_comm]
    exact Int.mul_le_mul_of_nonneg_left (by omega) (by omega)
  omega
theorem lin_mono {x y : Int} {p q : Pt} (h0 : p.1 ≤ x) (h : x ≤ y) (h1 : y < q.1) (h2 : p.2 ≤ q.2) : lin x p q ≤ lin y p q := by
  unfold lin
  rw [Int.tdiv_eq_ediv_of_nonneg (Int.mul_nonneg (by omega) (by omega)), Int.tdiv_eq_ediv_of_nonneg (Int.mul_nonneg (by omega) (by omega))]
  have : (x - p.1) * (q.2 - p.2) ≤ (y - p.1) * (q.2 - p.2) := Int.mul_le_mul_of_nonneg_right (by omega) (by omega)
  have := Int.ediv_le_ediv (c := q.1 - p.1) (by omega) this
  omega
theorem seg_ge : ∀ (qs : List Pt) (p : Pt) (x : Int), Tab (p :: qs) → p.1 ≤ x → p.2 ≤ seg x p qs
  | [], p, x, _, _ => Int.le_refl _
  | q :: qs, p, x, h, h0 => by
    unfold seg
    split
    · have := seg_ge qs q x h.tail (by assumption)
      have := h.2.2.1
      omega
    · exact (lin_b h0 (by omega) h.2.2.1).1
theorem seg_le : ∀ (qs : List Pt) (p : Pt) (x : Int), Tab (p :: qs) → p.1 ≤ x → seg x p qs ≤ (lastP p qs).2
  | [], p, x, _, _ => Int.le_refl _
  | q :: qs, p, x, h, h0 => by
    unfold seg
    split
    · exact seg_le qs q x h.tail (by assumption)
    · have h1 := (lin_b h0 (by omega) h.2.2.1 : p.2 ≤ lin x p q ∧ lin x p q ≤ q.2).2
      have h2 := seg_ge qs q q.1 h.tail (Int.le_refl _)
      have h3 := seg_le qs q q.1 h.tail (Int.le_refl _)
      show _ ≤ (lastP q qs).2
      omega
theorem seg_mono : ∀ (qs : List Pt) (p : Pt) (x y : Int), Tab (p :: qs) → p.1 ≤ x → x ≤ y → seg x p qs ≤ seg y p qs
  | [], p, x, y, _, _, _ => Int.le_refl _
  | q :: qs, p, x, y, h, h0, hxy => by
    unfold seg
    by_cases h1 : q.1 ≤ x
    · rw [if_pos h1, if_pos (by omega)]
      exact seg_mono qs q x y h.tail h1 hxy
    · rw [if_neg h1]
      by_cases h2 : q.1 ≤ y
      · rw [if_pos h2]
        have h3 := (lin_b h0 (by omega) h.2.2.1 : p.2 ≤ lin x p q ∧ lin x p q ≤ q.2).2
        have h4 := seg_ge qs q y h.tail h2
        omega
      · rw [if_neg h2]
        exact lin_mono h0 hxy (by omega) h.2.2.1
theorem seg_end : ∀ (qs : List Pt) (p : Pt) (x : Int), Tab (p :: qs) → (lastP p qs).1 ≤ x → seg x p qs = (lastP p qs).2
  | [], p, x, _, _ => rfl
  | q :: qs, p, x, h, h0 => by
    have key : ∀ (qs : List Pt) (q : Pt), Tab (q :: qs) → q.1 ≤ (lastP q qs).1 := by
      intro qs
      induction qs with
      | nil => intro q _; exact Int.le_refl _
      | cons r rs ih => intro q h; have := ih r h.tail; have := h.2.1; show q.1 ≤ (lastP r rs).1; omega
    have h1 := key qs q h.tail
    have h2 : (lastP q qs).1 ≤ x := h0
    unfold seg
    rw [if_pos (by omega)]
    exact seg_end qs q x h.tail h2
theorem lastP_get : ∀ (qs : List Pt) (p : Pt), lastP p qs = (p :: qs)[qs.length]
  | [], p => rfl
  | q :: qs, p => by
    show lastP q qs = _
    rw [lastP_get qs q]
    rfl
theorem lastP_ge : ∀ (qs : List Pt) (p : Pt), Tab (p :: qs) → p.1 ≤ (lastP p qs).1
  | [], p, _ => Int.le_refl _
  | q :: qs, p, h => by have := lastP_ge qs q h.tail; have := h.2.1; show p.1 ≤ (lastP q qs).1; omega
theorem valueAt_mono {ps : List Pt} {x y : Int} (h : x ≤ y) : valueAt ps x ≤ valueAt ps y := by
  unfold valueAt
  by_cases ht : tableOk ps = true
  · rw [if_pos ht, if_pos ht]
    obtain ⟨h1, h2, _⟩ := tab_of ht
    match ps, h1, h2 with
    | p :: qs, h1, _ =>
      show (if x ≤ p.1 then p.2 else seg x p qs) ≤ (if y ≤ p.1 then p.2 else seg y p qs)
      by_cases c : x ≤ p.1
      · rw [if_pos c]
        split
        · exact Int.le_refl _
        · exact seg_ge qs p y h1 (by omega)
      · rw [if_neg c, if_neg (by omega)]
        exact seg_mono qs p x y h1 (by omega) h
  · rw [if_neg ht, if_neg ht]
    exact Int.le_refl _
theorem valueAt_b (ps : List Pt) (x : Int) : 0 ≤ valueAt ps x ∧ valueAt ps x ≤ 1000000000 := by
  unfold valueAt
  by_cases ht : tableOk ps = true
  · rw [if_pos ht]
    obtain ⟨h1, h2, _⟩ := tab_of ht
    match ps, h1, h2 with
    | p :: qs, h1, _ =>
      show 0 ≤ (if x ≤ p.1 then p.2 else seg x p qs) ∧ (if x ≤ p.1 then p.2 else seg x p qs) ≤ _
      have hb := h1.b
      have hl := h1.get qs.length (by simp)
      rw [← lastP_get] at hl
      split
      · omega
      · have := seg_ge qs p x h1 (by omega)
        have := seg_le qs p x h1 (by omega)
        omega
  · rw [if_neg ht]
    omega
/-- The value at the last place. -/
theorem valueAt_last {ps : List Pt} (ht : tableOk ps = true) (k : Nat) (hk : k + 1 = ps.length) : valueAt ps (ps[k].1) = (ps[k]).2 := by
  unfold valueAt
  rw [if_pos ht]
  obtain ⟨h1, h2, _⟩ := tab_of ht
  match ps, h1, h2, hk with
  | p :: qs, h1, h2, hk =>
    have e : k = qs.length := by simp at hk; omega
    subst e
    rw [← lastP_get]
    show (if (lastP p qs).1 ≤ p.1 then p.2 else seg (lastP p qs).1 p qs) = _
    rw [if_neg, seg_end qs p _ h1 (Int.le_refl _)]
    match qs, h1, h2 with
    | q :: qs, h1, _ =>
      have h3 := h1.2.1
      have h4 := lastP_ge qs q h1.tail
      show ¬ (lastP q qs).1 ≤ p.1
      omega
/-- z is the least place with a value of y at least. -/
def IsPlace (ps : List Pt) (y z : Int) : Prop := ∃ (h : 0 < ps.length), ps[0].1 ≤ z ∧ z ≤ (ps[ps.length - 1]).1 ∧ y ≤ valueAt ps z ∧ (z = ps[0].1 ∨ valueAt ps (z - 1) < y)
theorem IsPlace.same {ps : List Pt} {y z z' : Int} (h : IsPlace ps y z) (h' : IsPlace ps y z') : z = z' := by
  obtain ⟨_, a1, a2, a3, a4⟩ := h
  obtain ⟨_, b1, b2, b3, b4⟩ := h'
  rcases Int.lt_trichotomy z z' with c | c | c
  · exfalso
    have := valueAt_mono (ps := ps) (x := z) (y := z' - 1) (by omega)
    omega
  · exact c
  · exfalso
    have := valueAt_mono (ps := ps) (x := z') (y := z - 1) (by omega)
    omega
/-! ### Reaches -/
def sumFrom (n : Int) (xs : List Int) : Int := xs.foldl (fun n x => n + x) n
def reachOk (ps : List Pt) (vol : Int) (xs : List Int) : Bool := (tableOk ps && (inR vol 0 1000000000 && decide (xs.length ≤ 12))) && (xs.all (fun x => inR x 0 1000000000) && decide (sumFrom vol xs ≤ 1000000000))
theorem reachOk_parts {ps : List Pt} {vol : Int} {xs : List Int} (h : reachOk ps vol xs = true) : tableOk ps = true ∧ (0 ≤ vol ∧ vol ≤ 1000000000) ∧ xs.length ≤ 12 ∧ (∀ x ∈ xs, 0 ≤ x ∧ x ≤ 1000000000) ∧ sumFrom vol xs ≤ 1000000000 := by
  simp only [reachOk, inR, Bool.and_eq_true, decide_eq_true_eq, List.all_eq_true] at h
  exact ⟨h.1.1, by omega, h.1.2.2, fun x hx => by have := h.2.1 x hx; omega, h.2.2⟩
/-- z is the level. -/
def IsLevel (ps : List Pt) (vol : Int) (xs : List Int) (z : Int) : Prop :=
  if reachOk ps vol xs then (∃ (h : 0 < ps.length), if (ps[ps.length - 1]).2 < vol then z = (ps[ps.length - 1]).1 else IsPlace ps vol z) else z = 0
theorem IsLevel.same {ps : List Pt} {vol : Int} {xs : List Int} {z z' : Int} (h : IsLevel ps vol xs z) (h' : IsLevel ps vol xs z') : z = z' := by
  unfold IsLevel at *
  split at h
  · rename_i c
    rw [if_pos c] at h'
    obtain ⟨p, h⟩ := h
    obtain ⟨_, h'⟩ := h'
    split at h
    · rename_i c; rw [if_pos c] at h'; rw [h, h']
    · rename_i c; rw [if_neg c] at h'; exact h.same h'
  · rename_i c; rw [if_neg c] at h'; rw [h, h']
open Classical in
noncomputable def levelOf (ps : List Pt) (vol : Int) (xs : List Int) : Int := if h : ∃ z, IsLevel ps vol xs z then Classical.choose h else 0
theorem IsLevel.eq {ps : List Pt} {vol : Int} {xs : List Int} {z : Int} (h : IsLevel ps vol xs z) : z = levelOf ps vol xs := by
  have he : ∃ z, IsLevel ps vol xs z := ⟨z, h⟩
  unfold levelOf
  rw [dif_pos he]
  exact h.same (Classical.choose_spec he)
theorem IsLevel.b {ps : List Pt} {vol : Int} {xs : List Int} {z : Int} (h : IsLevel ps vol xs z) : 0 ≤ z ∧ z ≤ 1000000000 := by
  unfold IsLevel at h
  split at h
  · rename_i c
    obtain ⟨p, h⟩ := h
    obtain ⟨ht, _⟩ := tab_of (reachOk_parts c).1
    have h1 := ht.get (ps.length - 1) (by omega)
    have h0 := ht.get 0 p
    split at h
    · omega
    · obtain ⟨_, a1, a2, _⟩ := h
      omega
  · omega
theorem levelOf_b (ps : List Pt) (vol : Int) (xs : List Int) : 0 ≤ levelOf ps vol xs ∧ levelOf ps vol xs ≤ 1000000000 := by
  by_cases he : ∃ z, IsLevel ps vol xs z
  · obtain ⟨z, h⟩ := he
    rw [← h.eq]
    exact h.b
  · unfold levelOf
    rw [dif_neg he]
    omega
end Go.Proofs.Ytmppoflgbmabpaa
/- TableOk, ValueAt on both sides. -/
namespace Go.Proofs.Ytmppoflgbmabpaa
open Go.RowKit
set_option linter.unusedSimpArgs false
set_option linter.unusedVariables false

theorem tab_short {ps : List Pt} (h : ps.length < 2 ∨ 20 < ps.length) : false = tableOk ps := by
  rw [tableOk, decide_eq_false (by omega), Bool.false_and]
theorem tab_bad {ps : List Pt} {b : Bool} (h : tabGo ps = (false && b)) : false = tableOk ps := by
  rw [tableOk, h, Bool.false_and, Bool.and_false]
theorem tab_good {ps : List Pt} (h : 2 ≤ ps.length ∧ ps.length ≤ 20) (h2 : tabGo ps = true) : true = tableOk ps := by
  rw [tableOk, h2, decide_eq_true h]; rfl
theorem ptOk_eq (p1 p2 : Int) : ptOk (p1, p2) = (inR p1 0 1000000000 && inR p2 0 1000000000) := rfl

set_option maxRecDepth 100000 in
set_option maxHeartbeats 4000000 in
theorem implTableOk_any (a : Option Addr) (n c : Nat) (ps : List Pt) (w : World) (hn : n = ps.length) (hs : n ≤ maxLen) (hf : FlatAt w ptCells 2 a ps) :
    Calls Try.prog 51 #[.slice a n c] w fun e w' => e = .returned (.bool (tableOk ps)) ∧ Ext w w' := by
  unfold maxLen at hs
  have HF := Lib.hid hf; clear hf
  by_cases h : n < 2 ∨ 20 < n
  · have HN := Lib.hid hn; clear hn
    rcases (by omega : n < 2 ∨ (2 ≤ n ∧ 20 < n)) with h1 | ⟨h1, h2⟩
    all_goals
      go_enter Try.func51, Try.ntmps51
      go_wp2
      go_ret
      exact ⟨ret_bool (tab_short (by rw [← HN.out]; exact h)), by (repeat' (first | (with_reducible exact Ext.refl _) | (with_reducible assumption) | (with_reducible refine Ext.alloc ?_ _) | (with_reducible refine Ext.drewN ?_ _) | (with_reducible refine Ext.drew ?_) | (with_reducible refine Ext.setCell ?_ ?_ _) | (with_reducible exact Nat.le_refl _) | (with_reducible exact Nat.le_succ _) | (with_reducible refine Ext.trans ?_ (by assumption)) | (simp; done) | (simp; omega)))⟩
  have hn2 : 2 ≤ n := by omega
  have hn20 : n ≤ 20 := by omega
  have HN := Lib.hid hn; clear hn h
  go_enter Try.func51, Try.ntmps51
  go_wp2
  go_loopw [15] (fun i wr => ∃ (k : Nat), k ≤ n ∧ i = .int .i64 k ∧ Ext w wr ∧ Hid (tabGo ps = tabFrom ps k)) (fun i _ => n - (intOf i).toNat)
  case atStart => exact ⟨0, Nat.zero_le _, rfl, by (repeat' (first | (with_reducible exact Ext.refl _) | (with_reducible assumption) | (with_reducible refine Ext.alloc ?_ _) | (with_reducible refine Ext.drewN ?_ _) | (with_reducible refine Ext.drew ?_) | (with_reducible refine Ext.setCell ?_ ?_ _) | (with_reducible exact Nat.le_refl _) | (with_reducible exact Nat.le_succ _) | (with_reducible refine Ext.trans ?_ (by assumption)) | (simp; done) | (simp; omega))), rfl⟩
  case round =>
    obtain ⟨k, hk, rfl, hr, hgo⟩ := hrel
    by_cases hlt : k < n
    · have hlt' : k < ps.length := by rw [← HN.out]; exact hlt
      obtain ⟨b, off, rfl, hcell⟩ := HF.out.get k hlt'
      obtain ⟨p1, p2, hp⟩ : ∃ p1 p2, ps[k] = (p1, p2) := ⟨_, _, rfl⟩
      rw [hp] at hcell
      have e1 : wr.cell? ⟨b, off + k * 2, none⟩ = some (.int .i64 p1) := hcell 0 _ rfl _ hr
      have e2 : wr.cell? ⟨b, off + k * 2 + 1, none⟩ = some (.int .i64 p2) := hcell 1 _ rfl _ hr
      have eX := (Ext.refl wr).alloc (.cells #[.int .i64 p1, .int .i64 p2] 37)
      have x1 : ∀ x : Aft (wr.alloc (.cells #[.int .i64 p1, .int .i64 p2] 37)), x.1.cell? ⟨wr.heap.size, 0, none⟩ = some (.int .i64 p1) := fun x => ((RowAt.new wr 37 #[.int .i64 p1, .int .i64 p2]).ext x.2).cell rfl
      have x2 : ∀ x : Aft (wr.alloc (.cells #[.int .i64 p1, .int .i64 p2] 37)), x.1.cell? ⟨wr.heap.size, 1, none⟩ = some (.int .i64 p2) := fun x => ((RowAt.new wr 37 #[.int .i64 p1, .int .i64 p2]).ext x.2).cell rfl
      clear hcell
      cases k with
      | zero =>
        have HD := Lib.hid (show tabGo ps = ((inR p1 0 1000000000 && inR p2 0 1000000000) && tabFrom ps 1) by rw [hgo.out, tabFrom_zero ps (by omega), hp, ptOk_eq])
        clear hp hgo
        (try simp only [Nat.zero_mul, Nat.add_zero] at e1 e2)
        obtain ⟨b1, hb1⟩ : ∃ b1, inR p1 0 1000000000 = b1 := ⟨_, rfl⟩
        obtain ⟨b2, hb2⟩ : ∃ b2, inR p2 0 1000000000 = b2 := ⟨_, rfl⟩
        rw [hb1, hb2] at HD
        cases b1
        · go_wp2_with ((go_at_call 26; refine (inRange_any _ _ _ _).mono ?_; rintro e w' ⟨rfl, rfl⟩))
          go_ret
          exact ⟨ret_bool (tab_bad (b := false) (by rw [HD.out]; simp)), by (repeat' (first | (with_reducible exact Ext.refl _) | (with_reducible assumption) | (with_reducible refine Ext.alloc ?_ _) | (with_reducible refine Ext.drewN ?_ _) | (with_reducible refine Ext.drew ?_) | (with_reducible refine Ext.setCell ?_ ?_ _) | (with_reducible exact Nat.le_refl _) | (with_reducible exact Nat.le_succ _) | (with_reducible refine Ext.trans ?_ (by assumption)) | (simp; done) | (simp; omega)))⟩
        cases b2
        · go_wp2_with ((go_at_call 26; refine (inRange_any _ _ _ _).mono ?_; rintro e w' ⟨rfl, rfl⟩))
          go_ret
          exact ⟨ret_bool (tab_bad (b := false) (by rw [HD.out]; simp)), by (repeat' (first | (with_reducible exact Ext.refl _) | (with_reducible assumption) | (with_reducible refine Ext.alloc ?_ _) | (with_reducible refine Ext.drewN ?_ _) | (with_reducible refine Ext.drew ?_) | (with_reducible refine Ext.setCell ?_ ?_ _) | (with_reducible exact Nat.le_refl _) | (with_reducible exact Nat.le_succ _) | (with_reducible refine Ext.trans ?_ (by assumption)) | (simp; done) | (simp; omega)))⟩
        go_wp2_with ((go_at_call 26; refine (inRange_any _ _ _ _).mono ?_; rintro e w' ⟨rfl, rfl⟩))
        try ((refine wp_region_aft (wr.alloc (.cells #[.int .i64 p1, .int .i64 p2] 37)) (Ext.refl _) (by kernel_rfl) (by kernel_rfl) ?_; (repeat (go_big_quiet_step (fail))); refine wpQuiet_nil ?_; intro w2 hx2))
        go_wp2
        go_roundw
        case rel => exact ⟨1, by omega, by go_num, by (repeat' (first | (with_reducible exact Ext.refl _) | (with_reducible assumption) | (with_reducible refine Ext.alloc ?_ _) | (with_reducible refine Ext.drewN ?_ _) | (with_reducible refine Ext.drew ?_) | (with_reducible refine Ext.setCell ?_ ?_ _) | (with_reducible exact Nat.le_refl _) | (with_reducible exact Nat.le_succ _) | (with_reducible refine Ext.trans ?_ (by assumption)) | (simp; done) | (simp; omega))), by (show _ = _); rw [HD.out]; simp⟩
        case measure => simp [intOf]; omega
      | succ k =>
        have hlt2 : k < ps.length := by omega
        obtain ⟨b', off', e', hcell'⟩ := HF.out.get k hlt2
        cases e'
        obtain ⟨q1, q2, hq⟩ : ∃ q1 q2, ps[k] = (q1, q2) := ⟨_, _, rfl⟩
        rw [hq] at hcell'
        have y1 : ∀ x : Aft (wr.alloc (.cells #[.int .i64 p1, .int .i64 p2] 37)), x.1.cell? ⟨b, off + k * 2, none⟩ = some (.int .i64 q1) := fun x => hcell' 0 _ rfl _ (hr.trans (eX.trans x.2))
        have y2 : ∀ x : Aft (wr.alloc (.cells #[.int .i64 p1, .int .i64 p2] 37)), x.1.cell? ⟨b, off + k * 2 + 1, none⟩ = some (.int .i64 q2) := fun x => hcell' 1 _ rfl _ (hr.trans (eX.trans x.2))
        have HD := Lib.hid (show tabGo ps = (((inR p1 0 1000000000 && inR p2 0 1000000000) && (decide (q1 < p1) && decide (q2 ≤ p2))) && tabFrom ps (k + 2)) by rw [hgo.out, tabFrom_succ ps k hlt', hp, hq, ptOk_eq])
        clear hp hq hgo hcell'
        obtain ⟨b1, hb1⟩ : ∃ b1, inR p1 0 1000000000 = b1 := ⟨_, rfl⟩
        obtain ⟨b2, hb2⟩ : ∃ b2, inR p2 0 1000000000 = b2 := ⟨_, rfl⟩
        rw [hb1, hb2] at HD
        cases b1
        · go_wp2_with ((go_at_call 26; refine (inRange_any _ _ _ _).mono ?_; rintro e w' ⟨rfl, rfl⟩))
          go_ret
          exact ⟨ret_bool (tab_bad (b := false) (by rw [HD.out]; simp)), by (repeat' (first | (with_reducible exact Ext.refl _) | (with_reducible assumption) | (with_reducible refine Ext.alloc ?_ _) | (with_reducible refine Ext.drewN ?_ _) | (with_reducible refine Ext.drew ?_) | (with_reducible refine Ext.setCell ?_ ?_ _) | (with_reducible exact Nat.le_refl _) | (with_reducible exact Nat.le_succ _) | (with_reducible refine Ext.trans ?_ (by assumption)) | (simp; done) | (simp; omega)))⟩
        cases b2
        · go_wp2_with ((go_at_call 26; refine (inRange_any _ _ _ _).mono ?_; rintro e w' ⟨rfl, rfl⟩))
          go_ret
          exact ⟨ret_bool (tab_bad (b := false) (by rw [HD.out]; simp)), by (repeat' (first | (with_reducible exact Ext.refl _) | (with_reducible assumption) | (with_reducible refine Ext.alloc ?_ _) | (with_reducible refine Ext.drewN ?_ _) | (with_reducible refine Ext.drew ?_) | (with_reducible refine Ext.setCell ?_ ?_ _) | (with_reducible exact Nat.le_refl _) | (with_reducible exact Nat.le_succ _) | (with_reducible refine Ext.trans ?_ (by assumption)) | (simp; done) | (simp; omega)))⟩
        have k0 : 0 < k + 1 := by omega
        by_cases c1 : p1 ≤ q1
        · have d1 : decide (q1 < p1) = false := by simpa using c1
          go_wp2_with ((go_at_call 26; refine (inRange_any _ _ _ _).mono ?_; rintro e w' ⟨rfl, rfl⟩))
          (refine wp_region_aft (wr.alloc (.cells #[.int .i64 p1, .int .i64 p2] 37)) (Ext.refl _) (by kernel_rfl) (by kernel_rfl) ?_; (repeat (go_big_quiet_step (fail))); refine wpQuiet_nil ?_; intro w2 hx2)
          go_wp2
          go_ret
          exact ⟨ret_bool (tab_bad (b := false) (by rw [HD.out, d1]; simp)), by (repeat' (first | (with_reducible exact Ext.refl _) | (with_reducible assumption) | (with_reducible refine Ext.alloc ?_ _) | (with_reducible refine Ext.drewN ?_ _) | (with_reducible refine Ext.drew ?_) | (with_reducible refine Ext.setCell ?_ ?_ _) | (with_reducible exact Nat.le_refl _) | (with_reducible exact Nat.le_succ _) | (with_reducible refine Ext.trans ?_ (by assumption)) | (simp; done) | (simp; omega)))⟩
        have dd1 : decide (p1 ≤ q1) = false := by simp; omega
        by_cases c2 : p2 < q2
        · have d2 : decide (q2 ≤ p2) = false := by simpa using c2
          go_wp2_with ((go_at_call 26; refine (inRange_any _ _ _ _).mono ?_; rintro e w' ⟨rfl, rfl⟩))
          (refine wp_region_aft (wr.alloc (.cells #[.int .i64 p1, .int .i64 p2] 37)) (Ext.refl _) (by kernel_rfl) (by kernel_rfl) ?_; (repeat (go_big_quiet_step (fail))); refine wpQuiet_nil ?_; intro w2 hx2)
          go_wp2
          go_ret
          exact ⟨ret_bool (tab_bad (b := false) (by rw [HD.out, d2]; simp)), by (repeat' (first | (with_reducible exact Ext.refl _) | (with_reducible assumption) | (with_reducible refine Ext.alloc ?_ _) | (with_reducible refine Ext.drewN ?_ _) | (with_reducible refine Ext.drew ?_) | (with_reducible refine Ext.setCell ?_ ?_ _) | (with_reducible exact Nat.le_refl _) | (with_reducible exact Nat.le_succ _) | (with_reducible refine Ext.trans ?_ (by assumption)) | (simp; done) | (simp; omega)))⟩
        · have dd2 : decide (p2 < q2) = false := by simp; omega
          have d1 : decide (q1 < p1) = true := by simp; omega
          have d2 : decide (q2 ≤ p2) = true := by simp; omega
          go_wp2_with ((go_at_call 26; refine (inRange_any _ _ _ _).mono ?_; rintro e w' ⟨rfl, rfl⟩))
          (refine wp_region_aft (wr.alloc (.cells #[.int .i64 p1, .int .i64 p2] 37)) (Ext.refl _) (by kernel_rfl) (by kernel_rfl) ?_; (repeat (go_big_quiet_step (fail))); refine wpQuiet_nil ?_; intro w2 hx2)
          go_wp2
          go_roundw
          case rel => exact ⟨k + 2, by omega, by go_num, by (repeat' (first | (with_reducible exact Ext.refl _) | (with_reducible assumption) | (with_reducible refine Ext.alloc ?_ _) | (with_reducible refine Ext.drewN ?_ _) | (with_reducible refine Ext.drew ?_) | (with_reducible refine Ext.setCell ?_ ?_ _) | (with_reducible exact Nat.le_refl _) | (with_reducible exact Nat.le_succ _) | (with_reducible refine Ext.trans ?_ (by assumption)) | (simp; done) | (simp; omega))), by (show _ = _); rw [HD.out, d1, d2]; simp⟩
          case measure => simp [intOf]; omega
    · have hkn : k = n := by omega
      have HG := Lib.hid (show tabGo ps = true by rw [hgo.out, hkn, HN.out, tabFrom_end])
      go_wp2
      go_ret
      exact ⟨ret_bool (tab_good (by rw [← HN.out]; omega) HG.out), hr⟩

set_option maxRecDepth 100000 in
set_option maxHeartbeats 4000000 in
theorem specTableOk_any (a : Option Addr) (n c : Nat) (ps : List Pt) (w : World) (hn : n = ps.length) (hs : n ≤ maxLen) (hf : FlatAt w ptCells 2 a ps) :
    Calls Try.prog 53 #[.slice a n c] w fun e w' => e = .returned (.bool (tableOk ps)) ∧ Ext w w' := by
  unfold maxLen at hs
  have HF := Lib.hid hf; clear hf
  have HN := Lib.hid hn; clear hn
  go_enter Try.func53, Try.ntmps53
  go_wp2
  go_loopw [3] (fun i wr => ∃ (k : Nat), k ≤ n ∧ i = .int .i64 k ∧ Ext w wr ∧ Hid (tabGo ps = tabFrom ps k)) (fun i _ => n - (intOf i).toNat)
  case atStart => exact ⟨0, Nat.zero_le _, rfl, by (repeat' (first | (with_reducible exact Ext.refl _) | (with_reducible assumption) | (with_reducible refine Ext.alloc ?_ _) | (with_reducible refine Ext.drewN ?_ _) | (with_reducible refine Ext.drew ?_) | (with_reducible refine Ext.setCell ?_ ?_ _) | (with_reducible exact Nat.le_refl _) | (with_reducible exact Nat.le_succ _) | (with_reducible refine Ext.trans ?_ (by assumption)) | (simp; done) | (simp; omega))), rfl⟩
  case round =>
    obtain ⟨k, hk, rfl, hr, hgo⟩ := hrel
    by_cases hlt : k < n
    · have hlt' : k < ps.length := by rw [← HN.out]; exact hlt
      obtain ⟨b, off, rfl, hcell⟩ := HF.out.get k hlt'
      obtain ⟨p1, p2, hp⟩ : ∃ p1 p2, ps[k] = (p1, p2) := ⟨_, _, rfl⟩
      rw [hp] at hcell
      have x1 : ∀ x : Aft wr, x.1.cell? ⟨b, off + k * 2, none⟩ = some (.int .i64 p1) := fun x => hcell 0 _ rfl _ (hr.trans x.2)
      have x2 : ∀ x : Aft wr, x.1.cell? ⟨b, off + k * 2 + 1, none⟩ = some (.int .i64 p2) := fun x => hcell 1 _ rfl _ (hr.trans x.2)
      clear hcell
      cases k with
      | zero =>
        have HD := Lib.hid (show tabGo ps = ((inR p1 0 1000000000 && inR p2 0 1000000000) && tabFrom ps 1) by rw [hgo.out, tabFrom_zero ps (by omega), hp, ptOk_eq])
        clear hp hgo
        (try simp only [Nat.zero_mul, Nat.add_zero] at x1 x2)
        obtain ⟨b1, hb1⟩ : ∃ b1, inR p1 0 1000000000 = b1 := ⟨_, rfl⟩
        obtain ⟨b2, hb2⟩ : ∃ b2, inR p2 0 1000000000 = b2 := ⟨_, rfl⟩
        rw [hb1, hb2] at HD
        cases b1
        · go_wp2_with fail
          (refine wp_region_aft wr (Ext.refl _) (by kernel_rfl) (by kernel_rfl) ?_; (repeat (go_big_quiet_step ((go_at_call 36; exact aft_same (l01In_any _ _ _ _))))); refine wpQuiet_nil ?_; intro w2 hx2)
          go_wp2
          go_ret
          exact ⟨ret_bool (tab_bad (b := false) (by rw [HD.out]; simp)), by (repeat' (first | (with_reducible exact Ext.refl _) | (with_reducible assumption) | (with_reducible refine Ext.alloc ?_ _) | (with_reducible refine Ext.drewN ?_ _) | (with_reducible refine Ext.drew ?_) | (with_reducible refine Ext.setCell ?_ ?_ _) | (with_reducible exact Nat.le_refl _) | (with_reducible exact Nat.le_succ _) | (with_reducible refine Ext.trans ?_ (by assumption)) | (simp; done) | (simp; omega)))⟩
        cases b2
        · go_wp2_with fail
          (refine wp_region_aft wr (Ext.refl _) (by kernel_rfl) (by kernel_rfl) ?_; (repeat (go_big_quiet_step ((go_at_call 36; exact aft_same (l01In_any _ _ _ _))))); refine wpQuiet_nil ?_; intro w2 hx2)
          go_wp2
          go_ret
          exact ⟨ret_bool (tab_bad (b := false) (by rw [HD.out]; simp)), by (repeat' (first | (with_reducible exact Ext.refl _) | (with_reducible assumption) | (with_reducible refine Ext.alloc ?_ _) | (with_reducible refine Ext.drewN ?_ _) | (with_reducible refine Ext.drew ?_) | (with_reducible refine Ext.setCell ?_ ?_ _) | (with_reducible exact Nat.le_refl _) | (with_reducible exact Nat.le_succ _) | (with_reducible refine Ext.trans ?_ (by assumption)) | (simp; done) | (simp; omega)))⟩
        go_wp2_with fail
        (refine wp_region_aft wr (Ext.refl _) (by kernel_rfl) (by kernel_rfl) ?_; (repeat (go_big_quiet_step ((go_at_call 36; exact aft_same (l01In_any _ _ _ _))))); refine wpQuiet_nil ?_; intro w2 hx2)
        go_wp2
        go_roundw
        case rel => exact ⟨1, by omega, by go_num, by (repeat' (first | (with_reducible exact Ext.refl _) | (with_reducible assumption) | (with_reducible refine Ext.alloc ?_ _) | (with_reducible refine Ext.drewN ?_ _) | (with_reducible refine Ext.drew ?_) | (with_reducible refine Ext.setCell ?_ ?_ _) | (with_reducible exact Nat.le_refl _) | (with_reducible exact Nat.le_succ _) | (with_reducible refine Ext.trans ?_ (by assumption)) | (simp; done) | (simp; omega))), by (show _ = _); rw [HD.out]; simp⟩
        case measure => simp [intOf]; omega
      | succ k =>
        have hlt2 : k < ps.length := by omega
        obtain ⟨b', off', e', hcell'⟩ := HF.out.get k hlt2
        cases e'
        obtain ⟨q1, q2, hq⟩ : ∃ q1 q2, ps[k] = (q1, q2) := ⟨_, _, rfl⟩
        rw [hq] at hcell'
        have y1 : ∀ x : Aft wr, x.1.cell? ⟨b, off + k * 2, none⟩ = some (.int .i64 q1) := fun x => hcell' 0 _ rfl _ (hr.trans x.2)
        have y2 : ∀ x : Aft wr, x.1.cell? ⟨b, off + k * 2 + 1, none⟩ = some (.int .i64 q2) := fun x => hcell' 1 _ rfl _ (hr.trans x.2)
        have HD := Lib.hid (show tabGo ps = (((inR p1 0 1000000000 && inR p2 0 1000000000) && (decide (q1 < p1) && decide (q2 ≤ p2))) && tabFrom ps (k + 2)) by rw [hgo.out, tabFrom_succ ps k hlt', hp, hq, ptOk_eq])
        clear hp hq hgo hcell'
        obtain ⟨b1, hb1⟩ : ∃ b1, inR p1 0 1000000000 = b1 := ⟨_, rfl⟩
        obtain ⟨b2, hb2⟩ : ∃ b2, inR p2 0 1000000000 = b2 := ⟨_, rfl⟩
        rw [hb1, hb2] at HD
        cases b1
        · go_wp2_with fail
          (refine wp_region_aft wr (Ext.refl _) (by kernel_rfl) (by kernel_rfl) ?_; (repeat (go_big_quiet_step ((go_at_call 36; exact aft_same (l01In_any _ _ _ _))))); refine wpQuiet_nil ?_; intro w2 hx2)
          go_wp2
          go_ret
          exact ⟨ret_bool (tab_bad (b := false) (by rw [HD.out]; simp)), by (repeat' (first | (with_reducible exact Ext.refl _) | (with_reducible assumption) | (with_reducible refine Ext.alloc ?_ _) | (with_reducible refine Ext.drewN ?_ _) | (with_reducible refine Ext.drew ?_) | (with_reducible refine Ext.setCell ?_ ?_ _) | (with_reducible exact Nat.le_refl _) | (with_reducible exact Nat.le_succ _) | (with_reducible refine Ext.trans ?_ (by assumption)) | (simp; done) | (simp; omega)))⟩
        cases b2
        · go_wp2_with fail
          (refine wp_region_aft wr (Ext.refl _) (by kernel_rfl) (by kernel_rfl) ?_; (repeat (go_big_quiet_step ((go_at_call 36; exact aft_same (l01In_any _ _ _ _))))); refine wpQuiet_nil ?_; intro w2 hx2)
          go_wp2
          go_ret
          exact ⟨ret_bool (tab_bad (b := false) (by rw [HD.out]; simp)), by (repeat' (first | (with_reducible exact Ext.refl _) | (with_reducible assumption) | (with_reducible refine Ext.alloc ?_ _) | (with_reducible refine Ext.drewN ?_ _) | (with_reducible refine Ext.drew ?_) | (with_reducible refine Ext.setCell ?_ ?_ _) | (with_reducible exact Nat.le_refl _) | (with_reducible exact Nat.le_succ _) | (with_reducible refine Ext.trans ?_ (by assumption)) | (simp; done) | (simp; omega)))⟩
        have k0 : 0 < k + 1 := by omega
        by_cases c1 : p1 ≤ q1
        · have d1 : decide (q1 < p1) = false := by simpa using c1
          go_wp2_with fail
          (refine wp_region_aft wr (Ext.refl _) (by kernel_rfl) (by kernel_rfl) ?_; (repeat (go_big_quiet_step ((go_at_call 36; exact aft_same (l01In_any _ _ _ _))))); refine wpQuiet_nil ?_; intro w2 hx2)
          go_wp2
          go_ret
          exact ⟨ret_bool (tab_bad (b := false) (by rw [HD.out, d1]; simp)), by (repeat' (first | (with_reducible exact Ext.refl _) | (with_reducible assumption) | (with_reducible refine Ext.alloc ?_ _) | (with_reducible refine Ext.drewN ?_ _) | (with_reducible refine Ext.drew ?_) | (with_reducible refine Ext.setCell ?_ ?_ _) | (with_reducible exact Nat.le_refl _) | (with_reducible exact Nat.le_succ _) | (with_reducible refine Ext.trans ?_ (by assumption)) | (simp; done) | (simp; omega)))⟩
        have dd1 : decide (p1 ≤ q1) = false := by simp; omega
        by_cases c2 : p2 < q2
        · have d2 : decide (q2 ≤ p2) = false := by simpa using c2
          go_wp2_with fail
          (refine wp_region_aft wr (Ext.refl _) (by kernel_rfl) (by kernel_rfl) ?_; (repeat (go_big_quiet_step ((go_at_call 36; exact aft_same (l01In_any _ _ _ _))))); refine wpQuiet_nil ?_; intro w2 hx2)
          go_wp2
          go_ret
          exact ⟨ret_bool (tab_bad (b := false) (by rw [HD.out, d2]; simp)), by (repeat' (first | (with_reducible exact Ext.refl _) | (with_reducible assumption) | (with_reducible refine Ext.alloc ?_ _) | (with_reducible refine Ext.drewN ?_ _) | (with_reducible refine Ext.drew ?_) | (with_reducible refine Ext.setCell ?_ ?_ _) | (with_reducible exact Nat.le_refl _) | (with_reducible exact Nat.le_succ _) | (with_reducible refine Ext.trans ?_ (by assumption)) | (simp; done) | (simp; omega)))⟩
        · have dd2 : decide (p2 < q2) = false := by simp; omega
          have d1 : decide (q1 < p1) = true := by simp; omega
          have d2 : decide (q2 ≤ p2) = true := by simp; omega
          go_wp2_with fail
          (refine wp_region_aft wr (Ext.refl _) (by kernel_rfl) (by kernel_rfl) ?_; (repeat (go_big_quiet_step ((go_at_call 36; exact aft_same (l01In_any _ _ _ _))))); refine wpQuiet_nil ?_; intro w2 hx2)
          go_wp2
          go_roundw
          case rel => exact ⟨k + 2, by omega, by go_num, by (repeat' (first | (with_reducible exact Ext.refl _) | (with_reducible assumption) | (with_reducible refine Ext.alloc ?_ _) | (with_reducible refine Ext.drewN ?_ _) | (with_reducible refine Ext.drew ?_) | (with_reducible refine Ext.setCell ?_ ?_ _) | (with_reducible exact Nat.le_refl _) | (with_reducible exact Nat.le_succ _) | (with_reducible refine Ext.trans ?_ (by assumption)) | (simp; done) | (simp; omega))), by (show _ = _); rw [HD.out, d1, d2]; simp⟩
          case measure => simp [intOf]; omega
    · have hkn : k = n := by omega
      have HG := Lib.hid (show tabGo ps = true by rw [hgo.out, hkn, HN.out, tabFrom_end])
      have HT := Lib.hid (show inR (n : Int) 2 20 = tableOk ps by
        rw [tableOk, HG.out, Bool.and_true, inR, ← HN.out]
        exact decide_eq_decide.2 (by omega))
      go_wp2_with ((go_at_call 36; refine (l01In_any _ _ _ _).mono ?_; rintro e w' ⟨rfl, rfl⟩))
      go_ret
      exact ⟨ret_bool HT.out, hr⟩
end Go.Proofs.Ytmppoflgbmabpaa
/- A region that draws its order, walked step by step: what yields in every world of a class is taken first; of the rest, whichever comes up. -/
namespace Go.Proofs.Ytmppoflgbmabpaa
open Go.RowKit
section
variable {P : Program} {Q : Exit → Act → World → Prop} {md : Region.Mode} {S : World → Prop}
theorem take_l {l : List Oper} (i : Nat) {oi : Oper} {v : Value} {fuel : Nat} {listed : Array Bool} {a : Act} {w : World} (hi : l[i]? = some oi)
    (hs : Region.noSelect l.toArray = true) (hf : Region.free md l.toArray listed i = true) (hr : (Region.ready md l.toArray listed).contains i = true)
    (hQ : ∀ c a w, Q (.panic c) (a.put oi.dst v) w → Q (.panic c) a w) (hw : Region.wanted oi (yielded l.toArray a.tmps) = true)
    (hy : ∀ w, S w → (execOp a.eval oi).run P w = .ok (.value v) w) (hS : S w)
    (h : wpAnyH P md l.toArray Q S fuel (listed.setIfInBounds i true) (a.put oi.dst v) w) : wpAnyH P md l.toArray Q S (fuel + 1) listed a w :=
  wpAnyH_take (by simpa using hi) hs hf hr hQ (Or.inl ⟨hw, hy⟩) hS h
theorem cons_l {l : List Oper} {fuel : Nat} {listed : Array Bool} {a : Act} {w : World} {i : Nat} {o : Oper} {rs : List Nat} (ho : l[i]? = some o)
    (h : ∀ K' : Act → World → Prop, Shut (∀ a w, S w → (S w → wpAnyH P md l.toArray Q S fuel (listed.setIfInBounds i true) a w) → K' a w) → if Region.wanted o (yielded l.toArray a.tmps) = true then Oper.wp P o a w K' Q else K' (a.put o.dst undef) w)
    (hs : AllReadyH P md l.toArray Q S fuel listed a w rs) : AllReadyH P md l.toArray Q S fuel listed a w (i :: rs) :=
  AllReadyH.cons (by simpa using ho) h hs
end
end Go.Proofs.Ytmppoflgbmabpaa
