/- LengthOf and WidthOf: what they compute, on both sides. -/
import Derived.Test.YtmppoflgbmabpaaProg
import Derived.Test.YtmppoflgbmabpaaM1
import Derived.Maps.AppendAt
import Derived.Laws.OwnMore
import Derived.Deep.AppendLies
import Derived.Deep.RegionHeld3
import Derived.Lib.SliceRun
namespace Go.Proofs.Ytmppoflgbmabpaa
open Go.RowKit
set_option linter.unusedSimpArgs false
set_option linter.unusedVariables false

theorem boatsGo_ok : ∀ (bs : List Bt) (seen : List Int), boatsGo seen bs = true → ∀ b ∈ bs, bOk b = true
  | [], _, _, b, hb => by cases hb
  | c :: bs, seen, h, b, hb => by
    rw [boatsGo, Bool.and_eq_true, Bool.and_eq_true] at h
    rcases List.mem_cons.1 hb with rfl | hb
    · exact h.1.1
    · exact boatsGo_ok bs _ h.2 b hb
theorem bOk_bounds {b : Bt} (h : bOk b = true) : (1 ≤ b.id ∧ b.id ≤ 9999) ∧ (1 ≤ b.len ∧ b.len ≤ 200) ∧ (1 ≤ b.wid ∧ b.wid ≤ 30) ∧ (1 ≤ b.dra ∧ b.dra ≤ 100) ∧ (1 ≤ b.spd ∧ b.spd ≤ 50) ∧ (0 ≤ b.cls ∧ b.cls ≤ 2) := by
  unfold bOk boatOk at h
  simp only [Bool.and_eq_true] at h
  obtain ⟨⟨⟨⟨⟨h1, h2⟩, h3⟩, h4⟩, h5⟩, h6⟩ := h
  exact ⟨inR_true h1, inR_true h2, inR_true h3, inR_true h4, inR_true h5, inR_true h6⟩
theorem trainOk_boats {rows : List (List Bt)} (h : trainOk rows = true) {r : List Bt} (hr : r ∈ rows) {b : Bt} (hb : b ∈ r) : bOk b = true :=
  boatsGo_ok _ _ (trainOk_true h).2.2.2.2.2 b (List.mem_flatten.2 ⟨r, hr, hb⟩)

def mostLen (n : Int) (row : List Bt) : Int := row.foldl (fun n b => if n < b.len then b.len else n) n
def lenGo (s : Int) (rows : List (List Bt)) : Int := rows.foldl (fun s r => s + (mostLen 0 r)) s
def lengthOf (rows : List (List Bt)) : Int := if trainOk rows then lenGo 0 rows else 0

set_option maxHeartbeats 4000000 in
theorem implLengthOf_any (u : Bool) (a : Option Addr) (n c : Nat) (rows : List (List Bt)) (w : World) (hn : n = rows.length) (hs : n ≤ 1048576) (ht : rows.flatten.length ≤ 1048576) (hf : RowsAt w a rows) :
    Calls Try.prog 57 #[.agg #[.bool u, .slice a n c]] w fun e w' => e = .returned (.int .i64 (lengthOf rows)) ∧ Ext w w' := by
  have HF := Lib.hid hf; clear hf
  have HS := Lib.hid hs
  have HT := Lib.hid ht; clear ht
  cases hok : trainOk rows
  · have hR := Lib.hid (show lengthOf rows = 0 by rw [lengthOf, hok]; rfl)
    have OK := Lib.hid hok; clear hok
    have HN := Lib.hid hn; clear hn
    go_enter Try.func57, Try.ntmps57
    go_wp2_with fail
    (with_reducible refine (OK.out ▸ implTrainOk_any _ _ _ _ rows _ HN.out HS.out HT.out (HF.out.ext (by (repeat' (first | (with_reducible exact Ext.refl _) | (with_reducible assumption) | (with_reducible refine Ext.alloc ?_ _) | (with_reducible refine Ext.drewN ?_ _) | (with_reducible refine Ext.drew ?_) | (with_reducible refine Ext.setCell ?_ ?_ _) | (with_reducible exact Nat.le_refl _) | (with_reducible exact Nat.le_succ _) | (with_reducible refine Ext.trans ?_ (by assumption)) | (simp; done) | (simp; omega)))))).mono ?_); rintro e w1 ⟨rfl, hb1⟩
    have x0_1 := hb1
    obtain ⟨hc0_1, hf0_1⟩ := bcell x0_1.below
    have z0_1_0 : w.heap.size < w1.heap.size := by have h := x0_1.size; simp at h; omega
    go_wp2
    go_ret
    exact ⟨ret_int hR.out.symm, by (repeat' (first | (with_reducible exact Ext.refl _) | (with_reducible assumption) | (with_reducible refine Ext.alloc ?_ _) | (with_reducible refine Ext.drewN ?_ _) | (with_reducible refine Ext.drew ?_) | (with_reducible refine Ext.setCell ?_ ?_ _) | (with_reducible exact Nat.le_refl _) | (with_reducible exact Nat.le_succ _) | (with_reducible refine Ext.trans ?_ (by assumption)) | (simp; done) | (simp; omega)))⟩
  · obtain ⟨_, _, _, ht6, hn6, _⟩ := trainOk_true hok
    rw [← hn] at hn6
    have hR := Lib.hid (show lengthOf rows = lenGo 0 (rows.drop 0) by rw [lengthOf, hok, List.drop_zero]; rfl)
    obtain ⟨R, hR'⟩ : ∃ R, lengthOf rows = R := ⟨_, rfl⟩
    rw [hR'] at hR ⊢
    clear hR'
    have OK := Lib.hid hok; clear hok
    have HN := Lib.hid hn; clear hn
    have HT6 := Lib.hid ht6; clear ht6
    go_enter Try.func57, Try.ntmps57
    go_wp2_with fail
    (with_reducible refine (OK.out ▸ implTrainOk_any _ _ _ _ rows _ HN.out HS.out HT.out (HF.out.ext (by (repeat' (first | (with_reducible exact Ext.refl _) | (with_reducible assumption) | (with_reducible refine Ext.alloc ?_ _) | (with_reducible refine Ext.drewN ?_ _) | (with_reducible refine Ext.drew ?_) | (with_reducible refine Ext.setCell ?_ ?_ _) | (with_reducible exact Nat.le_refl _) | (with_reducible exact Nat.le_succ _) | (with_reducible refine Ext.trans ?_ (by assumption)) | (simp; done) | (simp; omega)))))).mono ?_); rintro e w1 ⟨rfl, hb1⟩
    have x0_1 := hb1
    obtain ⟨hc0_1, hf0_1⟩ := bcell x0_1.below
    have z0_1_0 : w.heap.size < w1.heap.size := by have h := x0_1.size; simp at h; omega
    have HB := Lib.hid (Ext.trans ((Ext.refl w).alloc _) hb1)
    go_wp2
    go_loopw [3, 15] (fun s i wr => ∃ (k : Nat) (z : Int), k ≤ n ∧ i = .int .i64 k ∧ s = .int .i64 z ∧ 0 ≤ z ∧ z ≤ 200 * ((k : Nat) : Int) ∧ Ext w wr ∧ Hid (R = lenGo z (rows.drop k))) (fun _ i _ => n - (intOf i).toNat)
    case atStart => exact ⟨0, 0, Nat.zero_le _, rfl, rfl, Int.le_refl _, by decide, HB.out, hR⟩
    case round =>
      obtain ⟨w2, rfl⟩ : ∃ x, x = wr := ⟨_, rfl⟩
      obtain ⟨k, z, hk, rfl, rfl, hz0, hz1, hr0, hgo⟩ := hrel
      by_cases hlt : k < n
      · have hlt' : k < rows.length := by rw [← HN.out]; exact hlt
        obtain ⟨b, off, a', c', rfl, hc0, hml, hfr⟩ := HF.out k hlt'
        have e0 : w2.cell? ⟨b, off + k, none⟩ = some (.slice a' rows[k].length c') := hr0.cell hc0
        have hd := List.drop_eq_getElem_cons hlt'
        have hml2 := Nat.le_trans (row_le hlt') HT6.out
        have hmem : rows[k] ∈ rows := List.getElem_mem _
        obtain ⟨row, hrow'⟩ : ∃ row, rows[k] = row := ⟨_, rfl⟩
        rw [hrow'] at e0 hfr hd hml2 hmem hc0
        have HG := Lib.hid (show R = lenGo (z + (mostLen 0 (row.drop 0))) (rows.drop (k + 1)) by rw [hgo.out, hd, List.drop_zero]; rfl)
        have HMEM := Lib.hid hmem; clear hmem
        clear hgo hd hrow' hml
        obtain ⟨p, hp⟩ : ∃ p, p = row.length := ⟨_, rfl⟩
        rw [← hp] at e0 hml2 hc0
        have HC0 := Lib.hid hc0; clear hc0
        have HFR := Lib.hid hfr; clear hfr
        have HP := Lib.hid hp; clear hp
        have HR0 := Lib.hid hr0
        go_wp2
        go_loopw [6, 21] (fun m i wr => ∃ (q : Nat) (y : Int), q ≤ p ∧ i = .int .i64 q ∧ m = .int .i64 y ∧ 0 ≤ y ∧ y ≤ 200 ∧ Ext w wr ∧ Hid (R = lenGo (z + (mostLen y (row.drop q))) (rows.drop (k + 1)))) (fun _ i _ => p - (intOf i).toNat)
        case atStart => exact ⟨0, 0, Nat.zero_le _, rfl, rfl, Int.le_refl _, by decide, by (repeat' (first | (with_reducible exact Ext.refl _) | (with_reducible assumption) | (with_reducible refine Ext.alloc ?_ _) | (with_reducible refine Ext.drewN ?_ _) | (with_reducible refine Ext.drew ?_) | (with_reducible refine Ext.setCell ?_ ?_ _) | (with_reducible exact Nat.le_refl _) | (with_reducible exact Nat.le_succ _) | (with_reducible refine Ext.trans ?_ (by assumption)) | (simp; done) | (simp; omega))), HG⟩
        case round =>
          obtain ⟨q, y, hq, rfl, rfl, hy0, hy1, hr, hgo⟩ := hrel
          by_cases hlt : q < p
          · have hlt2 : q < row.length := by rw [← HP.out]; exact hlt
            obtain ⟨b2, off2, rfl, hcell⟩ := HFR.out.get q hlt2
            have hd := List.drop_eq_getElem_cons hlt2
            obtain ⟨bt, hbt⟩ : ∃ bt, row[q] = bt := ⟨_, rfl⟩
            have hbo := bOk_bounds (trainOk_boats OK.out HMEM.out (hbt ▸ List.getElem_mem hlt2))
            rw [hbt] at hcell hd
            clear hbt
            obtain ⟨bi, bl, bw, bd, bs, bc⟩ := bt
            have hl1 : 1 ≤ bl := hbo.2.1.1
            have hl2 : bl ≤ 200 := hbo.2.1.2
            have g0 : wr.cell? ⟨b2, off2 + q * 6, none⟩ = some (.int .i64 bi) := hcell 0 _ rfl _ hr
            have g1 : wr.cell? ⟨b2, off2 + q * 6 + 1, none⟩ = some (.int .i64 bl) := hcell 1 _ rfl _ hr
            have g2 : wr.cell? ⟨b2, off2 + q * 6 + 2, none⟩ = some (.int .i64 bw) := hcell 2 _ rfl _ hr
            have g3 : wr.cell? ⟨b2, off2 + q * 6 + 3, none⟩ = some (.int .i64 bd) := hcell 3 _ rfl _ hr
            have g4 : wr.cell? ⟨b2, off2 + q * 6 + 4, none⟩ = some (.int .i64 bs) := hcell 4 _ rfl _ hr
            have g5 : wr.cell? ⟨b2, off2 + q * 6 + 5, none⟩ = some (.int .i64 bc) := hcell 5 _ rfl _ hr
            have HG2 := Lib.hid (show R = lenGo (z + (mostLen (if y < bl then bl else y) (row.drop (q + 1)))) (rows.drop (k + 1)) by rw [hgo.out, hd]; rfl)
            clear hcell hd hgo hbo
            go_wp2
            go_roundw
            case rel => exact ⟨q + 1, if y < bl then bl else y, by omega, by go_num, rfl, by (first | omega | (split <;> omega)), by (first | omega | (split <;> omega)), by (repeat' (first | (with_reducible exact Ext.refl _) | (with_reducible assumption) | (with_reducible refine Ext.alloc ?_ _) | (with_reducible refine Ext.drewN ?_ _) | (with_reducible refine Ext.drew ?_) | (with_reducible refine Ext.setCell ?_ ?_ _) | (with_reducible exact Nat.le_refl _) | (with_reducible exact Nat.le_succ _) | (with_reducible refine Ext.trans ?_ (by assumption)) | (simp; done) | (simp; omega))), HG2⟩
            case measure => simp [intOf]; omega
          · have hqp : q = p := by omega
            have HG2 := Lib.hid (show R = lenGo (z + y) (rows.drop (k + 1)) by rw [hgo.out, List.drop_eq_nil_of_le (by have := HP.out; omega)]; rfl)
            clear hgo
            go_wp2
            go_roundw
            case rel => exact ⟨k + 1, z + y, by omega, by go_num, rfl, by (first | omega | (split <;> omega)), by (first | omega | (split <;> omega)), hr, HG2⟩
            case measure => simp [intOf]; omega
      · have hR2 := Lib.hid (show R = z by rw [hgo.out, List.drop_eq_nil_of_le (by have := HN.out; omega)]; rfl)
        go_wp2
        go_ret
        exact ⟨ret_int hR2.out.symm, by (repeat' (first | (with_reducible exact Ext.refl _) | (with_reducible assumption) | (with_reducible refine Ext.alloc ?_ _) | (with_reducible refine Ext.drewN ?_ _) | (with_reducible refine Ext.drew ?_) | (with_reducible refine Ext.setCell ?_ ?_ _) | (with_reducible exact Nat.le_refl _) | (with_reducible exact Nat.le_succ _) | (with_reducible refine Ext.trans ?_ (by assumption)) | (simp; done) | (simp; omega)))⟩

set_option maxHeartbeats 4000000 in
theorem specLengthOf_any (u : Bool) (a : Option Addr) (n c : Nat) (rows : List (List Bt)) (w : World) (hn : n = rows.length) (hs : n ≤ 1048576) (ht : rows.flatten.length ≤ 1048576) (hf : RowsAt w a rows) :
    Calls Try.prog 63 #[.agg #[.bool u, .slice a n c]] w fun e w' => e = .returned (.int .i64 (lengthOf rows)) ∧ Ext w w' := by
  have HF := Lib.hid hf; clear hf
  have HS := Lib.hid hs
  have HT := Lib.hid ht; clear ht
  cases hok : trainOk rows
  · have hR := Lib.hid (show lengthOf rows = 0 by rw [lengthOf, hok]; rfl)
    have OK := Lib.hid hok; clear hok
    have HN := Lib.hid hn; clear hn
    go_enter Try.func63, Try.ntmps63
    go_wp2
    go_loopw [3, 4] (fun s i wr => s = .int .i64 0 ∧ i = .int .i64 0 ∧ Ext w wr ∧ RowAt wr w.heap.size 47 #[.bool u, .slice a n c]) (fun _ i _ => n - (intOf i).toNat)
    case atStart => exact ⟨rfl, rfl, by (repeat' (first | (with_reducible exact Ext.refl _) | (with_reducible assumption) | (with_reducible refine Ext.alloc ?_ _) | (with_reducible refine Ext.drewN ?_ _) | (with_reducible refine Ext.drew ?_) | (with_reducible refine Ext.setCell ?_ ?_ _) | (with_reducible exact Nat.le_refl _) | (with_reducible exact Nat.le_succ _) | (with_reducible refine Ext.trans ?_ (by assumption)) | (simp; done) | (simp; omega))), RowAt.new _ _ _⟩
    case round =>
      obtain ⟨rfl, rfl, hr, hrow⟩ := hrel
      have g0 : wr.cell? ⟨w.heap.size, 0, none⟩ = some (.bool u) := hrow.cell rfl
      have g1 : wr.cell? ⟨w.heap.size, 1, none⟩ = some (.slice a n c) := hrow.cell rfl
      by_cases h0 : n = 0
      · subst h0
        go_wp2
        go_ret
        exact ⟨ret_int hR.out.symm, by (repeat' (first | (with_reducible exact Ext.refl _) | (with_reducible assumption) | (with_reducible refine Ext.alloc ?_ _) | (with_reducible refine Ext.drewN ?_ _) | (with_reducible refine Ext.drew ?_) | (with_reducible refine Ext.setCell ?_ ?_ _) | (with_reducible exact Nat.le_refl _) | (with_reducible exact Nat.le_succ _) | (with_reducible refine Ext.trans ?_ (by assumption)) | (simp; done) | (simp; omega)))⟩
      · have hpos : 0 < n := by omega
        go_wp2_with (go_at_call 61; refine (OK.out ▸ specTrainOk_any _ _ _ _ rows _ HN.out HS.out HT.out (HF.out.ext hr)).mono ?_; rintro e w9 ⟨rfl, hb9⟩)
        go_ret
        exact ⟨ret_int hR.out.symm, by (repeat' (first | (with_reducible exact Ext.refl _) | (with_reducible assumption) | (with_reducible refine Ext.alloc ?_ _) | (with_reducible refine Ext.drewN ?_ _) | (with_reducible refine Ext.drew ?_) | (with_reducible refine Ext.setCell ?_ ?_ _) | (with_reducible exact Nat.le_refl _) | (with_reducible exact Nat.le_succ _) | (with_reducible refine Ext.trans ?_ (by assumption)) | (simp; done) | (simp; omega)))⟩
  · obtain ⟨_, _, _, ht6, hn6, _⟩ := trainOk_true hok
    rw [← hn] at hn6
    have hR := Lib.hid (show lengthOf rows = lenGo 0 (rows.drop 0) by rw [lengthOf, hok, List.drop_zero]; rfl)
    obtain ⟨R, hR'⟩ : ∃ R, lengthOf rows = R := ⟨_, rfl⟩
    rw [hR'] at hR ⊢
    clear hR'
    have OK := Lib.hid hok; clear hok
    have HN := Lib.hid hn; clear hn
    have HT6 := Lib.hid ht6; clear ht6
    go_enter Try.func63, Try.ntmps63
    skip
    go_wp2
    go_loopw [3, 4] (fun s i wr => ∃ (k : Nat) (z : Int), k ≤ n ∧ i = .int .i64 k ∧ s = .int .i64 z ∧ 0 ≤ z ∧ z ≤ 200 * ((k : Nat) : Int) ∧ Ext w wr ∧ RowAt wr w.heap.size 47 #[.bool u, .slice a n c] ∧ Hid (R = lenGo z (rows.drop k))) (fun _ i _ => n - (intOf i).toNat)
    case atStart => exact ⟨0, 0, Nat.zero_le _, rfl, rfl, Int.le_refl _, by decide, by (repeat' (first | (with_reducible exact Ext.refl _) | (with_reducible assumption) | (with_reducible refine Ext.alloc ?_ _) | (with_reducible refine Ext.drewN ?_ _) | (with_reducible refine Ext.drew ?_) | (with_reducible refine Ext.setCell ?_ ?_ _) | (with_reducible exact Nat.le_refl _) | (with_reducible exact Nat.le_succ _) | (with_reducible refine Ext.trans ?_ (by assumption)) | (simp; done) | (simp; omega))), RowAt.new _ _ _, hR⟩
    case round =>
      obtain ⟨w2, rfl⟩ : ∃ x, x = wr := ⟨_, rfl⟩
      obtain ⟨k, z, hk, rfl, rfl, hz0, hz1, hr0, hrow0, hgo⟩ := hrel
      have t0 : w2.cell? ⟨w.heap.size, 0, none⟩ = some (.bool u) := hrow0.cell rfl
      have t1 : w2.cell? ⟨w.heap.size, 1, none⟩ = some (.slice a n c) := hrow0.cell rfl
      by_cases hlt : k < n
      · have hlt' : k < rows.length := by rw [← HN.out]; exact hlt
        obtain ⟨b, off, a', c', rfl, hc0, hml, hfr⟩ := HF.out k hlt'
        have e0 : w2.cell? ⟨b, off + k, none⟩ = some (.slice a' rows[k].length c') := hr0.cell hc0
        have hd := List.drop_eq_getElem_cons hlt'
        have hml2 := Nat.le_trans (row_le hlt') HT6.out
        have hmem : rows[k] ∈ rows := List.getElem_mem _
        obtain ⟨row, hrow'⟩ : ∃ row, rows[k] = row := ⟨_, rfl⟩
        rw [hrow'] at e0 hfr hd hml2 hmem hc0
        have HG := Lib.hid (show R = lenGo (z + (mostLen 0 (row.drop 0))) (rows.drop (k + 1)) by rw [hgo.out, hd, List.drop_zero]; rfl)
        have HMEM := Lib.hid hmem; clear hmem
        clear hgo hd hrow' hml
        obtain ⟨p, hp⟩ : ∃ p, p = row.length := ⟨_, rfl⟩
        rw [← hp] at e0 hml2 hc0
        have HC0 := Lib.hid hc0; clear hc0
        have HFR := Lib.hid hfr; clear hfr
        have HP := Lib.hid hp; clear hp
        have HR0 := Lib.hid hr0
        go_wp2_with fail
        refine (OK.out ▸ specTrainOk_any _ _ _ _ rows _ HN.out HS.out HT.out (HF.out.ext hr0)).mono ?_
        rintro e w9 ⟨rfl, hb9⟩
        have hrow9 := hrow0.ext hb9
        have hr9 := hr0.trans hb9
        clear t0 t1 e0
        go_wp2
        go_loopw [5, 6] (fun m i wr => ∃ (q : Nat) (y : Int), q ≤ p ∧ i = .int .i64 q ∧ m = .int .i64 y ∧ 0 ≤ y ∧ y ≤ 200 ∧ Ext w wr ∧ RowAt wr w.heap.size 47 #[.bool u, .slice (some ⟨b, off, none⟩) n c] ∧ Hid (R = lenGo (z + (mostLen y (row.drop q))) (rows.drop (k + 1)))) (fun _ i _ => p - (intOf i).toNat)
        case atStart => exact ⟨0, 0, Nat.zero_le _, rfl, rfl, Int.le_refl _, by decide, hr9, hrow9, HG⟩
        case round =>
          obtain ⟨q, y, hq, rfl, rfl, hy0, hy1, hr, hrow, hgo⟩ := hrel
          have t0 : wr.cell? ⟨w.heap.size, 0, none⟩ = some (.bool u) := hrow.cell rfl
          have t1 : wr.cell? ⟨w.heap.size, 1, none⟩ = some (.slice (some ⟨b, off, none⟩) n c) := hrow.cell rfl
          have e0 : wr.cell? ⟨b, off + k, none⟩ = some (.slice a' p c') := hr.cell HC0.out
          by_cases hlt : q < p
          · have hlt2 : q < row.length := by rw [← HP.out]; exact hlt
            obtain ⟨b2, off2, rfl, hcell⟩ := HFR.out.get q hlt2
            have hd := List.drop_eq_getElem_cons hlt2
            obtain ⟨bt, hbt⟩ : ∃ bt, row[q] = bt := ⟨_, rfl⟩
            have hbo := bOk_bounds (trainOk_boats OK.out HMEM.out (hbt ▸ List.getElem_mem hlt2))
            rw [hbt] at hcell hd
            clear hbt
            obtain ⟨bi, bl, bw, bd, bs, bc⟩ := bt
            have hl1 : 1 ≤ bl := hbo.2.1.1
            have hl2 : bl ≤ 200 := hbo.2.1.2
            have g0 : wr.cell? ⟨b2, off2 + q * 6, none⟩ = some (.int .i64 bi) := hcell 0 _ rfl _ hr
            have g1 : wr.cell? ⟨b2, off2 + q * 6 + 1, none⟩ = some (.int .i64 bl) := hcell 1 _ rfl _ hr
            have g2 : wr.cell? ⟨b2, off2 + q * 6 + 2, none⟩ = some (.int .i64 bw) := hcell 2 _ rfl _ hr
            have g3 : wr.cell? ⟨b2, off2 + q * 6 + 3, none⟩ = some (.int .i64 bd) := hcell 3 _ rfl _ hr
            have g4 : wr.cell? ⟨b2, off2 + q * 6 + 4, none⟩ = some (.int .i64 bs) := hcell 4 _ rfl _ hr
            have g5 : wr.cell? ⟨b2, off2 + q * 6 + 5, none⟩ = some (.int .i64 bc) := hcell 5 _ rfl _ hr
            have HG2 := Lib.hid (show R = lenGo (z + (mostLen (if y < bl then bl else y) (row.drop (q + 1)))) (rows.drop (k + 1)) by rw [hgo.out, hd]; rfl)
            clear hcell hd hgo hbo
            go_wp2
            go_roundw
            case rel => exact ⟨q + 1, if y < bl then bl else y, by omega, by go_num, rfl, by (first | omega | (split <;> omega)), by (first | omega | (split <;> omega)), by (repeat' (first | (with_reducible exact Ext.refl _) | (with_reducible assumption) | (with_reducible refine Ext.alloc ?_ _) | (with_reducible refine Ext.drewN ?_ _) | (with_reducible refine Ext.drew ?_) | (with_reducible refine Ext.setCell ?_ ?_ _) | (with_reducible exact Nat.le_refl _) | (with_reducible exact Nat.le_succ _) | (with_reducible refine Ext.trans ?_ (by assumption)) | (simp; done) | (simp; omega))), hrow, HG2⟩
            case measure => simp [intOf]; omega
          · have hqp : q = p := by omega
            have HG2 := Lib.hid (show R = lenGo (z + y) (rows.drop (k + 1)) by rw [hgo.out, List.drop_eq_nil_of_le (by have := HP.out; omega)]; rfl)
            clear hgo
            go_wp2
            go_roundw
            case rel => exact ⟨k + 1, z + y, by omega, by go_num, rfl, by (first | omega | (split <;> omega)), by (first | omega | (split <;> omega)), hr, hrow, HG2⟩
            case measure => simp [intOf]; omega
      · have hR2 := Lib.hid (show R = z by rw [hgo.out, List.drop_eq_nil_of_le (by have := HN.out; omega)]; rfl)
        go_wp2
        go_ret
        exact ⟨ret_int hR2.out.symm, by (repeat' (first | (with_reducible exact Ext.refl _) | (with_reducible assumption) | (with_reducible refine Ext.alloc ?_ _) | (with_reducible refine Ext.drewN ?_ _) | (with_reducible refine Ext.drew ?_) | (with_reducible refine Ext.setCell ?_ ?_ _) | (with_reducible exact Nat.le_refl _) | (with_reducible exact Nat.le_succ _) | (with_reducible refine Ext.trans ?_ (by assumption)) | (simp; done) | (simp; omega)))⟩
end Go.Proofs.Ytmppoflgbmabpaa
/- DraughtOf, SpeedOf, ClassOf: what they compute, on both sides. -/
namespace Go.Proofs.Ytmppoflgbmabpaa
open Go.RowKit
set_option linter.unusedSimpArgs false
set_option linter.unusedVariables false

/-- A valid train's first boat. -/
theorem trainOk_head {rows : List (List Bt)} (h : trainOk rows = true) : ∃ b r rs, rows = (b :: r) :: rs := by
  obtain ⟨h1, h2, _⟩ := trainOk_true h
  match rows, h1, h2 with
  | r :: rs, _, h2 =>
    match r, h2 r (by simp) with
    | b :: r, _ => exact ⟨b, r, rs, rfl⟩
theorem headCells {w : World} {a : Option Addr} {b0 : Bt} {r : List Bt} {rs : List (List Bt)} (h : RowsAt w a ((b0 :: r) :: rs)) :
    ∃ b off b2 off2 c', a = some ⟨b, off, none⟩ ∧ w.cell? ⟨b, off, none⟩ = some (.slice (some ⟨b2, off2, none⟩) (r.length + 1) c') ∧
      ∀ j v, (bCells b0)[j]? = some v → w.cell? ⟨b2, off2 + j, none⟩ = some v := by
  obtain ⟨b, off, a', c', rfl, hc, _, hf⟩ := h 0 (by simp)
  obtain ⟨b2, off2, rfl, hcell⟩ := hf 0 (by simp)
  exact ⟨b, off, b2, off2, c', rfl, by simpa using hc, fun j v hv => by simpa using hcell j v (by simpa using hv)⟩
theorem implBoats_is {flat : List Bt} {m : Nat} (u : Bool) (a : Option Addr) (n c : Nat) (rows : List (List Bt)) (w : World) (hn : n = rows.length) (hs : n ≤ maxLen) (ht : rows.flatten.length ≤ 1048576) (hf : RowsAt w a rows) (hfl : flat = rows.flatten) (hm : m = flat.length) :
    Calls Try.prog 43 #[.agg #[.bool u, .slice a n c]] w fun e w' => ∃ (a : Option Addr) (c : Nat), e = .returned (.slice a m c) ∧ (FlatAt w' bCells 6 a flat ∧ ∀ ad, a = some ad → w.heap.size ≤ ad.block) ∧ Ext w w' := by
  subst hfl hm
  exact implBoatsOf_any u a n c rows w hn hs ht hf
theorem specBoats_is {flat : List Bt} {m : Nat} (u : Bool) (a : Option Addr) (n c : Nat) (rows : List (List Bt)) (w : World) (hn : n = rows.length) (hs : n ≤ maxLen) (ht : rows.flatten.length ≤ 1048576) (hf : RowsAt w a rows) (hfl : flat = rows.flatten) (hm : m = flat.length) :
    Calls Try.prog 67 #[.agg #[.bool u, .slice a n c]] w fun e w' => ∃ (a : Option Addr) (c : Nat), e = .returned (.slice a m c) ∧ (FlatAt w' bCells 6 a flat ∧ ∀ ad, a = some ad → w.heap.size ≤ ad.block) ∧ Ext w w' := by
  subst hfl hm
  exact specBoats_any u a n c rows w hn hs ht hf

def draGo (n : Int) (bs : List Bt) : Int := bs.foldl (fun n b => if n < b.dra then b.dra else n) n
def draughtOf (rows : List (List Bt)) : Int := if trainOk rows then draGo 0 rows.flatten else 0

set_option maxHeartbeats 4000000 in
theorem implDraughtOf_any (u : Bool) (a : Option Addr) (n c : Nat) (rows : List (List Bt)) (w : World) (hn : n = rows.length) (hs : n ≤ 1048576) (ht : rows.flatten.length ≤ 1048576) (hf : RowsAt w a rows) :
    Calls Try.prog 18 #[.agg #[.bool u, .slice a n c]] w fun e w' => e = .returned (.int .i64 (draughtOf rows)) ∧ Ext w w' := by
  have HF := Lib.hid hf; clear hf
  have HS := Lib.hid hs
  have HSM := Lib.hid (show n ≤ maxLen by unfold maxLen; omega)
  have HT := Lib.hid ht
  obtain ⟨flat, hfl⟩ : ∃ flat, flat = rows.flatten := ⟨_, rfl⟩
  have HFLAT := Lib.hid hfl
  obtain ⟨m, hm⟩ : ∃ m, m = flat.length := ⟨_, rfl⟩
  have hm2 : m ≤ 1048576 := by rw [hm, hfl]; exact ht
  have HM := Lib.hid hm
  clear hm hfl ht
  cases hok : trainOk rows
  · have hR := Lib.hid (show draughtOf rows = 0 by rw [draughtOf, hok]; rfl)
    have OK := Lib.hid hok; clear hok
    have HN := Lib.hid hn; clear hn
    go_enter Try.func18, Try.ntmps18
    go_wp2_with fail
    (with_reducible refine (OK.out ▸ implTrainOk_any _ _ _ _ rows _ HN.out HS.out HT.out (HF.out.ext (by (repeat' (first | (with_reducible exact Ext.refl _) | (with_reducible assumption) | (with_reducible refine Ext.alloc ?_ _) | (with_reducible refine Ext.drewN ?_ _) | (with_reducible refine Ext.drew ?_) | (with_reducible refine Ext.setCell ?_ ?_ _) | (with_reducible exact Nat.le_refl _) | (with_reducible exact Nat.le_succ _) | (with_reducible refine Ext.trans ?_ (by assumption)) | (simp; done) | (simp; omega)))))).mono ?_); rintro e w1 ⟨rfl, hb1⟩
    have x0_1 := hb1
    obtain ⟨hc0_1, hf0_1⟩ := bcell x0_1.below
    have z0_1_0 : w.heap.size < w1.heap.size := by have h := x0_1.size; simp at h; omega
    go_wp2
    go_ret
    exact ⟨ret_int hR.out.symm, by (repeat' (first | (with_reducible exact Ext.refl _) | (with_reducible assumption) | (with_reducible refine Ext.alloc ?_ _) | (with_reducible refine Ext.drewN ?_ _) | (with_reducible refine Ext.drew ?_) | (with_reducible refine Ext.setCell ?_ ?_ _) | (with_reducible exact Nat.le_refl _) | (with_reducible exact Nat.le_succ _) | (with_reducible refine Ext.trans ?_ (by assumption)) | (simp; done) | (simp; omega)))⟩
  · have hbo := fun b (hb : b ∈ flat) => bOk_bounds (boatsGo_ok _ _ (trainOk_true hok).2.2.2.2.2 b (HFLAT.out ▸ hb))
    have HBO := Lib.hid hbo; clear hbo
    have hR := Lib.hid (show draughtOf rows = draGo 0 (flat.drop 0) by rw [draughtOf, hok, List.drop_zero, HFLAT.out]; rfl)
    obtain ⟨R, hR'⟩ : ∃ R, draughtOf rows = R := ⟨_, rfl⟩
    rw [hR'] at hR ⊢
    clear hR'
    have OK := Lib.hid hok; clear hok
    have HN := Lib.hid hn; clear hn
    go_enter Try.func18, Try.ntmps18
    go_wp2_with fail
    (with_reducible refine (OK.out ▸ implTrainOk_any _ _ _ _ rows _ HN.out HS.out HT.out (HF.out.ext (by (repeat' (first | (with_reducible exact Ext.refl _) | (with_reducible assumption) | (with_reducible refine Ext.alloc ?_ _) | (with_reducible refine Ext.drewN ?_ _) | (with_reducible refine Ext.drew ?_) | (with_reducible refine Ext.setCell ?_ ?_ _) | (with_reducible exact Nat.le_refl _) | (with_reducible exact Nat.le_succ _) | (with_reducible refine Ext.trans ?_ (by assumption)) | (simp; done) | (simp; omega)))))).mono ?_); rintro e w1 ⟨rfl, hb1⟩
    have x0_1 := hb1
    obtain ⟨hc0_1, hf0_1⟩ := bcell x0_1.below
    have z0_1_0 : w.heap.size < w1.heap.size := by have h := x0_1.size; simp at h; omega
    go_wp2_with fail
    (with_reducible refine (implBoats_is _ _ _ _ rows _ HN.out HSM.out HT.out (HF.out.ext (by (repeat' (first | (with_reducible exact Ext.refl _) | (with_reducible assumption) | (with_reducible refine Ext.alloc ?_ _) | (with_reducible refine Ext.drewN ?_ _) | (with_reducible refine Ext.drew ?_) | (with_reducible refine Ext.setCell ?_ ?_ _) | (with_reducible exact Nat.le_refl _) | (with_reducible exact Nat.le_succ _) | (with_reducible refine Ext.trans ?_ (by assumption)) | (simp; done) | (simp; omega))))) HFLAT.out HM.out).mono ?_); rintro e w2 ⟨a9, c9, rfl, ⟨hflat, _⟩, hb2⟩
    have x1_2 := hb2
    have x0_2 : Ext _ w2 := x0_1.trans (Ext.trans (b := _) (by (repeat' (first | (with_reducible exact Ext.refl _) | (with_reducible assumption) | (with_reducible refine Ext.alloc ?_ _) | (with_reducible refine Ext.drewN ?_ _) | (with_reducible refine Ext.drew ?_) | (with_reducible refine Ext.setCell ?_ ?_ _) | (with_reducible exact Nat.le_refl _) | (with_reducible exact Nat.le_succ _) | (with_reducible refine Ext.trans ?_ (by assumption)) | (simp; done) | (simp; omega)))) hb2)
    obtain ⟨hc0_2, hf0_2⟩ := bcell x0_2.below
    have z0_2_0 : w.heap.size < w2.heap.size := by have h := x0_2.size; simp at h; omega
    have HB := Lib.hid ((Ext.trans ((Ext.refl w).alloc _) hb1).trans hb2)
    have HFL := Lib.hid hflat; clear hflat
    go_wp2
    go_loopw [3, 12] (fun s i wr => ∃ (q : Nat) (z : Int), q ≤ m ∧ i = .int .i64 q ∧ s = .int .i64 z ∧ Ext w2 wr ∧ Ext w wr ∧ Hid (R = draGo z (flat.drop q))) (fun _ i _ => m - (intOf i).toNat)
    case atStart => exact ⟨0, 0, Nat.zero_le _, rfl, rfl, Ext.refl _, HB.out, hR⟩
    case round =>
      obtain ⟨q, z, hq, rfl, rfl, hr, hrw, hgo⟩ := hrel
      by_cases hlt : q < m
      · have hlt2 : q < flat.length := by rw [← HM.out]; exact hlt
        obtain ⟨b2, off2, e2, hcell⟩ := HFL.out.get q hlt2
        cases e2
        have hd := List.drop_eq_getElem_cons hlt2
        obtain ⟨bt, hbt⟩ : ∃ bt, flat[q] = bt := ⟨_, rfl⟩
        rw [hbt] at hcell hd
        clear hbt
        obtain ⟨bi, bl, bw, bd, bs, bc⟩ := bt
        have g0 : wr.cell? ⟨b2, off2 + q * 6, none⟩ = some (.int .i64 bi) := hcell 0 _ rfl _ hr
        have g1 : wr.cell? ⟨b2, off2 + q * 6 + 1, none⟩ = some (.int .i64 bl) := hcell 1 _ rfl _ hr
        have g2 : wr.cell? ⟨b2, off2 + q * 6 + 2, none⟩ = some (.int .i64 bw) := hcell 2 _ rfl _ hr
        have g3 : wr.cell? ⟨b2, off2 + q * 6 + 3, none⟩ = some (.int .i64 bd) := hcell 3 _ rfl _ hr
        have g4 : wr.cell? ⟨b2, off2 + q * 6 + 4, none⟩ = some (.int .i64 bs) := hcell 4 _ rfl _ hr
        have g5 : wr.cell? ⟨b2, off2 + q * 6 + 5, none⟩ = some (.int .i64 bc) := hcell 5 _ rfl _ hr
        have HG2 := Lib.hid (show R = draGo (if z < bd then bd else z) (flat.drop (q + 1)) by rw [hgo.out, hd]; rfl)
        clear hcell hd hgo
        go_wp2
        go_roundw
        case rel => exact ⟨q + 1, if z < bd then bd else z, by omega, by go_num, rfl, by (repeat' (first | (with_reducible exact Ext.refl _) | (with_reducible assumption) | (with_reducible refine Ext.alloc ?_ _) | (with_reducible refine Ext.drewN ?_ _) | (with_reducible refine Ext.drew ?_) | (with_reducible refine Ext.setCell ?_ ?_ _) | (with_reducible exact Nat.le_refl _) | (with_reducible exact Nat.le_succ _) | (with_reducible refine Ext.trans ?_ (by assumption)) | (simp; done) | (simp; omega))), by (repeat' (first | (with_reducible exact Ext.refl _) | (with_reducible assumption) | (with_reducible refine Ext.alloc ?_ _) | (with_reducible refine Ext.drewN ?_ _) | (with_reducible refine Ext.drew ?_) | (with_reducible refine Ext.setCell ?_ ?_ _) | (with_reducible exact Nat.le_refl _) | (with_reducible exact Nat.le_succ _) | (with_reducible refine Ext.trans ?_ (by assumption)) | (simp; done) | (simp; omega))), HG2⟩
        case measure => simp [intOf]; omega
      · have hR2 := Lib.hid (show R = z by rw [hgo.out, List.drop_eq_nil_of_le (by have := HM.out; omega)]; rfl)
        go_wp2
        go_ret
        exact ⟨ret_int hR2.out.symm, by (repeat' (first | (with_reducible exact Ext.refl _) | (with_reducible assumption) | (with_reducible refine Ext.alloc ?_ _) | (with_reducible refine Ext.drewN ?_ _) | (with_reducible refine Ext.drew ?_) | (with_reducible refine Ext.setCell ?_ ?_ _) | (with_reducible exact Nat.le_refl _) | (with_reducible exact Nat.le_succ _) | (with_reducible refine Ext.trans ?_ (by assumption)) | (simp; done) | (simp; omega)))⟩

def spdGo (n : Int) (bs : List Bt) : Int := bs.foldl (fun n b => if b.spd < n then b.spd else n) n
def speedOf (rows : List (List Bt)) : Int := if trainOk rows then (match rows.flatten with | [] => 0 | b0 :: bs => spdGo b0.spd (b0 :: bs)) else 0

def clsGo (n : Int) (bs : List Bt) : Int := bs.foldl (fun n b => if b.cls < n then b.cls else n) n
def classOf (rows : List (List Bt)) : Int := if trainOk rows then (match rows.flatten with | [] => 0 | b0 :: bs => clsGo b0.cls (b0 :: bs)) else -1

end Go.Proofs.Ytmppoflgbmabpaa
/- IdsOf: the list of the Ids, on both sides. -/
namespace Go.Proofs.Ytmppoflgbmabpaa
open Go.RowKit
set_option linter.unusedSimpArgs false
set_option linter.unusedVariables false

def iCells (x : Int) : List Value := [.int .i64 x]
theorem iCells_len (x : Int) : (iCells x).length = 1 := rfl
theorem info_int : (Try.prog.info? 3).map (fun i => (i.zero, i.size, i.bytes)) = some (some (.int .i64 0), 1, 8) := by kernel_rfl
def idsOf (rows : List (List Bt)) : List Int := if trainOk rows then rows.flatten.map Bt.id else []
/-- The ints 'xs' in a row of the call's own, from block 'base' on. -/
def OwnInts (w : World) (base : Nat) (v : Value) (xs : List Int) : Prop := w.ownsRow base 3 1 v xs.length (xs.flatMap iCells)

/-- append of one int to a slice of the call's own. -/
theorem append_int {w : World} {ops : Array Oper} {rest : List Oper} {o : Oper} {a : Act} {Q : Exit → Act → World → Prop} (hgd : o.guard = none) (s x : Operand)
    (ho : o.op = .call { callee := .builtin .append, args := #[s, x], argTypes := #[31, 31] })
    (base : Nat) (v : Value) (done done' : List Int) (z : Int) (hd : done' = done ++ [z]) (hs : a.eval s = v) (hown : OwnInts w base v done)
    (B c : Nat) (hx : a.eval x = .slice (some ⟨B, 0, none⟩) 1 c) (hc : w.cell? ⟨B, 0, none⟩ = some (.int .i64 z)) (hle : done'.length ≤ 1048576) (hbase : base ≤ w.heap.size)
    (h : ∀ v' w', OwnInts w' base v' done' → w.grownBy w' v.ownBlock → (v'.ownBlock = v.ownBlock ∨ v'.ownBlock = some w.heap.size) → wpList Try.prog ops Q rest (a.put o.dst v') w') : wpList Try.prog ops Q (o :: rest) a w := by
  subst hd
  rw [List.length_append] at hle
  obtain ⟨i0, hi, hz0, hz1, hz2⟩ := info_parts info_int
  refine wpList_append_own_at w hgd s x _ ho base 3 i0 _ 1 8 Try.underlying31 hi hz0 hz1 hz2 rfl (by decide) v _ _ hs hown ⟨B, 0, none⟩ 1 c [.int .i64 z] hx rfl ?_ (by simp [Value.oneCell']) (by simp at hle; unfold maxLen; omega) (by simp at hle; omega) hbase ?_
  · intro j u hu
    match j, hu with
    | 0, hu => cases hu; rw [add_plain rfl]; exact hc
    | j + 1, hu => simp at hu
  · intro v' w' h1 h2 _ h4
    refine h v' w' ?_ h2 h4
    unfold OwnInts
    rw [List.length_append, List.flatMap_append]
    exact h1
theorem OwnInts.ext {w w' : World} {base : Nat} {v : Value} {xs : List Int} (h : OwnInts w base v xs) (hx : Ext w w') : OwnInts w' base v xs := ownsRow_ext h hx
theorem OwnInts.nil (w : World) (base : Nat) : OwnInts w base (.slice none 0 0) [] := World.ownsRow_nil _ _ _ _
/-- What is owned, read. -/
theorem OwnInts.read {w : World} {base : Nat} {v : Value} {xs : List Int} (h : OwnInts w base v xs) : ∃ (a : Option Addr) (c : Nat), v = .slice a xs.length c ∧ IntsAt w a xs ∧ ∀ ad, a = some ad → base ≤ ad.block ∧ ∃ cur, RowAt w ad.block 3 cur := by
  obtain ⟨a, c, e, hf, hn⟩ := ownsRow_flat iCells_len h
  refine ⟨a, c, e, fun k hk => ?_, hn⟩
  obtain ⟨b, off, ea, hc⟩ := hf k hk
  exact ⟨b, off, ea, by have := hc 0 _ rfl; simpa using this⟩
theorem OwnInts.wide {w : World} {base base' : Nat} {v : Value} {xs : List Int} (h : OwnInts w base v xs) (hb : base' ≤ base) : OwnInts w base' v xs := by
  refine ⟨h.1, ?_⟩
  rcases h.2 with h2 | ⟨g, cap, cur, h3, h4, h5⟩
  · exact .inl h2
  · exact .inr ⟨g, cap, cur, h3, Nat.le_trans hb h4, h5⟩
theorem ids_step {flat : List Bt} {k : Nat} (hk : k < flat.length) : (flat.take (k + 1)).map Bt.id = (flat.take k).map Bt.id ++ [flat[k].id] := by
  rw [List.take_succ_eq_append_getElem hk, List.map_append]
  rfl

set_option maxHeartbeats 4000000 in
theorem implIdsOf_any (u : Bool) (a : Option Addr) (n c : Nat) (rows : List (List Bt)) (w : World) (hn : n = rows.length) (hs : n ≤ 1048576) (ht : rows.flatten.length ≤ 1048576) (hf : RowsAt w a rows) :
    Calls Try.prog 60 #[.agg #[.bool u, .slice a n c]] w fun e w' => ∃ v, e = .returned v ∧ OwnInts w' w.heap.size v (idsOf rows) ∧ Ext w w' := by
  have HF := Lib.hid hf; clear hf
  have HS := Lib.hid hs
  have HSM := Lib.hid (show n ≤ maxLen by unfold maxLen; omega)
  have HT := Lib.hid ht
  obtain ⟨flat, hfl⟩ : ∃ flat, flat = rows.flatten := ⟨_, rfl⟩
  have HFLAT := Lib.hid hfl
  obtain ⟨m, hm⟩ : ∃ m, m = flat.length := ⟨_, rfl⟩
  have hm2 : m ≤ 1048576 := by rw [hm, hfl]; exact ht
  have HM := Lib.hid hm
  clear hm hfl ht
  cases hok : trainOk rows
  · have hR := Lib.hid (show idsOf rows = [] by rw [idsOf, hok]; rfl)
    have OK := Lib.hid hok; clear hok
    have HN := Lib.hid hn; clear hn
    go_enter Try.func60, Try.ntmps60
    go_wp2_with fail
    (with_reducible refine (OK.out ▸ implTrainOk_any _ _ _ _ rows _ HN.out HS.out HT.out (HF.out.ext (by (repeat' (first | (with_reducible exact Ext.refl _) | (with_reducible assumption) | (with_reducible refine Ext.alloc ?_ _) | (with_reducible refine Ext.drewN ?_ _) | (with_reducible refine Ext.drew ?_) | (with_reducible refine Ext.setCell ?_ ?_ _) | (with_reducible exact Nat.le_refl _) | (with_reducible exact Nat.le_succ _) | (with_reducible refine Ext.trans ?_ (by assumption)) | (simp; done) | (simp; omega)))))).mono ?_); rintro e w1 ⟨rfl, hb1⟩
    have x0_1 := hb1
    obtain ⟨hc0_1, hf0_1⟩ := bcell x0_1.below
    have z0_1_0 : w.heap.size < w1.heap.size := by have h := x0_1.size; simp at h; omega
    go_wp2
    go_ret
    exact ⟨_, rfl, by rw [hR.out]; exact OwnInts.nil _ _, by (repeat' (first | (with_reducible exact Ext.refl _) | (with_reducible assumption) | (with_reducible refine Ext.alloc ?_ _) | (with_reducible refine Ext.drewN ?_ _) | (with_reducible refine Ext.drew ?_) | (with_reducible refine Ext.setCell ?_ ?_ _) | (with_reducible exact Nat.le_refl _) | (with_reducible exact Nat.le_succ _) | (with_reducible refine Ext.trans ?_ (by assumption)) | (simp; done) | (simp; omega)))⟩
  · have hR := Lib.hid (show idsOf rows = (flat.take m).map Bt.id by rw [idsOf, hok, HM.out, List.take_length, HFLAT.out]; rfl)
    have OK := Lib.hid hok; clear hok
    have HN := Lib.hid hn; clear hn
    go_enter Try.func60, Try.ntmps60
    go_wp2_with fail
    (with_reducible refine (OK.out ▸ implTrainOk_any _ _ _ _ rows _ HN.out HS.out HT.out (HF.out.ext (by (repeat' (first | (with_reducible exact Ext.refl _) | (with_reducible assumption) | (with_reducible refine Ext.alloc ?_ _) | (with_reducible refine Ext.drewN ?_ _) | (with_reducible refine Ext.drew ?_) | (with_reducible refine Ext.setCell ?_ ?_ _) | (with_reducible exact Nat.le_refl _) | (with_reducible exact Nat.le_succ _) | (with_reducible refine Ext.trans ?_ (by assumption)) | (simp; done) | (simp; omega)))))).mono ?_); rintro e w1 ⟨rfl, hb1⟩
    have x0_1 := hb1
    obtain ⟨hc0_1, hf0_1⟩ := bcell x0_1.below
    have z0_1_0 : w.heap.size < w1.heap.size := by have h := x0_1.size; simp at h; omega
    go_wp2_with fail
    (with_reducible refine (implBoats_is _ _ _ _ rows _ HN.out HSM.out HT.out (HF.out.ext (by (repeat' (first | (with_reducible exact Ext.refl _) | (with_reducible assumption) | (with_reducible refine Ext.alloc ?_ _) | (with_reducible refine Ext.drewN ?_ _) | (with_reducible refine Ext.drew ?_) | (with_reducible refine Ext.setCell ?_ ?_ _) | (with_reducible exact Nat.le_refl _) | (with_reducible exact Nat.le_succ _) | (with_reducible refine Ext.trans ?_ (by assumption)) | (simp; done) | (simp; omega))))) HFLAT.out HM.out).mono ?_); rintro e w2 ⟨a9, c9, rfl, ⟨hflat, _⟩, hb2⟩
    have x1_2 := hb2
    have x0_2 : Ext _ w2 := x0_1.trans (Ext.trans (b := _) (by (repeat' (first | (with_reducible exact Ext.refl _) | (with_reducible assumption) | (with_reducible refine Ext.alloc ?_ _) | (with_reducible refine Ext.drewN ?_ _) | (with_reducible refine Ext.drew ?_) | (with_reducible refine Ext.setCell ?_ ?_ _) | (with_reducible exact Nat.le_refl _) | (with_reducible exact Nat.le_succ _) | (with_reducible refine Ext.trans ?_ (by assumption)) | (simp; done) | (simp; omega)))) hb2)
    obtain ⟨hc0_2, hf0_2⟩ := bcell x0_2.below
    have z0_2_0 : w.heap.size < w2.heap.size := by have h := x0_2.size; simp at h; omega
    have HB := Lib.hid ((Ext.trans ((Ext.refl w).alloc _) hb1).trans hb2)
    have HFL := Lib.hid hflat; clear hflat
    go_wp2
    go_loopw [3, 12] (fun v i wr => ∃ (q : Nat) (ids : List Int), q ≤ m ∧ i = .int .i64 q ∧ Ext w2 wr ∧ Ext w wr ∧ Hid (ids = (flat.take q).map Bt.id) ∧ Hid (OwnInts wr w2.heap.size v ids)) (fun _ i _ => m - (intOf i).toNat)
    case atStart => exact ⟨0, [], Nat.zero_le _, rfl, Ext.refl _, HB.out, rfl, OwnInts.nil _ _⟩
    case round =>
      obtain ⟨q, ids, hq, rfl, hr, hrw, hids, hown⟩ := hrel
      by_cases hlt : q < m
      · have hlt2 : q < flat.length := by rw [← HM.out]; exact hlt
        obtain ⟨b2, off2, rfl, hcell⟩ := HFL.out.get q hlt2
        have hd := ids_step hlt2
        obtain ⟨bt, hbt⟩ : ∃ bt, flat[q] = bt := ⟨_, rfl⟩
        rw [hbt] at hcell hd
        clear hbt
        obtain ⟨bi, bl, bw, bd, bs, bc⟩ := bt
        obtain ⟨ids', hids'⟩ : ∃ x, x = (flat.take (q + 1)).map Bt.id := ⟨_, rfl⟩
        have HD := Lib.hid (show ids' = ids ++ [bi] by rw [hids', hd, hids.out])
        have HLE := Lib.hid (show ids'.length ≤ 1048576 by rw [hids', List.length_map, List.length_take]; omega)
        have HIDS := Lib.hid hids'
        clear hids' hd hids
        have g0 : wr.cell? ⟨b2, off2 + q * 6, none⟩ = some (.int .i64 bi) := hcell 0 _ rfl _ hr
        have g1 : wr.cell? ⟨b2, off2 + q * 6 + 1, none⟩ = some (.int .i64 bl) := hcell 1 _ rfl _ hr
        have g2 : wr.cell? ⟨b2, off2 + q * 6 + 2, none⟩ = some (.int .i64 bw) := hcell 2 _ rfl _ hr
        have g3 : wr.cell? ⟨b2, off2 + q * 6 + 3, none⟩ = some (.int .i64 bd) := hcell 3 _ rfl _ hr
        have g4 : wr.cell? ⟨b2, off2 + q * 6 + 4, none⟩ = some (.int .i64 bs) := hcell 4 _ rfl _ hr
        have g5 : wr.cell? ⟨b2, off2 + q * 6 + 5, none⟩ = some (.int .i64 bc) := hcell 5 _ rfl _ hr
        clear hcell
        have hsz := hr.size
        go_wp2_with (at_builtin; refine append_int rfl _ _ rfl w2.heap.size _ ids ids' bi HD.out rfl (hown.out.ext (((Ext.refl wr).alloc _).alloc _)) (wr.heap.size + 1) 1 rfl ?c1 HLE.out ?c2 ?_)
        case c1 =>
          have := RowAt.new (wr.alloc (Obj.cells #[Value.int IntKind.i64 bi, Value.int IntKind.i64 bl, Value.int IntKind.i64 bw, Value.int IntKind.i64 bd, Value.int IntKind.i64 bs, Value.int IntKind.i64 bc] 76)) 3 #[.int .i64 bi]
          rw [World.size_alloc] at this
          exact this.cell rfl
        case c2 => simp; omega
        intro v' w5 hown5 hgrow5 _
        have hv := World.ownsRow.lt hown.out
        have hx5 : Ext w2 w5 := Ext.own (hr.trans (((Ext.refl wr).alloc _).alloc _)) hgrow5 (fun k hk => (hv k hk).1)
        have HX5 := Lib.hid hx5
        have HO5 := Lib.hid hown5; clear hown5
        have hw5 : Ext w w5 := HB.out.trans hx5
        clear hgrow5 hv
        go_wp2
        go_roundw
        case rel => exact ⟨q + 1, ids', by omega, by go_num, HX5.out, hw5, HIDS.out, HO5.out⟩
        case measure => simp [intOf]; omega
      · have hqm : q = m := by omega
        have HR2 := Lib.hid (show idsOf rows = ids by rw [hR.out, hids.out, hqm])
        have hbs := HB.out.size
        clear hids
        go_wp2
        go_ret
        exact ⟨_, rfl, by rw [HR2.out]; exact hown.out.wide hbs, hrw⟩

theorem FlatAt.grown {α : Type} {w w' : World} {enc : α → List Value} {sz : Nat} {a : Option Addr} {xs : List α} {B : Nat} (h : FlatAt w enc sz a xs) (hg : w.grownBy w' (some B)) (hb : ∀ ad, a = some ad → ad.block ≠ B) : FlatAt w' enc sz a xs :=
  fun k hk => let ⟨b, off, e, hc⟩ := h k hk; ⟨b, off, e, fun j v hv => by
    have h1 := hc j v hv
    have hlt := World.block_lt_of_cell? w _ h1
    have := hg.block b hlt (fun e' => hb _ e (Option.some.inj e'))
    rw [World.cell?_of_block this]
    exact h1⟩
/-- The row of the call's own that began at block B grows; all else that was there at w1 stands. -/
theorem grown_step {w1 wr wx w5 : World} {B : Nat} {o : Option Nat} (h : w1.grownBy wr (some B)) (hx : Ext wr wx) (hg : wx.grownBy w5 o) (ho : ∀ k, o = some k → k = B ∨ w1.heap.size ≤ k) : w1.grownBy w5 (some B) := by
  refine ⟨hg.os.trans (hx.below.os.trans h.os), hg.tape.trans (hx.below.tape.trans h.tape), hg.output.trans (hx.below.output.trans h.output), Nat.le_trans h.size (Nat.le_trans hx.size hg.size), fun k hk hne => ?_⟩
  have e1 := h.block k hk hne
  have e2 := hx.below.block k (Nat.lt_of_lt_of_le hk h.size)
  have e3 := hg.block k (Nat.lt_of_lt_of_le hk (Nat.le_trans h.size hx.size)) (fun e => by
    rcases ho k e.symm with rfl | h2
    · exact hne rfl
    · omega)
  exact e3.trans (e2.trans e1)

set_option maxHeartbeats 4000000 in
theorem specIdsOf_any (u : Bool) (a : Option Addr) (n c : Nat) (rows : List (List Bt)) (w : World) (hn : n = rows.length) (hs : n ≤ 1048576) (ht : rows.flatten.length ≤ 1048576) (hf : RowsAt w a rows) :
    Calls Try.prog 69 #[.agg #[.bool u, .slice a n c]] w fun e w' => ∃ v, e = .returned v ∧ OwnInts w' w.heap.size v (idsOf rows) ∧ Ext w w' := by
  have HF := Lib.hid hf; clear hf
  have HS := Lib.hid hs
  have HSM := Lib.hid (show n ≤ maxLen by unfold maxLen; omega)
  have HT := Lib.hid ht
  obtain ⟨flat, hfl⟩ : ∃ flat, flat = rows.flatten := ⟨_, rfl⟩
  have HFLAT := Lib.hid hfl
  obtain ⟨m, hm⟩ : ∃ m, m = flat.length := ⟨_, rfl⟩
  have hm2 : m ≤ 1048576 := by rw [hm, hfl]; exact ht
  have HM := Lib.hid hm
  clear hm hfl ht
  have hlit := World.ownsRow_lit (base := w.heap.size + 1) (e := 3) (size := 1) (w.alloc (Obj.cells #[Value.bool u, Value.slice a n c] 47)) #[] 0 (by simp) (by unfold maxLen; omega) rfl
  rw [World.size_alloc] at hlit
  have HLIT : Hid (OwnInts ((w.alloc (Obj.cells #[Value.bool u, Value.slice a n c] 47)).alloc (Obj.cells #[] 3)) (w.heap.size + 1) (.slice (some ⟨w.heap.size + 1, 0, none⟩) 0 0) []) := hlit
  clear hlit
  cases hok : trainOk rows
  · have hR := Lib.hid (show idsOf rows = [] by rw [idsOf, hok]; rfl)
    have OK := Lib.hid hok; clear hok
    have HN := Lib.hid hn; clear hn
    go_enter Try.func69, Try.ntmps69
    go_wp2_with fail
    (with_reducible refine (specBoats_is _ _ _ _ rows _ HN.out HSM.out HT.out (HF.out.ext (by (repeat' (first | (with_reducible exact Ext.refl _) | (with_reducible assumption) | (with_reducible refine Ext.alloc ?_ _) | (with_reducible refine Ext.drewN ?_ _) | (with_reducible refine Ext.drew ?_) | (with_reducible refine Ext.setCell ?_ ?_ _) | (with_reducible exact Nat.le_refl _) | (with_reducible exact Nat.le_succ _) | (with_reducible refine Ext.trans ?_ (by assumption)) | (simp; done) | (simp; omega))))) HFLAT.out HM.out).mono ?_); rintro e w1 ⟨a9, c9, rfl, _, hb1⟩
    have x0_1 := hb1
    obtain ⟨hc0_1, hf0_1⟩ := bcell x0_1.below
    have z0_1_0 : w.heap.size < w1.heap.size := by have h := x0_1.size; simp at h; omega
    have z0_1_1 : w.heap.size + 1 < w1.heap.size := by have h := x0_1.size; simp at h; omega
    have hrow1 := (RowAt.new w 47 #[.bool u, .slice a n c]).ext (Ext.trans ((Ext.refl _).alloc _) x0_1)
    have HB := Lib.hid (Ext.trans (((Ext.refl w).alloc _).alloc _) hb1)
    have HROW := Lib.hid hrow1; clear hrow1
    have HO := Lib.hid (HLIT.out.ext x0_1)
    go_wp2
    go_loopw [3, 5] (fun v i wr => v = .slice (some ⟨w.heap.size + 1, 0, none⟩) 0 0 ∧ i = .int .i64 0 ∧ Ext w wr ∧ RowAt wr w.heap.size 47 #[.bool u, .slice a n c] ∧ Hid (OwnInts wr (w.heap.size + 1) (.slice (some ⟨w.heap.size + 1, 0, none⟩) 0 0) [])) (fun _ i _ => n - (intOf i).toNat)
    case atStart => exact ⟨rfl, rfl, HB.out, HROW.out, HO⟩
    case round =>
      obtain ⟨rfl, rfl, hr, hrow, hown⟩ := hrel
      have g0 : wr.cell? ⟨w.heap.size, 0, none⟩ = some (.bool u) := hrow.cell rfl
      have g1 : wr.cell? ⟨w.heap.size, 1, none⟩ = some (.slice a n c) := hrow.cell rfl
      by_cases h0 : m = 0
      · subst h0
        go_wp2
        go_ret
        exact ⟨_, rfl, by rw [hR.out]; exact hown.out.wide (Nat.le_succ _), by (repeat' (first | (with_reducible exact Ext.refl _) | (with_reducible assumption) | (with_reducible refine Ext.alloc ?_ _) | (with_reducible refine Ext.drewN ?_ _) | (with_reducible refine Ext.drew ?_) | (with_reducible refine Ext.setCell ?_ ?_ _) | (with_reducible exact Nat.le_refl _) | (with_reducible exact Nat.le_succ _) | (with_reducible refine Ext.trans ?_ (by assumption)) | (simp; done) | (simp; omega)))⟩
      · have hpos : 0 < m := by omega
        go_wp2_with (go_at_call 61; refine (OK.out ▸ specTrainOk_any _ _ _ _ rows _ HN.out HS.out HT.out (HF.out.ext hr)).mono ?_; rintro e w9 ⟨rfl, hb9⟩)
        go_ret
        exact ⟨_, rfl, by rw [hR.out]; exact (hown.out.ext hb9).wide (Nat.le_succ _), by (repeat' (first | (with_reducible exact Ext.refl _) | (with_reducible assumption) | (with_reducible refine Ext.alloc ?_ _) | (with_reducible refine Ext.drewN ?_ _) | (with_reducible refine Ext.drew ?_) | (with_reducible refine Ext.setCell ?_ ?_ _) | (with_reducible exact Nat.le_refl _) | (with_reducible exact Nat.le_succ _) | (with_reducible refine Ext.trans ?_ (by assumption)) | (simp; done) | (simp; omega)))⟩
  · have hR := Lib.hid (show idsOf rows = (flat.take m).map Bt.id by rw [idsOf, hok, HM.out, List.take_length, HFLAT.out]; rfl)
    have OK := Lib.hid hok; clear hok
    have HN := Lib.hid hn; clear hn
    go_enter Try.func69, Try.ntmps69
    go_wp2_with fail
    (with_reducible refine (specBoats_is _ _ _ _ rows _ HN.out HSM.out HT.out (HF.out.ext (by (repeat' (first | (with_reducible exact Ext.refl _) | (with_reducible assumption) | (with_reducible refine Ext.alloc ?_ _) | (with_reducible refine Ext.drewN ?_ _) | (with_reducible refine Ext.drew ?_) | (with_reducible refine Ext.setCell ?_ ?_ _) | (with_reducible exact Nat.le_refl _) | (with_reducible exact Nat.le_succ _) | (with_reducible refine Ext.trans ?_ (by assumption)) | (simp; done) | (simp; omega))))) HFLAT.out HM.out).mono ?_); rintro e w1 ⟨a9, c9, rfl, ⟨hflat, hnew⟩, hb1⟩
    have x0_1 := hb1
    obtain ⟨hc0_1, hf0_1⟩ := bcell x0_1.below
    have z0_1_0 : w.heap.size < w1.heap.size := by have h := x0_1.size; simp at h; omega
    have z0_1_1 : w.heap.size + 1 < w1.heap.size := by have h := x0_1.size; simp at h; omega
    simp only [World.size_alloc] at hnew
    have hrow1 := (RowAt.new w 47 #[.bool u, .slice a n c]).ext (Ext.trans ((Ext.refl _).alloc _) x0_1)
    have HB := Lib.hid (Ext.trans (((Ext.refl w).alloc _).alloc _) hb1)
    have HROW := Lib.hid hrow1; clear hrow1
    have HO := Lib.hid (HLIT.out.ext x0_1)
    have HFL := Lib.hid hflat; clear hflat
    have HNEW := Lib.hid hnew; clear hnew
    go_wp2
    go_loopw [3, 5] (fun v i wr => ∃ (q : Nat) (ids : List Int), q ≤ m ∧ i = .int .i64 q ∧ Ext w wr ∧ RowAt wr w.heap.size 47 #[.bool u, .slice a n c] ∧ Hid (w1.grownBy wr (some (w.heap.size + 1))) ∧ Hid (ids = (flat.take q).map Bt.id) ∧ Hid (OwnInts wr (w.heap.size + 1) v ids) ∧ Hid (∀ k, v.ownBlock = some k → k = w.heap.size + 1 ∨ w1.heap.size ≤ k)) (fun _ i _ => m - (intOf i).toNat)
    case atStart => exact ⟨0, [], Nat.zero_le _, rfl, HB.out, HROW.out, ⟨rfl, rfl, rfl, Nat.le_refl _, fun _ _ _ => rfl⟩, rfl, HO, fun k hk => by cases hk; exact .inl rfl⟩
    case round =>
      obtain ⟨q, ids, hq, rfl, hrw, hrow, hgrow, hids, hown, hblk⟩ := hrel
      by_cases hlt : q < m
      · have hlt2 : q < flat.length := by rw [← HM.out]; exact hlt
        have hfr := HFL.out.grown hgrow.out (fun ad e => by have := HNEW.out ad e; omega)
        obtain ⟨b2, off2, rfl, hcell⟩ := hfr.get q hlt2
        have hd := ids_step hlt2
        obtain ⟨bt, hbt⟩ : ∃ bt, flat[q] = bt := ⟨_, rfl⟩
        rw [hbt] at hcell hd
        clear hbt hfr
        obtain ⟨bi, bl, bw, bd, bs, bc⟩ := bt
        obtain ⟨ids', hids'⟩ : ∃ x, x = (flat.take (q + 1)).map Bt.id := ⟨_, rfl⟩
        have HD := Lib.hid (show ids' = ids ++ [bi] by rw [hids', hd, hids.out])
        have HLE := Lib.hid (show ids'.length ≤ 1048576 by rw [hids', List.length_map, List.length_take]; omega)
        have HIDS := Lib.hid hids'
        clear hids' hd hids
        have HC := Lib.hid (hcell 0 _ rfl)
        clear hcell
        have t0 : wr.cell? ⟨w.heap.size, 0, none⟩ = some (.bool u) := hrow.cell rfl
        have t1 : wr.cell? ⟨w.heap.size, 1, none⟩ = some (.slice a n c) := hrow.cell rfl
        have hlt0 := hrow.lt
        have hsz1 := HROW.out.lt
        have hsz2 := hgrow.out.size
        go_wp2_with fail
        refine (OK.out ▸ specTrainOk_any _ _ _ _ rows _ HN.out HS.out HT.out (HF.out.ext hrw)).mono ?_
        rintro e w9 ⟨rfl, hb9⟩
        have g0 : w9.cell? ⟨b2, off2 + q * 6, none⟩ = some (.int .i64 bi) := HC.out _ hb9
        clear t0 t1
        have HB9 := Lib.hid hb9
        have hsz9 := hb9.size
        go_wp2_with (at_builtin; refine append_int rfl _ _ rfl (w.heap.size + 1) _ ids ids' bi HD.out rfl (hown.out.ext (HB9.out.trans ((Ext.refl w9).alloc _))) w9.heap.size 1 rfl ((RowAt.new _ _ _).cell rfl) HLE.out ?c2 ?_)
        case c2 => simp; omega
        intro v' w5 hown5 hgrow5 hat
        have hv := World.ownsRow.lt hown.out
        have hx5 : Ext w w5 := Ext.own (hrw.trans (HB9.out.trans ((Ext.refl w9).alloc _))) hgrow5 (fun k hk => by have := (hv k hk).1; omega)
        have hr5 := ((hrow.ext hb9).ext ((Ext.refl w9).alloc _)).own hgrow5 (fun k hk => by have := (hv k hk).1; omega)
        have HG5 := Lib.hid (grown_step hgrow.out (HB9.out.trans ((Ext.refl w9).alloc _)) hgrow5 hblk.out)
        have HBK : Hid (∀ k, v'.ownBlock = some k → k = w.heap.size + 1 ∨ w1.heap.size ≤ k) := fun k hk => by
          rcases hat with e | e
          · exact hblk.out k (by rw [← e]; exact hk)
          · rw [e] at hk
            cases hk
            right
            first | omega | (simp; omega)
        have HO5 := Lib.hid hown5; clear hown5
        have HR5 := Lib.hid hr5; clear hr5
        clear hgrow5 hv hat
        go_wp2
        go_roundw
        case rel => exact ⟨q + 1, ids', by omega, by go_num, hx5, HR5.out, HG5, HIDS.out, HO5.out, HBK⟩
        case measure => simp [intOf]; omega
      · have hqm : q = m := by omega
        have HR2 := Lib.hid (show idsOf rows = ids by rw [hR.out, hids.out, hqm])
        clear hids
        go_wp2
        go_ret
        exact ⟨_, rfl, by rw [HR2.out]; exact hown.out.wide (Nat.le_succ _), hrw⟩
end Go.Proofs.Ytmppoflgbmabpaa
/- Marks: what the law's helpers that number and read back memory do, for ints and for rows of boats. -/
namespace Go.Proofs.Ytmppoflgbmabpaa
open Go.RowKit
set_option linter.unusedSimpArgs false
set_option linter.unusedVariables false

/-- From w to w' only blocks from lo to hi have changed, and new ones have come. -/
structure Chg (lo hi : Nat) (w w' : World) : Prop where
  os : w'.os = w.os
  tape : w'.tape = w.tape
  output : w'.output = w.output
  size : w.heap.size ≤ w'.heap.size
  block : ∀ k, k < w.heap.size → (k < lo ∨ hi ≤ k) → w'.heap[k]? = w.heap[k]?
theorem Chg.refl (lo hi : Nat) (w : World) : Chg lo hi w w := ⟨rfl, rfl, rfl, Nat.le_refl _, fun _ _ _ => rfl⟩
theorem Chg.trans {lo hi : Nat} {a b c : World} (h : Chg lo hi a b) (k : Chg lo hi b c) : Chg lo hi a c :=
  ⟨k.os.trans h.os, k.tape.trans h.tape, k.output.trans h.output, Nat.le_trans h.size k.size, fun i hi ho => (k.block i (Nat.lt_of_lt_of_le hi h.size) ho).trans (h.block i hi ho)⟩
theorem Chg.of_ext {lo hi : Nat} {w w' : World} (h : Ext w w') : Chg lo hi w w' := ⟨h.below.os, h.below.tape, h.below.output, h.size, fun k hk _ => h.below.block k hk⟩
theorem Chg.wide {lo hi lo' hi' : Nat} {w w' : World} (h : Chg lo hi w w') (hl : lo' ≤ lo) (hh : hi ≤ hi') : Chg lo' hi' w w' := ⟨h.os, h.tape, h.output, h.size, fun k hk ho => h.block k hk (by omega)⟩
theorem Chg.ext {lo hi : Nat} {w w1 w2 : World} (h : Chg lo hi w1 w2) (hx : Ext w w1) (hl : w.heap.size ≤ lo) : Ext w w2 :=
  ⟨h.os.trans hx.below.os, h.tape.trans hx.below.tape, h.output.trans hx.below.output, Nat.le_trans hx.size h.size, fun k hk => (h.block k (Nat.lt_of_lt_of_le hk hx.size) (.inl (Nat.lt_of_lt_of_le hk hl))).trans (hx.below.block k hk)⟩
theorem Chg.set {lo hi : Nat} {w w' : World} (h : Chg lo hi w w') {p : Addr} (hl : lo ≤ p.block) (hh : p.block < hi) (v : Value) : Chg lo hi w (w'.setCell p v) :=
  ⟨h.os, h.tape, h.output, by rw [size_setCell']; exact h.size, fun k hk ho => (Below.heap_setCell w' p v k (fun e => by omega)).trans (h.block k hk ho)⟩
theorem RowAt.chg {lo hi : Nat} {w w' : World} {B : Nat} {t : TypeId} {c : Array Value} (h : RowAt w B t c) (hc : Chg lo hi w w') (ho : B < lo ∨ hi ≤ B) : RowAt w' B t c := (hc.block B h.lt ho).trans h
theorem OwnRows.chg {lo hi lo2 hi2 : Nat} {w w' : World} {a : Option Addr} {rows : List (List Bt)} (h : OwnRows w lo hi a rows) (hc : Chg lo2 hi2 w w') (ho : hi ≤ lo2 ∨ hi2 ≤ lo) : OwnRows w' lo hi a rows :=
  h.keep (Nat.le_refl _) (Nat.le_refl _) (fun B t c h1 h2 hr => hr.chg hc (by omega))

/-! ### Ints in a block of their own -/
def IntOwn (w : World) (lo hi : Nat) (v : Value) (xs : List Int) : Prop :=
  ∃ a c, v = .slice a xs.length c ∧ (xs = [] ∨ ∃ B off cur, a = some ⟨B, off, none⟩ ∧ lo ≤ B ∧ B < hi ∧ RowAt w B 3 cur ∧ ∀ k (h : k < xs.length), cur[off + k]? = some (.int .i64 xs[k]))
theorem RowAt.cell_inv {w : World} {B : Nat} {t : TypeId} {c : Array Value} (h : RowAt w B t c) {j : Nat} {v : Value} (hv : w.cell? ⟨B, j, none⟩ = some v) : c[j]? = some v := by
  unfold RowAt at h
  simpa [World.cell?, h] using hv
theorem OwnInts.own {w : World} {base : Nat} {v : Value} {xs : List Int} (h : OwnInts w base v xs) : IntOwn w base w.heap.size v xs := by
  obtain ⟨a, c, rfl, hi, hn⟩ := h.read
  refine ⟨a, c, rfl, ?_⟩
  cases xs with
  | nil => exact .inl rfl
  | cons x xs =>
    obtain ⟨b, off, rfl, hc⟩ := hi 0 (by simp)
    obtain ⟨hb, cur, hr⟩ := hn _ rfl
    refine .inr ⟨b, off, cur, rfl, hb, hr.lt, hr, fun k hk => ?_⟩
    obtain ⟨b', off', e, hc'⟩ := hi k hk
    cases e
    exact hr.cell_inv hc'
theorem IntOwn.chg {lo hi lo2 hi2 : Nat} {w w' : World} {v : Value} {xs : List Int} (h : IntOwn w lo hi v xs) (hc : Chg lo2 hi2 w w') (ho : hi ≤ lo2 ∨ hi2 ≤ lo) : IntOwn w' lo hi v xs := by
  obtain ⟨a, c, e, hr⟩ := h
  exact ⟨a, c, e, hr.imp id fun ⟨B, off, cur, e1, h1, h2, h3, h4⟩ => ⟨B, off, cur, e1, h1, h2, h3.chg hc (by omega), h4⟩⟩
theorem IntOwn.ext {lo hi : Nat} {w w' : World} {v : Value} {xs : List Int} (h : IntOwn w lo hi v xs) (hx : Ext w w') : IntOwn w' lo hi v xs := by
  obtain ⟨a, c, e, hr⟩ := h
  exact ⟨a, c, e, hr.imp id fun ⟨B, off, cur, e1, h1, h2, h3, h4⟩ => ⟨B, off, cur, e1, h1, h2, h3.ext hx, h4⟩⟩
theorem IntOwn.ints {lo hi : Nat} {w : World} {v : Value} {xs : List Int} (h : IntOwn w lo hi v xs) : ∃ a c, v = .slice a xs.length c ∧ IntsAt w a xs := by
  obtain ⟨a, c, e, hr⟩ := h
  refine ⟨a, c, e, fun k hk => ?_⟩
  rcases hr with rfl | ⟨B, off, cur, rfl, _, _, h3, h4⟩
  · exact absurd hk (Nat.not_lt_zero _)
  · exact ⟨B, off, rfl, h3.cell (h4 k hk)⟩
theorem IntOwn.at {lo hi n : Nat} {w : World} {a : Option Addr} {c : Nat} {xs : List Int} (h : IntOwn w lo hi (.slice a n c) xs) : IntsAt w a xs := by
  obtain ⟨a', c', e, hi⟩ := h.ints
  injection e with ea _ _
  rw [ea]
  exact hi
theorem implIdsOf_is (ids : List Int) (m : Nat) (u : Bool) (a : Option Addr) (n c : Nat) (rows : List (List Bt)) (w : World) (hn : n = rows.length) (hs : n ≤ 1048576) (ht : rows.flatten.length ≤ 1048576) (hf : RowsAt w a rows) (hi : idsOf rows = ids) (hm : m = ids.length) :
    Calls Try.prog 60 #[.agg #[.bool u, .slice a n c]] w fun e w' => ∃ a' c', e = .returned (.slice a' m c') ∧ IntOwn w' w.heap.size w'.heap.size (.slice a' m c') ids ∧ Ext w w' :=
  (implIdsOf_any u a n c rows w hn hs ht hf).mono fun e w' ⟨v, he, ho, hx⟩ => by
    subst hi hm
    have h := ho.own
    obtain ⟨a', c', rfl, hr⟩ := id h
    exact ⟨a', c', he, h, hx⟩
theorem specIdsOf_is (ids : List Int) (m : Nat) (u : Bool) (a : Option Addr) (n c : Nat) (rows : List (List Bt)) (w : World) (hn : n = rows.length) (hs : n ≤ 1048576) (ht : rows.flatten.length ≤ 1048576) (hf : RowsAt w a rows) (hi : idsOf rows = ids) (hm : m = ids.length) :
    Calls Try.prog 69 #[.agg #[.bool u, .slice a n c]] w fun e w' => ∃ a' c', e = .returned (.slice a' m c') ∧ IntOwn w' w.heap.size w'.heap.size (.slice a' m c') ids ∧ Ext w w' :=
  (specIdsOf_any u a n c rows w hn hs ht hf).mono fun e w' ⟨v, he, ho, hx⟩ => by
    subst hi hm
    have h := ho.own
    obtain ⟨a', c', rfl, hr⟩ := id h
    exact ⟨a', c', he, h, hx⟩
def nums (k : Int) (n : Nat) : List Int := (List.range n).map (fun (j : Nat) => k + (j : Int))
theorem nums_len (k : Int) (n : Nat) : (nums k n).length = n := by simp [nums]
theorem nums_get (k : Int) (n j : Nat) (h : j < (nums k n).length) : (nums k n)[j] = k + (j : Int) := by simp [nums]

theorem IntOwn.at_nums {lo hi n : Nat} {w : World} {a : Option Addr} {c : Nat} {k : Int} (h : IntOwn w lo hi (.slice a n c) (nums k n)) : IntsAt w a (nums k n) := h.at

def numBoat (k : Int) : Bt := ⟨k, k + 1, k + 2, k + 3, k + 4, k + 5⟩
def numRow (k : Int) (n : Nat) : List Bt := (List.range n).map (fun (j : Nat) => numBoat (k + 6 * (j : Int)))
theorem numRow_len (k : Int) (n : Nat) : (numRow k n).length = n := by simp [numRow]
theorem numRow_get (k : Int) (n j : Nat) (h : j < (numRow k n).length) : (numRow k n)[j] = numBoat (k + 6 * (j : Int)) := by simp [numRow]
def numRows (k : Int) : List (List Bt) → List (List Bt)
  | [] => []
  | r :: rs => numRow k r.length :: numRows (k + 6 * (r.length : Int)) rs
theorem numRows_len : ∀ (rows : List (List Bt)) (k : Int), (numRows k rows).length = rows.length
  | [], _ => rfl
  | r :: rs, k => by simp [numRows, numRows_len rs]
theorem numRows_get : ∀ (rows : List (List Bt)) (k : Int) (j : Nat) (h : j < (numRows k rows).length) (h' : j < rows.length), (numRows k rows)[j] = numRow (k + 6 * (total (rows.take j) : Int)) rows[j].length
  | [], _, j, h, h' => absurd h' (Nat.not_lt_zero _)
  | r :: rs, k, 0, h, h' => by simp [numRows, total]
  | r :: rs, k, j + 1, h, h' => by
    simp only [numRows, List.getElem_cons_succ, List.take_succ_cons]
    rw [numRows_get rs _ j (by simpa [numRows] using h) (by simpa using h')]
    congr 1
    simp only [total, List.map_cons, List.sum_cons]
    omega
theorem total_step (rows : List (List Bt)) (j : Nat) (h : j < rows.length) : total (rows.take (j + 1)) = total (rows.take j) + rows[j].length := by
  rw [List.take_succ_eq_append_getElem h]
  unfold total
  rw [List.map_append, List.sum_append]
  simp only [List.map_cons, List.map_nil, List.sum_cons, List.sum_nil, Nat.add_zero]
theorem total_take_le (rows : List (List Bt)) (j : Nat) : total (rows.take j) ≤ total rows := by
  have h := congrArg total (List.take_append_drop j rows)
  simp only [total, List.map_append, List.sum_append] at *
  omega

/-- Where the change of a row of n boats in block B ends. -/
def chgTo (n B : Nat) : Nat := if n = 0 then B else B + 1
theorem chgTo_zero {n B : Nat} (h : n = 0) : chgTo n B = B := if_pos h
theorem chgTo_pos {n B : Nat} (h : ¬ n = 0) : chgTo n B = B + 1 := if_neg h

def Boxes (w : World) (l : List (Nat × TypeId × Array Value)) : Prop := ∀ p ∈ l, RowAt w p.1 p.2.1 p.2.2
theorem Boxes.ext {w w' : World} {l : List (Nat × TypeId × Array Value)} (h : Boxes w l) (hx : Ext w w') : Boxes w' l := fun p hp => (h p hp).ext hx
theorem Boxes.chg {w w' : World} {lo hi : Nat} {l : List (Nat × TypeId × Array Value)} (h : Boxes w l) (hc : Chg lo hi w w') (ho : ∀ p ∈ l, p.1 < lo ∨ hi ≤ p.1) : Boxes w' l := fun p hp => (h p hp).chg hc (ho p hp)
theorem Boxes.nil (w : World) : Boxes w [] := fun _ h => by cases h
theorem Boxes.cons {w : World} {b : Nat} {t : TypeId} {c : Array Value} {l : List (Nat × TypeId × Array Value)} (h : RowAt w b t c) (k : Boxes w l) : Boxes w ((b, t, c) :: l) := fun p hp => by
  rcases List.mem_cons.1 hp with rfl | hp
  · exact h
  · exact k p hp
end Go.Proofs.Ytmppoflgbmabpaa
/- Rows that a call lays one by one: what it owns of them; append in one law, nil or not, at a list, at an operation and at a step of a drawn region. -/
namespace Go.Proofs.Ytmppoflgbmabpaa
open Go.RowKit
set_option linter.unusedSimpArgs false
set_option linter.unusedVariables false

section
variable {P : Program} (w : World)
theorem run_append_any (t ty e : TypeId) (base : Nat) (z : Value) (size bytes : Nat) (ht : P.underlying t = some (.slice e)) (hinf : (P.info? e).map (fun i => (i.zero, i.size, i.bytes)) = some (some z, size, bytes))
    (hzs : z.cells.size = size) (hsz : 0 < size) (v : Value) (n : Nat) (xs : List Value) (hown : w.ownsRow base e size v n xs)
    (a' : Option Addr) (m c : Nat) (news : List Value) (hc : a' = none → c = 0 ∧ m = 0) (hl : news.length = m * size) (hnews : ∀ ad, a' = some ad → ∀ (j : Nat) u, news[j]? = some u → w.cell? (ad.add j) = some u) (h1 : ∀ u ∈ news, u.oneCell' = true)
    (h63 : n + m ≤ maxLen) (hbytes : (n + m) * bytes ≤ 140737488355328) (hbase : base ≤ w.heap.size) :
    ∃ v' w', (Builtin.append_ #[t, t] ty #[v, .slice a' m c]).run P w = .ok v' w' ∧ w'.ownsRow base e size v' (n + m) (xs ++ news) ∧ w.grownBy w' v.ownBlock ∧ (v'.ownBlock = v.ownBlock ∨ v'.ownBlock = some w.heap.size) := by
  obtain ⟨i0, hi, hz0, hz1, hz2⟩ := info_parts hinf
  cases a' with
  | none =>
    obtain ⟨rfl, rfl⟩ := hc rfl
    have hn : news = [] := List.eq_nil_of_length_eq_zero (by rw [hl]; simp)
    subst hn
    exact ⟨v, w, run_append_owned_none (P := P) (w := w) base t ty e i0 size ht hi v n xs hown, by rw [List.append_nil]; exact hown, ⟨rfl, rfl, rfl, Nat.le_refl _, fun _ _ _ => rfl⟩, .inl rfl⟩
  | some ad =>
    obtain ⟨v', w', hr, h2, h3, _, h5⟩ := run_append_own_at (P := P) w base t ty e i0 z size bytes ht hi hz0 hz1 hz2 hzs hsz v n xs hown ad m c news hl (hnews ad rfl) h1 h63 hbytes hbase
    exact ⟨v', w', hr, h2, h3, h5⟩
theorem wp_append_any {o : Oper} {a : Act} {K : Act → World → Prop} {Q : Exit → Act → World → Prop} (s x : Operand) (t e : TypeId)
    (ho : o.op = .call { callee := .builtin .append, args := #[s, x], argTypes := #[t, t] })
    (base : Nat) (z : Value) (size bytes : Nat) (ht : P.underlying t = some (.slice e)) (hinf : (P.info? e).map (fun i => (i.zero, i.size, i.bytes)) = some (some z, size, bytes))
    (hzs : z.cells.size = size) (hsz : 0 < size) (v : Value) (n : Nat) (xs : List Value) (hs : a.eval s = v) (hown : w.ownsRow base e size v n xs)
    (a' : Option Addr) (m c : Nat) (hx : a.eval x = .slice a' m c) (news : List Value) (hc : a' = none → c = 0 ∧ m = 0) (hl : news.length = m * size) (hnews : ∀ ad, a' = some ad → ∀ (j : Nat) u, news[j]? = some u → w.cell? (ad.add j) = some u) (h1 : ∀ u ∈ news, u.oneCell' = true)
    (h63 : n + m ≤ maxLen) (hbytes : (n + m) * bytes ≤ 140737488355328) (hbase : base ≤ w.heap.size)
    (h : ∀ v' w', w'.ownsRow base e size v' (n + m) (xs ++ news) → w.grownBy w' v.ownBlock → (v'.ownBlock = v.ownBlock ∨ v'.ownBlock = some w.heap.size) → K (a.put o.dst v') w') : o.wp P a w K Q := by
  obtain ⟨v', w', hr, h2, h3, h4⟩ := run_append_any (P := P) w t o.type e base z size bytes ht hinf hzs hsz v n xs hown a' m c news hc hl hnews h1 h63 hbytes hbase
  unfold Oper.wp execOp
  simp only [ho, resolve, invoke, builtin, Sem.run_bind, Sem.run_pure, Result.andThen_ok, List.map_toArray, List.map_cons, List.map_nil, hs, hx, hr]
  exact h v' w' h2 h3 h4
theorem step_of_wp {o : Oper} {ops : Array Oper} {a : Act} {K : Act → World → Prop} {Q : Exit → Act → World → Prop} {E : Prop} (hgd : o.guard = none) (h : o.wp P a w K Q) : if Region.wanted o (yielded ops a.tmps) = true then Oper.wp P o a w K Q else E := by
  have hw : Region.wanted o (yielded ops a.tmps) = true := by simp [Region.wanted, hgd]
  rw [if_pos hw]
  exact h
end

/-! ### Rows that grow -/
def OwnRow (w : World) (lo : Nat) (u : Value) (row : List Bt) : Prop := w.ownsRow lo 76 6 u row.length (row.flatMap bCells)
/-- The rows lie in the outer slice v, the slices of the rows being vs, all in blocks of the call's own from lo to hi, none of them met twice. -/
def GR (w : World) (lo hi : Nat) (v : Value) (vs : List Value) (rows : List (List Bt)) : Prop :=
  vs.length = rows.length ∧ w.ownsRow lo 73 1 v rows.length vs ∧ (∀ g, v.ownBlock = some g → g < hi) ∧
    ∀ k (h : k < rows.length), ∃ u, vs[k]? = some u ∧ OwnRow w lo u rows[k] ∧ (∀ g, u.ownBlock = some g → g < hi ∧ v.ownBlock ≠ some g ∧ ∀ (k' : Nat), k' < k → ∀ u', vs[k']? = some u' → u'.ownBlock ≠ some g)
theorem GR.nil (w : World) (lo hi : Nat) : GR w lo hi (.slice none 0 0) [] [] := ⟨rfl, World.ownsRow_nil _ _ _ _, (fun g h => by cases h), (fun k h => absurd h (Nat.not_lt_zero _))⟩
theorem ownsRow_kept {w w' : World} {base : Nat} {e : TypeId} {size : Nat} {v : Value} {n : Nat} {xs : List Value} {row : Option Nat} (h : w.ownsRow base e size v n xs) (hg : w.grownBy w' row) (ho : ∀ g, v.ownBlock = some g → row ≠ some g) : w'.ownsRow base e size v n xs :=
  h.kept hg (by
    cases hb : v.ownBlock with
    | none => exact .inl rfl
    | some k => exact .inr (fun e => ho k hb e.symm))
theorem ownsRow_lt {w : World} {base : Nat} {e : TypeId} {size : Nat} {v : Value} {n : Nat} {xs : List Value} (h : w.ownsRow base e size v n xs) {g : Nat} (hg : v.ownBlock = some g) : base ≤ g ∧ g < w.heap.size := World.ownsRow.lt h g hg
theorem GR.ext {w w' : World} {lo hi : Nat} {v : Value} {vs : List Value} {rows : List (List Bt)} (h : GR w lo hi v vs rows) (hx : Ext w w') : GR w' lo hi v vs rows :=
  ⟨h.1, ownsRow_ext h.2.1 hx, h.2.2.1, fun k hk => let ⟨u, h1, h2, h3⟩ := h.2.2.2 k hk; ⟨u, h1, ownsRow_ext h2 hx, h3⟩⟩
theorem ownsRow_low {w : World} {base base' : Nat} {e : TypeId} {size : Nat} {v : Value} {n : Nat} {xs : List Value} (h : w.ownsRow base e size v n xs) (hb : base' ≤ base) : w.ownsRow base' e size v n xs := by
  refine ⟨h.1, ?_⟩
  rcases h.2 with h2 | ⟨g, cap, cur, h3, h4, h5⟩
  · exact .inl h2
  · exact .inr ⟨g, cap, cur, h3, Nat.le_trans hb h4, h5⟩
theorem GR.wide {w : World} {lo hi lo' hi' : Nat} {v : Value} {vs : List Value} {rows : List (List Bt)} (h : GR w lo hi v vs rows) (hl : lo' ≤ lo) (hh : hi ≤ hi') : GR w lo' hi' v vs rows :=
  ⟨h.1, ownsRow_low h.2.1 hl, fun g hg => Nat.lt_of_lt_of_le (h.2.2.1 g hg) hh, fun k hk => let ⟨u, h1, h2, h3⟩ := h.2.2.2 k hk; ⟨u, h1, ownsRow_low h2 hl, fun g hg => ⟨Nat.lt_of_lt_of_le (h3 g hg).1 hh, (h3 g hg).2⟩⟩⟩
/-- Another block than those of the rows has changed. -/
theorem GR.grown {w w' : World} {lo hi : Nat} {v : Value} {vs : List Value} {rows : List (List Bt)} {r : Option Nat} (h : GR w lo hi v vs rows) (hg : w.grownBy w' r) (hr : ∀ B, r = some B → B < lo ∨ hi ≤ B) : GR w' lo hi v vs rows :=
  ⟨h.1, ownsRow_kept h.2.1 hg (fun g hv e => by have h1 := h.2.2.1 g hv; have h2 := ownsRow_lt h.2.1 hv; have := hr g e; omega), h.2.2.1, fun k hk =>
    let ⟨u, h1, h2, h3⟩ := h.2.2.2 k hk
    ⟨u, h1, ownsRow_kept h2 hg (fun g hu e => by have q1 := (h3 g hu).1; have q2 := ownsRow_lt h2 hu; have := hr g e; omega), h3⟩⟩
theorem GR.set {w : World} {lo hi : Nat} {v : Value} {vs : List Value} {rows : List (List Bt)} (h : GR w lo hi v vs rows) {p : Addr} (hp : p.block < lo ∨ hi ≤ p.block) (x : Value) : GR (w.setCell p x) lo hi v vs rows :=
  h.grown (r := some p.block) ⟨rfl, rfl, rfl, by rw [size_setCell']; exact Nat.le_refl _, fun k hk hne => Below.heap_setCell w p x k (fun e => hne (by rw [e]))⟩ (fun B e => by cases e; exact hp)
/-- One row more. -/
theorem GR.push {w w1 w2 : World} {lo hi : Nat} {v v' u : Value} {vs : List Value} {rows : List (List Bt)} {row : List Bt} (h : GR w lo hi v vs rows) (hhi : hi ≤ w.heap.size) (hx : Ext w w1) (hu : OwnRow w1 lo u row) (hub : ∀ g, u.ownBlock = some g → hi ≤ g)
    (hown : w2.ownsRow lo 73 1 v' (rows.length + 1) (vs ++ [u])) (hg : w1.grownBy w2 v.ownBlock) (hat : v'.ownBlock = v.ownBlock ∨ v'.ownBlock = some w1.heap.size) : GR w2 lo w2.heap.size v' (vs ++ [u]) (rows ++ [row]) := by
  have hs1 := hx.size
  have hs2 := hg.size
  refine ⟨by simp [h.1], by simpa using hown, fun g hv => (ownsRow_lt hown hv).2, fun k hk => ?_⟩
  have hk' : k ≤ rows.length := by simp at hk; omega
  by_cases e : k = rows.length
  · subst e
    refine ⟨u, by rw [← h.1]; simp, ?_, fun g hgu => ?_⟩
    · simp only [List.getElem_concat_length]
      exact ownsRow_kept hu hg (fun g hgu e => by have := hub g hgu; have := h.2.2.1 g e; omega)
    · have q1 := ownsRow_lt hu hgu
      have q2 := hub g hgu
      refine ⟨by omega, fun e => ?_, fun k' hk' u' hu' e => ?_⟩
      · rcases hat with hat | hat
        · rw [hat] at e
          have := h.2.2.1 g e
          omega
        · rw [hat] at e
          have := Option.some.inj e
          omega
      · rw [List.getElem?_append_left (by rw [h.1]; exact hk')] at hu'
        obtain ⟨u2, e2, _, h3⟩ := h.2.2.2 k' hk'
        rw [hu'] at e2
        cases e2
        have := (h3 g e).1
        omega
  · have hlt : k < rows.length := by omega
    obtain ⟨u2, e2, h2, h3⟩ := h.2.2.2 k hlt
    refine ⟨u2, by rw [List.getElem?_append_left (by rw [h.1]; exact hlt)]; exact e2, ?_, fun g hgu => ?_⟩
    · rw [List.getElem_append_left hlt]
      exact ownsRow_kept (ownsRow_ext h2 hx) hg (fun g hgu e => (h3 g hgu).2.1 e)
    · have q1 := (h3 g hgu).1
      refine ⟨by omega, fun e => ?_, fun k' hk' u' hu' e => ?_⟩
      · rcases hat with hat | hat
        · rw [hat] at e
          exact (h3 g hgu).2.1 e
        · rw [hat] at e
          have := Option.some.inj e
          omega
      · rw [List.getElem?_append_left (by rw [h.1]; omega)] at hu'
        exact (h3 g hgu).2.2 k' hk' u' hu' e
/-- Read as rows of the call's own. -/
theorem OwnRow.rowOwn {w : World} {lo hi : Nat} {u : Value} {row : List Bt} (h : OwnRow w lo u row) (hh : ∀ g, u.ownBlock = some g → g < hi) : RowOwn w lo hi u row (u.ownBlock.getD 0) := by
  rcases h.2 with ⟨rfl, hn⟩ | ⟨g, cap, cur, rfl, hb, hheap, hnc, hcm, hcs, htake⟩
  · have : row = [] := List.eq_nil_of_length_eq_zero hn
    subst this
    exact ⟨none, 0, rfl, ⟨Nat.zero_le _, fun _ => rfl⟩, .inl rfl⟩
  · refine ⟨some ⟨g, 0, none⟩, cap, rfl, ⟨by omega, fun h => by cases h⟩, .inr ⟨0, cur, rfl, hb, hh g rfl, hheap, fun k hk j x hx => ?_⟩⟩
    have hj : j < 6 := (List.getElem?_eq_some_iff.1 hx).1
    have e1 := flatMap_get bCells_len row k j hk hj
    rw [hx, ← htake, List.getElem?_take] at e1
    rw [Nat.zero_add]
    split at e1
    · simpa using e1
    · cases e1
theorem GR.own {w : World} {lo hi : Nat} {v : Value} {vs : List Value} {rows : List (List Bt)} (h : GR w lo hi v vs rows) : ∃ a c, v = .slice a rows.length c ∧ (rows.length ≤ maxLen ∧ (a = none → c = 0)) ∧ OwnRows w lo hi a rows := by
  obtain ⟨h1, h2, h3, h4⟩ := h
  rcases h2.2 with ⟨rfl, hn⟩ | ⟨g, cap, cur, rfl, hb, hheap, hnc, hcm, hcs, htake⟩
  · have : rows = [] := List.eq_nil_of_length_eq_zero hn
    subst this
    exact ⟨none, 0, rfl, ⟨Nat.zero_le _, fun _ => rfl⟩, .inl rfl⟩
  · refine ⟨some ⟨g, 0, none⟩, cap, rfl, ⟨by omega, fun h => by cases h⟩, .inr ⟨g, 0, cur, fun k => ((vs[k]?).bind Value.ownBlock).getD 0, rfl, hb, h3 g rfl, hheap, fun k hk => ?_⟩⟩
    obtain ⟨u, e, hu, hd⟩ := h4 k hk
    have hown : ∀ (q : Nat) (hq : q < rows.length), rows[q] ≠ [] → ∀ x, vs[q]? = some x → OwnRow w lo x rows[q] → ∃ B, x.ownBlock = some B := by
      intro q hq hne x _ hx
      rcases hx.2 with ⟨rfl, hn⟩ | ⟨g', cap', cur', rfl, _⟩
      · exact absurd (List.eq_nil_of_length_eq_zero hn) hne
      · exact ⟨g', rfl⟩
    refine ⟨⟨u, ?_, ?_⟩, fun hne => ?_⟩
    · rw [Nat.zero_add]
      rw [← htake, List.getElem?_take] at e
      split at e
      · simpa using e
      · cases e
    · simp only [e, Option.bind_some]
      exact hu.rowOwn (fun g hg => (hd g hg).1)
    · obtain ⟨B, hB⟩ := hown k hk hne u e hu
      simp only [e, Option.bind_some, hB, Option.getD_some]
      refine ⟨fun eB => (hd B hB).2.1 (by rw [eB]; rfl), fun k' hk' hne' => ?_⟩
      obtain ⟨u', e', hu', _⟩ := h4 k' (by omega)
      obtain ⟨B', hB'⟩ := hown k' (by omega) hne' u' e' hu'
      simp only [e', Option.bind_some, hB', Option.getD_some]
      exact fun eB => (hd B hB).2.2 k' hk' u' e' (by rw [hB', eB])
theorem GR.rows {w : World} {lo hi : Nat} {v : Value} {vs : List Value} {rows : List (List Bt)} (h : GR w lo hi v vs rows) : ∃ a c, v = .slice a rows.length c ∧ (rows.length ≤ maxLen ∧ (a = none → c = 0)) ∧ RowsAt w a rows :=
  let ⟨a, c, e, hm, ho⟩ := h.own; ⟨a, c, e, hm, ho.rows⟩
theorem rows_take {rows : List (List Bt)} {k : Nat} (h : k < rows.length) : rows.take (k + 1) = rows.take k ++ [rows[k]] := List.take_succ_eq_append_getElem h
theorem cell_flat {w : World} {a' : Option Addr} {row : List Bt} (h : FlatAt w bCells 6 a' row) : ∀ ad, a' = some ad → ∀ (j : Nat) u, (row.flatMap bCells)[j]? = some u → w.cell? (ad.add j) = some u := by
  intro ad e
  subst e
  cases row with
  | nil => intro j u hu; simp at hu
  | cons r rs =>
    obtain ⟨b, off, e, _⟩ := h 0 (by simp)
    cases e
    exact flat_cells h
theorem flat_none {w : World} {a' : Option Addr} {row : List Bt} (h : FlatAt w bCells 6 a' row) (e : a' = none) : row = [] := by
  cases row with
  | nil => rfl
  | cons r rs => obtain ⟨_, _, e', _⟩ := h 0 (by simp); rw [e] at e'; cases e'
/-- append of a row of boats, nil or not, to a row of the call's own, at the operation. -/
theorem wp_append_row {w : World} {o : Oper} {a : Act} {K : Act → World → Prop} {Q : Exit → Act → World → Prop} (s x : Operand)
    (ho : o.op = .call { callee := .builtin .append, args := #[s, x], argTypes := #[73, 73] })
    (base : Nat) (v : Value) (done row : List Bt) (hs : a.eval s = v) (hown : OwnRow w base v done)
    (a' : Option Addr) (m c : Nat) (hm : m = row.length) (hx : a.eval x = .slice a' m c) (hc : a' = none → c = 0) (hf : FlatAt w bCells 6 a' row) (hle : done.length + row.length ≤ 1048576) (hbase : base ≤ w.heap.size)
    (h : ∀ v' w', OwnRow w' base v' (done ++ row) → w.grownBy w' v.ownBlock → (v'.ownBlock = v.ownBlock ∨ v'.ownBlock = some w.heap.size) → K (a.put o.dst v') w') : o.wp Try.prog a w K Q := by
  subst hm
  refine wp_append_any w s x _ 76 ho base _ 6 48 Try.underlying73 info_boat rfl (by decide) v _ _ hs hown a' _ c hx (row.flatMap bCells) (fun e => ⟨hc e, by rw [flat_none hf e]; rfl⟩) (flatMap_len _) (cell_flat hf) (cells_one _) (by unfold maxLen; omega) (by omega) hbase ?_
  intro v' w' h1 h2 h3
  exact h v' w' (by unfold OwnRow; rw [List.length_append, List.flatMap_append]; exact h1) h2 h3
/-- append of slices of rows to the outer slice, at the operation. -/
theorem wp_append_outer {w : World} {o : Oper} {a : Act} {K : Act → World → Prop} {Q : Exit → Act → World → Prop} (s x : Operand)
    (ho : o.op = .call { callee := .builtin .append, args := #[s, x], argTypes := #[45, 45] })
    (base : Nat) (v : Value) (n : Nat) (vs : List Value) (hs : a.eval s = v) (hown : w.ownsRow base 73 1 v n vs)
    (a' : Option Addr) (m c : Nat) (hx : a.eval x = .slice a' m c) (us : List Value) (hm : us.length = m) (hc : a' = none → c = 0) (hus : ∀ (j : Nat) u, us[j]? = some u → ∃ b off, a' = some ⟨b, off, none⟩ ∧ w.cell? ⟨b, off + j, none⟩ = some u) (hone : ∀ u ∈ us, u.oneCell' = true)
    (hle : n + m ≤ 1048576) (hbase : base ≤ w.heap.size)
    (h : ∀ v' w', w'.ownsRow base 73 1 v' (n + m) (vs ++ us) → w.grownBy w' v.ownBlock → (v'.ownBlock = v.ownBlock ∨ v'.ownBlock = some w.heap.size) → K (a.put o.dst v') w') : o.wp Try.prog a w K Q := by
  refine wp_append_any w s x _ 73 ho base _ 1 24 Try.underlying45 info_boats rfl (by decide) v n vs hs hown a' m c hx us (fun e => ⟨hc e, ?_⟩) (by rw [hm]; omega) ?_ hone (by unfold maxLen; omega) (by omega) hbase h
  · cases us with
    | nil => rw [← hm]; rfl
    | cons u us => obtain ⟨_, _, e', _⟩ := hus 0 u rfl; rw [e] at e'; cases e'
  · intro ad e j u hu
    obtain ⟨b, off, e', hcell⟩ := hus j u hu
    rw [e] at e'
    cases e'
    rw [add_plain rfl]
    exact hcell
/-- One slice that has been laid in a block of its own just now. -/
theorem one_new (w : World) (t : TypeId) (u : Value) : ∀ (j : Nat) x, [u][j]? = some x → ∃ b off, (some ⟨w.heap.size, 0, none⟩ : Option Addr) = some ⟨b, off, none⟩ ∧ (w.alloc (.cells #[u] t)).cell? ⟨b, off + j, none⟩ = some x := by
  intro j x hx
  match j, hx with
  | 0, hx => cases hx; exact ⟨_, _, rfl, (RowAt.new w t #[u]).cell rfl⟩
  | j + 1, hx => simp at hx
theorem OwnRow.one {w : World} {lo : Nat} {u : Value} {row : List Bt} (h : OwnRow w lo u row) : u.oneCell' = true := by
  rcases h.2 with ⟨rfl, _⟩ | ⟨g, cap, cur, rfl, _⟩ <;> rfl
theorem OwnRow.form {w : World} {lo : Nat} {u : Value} {row : List Bt} (h : OwnRow w lo u row) : ∃ a c, u = .slice a row.length c := by
  rcases h.2 with ⟨rfl, hn⟩ | ⟨g, cap, cur, rfl, _⟩
  · exact ⟨none, 0, by rw [hn]⟩
  · exact ⟨_, _, rfl⟩
theorem OwnRow.ext {w w' : World} {lo : Nat} {u : Value} {row : List Bt} (h : OwnRow w lo u row) (hx : Ext w w') : OwnRow w' lo u row := ownsRow_ext h hx
/-- A new slice literal without elements. -/
theorem OwnRow.lit (w : World) : OwnRow (w.alloc (.cells #[] 76)) w.heap.size (.slice (some ⟨w.heap.size, 0, none⟩) 0 0) [] := by
  have := World.ownsRow_lit (base := w.heap.size) (e := 76) (size := 6) w #[] 0 (by simp) (by unfold maxLen; omega) rfl
  simpa [OwnRow] using this
theorem Ext.own2 {w0 w w' : World} {v : Value} {lo : Nat} {t : TypeId} {sz n : Nat} {xs : List Value} (h : Ext w0 w) (hg : w.grownBy w' v.ownBlock) (hv : w.ownsRow lo t sz v n xs) (hl : w0.heap.size ≤ lo) : Ext w0 w' :=
  h.own hg (fun k hk => Nat.le_trans hl (ownsRow_lt hv hk).1)
theorem cell_set {w : World} {p q : Addr} {v x : Value} (h : w.cell? q = some x) (hp : q.block ≠ p.block) : (w.setCell p v).cell? q = some x :=
  (World.cell?_of_block (Below.heap_setCell w p v q.block hp)).trans h
theorem cell_drew {w : World} {q : Addr} {x : Value} (h : w.cell? q = some x) : w.drew.cell? q = some x := h
end Go.Proofs.Ytmppoflgbmabpaa
/- A region that draws its order, walked step by step: what yields in every world of a class is taken first; of the rest, whichever comes up. -/
namespace Go.Proofs.Ytmppoflgbmabpaa
open Go.RowKit
section
variable {P : Program} {Q : Exit → Act → World → Prop} {md : Region.Mode} {S : World → Prop}
theorem take_l {l : List Oper} (i : Nat) {oi : Oper} {v : Value} {fuel : Nat} {listed : Array Bool} {a : Act} {w : World} (hi : l[i]? = some oi)
    (hs : Region.noSelect l.toArray = true) (hf : Region.free md l.toArray listed i = true) (hr : (Region.ready md l.toArray listed).contains i = true)
    (hQ : ∀ c a w, Q (.panic c) (a.put oi.dst v) w → Q (.panic c) a w) (hw : Region.wanted oi (yielded l.toArray a.tmps) = true)
    (hy : ∀ w, S w → (execOp a.eval oi).run P w = .ok (.value v) w) (hS : S w)
    (h : wpAnyH P md l.toArray Q S fuel (listed.setIfInBounds i true) (a.put oi.dst v) w) : wpAnyH P md l.toArray Q S (fuel + 1) listed a w :=
  wpAnyH_take (by simpa using hi) hs hf hr hQ (Or.inl ⟨hw, hy⟩) hS h
theorem cons_l {l : List Oper} {fuel : Nat} {listed : Array Bool} {a : Act} {w : World} {i : Nat} {o : Oper} {rs : List Nat} (ho : l[i]? = some o)
    (h : ∀ K' : Act → World → Prop, Shut (∀ a w, S w → (S w → wpAnyH P md l.toArray Q S fuel (listed.setIfInBounds i true) a w) → K' a w) → if Region.wanted o (yielded l.toArray a.tmps) = true then Oper.wp P o a w K' Q else K' (a.put o.dst undef) w)
    (hs : AllReadyH P md l.toArray Q S fuel listed a w rs) : AllReadyH P md l.toArray Q S fuel listed a w (i :: rs) :=
  AllReadyH.cons (by simpa using ho) h hs
end
end Go.Proofs.Ytmppoflgbmabpaa
/- Copies of rows and of trains, on both sides. -/
namespace Go.Proofs.Ytmppoflgbmabpaa
open Go.RowKit
set_option linter.unusedSimpArgs false
set_option linter.unusedVariables false

set_option maxHeartbeats 1000000 in
theorem clone_any (a : Option Addr) (n c : Nat) (row : List Bt) (w : World) (hn : n = row.length) (hs : n ≤ 1048576) (hc : a = none → c = 0) (hf : FlatAt w bCells 6 a row) :
    Calls Try.prog 65 #[.slice a n c] w fun e w' => ∃ a' c', e = .returned (.slice a' n c') ∧ OwnRow w' w.heap.size (.slice a' n c') row ∧ Ext w w' := by
  have qT : ∀ (w : World) (a : Option Addr) (n c n' c' : Nat), (binOp .eql 73 (.slice a n c) (.slice none n' c')).run Try.prog w = .ok (.bool a.isNone) w := fun w a n c n' c' => Lib.run_eql_slice_nil w _ _ a n c n' c' Try.underlying73
  have HF := Lib.hid hf; clear hf
  have HN := Lib.hid hn
  have HLE := Lib.hid (show row.length ≤ 1048576 by omega)
  clear hn
  cases a with
  | none =>
    have hr := Lib.hid (flat_none HF.out rfl)
    have hn0 := Lib.hid (show n = 0 by rw [HN.out, hr.out]; rfl)
    go_enter Try.func65, Try.ntmps65
    go_wp2
    go_ret
    exact ⟨none, 0, by (show Ending.returned (Value.slice none 0 0) = _); rw [hn0.out], by rw [hr.out, hn0.out]; exact World.ownsRow_nil _ _ _ _, Ext.refl _⟩
  | some ad =>
    go_enter Try.func65, Try.ntmps65
    go_wp2_with (at_builtin; refine wpList_plain rfl fun K hK => wp_append_row _ _ rfl w.heap.size _ [] row rfl (OwnRow.lit w) _ n c HN.out rfl (fun h => by cases h) (HF.out.ext ((Ext.refl _).alloc _)) (by simpa using HLE.out) (by simp) ?_)
    intro v' w5 hown5 hgrow5 _
    have hx5 : Ext w w5 := Ext.own2 ((Ext.refl w).alloc _) hgrow5 (OwnRow.lit w) (Nat.le_refl _)
    obtain ⟨a9, c9, rfl⟩ := hown5.form
    have HO := Lib.hid hown5; clear hown5 hgrow5
    refine hK _ _ ?_
    clear hK K
    go_wp2
    go_ret
    exact ⟨a9, c9, by (show Ending.returned (Value.slice a9 row.length c9) = _); rw [HN.out], by rw [HN.out]; exact HO.out, hx5⟩

set_option maxRecDepth 100000 in
set_option maxHeartbeats 2000000 in
theorem copyRows_any (a : Option Addr) (n c : Nat) (rows : List (List Bt)) (w : World) (hn : n = rows.length) (hs : n ≤ 1048576) (hrs : ∀ r ∈ rows, r.length ≤ 1048576) (hf : RowsAt w a rows) :
    Calls Try.prog 55 #[.slice a n c] w fun e w' => ∃ a' c' vs, e = .returned (.slice a' n c') ∧ GR w' w.heap.size w'.heap.size (.slice a' n c') vs rows ∧ Ext w w' := by
  have HF := Lib.hid hf; clear hf
  have HN := Lib.hid hn; clear hn
  have HR := Lib.hid hrs; clear hrs
  go_enter Try.func55, Try.ntmps55
  go_wp2
  go_loopw [3, 8] (fun v i wr => ∃ (k : Nat) (vs : List Value) (done : List (List Bt)), k ≤ n ∧ i = .int .i64 k ∧ Ext w wr ∧ Hid (done = rows.take k) ∧ Hid (GR wr w.heap.size wr.heap.size v vs done)) (fun _ i _ => n - (intOf i).toNat)
  case atStart => exact ⟨0, [], [], Nat.zero_le _, rfl, by (repeat' (first | (with_reducible exact Ext.refl _) | (with_reducible assumption) | (with_reducible refine Ext.alloc ?_ _) | (with_reducible refine Ext.drewN ?_ _) | (with_reducible refine Ext.drew ?_) | (with_reducible refine Ext.setCell ?_ ?_ _) | (with_reducible exact Nat.le_refl _) | (with_reducible exact Nat.le_succ _) | (with_reducible refine Ext.trans ?_ (by assumption)) | (simp; done) | (simp; omega))), rfl, GR.nil _ _ _⟩
  case round =>
    obtain ⟨k, vs, done, hk, rfl, hr, hdone, hgr⟩ := hrel
    by_cases hlt : k < n
    · have hlt' : k < rows.length := by rw [← HN.out]; exact hlt
      obtain ⟨b, off, a', c', rfl, hc0, hml, hfr⟩ := HF.out k hlt'
      have e0 : wr.cell? ⟨b, off + k, none⟩ = some (.slice a' rows[k].length c') := hr.cell hc0
      have HFR := Lib.hid (hfr.ext hr); clear hfr hc0
      obtain ⟨row, hrow⟩ : ∃ row, rows[k] = row := ⟨_, rfl⟩
      have HLR := Lib.hid (show row.length ≤ 1048576 by rw [← hrow]; exact HR.out _ (List.getElem_mem _))
      have HD := Lib.hid (show done ++ [row] = rows.take (k + 1) by rw [rows_take hlt', hdone.out, hrow])
      rw [hrow] at e0 HFR hml
      have HML := Lib.hid hml; clear hml
      have hdl : done.length = k := by rw [hdone.out, List.length_take]; omega
      have HDL := Lib.hid hdl
      clear hrow hdone hdl
      obtain ⟨m, hm⟩ : ∃ m, m = row.length := ⟨_, rfl⟩
      rw [← hm] at e0
      have HLM := Lib.hid (show m ≤ 1048576 by rw [hm]; exact HLR.out)
      have HM := Lib.hid hm; clear hm
      have hsz := hr.size
      go_wp2_with fail
      refine (clone_any a' m c' row _ HM.out HLM.out HML.out.2 HFR.out).mono ?_
      rintro e w1 ⟨ua, uc, rfl, hu, hb1⟩
      have HU := Lib.hid hu; clear hu
      have HB1 := Lib.hid hb1
      have hs1 := hb1.size
      have HX1 := Lib.hid (hb1.trans ((Ext.refl w1).alloc (.cells #[.slice ua m uc] 73)))
      have HOW := Lib.hid (ownsRow_ext hgr.out.2.1 HX1.out)
      rw [HDL.out] at HOW
      go_wp2_with (at_builtin; refine wpList_plain rfl fun K hK => wp_append_outer _ _ rfl w.heap.size _ k vs rfl HOW.out _ 1 1 rfl [.slice ua m uc] rfl (fun h => by cases h) (one_new w1 _ (.slice ua m uc)) (fun x hx => by cases List.mem_singleton.1 hx; exact HU.out.one) (by omega) (by simp; omega) ?_)
      intro v' w5 hown5 hgrow5 hat5
      have hx5 : Ext w w5 := Ext.own2 (hr.trans HX1.out) hgrow5 HOW.out (Nat.le_refl _)
      have HG := Lib.hid (GR.push (row := row) hgr.out (Nat.le_refl _) HX1.out (ownsRow_low (HU.out.ext ((Ext.refl w1).alloc _)) hsz) (fun g hg => (ownsRow_lt HU.out hg).1) (by rw [HDL.out]; exact hown5) hgrow5 (by rw [World.size_alloc]; exact hat5))
      rw [HD.out] at HG
      clear hown5 hgrow5 hat5
      refine hK _ _ ?_
      clear hK K
      go_wp2
      go_roundw
      case rel => exact ⟨k + 1, _, _, by omega, by go_num, hx5, rfl, HG.out⟩
      case measure => simp [intOf]; omega
    · have hkn : k = n := by omega
      have HD : done = rows := by rw [hdone.out, hkn, HN.out, List.take_length]
      clear hdone
      obtain ⟨a9, c9, rfl, _, _⟩ := hgr.out.own
      have HG := Lib.hid hgr.out
      rw [HD, ← HN.out] at HG
      have hnn := Lib.hid (show done.length = n by rw [HD, HN.out])
      clear HD
      go_wp2
      go_ret
      exact ⟨a9, c9, vs, by (show Ending.returned (Value.slice a9 done.length c9) = _); rw [hnn.out], HG.out, hr⟩

end Go.Proofs.Ytmppoflgbmabpaa
/- How trains that come as arguments read: opened to cells. -/
namespace Go.Proofs.Ytmppoflgbmabpaa
open Go.RowKit Go.WideShapes Go.ChangeShapes Go.Deep Go.Joins
set_option maxRecDepth 100000
section
variable {H : Type} {enc : TypeId × Value → H} {P : Program} {w : World} {base : Nat} {spare : Nat → Bool} {held : Bool}
/-- A slice, opened at every element, each read as 'Good' says. -/
theorem open_slice_good {α : Type} [Inhabited α] {t e : TypeId} {sz fuel : Nat} {cs : List Value} {x : DataW H × List MemPlace} (ht : P.underlying t = some (.slice e)) (hC : P.cellsOf e = sz) (h0 : 0 < sz) (Good : List Value → α → Prop)
    (hel : ∀ n cs y, cs.length = sz → DataW.trod enc P w base spare held n e cs = some y → ∃ x, Good cs x) (h : DataW.trod enc P w base spare held fuel t cs = some x) :
    ∃ (a : Option Addr) (len cap : Nat) (xs : List α), cs = [.slice a len cap] ∧ len = xs.length ∧ (len ≤ maxLen ∧ (a = none → cap = 0)) ∧
      ∀ k (h : k < xs.length), ∃ b off cs', a = some ⟨b, off, none⟩ ∧ cs'.length = sz ∧ (∀ j, j < sz → w.cell? ⟨b, off + k * sz + j, none⟩ = cs'[j]?) ∧ Good cs' xs[k] := by
  rcases open_slice ht h with ⟨rfl, _⟩ | ⟨a, len, cap, m, n, D, Pl, rfl, _, hl, hm, hmm, _, hi⟩
  · exact ⟨none, 0, 0, [], rfl, rfl, ⟨Nat.zero_le _, fun _ => rfl⟩, fun k hk => absurd hk (Nat.not_lt_zero _)⟩
  · have hlm : len ≤ m := by rw [hmm]; split <;> omega
    have key : ∀ i, i < len → ∃ x : α, ∃ cs', cs'.length = sz ∧ (∀ j, j < sz → w.cell? ((a.add (i * sz)).add j) = cs'[j]?) ∧ Good cs' x := fun i hil => by
      obtain ⟨cs', hc, htr⟩ := hi i (by omega)
      rw [hC] at hc
      obtain ⟨_, hcl, hat⟩ := World.cells?_some hc
      obtain ⟨x, hx⟩ := hel n cs' _ hcl htr
      exact ⟨x, cs', hcl, hat, hx⟩
    obtain ⟨Z, hZ⟩ := choose_lt (α := α) (p := fun i x => ∃ cs', cs'.length = sz ∧ (∀ j, j < sz → w.cell? ((a.add (i * sz)).add j) = cs'[j]?) ∧ Good cs' x) key
    refine ⟨some a, len, cap, (List.range len).map Z, rfl, by simp, ⟨by omega, fun h => by cases h⟩, fun k hk => ?_⟩
    have hk' : k < len := by simpa using hk
    obtain ⟨cs', hcl, hat, hg⟩ := hZ k hk'
    have hs : a.spot = none := by
      obtain ⟨cs0, hl0, hat0, _⟩ := hZ 0 (by omega)
      have h1 := hat0 0 h0
      rw [List.getElem?_eq_getElem (by omega)] at h1
      have := spot_of_cell h1
      simpa [Addr.add] using this
    refine ⟨a.block, a.off, cs', by rw [← hs], hcl, fun j hj => ?_, by simpa using hg⟩
    have := hat j hj
    rw [Go.Deep.add_add, add_plain hs] at this
    rw [Nat.add_assoc]
    exact this
end
instance : Inhabited Bt := ⟨⟨0, 0, 0, 0, 0, 0⟩⟩
section
variable {H : Type} {enc : TypeId × Value → H} {w : World} {base : Nat} {spare : Nat → Bool} {held : Bool}
theorem total_flatten (rows : List (List Bt)) : total rows = rows.flatten.length := by rw [List.length_flatten]; rfl
theorem szRows_bounds {L : Int} {rows : List (List Bt)} (h0 : 0 ≤ L) (h1 : L ≤ 1048576) (h : ¬ szRows L rows < 0) : rows.length ≤ 1048576 ∧ (∀ r ∈ rows, r.length ≤ 1048576) ∧ rows.flatten.length ≤ 1048576 := by
  have hv := szRows_val h0 (by omega : 0 ≤ szRows L rows)
  have ht := total_flatten rows
  refine ⟨by omega, fun r hr => ?_, by omega⟩
  have := total_le hr
  omega
end
end Go.Proofs.Ytmppoflgbmabpaa
/- How calls that come as arguments read. -/
namespace Go.Proofs.Ytmppoflgbmabpaa
open Go.RowKit Go.WideShapes Go.ChangeShapes Go.Deep Go.Joins
set_option maxRecDepth 100000
def I64 (z : Int) : Prop := -9223372036854775808 ≤ z ∧ z ≤ 9223372036854775807
theorem i64_of {z : Int} (h : (Lit.int .i64 z).wf = true) : I64 z := by
  unfold Lit.wf at h
  rw [Bool.and_eq_true] at h
  exact ⟨of_decide_eq_true h.1, of_decide_eq_true h.2⟩
section
variable {H : Type} {enc : TypeId × Value → H} {w : World} {base : Nat} {spare : Nat → Bool} {held : Bool}
end
end Go.Proofs.Ytmppoflgbmabpaa
/- Lists of trains: sizes, conversion, comparison, how they open. -/
namespace Go.Proofs.Ytmppoflgbmabpaa
open Go.RowKit
set_option linter.unusedSimpArgs false
set_option linter.unusedVariables false

/-- A train: up, rows. -/
abbrev Tn : Type := Bool × List (List Bt)
/-- The trains lie one behind the other at a. -/
def TrainsAt (w : World) (a : Option Addr) (ts : List Tn) : Prop :=
  ∀ k (h : k < ts.length), ∃ b off a' c, a = some ⟨b, off, none⟩ ∧ w.cell? ⟨b, off + k * 2, none⟩ = some (.bool ts[k].1) ∧ w.cell? ⟨b, off + k * 2 + 1, none⟩ = some (.slice a' ts[k].2.length c) ∧ ts[k].2.length ≤ maxLen ∧ RowsAt w a' ts[k].2
theorem TrainsAt.ext {w w' : World} {a : Option Addr} {ts : List Tn} (h : TrainsAt w a ts) (hx : Ext w w') : TrainsAt w' a ts :=
  fun k hk => let ⟨b, off, a', c, e, h0, h1, hl, hr⟩ := h k hk; ⟨b, off, a', c, e, hx.cell h0, hx.cell h1, hl, hr.ext hx⟩
def SmallT (t : Tn) : Prop := t.2.length ≤ 1048576 ∧ (∀ r ∈ t.2, r.length ≤ 1048576) ∧ t.2.flatten.length ≤ 1048576
def szTGo (left : Int) : List Tn → Int
  | [] => left
  | t :: ts => if szRows left t.2 < 0 then -1 else szTGo (szRows left t.2) ts
def szTrains (left : Int) (ts : List Tn) : Int := if szRow left ts.length < 0 then -1 else szTGo (szRow left ts.length) ts
theorem szRows_le {left : Int} {rows : List (List Bt)} (h0 : 0 ≤ left) (h : ¬ szRows left rows < 0) : szRows left rows ≤ left := by
  have := szRows_val h0 (by omega : 0 ≤ szRows left rows)
  omega
theorem szTGo_bounds : ∀ (ts : List Tn) (l : Int), 0 ≤ l → l ≤ 1048576 → ¬ szTGo l ts < 0 → (∀ t ∈ ts, SmallT t) ∧ szTGo l ts ≤ l
  | [], l, _, _, _ => ⟨(fun _ h => by cases h), Int.le_refl _⟩
  | t :: ts, l, h0, h1, h => by
    simp only [szTGo] at h ⊢
    split at h
    · omega
    · rename_i h2
      rw [if_neg h2]
      have hle := szRows_le h0 h2
      obtain ⟨k1, k2⟩ := szTGo_bounds ts (szRows l t.2) (by omega) (by omega) h
      refine ⟨fun x hx => ?_, by omega⟩
      rcases List.mem_cons.1 hx with rfl | hx
      · exact szRows_bounds h0 h1 h2
      · exact k1 x hx
theorem szTrains_bounds {l : Int} {ts : List Tn} (h0 : 0 ≤ l) (h1 : l ≤ 1048576) (h : ¬ szTrains l ts < 0) : ts.length ≤ 1048576 ∧ (∀ t ∈ ts, SmallT t) ∧ szTrains l ts ≤ l := by
  unfold szTrains at *
  split at h
  · omega
  · rename_i h2
    rw [if_neg h2]
    obtain ⟨e, hl⟩ := szRow_val h2
    obtain ⟨k1, k2⟩ := szTGo_bounds ts _ (by omega) (by omega) h
    exact ⟨by omega, k1, by omega⟩
theorem szTrains_neg {l : Int} {ts : List Tn} (h0 : 0 ≤ l) (h1 : l ≤ 1048576) (h : szTrains l ts < 0) : szTrains l ts = -1 := by
  have key : ∀ (ts : List Tn) (l : Int), 0 ≤ l → szTGo l ts < 0 → szTGo l ts = -1 := by
    intro ts
    induction ts with
    | nil => intro l h0 h; simp [szTGo] at h; omega
    | cons t ts ih =>
      intro l h0 h
      simp only [szTGo] at h ⊢
      split at h
      · rw [if_pos (by assumption)]
      · rename_i h2
        rw [if_neg h2]
        exact ih _ (by omega) h
  unfold szTrains at *
  split at h
  · rw [if_pos (by assumption)]
  · rename_i h2
    rw [if_neg h2]
    exact key ts _ (by omega) h

theorem info_train : (Try.prog.info? 47).map (fun i => (i.zero, i.size, i.bytes)) = some (some (.agg #[.bool false, .slice none 0 0]), 2, 32) := by kernel_rfl
/-- Trains in blocks of their own from lo to hi, the trains' blocks behind one another. -/
def OwnTrains (w : World) (lo hi : Nat) (a : Option Addr) (ts : List Tn) : Prop :=
  ts = [] ∨ ∃ (ob oo : Nat) (oc : Array Value) (p q : Nat → Nat), a = some ⟨ob, oo, none⟩ ∧ lo ≤ ob ∧ ob < hi ∧ RowAt w ob 47 oc ∧
    ∀ k (h : k < ts.length), (∃ a' c, oc[oo + k * 2]? = some (.bool ts[k].1) ∧ oc[oo + k * 2 + 1]? = some (.slice a' ts[k].2.length c) ∧ ts[k].2.length ≤ maxLen ∧ OwnRows w (p k) (q k) a' ts[k].2) ∧ lo ≤ p k ∧ q k ≤ hi ∧ (ob < p k ∨ q k ≤ ob) ∧ ∀ k' < k, q k' ≤ p k
theorem OwnTrains.trains {w : World} {lo hi : Nat} {a : Option Addr} {ts : List Tn} (h : OwnTrains w lo hi a ts) : TrainsAt w a ts := fun k hk => by
  rcases h with rfl | ⟨ob, oo, oc, p, q, rfl, _, _, h3, h4⟩
  · exact absurd hk (Nat.not_lt_zero _)
  · obtain ⟨⟨a', c, q1, q2, q3, q4⟩, _⟩ := h4 k hk
    exact ⟨ob, oo, a', c, rfl, h3.cell q1, h3.cell q2, q3, q4.rows⟩
theorem OwnTrains.ext {w w' : World} {lo hi : Nat} {a : Option Addr} {ts : List Tn} (h : OwnTrains w lo hi a ts) (hx : Ext w w') : OwnTrains w' lo hi a ts := by
  rcases h with h | ⟨ob, oo, oc, p, q, e, h1, h2, h3, h4⟩
  · exact .inl h
  · exact .inr ⟨ob, oo, oc, p, q, e, h1, h2, h3.ext hx, fun k hk => let ⟨⟨a', c, q1, q2, q3, q4⟩, q5⟩ := h4 k hk; ⟨⟨a', c, q1, q2, q3, q4.ext hx⟩, q5⟩⟩

theorem OwnTrains.keep {w w' : World} {lo hi lo' hi' : Nat} {a : Option Addr} {ts : List Tn} (h : OwnTrains w lo hi a ts) (hl : lo' ≤ lo) (hh : hi ≤ hi') (hk : ∀ B t c, lo ≤ B → B < hi → RowAt w B t c → RowAt w' B t c) : OwnTrains w' lo' hi' a ts := by
  rcases h with h | ⟨ob, oo, oc, p, q, e, h1, h2, h3, h4⟩
  · exact .inl h
  · refine .inr ⟨ob, oo, oc, p, q, e, by omega, by omega, hk _ _ _ h1 h2 h3, fun k hk' => ?_⟩
    obtain ⟨⟨a', c, q1, q2, q3, q4⟩, q5, q6, q7, q8⟩ := h4 k hk'
    exact ⟨⟨a', c, q1, q2, q3, q4.keep (Nat.le_refl _) (Nat.le_refl _) (fun B t c g1 g2 hr => hk B t c (by omega) (by omega) hr)⟩, by omega, by omega, q7, q8⟩

/-- The first k trains have been laid behind block B. -/
def LaidT (wr : World) (B : Nat) (oc : Array Value) (ts : List Tn) (k : Nat) : Prop :=
  ∃ p q : Nat → Nat, ∀ j (h : j < ts.length), j < k → (∃ a' c, oc[j * 2]? = some (.bool ts[j].1) ∧ oc[j * 2 + 1]? = some (.slice a' ts[j].2.length c) ∧ ts[j].2.length ≤ maxLen ∧ OwnRows wr (p j) (q j) a' ts[j].2) ∧ B < p j ∧ q j ≤ wr.heap.size ∧ ∀ j' < j, q j' ≤ p j
theorem LaidT.step {wr w1 : World} {B : Nat} {oc : Array Value} {ts : List Tn} {k c : Nat} {a' : Option Addr} (h : LaidT wr B oc ts k) (hk : k < ts.length) (hB : B < wr.heap.size) (hx : Ext wr w1)
    (hro : OwnRows w1 wr.heap.size w1.heap.size a' ts[k].2) (hl : ts[k].2.length ≤ maxLen) (hsz : k * 2 + 1 < oc.size) :
    LaidT ((w1.setCell ⟨B, k * 2, none⟩ (.bool ts[k].1)).setCell ⟨B, k * 2 + 1, none⟩ (.slice a' ts[k].2.length c)) B ((oc.setIfInBounds (k * 2) (.bool ts[k].1)).setIfInBounds (k * 2 + 1) (.slice a' ts[k].2.length c)) ts (k + 1) := by
  obtain ⟨p, q, hpq⟩ := h
  have hs1 := hx.size
  refine ⟨fun j => if j = k then wr.heap.size else p j, fun j => if j = k then w1.heap.size else q j, fun j hj hjk => ?_⟩
  rw [size_setCell', size_setCell']
  by_cases e : j = k
  · subst e
    simp only [if_true]
    refine ⟨⟨a', c, ?_, ?_, hl, ?_⟩, hB, Nat.le_refl _, fun j' hj' => ?_⟩
    · rw [Array.getElem?_setIfInBounds_ne (by omega), Array.getElem?_setIfInBounds_self_of_lt (by omega)]
    · rw [Array.getElem?_setIfInBounds_self_of_lt (by simpa using hsz)]
    · exact (hro.set (p := ⟨B, j * 2, none⟩) hB _).set (p := ⟨B, j * 2 + 1, none⟩) hB _
    · rw [if_neg (by omega)]
      exact (hpq j' (by omega) hj').2.2.1
  · simp only [if_neg e]
    obtain ⟨⟨a2, c2, q1, q2, q3, q4⟩, q5, q6, q7⟩ := hpq j hj (by omega)
    refine ⟨⟨a2, c2, ?_, ?_, q3, ?_⟩, q5, by omega, fun j' hj' => ?_⟩
    · rw [Array.getElem?_setIfInBounds_ne (by omega), Array.getElem?_setIfInBounds_ne (by omega)]
      exact q1
    · rw [Array.getElem?_setIfInBounds_ne (by omega), Array.getElem?_setIfInBounds_ne (by omega)]
      exact q2
    · exact ((q4.ext hx).set (p := ⟨B, k * 2, none⟩) q5 _).set (p := ⟨B, k * 2 + 1, none⟩) q5 _
    · rw [if_neg (by omega)]
      exact q7 j' hj'

section
variable {H : Type} {enc : TypeId × Value → H} {w : World} {base : Nat} {spare : Nat → Bool} {held : Bool}
open Go.WideShapes Go.ChangeShapes Go.Deep Go.Joins
instance : Inhabited Tn := ⟨(false, [])⟩
end
end Go.Proofs.Ytmppoflgbmabpaa
/- DivideTrain, on both sides. -/
namespace Go.Proofs.Ytmppoflgbmabpaa
open Go.RowKit
set_option linter.unusedSimpArgs false
set_option linter.unusedVariables false

theorem RowsAt.take {w : World} {a : Option Addr} {rows : List (List Bt)} (h : RowsAt w a rows) (k : Nat) : RowsAt w a (rows.take k) := fun j hj => by
  have hj' : j < rows.length := by rw [List.length_take] at hj; omega
  obtain ⟨b, off, a', c, e, hc, hl, hf⟩ := h j hj'
  refine ⟨b, off, a', c, e, ?_⟩
  simp only [List.getElem_take]
  exact ⟨hc, hl, hf⟩
theorem RowsAt.drop {w : World} {b off : Nat} {rows : List (List Bt)} (h : RowsAt w (some ⟨b, off, none⟩) rows) (k : Nat) : RowsAt w (some ⟨b, off + k, none⟩) (rows.drop k) := fun j hj => by
  have hj' : k + j < rows.length := by rw [List.length_drop] at hj; omega
  obtain ⟨b', off', a', c, e, hc, hl, hf⟩ := h (k + j) hj'
  cases e
  refine ⟨b, off + k, a', c, rfl, ?_⟩
  simp only [List.getElem_drop]
  exact ⟨by rw [Nat.add_assoc]; exact hc, hl, hf⟩
/-- What DivideTrain answers: up, the rows of both trains, whether it can be divided. -/
def divRes (u : Bool) (rows : List (List Bt)) (k : Int) : Bool × List (List Bt) × List (List Bt) × Bool :=
  if trainOk rows = true ∧ 1 ≤ k ∧ k ≤ (rows.length : Int) - 1 then (u, rows.take k.toNat, rows.drop k.toNat, true) else (false, [], [], false)
/-- Two trains that have been laid, each in blocks of its own. -/
def Two (w w' : World) (u1 R : Bool) (r1 r2 : List (List Bt)) (n1 n2 : Nat) (e : Ending) : Prop :=
  ∃ a1 c1 a2 c2 mid, e = .returned (.tuple #[.agg #[.bool u1, .slice a1 n1 c1], .agg #[.bool u1, .slice a2 n2 c2], .bool R]) ∧ OwnRows w' w.heap.size mid a1 r1 ∧ OwnRows w' mid w'.heap.size a2 r2 ∧ (w.heap.size ≤ mid ∧ mid ≤ w'.heap.size) ∧ Ext w w'
theorem Two.zero {w w' : World} {n1 n2 : Nat} (h1 : n1 = 0) (h2 : n2 = 0) (hx : Ext w w') : Two w w' false false [] [] n1 n2 (.returned (.tuple #[.agg #[.bool false, .slice none 0 0], .agg #[.bool false, .slice none 0 0], .bool false])) := by
  subst h1 h2
  exact ⟨none, 0, none, 0, w.heap.size, rfl, .inl rfl, .inl rfl, ⟨Nat.le_refl _, hx.size⟩, hx⟩
theorem GR.ownAt {w : World} {lo hi n : Nat} {a : Option Addr} {c : Nat} {vs : List Value} {rows : List (List Bt)} (h : GR w lo hi (.slice a n c) vs rows) : OwnRows w lo hi a rows := by
  obtain ⟨a', c', e, _, ho⟩ := h.own
  injection e with ea _ _
  rw [ea]
  exact ho

end Go.Proofs.Ytmppoflgbmabpaa
/- DivideTrain, the reference. -/
namespace Go.Proofs.Ytmppoflgbmabpaa
open Go.RowKit
set_option linter.unusedSimpArgs false
set_option linter.unusedVariables false

end Go.Proofs.Ytmppoflgbmabpaa
