/- For every two calls, the program and the reference agree on which comes first. -/
import Derived.Test.YtmcmialaofckkaaRows
import Derived.Test.YtmcmialaofckkaaHead
import Derived.Test.YtmcmialaofckkaaOpenC
import Derived.Test.YtmcmialaofckkaaComesS
import Derived.Deep.RegionHeld3
namespace Go.Proofs.Ytmcmialaofckkaa.lawComesBefore
open Go.ChangeShapes Go.WideShapes Go.ChangeAt Go.RowKit Go.Joins
set_option linter.unusedVariables false
set_option linter.unusedSimpArgs false

theorem specComesBefore_is (R : Bool) (ua ub : Bool) (aa ab : Option Addr) (na ca nb cb : Nat) (sa ba sb bb now : Int) (ra rb : List (List Bt)) (w : World) (hna : na = ra.length) (hsa : na ≤ 1048576) (hta : ra.flatten.length ≤ 1048576) (hfa : RowsAt w aa ra) (hnb : nb = rb.length) (hsb : nb ≤ 1048576) (htb : rb.flatten.length ≤ 1048576) (hfb : RowsAt w ab rb) (hR : comesBefore ra rb sa ba sb bb now = R) :
    Calls Try.prog 48 #[.agg #[.bool ua, .slice aa na ca, .int .i64 sa, .int .i64 ba], .agg #[.bool ub, .slice ab nb cb, .int .i64 sb, .int .i64 bb], .int .i64 now] w fun e w' => e = .returned (.bool R) ∧ Ext w w' := by
  subst hR
  exact specComesBefore_any ua ub aa ab na ca nb cb sa ba sb bb now ra rb w hna hsa hta hfa hnb hsb htb hfb
theorem implComesBefore_is (R : Bool) (ua ub : Bool) (aa ab : Option Addr) (na ca nb cb : Nat) (sa ba sb bb now : Int) (ra rb : List (List Bt)) (w : World) (hna : na = ra.length) (hsa : na ≤ 1048576) (hta : ra.flatten.length ≤ 1048576) (hfa : RowsAt w aa ra) (hnb : nb = rb.length) (hsb : nb ≤ 1048576) (htb : rb.flatten.length ≤ 1048576) (hfb : RowsAt w ab rb) (hR : comesBefore ra rb sa ba sb bb now = R) :
    Calls Try.prog 19 #[.agg #[.bool ua, .slice aa na ca, .int .i64 sa, .int .i64 ba], .agg #[.bool ub, .slice ab nb cb, .int .i64 sb, .int .i64 bb], .int .i64 now] w fun e w' => e = .returned (.bool R) ∧ Ext w w' := by
  subst hR
  exact implComesBefore_any ua ub aa ab na ca nb cb sa ba sb bb now ra rb w hna hsa hta hfa hnb hsb htb hfb

set_option maxRecDepth 100000 in
set_option maxHeartbeats 4000000 in
theorem walk (ua ub : Bool) (aa ab : Option Addr) (na ca nb cb : Nat) (sa ba sb bb now : Int) (ra rb : List (List Bt)) (w : World) (hna : na = ra.length) (hsa : na ≤ maxLen) (hfa : RowsAt w aa ra) (hnb : nb = rb.length) (hsb : nb ≤ maxLen) (hfb : RowsAt w ab rb) :
    Calls Try.prog 11 #[.agg #[.bool ua, .slice aa na ca, .int .i64 sa, .int .i64 ba], .agg #[.bool ub, .slice ab nb cb, .int .i64 sb, .int .i64 bb], .int .i64 now] w fun e w' => e = .returned (.bool true) ∧ Ext w w' := by
  have HFA := Lib.hid hfa; clear hfa
  have HFB := Lib.hid hfb; clear hfb
  have HMA := Lib.hid hsa; clear hsa
  have HMB := Lib.hid hsb; clear hsb
  have A0 := (RowAt.new w 65 #[.bool ua, .slice aa na ca, .int .i64 sa, .int .i64 ba]).ext ((Ext.refl _).alloc (.cells #[.bool ub, .slice ab nb cb, .int .i64 sb, .int .i64 bb] 65))
  have B0 := RowAt.new (w.alloc (.cells #[.bool ua, .slice aa na ca, .int .i64 sa, .int .i64 ba] 65)) 65 #[.bool ub, .slice ab nb cb, .int .i64 sb, .int .i64 bb]
  rw [World.size_alloc] at B0
  have hw0 : Ext w ((w.alloc (.cells #[.bool ua, .slice aa na ca, .int .i64 sa, .int .i64 ba] 65)).alloc (.cells #[.bool ub, .slice ab nb cb, .int .i64 sb, .int .i64 bb] 65)) := ((Ext.refl w).alloc _).alloc _
  obtain ⟨W, hW⟩ : ∃ W, (w.alloc (.cells #[.bool ua, .slice aa na ca, .int .i64 sa, .int .i64 ba] 65)).alloc (.cells #[.bool ub, .slice ab nb cb, .int .i64 sb, .int .i64 bb] 65) = W := ⟨_, rfl⟩
  rw [hW] at A0 B0 hw0
  have HW := Lib.hid hW; clear hW
  have g0 : W.cell? ⟨w.heap.size, 0, none⟩ = some (.bool ua) := A0.cell rfl
  have g1 : W.cell? ⟨w.heap.size, 1, none⟩ = some (.slice aa na ca) := A0.cell rfl
  have g2 : W.cell? ⟨w.heap.size, 2, none⟩ = some (.int .i64 sa) := A0.cell rfl
  have g3 : W.cell? ⟨w.heap.size, 3, none⟩ = some (.int .i64 ba) := A0.cell rfl
  have HA0 := Lib.hid A0; clear A0
  have HB0 := Lib.hid B0; clear B0
  have HW0 := Lib.hid hw0
  by_cases hz1 : szRows 1048576 ra < 0
  · have HNA := Lib.hid hna; clear hna
    have HNB := Lib.hid hnb; clear hnb
    obtain ⟨z, hz⟩ : ∃ z, szRows 1048576 ra = z := ⟨_, rfl⟩
    rw [hz] at hz1
    have HZ := Lib.hid hz; clear hz
    have d0 : decide (z < 0) = true := by simpa using hz1
    go_enter Try.func11, Try.ntmps11
    go_wp2_with fail
    rw [HW.out]
    refine (szCall_any z _ _ _ _ _ _ ra _ HNA.out HMA.out (by decide) (by decide) _ (HFA.out.ext HW0.out) HZ.out).mono ?_
    rintro e w1 ⟨rfl, hb1⟩
    rw [if_pos (by omega)]
    have hx := hw0.trans hb1
    go_wp2
    go_ret
    exact ⟨rfl, hx⟩
  obtain ⟨hna2, hra, hta⟩ := szRows_bounds (L := 1048576) (by decide) (by decide) hz1
  have hzv := szRows_val (left := 1048576) (by decide) (by omega : 0 ≤ szRows 1048576 ra)
  rw [← hna] at hna2
  obtain ⟨z, hz⟩ : ∃ z, szRows 1048576 ra = z := ⟨_, rfl⟩
  rw [hz] at hz1 hzv
  have hzle : z ≤ 1048576 := by omega
  have hz0 : 0 ≤ z := by omega
  clear hzv
  have HZ := Lib.hid hz; clear hz
  have HNA := Lib.hid hna; clear hna
  have HSA := Lib.hid hna2; clear hna2
  have HRA := Lib.hid hra; clear hra
  have HTA := Lib.hid hta; clear hta
  have d0 : decide (z < 0) = false := by simpa using hz1
  by_cases hz2 : szRows z rb < 0
  · have HNB := Lib.hid hnb; clear hnb
    obtain ⟨y, hy⟩ : ∃ y, szRows z rb = y := ⟨_, rfl⟩
    rw [hy] at hz2
    have HY := Lib.hid hy; clear hy
    go_enter Try.func11, Try.ntmps11
    go_wp2_with fail
    rw [HW.out]
    refine (szCall_is z (by omega) _ _ _ _ _ _ ra _ HNA.out HMA.out (by decide) (by decide) _ (HFA.out.ext HW0.out) HZ.out).mono ?_
    rintro e w1 ⟨rfl, hb1⟩
    have hB1 := HB0.out.ext hb1
    have k0 : w1.cell? ⟨w.heap.size + 1, 0, none⟩ = some (.bool ub) := hB1.cell rfl
    have k1 : w1.cell? ⟨w.heap.size + 1, 1, none⟩ = some (.slice ab nb cb) := hB1.cell rfl
    have k2 : w1.cell? ⟨w.heap.size + 1, 2, none⟩ = some (.int .i64 sb) := hB1.cell rfl
    have k3 : w1.cell? ⟨w.heap.size + 1, 3, none⟩ = some (.int .i64 bb) := hB1.cell rfl
    clear hB1
    go_wp2_with fail
    refine (szCall_any y _ _ _ _ _ _ rb _ HNB.out HMB.out hz0 hzle _ (HFB.out.ext (HW0.out.trans hb1)) HY.out).mono ?_
    rintro e w2 ⟨rfl, hb2⟩
    rw [if_pos (by omega)]
    have hx := (hw0.trans hb1).trans hb2
    go_wp2
    go_ret
    exact ⟨rfl, hx⟩
  · obtain ⟨hnb2, hrb, htb⟩ := szRows_bounds (L := z) hz0 hzle hz2
    rw [← hnb] at hnb2
    have HNB := Lib.hid hnb; clear hnb
    have HSB := Lib.hid hnb2; clear hnb2
    have HRB := Lib.hid hrb; clear hrb
    have HTB := Lib.hid htb; clear htb
    obtain ⟨y, hy⟩ : ∃ y, szRows z rb = y := ⟨_, rfl⟩
    rw [hy] at hz2
    have HY := Lib.hid hy; clear hy
    have d1 : decide (y < 0) = false := by simpa using hz2
    obtain ⟨R, hR⟩ : ∃ R, comesBefore ra rb sa ba sb bb now = R := ⟨_, rfl⟩
    have HRR := Lib.hid hR; clear hR
    go_enter Try.func11, Try.ntmps11
    go_wp2_with fail
    rw [HW.out]
    refine (szCall_is z (by omega) _ _ _ _ _ _ ra _ HNA.out HMA.out (by decide) (by decide) _ (HFA.out.ext HW0.out) HZ.out).mono ?_
    rintro e w1 ⟨rfl, hb1⟩
    have hB1 := HB0.out.ext hb1
    have k0 : w1.cell? ⟨w.heap.size + 1, 0, none⟩ = some (.bool ub) := hB1.cell rfl
    have k1 : w1.cell? ⟨w.heap.size + 1, 1, none⟩ = some (.slice ab nb cb) := hB1.cell rfl
    have k2 : w1.cell? ⟨w.heap.size + 1, 2, none⟩ = some (.int .i64 sb) := hB1.cell rfl
    have k3 : w1.cell? ⟨w.heap.size + 1, 3, none⟩ = some (.int .i64 bb) := hB1.cell rfl
    clear hB1
    go_wp2_with fail
    refine (szCall_is y (by omega) _ _ _ _ _ _ rb _ HNB.out HMB.out hz0 hzle _ (HFB.out.ext (HW0.out.trans hb1)) HY.out).mono ?_
    rintro e w2 ⟨rfl, hb2⟩
    have hx2 : Ext W w2 := hb1.trans hb2
    have hw2 : Ext w w2 := hw0.trans hx2
    have hA2 := HA0.out.ext hx2
    have hB2 := HB0.out.ext hx2
    clear g0 g1 g2 g3 k0 k1 k2 k3
    have g0 : w2.cell? ⟨w.heap.size, 0, none⟩ = some (.bool ua) := hA2.cell rfl
    have g1 : w2.cell? ⟨w.heap.size, 1, none⟩ = some (.slice aa na ca) := hA2.cell rfl
    have g2 : w2.cell? ⟨w.heap.size, 2, none⟩ = some (.int .i64 sa) := hA2.cell rfl
    have g3 : w2.cell? ⟨w.heap.size, 3, none⟩ = some (.int .i64 ba) := hA2.cell rfl
    have k0 : w2.cell? ⟨w.heap.size + 1, 0, none⟩ = some (.bool ub) := hB2.cell rfl
    have k1 : w2.cell? ⟨w.heap.size + 1, 1, none⟩ = some (.slice ab nb cb) := hB2.cell rfl
    have k2 : w2.cell? ⟨w.heap.size + 1, 2, none⟩ = some (.int .i64 sb) := hB2.cell rfl
    have k3 : w2.cell? ⟨w.heap.size + 1, 3, none⟩ = some (.int .i64 bb) := hB2.cell rfl
    have HA2 := Lib.hid hA2; clear hA2
    have HB2 := Lib.hid hB2; clear hB2
    have hE2 := Ext.refl w2
    have HW2 := Lib.hid hw2
    clear hb1 hb2 hx2
    go_wp2_with fail
    go_region_held3 (fun w' => Ext w2 w' ∧ w'.cell? ⟨w.heap.size, 0, none⟩ = some (.bool ua) ∧ w'.cell? ⟨w.heap.size, 1, none⟩ = some (.slice aa na ca) ∧ w'.cell? ⟨w.heap.size, 2, none⟩ = some (.int .i64 sa) ∧ w'.cell? ⟨w.heap.size, 3, none⟩ = some (.int .i64 ba) ∧ w'.cell? ⟨w.heap.size + 1, 0, none⟩ = some (.bool ub) ∧ w'.cell? ⟨w.heap.size + 1, 1, none⟩ = some (.slice ab nb cb) ∧ w'.cell? ⟨w.heap.size + 1, 2, none⟩ = some (.int .i64 sb) ∧ w'.cell? ⟨w.heap.size + 1, 3, none⟩ = some (.int .i64 bb))
      ((repeat' (refine And.intro ?_ ?_)) <;> (first | (exact Ext.cell (w := w2) (by (repeat' (first | (with_reducible exact Ext.refl _) | (with_reducible assumption) | (with_reducible refine Ext.alloc ?_ _) | (with_reducible refine Ext.drewN ?_ _) | (with_reducible refine Ext.drew ?_) | (with_reducible refine Ext.setCell ?_ ?_ _) | (with_reducible exact Nat.le_refl _) | (with_reducible exact Nat.le_succ _) | (with_reducible refine Ext.trans ?_ (by assumption)) | (simp; done) | (simp; omega)))) (by assumption)) | ((repeat' (first | (with_reducible exact Ext.refl _) | (with_reducible assumption) | (with_reducible refine Ext.alloc ?_ _) | (with_reducible refine Ext.drewN ?_ _) | (with_reducible refine Ext.drew ?_) | (with_reducible refine Ext.setCell ?_ ?_ _) | (with_reducible exact Nat.le_refl _) | (with_reducible exact Nat.le_succ _) | (with_reducible refine Ext.trans ?_ (by assumption)) | (simp; done) | (simp; omega))); done)))
      (first
        | (go_at_call 49; with_reducible refine (toCall_any _ _ _ _ _ _ ra _ HNA.out HSA.out HRA.out (HFA.out.ext (HW2.out.trans (by (repeat' (first | (with_reducible exact Ext.refl _) | (with_reducible assumption) | (with_reducible refine Ext.alloc ?_ _) | (with_reducible refine Ext.drewN ?_ _) | (with_reducible refine Ext.drew ?_) | (with_reducible refine Ext.setCell ?_ ?_ _) | (with_reducible exact Nat.le_refl _) | (with_reducible exact Nat.le_succ _) | (with_reducible refine Ext.trans ?_ (by assumption)) | (simp; done) | (simp; omega))))))).mono ?_; rintro e w' ⟨aA, rfl, hoA, hbA⟩)
        | (go_at_call 49; with_reducible refine (toCall_any _ _ _ _ _ _ rb _ HNB.out HSB.out HRB.out (HFB.out.ext (HW2.out.trans (by (repeat' (first | (with_reducible exact Ext.refl _) | (with_reducible assumption) | (with_reducible refine Ext.alloc ?_ _) | (with_reducible refine Ext.drewN ?_ _) | (with_reducible refine Ext.drew ?_) | (with_reducible refine Ext.setCell ?_ ?_ _) | (with_reducible exact Nat.le_refl _) | (with_reducible exact Nat.le_succ _) | (with_reducible refine Ext.trans ?_ (by assumption)) | (simp; done) | (simp; omega))))))).mono ?_; rintro e w' ⟨aB, rfl, hoB, hbB⟩)
        | (go_at_call 48; with_reducible refine (specComesBefore_is R _ _ _ _ _ _ _ _ _ _ _ _ _ ra rb _ HNA.out HSA.out HTA.out (hoA.rows.ext (by (repeat' (first | (with_reducible exact Ext.refl _) | (with_reducible assumption) | (with_reducible refine Ext.alloc ?_ _) | (with_reducible refine Ext.drewN ?_ _) | (with_reducible refine Ext.drew ?_) | (with_reducible refine Ext.setCell ?_ ?_ _) | (with_reducible exact Nat.le_refl _) | (with_reducible exact Nat.le_succ _) | (with_reducible refine Ext.trans ?_ (by assumption)) | (simp; done) | (simp; omega))))) HNB.out HSB.out HTB.out (hoB.rows.ext (by (repeat' (first | (with_reducible exact Ext.refl _) | (with_reducible assumption) | (with_reducible refine Ext.alloc ?_ _) | (with_reducible refine Ext.drewN ?_ _) | (with_reducible refine Ext.drew ?_) | (with_reducible refine Ext.setCell ?_ ?_ _) | (with_reducible exact Nat.le_refl _) | (with_reducible exact Nat.le_succ _) | (with_reducible refine Ext.trans ?_ (by assumption)) | (simp; done) | (simp; omega))))) HRR.out).mono ?_; rintro e w' ⟨rfl, hbC⟩))
    obtain ⟨w5, hw5e⟩ : ∃ x, x = w' := ⟨_, rfl⟩
    subst hw5e
    have hx5 : Ext w2 w5 := by (repeat' (first | (with_reducible exact Ext.refl _) | (with_reducible assumption) | (with_reducible refine Ext.alloc ?_ _) | (with_reducible refine Ext.drewN ?_ _) | (with_reducible refine Ext.drew ?_) | (with_reducible refine Ext.setCell ?_ ?_ _) | (with_reducible exact Nat.le_refl _) | (with_reducible exact Nat.le_succ _) | (with_reducible refine Ext.trans ?_ (by assumption)) | (simp; done) | (simp; omega)))
    have HX5 := Lib.hid hx5
    have HW5 := Lib.hid (hw2.trans hx5)
    have hA5 := HA2.out.ext hx5
    have hB5 := HB2.out.ext hx5
    clear hoA hoB hbA hbB hbC
    clear g0 g1 g2 g3 k0 k1 k2 k3
    have g0 : w5.cell? ⟨w.heap.size, 0, none⟩ = some (.bool ua) := hA5.cell rfl
    have g1 : w5.cell? ⟨w.heap.size, 1, none⟩ = some (.slice aa na ca) := hA5.cell rfl
    have g2 : w5.cell? ⟨w.heap.size, 2, none⟩ = some (.int .i64 sa) := hA5.cell rfl
    have g3 : w5.cell? ⟨w.heap.size, 3, none⟩ = some (.int .i64 ba) := hA5.cell rfl
    clear hx5
    have HA5 := Lib.hid hA5; clear hA5
    have HB5 := Lib.hid hB5; clear hB5
    go_wp2_with fail
    with_reducible refine (toCall_any _ _ _ _ _ _ ra _ HNA.out HSA.out HRA.out (HFA.out.ext HW5.out)).mono ?_
    rintro e w6 ⟨a6, rfl, ho6, hb6⟩
    have HO6 := Lib.hid ho6.rows; clear ho6
    have HB6 := Lib.hid hb6
    clear g0 g1 g2 g3
    have hB6 := HB5.out.ext (hb6.trans ((Ext.refl w6).alloc (.cells #[.bool ua, .slice (some a6) na na, .int .i64 sa, .int .i64 ba] 30)))
    have k0 : (w6.alloc (.cells #[.bool ua, .slice (some a6) na na, .int .i64 sa, .int .i64 ba] 30)).cell? ⟨w.heap.size + 1, 0, none⟩ = some (.bool ub) := hB6.cell rfl
    have k1 : (w6.alloc (.cells #[.bool ua, .slice (some a6) na na, .int .i64 sa, .int .i64 ba] 30)).cell? ⟨w.heap.size + 1, 1, none⟩ = some (.slice ab nb cb) := hB6.cell rfl
    have k2 : (w6.alloc (.cells #[.bool ua, .slice (some a6) na na, .int .i64 sa, .int .i64 ba] 30)).cell? ⟨w.heap.size + 1, 2, none⟩ = some (.int .i64 sb) := hB6.cell rfl
    have k3 : (w6.alloc (.cells #[.bool ua, .slice (some a6) na na, .int .i64 sa, .int .i64 ba] 30)).cell? ⟨w.heap.size + 1, 3, none⟩ = some (.int .i64 bb) := hB6.cell rfl
    clear hB6
    have z6 : w.heap.size + 1 < w6.heap.size := Nat.lt_of_lt_of_le HB5.out.lt hb6.size
    go_wp2_with fail
    with_reducible refine (toCall_any _ _ _ _ _ _ rb _ HNB.out HSB.out HRB.out (HFB.out.ext (HW5.out.trans (HB6.out.trans ((Ext.refl w6).alloc _))))).mono ?_
    rintro e w7 ⟨a7, rfl, ho7, hb7⟩
    have HO7 := Lib.hid ho7.rows; clear ho7
    have HB7 := Lib.hid (Ext.trans ((Ext.refl w6).alloc _) hb7)
    clear k0 k1 k2 k3
    have h6 := (RowAt.new w6 30 #[.bool ua, .slice (some a6) na na, .int .i64 sa, .int .i64 ba]).ext hb7
    have z7 := h6.lt
    have h67 := h6.ext ((Ext.refl w7).alloc (.cells #[.bool ub, .slice (some a7) nb nb, .int .i64 sb, .int .i64 bb] 30))
    have m0 : (w7.alloc (.cells #[.bool ub, .slice (some a7) nb nb, .int .i64 sb, .int .i64 bb] 30)).cell? ⟨w6.heap.size, 0, none⟩ = some (.bool ua) := h67.cell rfl
    have m1 : (w7.alloc (.cells #[.bool ub, .slice (some a7) nb nb, .int .i64 sb, .int .i64 bb] 30)).cell? ⟨w6.heap.size, 1, none⟩ = some (.slice (some a6) na na) := h67.cell rfl
    have m2 : (w7.alloc (.cells #[.bool ub, .slice (some a7) nb nb, .int .i64 sb, .int .i64 bb] 30)).cell? ⟨w6.heap.size, 2, none⟩ = some (.int .i64 sa) := h67.cell rfl
    have m3 : (w7.alloc (.cells #[.bool ub, .slice (some a7) nb nb, .int .i64 sb, .int .i64 bb] 30)).cell? ⟨w6.heap.size, 3, none⟩ = some (.int .i64 ba) := h67.cell rfl
    clear h67
    have H6 := Lib.hid h6; clear h6
    go_wp2_with fail
    with_reducible refine (implComesBefore_is R _ _ _ _ _ _ _ _ _ _ _ _ _ ra rb _ HNA.out HSA.out HTA.out (HO6.out.ext (HB7.out.trans ((Ext.refl w7).alloc _))) HNB.out HSB.out HTB.out (HO7.out.ext ((Ext.refl w7).alloc _)) HRR.out).mono ?_
    rintro e w8 ⟨rfl, hb8⟩
    have HB8 := Lib.hid (Ext.trans ((Ext.refl w7).alloc _) hb8)
    have h7 := (RowAt.new w7 30 #[.bool ub, .slice (some a7) nb nb, .int .i64 sb, .int .i64 bb]).ext hb8
    have h6 := H6.out.ext HB8.out
    have h5 := HA5.out.ext (HB6.out.trans (HB7.out.trans HB8.out))
    have h4 := HB5.out.ext (HB6.out.trans (HB7.out.trans HB8.out))
    have HW8 := Lib.hid (HW5.out.trans (HB6.out.trans (HB7.out.trans HB8.out)))
    have HO68 := Lib.hid (HO6.out.ext (HB7.out.trans HB8.out))
    have HO78 := Lib.hid (HO7.out.ext HB8.out)
    clear hb8 hb7 hb6
    clear m0 m1 m2 m3
    have g0 : w8.cell? ⟨w.heap.size, 0, none⟩ = some (.bool ua) := h5.cell rfl
    have g1 : w8.cell? ⟨w.heap.size, 1, none⟩ = some (.slice aa na ca) := h5.cell rfl
    have g2 : w8.cell? ⟨w.heap.size, 2, none⟩ = some (.int .i64 sa) := h5.cell rfl
    have g3 : w8.cell? ⟨w.heap.size, 3, none⟩ = some (.int .i64 ba) := h5.cell rfl
    have m0 : w8.cell? ⟨w6.heap.size, 0, none⟩ = some (.bool ua) := h6.cell rfl
    have m1 : w8.cell? ⟨w6.heap.size, 1, none⟩ = some (.slice (some a6) na na) := h6.cell rfl
    have m2 : w8.cell? ⟨w6.heap.size, 2, none⟩ = some (.int .i64 sa) := h6.cell rfl
    have m3 : w8.cell? ⟨w6.heap.size, 3, none⟩ = some (.int .i64 ba) := h6.cell rfl
    have H7 := Lib.hid h7; clear h7
    have H4 := Lib.hid h4; clear h4
    clear h6 h5
    have hE8 := Ext.refl w8
    go_wp2_with fail
    go_region_held3 (fun w' => Ext w8 w' ∧ w'.cell? ⟨w.heap.size, 0, none⟩ = some (.bool ua) ∧ w'.cell? ⟨w.heap.size, 1, none⟩ = some (.slice aa na ca) ∧ w'.cell? ⟨w.heap.size, 2, none⟩ = some (.int .i64 sa) ∧ w'.cell? ⟨w.heap.size, 3, none⟩ = some (.int .i64 ba) ∧ w'.cell? ⟨w6.heap.size, 0, none⟩ = some (.bool ua) ∧ w'.cell? ⟨w6.heap.size, 1, none⟩ = some (.slice (some a6) na na) ∧ w'.cell? ⟨w6.heap.size, 2, none⟩ = some (.int .i64 sa) ∧ w'.cell? ⟨w6.heap.size, 3, none⟩ = some (.int .i64 ba))
      ((repeat' (refine And.intro ?_ ?_)) <;> (first | (exact Ext.cell (w := w8) (by (repeat' (first | (with_reducible exact Ext.refl _) | (with_reducible assumption) | (with_reducible refine Ext.alloc ?_ _) | (with_reducible refine Ext.drewN ?_ _) | (with_reducible refine Ext.drew ?_) | (with_reducible refine Ext.setCell ?_ ?_ _) | (with_reducible exact Nat.le_refl _) | (with_reducible exact Nat.le_succ _) | (with_reducible refine Ext.trans ?_ (by assumption)) | (simp; done) | (simp; omega)))) (by assumption)) | ((repeat' (first | (with_reducible exact Ext.refl _) | (with_reducible assumption) | (with_reducible refine Ext.alloc ?_ _) | (with_reducible refine Ext.drewN ?_ _) | (with_reducible refine Ext.drew ?_) | (with_reducible refine Ext.setCell ?_ ?_ _) | (with_reducible exact Nat.le_refl _) | (with_reducible exact Nat.le_succ _) | (with_reducible refine Ext.trans ?_ (by assumption)) | (simp; done) | (simp; omega))); done)))
      (first
        | (go_at_call 49; with_reducible refine (toCall_any _ _ _ _ _ _ ra _ HNA.out HSA.out HRA.out (HFA.out.ext (HW8.out.trans (by (repeat' (first | (with_reducible exact Ext.refl _) | (with_reducible assumption) | (with_reducible refine Ext.alloc ?_ _) | (with_reducible refine Ext.drewN ?_ _) | (with_reducible refine Ext.drew ?_) | (with_reducible refine Ext.setCell ?_ ?_ _) | (with_reducible exact Nat.le_refl _) | (with_reducible exact Nat.le_succ _) | (with_reducible refine Ext.trans ?_ (by assumption)) | (simp; done) | (simp; omega))))))).mono ?_; rintro e w' ⟨aC, rfl, hoC, hbC⟩)
        | (go_at_call 50; with_reducible refine (eqCall_same _ _ _ _ _ _ _ _ ra _ HNA.out HMA.out (HO68.out.ext (by (repeat' (first | (with_reducible exact Ext.refl _) | (with_reducible assumption) | (with_reducible refine Ext.alloc ?_ _) | (with_reducible refine Ext.drewN ?_ _) | (with_reducible refine Ext.drew ?_) | (with_reducible refine Ext.setCell ?_ ?_ _) | (with_reducible exact Nat.le_refl _) | (with_reducible exact Nat.le_succ _) | (with_reducible refine Ext.trans ?_ (by assumption)) | (simp; done) | (simp; omega))))) hoC.rows).mono ?_; rintro e w' ⟨rfl, hbD⟩))
    obtain ⟨w9, hw9e⟩ : ∃ x, x = w' := ⟨_, rfl⟩
    subst hw9e
    have hx9 : Ext w8 w9 := by (repeat' (first | (with_reducible exact Ext.refl _) | (with_reducible assumption) | (with_reducible refine Ext.alloc ?_ _) | (with_reducible refine Ext.drewN ?_ _) | (with_reducible refine Ext.drew ?_) | (with_reducible refine Ext.setCell ?_ ?_ _) | (with_reducible exact Nat.le_refl _) | (with_reducible exact Nat.le_succ _) | (with_reducible refine Ext.trans ?_ (by assumption)) | (simp; done) | (simp; omega)))
    have HX9 := Lib.hid hx9
    have HW9 := Lib.hid (HW8.out.trans hx9)
    have h7 := H7.out.ext hx9
    have h4 := H4.out.ext hx9
    clear hoC hbC hbD
    clear g0 g1 g2 g3 m0 m1 m2 m3
    have k0 : w9.cell? ⟨w.heap.size + 1, 0, none⟩ = some (.bool ub) := h4.cell rfl
    have k1 : w9.cell? ⟨w.heap.size + 1, 1, none⟩ = some (.slice ab nb cb) := h4.cell rfl
    have k2 : w9.cell? ⟨w.heap.size + 1, 2, none⟩ = some (.int .i64 sb) := h4.cell rfl
    have k3 : w9.cell? ⟨w.heap.size + 1, 3, none⟩ = some (.int .i64 bb) := h4.cell rfl
    have m0 : w9.cell? ⟨w7.heap.size, 0, none⟩ = some (.bool ub) := h7.cell rfl
    have m1 : w9.cell? ⟨w7.heap.size, 1, none⟩ = some (.slice (some a7) nb nb) := h7.cell rfl
    have m2 : w9.cell? ⟨w7.heap.size, 2, none⟩ = some (.int .i64 sb) := h7.cell rfl
    have m3 : w9.cell? ⟨w7.heap.size, 3, none⟩ = some (.int .i64 bb) := h7.cell rfl
    clear h7 h4 hx9
    have HO79 := Lib.hid (HO78.out.ext HX9.out)
    have hE9 := Ext.refl w9
    go_wp2_with fail
    go_region_held3 (fun w' => Ext w9 w' ∧ w'.cell? ⟨w.heap.size + 1, 0, none⟩ = some (.bool ub) ∧ w'.cell? ⟨w.heap.size + 1, 1, none⟩ = some (.slice ab nb cb) ∧ w'.cell? ⟨w.heap.size + 1, 2, none⟩ = some (.int .i64 sb) ∧ w'.cell? ⟨w.heap.size + 1, 3, none⟩ = some (.int .i64 bb) ∧ w'.cell? ⟨w7.heap.size, 0, none⟩ = some (.bool ub) ∧ w'.cell? ⟨w7.heap.size, 1, none⟩ = some (.slice (some a7) nb nb) ∧ w'.cell? ⟨w7.heap.size, 2, none⟩ = some (.int .i64 sb) ∧ w'.cell? ⟨w7.heap.size, 3, none⟩ = some (.int .i64 bb))
      ((repeat' (refine And.intro ?_ ?_)) <;> (first | (exact Ext.cell (w := w9) (by (repeat' (first | (with_reducible exact Ext.refl _) | (with_reducible assumption) | (with_reducible refine Ext.alloc ?_ _) | (with_reducible refine Ext.drewN ?_ _) | (with_reducible refine Ext.drew ?_) | (with_reducible refine Ext.setCell ?_ ?_ _) | (with_reducible exact Nat.le_refl _) | (with_reducible exact Nat.le_succ _) | (with_reducible refine Ext.trans ?_ (by assumption)) | (simp; done) | (simp; omega)))) (by assumption)) | ((repeat' (first | (with_reducible exact Ext.refl _) | (with_reducible assumption) | (with_reducible refine Ext.alloc ?_ _) | (with_reducible refine Ext.drewN ?_ _) | (with_reducible refine Ext.drew ?_) | (with_reducible refine Ext.setCell ?_ ?_ _) | (with_reducible exact Nat.le_refl _) | (with_reducible exact Nat.le_succ _) | (with_reducible refine Ext.trans ?_ (by assumption)) | (simp; done) | (simp; omega))); done)))
      (first
        | (go_at_call 49; with_reducible refine (toCall_any _ _ _ _ _ _ rb _ HNB.out HSB.out HRB.out (HFB.out.ext (HW9.out.trans (by (repeat' (first | (with_reducible exact Ext.refl _) | (with_reducible assumption) | (with_reducible refine Ext.alloc ?_ _) | (with_reducible refine Ext.drewN ?_ _) | (with_reducible refine Ext.drew ?_) | (with_reducible refine Ext.setCell ?_ ?_ _) | (with_reducible exact Nat.le_refl _) | (with_reducible exact Nat.le_succ _) | (with_reducible refine Ext.trans ?_ (by assumption)) | (simp; done) | (simp; omega))))))).mono ?_; rintro e w' ⟨aC, rfl, hoC, hbC⟩)
        | (go_at_call 50; with_reducible refine (eqCall_same _ _ _ _ _ _ _ _ rb _ HNB.out HMB.out (HO79.out.ext (by (repeat' (first | (with_reducible exact Ext.refl _) | (with_reducible assumption) | (with_reducible refine Ext.alloc ?_ _) | (with_reducible refine Ext.drewN ?_ _) | (with_reducible refine Ext.drew ?_) | (with_reducible refine Ext.setCell ?_ ?_ _) | (with_reducible exact Nat.le_refl _) | (with_reducible exact Nat.le_succ _) | (with_reducible refine Ext.trans ?_ (by assumption)) | (simp; done) | (simp; omega))))) hoC.rows).mono ?_; rintro e w' ⟨rfl, hbD⟩))
    have hfin := HW9.out.trans (by (repeat' (first | (with_reducible exact Ext.refl _) | (with_reducible assumption) | (with_reducible refine Ext.alloc ?_ _) | (with_reducible refine Ext.drewN ?_ _) | (with_reducible refine Ext.drew ?_) | (with_reducible refine Ext.setCell ?_ ?_ _) | (with_reducible exact Nat.le_refl _) | (with_reducible exact Nat.le_succ _) | (with_reducible refine Ext.trans ?_ (by assumption)) | (simp; done) | (simp; omega))) : Ext w9 w')
    go_wp2
    go_ret
    exact ⟨rfl, hfin⟩

theorem own : ownKnob Try.prog.godebug = none := by kernel_rfl
theorem laidOut : laidOutB Try.prog = true := Head.laidOut

set_option maxRecDepth 100000 in
theorem contract (H : Type) (enc : TypeId × Value → H) (W : World) (base : Nat) (args : Array Value) (ds gs : List (DataW H)) (before : List MemPlace)
    (hval : ∀ (j : Nat) t v, Try.f11.params[j]? = some t → args[j]? = some v → Value.okWide Try.prog W .any base t v)
    (hW : DataW.Whole enc Try.prog Try.f11.params.toList Rows.fnExactComesBeforeSpec.vars false W args.toList ds gs before) :
    Calls Try.prog 11 args W fun e W' => ∃ v, e = .returned v ∧ Rows.fnExactComesBeforeSpec.post enc Try.prog Try.f11 false true false false W args v W' := by
  have hW' := hW
  obtain ⟨p, q, hA0, hV, rfl, hfz, hnd⟩ := hW
  have hA : DataW.TrodAll enc Try.prog W 0 (fun _ => true) true Try.f11.params.toList args.toList ds p := hA0
  rw [Try.params11] at hA hval
  obtain ⟨v0, vs0, d0, ds0, p0, q0, hargs, rfl, rfl, h0, r0⟩ := trodAll_cons hA
  obtain ⟨v1, vs1, d1, ds1, p1, q1, rfl, rfl, rfl, h1, r1⟩ := trodAll_cons r0
  obtain ⟨v2, vs2, d2, ds2, p2, q2, rfl, rfl, rfl, h2, r2⟩ := trodAll_cons r1
  obtain ⟨rfl, rfl, rfl⟩ := trodAll_nil r2
  obtain rfl : args = #[v0, v1, v2] := by cases args; simp_all
  obtain ⟨rfl, rfl⟩ := trodVars_none hV
  have hv0 := hval 0 65 v0 rfl rfl
  have hv1 := hval 1 65 v1 rfl rfl
  have hv2 := hval 2 3 v2 rfl rfl
  clear hA0 hA
  obtain ⟨ua, ra, aa, ca, sa, ba, rfl, hma, hra, _, _⟩ := open_call hv0 h0
  obtain ⟨ub, rb, ab, cb, sb, bb, rfl, hmb, hrb, _, _⟩ := open_call hv1 h1
  obtain ⟨now, rfl, rfl, rfl, wnow⟩ := open_int Try.underlying3 hv2 h2
  refine (walk ua ub aa ab _ ca _ cb sa ba sb bb now ra rb W rfl hma hra rfl hmb hrb).mono fun e W' ⟨he, hb⟩ => ?_
  subst he
  exact ⟨_, rfl, law_post laidOut rfl (by kernel_rfl) rfl Try.underlying4 hW' rfl rfl rfl hb.below⟩

set_option maxRecDepth 100000 in
theorem lifted (os : Os) (started : os.Started) (H : Type) (enc : TypeId × Value → H) :
    ReturnsInHanded {} Try.checked os 11 .any (Rows.fnExactComesBeforeSpec.pre6 enc Try.prog Try.f11 Rows.fnExactComesBeforeRow.domain false) (Rows.fnExactComesBeforeSpec.post enc Try.prog Try.f11 false true false false) := by
  refine returnsInHanded_of_change (C := Try.checked) own started (by kernel_rfl) Try.func11
    (ChangeSpec.witness6 (enc := enc) (C := Try.checked) false ⟨#[], #[.agg #[.bool false, .slice none 0 0, .int .i64 0, .int .i64 0], .agg #[.bool false, .slice none 0 0, .int .i64 0, .int .i64 0], .int .i64 0], []⟩ 8 (by kernel_rfl) (by kernel_rfl) (by kernel_rfl) (by kernel_rfl)) ?_
  intro W base args ds gs before hval hW _ _
  exact contract H enc W base args ds gs before hval hW

theorem closed : joinedFacts Try.prog 11 Try.f11 Rows.fnExactComesBeforeSpec Rows.fnExactComesBeforeRow = true := by
  unfold joinedFacts
  rw [Head.laidOut, Head.mapsRowed, Head.stopsHeard, Head.mayEnter, Head.liftsFinal, Head.make, Head.plainKeys]
  kernel_rfl
theorem proved : Rows.FnExactComesBeforeSaid :=
  OpenClaim.holds_of_wide 11 Try.f11 rfl rfl rfl rfl rfl rfl rfl ⟨rfl, rfl, rfl, rfl, rfl⟩ rfl rfl rfl rfl rfl (by kernel_rfl) Try.func11 closed
    (of_decide_eq_true (by kernel_rfl)) (by unfold Func.isWrapper; first | (rw [if_pos (by decide +kernel)]; kernel_rfl) | (rw [if_neg (by decide +kernel)]; exact ⟨rfl, rfl⟩))
    (fun os started H enc _ => lifted os started H enc)
end Go.Proofs.Ytmcmialaofckkaa.lawComesBefore
