/- For every train, the program and the reference agree on the list of the Ids, and the list shares no memory with the train. -/
import Derived.Test.YtmcmialaofckkaaRows
import Derived.Test.YtmcmialaofckkaaHead
import Derived.Test.YtmcmialaofckkaaOpenT
import Derived.Test.YtmcmialaofckkaaMark
import Derived.Deep.RegionHeld3
namespace Go.Proofs.Ytmcmialaofckkaa.lawIdsOf
open Go.ChangeShapes Go.WideShapes Go.ChangeAt Go.RowKit Go.Joins
set_option linter.unusedVariables false
set_option linter.unusedSimpArgs false

theorem idsOf_len (rows : List (List Bt)) : (idsOf rows).length ≤ rows.flatten.length := by
  unfold idsOf
  split
  · rw [List.length_map]; exact Nat.le_refl _
  · simp

set_option maxHeartbeats 4000000 in
theorem walk (u : Bool) (a : Option Addr) (n c : Nat) (rows : List (List Bt)) (w : World) (hn : n = rows.length) (hs : n ≤ maxLen) (hf : RowsAt w a rows) :
    Calls Try.prog 5 #[.agg #[.bool u, .slice a n c]] w fun e w' => e = .returned (.bool true) ∧ Ext w w' := by
  have HF := Lib.hid hf; clear hf
  by_cases hsz : szRows 1048576 rows < 0
  · have HN := Lib.hid hn; clear hn
    have HS := Lib.hid hs; clear hs
    have HSZ := Lib.hid hsz
    obtain ⟨z, hz⟩ : ∃ z, szRows 1048576 rows = z := ⟨_, rfl⟩
    rw [hz] at hsz
    have HZ := Lib.hid hz; clear hz
    have d0 : decide (z < 0) = true := by simpa using hsz
    go_enter Try.func5, Try.ntmps5
    go_wp2_with fail
    (with_reducible refine (szTrain_is z _ _ _ _ rows _ HN.out HS.out (by decide) (by decide) _ (HF.out.ext (by (repeat' (first | (with_reducible exact Ext.refl _) | (with_reducible assumption) | (with_reducible refine Ext.alloc ?_ _) | (with_reducible refine Ext.drewN ?_ _) | (with_reducible refine Ext.drew ?_) | (with_reducible refine Ext.setCell ?_ ?_ _) | (with_reducible exact Nat.le_refl _) | (with_reducible exact Nat.le_succ _) | (with_reducible refine Ext.trans ?_ (by assumption)) | (simp; done) | (simp; omega))))) HZ.out).mono ?_); rintro e w1 ⟨rfl, hb1⟩
    have x0_1 := hb1
    obtain ⟨hc0_1, hf0_1⟩ := bcell x0_1.below
    have z0_1_0 : w.heap.size < w1.heap.size := by have h := x0_1.size; simp at h; omega
    go_wp2
    go_ret
    exact ⟨rfl, by (repeat' (first | (with_reducible exact Ext.refl _) | (with_reducible assumption) | (with_reducible refine Ext.alloc ?_ _) | (with_reducible refine Ext.drewN ?_ _) | (with_reducible refine Ext.drew ?_) | (with_reducible refine Ext.setCell ?_ ?_ _) | (with_reducible exact Nat.le_refl _) | (with_reducible exact Nat.le_succ _) | (with_reducible refine Ext.trans ?_ (by assumption)) | (simp; done) | (simp; omega)))⟩
  · obtain ⟨hs2, hrs, ht⟩ := szRows_bounds (L := 1048576) (by decide) (by decide) hsz
    rw [← hn] at hs2
    have HN := Lib.hid hn; clear hn
    have HS := Lib.hid hs; clear hs
    have HR := Lib.hid hrs; clear hrs
    have HT := Lib.hid ht
    obtain ⟨z, hz⟩ : ∃ z, szRows 1048576 rows = z := ⟨_, rfl⟩
    rw [hz] at hsz
    have HZ := Lib.hid hz; clear hz
    have d0 : decide (z < 0) = false := by simpa using hsz
    obtain ⟨ids, hids⟩ : ∃ ids, idsOf rows = ids := ⟨_, rfl⟩
    obtain ⟨m, hm⟩ : ∃ m, m = ids.length := ⟨_, rfl⟩
    have hm2 : m ≤ 1048576 := by
      have := idsOf_len rows
      rw [hids, ← hm] at this
      omega
    have HMM := Lib.hid (show m ≤ maxLen by unfold maxLen; omega)
    have HI := Lib.hid hids; clear hids
    have HM := Lib.hid hm; clear hm
    obtain ⟨T, hT⟩ : ∃ T, total rows = T := ⟨_, rfl⟩
    have hT2 : T ≤ 1048576 := by rw [← hT, total_flatten]; exact ht
    have HTT := Lib.hid hT; clear hT
    clear ht
    have HT2 := Lib.hid hT2
    have d1 : decide (1 + 6 * (T : Int) < 0) = false := by simp; omega
    have d2 : decide (1 + (m : Int) < 0) = false := by simp; omega
    go_enter Try.func5, Try.ntmps5
    go_wp2_with fail
    (with_reducible refine (szTrain_is z _ _ _ _ rows _ HN.out HS.out (by decide) (by decide) _ (HF.out.ext (by (repeat' (first | (with_reducible exact Ext.refl _) | (with_reducible assumption) | (with_reducible refine Ext.alloc ?_ _) | (with_reducible refine Ext.drewN ?_ _) | (with_reducible refine Ext.drew ?_) | (with_reducible refine Ext.setCell ?_ ?_ _) | (with_reducible exact Nat.le_refl _) | (with_reducible exact Nat.le_succ _) | (with_reducible refine Ext.trans ?_ (by assumption)) | (simp; done) | (simp; omega))))) HZ.out).mono ?_); rintro e w1 ⟨rfl, hb1⟩
    have x0_1 := hb1
    obtain ⟨hc0_1, hf0_1⟩ := bcell x0_1.below
    have z0_1_0 : w.heap.size < w1.heap.size := by have h := x0_1.size; simp at h; omega
    go_wp2_with fail
    (with_reducible refine (toTrain_any _ _ _ _ rows _ HN.out hs2 HR.out (HF.out.ext (by (repeat' (first | (with_reducible exact Ext.refl _) | (with_reducible assumption) | (with_reducible refine Ext.alloc ?_ _) | (with_reducible refine Ext.drewN ?_ _) | (with_reducible refine Ext.drew ?_) | (with_reducible refine Ext.setCell ?_ ?_ _) | (with_reducible exact Nat.le_refl _) | (with_reducible exact Nat.le_succ _) | (with_reducible refine Ext.trans ?_ (by assumption)) | (simp; done) | (simp; omega)))))).mono ?_); rintro e w2 ⟨a2, rfl, ho2, hb2⟩
    have x1_2 := hb2
    have x0_2 : Ext _ w2 := x0_1.trans (Ext.trans (b := _) (by (repeat' (first | (with_reducible exact Ext.refl _) | (with_reducible assumption) | (with_reducible refine Ext.alloc ?_ _) | (with_reducible refine Ext.drewN ?_ _) | (with_reducible refine Ext.drew ?_) | (with_reducible refine Ext.setCell ?_ ?_ _) | (with_reducible exact Nat.le_refl _) | (with_reducible exact Nat.le_succ _) | (with_reducible refine Ext.trans ?_ (by assumption)) | (simp; done) | (simp; omega)))) hb2)
    obtain ⟨hc0_2, hf0_2⟩ := bcell x0_2.below
    have z0_2_0 : w.heap.size < w2.heap.size := by have h := x0_2.size; simp at h; omega
    go_wp2_with fail
    (with_reducible refine (specIdsOf_is ids m _ _ _ _ rows _ HN.out hs2 HT.out ho2.rows HI.out HM.out).mono ?_); rintro e w3 ⟨a3, c3, rfl, hi3, hb3⟩
    have x2_3 := hb3
    have x0_3 : Ext _ w3 := x0_2.trans (Ext.trans (b := _) (by (repeat' (first | (with_reducible exact Ext.refl _) | (with_reducible assumption) | (with_reducible refine Ext.alloc ?_ _) | (with_reducible refine Ext.drewN ?_ _) | (with_reducible refine Ext.drew ?_) | (with_reducible refine Ext.setCell ?_ ?_ _) | (with_reducible exact Nat.le_refl _) | (with_reducible exact Nat.le_succ _) | (with_reducible refine Ext.trans ?_ (by assumption)) | (simp; done) | (simp; omega)))) hb3)
    obtain ⟨hc0_3, hf0_3⟩ := bcell x0_3.below
    have z0_3_0 : w.heap.size < w3.heap.size := by have h := x0_3.size; simp at h; omega
    go_wp2_with fail
    (with_reducible refine (toTrain_any _ _ _ _ rows _ HN.out hs2 HR.out (HF.out.ext (by (repeat' (first | (with_reducible exact Ext.refl _) | (with_reducible assumption) | (with_reducible refine Ext.alloc ?_ _) | (with_reducible refine Ext.drewN ?_ _) | (with_reducible refine Ext.drew ?_) | (with_reducible refine Ext.setCell ?_ ?_ _) | (with_reducible exact Nat.le_refl _) | (with_reducible exact Nat.le_succ _) | (with_reducible refine Ext.trans ?_ (by assumption)) | (simp; done) | (simp; omega)))))).mono ?_); rintro e w4 ⟨a4, rfl, ho4, hb4⟩
    have x3_4 := hb4
    have x0_4 : Ext _ w4 := x0_3.trans (Ext.trans (b := _) (by (repeat' (first | (with_reducible exact Ext.refl _) | (with_reducible assumption) | (with_reducible refine Ext.alloc ?_ _) | (with_reducible refine Ext.drewN ?_ _) | (with_reducible refine Ext.drew ?_) | (with_reducible refine Ext.setCell ?_ ?_ _) | (with_reducible exact Nat.le_refl _) | (with_reducible exact Nat.le_succ _) | (with_reducible refine Ext.trans ?_ (by assumption)) | (simp; done) | (simp; omega)))) hb4)
    obtain ⟨hc0_4, hf0_4⟩ := bcell x0_4.below
    have z0_4_0 : w.heap.size < w4.heap.size := by have h := x0_4.size; simp at h; omega
    go_wp2_with fail
    (with_reducible refine (implIdsOf_is ids m _ _ _ _ rows _ HN.out hs2 HT.out (ho4.rows.ext (by (repeat' (first | (with_reducible exact Ext.refl _) | (with_reducible assumption) | (with_reducible refine Ext.alloc ?_ _) | (with_reducible refine Ext.drewN ?_ _) | (with_reducible refine Ext.drew ?_) | (with_reducible refine Ext.setCell ?_ ?_ _) | (with_reducible exact Nat.le_refl _) | (with_reducible exact Nat.le_succ _) | (with_reducible refine Ext.trans ?_ (by assumption)) | (simp; done) | (simp; omega))))) HI.out HM.out).mono ?_); rintro e w5 ⟨a5, c5, rfl, hi5, hb5⟩
    have x4_5 := hb5
    have x0_5 : Ext _ w5 := x0_4.trans (Ext.trans (b := _) (by (repeat' (first | (with_reducible exact Ext.refl _) | (with_reducible assumption) | (with_reducible refine Ext.alloc ?_ _) | (with_reducible refine Ext.drewN ?_ _) | (with_reducible refine Ext.drew ?_) | (with_reducible refine Ext.setCell ?_ ?_ _) | (with_reducible exact Nat.le_refl _) | (with_reducible exact Nat.le_succ _) | (with_reducible refine Ext.trans ?_ (by assumption)) | (simp; done) | (simp; omega)))) hb5)
    obtain ⟨hc0_5, hf0_5⟩ := bcell x0_5.below
    have z0_5_0 : w.heap.size < w5.heap.size := by have h := x0_5.size; simp at h; omega
    obtain ⟨hc4_5, hf4_5⟩ := bcell x4_5.below
    have z4_5_0 : w4.heap.size < w5.heap.size := by have h := x4_5.size; simp at h; omega
    go_wp2_with fail
    (with_reducible refine (eqIntS_same _ _ _ _ _ ids _ HM.out HMM.out hi5.at (hi3.at.ext (hb4.trans (Ext.trans ((Ext.refl w4).alloc _) x4_5)))).mono ?_); rintro e w6 ⟨rfl, hb6⟩
    have x5_6 := hb6
    have x0_6 : Ext _ w6 := x0_5.trans (Ext.trans (b := _) (by (repeat' (first | (with_reducible exact Ext.refl _) | (with_reducible assumption) | (with_reducible refine Ext.alloc ?_ _) | (with_reducible refine Ext.drewN ?_ _) | (with_reducible refine Ext.drew ?_) | (with_reducible refine Ext.setCell ?_ ?_ _) | (with_reducible exact Nat.le_refl _) | (with_reducible exact Nat.le_succ _) | (with_reducible refine Ext.trans ?_ (by assumption)) | (simp; done) | (simp; omega)))) hb6)
    obtain ⟨hc0_6, hf0_6⟩ := bcell x0_6.below
    have z0_6_0 : w.heap.size < w6.heap.size := by have h := x0_6.size; simp at h; omega
    have x4_6 : Ext _ w6 := x4_5.trans (Ext.trans (b := _) (by (repeat' (first | (with_reducible exact Ext.refl _) | (with_reducible assumption) | (with_reducible refine Ext.alloc ?_ _) | (with_reducible refine Ext.drewN ?_ _) | (with_reducible refine Ext.drew ?_) | (with_reducible refine Ext.setCell ?_ ?_ _) | (with_reducible exact Nat.le_refl _) | (with_reducible exact Nat.le_succ _) | (with_reducible refine Ext.trans ?_ (by assumption)) | (simp; done) | (simp; omega)))) hb6)
    obtain ⟨hc4_6, hf4_6⟩ := bcell x4_6.below
    have z4_6_0 : w4.heap.size < w6.heap.size := by have h := x4_6.size; simp at h; omega
    go_wp2_with fail
    simp only [World.size_alloc] at hi5
    have t1 := (RowAt.new w 45 #[.bool u, .slice a n c]).ext x0_6
    have t5 := (RowAt.new w4 26 #[.bool u, .slice (some a4) n n]).ext x4_6
    have t10 : w6.cell? ⟨w.heap.size, 0, none⟩ = some (.bool u) := t1.cell rfl
    have t11 : w6.cell? ⟨w.heap.size, 1, none⟩ = some (.slice a n c) := t1.cell rfl
    have t50 : w6.cell? ⟨w4.heap.size, 0, none⟩ = some (.bool u) := t5.cell rfl
    have t51 : w6.cell? ⟨w4.heap.size, 1, none⟩ = some (.slice (some a4) n n) := t5.cell rfl
    have hw6 : Ext w w6 := Ext.trans ((Ext.refl w).alloc _) x0_6
    have h46 : Ext w4 w6 := Ext.trans ((Ext.refl w4).alloc _) x4_6
    have h36 : Ext w3 w6 := hb4.trans h46
    have h56 : Ext w5 w6 := hb6
    have s1 := x0_1.size
    have s2 := hb2.size
    have s3 := hb3.size
    have s4 := hb4.size
    have s5 := hb5.size
    have s6 := hb6.size
    simp only [World.size_alloc] at s1 s5
    have O4 := Lib.hid (ho4.ext h46)
    have I3 := Lib.hid (hi3.ext h36)
    have I5 := Lib.hid (hi5.ext h56)
    have HT1 := Lib.hid t1
    have HT5 := Lib.hid t5
    have hS := Ext.refl w6
    clear hi3 hi5 h46 h36 h56 ho2 ho4 hb1 hb2 hb3 hb4 hb5 hb6 x0_1 x0_2 x0_3 x0_4 x0_5 x0_6 x1_2 x2_3 x3_4 x4_5 x4_6 x5_6 hc0_1 hc0_2 hc0_3 hc0_4 hc0_5 hc0_6 hc4_5 hc4_6 hf0_1 hf0_2 hf0_3 hf0_4 hf0_5 hf0_6 hf4_5 hf4_6 t1 t5
    go_region_held3 (fun w' => Ext w6 w' ∧ w'.cell? ⟨w.heap.size, 0, none⟩ = some (.bool u) ∧ w'.cell? ⟨w.heap.size, 1, none⟩ = some (.slice a n c) ∧ w'.cell? ⟨w4.heap.size, 0, none⟩ = some (.bool u) ∧ w'.cell? ⟨w4.heap.size, 1, none⟩ = some (.slice (some a4) n n))
      ((repeat' (refine And.intro ?_ ?_)) <;> (first | (exact Ext.cell (w := w6) (by (repeat' (first | (with_reducible exact Ext.refl _) | (with_reducible assumption) | (with_reducible refine Ext.alloc ?_ _) | (with_reducible refine Ext.drewN ?_ _) | (with_reducible refine Ext.drew ?_) | (with_reducible refine Ext.setCell ?_ ?_ _) | (with_reducible exact Nat.le_refl _) | (with_reducible exact Nat.le_succ _) | (with_reducible refine Ext.trans ?_ (by assumption)) | (simp; done) | (simp; omega)))) (by assumption)) | ((repeat' (first | (with_reducible exact Ext.refl _) | (with_reducible assumption) | (with_reducible refine Ext.alloc ?_ _) | (with_reducible refine Ext.drewN ?_ _) | (with_reducible refine Ext.drew ?_) | (with_reducible refine Ext.setCell ?_ ?_ _) | (with_reducible exact Nat.le_refl _) | (with_reducible exact Nat.le_succ _) | (with_reducible refine Ext.trans ?_ (by assumption)) | (simp; done) | (simp; omega))); done)))
      (first
        | (go_at_call 27; refine (toTrain_any _ _ _ _ rows _ HN.out hs2 HR.out (HF.out.ext (hw6.trans (by (repeat' (first | (with_reducible exact Ext.refl _) | (with_reducible assumption) | (with_reducible refine Ext.alloc ?_ _) | (with_reducible refine Ext.drewN ?_ _) | (with_reducible refine Ext.drew ?_) | (with_reducible refine Ext.setCell ?_ ?_ _) | (with_reducible exact Nat.le_refl _) | (with_reducible exact Nat.le_succ _) | (with_reducible refine Ext.trans ?_ (by assumption)) | (simp; done) | (simp; omega))))))).mono ?_; rintro e w' ⟨a6, rfl, ho6, hb6⟩)
        | (go_at_call 29; refine (eqTrain_same _ _ _ _ _ _ rows _ HN.out HS.out (O4.out.rows.ext (by (repeat' (first | (with_reducible exact Ext.refl _) | (with_reducible assumption) | (with_reducible refine Ext.alloc ?_ _) | (with_reducible refine Ext.drewN ?_ _) | (with_reducible refine Ext.drew ?_) | (with_reducible refine Ext.setCell ?_ ?_ _) | (with_reducible exact Nat.le_refl _) | (with_reducible exact Nat.le_succ _) | (with_reducible refine Ext.trans ?_ (by assumption)) | (simp; done) | (simp; omega))))) ho6.rows).mono ?_; rintro e w' ⟨rfl, hb7⟩))
    obtain ⟨w7, hw7e⟩ : ∃ x, x = w' := ⟨_, rfl⟩
    subst hw7e
    have hx7 : Ext w6 w7 := by (repeat' (first | (with_reducible exact Ext.refl _) | (with_reducible assumption) | (with_reducible refine Ext.alloc ?_ _) | (with_reducible refine Ext.drewN ?_ _) | (with_reducible refine Ext.drew ?_) | (with_reducible refine Ext.setCell ?_ ?_ _) | (with_reducible exact Nat.le_refl _) | (with_reducible exact Nat.le_succ _) | (with_reducible refine Ext.trans ?_ (by assumption)) | (simp; done) | (simp; omega)))
    have s7 := hx7.size
    have HX7 := Lib.hid hx7
    have HW7 := Lib.hid (hw6.trans hx7)
    have k50 : w7.cell? ⟨w4.heap.size, 0, none⟩ = some (.bool u) := (HT5.out.ext hx7).cell rfl
    have k51 : w7.cell? ⟨w4.heap.size, 1, none⟩ = some (.slice (some a4) n n) := (HT5.out.ext hx7).cell rfl
    clear ho6 hb6 hb7 hS t10 t11 t50 t51 hw6 hx7
    go_wp2_with fail
    with_reducible refine (markTrain_is T _ _ _ _ w3.heap.size w4.heap.size rows 1 _ HN.out hs2 HR.out HT2.out (by decide) (by decide) (by omega) (O4.out.ext HX7.out) HTT.out).mono ?_
    rintro e w8 ⟨rfl, _, hc8⟩
    have s8 := hc8.size
    have I38 := Lib.hid ((I3.out.ext HX7.out).chg hc8 (.inl (Nat.le_refl _)))
    have I58 := Lib.hid ((I5.out.ext HX7.out).chg hc8 (.inr (by omega)))
    have T18 := Lib.hid ((HT1.out.ext HX7.out).chg hc8 (.inl (by omega)))
    have HW8 := Lib.hid (hc8.ext HW7.out (by omega))
    clear hc8 k50 k51
    go_wp2_with fail
    with_reducible refine (eqIntS_same _ _ _ _ _ ids _ HM.out HMM.out I58.out.at I38.out.at).mono ?_
    rintro e w9 ⟨rfl, hb9⟩
    have s9 := hb9.size
    have HB9 := Lib.hid hb9; clear hb9
    go_wp2_with fail
    with_reducible refine (markIntS_any _ m _ (w4.heap.size + 1) w5.heap.size ids 1 _ HM.out hm2 (by decide) (by decide) (I58.out.ext HB9.out)).mono ?_
    rintro e w10 ⟨rfl, hi10, hc10⟩
    have s10 := hc10.size
    have I310 := Lib.hid ((I38.out.ext HB9.out).chg hc10 (.inl (by omega)))
    have I510 := Lib.hid hi10
    have T110 := Lib.hid ((T18.out.ext HB9.out).chg hc10 (.inl (by omega)))
    have HW10 := Lib.hid (hc10.ext (HW8.out.trans HB9.out) (by omega))
    clear hc10 hi10
    go_wp2_with fail
    with_reducible refine (heldIntS_any _ m _ 1 _ hm2 (by decide) (by decide) (IntOwn.at_nums I510.out)).mono ?_
    rintro e w10' ⟨rfl, rfl⟩
    have r0 : w10.cell? ⟨w.heap.size, 0, none⟩ = some (.bool u) := T110.out.cell rfl
    have r1 : w10.cell? ⟨w.heap.size, 1, none⟩ = some (.slice a n c) := T110.out.cell rfl
    go_wp2_with fail
    with_reducible refine (toTrain_any _ _ _ _ rows _ HN.out hs2 HR.out (HF.out.ext HW10.out)).mono ?_
    rintro e w11 ⟨a11, rfl, ho11, hb11⟩
    have HO11 := Lib.hid ho11.rows; clear ho11
    clear r0 r1
    go_wp2_with fail
    with_reducible refine (implIdsOf_is ids m _ _ _ _ rows _ HN.out hs2 HT.out HO11.out HI.out HM.out).mono ?_
    rintro e w12 ⟨a12, c12, rfl, hi12, hb12⟩
    have I12 := Lib.hid hi12.at; clear hi12
    have HB12 := Lib.hid (hb11.trans hb12); clear hb11 hb12
    go_wp2_with fail
    with_reducible refine (eqIntS_same _ _ _ _ _ ids _ HM.out HMM.out I12.out (I310.out.at.ext HB12.out)).mono ?_
    rintro e w13 ⟨rfl, hb13⟩
    have HB13 := Lib.hid (HB12.out.trans hb13); clear hb13
    go_wp2_with fail
    with_reducible refine (heldIntS_any _ m _ 1 _ hm2 (by decide) (by decide) ((IntOwn.at_nums I510.out).ext HB13.out)).mono ?_
    rintro e w14 ⟨rfl, rfl⟩
    have hx := HW10.out.trans HB13.out
    go_wp2
    go_ret
    exact ⟨rfl, hx⟩

theorem own : ownKnob Try.prog.godebug = none := by kernel_rfl
theorem laidOut : laidOutB Try.prog = true := Head.laidOut

set_option maxRecDepth 100000 in
theorem contract (H : Type) (enc : TypeId × Value → H) (W : World) (base : Nat) (args : Array Value) (ds gs : List (DataW H)) (before : List MemPlace)
    (hval : ∀ (j : Nat) t v, Try.f5.params[j]? = some t → args[j]? = some v → Value.okWide Try.prog W .any base t v)
    (hW : DataW.Whole enc Try.prog Try.f5.params.toList Rows.fnExactIdsOfSpec.vars false W args.toList ds gs before) :
    Calls Try.prog 5 args W fun e W' => ∃ v, e = .returned v ∧ Rows.fnExactIdsOfSpec.post enc Try.prog Try.f5 false true false false W args v W' := by
  have hW' := hW
  obtain ⟨p, q, hA0, hV, rfl, hfz, hnd⟩ := hW
  have hA : DataW.TrodAll enc Try.prog W 0 (fun _ => true) true Try.f5.params.toList args.toList ds p := hA0
  rw [Try.params5] at hA hval
  obtain ⟨v0, vs0, d0, ds0, p0, q0, hargs, rfl, rfl, h0, r0⟩ := trodAll_cons hA
  obtain ⟨rfl, rfl, rfl⟩ := trodAll_nil r0
  obtain rfl : args = #[v0] := by cases args; simp_all
  obtain ⟨rfl, rfl⟩ := trodVars_none hV
  have hv0 := hval 0 45 v0 rfl rfl
  clear hA0 hA
  obtain ⟨u, rows, a, c, rfl, hmax, hrows⟩ := open_train hv0 h0
  refine (walk u a _ c rows W rfl hmax hrows).mono fun e W' ⟨he, hb⟩ => ?_
  subst he
  exact ⟨_, rfl, law_post laidOut rfl (by kernel_rfl) rfl Try.underlying4 hW' rfl rfl rfl hb.below⟩

set_option maxRecDepth 100000 in
theorem lifted (os : Os) (started : os.Started) (H : Type) (enc : TypeId × Value → H) :
    ReturnsInHanded {} Try.checked os 5 .any (Rows.fnExactIdsOfSpec.pre6 enc Try.prog Try.f5 Rows.fnExactIdsOfRow.domain false) (Rows.fnExactIdsOfSpec.post enc Try.prog Try.f5 false true false false) := by
  refine returnsInHanded_of_change (C := Try.checked) own started (by kernel_rfl) Try.func5
    (ChangeSpec.witness6 (enc := enc) (C := Try.checked) false ⟨#[], #[.agg #[.bool false, .slice none 0 0]], []⟩ 8 (by kernel_rfl) (by kernel_rfl) (by kernel_rfl) (by kernel_rfl)) ?_
  intro W base args ds gs before hval hW _ _
  exact contract H enc W base args ds gs before hval hW

theorem closed : joinedFacts Try.prog 5 Try.f5 Rows.fnExactIdsOfSpec Rows.fnExactIdsOfRow = true := by
  unfold joinedFacts
  rw [Head.laidOut, Head.mapsRowed, Head.stopsHeard, Head.mayEnter, Head.liftsFinal, Head.make, Head.plainKeys]
  kernel_rfl
theorem proved : Rows.FnExactIdsOfSaid :=
  OpenClaim.holds_of_wide 5 Try.f5 rfl rfl rfl rfl rfl rfl rfl ⟨rfl, rfl, rfl, rfl, rfl⟩ rfl rfl rfl rfl rfl (by kernel_rfl) Try.func5 closed
    (of_decide_eq_true (by kernel_rfl)) (by unfold Func.isWrapper; first | (rw [if_pos (by decide +kernel)]; kernel_rfl) | (rw [if_neg (by decide +kernel)]; exact ⟨rfl, rfl⟩))
    (fun os started H enc _ => lifted os started H enc)
end Go.Proofs.Ytmcmialaofckkaa.lawIdsOf
