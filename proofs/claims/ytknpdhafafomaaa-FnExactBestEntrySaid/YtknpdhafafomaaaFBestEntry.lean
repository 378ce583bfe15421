/- For every lock and every list of trains, the program and the reference agree on the trains that go in together, and these places share no memory with others. -/
import Derived.Test.YtknpdhafafomaaaRows
import Derived.Test.YtknpdhafafomaaaHead
import Derived.Test.YtknpdhafafomaaaOpenL
import Derived.Test.YtknpdhafafomaaaBestS
import Derived.Test.YtknpdhafafomaaaOwnR
import Derived.Test.YtknpdhafafomaaaMarkT
import Derived.Deep.RegionHeld3
namespace Go.Proofs.Ytknpdhafafomaaa.lawBestEntry
open Go.ChangeShapes Go.WideShapes Go.ChangeAt Go.RowKit Go.Joins
set_option linter.unusedVariables false
set_option linter.unusedSimpArgs false

set_option maxRecDepth 100000 in
set_option maxHeartbeats 4000000 in
theorem walk (x0 x1 x2 x3 x4 x5 x6 x7 x8 : Int) (a : Option Addr) (n c : Nat) (ts : List Tn) (la : Option Addr) (ln lc : Nat) (ls : List Tn) (w : World) (hn : n = ts.length) (hs : n ≤ maxLen) (hf : TrainsAt w a ts) (hln : ln = ls.length) (hls : ln ≤ maxLen) (hlf : TrainsAt w la ls) (hi0 : I64 x0) (hi1 : I64 x1) :
    Calls Try.prog 6 #[.agg #[.int .i64 x0, .int .i64 x1, .int .i64 x2, .int .i64 x3, .int .i64 x4, .int .i64 x5, .int .i64 x6, .int .i64 x7, .int .i64 x8, .slice a n c], .slice la ln lc] w fun e w' => e = .returned (.bool true) ∧ Ext w w' := by
  have HF := Lib.hid hf; clear hf
  have HLF := Lib.hid hlf; clear hlf
  have HLS := Lib.hid hls; clear hls
  have HI0 := Lib.hid hi0; clear hi0
  have HI1 := Lib.hid hi1; clear hi1
  by_cases hsz : szTrains 1048576 ts < 0
  · have HN := Lib.hid hn; clear hn
    have HS := Lib.hid hs; clear hs
    obtain ⟨z, hz⟩ : ∃ z, szTrains 1048576 ts = z := ⟨_, rfl⟩
    rw [hz] at hsz
    have HZ := Lib.hid hz; clear hz
    have d0 : decide (z < 0) = true := by simpa using hsz
    go_enter Try.func6, Try.ntmps6
    go_wp2_with fail
    (with_reducible refine (szLock_any z _ _ _ _ _ _ _ _ _ _ _ _ ts _ HN.out HS.out (by decide) (by decide) _ (HF.out.ext (by (repeat' (first | (with_reducible exact Ext.refl _) | (with_reducible assumption) | (with_reducible refine Ext.alloc ?_ _) | (with_reducible refine Ext.drewN ?_ _) | (with_reducible refine Ext.drew ?_) | (with_reducible refine Ext.setCell ?_ ?_ _) | (with_reducible exact Nat.le_refl _) | (with_reducible exact Nat.le_succ _) | (with_reducible refine Ext.trans ?_ (by assumption)) | (simp; done) | (simp; omega))))) HZ.out).mono ?_); rintro e w1 ⟨rfl, hb1⟩
    have x0_1 := hb1
    obtain ⟨hc0_1, hf0_1⟩ := bcell x0_1.below
    have z0_1_0 : w.heap.size < w1.heap.size := by have h := x0_1.size; simp at h; omega
    go_wp2
    go_ret
    exact ⟨rfl, by (repeat' (first | (with_reducible exact Ext.refl _) | (with_reducible assumption) | (with_reducible refine Ext.alloc ?_ _) | (with_reducible refine Ext.drewN ?_ _) | (with_reducible refine Ext.drew ?_) | (with_reducible refine Ext.setCell ?_ ?_ _) | (with_reducible exact Nat.le_refl _) | (with_reducible exact Nat.le_succ _) | (with_reducible refine Ext.trans ?_ (by assumption)) | (simp; done) | (simp; omega)))⟩
  · have hTb := szTrains_mlen (l := 1048576) (by decide) (by decide) hsz
    obtain ⟨hs2, hts, hzle⟩ := szTrains_bounds (l := 1048576) (by decide) (by decide) hsz
    rw [← hn] at hs2
    have HN := Lib.hid hn; clear hn
    have HS := Lib.hid hs; clear hs
    have HT := Lib.hid hts; clear hts
    obtain ⟨z, hz⟩ : ∃ z, szTrains 1048576 ts = z := ⟨_, rfl⟩
    rw [hz] at hsz hzle
    have HZ := Lib.hid hz; clear hz
    have d0 : decide (z < 0) = false := by simpa using hsz
    have hz0 : 0 ≤ z := by omega
    by_cases hsz2 : szTrains z ls < 0
    · have HLN := Lib.hid hln; clear hln
      obtain ⟨y, hy⟩ : ∃ y, szTrains z ls = y := ⟨_, rfl⟩
      rw [hy] at hsz2
      have HY := Lib.hid hy; clear hy
      have d1 : decide (y < 0) = true := by simpa using hsz2
      go_enter Try.func6, Try.ntmps6
      go_wp2_with fail
      (with_reducible refine (szLock_any z _ _ _ _ _ _ _ _ _ _ _ _ ts _ HN.out HS.out (by decide) (by decide) _ (HF.out.ext (by (repeat' (first | (with_reducible exact Ext.refl _) | (with_reducible assumption) | (with_reducible refine Ext.alloc ?_ _) | (with_reducible refine Ext.drewN ?_ _) | (with_reducible refine Ext.drew ?_) | (with_reducible refine Ext.setCell ?_ ?_ _) | (with_reducible exact Nat.le_refl _) | (with_reducible exact Nat.le_succ _) | (with_reducible refine Ext.trans ?_ (by assumption)) | (simp; done) | (simp; omega))))) HZ.out).mono ?_); rintro e w1 ⟨rfl, hb1⟩
      have x0_1 := hb1
      obtain ⟨hc0_1, hf0_1⟩ := bcell x0_1.below
      have z0_1_0 : w.heap.size < w1.heap.size := by have h := x0_1.size; simp at h; omega
      go_wp2_with fail
      (with_reducible refine (HY.out ▸ szTrainS_any _ _ _ ls _ HLN.out HLS.out hz0 hzle _ (HLF.out.ext (Ext.trans ((Ext.refl w).alloc _) x0_1))).mono ?_); rintro e w2 ⟨rfl, hb2⟩
      have x1_2 := hb2
      have x0_2 : Ext _ w2 := x0_1.trans (Ext.trans (b := _) (by (repeat' (first | (with_reducible exact Ext.refl _) | (with_reducible assumption) | (with_reducible refine Ext.alloc ?_ _) | (with_reducible refine Ext.drewN ?_ _) | (with_reducible refine Ext.drew ?_) | (with_reducible refine Ext.setCell ?_ ?_ _) | (with_reducible exact Nat.le_refl _) | (with_reducible exact Nat.le_succ _) | (with_reducible refine Ext.trans ?_ (by assumption)) | (simp; done) | (simp; omega)))) hb2)
      obtain ⟨hc0_2, hf0_2⟩ := bcell x0_2.below
      have z0_2_0 : w.heap.size < w2.heap.size := by have h := x0_2.size; simp at h; omega
      go_wp2
      go_ret
      exact ⟨rfl, Ext.trans ((Ext.refl w).alloc _) x0_2⟩
    have hTc := szTrains_mlen (l := z) hz0 hzle hsz2
    obtain ⟨hls2, hlts, _⟩ := szTrains_bounds (l := z) hz0 hzle hsz2
    rw [← hln] at hls2
    have HLN := Lib.hid hln; clear hln
    have HLT := Lib.hid hlts; clear hlts
    obtain ⟨y, hy⟩ : ∃ y, szTrains z ls = y := ⟨_, rfl⟩
    rw [hy] at hsz2
    have HY := Lib.hid hy; clear hy
    have d1 : decide (y < 0) = false := by simpa using hsz2
    obtain ⟨R, hR⟩ : ∃ R, bestRes boatsI x0 x1 x2 x3 x4 x5 x6 x7 x8 ts ls = R := ⟨_, rfl⟩
    have hR2 : bestRes boatsS x0 x1 x2 x3 x4 x5 x6 x7 x8 ts ls = R := by rw [← bestRes_same]; exact hR
    have hRl : R.length ≤ 8 := by rw [← hR]; exact bestRes_len _ _ _ _ _ _ _ _ _ _ _ _
    obtain ⟨rn, hrn⟩ : ∃ x, x = R.length := ⟨_, rfl⟩
    rw [← hrn] at hRl
    have HRI := Lib.hid hR; have HRS := Lib.hid hR2; have HRN := Lib.hid hrn; clear hR hR2 hrn
    have HRM := Lib.hid (show rn ≤ maxLen by unfold maxLen; omega)
    obtain ⟨M0, hM0⟩ : ∃ T, mLen ts = T := ⟨_, rfl⟩
    rw [hM0] at hTb
    have HM0 := Lib.hid hM0; clear hM0
    obtain ⟨M1, hM1⟩ : ∃ T, mLen ls = T := ⟨_, rfl⟩
    rw [hM1] at hTc
    have HM1 := Lib.hid hM1
    have hd2 : decide (1 + (M0 : Int) + (M1 : Int) < 0) = false := by simp; omega
    have hd3 : decide (1 + (rn : Int) < 0) = false := by simp; omega
    clear hM1
    have BXI := Lib.hid (RowAt.new w 59 #[.int .i64 x0, .int .i64 x1, .int .i64 x2, .int .i64 x3, .int .i64 x4, .int .i64 x5, .int .i64 x6, .int .i64 x7, .int .i64 x8, .slice a n c])
    have HE0 := Lib.hid ((Ext.refl w).alloc (.cells #[.int .i64 x0, .int .i64 x1, .int .i64 x2, .int .i64 x3, .int .i64 x4, .int .i64 x5, .int .i64 x6, .int .i64 x7, .int .i64 x8, .slice a n c] 59))
    go_enter Try.func6, Try.ntmps6
    go_wp2_with fail
    with_reducible refine (szLock_any z _ _ _ _ _ _ _ _ _ _ _ _ ts _ HN.out HS.out (by decide) (by decide) _ (HF.out.ext HE0.out) HZ.out).mono ?_
    rintro e s0 ⟨rfl, hb⟩
    have HW0 := Lib.hid (HE0.out.trans hb); have BX_0 := Lib.hid (BXI.out.ext hb); have zz0 := hb.size; clear hb
    simp only [World.size_alloc] at zz0
    go_wp2_with fail
    with_reducible refine (HY.out ▸ szTrainS_any _ _ _ ls _ HLN.out HLS.out hz0 hzle _ (HLF.out.ext HW0.out)).mono ?_
    rintro e w1 ⟨rfl, hb⟩
    have HW1 := Lib.hid (HW0.out.trans hb)
    have BX_1 := Lib.hid (BX_0.out.ext hb)
    have zz1 := hb.size
    clear HW0 BX_0 hb
    have cBX0 : w1.cell? ⟨w.heap.size, 0, none⟩ = some (.int .i64 x0) := BX_1.out.cell rfl
    have cBX1 : w1.cell? ⟨w.heap.size, 1, none⟩ = some (.int .i64 x1) := BX_1.out.cell rfl
    have cBX2 : w1.cell? ⟨w.heap.size, 2, none⟩ = some (.int .i64 x2) := BX_1.out.cell rfl
    have cBX3 : w1.cell? ⟨w.heap.size, 3, none⟩ = some (.int .i64 x3) := BX_1.out.cell rfl
    have cBX4 : w1.cell? ⟨w.heap.size, 4, none⟩ = some (.int .i64 x4) := BX_1.out.cell rfl
    have cBX5 : w1.cell? ⟨w.heap.size, 5, none⟩ = some (.int .i64 x5) := BX_1.out.cell rfl
    have cBX6 : w1.cell? ⟨w.heap.size, 6, none⟩ = some (.int .i64 x6) := BX_1.out.cell rfl
    have cBX7 : w1.cell? ⟨w.heap.size, 7, none⟩ = some (.int .i64 x7) := BX_1.out.cell rfl
    have cBX8 : w1.cell? ⟨w.heap.size, 8, none⟩ = some (.int .i64 x8) := BX_1.out.cell rfl
    have cBX9 : w1.cell? ⟨w.heap.size, 9, none⟩ = some (.slice a n c) := BX_1.out.cell rfl
    go_wp2_with fail
    with_reducible refine (toLock_any _ _ _ _ _ _ _ _ _ _ _ _ ts _ HN.out hs2 HT.out (HF.out.ext HW1.out)).mono ?_
    rintro e w2 ⟨aS, rfl, ho, hb⟩
    clear cBX0 cBX1 cBX2 cBX3 cBX4 cBX5 cBX6 cBX7 cBX8 cBX9
    have hop := Lib.hid ho; clear ho
    have HW2 := Lib.hid (HW1.out.trans hb)
    have BX_2 := Lib.hid (BX_1.out.ext hb)
    have zz2 := hb.size
    clear HW1 BX_1 hb
    have OLS_2 := hop; clear hop
    go_wp2_with fail
    with_reducible refine (toTrainS_ex _ _ _ ls _ HLN.out hls2 HLT.out (HLF.out.ext HW2.out)).mono ?_
    rintro e w3 ⟨qS, rfl, ho, hb⟩
    have hop := Lib.hid ho; clear ho
    have HW3 := Lib.hid (HW2.out.trans hb)
    have BX_3 := Lib.hid (BX_2.out.ext hb)
    have OLS_3 := Lib.hid (OLS_2.out.ext hb)
    have zz3 := hb.size
    clear HW2 BX_2 OLS_2 hb
    have OQS_3 := hop; clear hop
    go_wp2_with fail
    with_reducible refine (specBest_any R rn _ _ _ _ _ _ _ _ _ _ _ _ ts _ _ _ ls _ HN.out hs2 HT.out OLS_3.out.trains (fun h => by cases h) HLN.out hls2 HLT.out OQS_3.out.trains HI0.out HI1.out HRN.out HRS.out).mono ?_
    rintro e w4 ⟨pP, cP, rfl, ho, hb⟩
    have hop := Lib.hid ho; clear ho
    have HW4 := Lib.hid (HW3.out.trans hb)
    have BX_4 := Lib.hid (BX_3.out.ext hb)
    have OLS_4 := Lib.hid (OLS_3.out.ext hb)
    have OQS_4 := Lib.hid (OQS_3.out.ext hb)
    have zz4 := hb.size
    clear HW3 BX_3 OLS_3 OQS_3 hb
    have OIP_4 := hop; clear hop
    have cBX0 : w4.cell? ⟨w.heap.size, 0, none⟩ = some (.int .i64 x0) := BX_4.out.cell rfl
    have cBX1 : w4.cell? ⟨w.heap.size, 1, none⟩ = some (.int .i64 x1) := BX_4.out.cell rfl
    have cBX2 : w4.cell? ⟨w.heap.size, 2, none⟩ = some (.int .i64 x2) := BX_4.out.cell rfl
    have cBX3 : w4.cell? ⟨w.heap.size, 3, none⟩ = some (.int .i64 x3) := BX_4.out.cell rfl
    have cBX4 : w4.cell? ⟨w.heap.size, 4, none⟩ = some (.int .i64 x4) := BX_4.out.cell rfl
    have cBX5 : w4.cell? ⟨w.heap.size, 5, none⟩ = some (.int .i64 x5) := BX_4.out.cell rfl
    have cBX6 : w4.cell? ⟨w.heap.size, 6, none⟩ = some (.int .i64 x6) := BX_4.out.cell rfl
    have cBX7 : w4.cell? ⟨w.heap.size, 7, none⟩ = some (.int .i64 x7) := BX_4.out.cell rfl
    have cBX8 : w4.cell? ⟨w.heap.size, 8, none⟩ = some (.int .i64 x8) := BX_4.out.cell rfl
    have cBX9 : w4.cell? ⟨w.heap.size, 9, none⟩ = some (.slice a n c) := BX_4.out.cell rfl
    go_wp2_with fail
    with_reducible refine (toLock_any _ _ _ _ _ _ _ _ _ _ _ _ ts _ HN.out hs2 HT.out (HF.out.ext HW4.out)).mono ?_
    rintro e w5 ⟨aX, rfl, ho, hb⟩
    clear cBX0 cBX1 cBX2 cBX3 cBX4 cBX5 cBX6 cBX7 cBX8 cBX9
    have hop := Lib.hid ho; clear ho
    have HW5 := Lib.hid (HW4.out.trans hb)
    have BX_5 := Lib.hid (BX_4.out.ext hb)
    have OLS_5 := Lib.hid (OLS_4.out.ext hb)
    have OQS_5 := Lib.hid (OQS_4.out.ext hb)
    have OIP_5 := Lib.hid (OIP_4.out.ext hb)
    have zz5 := hb.size
    clear HW4 BX_4 OLS_4 OQS_4 OIP_4 hb
    have OLX_5 := hop; clear hop
    obtain ⟨bX0, hbX0⟩ : ∃ x, x = w5.heap.size := ⟨_, rfl⟩
    obtain ⟨w6, hw6⟩ : ∃ x, x = w5.alloc (.cells #[.int .i64 x0, .int .i64 x1, .int .i64 x2, .int .i64 x3, .int .i64 x4, .int .i64 x5, .int .i64 x6, .int .i64 x7, .int .i64 x8, .slice (some aX) n n] 26) := ⟨_, rfl⟩
    have hal := (Ext.refl w5).alloc (.cells #[.int .i64 x0, .int .i64 x1, .int .i64 x2, .int .i64 x3, .int .i64 x4, .int .i64 x5, .int .i64 x6, .int .i64 x7, .int .i64 x8, .slice (some aX) n n] 26)
    have X0q := Lib.hid (RowAt.new w5 26 #[.int .i64 x0, .int .i64 x1, .int .i64 x2, .int .i64 x3, .int .i64 x4, .int .i64 x5, .int .i64 x6, .int .i64 x7, .int .i64 x8, .slice (some aX) n n])
    rw [← hw6] at hal X0q
    rw [← hbX0] at X0q
    have lX0 := X0q.out.lt; have mX0 : w5.heap.size ≤ bX0 := Nat.le_of_eq hbX0.symm; have nX0 : bX0 ≤ w5.heap.size := Nat.le_of_eq hbX0
    go_wp2_with fail
    (try rw [← hw6])
    (try rw [← hbX0])
    clear hw6 hbX0
    have HW6 := Lib.hid (HW5.out.trans hal)
    have BX_6 := Lib.hid (BX_5.out.ext hal)
    have OLS_6 := Lib.hid (OLS_5.out.ext hal)
    have OQS_6 := Lib.hid (OQS_5.out.ext hal)
    have OIP_6 := Lib.hid (OIP_5.out.ext hal)
    have OLX_6 := Lib.hid (OLX_5.out.ext hal)
    have zz6 := hal.size
    clear HW5 BX_5 OLS_5 OQS_5 OIP_5 OLX_5 hal
    have X0_6 := X0q; clear X0q
    with_reducible refine (toTrainS_ex _ _ _ ls _ HLN.out hls2 HLT.out (HLF.out.ext HW6.out)).mono ?_
    rintro e w7 ⟨qX, rfl, ho, hb⟩
    have hop := Lib.hid ho; clear ho
    have HW7 := Lib.hid (HW6.out.trans hb)
    have BX_7 := Lib.hid (BX_6.out.ext hb)
    have X0_7 := Lib.hid (X0_6.out.ext hb)
    have OLS_7 := Lib.hid (OLS_6.out.ext hb)
    have OQS_7 := Lib.hid (OQS_6.out.ext hb)
    have OIP_7 := Lib.hid (OIP_6.out.ext hb)
    have OLX_7 := Lib.hid (OLX_6.out.ext hb)
    have zz7 := hb.size
    clear HW6 BX_6 X0_6 OLS_6 OQS_6 OIP_6 OLX_6 hb
    have OQX_7 := hop; clear hop
    have cX00 : w7.cell? ⟨bX0, 0, none⟩ = some (.int .i64 x0) := X0_7.out.cell rfl
    have cX01 : w7.cell? ⟨bX0, 1, none⟩ = some (.int .i64 x1) := X0_7.out.cell rfl
    have cX02 : w7.cell? ⟨bX0, 2, none⟩ = some (.int .i64 x2) := X0_7.out.cell rfl
    have cX03 : w7.cell? ⟨bX0, 3, none⟩ = some (.int .i64 x3) := X0_7.out.cell rfl
    have cX04 : w7.cell? ⟨bX0, 4, none⟩ = some (.int .i64 x4) := X0_7.out.cell rfl
    have cX05 : w7.cell? ⟨bX0, 5, none⟩ = some (.int .i64 x5) := X0_7.out.cell rfl
    have cX06 : w7.cell? ⟨bX0, 6, none⟩ = some (.int .i64 x6) := X0_7.out.cell rfl
    have cX07 : w7.cell? ⟨bX0, 7, none⟩ = some (.int .i64 x7) := X0_7.out.cell rfl
    have cX08 : w7.cell? ⟨bX0, 8, none⟩ = some (.int .i64 x8) := X0_7.out.cell rfl
    have cX09 : w7.cell? ⟨bX0, 9, none⟩ = some (.slice (some aX) n n) := X0_7.out.cell rfl
    go_wp2_with fail
    with_reducible refine (implBest_any R rn _ _ _ _ _ _ _ _ _ _ _ _ ts _ _ _ ls _ HN.out hs2 HT.out OLX_7.out.trains (fun h => by cases h) HLN.out hls2 HLT.out OQX_7.out.trains HI0.out HI1.out HRN.out HRI.out).mono ?_
    rintro e w8 ⟨pG, cG, rfl, ho, hb⟩
    clear cX00 cX01 cX02 cX03 cX04 cX05 cX06 cX07 cX08 cX09
    have hop := Lib.hid ho; clear ho
    have HW8 := Lib.hid (HW7.out.trans hb)
    have BX_8 := Lib.hid (BX_7.out.ext hb)
    have X0_8 := Lib.hid (X0_7.out.ext hb)
    have OLS_8 := Lib.hid (OLS_7.out.ext hb)
    have OQS_8 := Lib.hid (OQS_7.out.ext hb)
    have OIP_8 := Lib.hid (OIP_7.out.ext hb)
    have OLX_8 := Lib.hid (OLX_7.out.ext hb)
    have OQX_8 := Lib.hid (OQX_7.out.ext hb)
    have zz8 := hb.size
    clear HW7 BX_7 X0_7 OLS_7 OQS_7 OIP_7 OLX_7 OQX_7 hb
    have OIG_8 := hop; clear hop
    go_wp2_with fail
    with_reducible refine (eqIntS_same _ _ _ _ _ R _ HRN.out HRM.out OIG_8.out.at OIP_8.out.at).mono ?_
    rintro e w9 ⟨rfl, hb⟩
    have HW9 := Lib.hid (HW8.out.trans hb)
    have BX_9 := Lib.hid (BX_8.out.ext hb)
    have X0_9 := Lib.hid (X0_8.out.ext hb)
    have OLS_9 := Lib.hid (OLS_8.out.ext hb)
    have OQS_9 := Lib.hid (OQS_8.out.ext hb)
    have OIP_9 := Lib.hid (OIP_8.out.ext hb)
    have OLX_9 := Lib.hid (OLX_8.out.ext hb)
    have OQX_9 := Lib.hid (OQX_8.out.ext hb)
    have OIG_9 := Lib.hid (OIG_8.out.ext hb)
    have zz9 := hb.size
    clear HW8 BX_8 X0_8 OLS_8 OQS_8 OIP_8 OLX_8 OQX_8 OIG_8 hb
    have cX00 : w9.cell? ⟨bX0, 0, none⟩ = some (.int .i64 x0) := X0_9.out.cell rfl
    have cX01 : w9.cell? ⟨bX0, 1, none⟩ = some (.int .i64 x1) := X0_9.out.cell rfl
    have cX02 : w9.cell? ⟨bX0, 2, none⟩ = some (.int .i64 x2) := X0_9.out.cell rfl
    have cX03 : w9.cell? ⟨bX0, 3, none⟩ = some (.int .i64 x3) := X0_9.out.cell rfl
    have cX04 : w9.cell? ⟨bX0, 4, none⟩ = some (.int .i64 x4) := X0_9.out.cell rfl
    have cX05 : w9.cell? ⟨bX0, 5, none⟩ = some (.int .i64 x5) := X0_9.out.cell rfl
    have cX06 : w9.cell? ⟨bX0, 6, none⟩ = some (.int .i64 x6) := X0_9.out.cell rfl
    have cX07 : w9.cell? ⟨bX0, 7, none⟩ = some (.int .i64 x7) := X0_9.out.cell rfl
    have cX08 : w9.cell? ⟨bX0, 8, none⟩ = some (.int .i64 x8) := X0_9.out.cell rfl
    have cX09 : w9.cell? ⟨bX0, 9, none⟩ = some (.slice (some aX) n n) := X0_9.out.cell rfl
    have cBX0 : w9.cell? ⟨w.heap.size, 0, none⟩ = some (.int .i64 x0) := BX_9.out.cell rfl
    have cBX1 : w9.cell? ⟨w.heap.size, 1, none⟩ = some (.int .i64 x1) := BX_9.out.cell rfl
    have cBX2 : w9.cell? ⟨w.heap.size, 2, none⟩ = some (.int .i64 x2) := BX_9.out.cell rfl
    have cBX3 : w9.cell? ⟨w.heap.size, 3, none⟩ = some (.int .i64 x3) := BX_9.out.cell rfl
    have cBX4 : w9.cell? ⟨w.heap.size, 4, none⟩ = some (.int .i64 x4) := BX_9.out.cell rfl
    have cBX5 : w9.cell? ⟨w.heap.size, 5, none⟩ = some (.int .i64 x5) := BX_9.out.cell rfl
    have cBX6 : w9.cell? ⟨w.heap.size, 6, none⟩ = some (.int .i64 x6) := BX_9.out.cell rfl
    have cBX7 : w9.cell? ⟨w.heap.size, 7, none⟩ = some (.int .i64 x7) := BX_9.out.cell rfl
    have cBX8 : w9.cell? ⟨w.heap.size, 8, none⟩ = some (.int .i64 x8) := BX_9.out.cell rfl
    have cBX9 : w9.cell? ⟨w.heap.size, 9, none⟩ = some (.slice a n c) := BX_9.out.cell rfl
    have hS := Ext.refl w9
    go_wp2_with fail
    go_region_held3 (fun w' => Ext w9 w' ∧ w'.cell? ⟨bX0, 0, none⟩ = some (.int .i64 x0) ∧ w'.cell? ⟨bX0, 1, none⟩ = some (.int .i64 x1) ∧ w'.cell? ⟨bX0, 2, none⟩ = some (.int .i64 x2) ∧ w'.cell? ⟨bX0, 3, none⟩ = some (.int .i64 x3) ∧ w'.cell? ⟨bX0, 4, none⟩ = some (.int .i64 x4) ∧ w'.cell? ⟨bX0, 5, none⟩ = some (.int .i64 x5) ∧ w'.cell? ⟨bX0, 6, none⟩ = some (.int .i64 x6) ∧ w'.cell? ⟨bX0, 7, none⟩ = some (.int .i64 x7) ∧ w'.cell? ⟨bX0, 8, none⟩ = some (.int .i64 x8) ∧ w'.cell? ⟨bX0, 9, none⟩ = some (.slice (some aX) n n) ∧ w'.cell? ⟨w.heap.size, 0, none⟩ = some (.int .i64 x0) ∧ w'.cell? ⟨w.heap.size, 1, none⟩ = some (.int .i64 x1) ∧ w'.cell? ⟨w.heap.size, 2, none⟩ = some (.int .i64 x2) ∧ w'.cell? ⟨w.heap.size, 3, none⟩ = some (.int .i64 x3) ∧ w'.cell? ⟨w.heap.size, 4, none⟩ = some (.int .i64 x4) ∧ w'.cell? ⟨w.heap.size, 5, none⟩ = some (.int .i64 x5) ∧ w'.cell? ⟨w.heap.size, 6, none⟩ = some (.int .i64 x6) ∧ w'.cell? ⟨w.heap.size, 7, none⟩ = some (.int .i64 x7) ∧ w'.cell? ⟨w.heap.size, 8, none⟩ = some (.int .i64 x8) ∧ w'.cell? ⟨w.heap.size, 9, none⟩ = some (.slice a n c))
      ((repeat' (refine And.intro ?_ ?_)) <;> (first | (exact Ext.cell (w := w9) (by (repeat' (first | (with_reducible exact Ext.refl _) | (with_reducible assumption) | (with_reducible refine Ext.alloc ?_ _) | (with_reducible refine Ext.drewN ?_ _) | (with_reducible refine Ext.drew ?_) | (with_reducible refine Ext.setCell ?_ ?_ _) | (with_reducible exact Nat.le_refl _) | (with_reducible exact Nat.le_succ _) | (with_reducible refine Ext.trans ?_ (by assumption)) | (simp; done) | (simp; omega)))) (by (with_reducible assumption))) | ((repeat' (first | (with_reducible exact Ext.refl _) | (with_reducible assumption) | (with_reducible refine Ext.alloc ?_ _) | (with_reducible refine Ext.drewN ?_ _) | (with_reducible refine Ext.drew ?_) | (with_reducible refine Ext.setCell ?_ ?_ _) | (with_reducible exact Nat.le_refl _) | (with_reducible exact Nat.le_succ _) | (with_reducible refine Ext.trans ?_ (by assumption)) | (simp; done) | (simp; omega))); done)))
      (first
        | (go_at_call 34; with_reducible refine (toLock_any _ _ _ _ _ _ _ _ _ _ _ _ ts _ HN.out hs2 HT.out (HF.out.ext (HW9.out.trans (by (repeat' (first | (with_reducible exact Ext.refl _) | (with_reducible assumption) | (with_reducible refine Ext.alloc ?_ _) | (with_reducible refine Ext.drewN ?_ _) | (with_reducible refine Ext.drew ?_) | (with_reducible refine Ext.setCell ?_ ?_ _) | (with_reducible exact Nat.le_refl _) | (with_reducible exact Nat.le_succ _) | (with_reducible refine Ext.trans ?_ (by assumption)) | (simp; done) | (simp; omega))))))).mono ?_; rintro e w' ⟨aE, rfl, ho, hb⟩)
        | (go_at_call 37; with_reducible refine (eqLock_same _ _ _ _ _ _ _ _ _ _ _ _ _ _ ts _ HN.out HS.out (OLX_9.out.trains.ext (by (repeat' (first | (with_reducible exact Ext.refl _) | (with_reducible assumption) | (with_reducible refine Ext.alloc ?_ _) | (with_reducible refine Ext.drewN ?_ _) | (with_reducible refine Ext.drew ?_) | (with_reducible refine Ext.setCell ?_ ?_ _) | (with_reducible exact Nat.le_refl _) | (with_reducible exact Nat.le_succ _) | (with_reducible refine Ext.trans ?_ (by assumption)) | (simp; done) | (simp; omega))))) ho.trains).mono ?_; rintro e w' ⟨rfl, hb'⟩))
    obtain ⟨w10, hwe⟩ : ∃ x, x = w' := ⟨_, rfl⟩
    subst hwe
    have hxx : Ext w9 w10 := by (repeat' (first | (with_reducible exact Ext.refl _) | (with_reducible assumption) | (with_reducible refine Ext.alloc ?_ _) | (with_reducible refine Ext.drewN ?_ _) | (with_reducible refine Ext.drew ?_) | (with_reducible refine Ext.setCell ?_ ?_ _) | (with_reducible exact Nat.le_refl _) | (with_reducible exact Nat.le_succ _) | (with_reducible refine Ext.trans ?_ (by assumption)) | (simp; done) | (simp; omega)))
    clear ho hb hb' hS
    clear cX00 cX01 cX02 cX03 cX04 cX05 cX06 cX07 cX08 cX09 cBX0 cBX1 cBX2 cBX3 cBX4 cBX5 cBX6 cBX7 cBX8 cBX9
    have HW10 := Lib.hid (HW9.out.trans hxx)
    have BX_10 := Lib.hid (BX_9.out.ext hxx)
    have X0_10 := Lib.hid (X0_9.out.ext hxx)
    have OLS_10 := Lib.hid (OLS_9.out.ext hxx)
    have OQS_10 := Lib.hid (OQS_9.out.ext hxx)
    have OIP_10 := Lib.hid (OIP_9.out.ext hxx)
    have OLX_10 := Lib.hid (OLX_9.out.ext hxx)
    have OQX_10 := Lib.hid (OQX_9.out.ext hxx)
    have OIG_10 := Lib.hid (OIG_9.out.ext hxx)
    have zz10 := hxx.size
    clear HW9 BX_9 X0_9 OLS_9 OQS_9 OIP_9 OLX_9 OQX_9 OIG_9 hxx
    go_wp2_with fail
    with_reducible refine (toTrainS_ex _ _ _ ls _ HLN.out hls2 HLT.out (HLF.out.ext HW10.out)).mono ?_
    rintro e w11 ⟨qE, rfl, ho, hb⟩
    have hop := Lib.hid ho; clear ho
    have HW11 := Lib.hid (HW10.out.trans hb)
    have BX_11 := Lib.hid (BX_10.out.ext hb)
    have X0_11 := Lib.hid (X0_10.out.ext hb)
    have OLS_11 := Lib.hid (OLS_10.out.ext hb)
    have OQS_11 := Lib.hid (OQS_10.out.ext hb)
    have OIP_11 := Lib.hid (OIP_10.out.ext hb)
    have OLX_11 := Lib.hid (OLX_10.out.ext hb)
    have OQX_11 := Lib.hid (OQX_10.out.ext hb)
    have OIG_11 := Lib.hid (OIG_10.out.ext hb)
    have zz11 := hb.size
    clear HW10 BX_10 X0_10 OLS_10 OQS_10 OIP_10 OLX_10 OQX_10 OIG_10 hb
    have OQE_11 := hop; clear hop
    go_wp2_with fail
    with_reducible refine (eqTrainS_same _ _ _ _ _ ls _ HLN.out HLS.out OQX_11.out.trains OQE_11.out.trains).mono ?_
    rintro e w12 ⟨rfl, hb⟩
    have HW12 := Lib.hid (HW11.out.trans hb)
    have BX_12 := Lib.hid (BX_11.out.ext hb)
    have X0_12 := Lib.hid (X0_11.out.ext hb)
    have OLS_12 := Lib.hid (OLS_11.out.ext hb)
    have OQS_12 := Lib.hid (OQS_11.out.ext hb)
    have OIP_12 := Lib.hid (OIP_11.out.ext hb)
    have OLX_12 := Lib.hid (OLX_11.out.ext hb)
    have OQX_12 := Lib.hid (OQX_11.out.ext hb)
    have OIG_12 := Lib.hid (OIG_11.out.ext hb)
    have OQE_12 := Lib.hid (OQE_11.out.ext hb)
    have zz12 := hb.size
    clear HW11 BX_11 X0_11 OLS_11 OQS_11 OIP_11 OLX_11 OQX_11 OIG_11 OQE_11 hb
    have cX00 : w12.cell? ⟨bX0, 0, none⟩ = some (.int .i64 x0) := X0_12.out.cell rfl
    have cX01 : w12.cell? ⟨bX0, 1, none⟩ = some (.int .i64 x1) := X0_12.out.cell rfl
    have cX02 : w12.cell? ⟨bX0, 2, none⟩ = some (.int .i64 x2) := X0_12.out.cell rfl
    have cX03 : w12.cell? ⟨bX0, 3, none⟩ = some (.int .i64 x3) := X0_12.out.cell rfl
    have cX04 : w12.cell? ⟨bX0, 4, none⟩ = some (.int .i64 x4) := X0_12.out.cell rfl
    have cX05 : w12.cell? ⟨bX0, 5, none⟩ = some (.int .i64 x5) := X0_12.out.cell rfl
    have cX06 : w12.cell? ⟨bX0, 6, none⟩ = some (.int .i64 x6) := X0_12.out.cell rfl
    have cX07 : w12.cell? ⟨bX0, 7, none⟩ = some (.int .i64 x7) := X0_12.out.cell rfl
    have cX08 : w12.cell? ⟨bX0, 8, none⟩ = some (.int .i64 x8) := X0_12.out.cell rfl
    have cX09 : w12.cell? ⟨bX0, 9, none⟩ = some (.slice (some aX) n n) := X0_12.out.cell rfl
    go_wp2_with fail
    with_reducible refine (markLock_is M0 _ _ _ _ _ _ _ _ _ _ _ _ (w4.heap.size) (w5.heap.size) ts 1 _ HN.out hs2 HT.out hTb (by omega) (by omega) (by omega) OLX_12.out HM0.out).mono ?_
    rintro e w13 ⟨rfl, ho, hc⟩
    clear cX00 cX01 cX02 cX03 cX04 cX05 cX06 cX07 cX08 cX09
    have HW13 := Lib.hid (hc.ext HW12.out (by omega))
    have BX_13 := Lib.hid (BX_12.out.chg hc (by omega))
    have X0_13 := Lib.hid (X0_12.out.chg hc (by omega))
    have OLS_13 := Lib.hid (OLS_12.out.chg hc (by omega))
    have OQS_13 := Lib.hid (OQS_12.out.chg hc (by omega))
    have OIP_13 := Lib.hid (OIP_12.out.chg hc (by omega))
    have OLX_13 := Lib.hid ho
    have OQX_13 := Lib.hid (OQX_12.out.chg hc (by omega))
    have OIG_13 := Lib.hid (OIG_12.out.chg hc (by omega))
    have OQE_13 := Lib.hid (OQE_12.out.chg hc (by omega))
    have zz13 := hc.size
    clear HW12 BX_12 X0_12 OLS_12 OQS_12 OIP_12 OLX_12 OQX_12 OIG_12 OQE_12 hc ho
    go_wp2_with fail
    with_reducible refine (HM1.out ▸ markTrainS_any _ _ _ (w6.heap.size) (w7.heap.size) ls (1 + (M0 : Int)) _ HLN.out hls2 HLT.out (by rw [HM1.out]; exact hTc) (by omega) (by omega) (by omega) OQX_13.out).mono ?_
    rintro e w14 ⟨rfl, ho, hc⟩
    have HW14 := Lib.hid (hc.ext HW13.out (by omega))
    have BX_14 := Lib.hid (BX_13.out.chg hc (by omega))
    have X0_14 := Lib.hid (X0_13.out.chg hc (by omega))
    have OLS_14 := Lib.hid (OLS_13.out.chg hc (by omega))
    have OQS_14 := Lib.hid (OQS_13.out.chg hc (by omega))
    have OIP_14 := Lib.hid (OIP_13.out.chg hc (by omega))
    have OLX_14 := Lib.hid (OLX_13.out.chg hc (by omega))
    have OQX_14 := Lib.hid ho
    have OIG_14 := Lib.hid (OIG_13.out.chg hc (by omega))
    have OQE_14 := Lib.hid (OQE_13.out.chg hc (by omega))
    have zz14 := hc.size
    clear HW13 BX_13 X0_13 OLS_13 OQS_13 OIP_13 OLX_13 OQX_13 OIG_13 OQE_13 hc ho
    go_wp2_with fail
    with_reducible refine (eqIntS_same _ _ _ _ _ R _ HRN.out HRM.out OIG_14.out.at OIP_14.out.at).mono ?_
    rintro e w15 ⟨rfl, hb⟩
    have HW15 := Lib.hid (HW14.out.trans hb)
    have BX_15 := Lib.hid (BX_14.out.ext hb)
    have X0_15 := Lib.hid (X0_14.out.ext hb)
    have OLS_15 := Lib.hid (OLS_14.out.ext hb)
    have OQS_15 := Lib.hid (OQS_14.out.ext hb)
    have OIP_15 := Lib.hid (OIP_14.out.ext hb)
    have OLX_15 := Lib.hid (OLX_14.out.ext hb)
    have OQX_15 := Lib.hid (OQX_14.out.ext hb)
    have OIG_15 := Lib.hid (OIG_14.out.ext hb)
    have OQE_15 := Lib.hid (OQE_14.out.ext hb)
    have zz15 := hb.size
    clear HW14 BX_14 X0_14 OLS_14 OQS_14 OIP_14 OLX_14 OQX_14 OIG_14 OQE_14 hb
    go_wp2_with fail
    with_reducible refine (markIntS_any _ _ _ (w7.heap.size) (w8.heap.size) R 1 _ HRN.out (by omega) (by omega) (by omega) OIG_15.out).mono ?_
    rintro e w16 ⟨rfl, ho, hc⟩
    have HW16 := Lib.hid (hc.ext HW15.out (by omega))
    have BX_16 := Lib.hid (BX_15.out.chg hc (by omega))
    have X0_16 := Lib.hid (X0_15.out.chg hc (by omega))
    have OLS_16 := Lib.hid (OLS_15.out.chg hc (by omega))
    have OQS_16 := Lib.hid (OQS_15.out.chg hc (by omega))
    have OIP_16 := Lib.hid (OIP_15.out.chg hc (by omega))
    have OLX_16 := Lib.hid (OLX_15.out.chg hc (by omega))
    have OQX_16 := Lib.hid (OQX_15.out.chg hc (by omega))
    have OIG_16 := Lib.hid ho
    have OQE_16 := Lib.hid (OQE_15.out.chg hc (by omega))
    have zz16 := hc.size
    clear HW15 BX_15 X0_15 OLS_15 OQS_15 OIP_15 OLX_15 OQX_15 OIG_15 OQE_15 hc ho
    go_wp2_with fail
    with_reducible refine (heldIntS_any _ _ _ 1 _ (by omega) (by omega) (by omega) OIG_16.out.at_nums).mono ?_
    rintro e _ ⟨rfl, rfl⟩
    have cBX0 : w16.cell? ⟨w.heap.size, 0, none⟩ = some (.int .i64 x0) := BX_16.out.cell rfl
    have cBX1 : w16.cell? ⟨w.heap.size, 1, none⟩ = some (.int .i64 x1) := BX_16.out.cell rfl
    have cBX2 : w16.cell? ⟨w.heap.size, 2, none⟩ = some (.int .i64 x2) := BX_16.out.cell rfl
    have cBX3 : w16.cell? ⟨w.heap.size, 3, none⟩ = some (.int .i64 x3) := BX_16.out.cell rfl
    have cBX4 : w16.cell? ⟨w.heap.size, 4, none⟩ = some (.int .i64 x4) := BX_16.out.cell rfl
    have cBX5 : w16.cell? ⟨w.heap.size, 5, none⟩ = some (.int .i64 x5) := BX_16.out.cell rfl
    have cBX6 : w16.cell? ⟨w.heap.size, 6, none⟩ = some (.int .i64 x6) := BX_16.out.cell rfl
    have cBX7 : w16.cell? ⟨w.heap.size, 7, none⟩ = some (.int .i64 x7) := BX_16.out.cell rfl
    have cBX8 : w16.cell? ⟨w.heap.size, 8, none⟩ = some (.int .i64 x8) := BX_16.out.cell rfl
    have cBX9 : w16.cell? ⟨w.heap.size, 9, none⟩ = some (.slice a n c) := BX_16.out.cell rfl
    go_wp2_with fail
    with_reducible refine (toLock_any _ _ _ _ _ _ _ _ _ _ _ _ ts _ HN.out hs2 HT.out (HF.out.ext HW16.out)).mono ?_
    rintro e w17 ⟨aH, rfl, ho, hb⟩
    clear cBX0 cBX1 cBX2 cBX3 cBX4 cBX5 cBX6 cBX7 cBX8 cBX9
    have hop := Lib.hid ho; clear ho
    have HW17 := Lib.hid (HW16.out.trans hb)
    have BX_17 := Lib.hid (BX_16.out.ext hb)
    have X0_17 := Lib.hid (X0_16.out.ext hb)
    have OLS_17 := Lib.hid (OLS_16.out.ext hb)
    have OQS_17 := Lib.hid (OQS_16.out.ext hb)
    have OIP_17 := Lib.hid (OIP_16.out.ext hb)
    have OLX_17 := Lib.hid (OLX_16.out.ext hb)
    have OQX_17 := Lib.hid (OQX_16.out.ext hb)
    have OIG_17 := Lib.hid (OIG_16.out.ext hb)
    have OQE_17 := Lib.hid (OQE_16.out.ext hb)
    have zz17 := hb.size
    clear HW16 BX_16 X0_16 OLS_16 OQS_16 OIP_16 OLX_16 OQX_16 OIG_16 OQE_16 hb
    have OLH_17 := hop; clear hop
    go_wp2_with fail
    with_reducible refine (toTrainS_ex _ _ _ ls _ HLN.out hls2 HLT.out (HLF.out.ext HW17.out)).mono ?_
    rintro e w18 ⟨qH, rfl, ho, hb⟩
    have hop := Lib.hid ho; clear ho
    have HW18 := Lib.hid (HW17.out.trans hb)
    have BX_18 := Lib.hid (BX_17.out.ext hb)
    have X0_18 := Lib.hid (X0_17.out.ext hb)
    have OLS_18 := Lib.hid (OLS_17.out.ext hb)
    have OQS_18 := Lib.hid (OQS_17.out.ext hb)
    have OIP_18 := Lib.hid (OIP_17.out.ext hb)
    have OLX_18 := Lib.hid (OLX_17.out.ext hb)
    have OQX_18 := Lib.hid (OQX_17.out.ext hb)
    have OIG_18 := Lib.hid (OIG_17.out.ext hb)
    have OQE_18 := Lib.hid (OQE_17.out.ext hb)
    have OLH_18 := Lib.hid (OLH_17.out.ext hb)
    have zz18 := hb.size
    clear HW17 BX_17 X0_17 OLS_17 OQS_17 OIP_17 OLX_17 OQX_17 OIG_17 OQE_17 OLH_17 hb
    have OQH_18 := hop; clear hop
    go_wp2_with fail
    with_reducible refine (implBest_any R rn _ _ _ _ _ _ _ _ _ _ _ _ ts _ _ _ ls _ HN.out hs2 HT.out OLH_18.out.trains (fun h => by cases h) HLN.out hls2 HLT.out OQH_18.out.trains HI0.out HI1.out HRN.out HRI.out).mono ?_
    rintro e w19 ⟨pH, cH, rfl, ho, hb⟩
    have hop := Lib.hid ho; clear ho
    have HW19 := Lib.hid (HW18.out.trans hb)
    have BX_19 := Lib.hid (BX_18.out.ext hb)
    have X0_19 := Lib.hid (X0_18.out.ext hb)
    have OLS_19 := Lib.hid (OLS_18.out.ext hb)
    have OQS_19 := Lib.hid (OQS_18.out.ext hb)
    have OIP_19 := Lib.hid (OIP_18.out.ext hb)
    have OLX_19 := Lib.hid (OLX_18.out.ext hb)
    have OQX_19 := Lib.hid (OQX_18.out.ext hb)
    have OIG_19 := Lib.hid (OIG_18.out.ext hb)
    have OQE_19 := Lib.hid (OQE_18.out.ext hb)
    have OLH_19 := Lib.hid (OLH_18.out.ext hb)
    have OQH_19 := Lib.hid (OQH_18.out.ext hb)
    have zz19 := hb.size
    clear HW18 BX_18 X0_18 OLS_18 OQS_18 OIP_18 OLX_18 OQX_18 OIG_18 OQE_18 OLH_18 OQH_18 hb
    have OIH_19 := hop; clear hop
    go_wp2_with fail
    with_reducible refine (eqIntS_same _ _ _ _ _ R _ HRN.out HRM.out OIH_19.out.at OIP_19.out.at).mono ?_
    rintro e w20 ⟨rfl, hb⟩
    have HW20 := Lib.hid (HW19.out.trans hb)
    have BX_20 := Lib.hid (BX_19.out.ext hb)
    have X0_20 := Lib.hid (X0_19.out.ext hb)
    have OLS_20 := Lib.hid (OLS_19.out.ext hb)
    have OQS_20 := Lib.hid (OQS_19.out.ext hb)
    have OIP_20 := Lib.hid (OIP_19.out.ext hb)
    have OLX_20 := Lib.hid (OLX_19.out.ext hb)
    have OQX_20 := Lib.hid (OQX_19.out.ext hb)
    have OIG_20 := Lib.hid (OIG_19.out.ext hb)
    have OQE_20 := Lib.hid (OQE_19.out.ext hb)
    have OLH_20 := Lib.hid (OLH_19.out.ext hb)
    have OQH_20 := Lib.hid (OQH_19.out.ext hb)
    have OIH_20 := Lib.hid (OIH_19.out.ext hb)
    have zz20 := hb.size
    clear HW19 BX_19 X0_19 OLS_19 OQS_19 OIP_19 OLX_19 OQX_19 OIG_19 OQE_19 OLH_19 OQH_19 OIH_19 hb
    go_wp2_with fail
    with_reducible refine (heldIntS_any _ _ _ 1 _ (by omega) (by omega) (by omega) OIG_20.out.at_nums).mono ?_
    rintro e _ ⟨rfl, rfl⟩
    have hx := HW20.out
    go_wp2
    go_ret
    exact ⟨rfl, hx⟩

theorem own : ownKnob Try.prog.godebug = none := by kernel_rfl
theorem laidOut : laidOutB Try.prog = true := Head.laidOut

set_option maxRecDepth 100000 in
theorem contract (H : Type) (enc : TypeId × Value → H) (W : World) (base : Nat) (args : Array Value) (ds gs : List (DataW H)) (before : List MemPlace)
    (hval : ∀ (j : Nat) t v, Try.f6.params[j]? = some t → args[j]? = some v → Value.okWide Try.prog W .any base t v)
    (hW : DataW.Whole enc Try.prog Try.f6.params.toList Rows.fnExactBestEntrySpec.vars false W args.toList ds gs before) :
    Calls Try.prog 6 args W fun e W' => ∃ v, e = .returned v ∧ Rows.fnExactBestEntrySpec.post enc Try.prog Try.f6 false true false false W args v W' := by
  have hW' := hW
  obtain ⟨p, q, hA0, hV, rfl, hfz, hnd⟩ := hW
  have hA : DataW.TrodAll enc Try.prog W 0 (fun _ => true) true Try.f6.params.toList args.toList ds p := hA0
  rw [Try.params6] at hA hval
  obtain ⟨v0, vs0, d0, ds0, p0, q0, hargs, rfl, rfl, h0, r0⟩ := trodAll_cons hA
  obtain ⟨v1, vs1, d1, ds1, p1, q1, rfl, rfl, rfl, h1, r1⟩ := trodAll_cons r0
  obtain ⟨rfl, rfl, rfl⟩ := trodAll_nil r1
  obtain rfl : args = #[v0, v1] := by cases args; simp_all
  obtain ⟨rfl, rfl⟩ := trodVars_none hV
  have hv0 := hval 0 59 v0 rfl rfl
  have hv1 := hval 1 57 v1 rfl rfl
  clear hA0 hA
  obtain ⟨x0, x1, x2, x3, x4, x5, x6, x7, x8, ts, a, c, rfl, hmax, hts, wi0, wi1⟩ := open_lock hv0 h0
  obtain ⟨ls, la, lc, rfl, hlmax, hlts⟩ := open_trains_arg hv1 h1
  refine (walk x0 x1 x2 x3 x4 x5 x6 x7 x8 a _ c ts la _ lc ls W rfl hmax hts rfl hlmax hlts wi0 wi1).mono fun e W' ⟨he, hb⟩ => ?_
  subst he
  exact ⟨_, rfl, law_post laidOut rfl (by kernel_rfl) rfl Try.underlying4 hW' rfl rfl rfl hb.below⟩

set_option maxRecDepth 100000 in
theorem lifted (os : Os) (started : os.Started) (H : Type) (enc : TypeId × Value → H) :
    ReturnsInHanded {} Try.checked os 6 .any (Rows.fnExactBestEntrySpec.pre6 enc Try.prog Try.f6 Rows.fnExactBestEntryRow.domain false) (Rows.fnExactBestEntrySpec.post enc Try.prog Try.f6 false true false false) := by
  refine returnsInHanded_of_change (C := Try.checked) own started (by kernel_rfl) Try.func6
    (ChangeSpec.witness6 (enc := enc) (C := Try.checked) false ⟨#[], #[.agg #[.int .i64 0, .int .i64 0, .int .i64 0, .int .i64 0, .int .i64 0, .int .i64 0, .int .i64 0, .int .i64 0, .int .i64 0, .slice none 0 0], .slice none 0 0], []⟩ 8 (by kernel_rfl) (by kernel_rfl) (by kernel_rfl) (by kernel_rfl)) ?_
  intro W base args ds gs before hval hW _ _
  exact contract H enc W base args ds gs before hval hW

theorem closed : joinedFacts Try.prog 6 Try.f6 Rows.fnExactBestEntrySpec Rows.fnExactBestEntryRow = true := by
  unfold joinedFacts
  rw [Head.laidOut, Head.mapsRowed, Head.stopsHeard, Head.mayEnter, Head.liftsFinal, Head.make, Head.plainKeys]
  kernel_rfl
theorem proved : Rows.FnExactBestEntrySaid :=
  OpenClaim.holds_of_wide 6 Try.f6 rfl rfl rfl rfl rfl rfl rfl ⟨rfl, rfl, rfl, rfl, rfl⟩ rfl rfl rfl rfl rfl (by kernel_rfl) Try.func6 closed
    (of_decide_eq_true (by kernel_rfl)) (by unfold Func.isWrapper; first | (rw [if_pos (by decide +kernel)]; kernel_rfl) | (rw [if_neg (by decide +kernel)]; exact ⟨rfl, rfl⟩))
    (fun os started H enc _ => lifted os started H enc)
end Go.Proofs.Ytknpdhafafomaaa.lawBestEntry

