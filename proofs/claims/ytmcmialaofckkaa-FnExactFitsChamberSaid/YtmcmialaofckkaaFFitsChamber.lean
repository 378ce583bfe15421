/- For every lock and every list of trains, the program and the reference agree on whether the trains fit into the chamber. -/
import Derived.Test.YtmcmialaofckkaaRows
import Derived.Test.YtmcmialaofckkaaHead
import Derived.Test.YtmcmialaofckkaaOpenL
import Derived.Test.YtmcmialaofckkaaFits
import Derived.Deep.RegionHeld3
namespace Go.Proofs.Ytmcmialaofckkaa.lawFitsChamber
open Go.ChangeShapes Go.WideShapes Go.ChangeAt Go.RowKit Go.Joins
set_option linter.unusedVariables false
set_option linter.unusedSimpArgs false

set_option maxRecDepth 100000 in
set_option maxHeartbeats 8000000 in
theorem walk (x0 x1 x2 x3 x4 x5 x6 x7 x8 : Int) (a : Option Addr) (n c : Nat) (ts : List Tn) (la : Option Addr) (ln lc : Nat) (ls : List Tn) (w : World) (hn : n = ts.length) (hs : n ≤ maxLen) (hf : TrainsAt w a ts) (hln : ln = ls.length) (hls : ln ≤ maxLen) (hlf : TrainsAt w la ls) (hi0 : I64 x0) (hi1 : I64 x1) :
    Calls Try.prog 14 #[.agg #[.int .i64 x0, .int .i64 x1, .int .i64 x2, .int .i64 x3, .int .i64 x4, .int .i64 x5, .int .i64 x6, .int .i64 x7, .int .i64 x8, .slice a n c], .slice la ln lc] w fun e w' => e = .returned (.bool true) ∧ Ext w w' := by
  have HF := Lib.hid hf; clear hf
  have HLF := Lib.hid hlf; clear hlf
  have HLS := Lib.hid hls; clear hls
  have HI0 := Lib.hid hi0; clear hi0
  have HI1 := Lib.hid hi1; clear hi1
  by_cases hsz : szTrains 1048576 ts < 0
  · have HN := Lib.hid hn; clear hn
    have HS := Lib.hid hs; clear hs
    obtain ⟨z, hz⟩ : ∃ z, szTrains 1048576 ts = z := ⟨_, rfl⟩
    rw [hz] at hsz
    have HZ := Lib.hid hz; clear hz
    have d0 : decide (z < 0) = true := by simpa using hsz
    go_enter Try.func14, Try.ntmps14
    go_wp2_with fail
    (with_reducible refine (szLock_any z _ _ _ _ _ _ _ _ _ _ _ _ ts _ HN.out HS.out (by decide) (by decide) _ (HF.out.ext (by (repeat' (first | (with_reducible exact Ext.refl _) | (with_reducible assumption) | (with_reducible refine Ext.alloc ?_ _) | (with_reducible refine Ext.drewN ?_ _) | (with_reducible refine Ext.drew ?_) | (with_reducible refine Ext.setCell ?_ ?_ _) | (with_reducible exact Nat.le_refl _) | (with_reducible exact Nat.le_succ _) | (with_reducible refine Ext.trans ?_ (by assumption)) | (simp; done) | (simp; omega))))) HZ.out).mono ?_); rintro e w1 ⟨rfl, hb1⟩
    have x0_1 := hb1
    obtain ⟨hc0_1, hf0_1⟩ := bcell x0_1.below
    have z0_1_0 : w.heap.size < w1.heap.size := by have h := x0_1.size; simp at h; omega
    go_wp2
    go_ret
    exact ⟨rfl, by (repeat' (first | (with_reducible exact Ext.refl _) | (with_reducible assumption) | (with_reducible refine Ext.alloc ?_ _) | (with_reducible refine Ext.drewN ?_ _) | (with_reducible refine Ext.drew ?_) | (with_reducible refine Ext.setCell ?_ ?_ _) | (with_reducible exact Nat.le_refl _) | (with_reducible exact Nat.le_succ _) | (with_reducible refine Ext.trans ?_ (by assumption)) | (simp; done) | (simp; omega)))⟩
  · obtain ⟨hs2, hts, hzle⟩ := szTrains_bounds (l := 1048576) (by decide) (by decide) hsz
    rw [← hn] at hs2
    have HN := Lib.hid hn; clear hn
    have HS := Lib.hid hs; clear hs
    have HT := Lib.hid hts; clear hts
    obtain ⟨z, hz⟩ : ∃ z, szTrains 1048576 ts = z := ⟨_, rfl⟩
    rw [hz] at hsz hzle
    have HZ := Lib.hid hz; clear hz
    have d0 : decide (z < 0) = false := by simpa using hsz
    have hz0 : 0 ≤ z := by omega
    by_cases hsz2 : szTrains z ls < 0
    · have HLN := Lib.hid hln; clear hln
      obtain ⟨y, hy⟩ : ∃ y, szTrains z ls = y := ⟨_, rfl⟩
      rw [hy] at hsz2
      have HY := Lib.hid hy; clear hy
      have d1 : decide (y < 0) = true := by simpa using hsz2
      go_enter Try.func14, Try.ntmps14
      go_wp2_with fail
      (with_reducible refine (szLock_any z _ _ _ _ _ _ _ _ _ _ _ _ ts _ HN.out HS.out (by decide) (by decide) _ (HF.out.ext (by (repeat' (first | (with_reducible exact Ext.refl _) | (with_reducible assumption) | (with_reducible refine Ext.alloc ?_ _) | (with_reducible refine Ext.drewN ?_ _) | (with_reducible refine Ext.drew ?_) | (with_reducible refine Ext.setCell ?_ ?_ _) | (with_reducible exact Nat.le_refl _) | (with_reducible exact Nat.le_succ _) | (with_reducible refine Ext.trans ?_ (by assumption)) | (simp; done) | (simp; omega))))) HZ.out).mono ?_); rintro e w1 ⟨rfl, hb1⟩
      have x0_1 := hb1
      obtain ⟨hc0_1, hf0_1⟩ := bcell x0_1.below
      have z0_1_0 : w.heap.size < w1.heap.size := by have h := x0_1.size; simp at h; omega
      go_wp2_with fail
      (with_reducible refine (HY.out ▸ szTrainS_any _ _ _ ls _ HLN.out HLS.out hz0 hzle _ (HLF.out.ext (Ext.trans ((Ext.refl w).alloc _) x0_1))).mono ?_); rintro e w2 ⟨rfl, hb2⟩
      have x1_2 := hb2
      have x0_2 : Ext _ w2 := x0_1.trans (Ext.trans (b := _) (by (repeat' (first | (with_reducible exact Ext.refl _) | (with_reducible assumption) | (with_reducible refine Ext.alloc ?_ _) | (with_reducible refine Ext.drewN ?_ _) | (with_reducible refine Ext.drew ?_) | (with_reducible refine Ext.setCell ?_ ?_ _) | (with_reducible exact Nat.le_refl _) | (with_reducible exact Nat.le_succ _) | (with_reducible refine Ext.trans ?_ (by assumption)) | (simp; done) | (simp; omega)))) hb2)
      obtain ⟨hc0_2, hf0_2⟩ := bcell x0_2.below
      have z0_2_0 : w.heap.size < w2.heap.size := by have h := x0_2.size; simp at h; omega
      go_wp2
      go_ret
      exact ⟨rfl, Ext.trans ((Ext.refl w).alloc _) x0_2⟩
    obtain ⟨hls2, hlts, _⟩ := szTrains_bounds (l := z) hz0 hzle hsz2
    rw [← hln] at hls2
    have HLN := Lib.hid hln; clear hln
    have HLT := Lib.hid hlts; clear hlts
    obtain ⟨y, hy⟩ : ∃ y, szTrains z ls = y := ⟨_, rfl⟩
    rw [hy] at hsz2
    have HY := Lib.hid hy; clear hy
    have d1 : decide (y < 0) = false := by simpa using hsz2
    obtain ⟨R, hR⟩ : ∃ R, fits x0 x1 ls = R := ⟨_, rfl⟩
    have HRR := Lib.hid hR; clear hR
    go_enter Try.func14, Try.ntmps14
    go_wp2_with fail
    (with_reducible refine (szLock_any z _ _ _ _ _ _ _ _ _ _ _ _ ts _ HN.out HS.out (by decide) (by decide) _ (HF.out.ext (by (repeat' (first | (with_reducible exact Ext.refl _) | (with_reducible assumption) | (with_reducible refine Ext.alloc ?_ _) | (with_reducible refine Ext.drewN ?_ _) | (with_reducible refine Ext.drew ?_) | (with_reducible refine Ext.setCell ?_ ?_ _) | (with_reducible exact Nat.le_refl _) | (with_reducible exact Nat.le_succ _) | (with_reducible refine Ext.trans ?_ (by assumption)) | (simp; done) | (simp; omega))))) HZ.out).mono ?_); rintro e w1 ⟨rfl, hb1⟩
    have x0_1 := hb1
    obtain ⟨hc0_1, hf0_1⟩ := bcell x0_1.below
    have z0_1_0 : w.heap.size < w1.heap.size := by have h := x0_1.size; simp at h; omega
    go_wp2_with fail
    (with_reducible refine (HY.out ▸ szTrainS_any _ _ _ ls _ HLN.out HLS.out hz0 hzle _ (HLF.out.ext (Ext.trans ((Ext.refl w).alloc _) x0_1))).mono ?_); rintro e w2 ⟨rfl, hb2⟩
    have x1_2 := hb2
    have x0_2 : Ext _ w2 := x0_1.trans (Ext.trans (b := _) (by (repeat' (first | (with_reducible exact Ext.refl _) | (with_reducible assumption) | (with_reducible refine Ext.alloc ?_ _) | (with_reducible refine Ext.drewN ?_ _) | (with_reducible refine Ext.drew ?_) | (with_reducible refine Ext.setCell ?_ ?_ _) | (with_reducible exact Nat.le_refl _) | (with_reducible exact Nat.le_succ _) | (with_reducible refine Ext.trans ?_ (by assumption)) | (simp; done) | (simp; omega)))) hb2)
    obtain ⟨hc0_2, hf0_2⟩ := bcell x0_2.below
    have z0_2_0 : w.heap.size < w2.heap.size := by have h := x0_2.size; simp at h; omega
    go_wp2_with fail
    (with_reducible refine (toLock_any _ _ _ _ _ _ _ _ _ _ _ _ ts _ HN.out hs2 HT.out (HF.out.ext (Ext.trans ((Ext.refl w).alloc _) x0_2))).mono ?_); rintro e w3 ⟨a3, rfl, ho3, hb3⟩
    have x2_3 := hb3
    have x0_3 : Ext _ w3 := x0_2.trans (Ext.trans (b := _) (by (repeat' (first | (with_reducible exact Ext.refl _) | (with_reducible assumption) | (with_reducible refine Ext.alloc ?_ _) | (with_reducible refine Ext.drewN ?_ _) | (with_reducible refine Ext.drew ?_) | (with_reducible refine Ext.setCell ?_ ?_ _) | (with_reducible exact Nat.le_refl _) | (with_reducible exact Nat.le_succ _) | (with_reducible refine Ext.trans ?_ (by assumption)) | (simp; done) | (simp; omega)))) hb3)
    obtain ⟨hc0_3, hf0_3⟩ := bcell x0_3.below
    have z0_3_0 : w.heap.size < w3.heap.size := by have h := x0_3.size; simp at h; omega
    go_wp2_with fail
    (with_reducible refine (toTrainS_ex _ _ _ ls _ HLN.out hls2 HLT.out (HLF.out.ext (Ext.trans ((Ext.refl w).alloc _) x0_3))).mono ?_); rintro e w4 ⟨a4, rfl, ho4, hb4⟩
    have x3_4 := hb4
    have x0_4 : Ext _ w4 := x0_3.trans (Ext.trans (b := _) (by (repeat' (first | (with_reducible exact Ext.refl _) | (with_reducible assumption) | (with_reducible refine Ext.alloc ?_ _) | (with_reducible refine Ext.drewN ?_ _) | (with_reducible refine Ext.drew ?_) | (with_reducible refine Ext.setCell ?_ ?_ _) | (with_reducible exact Nat.le_refl _) | (with_reducible exact Nat.le_succ _) | (with_reducible refine Ext.trans ?_ (by assumption)) | (simp; done) | (simp; omega)))) hb4)
    obtain ⟨hc0_4, hf0_4⟩ := bcell x0_4.below
    have z0_4_0 : w.heap.size < w4.heap.size := by have h := x0_4.size; simp at h; omega
    go_wp2_with fail
    (with_reducible refine (specFits_any R _ _ _ _ _ _ _ _ _ _ _ _ _ _ _ ls _ HLN.out hls2 HLT.out ho4.trains HRR.out HI0.out HI1.out).mono ?_); rintro e w5 ⟨rfl, hb5⟩
    have x4_5 := hb5
    have x0_5 : Ext _ w5 := x0_4.trans (Ext.trans (b := _) (by (repeat' (first | (with_reducible exact Ext.refl _) | (with_reducible assumption) | (with_reducible refine Ext.alloc ?_ _) | (with_reducible refine Ext.drewN ?_ _) | (with_reducible refine Ext.drew ?_) | (with_reducible refine Ext.setCell ?_ ?_ _) | (with_reducible exact Nat.le_refl _) | (with_reducible exact Nat.le_succ _) | (with_reducible refine Ext.trans ?_ (by assumption)) | (simp; done) | (simp; omega)))) hb5)
    obtain ⟨hc0_5, hf0_5⟩ := bcell x0_5.below
    have z0_5_0 : w.heap.size < w5.heap.size := by have h := x0_5.size; simp at h; omega
    go_wp2_with fail
    (with_reducible refine (toLock_any _ _ _ _ _ _ _ _ _ _ _ _ ts _ HN.out hs2 HT.out (HF.out.ext (Ext.trans ((Ext.refl w).alloc _) x0_5))).mono ?_); rintro e w6 ⟨a6, rfl, ho6, hb6⟩
    have x5_6 := hb6
    have x0_6 : Ext _ w6 := x0_5.trans (Ext.trans (b := _) (by (repeat' (first | (with_reducible exact Ext.refl _) | (with_reducible assumption) | (with_reducible refine Ext.alloc ?_ _) | (with_reducible refine Ext.drewN ?_ _) | (with_reducible refine Ext.drew ?_) | (with_reducible refine Ext.setCell ?_ ?_ _) | (with_reducible exact Nat.le_refl _) | (with_reducible exact Nat.le_succ _) | (with_reducible refine Ext.trans ?_ (by assumption)) | (simp; done) | (simp; omega)))) hb6)
    obtain ⟨hc0_6, hf0_6⟩ := bcell x0_6.below
    have z0_6_0 : w.heap.size < w6.heap.size := by have h := x0_6.size; simp at h; omega
    go_wp2_with fail
    (with_reducible refine (toTrainS_ex _ _ _ ls _ HLN.out hls2 HLT.out (HLF.out.ext ((Ext.trans ((Ext.refl w).alloc _) x0_6).alloc _))).mono ?_); rintro e w7 ⟨a7, rfl, ho7, hb7⟩
    have x6_7 := hb7
    have x0_7 : Ext _ w7 := x0_6.trans (Ext.trans (b := _) (by (repeat' (first | (with_reducible exact Ext.refl _) | (with_reducible assumption) | (with_reducible refine Ext.alloc ?_ _) | (with_reducible refine Ext.drewN ?_ _) | (with_reducible refine Ext.drew ?_) | (with_reducible refine Ext.setCell ?_ ?_ _) | (with_reducible exact Nat.le_refl _) | (with_reducible exact Nat.le_succ _) | (with_reducible refine Ext.trans ?_ (by assumption)) | (simp; done) | (simp; omega)))) hb7)
    obtain ⟨hc0_7, hf0_7⟩ := bcell x0_7.below
    have z0_7_0 : w.heap.size < w7.heap.size := by have h := x0_7.size; simp at h; omega
    obtain ⟨hc6_7, hf6_7⟩ := bcell x6_7.below
    have z6_7_0 : w6.heap.size < w7.heap.size := by have h := x6_7.size; simp at h; omega
    go_wp2_with fail
    (with_reducible refine (implFits_any R _ _ _ _ _ _ _ _ _ _ _ _ _ _ _ ls _ HLN.out hls2 HLT.out ho7.trains HRR.out HI0.out HI1.out).mono ?_); rintro e w8 ⟨rfl, hb8⟩
    have x7_8 := hb8
    have x0_8 : Ext _ w8 := x0_7.trans (Ext.trans (b := _) (by (repeat' (first | (with_reducible exact Ext.refl _) | (with_reducible assumption) | (with_reducible refine Ext.alloc ?_ _) | (with_reducible refine Ext.drewN ?_ _) | (with_reducible refine Ext.drew ?_) | (with_reducible refine Ext.setCell ?_ ?_ _) | (with_reducible exact Nat.le_refl _) | (with_reducible exact Nat.le_succ _) | (with_reducible refine Ext.trans ?_ (by assumption)) | (simp; done) | (simp; omega)))) hb8)
    obtain ⟨hc0_8, hf0_8⟩ := bcell x0_8.below
    have z0_8_0 : w.heap.size < w8.heap.size := by have h := x0_8.size; simp at h; omega
    have x6_8 : Ext _ w8 := x6_7.trans (Ext.trans (b := _) (by (repeat' (first | (with_reducible exact Ext.refl _) | (with_reducible assumption) | (with_reducible refine Ext.alloc ?_ _) | (with_reducible refine Ext.drewN ?_ _) | (with_reducible refine Ext.drew ?_) | (with_reducible refine Ext.setCell ?_ ?_ _) | (with_reducible exact Nat.le_refl _) | (with_reducible exact Nat.le_succ _) | (with_reducible refine Ext.trans ?_ (by assumption)) | (simp; done) | (simp; omega)))) hb8)
    obtain ⟨hc6_8, hf6_8⟩ := bcell x6_8.below
    have z6_8_0 : w6.heap.size < w8.heap.size := by have h := x6_8.size; simp at h; omega
    go_wp2_with fail
    have t1 := (RowAt.new w 72 #[.int .i64 x0, .int .i64 x1, .int .i64 x2, .int .i64 x3, .int .i64 x4, .int .i64 x5, .int .i64 x6, .int .i64 x7, .int .i64 x8, .slice a n c]).ext x0_8
    have t5 := (RowAt.new w6 60 #[.int .i64 x0, .int .i64 x1, .int .i64 x2, .int .i64 x3, .int .i64 x4, .int .i64 x5, .int .i64 x6, .int .i64 x7, .int .i64 x8, .slice (some a6) n n]).ext x6_8
    have tA0 : w8.cell? ⟨w.heap.size, 0, none⟩ = some (.int .i64 x0) := t1.cell rfl
    have tA1 : w8.cell? ⟨w.heap.size, 1, none⟩ = some (.int .i64 x1) := t1.cell rfl
    have tA2 : w8.cell? ⟨w.heap.size, 2, none⟩ = some (.int .i64 x2) := t1.cell rfl
    have tA3 : w8.cell? ⟨w.heap.size, 3, none⟩ = some (.int .i64 x3) := t1.cell rfl
    have tA4 : w8.cell? ⟨w.heap.size, 4, none⟩ = some (.int .i64 x4) := t1.cell rfl
    have tA5 : w8.cell? ⟨w.heap.size, 5, none⟩ = some (.int .i64 x5) := t1.cell rfl
    have tA6 : w8.cell? ⟨w.heap.size, 6, none⟩ = some (.int .i64 x6) := t1.cell rfl
    have tA7 : w8.cell? ⟨w.heap.size, 7, none⟩ = some (.int .i64 x7) := t1.cell rfl
    have tA8 : w8.cell? ⟨w.heap.size, 8, none⟩ = some (.int .i64 x8) := t1.cell rfl
    have tA9 : w8.cell? ⟨w.heap.size, 9, none⟩ = some (.slice a n c) := t1.cell rfl
    have tB0 : w8.cell? ⟨w6.heap.size, 0, none⟩ = some (.int .i64 x0) := t5.cell rfl
    have tB1 : w8.cell? ⟨w6.heap.size, 1, none⟩ = some (.int .i64 x1) := t5.cell rfl
    have tB2 : w8.cell? ⟨w6.heap.size, 2, none⟩ = some (.int .i64 x2) := t5.cell rfl
    have tB3 : w8.cell? ⟨w6.heap.size, 3, none⟩ = some (.int .i64 x3) := t5.cell rfl
    have tB4 : w8.cell? ⟨w6.heap.size, 4, none⟩ = some (.int .i64 x4) := t5.cell rfl
    have tB5 : w8.cell? ⟨w6.heap.size, 5, none⟩ = some (.int .i64 x5) := t5.cell rfl
    have tB6 : w8.cell? ⟨w6.heap.size, 6, none⟩ = some (.int .i64 x6) := t5.cell rfl
    have tB7 : w8.cell? ⟨w6.heap.size, 7, none⟩ = some (.int .i64 x7) := t5.cell rfl
    have tB8 : w8.cell? ⟨w6.heap.size, 8, none⟩ = some (.int .i64 x8) := t5.cell rfl
    have tB9 : w8.cell? ⟨w6.heap.size, 9, none⟩ = some (.slice (some a6) n n) := t5.cell rfl
    have hw8 : Ext w w8 := Ext.trans ((Ext.refl w).alloc _) x0_8
    have OK := Lib.hid (ho6.trains.ext (Ext.trans ((Ext.refl w6).alloc _) x6_8))
    have OL := Lib.hid (ho7.trains.ext hb8)
    have hS := Ext.refl w8
    clear ho3 ho4 ho6 ho7 hb1 hb2 hb3 hb4 hb5 hb6 hb7 hb8 x0_1 x0_2 x0_3 x0_4 x0_5 x0_6 x0_7 x0_8 x1_2 x2_3 x3_4 x4_5 x5_6 x6_7 x6_8 x7_8 hc0_1 hc0_2 hc0_3 hc0_4 hc0_5 hc0_6 hc0_7 hc0_8 hc6_7 hc6_8 hf0_1 hf0_2 hf0_3 hf0_4 hf0_5 hf0_6 hf0_7 hf0_8 hf6_7 hf6_8 t1 t5
    go_region_held3 (fun w' => Ext w8 w' ∧ w'.cell? ⟨w.heap.size, 0, none⟩ = some (.int .i64 x0) ∧ w'.cell? ⟨w.heap.size, 1, none⟩ = some (.int .i64 x1) ∧ w'.cell? ⟨w.heap.size, 2, none⟩ = some (.int .i64 x2) ∧ w'.cell? ⟨w.heap.size, 3, none⟩ = some (.int .i64 x3) ∧ w'.cell? ⟨w.heap.size, 4, none⟩ = some (.int .i64 x4) ∧ w'.cell? ⟨w.heap.size, 5, none⟩ = some (.int .i64 x5) ∧ w'.cell? ⟨w.heap.size, 6, none⟩ = some (.int .i64 x6) ∧ w'.cell? ⟨w.heap.size, 7, none⟩ = some (.int .i64 x7) ∧ w'.cell? ⟨w.heap.size, 8, none⟩ = some (.int .i64 x8) ∧ w'.cell? ⟨w.heap.size, 9, none⟩ = some (.slice a n c) ∧ w'.cell? ⟨w6.heap.size, 0, none⟩ = some (.int .i64 x0) ∧ w'.cell? ⟨w6.heap.size, 1, none⟩ = some (.int .i64 x1) ∧ w'.cell? ⟨w6.heap.size, 2, none⟩ = some (.int .i64 x2) ∧ w'.cell? ⟨w6.heap.size, 3, none⟩ = some (.int .i64 x3) ∧ w'.cell? ⟨w6.heap.size, 4, none⟩ = some (.int .i64 x4) ∧ w'.cell? ⟨w6.heap.size, 5, none⟩ = some (.int .i64 x5) ∧ w'.cell? ⟨w6.heap.size, 6, none⟩ = some (.int .i64 x6) ∧ w'.cell? ⟨w6.heap.size, 7, none⟩ = some (.int .i64 x7) ∧ w'.cell? ⟨w6.heap.size, 8, none⟩ = some (.int .i64 x8) ∧ w'.cell? ⟨w6.heap.size, 9, none⟩ = some (.slice (some a6) n n))
      ((repeat' (refine And.intro ?_ ?_)) <;> (first | (exact Ext.cell (w := w8) (by (repeat' (first | (with_reducible exact Ext.refl _) | (with_reducible assumption) | (with_reducible refine Ext.alloc ?_ _) | (with_reducible refine Ext.drewN ?_ _) | (with_reducible refine Ext.drew ?_) | (with_reducible refine Ext.setCell ?_ ?_ _) | (with_reducible exact Nat.le_refl _) | (with_reducible exact Nat.le_succ _) | (with_reducible refine Ext.trans ?_ (by assumption)) | (simp; done) | (simp; omega)))) (by (with_reducible assumption))) | ((repeat' (first | (with_reducible exact Ext.refl _) | (with_reducible assumption) | (with_reducible refine Ext.alloc ?_ _) | (with_reducible refine Ext.drewN ?_ _) | (with_reducible refine Ext.drew ?_) | (with_reducible refine Ext.setCell ?_ ?_ _) | (with_reducible exact Nat.le_refl _) | (with_reducible exact Nat.le_succ _) | (with_reducible refine Ext.trans ?_ (by assumption)) | (simp; done) | (simp; omega))); done)))
      (first
        | (go_at_call 53; refine (toLock_any _ _ _ _ _ _ _ _ _ _ _ _ ts _ HN.out hs2 HT.out (HF.out.ext (hw8.trans (by (repeat' (first | (with_reducible exact Ext.refl _) | (with_reducible assumption) | (with_reducible refine Ext.alloc ?_ _) | (with_reducible refine Ext.drewN ?_ _) | (with_reducible refine Ext.drew ?_) | (with_reducible refine Ext.setCell ?_ ?_ _) | (with_reducible exact Nat.le_refl _) | (with_reducible exact Nat.le_succ _) | (with_reducible refine Ext.trans ?_ (by assumption)) | (simp; done) | (simp; omega))))))).mono ?_; rintro e w' ⟨a6', rfl, ho6, hb6⟩)
        | (go_at_call 55; refine (eqLock_same _ _ _ _ _ _ _ _ _ _ _ _ _ _ ts _ HN.out HS.out (OK.out.ext (by (repeat' (first | (with_reducible exact Ext.refl _) | (with_reducible assumption) | (with_reducible refine Ext.alloc ?_ _) | (with_reducible refine Ext.drewN ?_ _) | (with_reducible refine Ext.drew ?_) | (with_reducible refine Ext.setCell ?_ ?_ _) | (with_reducible exact Nat.le_refl _) | (with_reducible exact Nat.le_succ _) | (with_reducible refine Ext.trans ?_ (by assumption)) | (simp; done) | (simp; omega))))) ho6.trains).mono ?_; rintro e w' ⟨rfl, hb7⟩))
    obtain ⟨w9, hw9e⟩ : ∃ x, x = w' := ⟨_, rfl⟩
    subst hw9e
    have hx9 : Ext w8 w9 := by (repeat' (first | (with_reducible exact Ext.refl _) | (with_reducible assumption) | (with_reducible refine Ext.alloc ?_ _) | (with_reducible refine Ext.drewN ?_ _) | (with_reducible refine Ext.drew ?_) | (with_reducible refine Ext.setCell ?_ ?_ _) | (with_reducible exact Nat.le_refl _) | (with_reducible exact Nat.le_succ _) | (with_reducible refine Ext.trans ?_ (by assumption)) | (simp; done) | (simp; omega)))
    have HX9 := Lib.hid hx9
    have HW9 := Lib.hid (hw8.trans hx9)
    clear ho6 hb6 hb7 hS hx9
    go_wp2_with fail
    with_reducible refine (toTrainS_ex _ _ _ ls _ HLN.out hls2 HLT.out (HLF.out.ext HW9.out)).mono ?_
    rintro e w10 ⟨a10, rfl, ho10, hb10⟩
    have HO10 := Lib.hid ho10.trains; clear ho10
    go_wp2_with fail
    with_reducible refine (eqTrainS_same _ _ _ _ _ ls _ HLN.out HLS.out (OL.out.ext (HX9.out.trans hb10)) HO10.out).mono ?_
    rintro e w11 ⟨rfl, hb11⟩
    have hx := HW9.out.trans (hb10.trans hb11)
    go_wp2
    go_ret
    exact ⟨rfl, hx⟩

theorem own : ownKnob Try.prog.godebug = none := by kernel_rfl
theorem laidOut : laidOutB Try.prog = true := Head.laidOut

set_option maxRecDepth 100000 in
theorem contract (H : Type) (enc : TypeId × Value → H) (W : World) (base : Nat) (args : Array Value) (ds gs : List (DataW H)) (before : List MemPlace)
    (hval : ∀ (j : Nat) t v, Try.f14.params[j]? = some t → args[j]? = some v → Value.okWide Try.prog W .any base t v)
    (hW : DataW.Whole enc Try.prog Try.f14.params.toList Rows.fnExactFitsChamberSpec.vars false W args.toList ds gs before) :
    Calls Try.prog 14 args W fun e W' => ∃ v, e = .returned v ∧ Rows.fnExactFitsChamberSpec.post enc Try.prog Try.f14 false true false false W args v W' := by
  have hW' := hW
  obtain ⟨p, q, hA0, hV, rfl, hfz, hnd⟩ := hW
  have hA : DataW.TrodAll enc Try.prog W 0 (fun _ => true) true Try.f14.params.toList args.toList ds p := hA0
  rw [Try.params14] at hA hval
  obtain ⟨v0, vs0, d0, ds0, p0, q0, hargs, rfl, rfl, h0, r0⟩ := trodAll_cons hA
  obtain ⟨v1, vs1, d1, ds1, p1, q1, rfl, rfl, rfl, h1, r1⟩ := trodAll_cons r0
  obtain ⟨rfl, rfl, rfl⟩ := trodAll_nil r1
  obtain rfl : args = #[v0, v1] := by cases args; simp_all
  obtain ⟨rfl, rfl⟩ := trodVars_none hV
  have hv0 := hval 0 72 v0 rfl rfl
  have hv1 := hval 1 70 v1 rfl rfl
  clear hA0 hA
  obtain ⟨x0, x1, x2, x3, x4, x5, x6, x7, x8, ts, a, c, rfl, hmax, hts, wi0, wi1⟩ := open_lock hv0 h0
  obtain ⟨ls, la, lc, rfl, hlmax, hlts⟩ := open_trains_arg hv1 h1
  refine (walk x0 x1 x2 x3 x4 x5 x6 x7 x8 a _ c ts la _ lc ls W rfl hmax hts rfl hlmax hlts wi0 wi1).mono fun e W' ⟨he, hb⟩ => ?_
  subst he
  exact ⟨_, rfl, law_post laidOut rfl (by kernel_rfl) rfl Try.underlying4 hW' rfl rfl rfl hb.below⟩

set_option maxRecDepth 100000 in
theorem lifted (os : Os) (started : os.Started) (H : Type) (enc : TypeId × Value → H) :
    ReturnsInHanded {} Try.checked os 14 .any (Rows.fnExactFitsChamberSpec.pre6 enc Try.prog Try.f14 Rows.fnExactFitsChamberRow.domain false) (Rows.fnExactFitsChamberSpec.post enc Try.prog Try.f14 false true false false) := by
  refine returnsInHanded_of_change (C := Try.checked) own started (by kernel_rfl) Try.func14
    (ChangeSpec.witness6 (enc := enc) (C := Try.checked) false ⟨#[], #[.agg #[.int .i64 0, .int .i64 0, .int .i64 0, .int .i64 0, .int .i64 0, .int .i64 0, .int .i64 0, .int .i64 0, .int .i64 0, .slice none 0 0], .slice none 0 0], []⟩ 8 (by kernel_rfl) (by kernel_rfl) (by kernel_rfl) (by kernel_rfl)) ?_
  intro W base args ds gs before hval hW _ _
  exact contract H enc W base args ds gs before hval hW

theorem closed : joinedFacts Try.prog 14 Try.f14 Rows.fnExactFitsChamberSpec Rows.fnExactFitsChamberRow = true := by
  unfold joinedFacts
  rw [Head.laidOut, Head.mapsRowed, Head.stopsHeard, Head.mayEnter, Head.liftsFinal, Head.make, Head.plainKeys]
  kernel_rfl
theorem proved : Rows.FnExactFitsChamberSaid :=
  OpenClaim.holds_of_wide 14 Try.f14 rfl rfl rfl rfl rfl rfl rfl ⟨rfl, rfl, rfl, rfl, rfl⟩ rfl rfl rfl rfl rfl (by kernel_rfl) Try.func14 closed
    (of_decide_eq_true (by kernel_rfl)) (by unfold Func.isWrapper; first | (rw [if_pos (by decide +kernel)]; kernel_rfl) | (rw [if_neg (by decide +kernel)]; exact ⟨rfl, rfl⟩))
    (fun os started H enc _ => lifted os started H enc)
end Go.Proofs.Ytmcmialaofckkaa.lawFitsChamber
