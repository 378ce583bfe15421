/- FnLockage: the walk of the law. -/
import Derived.Test.YtmppoflgbmabpaaProg
import Derived.Test.YtmppoflgbmabpaaLockP
import Derived.Test.YtmppoflgbmabpaaNewR
import Derived.Test.YtmppoflgbmabpaaM5
namespace Go.Proofs.Ytmppoflgbmabpaa
open Go.RowKit
set_option linter.unusedSimpArgs false
set_option linter.unusedVariables false

theorem implNew_is (v : Int) (d : Nat) (hd : d ≤ 2) (a : Option Addr) (n c : Nat) (ps : List Pt) (x : Int) (w : World) (hn : n = ps.length) (hs : n ≤ 1048576) (hc : a = none → c = 0 ∧ n = 0) (hf : FlatAt w ptCells 2 a ps) (hx : -9223372036854775808 ≤ x ∧ x ≤ 9223372036854775807) (ht : tableOk ps = true) (hv : valueAt ps x = v) :
    Calls Try.prog 8 #[.slice a n c, .int .i64 x, .int .i64 d] w fun e w' => ∃ ta tc pa pc, e = .returned (.tuple #[.agg #[.slice ta n tc, .int .i64 v, .slice pa d pc], .bool true]) ∧ PtOwn w' w.heap.size w'.heap.size (.slice ta n tc) ps ∧ IntOwn w' w.heap.size w'.heap.size (.slice pa d pc) (List.replicate d 0) ∧ Ext w w' := by
  subst hv
  exact implNewReach_any d hd a n c ps x w hn hs hc hf hx ht

theorem implNew0_is (v : Int) (a : Option Addr) (n c : Nat) (ps : List Pt) (x : Int) (w : World) (hn : n = ps.length) (hs : n ≤ 1048576) (hc : a = none → c = 0 ∧ n = 0) (hf : FlatAt w ptCells 2 a ps) (hx : -9223372036854775808 ≤ x ∧ x ≤ 9223372036854775807) (ht : tableOk ps = true) (hv : valueAt ps x = v) :
    Calls Try.prog 8 #[.slice a n c, .int .i64 x, .int .i64 0] w fun e w' => ∃ ta tc pa pc, e = .returned (.tuple #[.agg #[.slice ta n tc, .int .i64 v, .slice pa 0 pc], .bool true]) ∧ PtOwn w' w.heap.size w'.heap.size (.slice ta n tc) ps ∧ IntOwn w' w.heap.size w'.heap.size (.slice pa 0 pc) [] ∧ Ext w w' := by
  subst hv
  exact implNewReach_any 0 (by decide) a n c ps x w hn hs hc hf hx ht

set_option maxRecDepth 100000 in
set_option maxHeartbeats 20000000 in
theorem lockage_any (a : Option Addr) (n c : Nat) (bs : List Int) (w : World) (hn : n = bs.length) (hs : n ≤ maxLen) (hf : BytesAt w a bs) :
    Calls Try.prog 3 #[.slice a n c] w fun e w' => e = .returned (.bool true) ∧ Ext w w' := by
  have HS := Lib.hid hs
  have HF := Lib.hid hf; clear hf
  have HN := Lib.hid hn; clear hn
  by_cases hsz : (1048576 : Int) < n
  · have hd : decide ((1048576 : Int) < n) = true := by simpa using hsz
    go_enter Try.func3, Try.ntmps3
    go_wp2_with ((go_at_call 5; refine (big_any _ _ _ _ HS.out).mono ?_; rintro e w' ⟨rfl, rfl⟩))
    go_ret
    exact ⟨rfl, by (repeat' (first | (with_reducible exact Ext.refl _) | (with_reducible assumption) | (with_reducible refine Ext.alloc ?_ _) | (with_reducible refine Ext.drewN ?_ _) | (with_reducible refine Ext.drew ?_) | (with_reducible refine Ext.setCell ?_ ?_ _) | (with_reducible exact Nat.le_refl _) | (with_reducible exact Nat.le_succ _) | (with_reducible refine Ext.trans ?_ (by assumption)) | (simp; done) | (simp; omega)))⟩
  have hs2 : n ≤ 1048576 := by omega
  have hd : decide ((1048576 : Int) < n) = false := by simpa using hsz
  go_enter Try.func3, Try.ntmps3
  go_wp2_with fail
  refine (big_any _ _ _ _ HS.out).mono ?_
  rintro e w1 ⟨rfl, rfl⟩
  go_wp2_with fail
  refine (DrawLock_any _ _ _ bs _ HN.out hs2 HF.out).mono ?_
  rintro e w2 ⟨x0, x1, x2, x3, x4, x5, x6, x7, x8, a1, n1, c1, lo1, hi1, es, ts, a2, n2, c2, lo2, es2, qs, K, hlk, hins, hn1, hq, hn2, hl1, hl2, hl3, rfl, hg1, hg2, hx2⟩
  have HX2 := Lib.hid hx2
  have HLK := Lib.hid hlk
  have HDI := Lib.hid (fits_distL hins.1)
  have HTS := Lib.hid hins.small
  have hn8 : n1 ≤ 8 := by have := hins.2.1; omega
  have HOT0 := Lib.hid (show OwnTrains w2 lo1 hi1 a1 ts from by
    obtain ⟨a', c', e', _, h'⟩ := hg1.own
    injection e' with e1 _ _
    rw [e1]
    exact h')
  have HN1 := Lib.hid hn1; clear hn1
  have hz2 := hx2.size
  clear hlk hins hq hn2 hg1 hg2 hx2
  go_wp2_with fail
  refine (at_any _ _ _ bs 3 _ HN.out hs2 (by decide) (by decide) (HF.out.ext (HX2.out.trans (by (repeat' (first | (with_reducible exact Ext.refl _) | (with_reducible assumption) | (with_reducible refine Ext.alloc ?_ _) | (with_reducible refine Ext.drewN ?_ _) | (with_reducible refine Ext.drew ?_) | (with_reducible refine Ext.setCell ?_ ?_ _) | (with_reducible exact Nat.le_refl _) | (with_reducible exact Nat.le_succ _) | (with_reducible refine Ext.trans ?_ (by assumption)) | (simp; done) | (simp; omega))))))).mono ?_
  rintro e w3 ⟨z3, hz30, hz31, rfl, rfl⟩
  go_wp2_with fail
  refine (at_any _ _ _ bs 0 _ HN.out hs2 (by decide) (by decide) (HF.out.ext (HX2.out.trans (by (repeat' (first | (with_reducible exact Ext.refl _) | (with_reducible assumption) | (with_reducible refine Ext.alloc ?_ _) | (with_reducible refine Ext.drewN ?_ _) | (with_reducible refine Ext.drew ?_) | (with_reducible refine Ext.setCell ?_ ?_ _) | (with_reducible exact Nat.le_refl _) | (with_reducible exact Nat.le_succ _) | (with_reducible refine Ext.trans ?_ (by assumption)) | (simp; done) | (simp; omega))))))).mono ?_
  rintro e w3 ⟨z0, hz00, hz01, rfl, rfl⟩
  go_wp2_with fail
  refine (at_any _ _ _ bs 1 _ HN.out hs2 (by decide) (by decide) (HF.out.ext (HX2.out.trans (by (repeat' (first | (with_reducible exact Ext.refl _) | (with_reducible assumption) | (with_reducible refine Ext.alloc ?_ _) | (with_reducible refine Ext.drewN ?_ _) | (with_reducible refine Ext.drew ?_) | (with_reducible refine Ext.setCell ?_ ?_ _) | (with_reducible exact Nat.le_refl _) | (with_reducible exact Nat.le_succ _) | (with_reducible refine Ext.trans ?_ (by assumption)) | (simp; done) | (simp; omega))))))).mono ?_
  rintro e w3 ⟨z1, hz10, hz11, rfl, rfl⟩
  go_wp2_with fail
  clear hl1
  obtain ⟨B, hB⟩ : ∃ B, z3 % 30 = B := ⟨_, rfl⟩
  obtain ⟨d, hd2, hdz⟩ : ∃ d : Nat, d ≤ 2 ∧ z1 % 3 = (d : Int) := ⟨(z1 % 3).toNat, by omega, by omega⟩
  obtain ⟨v0, hv0⟩ : ∃ v, valueAt tabL (100 + z0) = v := ⟨_, rfl⟩
  have hv0' : v0 = 1000 * (100 + z0) := by rw [← hv0]; exact valueAt_L (by omega) (by omega)
  rw [hB, hdz]
  have HL := Lib.hid (show LkL x0 x1 x2 x3 B x5 x6 ts from ⟨HLK.out.h0, HLK.out.h1, HLK.out.h2, HLK.out.h3, by omega, HLK.out.h5, HLK.out.h6, HDI.out⟩)
  have HV0 := Lib.hid hv0; have HVP := Lib.hid hv0'; have hv0b : 100000 ≤ v0 ∧ v0 ≤ 355000 := by omega
  have h7 := HLK.out.h7
  clear hB hdz hv0 hv0' HDI
  have QL := Lib.hid ((RowAt.new w2 26 #[.int .i64 x0, .int .i64 x1, .int .i64 x2, .int .i64 x3, .int .i64 B, .int .i64 x5, .int .i64 x6, .int .i64 x7, .int .i64 0, .slice a1 n1 c1]).ext ((Ext.refl _).alloc (.cells #[.int .i64 0, .int .i64 0, .int .i64 500, .int .i64 500000] 37)))
  have QT := Lib.hid ((RowAt.new (w2.alloc (.cells #[.int .i64 x0, .int .i64 x1, .int .i64 x2, .int .i64 x3, .int .i64 B, .int .i64 x5, .int .i64 x6, .int .i64 x7, .int .i64 0, .slice a1 n1 c1] 26)) 37 #[.int .i64 0, .int .i64 0, .int .i64 500, .int .i64 500000]).ext (Ext.refl _))
  simp only [World.size_alloc] at QT
  have hal := (((Ext.refl w2).alloc (.cells #[.int .i64 x0, .int .i64 x1, .int .i64 x2, .int .i64 x3, .int .i64 B, .int .i64 x5, .int .i64 x6, .int .i64 x7, .int .i64 0, .slice a1 n1 c1] 26)).alloc (.cells #[.int .i64 0, .int .i64 0, .int .i64 500, .int .i64 500000] 37))
  obtain ⟨bL, hbL⟩ : ∃ x, x = w2.heap.size := ⟨_, rfl⟩
  obtain ⟨w3, hw3⟩ : ∃ x, x = ((w2.alloc (.cells #[.int .i64 x0, .int .i64 x1, .int .i64 x2, .int .i64 x3, .int .i64 B, .int .i64 x5, .int .i64 x6, .int .i64 x7, .int .i64 0, .slice a1 n1 c1] 26)).alloc (.cells #[.int .i64 0, .int .i64 0, .int .i64 500, .int .i64 500000] 37)) := ⟨_, rfl⟩
  have sL : w3.heap.size = bL + 1 + 1 := by rw [hw3, hbL]; simp
  have mL : w2.heap.size ≤ bL := Nat.le_of_eq hbL.symm; have nL : bL ≤ w2.heap.size := Nat.le_of_eq hbL
  rw [← hbL] at QL QT
  rw [← hw3] at QL QT hal
  (try simp only [World.size_alloc])
  (try rw [← hw3])
  (try rw [← hbL])
  clear hw3 hbL
  replace HX2 := Lib.hid (HX2.out.trans hal)
  replace HOT0 := Lib.hid (HOT0.out.ext hal)
  have zz3 := hal.size
  clear hal
  have KL := QL; clear QL
  have KT := QT; clear QT
  with_reducible refine (implNew_is v0 d hd2 _ 2 2 tabL _ _ rfl (by decide) (fun h => by cases h) (tabL_at KT.out) (by omega) tabL_ok HV0.out).mono ?_
  rintro e w4 ⟨ta, tc, pa, pc, rfl, hpt, hpi, hb⟩
  have OP := Lib.hid hpt; have OI := Lib.hid hpi; clear hpt hpi
  replace HX2 := Lib.hid (HX2.out.trans hb)
  replace KL := Lib.hid (KL.out.ext hb)
  replace KT := Lib.hid (KT.out.ext hb)
  replace HOT0 := Lib.hid (HOT0.out.ext hb)
  have zz4 := hb.size
  clear hb
  have zA := zz4
  clear KT
  go_wp2_with fail
  refine (at_any _ _ _ bs 2 _ HN.out hs2 (by decide) (by decide) (HF.out.ext (HX2.out.trans (by (repeat' (first | (with_reducible exact Ext.refl _) | (with_reducible assumption) | (with_reducible refine Ext.alloc ?_ _) | (with_reducible refine Ext.drewN ?_ _) | (with_reducible refine Ext.drew ?_) | (with_reducible refine Ext.setCell ?_ ?_ _) | (with_reducible exact Nat.le_refl _) | (with_reducible exact Nat.le_succ _) | (with_reducible refine Ext.trans ?_ (by assumption)) | (simp; done) | (simp; omega))))))).mono ?_
  rintro e w' ⟨z2, hz20, hz21, rfl, rfl⟩
  go_wp2_with fail
  obtain ⟨vq0, hvq⟩ : ∃ v, valueAt tabL (40 + z2 % 50) = v := ⟨_, rfl⟩
  have hvq' : vq0 = 1000 * (40 + z2 % 50) := by rw [← hvq]; exact valueAt_L (by omega) (by omega)
  have HVQ := Lib.hid hvq; have hvqb : 40000 ≤ vq0 ∧ vq0 ≤ 90000 := by omega
  clear hvq hvq' HVP
  have hz0b : 0 ≤ z0 ∧ z0 ≤ 255 := ⟨hz00, hz01⟩; have hz2b : 0 ≤ z2 % 50 ∧ z2 % 50 ≤ 49 := by omega
  clear hz00 hz01 hz20 hz21 hz30 hz31 hz10 hz11
  have QR := Lib.hid ((RowAt.new w4 33 #[.slice ta 2 tc, .int .i64 v0, .slice pa d pc]).ext ((Ext.refl _).alloc (.cells #[.int .i64 0, .int .i64 0, .int .i64 500, .int .i64 500000] 37)))
  have QT := Lib.hid ((RowAt.new (w4.alloc (.cells #[.slice ta 2 tc, .int .i64 v0, .slice pa d pc] 33)) 37 #[.int .i64 0, .int .i64 0, .int .i64 500, .int .i64 500000]).ext (Ext.refl _))
  simp only [World.size_alloc] at QT
  have hal := (((Ext.refl w4).alloc (.cells #[.slice ta 2 tc, .int .i64 v0, .slice pa d pc] 33)).alloc (.cells #[.int .i64 0, .int .i64 0, .int .i64 500, .int .i64 500000] 37))
  obtain ⟨bR, hbR⟩ : ∃ x, x = w4.heap.size := ⟨_, rfl⟩
  obtain ⟨w5, hw5⟩ : ∃ x, x = ((w4.alloc (.cells #[.slice ta 2 tc, .int .i64 v0, .slice pa d pc] 33)).alloc (.cells #[.int .i64 0, .int .i64 0, .int .i64 500, .int .i64 500000] 37)) := ⟨_, rfl⟩
  have sR : w5.heap.size = bR + 1 + 1 := by rw [hw5, hbR]; simp
  have mR : w4.heap.size ≤ bR := Nat.le_of_eq hbR.symm; have nR : bR ≤ w4.heap.size := Nat.le_of_eq hbR
  rw [← hbR] at QR QT
  rw [← hw5] at QR QT hal
  (try simp only [World.size_alloc])
  (try rw [← hw5])
  (try rw [← hbR])
  clear hw5 hbR
  replace HX2 := Lib.hid (HX2.out.trans hal)
  replace KL := Lib.hid (KL.out.ext hal)
  replace HOT0 := Lib.hid (HOT0.out.ext hal)
  replace OP := Lib.hid (OP.out.ext hal)
  replace OI := Lib.hid (OI.out.ext hal)
  have zz5 := hal.size
  clear hal
  have KR := QR; clear QR
  have KT := QT; clear QT
  with_reducible refine (implNew0_is vq0 _ 2 2 tabL _ _ rfl (by decide) (fun h => by cases h) (tabL_at KT.out) (by omega) tabL_ok HVQ.out).mono ?_
  rintro e w6 ⟨taq, tcq, paq, pcq, rfl, hpt, hpi, hb⟩
  have OQ := Lib.hid hpt; clear hpt hpi
  replace HX2 := Lib.hid (HX2.out.trans hb)
  replace KL := Lib.hid (KL.out.ext hb)
  replace KR := Lib.hid (KR.out.ext hb)
  replace KT := Lib.hid (KT.out.ext hb)
  replace HOT0 := Lib.hid (HOT0.out.ext hb)
  replace OP := Lib.hid (OP.out.ext hb)
  replace OI := Lib.hid (OI.out.ext hb)
  have zz6 := hb.size
  clear hb
  have zB := zz6
  clear KT
  go_wp2_with fail
  have QQ := Lib.hid ((RowAt.new w6 33 #[.slice taq 2 tcq, .int .i64 vq0, .slice paq 0 pcq]).ext (Ext.refl _))
  have hal := ((Ext.refl w6).alloc (.cells #[.slice taq 2 tcq, .int .i64 vq0, .slice paq 0 pcq] 33))
  obtain ⟨bQ, hbQ⟩ : ∃ x, x = w6.heap.size := ⟨_, rfl⟩
  obtain ⟨w7, hw7⟩ : ∃ x, x = (w6.alloc (.cells #[.slice taq 2 tcq, .int .i64 vq0, .slice paq 0 pcq] 33)) := ⟨_, rfl⟩
  have sQ : w7.heap.size = bQ + 1 := by rw [hw7, hbQ]; simp
  have mQ : w6.heap.size ≤ bQ := Nat.le_of_eq hbQ.symm; have nQ : bQ ≤ w6.heap.size := Nat.le_of_eq hbQ
  rw [← hbQ] at QQ
  rw [← hw7] at QQ hal
  (try simp only [World.size_alloc])
  (try rw [← hw7])
  (try rw [← hbQ])
  clear hw7 hbQ
  replace HX2 := Lib.hid (HX2.out.trans hal)
  replace KL := Lib.hid (KL.out.ext hal)
  replace KR := Lib.hid (KR.out.ext hal)
  replace HOT0 := Lib.hid (HOT0.out.ext hal)
  replace OP := Lib.hid (OP.out.ext hal)
  replace OI := Lib.hid (OI.out.ext hal)
  replace OQ := Lib.hid (OQ.out.ext hal)
  have zz7 := hal.size
  clear hal
  have KQ := QQ; clear QQ
  have HT2 := Lib.hid (show 2 = tabL.length from rfl); have HP0 := Lib.hid (show 0 = ([] : List Int).length from rfl)
  have HINT := Lib.hid (show ∀ w : World, IntsAt w paq [] from fun w k h => absurd h (Nat.not_lt_zero _))
  have HDL := Lib.hid (show d = (List.replicate d (0 : Int)).length by rw [List.length_replicate])
  have HPI := Lib.hid (pipe_start hd2)
  have HRK := Lib.hid (HPI.out.reach (v := v0) (by omega) (by omega))
  have HRQ := Lib.hid (show reachOk tabL vq0 [] = true from (pipe_start (d := 0) (by decide)).reach (v := vq0) (by omega) (by omega))
  have HSQ := Lib.hid (show sumFrom vq0 [] = vq0 from rfl)
  have hvi : -9223372036854775808 ≤ v0 ∧ v0 ≤ 9223372036854775807 := by omega
  have hvqi : -9223372036854775808 ≤ vq0 ∧ vq0 ≤ 9223372036854775807 := by omega
  have cL0 : ∀ y : Aft w7, y.1.cell? ⟨bL, 0, none⟩ = some (.int .i64 x0) := fun y => (KL.out.ext y.2).cell rfl
  have cL1 : ∀ y : Aft w7, y.1.cell? ⟨bL, 1, none⟩ = some (.int .i64 x1) := fun y => (KL.out.ext y.2).cell rfl
  have cL2 : ∀ y : Aft w7, y.1.cell? ⟨bL, 2, none⟩ = some (.int .i64 x2) := fun y => (KL.out.ext y.2).cell rfl
  have cL3 : ∀ y : Aft w7, y.1.cell? ⟨bL, 3, none⟩ = some (.int .i64 x3) := fun y => (KL.out.ext y.2).cell rfl
  have cL4 : ∀ y : Aft w7, y.1.cell? ⟨bL, 4, none⟩ = some (.int .i64 B) := fun y => (KL.out.ext y.2).cell rfl
  have cL5 : ∀ y : Aft w7, y.1.cell? ⟨bL, 5, none⟩ = some (.int .i64 x5) := fun y => (KL.out.ext y.2).cell rfl
  have cL6 : ∀ y : Aft w7, y.1.cell? ⟨bL, 6, none⟩ = some (.int .i64 x6) := fun y => (KL.out.ext y.2).cell rfl
  have cL7 : ∀ y : Aft w7, y.1.cell? ⟨bL, 7, none⟩ = some (.int .i64 x7) := fun y => (KL.out.ext y.2).cell rfl
  have cL8 : ∀ y : Aft w7, y.1.cell? ⟨bL, 8, none⟩ = some (.int .i64 0) := fun y => (KL.out.ext y.2).cell rfl
  have cL9 : ∀ y : Aft w7, y.1.cell? ⟨bL, 9, none⟩ = some (.slice a1 n1 c1) := fun y => (KL.out.ext y.2).cell rfl
  have cR0 : ∀ y : Aft w7, y.1.cell? ⟨bR, 0, none⟩ = some (.slice ta 2 tc) := fun y => (KR.out.ext y.2).cell rfl
  have cR1 : ∀ y : Aft w7, y.1.cell? ⟨bR, 1, none⟩ = some (.int .i64 v0) := fun y => (KR.out.ext y.2).cell rfl
  have cR2 : ∀ y : Aft w7, y.1.cell? ⟨bR, 2, none⟩ = some (.slice pa d pc) := fun y => (KR.out.ext y.2).cell rfl
  have cQ0 : ∀ y : Aft w7, y.1.cell? ⟨bQ, 0, none⟩ = some (.slice taq 2 tcq) := fun y => (KQ.out.ext y.2).cell rfl
  have cQ1 : ∀ y : Aft w7, y.1.cell? ⟨bQ, 1, none⟩ = some (.int .i64 vq0) := fun y => (KQ.out.ext y.2).cell rfl
  have cQ2 : ∀ y : Aft w7, y.1.cell? ⟨bQ, 2, none⟩ = some (.slice paq 0 pcq) := fun y => (KQ.out.ext y.2).cell rfl
  (refine wp_region_aft w7 (Ext.refl _) (by kernel_rfl) (by kernel_rfl) ?_; (repeat (go_big_quiet_step ((first | (go_at_call 9; with_reducible exact aft_call (implTotal_any v0 _ _ _ _ _ _ _ tabL (List.replicate d 0) _ HT2.out (by omega) HDL.out (by omega) (OP.out.at.ext (Subtype.property _)) (OI.out.at.ext (Subtype.property _)) hvi HRK.out (sum_zero d v0))) | (go_at_call 9; with_reducible exact aft_call (implTotal_any vq0 _ _ _ _ _ _ _ tabL [] _ HT2.out (by omega) HP0.out (by omega) (OQ.out.at.ext (Subtype.property _)) (HINT.out _) hvqi HRQ.out HSQ.out)))))); refine wpQuiet_nil ?_; intro w2 hx2)
  obtain ⟨w8, hq⟩ : ∃ x, x = w2 := ⟨_, rfl⟩; subst hq
  clear cL0 cL1 cL2 cL3 cL4 cL5 cL6 cL7 cL8 cL9 cR0 cR1 cR2 cQ0 cQ1 cQ2
  replace HX2 := Lib.hid (HX2.out.trans hx2)
  replace KL := Lib.hid (KL.out.ext hx2)
  replace KR := Lib.hid (KR.out.ext hx2)
  replace KQ := Lib.hid (KQ.out.ext hx2)
  replace HOT0 := Lib.hid (HOT0.out.ext hx2)
  replace OP := Lib.hid (OP.out.ext hx2)
  replace OI := Lib.hid (OI.out.ext hx2)
  replace OQ := Lib.hid (OQ.out.ext hx2)
  have zz8 := hx2.size
  clear hx2
  go_wp2
  obtain ⟨T, hT⟩ : ∃ T, x7 + v0 = T := ⟨_, rfl⟩
  obtain ⟨SM, hSM⟩ : ∃ SM, x7 + v0 + vq0 = SM := ⟨_, rfl⟩
  have hTb : 100000 ≤ T ∧ T ≤ 358000 := by omega
  have HSM := Lib.hid (show SM = T + vq0 by rw [← hSM, hT])
  rw [hSM]
  have HST := Lib.hid (show Stand x5 x6 B T x7 v0 0 0 from stand_start HLK.out.h5 HLK.out.h6 HL.out.hB (by omega) hv0b hT)
  have HXL := Lib.hid (show (List.replicate d (0 : Int)).length = d by rw [List.length_replicate])
  have hz1 : w.heap.size ≤ bL := by omega
  have hw1 : hi1 ≤ bL := by omega
  have hw2 : bL < w3.heap.size ∧ w4.heap.size ≤ bR := by omega
  have hw3 : bL < bR ∧ bR < bQ ∧ bQ < w8.heap.size := by omega
  have hw4 : bR < w5.heap.size ∧ w6.heap.size ≤ bQ := by omega
  obtain ⟨loq, hiq, hwq, hq⟩ : ∃ lo hi, (bR < lo ∧ hi ≤ bQ) ∧ PtOwn w8 lo hi (.slice taq 2 tcq) tabL := ⟨_, _, hw4, OQ.out⟩
  have OQ := Lib.hid hq; clear hq
  obtain ⟨lp, hp, hwp, hpP, hpI⟩ : ∃ lo hi, (bL < lo ∧ hi ≤ bR) ∧ PtOwn w8 lo hi (.slice ta 2 tc) tabL ∧ IntOwn w8 lo hi (.slice pa d pc) (List.replicate d 0) := ⟨_, _, hw2, OP.out, OI.out⟩
  have OP := Lib.hid hpP; have OI := Lib.hid hpI; clear hpP hpI
  clear hT hSM hw2 hw4
  obtain ⟨wS, hq⟩ : ∃ x, x = w8 := ⟨_, rfl⟩; subst hq
  clear HVQ HV0 HRK HDL hz0b hz2b sL mL nL sR mR nR
  have hn1 : n1 ≤ 1048576 := by omega
  go_loopw [10] (fun i wr => ∃ (k : Nat) (W v s : Int) (xs : List Int) (aC : Option Addr) (cC : Nat) (taC paC : Option Addr) (tcC pcC lo hi lr hr : Nat), k ≤ 200 ∧ i = .int .i64 k ∧ (hi ≤ bL ∨ bQ < lo) ∧ ((bL < lr ∧ hr ≤ bR) ∨ bQ < lr) ∧ (bQ < wr.heap.size ∧ hi ≤ wr.heap.size ∧ hr ≤ wr.heap.size) ∧ Hid (Ext w wr) ∧ Hid (RowAt wr bL 26 #[.int .i64 x0, .int .i64 x1, .int .i64 x2, .int .i64 x3, .int .i64 B, .int .i64 x5, .int .i64 x6, .int .i64 W, .int .i64 0, .slice aC n1 cC]) ∧ Hid (RowAt wr bR 33 #[.slice taC 2 tcC, .int .i64 v, .slice paC d pcC]) ∧ Hid (RowAt wr bQ 33 #[.slice taq 2 tcq, .int .i64 vq0, .slice paq 0 pcq]) ∧ Hid (PtOwn wr loq hiq (.slice taq 2 tcq) tabL) ∧ Hid (OwnTrains wr lo hi aC ts) ∧ Hid (PtOwn wr lr hr (.slice taC 2 tcC) tabL) ∧ Hid (IntOwn wr lr hr (.slice paC d pcC) xs) ∧ Hid (Stand x5 x6 B T W v s k) ∧ Hid (PipeOk xs s) ∧ Hid (xs.length = d)) (fun i _ => 200 - (intOf i).toNat)
  case atStart => exact ⟨0, x7, v0, 0, List.replicate d 0, a1, c1, ta, pa, tc, pc, lo1, hi1, lp, hp, Nat.zero_le _, rfl, .inl hw1, .inl hwp, ⟨hw3.2.2, by omega, by omega⟩, HX2, KL, KR, KQ, OQ, HOT0, OP, OI, HST, HPI, HXL⟩
  case round =>
    clear HX2 KL KR KQ OQ HOT0 OP OI HST HPI HXL hw1 hwp hvi lp hp
    obtain ⟨k, W, v, s, xs, aC, cC, taC, paC, tcC, pcC, lo, hi, lr, hr, hk, rfl, hwo, hwr, hwz, HX, KL, KR, KQ, OQ, OT, OP, OI, HS, HP, HXL⟩ := hrel
    obtain ⟨wa, rfl⟩ : ∃ x, x = wr := ⟨_, rfl⟩
    obtain ⟨sb1, sb2, sb3, sb4, sb5, sb6, sb7⟩ := stand_bounds HLK.out.h5 HLK.out.h6 HL.out.hB hTb ⟨by omega, by omega⟩ HS.out
    have hvi : -9223372036854775808 ≤ v ∧ v ≤ 9223372036854775807 := by omega
    have HRE := Lib.hid (HP.out.reach (v := v) (by omega) (by omega))
    by_cases hlt : k < 200
    case pos =>
      have hltz : (k : Int) < 200 := by omega
      obtain ⟨W1, v1, hf1, hf2, hf3, hf4⟩ := lock_round HL.out hTb ⟨by omega, by omega⟩ HS.out HP.out
      have HF1 := Lib.hid hf1; clear hf1
      have HXD := Lib.hid HXL.out.symm
      have cL0 : wa.cell? ⟨bL, 0, none⟩ = some (.int .i64 x0) := KL.out.cell rfl
      have cL1 : wa.cell? ⟨bL, 1, none⟩ = some (.int .i64 x1) := KL.out.cell rfl
      have cL2 : wa.cell? ⟨bL, 2, none⟩ = some (.int .i64 x2) := KL.out.cell rfl
      have cL3 : wa.cell? ⟨bL, 3, none⟩ = some (.int .i64 x3) := KL.out.cell rfl
      have cL4 : wa.cell? ⟨bL, 4, none⟩ = some (.int .i64 B) := KL.out.cell rfl
      have cL5 : wa.cell? ⟨bL, 5, none⟩ = some (.int .i64 x5) := KL.out.cell rfl
      have cL6 : wa.cell? ⟨bL, 6, none⟩ = some (.int .i64 x6) := KL.out.cell rfl
      have cL7 : wa.cell? ⟨bL, 7, none⟩ = some (.int .i64 W) := KL.out.cell rfl
      have cL8 : wa.cell? ⟨bL, 8, none⟩ = some (.int .i64 0) := KL.out.cell rfl
      have cL9 : wa.cell? ⟨bL, 9, none⟩ = some (.slice aC n1 cC) := KL.out.cell rfl
      have cR0 : wa.cell? ⟨bR, 0, none⟩ = some (.slice taC 2 tcC) := KR.out.cell rfl
      have cR1 : wa.cell? ⟨bR, 1, none⟩ = some (.int .i64 v) := KR.out.cell rfl
      have cR2 : wa.cell? ⟨bR, 2, none⟩ = some (.slice paC d pcC) := KR.out.cell rfl
      go_wp2_with fail
      with_reducible refine (implFill_any W1 v1 _ _ _ _ _ _ _ _ _ _ n1 _ ts _ _ 2 _ d _ _ tabL xs _ HN1.out hn1 HTS.out OT.out.trains HT2.out (by omega) HXD.out (by omega) OP.out.at OI.out.at hvi trivial trivial HF1.out).mono ?_
      rintro e w9 ⟨a6, c6, a7, c7, a8, c8, rfl, hLR, hb⟩
      clear cL0 cL1 cL2 cL3 cL4 cL5 cL6 cL7 cL8 cL9 cR0 cR1 cR2
      obtain ⟨mid, hmid, hoT, mid2, hmid2, hoP, hoI⟩ := hLR
      have PT := Lib.hid hoT; have PP := Lib.hid hoP; have PI := Lib.hid hoI; clear hoT hoP hoI
      replace HX := Lib.hid (HX.out.trans hb)
      replace KL := Lib.hid (KL.out.ext hb)
      replace KR := Lib.hid (KR.out.ext hb)
      replace KQ := Lib.hid (KQ.out.ext hb)
      replace OQ := Lib.hid (OQ.out.ext hb)
      replace OT := Lib.hid (OT.out.ext hb)
      replace OP := Lib.hid (OP.out.ext hb)
      replace OI := Lib.hid (OI.out.ext hb)
      have zz9 := hb.size
      clear hb
      have hx6 : 50 ≤ x6 ∧ x6 ≤ 5000 := by have := HLK.out.h6; omega
      have q1 : decide (W1 < W) = false := decide_eq_false (by omega)
      have q2 : IntKind.i64.wrap (W1 - W) = W1 - W := IntWalk.i64_in _ (by omega)
      have q3 : decide (x6 < W1 - W) = false := decide_eq_false (by omega)
      have e0 : ((w9.alloc (.cells #[.int .i64 x0, .int .i64 x1, .int .i64 x2, .int .i64 x3, .int .i64 B, .int .i64 x5, .int .i64 x6, .int .i64 W1, .int .i64 0, .slice a6 n1 c6] 26)).alloc (.cells #[.slice a7 2 c7, .int .i64 v1, .slice a8 d c8] 33)).cell? ⟨bL, 7, none⟩ = some (.int .i64 W) := (KL.out.ext (((Ext.refl w9).alloc _).alloc _)).cell rfl
      have e1 : ((w9.alloc (.cells #[.int .i64 x0, .int .i64 x1, .int .i64 x2, .int .i64 x3, .int .i64 B, .int .i64 x5, .int .i64 x6, .int .i64 W1, .int .i64 0, .slice a6 n1 c6] 26)).alloc (.cells #[.slice a7 2 c7, .int .i64 v1, .slice a8 d c8] 33)).cell? ⟨bL, 6, none⟩ = some (.int .i64 x6) := (KL.out.ext (((Ext.refl w9).alloc _).alloc _)).cell rfl
      go_wp2_with fail
      clear e0 e1
      have QX := Lib.hid ((RowAt.new w9 26 #[.int .i64 x0, .int .i64 x1, .int .i64 x2, .int .i64 x3, .int .i64 B, .int .i64 x5, .int .i64 x6, .int .i64 W1, .int .i64 0, .slice a6 n1 c6]).ext ((Ext.refl _).alloc (.cells #[.slice a7 2 c7, .int .i64 v1, .slice a8 d c8] 33)))
      have QY := Lib.hid ((RowAt.new (w9.alloc (.cells #[.int .i64 x0, .int .i64 x1, .int .i64 x2, .int .i64 x3, .int .i64 B, .int .i64 x5, .int .i64 x6, .int .i64 W1, .int .i64 0, .slice a6 n1 c6] 26)) 33 #[.slice a7 2 c7, .int .i64 v1, .slice a8 d c8]).ext (Ext.refl _))
      simp only [World.size_alloc] at QY
      have hal := (((Ext.refl w9).alloc (.cells #[.int .i64 x0, .int .i64 x1, .int .i64 x2, .int .i64 x3, .int .i64 B, .int .i64 x5, .int .i64 x6, .int .i64 W1, .int .i64 0, .slice a6 n1 c6] 26)).alloc (.cells #[.slice a7 2 c7, .int .i64 v1, .slice a8 d c8] 33))
      obtain ⟨bX, hbX⟩ : ∃ x, x = w9.heap.size := ⟨_, rfl⟩
      obtain ⟨w10, hw10⟩ : ∃ x, x = ((w9.alloc (.cells #[.int .i64 x0, .int .i64 x1, .int .i64 x2, .int .i64 x3, .int .i64 B, .int .i64 x5, .int .i64 x6, .int .i64 W1, .int .i64 0, .slice a6 n1 c6] 26)).alloc (.cells #[.slice a7 2 c7, .int .i64 v1, .slice a8 d c8] 33)) := ⟨_, rfl⟩
      have sX : w10.heap.size = bX + 1 + 1 := by rw [hw10, hbX]; simp
      have mX : w9.heap.size ≤ bX := Nat.le_of_eq hbX.symm; have nX : bX ≤ w9.heap.size := Nat.le_of_eq hbX
      rw [← hbX] at QX QY
      rw [← hw10] at QX QY hal
      (try simp only [World.size_alloc])
      (try rw [← hw10])
      (try rw [← hbX])
      clear hw10 hbX
      replace HX := Lib.hid (HX.out.trans hal)
      replace KL := Lib.hid (KL.out.ext hal)
      replace KR := Lib.hid (KR.out.ext hal)
      replace KQ := Lib.hid (KQ.out.ext hal)
      replace OQ := Lib.hid (OQ.out.ext hal)
      replace OT := Lib.hid (OT.out.ext hal)
      replace OP := Lib.hid (OP.out.ext hal)
      replace OI := Lib.hid (OI.out.ext hal)
      replace PT := Lib.hid (PT.out.ext hal)
      replace PP := Lib.hid (PP.out.ext hal)
      replace PI := Lib.hid (PI.out.ext hal)
      have zz10 := hal.size
      clear hal
      have KX := QX; clear QX
      have KY := QY; clear QY
      obtain ⟨ch, hch⟩ : ∃ c, B + W / x5 = c := ⟨_, rfl⟩
      obtain ⟨lev, hlev⟩ : ∃ c, lvl v = c := ⟨_, rfl⟩
      have HCH := Lib.hid (show chamber x0 x1 x2 x3 B x5 x6 W 0 ts = ch from (HL.out.cham ⟨sb1, sb2⟩ (by omega)).trans hch)
      have HLV := Lib.hid (show levelOf tabL v xs = lev from (level_L HRE.out (by omega)).trans hlev)
      rw [hch, hlev] at hf3 hf4
      have HF3 := Lib.hid hf3; have HF4 := Lib.hid hf4; clear hf3 hf4 hch hlev
      have cL0 : ∀ y : Aft w10, y.1.cell? ⟨bL, 0, none⟩ = some (.int .i64 x0) := fun y => (KL.out.ext y.2).cell rfl
      have cL1 : ∀ y : Aft w10, y.1.cell? ⟨bL, 1, none⟩ = some (.int .i64 x1) := fun y => (KL.out.ext y.2).cell rfl
      have cL2 : ∀ y : Aft w10, y.1.cell? ⟨bL, 2, none⟩ = some (.int .i64 x2) := fun y => (KL.out.ext y.2).cell rfl
      have cL3 : ∀ y : Aft w10, y.1.cell? ⟨bL, 3, none⟩ = some (.int .i64 x3) := fun y => (KL.out.ext y.2).cell rfl
      have cL4 : ∀ y : Aft w10, y.1.cell? ⟨bL, 4, none⟩ = some (.int .i64 B) := fun y => (KL.out.ext y.2).cell rfl
      have cL5 : ∀ y : Aft w10, y.1.cell? ⟨bL, 5, none⟩ = some (.int .i64 x5) := fun y => (KL.out.ext y.2).cell rfl
      have cL6 : ∀ y : Aft w10, y.1.cell? ⟨bL, 6, none⟩ = some (.int .i64 x6) := fun y => (KL.out.ext y.2).cell rfl
      have cL7 : ∀ y : Aft w10, y.1.cell? ⟨bL, 7, none⟩ = some (.int .i64 W) := fun y => (KL.out.ext y.2).cell rfl
      have cL8 : ∀ y : Aft w10, y.1.cell? ⟨bL, 8, none⟩ = some (.int .i64 0) := fun y => (KL.out.ext y.2).cell rfl
      have cL9 : ∀ y : Aft w10, y.1.cell? ⟨bL, 9, none⟩ = some (.slice aC n1 cC) := fun y => (KL.out.ext y.2).cell rfl
      have cR0 : ∀ y : Aft w10, y.1.cell? ⟨bR, 0, none⟩ = some (.slice taC 2 tcC) := fun y => (KR.out.ext y.2).cell rfl
      have cR1 : ∀ y : Aft w10, y.1.cell? ⟨bR, 1, none⟩ = some (.int .i64 v) := fun y => (KR.out.ext y.2).cell rfl
      have cR2 : ∀ y : Aft w10, y.1.cell? ⟨bR, 2, none⟩ = some (.slice paC d pcC) := fun y => (KR.out.ext y.2).cell rfl
      (refine wp_region_aft w10 (Ext.refl _) (by kernel_rfl) (by kernel_rfl) ?_; (repeat (go_big_quiet_step ((first | (go_at_call 11; with_reducible exact aft_call (implChamber_any ch _ _ _ _ _ _ _ _ _ _ _ _ ts _ HN1.out hn1 HTS.out (OT.out.trains.ext (Subtype.property _)) HCH.out)) | (go_at_call 12; with_reducible exact aft_call (implLevel_is lev _ _ _ _ _ _ _ tabL xs _ HT2.out (by unfold maxLen; omega) HXD.out (by unfold maxLen; omega) (OP.out.at.ext (Subtype.property _)) (OI.out.at.ext (Subtype.property _)) hvi HLV.out)))))); refine wpQuiet_nil ?_; intro w2 hx2)
      obtain ⟨w11, hq⟩ : ∃ x, x = w2 := ⟨_, rfl⟩; subst hq
      clear cL0 cL1 cL2 cL3 cL4 cL5 cL6 cL7 cL8 cL9 cR0 cR1 cR2
      replace HX := Lib.hid (HX.out.trans hx2)
      replace KL := Lib.hid (KL.out.ext hx2)
      replace KR := Lib.hid (KR.out.ext hx2)
      replace KQ := Lib.hid (KQ.out.ext hx2)
      replace KX := Lib.hid (KX.out.ext hx2)
      replace KY := Lib.hid (KY.out.ext hx2)
      replace OQ := Lib.hid (OQ.out.ext hx2)
      replace OT := Lib.hid (OT.out.ext hx2)
      replace OP := Lib.hid (OP.out.ext hx2)
      replace OI := Lib.hid (OI.out.ext hx2)
      replace PT := Lib.hid (PT.out.ext hx2)
      replace PP := Lib.hid (PP.out.ext hx2)
      replace PI := Lib.hid (PI.out.ext hx2)
      have zz11 := hx2.size
      clear hx2
      by_cases hcmp : lev < ch
      case neg =>
        have HF3 := Lib.hid (HF3.out (by omega)); clear HF4
        have hcz : decide (lev < ch) = false := decide_eq_false hcmp
        clear OT
        clear OP
        clear OI
        have cX0 : w11.cell? ⟨bX, 0, none⟩ = some (.int .i64 x0) := KX.out.cell rfl
        have cX1 : w11.cell? ⟨bX, 1, none⟩ = some (.int .i64 x1) := KX.out.cell rfl
        have cX2 : w11.cell? ⟨bX, 2, none⟩ = some (.int .i64 x2) := KX.out.cell rfl
        have cX3 : w11.cell? ⟨bX, 3, none⟩ = some (.int .i64 x3) := KX.out.cell rfl
        have cX4 : w11.cell? ⟨bX, 4, none⟩ = some (.int .i64 B) := KX.out.cell rfl
        have cX5 : w11.cell? ⟨bX, 5, none⟩ = some (.int .i64 x5) := KX.out.cell rfl
        have cX6 : w11.cell? ⟨bX, 6, none⟩ = some (.int .i64 x6) := KX.out.cell rfl
        have cX7 : w11.cell? ⟨bX, 7, none⟩ = some (.int .i64 W1) := KX.out.cell rfl
        have cX8 : w11.cell? ⟨bX, 8, none⟩ = some (.int .i64 0) := KX.out.cell rfl
        have cX9 : w11.cell? ⟨bX, 9, none⟩ = some (.slice a6 n1 c6) := KX.out.cell rfl
        have cY0 : w11.cell? ⟨(bX + 1), 0, none⟩ = some (.slice a7 2 c7) := KY.out.cell rfl
        have cY1 : w11.cell? ⟨(bX + 1), 1, none⟩ = some (.int .i64 v1) := KY.out.cell rfl
        have cY2 : w11.cell? ⟨(bX + 1), 2, none⟩ = some (.slice a8 d c8) := KY.out.cell rfl
        have cL0 : w11.cell? ⟨bL, 0, none⟩ = some (.int .i64 x0) := KL.out.cell rfl
        have fL0 := KL.out.frozen 0
        have cL1 : w11.cell? ⟨bL, 1, none⟩ = some (.int .i64 x1) := KL.out.cell rfl
        have fL1 := KL.out.frozen 1
        have cL2 : w11.cell? ⟨bL, 2, none⟩ = some (.int .i64 x2) := KL.out.cell rfl
        have fL2 := KL.out.frozen 2
        have cL3 : w11.cell? ⟨bL, 3, none⟩ = some (.int .i64 x3) := KL.out.cell rfl
        have fL3 := KL.out.frozen 3
        have cL4 : w11.cell? ⟨bL, 4, none⟩ = some (.int .i64 B) := KL.out.cell rfl
        have fL4 := KL.out.frozen 4
        have cL5 : w11.cell? ⟨bL, 5, none⟩ = some (.int .i64 x5) := KL.out.cell rfl
        have fL5 := KL.out.frozen 5
        have cL6 : w11.cell? ⟨bL, 6, none⟩ = some (.int .i64 x6) := KL.out.cell rfl
        have fL6 := KL.out.frozen 6
        have cL7 : w11.cell? ⟨bL, 7, none⟩ = some (.int .i64 W) := KL.out.cell rfl
        have fL7 := KL.out.frozen 7
        have cL8 : w11.cell? ⟨bL, 8, none⟩ = some (.int .i64 0) := KL.out.cell rfl
        have fL8 := KL.out.frozen 8
        have cL9 : w11.cell? ⟨bL, 9, none⟩ = some (.slice aC n1 cC) := KL.out.cell rfl
        have fL9 := KL.out.frozen 9
        have cR0 : w11.cell? ⟨bR, 0, none⟩ = some (.slice taC 2 tcC) := KR.out.cell rfl
        have fR0 := KR.out.frozen 0
        have cR1 : w11.cell? ⟨bR, 1, none⟩ = some (.int .i64 v) := KR.out.cell rfl
        have fR1 := KR.out.frozen 1
        have cR2 : w11.cell? ⟨bR, 2, none⟩ = some (.slice paC d pcC) := KR.out.cell rfl
        have fR2 := KR.out.frozen 2
        go_wp2
        clear cX0 cX1 cX2 cX3 cX4 cX5 cX6 cX7 cX8 cX9 cY0 cY1 cY2
        clear cL0 fL0 cL1 fL1 cL2 fL2 cL3 fL3 cL4 fL4 cL5 fL5 cL6 fL6 cL7 fL7 cL8 fL8 cL9 fL9 cR0 fR0 cR1 fR1 cR2 fR2
        obtain ⟨w12, hw12⟩ : ∃ x, x = putAt (putAt (w11) bL 0 [.int .i64 x0, .int .i64 x1, .int .i64 x2, .int .i64 x3, .int .i64 B, .int .i64 x5, .int .i64 x6, .int .i64 W1, .int .i64 0, .slice a6 n1 c6]) bR 0 [.slice a7 2 c7, .int .i64 v1, .slice a8 d c8] := ⟨_, rfl⟩
        have en : (((((((((((((w11.setCell ⟨bL, 0, none⟩ (.int .i64 x0)).setCell ⟨bL, 1, none⟩ (.int .i64 x1)).setCell ⟨bL, 2, none⟩ (.int .i64 x2)).setCell ⟨bL, 3, none⟩ (.int .i64 x3)).setCell ⟨bL, 4, none⟩ (.int .i64 B)).setCell ⟨bL, 5, none⟩ (.int .i64 x5)).setCell ⟨bL, 6, none⟩ (.int .i64 x6)).setCell ⟨bL, 7, none⟩ (.int .i64 W1)).setCell ⟨bL, 8, none⟩ (.int .i64 0)).setCell ⟨bL, 9, none⟩ (.slice a6 n1 c6)).setCell ⟨bR, 0, none⟩ (.slice a7 2 c7)).setCell ⟨bR, 1, none⟩ (.int .i64 v1)).setCell ⟨bR, 2, none⟩ (.slice a8 d c8)) = w12 := (by rw [hw12]; rfl)
        rw [en]; clear en
        have zw12 : w12.heap.size = w11.heap.size := by rw [hw12, put_size, put_size]
        replace HX := Lib.hid (show Ext w w12 by rw [hw12]; exact put_ext (by omega) _ _ _ (put_ext (by omega) _ _ _ (HX.out)))
        replace KL := Lib.hid (RowAt.cast (c' := #[.int .i64 x0, .int .i64 x1, .int .i64 x2, .int .i64 x3, .int .i64 B, .int .i64 x5, .int .i64 x6, .int .i64 W1, .int .i64 0, .slice a6 n1 c6]) (show RowAt w12 (bL) 26 (putArr #[.int .i64 x0, .int .i64 x1, .int .i64 x2, .int .i64 x3, .int .i64 B, .int .i64 x5, .int .i64 x6, .int .i64 W, .int .i64 0, .slice aC n1 cC] 0 [.int .i64 x0, .int .i64 x1, .int .i64 x2, .int .i64 x3, .int .i64 B, .int .i64 x5, .int .i64 x6, .int .i64 W1, .int .i64 0, .slice a6 n1 c6]) by rw [hw12]; exact put_other (by omega) _ _ _ (put_at _ _ _ _ (KL.out))) (by simp [putArr]))
        replace KR := Lib.hid (RowAt.cast (c' := #[.slice a7 2 c7, .int .i64 v1, .slice a8 d c8]) (show RowAt w12 (bR) 33 (putArr #[.slice taC 2 tcC, .int .i64 v, .slice paC d pcC] 0 [.slice a7 2 c7, .int .i64 v1, .slice a8 d c8]) by rw [hw12]; exact put_at _ _ _ _ (put_other (by omega) _ _ _ (KR.out))) (by simp [putArr]))
        replace KQ := Lib.hid (show RowAt w12 (bQ) 33 _ by rw [hw12]; exact put_other (by omega) _ _ _ (put_other (by omega) _ _ _ (KQ.out)))
        replace KX := Lib.hid (show RowAt w12 (bX) 26 _ by rw [hw12]; exact put_other (by omega) _ _ _ (put_other (by omega) _ _ _ (KX.out)))
        replace KY := Lib.hid (show RowAt w12 ((bX + 1)) 33 _ by rw [hw12]; exact put_other (by omega) _ _ _ (put_other (by omega) _ _ _ (KY.out)))
        replace OQ := Lib.hid (OQ.out.keep (w' := w12) (Nat.le_refl _) (Nat.le_refl _) (by rw [hw12]; exact fun B t c h1 h2 hr => put_kept (by omega) B t c h1 h2 (put_kept (by omega) B t c h1 h2 (hr))))
        replace PT := Lib.hid (PT.out.keep (w' := w12) (Nat.le_refl _) (Nat.le_refl _) (by rw [hw12]; exact fun B t c h1 h2 hr => put_kept (by omega) B t c h1 h2 (put_kept (by omega) B t c h1 h2 (hr))))
        replace PP := Lib.hid (PP.out.keep (w' := w12) (Nat.le_refl _) (Nat.le_refl _) (by rw [hw12]; exact fun B t c h1 h2 hr => put_kept (by omega) B t c h1 h2 (put_kept (by omega) B t c h1 h2 (hr))))
        replace PI := Lib.hid (PI.out.keep (w' := w12) (Nat.le_refl _) (Nat.le_refl _) (by rw [hw12]; exact fun B t c h1 h2 hr => put_kept (by omega) B t c h1 h2 (put_kept (by omega) B t c h1 h2 (hr))))
        clear hw12
        go_roundw
        case rel => exact ⟨k + 1, W1, v1, s, xs, a6, c6, a7, a8, c7, c8, wa.heap.size, mid, mid, w9.heap.size, by omega, by go_num, .inr (by omega), .inr (by omega), ⟨by omega, by omega, by omega⟩, HX, KL, KR, KQ, OQ, PT, Lib.hid (PP.out.wide (Nat.le_refl _) (by omega)), Lib.hid (PI.out.keep (by omega) (Nat.le_refl _) (fun _ _ _ _ _ h => h)), HF3, HP, HXL⟩
        case measure => simp [intOf]; omega
      case pos =>
        obtain ⟨W2, v2, xs2, s2, hd1, hd2', hd3, hd4⟩ := HF4.out (by omega)
        have HD1 := Lib.hid hd1; have HP2 := Lib.hid hd2'; have HXL2 := Lib.hid (hd3.trans HXL.out); have HS2 := Lib.hid hd4; clear hd1 hd2' hd3 hd4 HF3 HF4
        have hcz : decide (lev < ch) = true := decide_eq_true hcmp
        clear PT
        clear PP
        clear PI
        have cL0 : w11.cell? ⟨bL, 0, none⟩ = some (.int .i64 x0) := KL.out.cell rfl
        have cL1 : w11.cell? ⟨bL, 1, none⟩ = some (.int .i64 x1) := KL.out.cell rfl
        have cL2 : w11.cell? ⟨bL, 2, none⟩ = some (.int .i64 x2) := KL.out.cell rfl
        have cL3 : w11.cell? ⟨bL, 3, none⟩ = some (.int .i64 x3) := KL.out.cell rfl
        have cL4 : w11.cell? ⟨bL, 4, none⟩ = some (.int .i64 B) := KL.out.cell rfl
        have cL5 : w11.cell? ⟨bL, 5, none⟩ = some (.int .i64 x5) := KL.out.cell rfl
        have cL6 : w11.cell? ⟨bL, 6, none⟩ = some (.int .i64 x6) := KL.out.cell rfl
        have cL7 : w11.cell? ⟨bL, 7, none⟩ = some (.int .i64 W) := KL.out.cell rfl
        have cL8 : w11.cell? ⟨bL, 8, none⟩ = some (.int .i64 0) := KL.out.cell rfl
        have cL9 : w11.cell? ⟨bL, 9, none⟩ = some (.slice aC n1 cC) := KL.out.cell rfl
        have cR0 : w11.cell? ⟨bR, 0, none⟩ = some (.slice taC 2 tcC) := KR.out.cell rfl
        have cR1 : w11.cell? ⟨bR, 1, none⟩ = some (.int .i64 v) := KR.out.cell rfl
        have cR2 : w11.cell? ⟨bR, 2, none⟩ = some (.slice paC d pcC) := KR.out.cell rfl
        go_wp2_with fail
        with_reducible refine (implDrain_any W2 v2 xs2 _ _ _ _ _ _ _ _ _ _ n1 _ ts _ _ 2 _ d _ _ tabL xs _ HN1.out hn1 HTS.out OT.out.trains HT2.out (by omega) HXD.out (by omega) OP.out.at OI.out.at hvi trivial trivial HD1.out).mono ?_
        rintro e w12 ⟨a9, c9, aA, cA, aB, cB, rfl, hLR, hb⟩
        clear cL0 cL1 cL2 cL3 cL4 cL5 cL6 cL7 cL8 cL9 cR0 cR1 cR2
        obtain ⟨mid3, hmid3, hoT, mid4, hmid4, hoP, hoI⟩ := hLR
        have NT := Lib.hid hoT; have NP := Lib.hid hoP; have NI := Lib.hid hoI; clear hoT hoP hoI
        replace HX := Lib.hid (HX.out.trans hb)
        replace KL := Lib.hid (KL.out.ext hb)
        replace KR := Lib.hid (KR.out.ext hb)
        replace KQ := Lib.hid (KQ.out.ext hb)
        replace KX := Lib.hid (KX.out.ext hb)
        replace KY := Lib.hid (KY.out.ext hb)
        replace OQ := Lib.hid (OQ.out.ext hb)
        replace OT := Lib.hid (OT.out.ext hb)
        replace OP := Lib.hid (OP.out.ext hb)
        replace OI := Lib.hid (OI.out.ext hb)
        have zz12 := hb.size
        clear hb
        clear OT
        clear OP
        clear OI
        have cX0 : w12.cell? ⟨bX, 0, none⟩ = some (.int .i64 x0) := KX.out.cell rfl
        have fX0 := KX.out.frozen 0
        have cX1 : w12.cell? ⟨bX, 1, none⟩ = some (.int .i64 x1) := KX.out.cell rfl
        have fX1 := KX.out.frozen 1
        have cX2 : w12.cell? ⟨bX, 2, none⟩ = some (.int .i64 x2) := KX.out.cell rfl
        have fX2 := KX.out.frozen 2
        have cX3 : w12.cell? ⟨bX, 3, none⟩ = some (.int .i64 x3) := KX.out.cell rfl
        have fX3 := KX.out.frozen 3
        have cX4 : w12.cell? ⟨bX, 4, none⟩ = some (.int .i64 B) := KX.out.cell rfl
        have fX4 := KX.out.frozen 4
        have cX5 : w12.cell? ⟨bX, 5, none⟩ = some (.int .i64 x5) := KX.out.cell rfl
        have fX5 := KX.out.frozen 5
        have cX6 : w12.cell? ⟨bX, 6, none⟩ = some (.int .i64 x6) := KX.out.cell rfl
        have fX6 := KX.out.frozen 6
        have cX7 : w12.cell? ⟨bX, 7, none⟩ = some (.int .i64 W1) := KX.out.cell rfl
        have fX7 := KX.out.frozen 7
        have cX8 : w12.cell? ⟨bX, 8, none⟩ = some (.int .i64 0) := KX.out.cell rfl
        have fX8 := KX.out.frozen 8
        have cX9 : w12.cell? ⟨bX, 9, none⟩ = some (.slice a6 n1 c6) := KX.out.cell rfl
        have fX9 := KX.out.frozen 9
        have cY0 : w12.cell? ⟨(bX + 1), 0, none⟩ = some (.slice a7 2 c7) := KY.out.cell rfl
        have fY0 := KY.out.frozen 0
        have cY1 : w12.cell? ⟨(bX + 1), 1, none⟩ = some (.int .i64 v1) := KY.out.cell rfl
        have fY1 := KY.out.frozen 1
        have cY2 : w12.cell? ⟨(bX + 1), 2, none⟩ = some (.slice a8 d c8) := KY.out.cell rfl
        have fY2 := KY.out.frozen 2
        have cL0 : w12.cell? ⟨bL, 0, none⟩ = some (.int .i64 x0) := KL.out.cell rfl
        have fL0 := KL.out.frozen 0
        have cL1 : w12.cell? ⟨bL, 1, none⟩ = some (.int .i64 x1) := KL.out.cell rfl
        have fL1 := KL.out.frozen 1
        have cL2 : w12.cell? ⟨bL, 2, none⟩ = some (.int .i64 x2) := KL.out.cell rfl
        have fL2 := KL.out.frozen 2
        have cL3 : w12.cell? ⟨bL, 3, none⟩ = some (.int .i64 x3) := KL.out.cell rfl
        have fL3 := KL.out.frozen 3
        have cL4 : w12.cell? ⟨bL, 4, none⟩ = some (.int .i64 B) := KL.out.cell rfl
        have fL4 := KL.out.frozen 4
        have cL5 : w12.cell? ⟨bL, 5, none⟩ = some (.int .i64 x5) := KL.out.cell rfl
        have fL5 := KL.out.frozen 5
        have cL6 : w12.cell? ⟨bL, 6, none⟩ = some (.int .i64 x6) := KL.out.cell rfl
        have fL6 := KL.out.frozen 6
        have cL7 : w12.cell? ⟨bL, 7, none⟩ = some (.int .i64 W) := KL.out.cell rfl
        have fL7 := KL.out.frozen 7
        have cL8 : w12.cell? ⟨bL, 8, none⟩ = some (.int .i64 0) := KL.out.cell rfl
        have fL8 := KL.out.frozen 8
        have cL9 : w12.cell? ⟨bL, 9, none⟩ = some (.slice aC n1 cC) := KL.out.cell rfl
        have fL9 := KL.out.frozen 9
        have cR0 : w12.cell? ⟨bR, 0, none⟩ = some (.slice taC 2 tcC) := KR.out.cell rfl
        have fR0 := KR.out.frozen 0
        have cR1 : w12.cell? ⟨bR, 1, none⟩ = some (.int .i64 v) := KR.out.cell rfl
        have fR1 := KR.out.frozen 1
        have cR2 : w12.cell? ⟨bR, 2, none⟩ = some (.slice paC d pcC) := KR.out.cell rfl
        have fR2 := KR.out.frozen 2
        go_wp2
        clear cX0 fX0 cX1 fX1 cX2 fX2 cX3 fX3 cX4 fX4 cX5 fX5 cX6 fX6 cX7 fX7 cX8 fX8 cX9 fX9 cY0 fY0 cY1 fY1 cY2 fY2 cL0 fL0 cL1 fL1 cL2 fL2 cL3 fL3 cL4 fL4 cL5 fL5 cL6 fL6 cL7 fL7 cL8 fL8 cL9 fL9 cR0 fR0 cR1 fR1 cR2 fR2
        obtain ⟨w13, hw13⟩ : ∃ x, x = putAt (putAt (putAt (putAt (w12) bX 0 [.int .i64 x0, .int .i64 x1, .int .i64 x2, .int .i64 x3, .int .i64 B, .int .i64 x5, .int .i64 x6, .int .i64 W2, .int .i64 0, .slice a9 n1 c9]) (bX + 1) 0 [.slice aA 2 cA, .int .i64 v2, .slice aB d cB]) bL 0 [.int .i64 x0, .int .i64 x1, .int .i64 x2, .int .i64 x3, .int .i64 B, .int .i64 x5, .int .i64 x6, .int .i64 W2, .int .i64 0, .slice a9 n1 c9]) bR 0 [.slice aA 2 cA, .int .i64 v2, .slice aB d cB] := ⟨_, rfl⟩
        have en : ((((((((((((((((((((((((((w12.setCell ⟨bX, 0, none⟩ (.int .i64 x0)).setCell ⟨bX, 1, none⟩ (.int .i64 x1)).setCell ⟨bX, 2, none⟩ (.int .i64 x2)).setCell ⟨bX, 3, none⟩ (.int .i64 x3)).setCell ⟨bX, 4, none⟩ (.int .i64 B)).setCell ⟨bX, 5, none⟩ (.int .i64 x5)).setCell ⟨bX, 6, none⟩ (.int .i64 x6)).setCell ⟨bX, 7, none⟩ (.int .i64 W2)).setCell ⟨bX, 8, none⟩ (.int .i64 0)).setCell ⟨bX, 9, none⟩ (.slice a9 n1 c9)).setCell ⟨(bX + 1), 0, none⟩ (.slice aA 2 cA)).setCell ⟨(bX + 1), 1, none⟩ (.int .i64 v2)).setCell ⟨(bX + 1), 2, none⟩ (.slice aB d cB)).setCell ⟨bL, 0, none⟩ (.int .i64 x0)).setCell ⟨bL, 1, none⟩ (.int .i64 x1)).setCell ⟨bL, 2, none⟩ (.int .i64 x2)).setCell ⟨bL, 3, none⟩ (.int .i64 x3)).setCell ⟨bL, 4, none⟩ (.int .i64 B)).setCell ⟨bL, 5, none⟩ (.int .i64 x5)).setCell ⟨bL, 6, none⟩ (.int .i64 x6)).setCell ⟨bL, 7, none⟩ (.int .i64 W2)).setCell ⟨bL, 8, none⟩ (.int .i64 0)).setCell ⟨bL, 9, none⟩ (.slice a9 n1 c9)).setCell ⟨bR, 0, none⟩ (.slice aA 2 cA)).setCell ⟨bR, 1, none⟩ (.int .i64 v2)).setCell ⟨bR, 2, none⟩ (.slice aB d cB)) = w13 := (by rw [hw13]; rfl)
        rw [en]; clear en
        have zw13 : w13.heap.size = w12.heap.size := by rw [hw13, put_size, put_size, put_size, put_size]
        replace HX := Lib.hid (show Ext w w13 by rw [hw13]; exact put_ext (by omega) _ _ _ (put_ext (by omega) _ _ _ (put_ext (by omega) _ _ _ (put_ext (by omega) _ _ _ (HX.out)))))
        replace KL := Lib.hid (RowAt.cast (c' := #[.int .i64 x0, .int .i64 x1, .int .i64 x2, .int .i64 x3, .int .i64 B, .int .i64 x5, .int .i64 x6, .int .i64 W2, .int .i64 0, .slice a9 n1 c9]) (show RowAt w13 (bL) 26 (putArr #[.int .i64 x0, .int .i64 x1, .int .i64 x2, .int .i64 x3, .int .i64 B, .int .i64 x5, .int .i64 x6, .int .i64 W, .int .i64 0, .slice aC n1 cC] 0 [.int .i64 x0, .int .i64 x1, .int .i64 x2, .int .i64 x3, .int .i64 B, .int .i64 x5, .int .i64 x6, .int .i64 W2, .int .i64 0, .slice a9 n1 c9]) by rw [hw13]; exact put_other (by omega) _ _ _ (put_at _ _ _ _ (put_other (by omega) _ _ _ (put_other (by omega) _ _ _ (KL.out))))) (by simp [putArr]))
        replace KR := Lib.hid (RowAt.cast (c' := #[.slice aA 2 cA, .int .i64 v2, .slice aB d cB]) (show RowAt w13 (bR) 33 (putArr #[.slice taC 2 tcC, .int .i64 v, .slice paC d pcC] 0 [.slice aA 2 cA, .int .i64 v2, .slice aB d cB]) by rw [hw13]; exact put_at _ _ _ _ (put_other (by omega) _ _ _ (put_other (by omega) _ _ _ (put_other (by omega) _ _ _ (KR.out))))) (by simp [putArr]))
        replace KQ := Lib.hid (show RowAt w13 (bQ) 33 _ by rw [hw13]; exact put_other (by omega) _ _ _ (put_other (by omega) _ _ _ (put_other (by omega) _ _ _ (put_other (by omega) _ _ _ (KQ.out)))))
        replace KX := Lib.hid (RowAt.cast (c' := #[.int .i64 x0, .int .i64 x1, .int .i64 x2, .int .i64 x3, .int .i64 B, .int .i64 x5, .int .i64 x6, .int .i64 W2, .int .i64 0, .slice a9 n1 c9]) (show RowAt w13 (bX) 26 (putArr #[.int .i64 x0, .int .i64 x1, .int .i64 x2, .int .i64 x3, .int .i64 B, .int .i64 x5, .int .i64 x6, .int .i64 W1, .int .i64 0, .slice a6 n1 c6] 0 [.int .i64 x0, .int .i64 x1, .int .i64 x2, .int .i64 x3, .int .i64 B, .int .i64 x5, .int .i64 x6, .int .i64 W2, .int .i64 0, .slice a9 n1 c9]) by rw [hw13]; exact put_other (by omega) _ _ _ (put_other (by omega) _ _ _ (put_other (by omega) _ _ _ (put_at _ _ _ _ (KX.out))))) (by simp [putArr]))
        replace KY := Lib.hid (RowAt.cast (c' := #[.slice aA 2 cA, .int .i64 v2, .slice aB d cB]) (show RowAt w13 ((bX + 1)) 33 (putArr #[.slice a7 2 c7, .int .i64 v1, .slice a8 d c8] 0 [.slice aA 2 cA, .int .i64 v2, .slice aB d cB]) by rw [hw13]; exact put_other (by omega) _ _ _ (put_other (by omega) _ _ _ (put_at _ _ _ _ (put_other (by omega) _ _ _ (KY.out))))) (by simp [putArr]))
        replace OQ := Lib.hid (OQ.out.keep (w' := w13) (Nat.le_refl _) (Nat.le_refl _) (by rw [hw13]; exact fun B t c h1 h2 hr => put_kept (by omega) B t c h1 h2 (put_kept (by omega) B t c h1 h2 (put_kept (by omega) B t c h1 h2 (put_kept (by omega) B t c h1 h2 (hr))))))
        replace NT := Lib.hid (NT.out.keep (w' := w13) (Nat.le_refl _) (Nat.le_refl _) (by rw [hw13]; exact fun B t c h1 h2 hr => put_kept (by omega) B t c h1 h2 (put_kept (by omega) B t c h1 h2 (put_kept (by omega) B t c h1 h2 (put_kept (by omega) B t c h1 h2 (hr))))))
        replace NP := Lib.hid (NP.out.keep (w' := w13) (Nat.le_refl _) (Nat.le_refl _) (by rw [hw13]; exact fun B t c h1 h2 hr => put_kept (by omega) B t c h1 h2 (put_kept (by omega) B t c h1 h2 (put_kept (by omega) B t c h1 h2 (put_kept (by omega) B t c h1 h2 (hr))))))
        replace NI := Lib.hid (NI.out.keep (w' := w13) (Nat.le_refl _) (Nat.le_refl _) (by rw [hw13]; exact fun B t c h1 h2 hr => put_kept (by omega) B t c h1 h2 (put_kept (by omega) B t c h1 h2 (put_kept (by omega) B t c h1 h2 (put_kept (by omega) B t c h1 h2 (hr))))))
        clear hw13
        go_roundw
        case rel => exact ⟨k + 1, W2, v2, s2, xs2, a9, c9, aA, aB, cA, cB, w11.heap.size, mid3, mid3, w12.heap.size, by omega, by go_num, .inr (by omega), .inr (by omega), ⟨by omega, by omega, by omega⟩, HX, KL, KR, KQ, OQ, NT, Lib.hid (NP.out.wide (Nat.le_refl _) (by omega)), Lib.hid (NI.out.keep (by omega) (Nat.le_refl _) (fun _ _ _ _ _ h => h)), HS2, HP2, HXL2⟩
        case measure => simp [intOf]; omega
    case neg =>
      obtain rfl : k = 200 := by omega
      have HSE := Lib.hid (show Stand x5 x6 B T W v s 200 from HS.out)
      have hend := stand_end HLK.out.h5.1 HSE.out
      have HO := Lib.hid (open_above HL.out hTb HSE.out HP.out (vl := vq0) ⟨by omega, by omega⟩)
      have HXD := Lib.hid HXL.out.symm
      have cL0 : wa.cell? ⟨bL, 0, none⟩ = some (.int .i64 x0) := KL.out.cell rfl
      have cL1 : wa.cell? ⟨bL, 1, none⟩ = some (.int .i64 x1) := KL.out.cell rfl
      have cL2 : wa.cell? ⟨bL, 2, none⟩ = some (.int .i64 x2) := KL.out.cell rfl
      have cL3 : wa.cell? ⟨bL, 3, none⟩ = some (.int .i64 x3) := KL.out.cell rfl
      have cL4 : wa.cell? ⟨bL, 4, none⟩ = some (.int .i64 B) := KL.out.cell rfl
      have cL5 : wa.cell? ⟨bL, 5, none⟩ = some (.int .i64 x5) := KL.out.cell rfl
      have cL6 : wa.cell? ⟨bL, 6, none⟩ = some (.int .i64 x6) := KL.out.cell rfl
      have cL7 : wa.cell? ⟨bL, 7, none⟩ = some (.int .i64 W) := KL.out.cell rfl
      have cL8 : wa.cell? ⟨bL, 8, none⟩ = some (.int .i64 0) := KL.out.cell rfl
      have cL9 : wa.cell? ⟨bL, 9, none⟩ = some (.slice aC n1 cC) := KL.out.cell rfl
      have cR0 : wa.cell? ⟨bR, 0, none⟩ = some (.slice taC 2 tcC) := KR.out.cell rfl
      have cR1 : wa.cell? ⟨bR, 1, none⟩ = some (.int .i64 v) := KR.out.cell rfl
      have cR2 : wa.cell? ⟨bR, 2, none⟩ = some (.slice paC d pcC) := KR.out.cell rfl
      have cQ0 : wa.cell? ⟨bQ, 0, none⟩ = some (.slice taq 2 tcq) := KQ.out.cell rfl
      have cQ1 : wa.cell? ⟨bQ, 1, none⟩ = some (.int .i64 vq0) := KQ.out.cell rfl
      have cQ2 : wa.cell? ⟨bQ, 2, none⟩ = some (.slice paq 0 pcq) := KQ.out.cell rfl
      go_wp2_with fail
      with_reducible refine (implOpen_any 1 true _ _ _ _ _ _ _ _ _ _ n1 _ ts _ _ 2 _ d _ _ tabL xs _ _ 2 _ 0 _ _ tabL [] 1 _ HN1.out hn1 HTS.out OT.out.trains HT2.out (by omega) HXD.out (by omega) OP.out.at OI.out.at hvi HT2.out (by omega) HP0.out (by omega) OQ.out.at (HINT.out _) hvqi (by unfold I64; omega) HO.out).mono ?_
      rintro e w31 ⟨aU, cU, rfl, hoU, hb⟩
      clear cL0 cL1 cL2 cL3 cL4 cL5 cL6 cL7 cL8 cL9 cR0 cR1 cR2 cQ0 cQ1 cQ2
      have OU := Lib.hid hoU; clear hoU
      replace HX := Lib.hid (HX.out.trans hb)
      replace KL := Lib.hid (KL.out.ext hb)
      replace KR := Lib.hid (KR.out.ext hb)
      replace KQ := Lib.hid (KQ.out.ext hb)
      replace OQ := Lib.hid (OQ.out.ext hb)
      replace OT := Lib.hid (OT.out.ext hb)
      replace OP := Lib.hid (OP.out.ext hb)
      replace OI := Lib.hid (OI.out.ext hb)
      have zz31 := hb.size
      clear hb
      clear OT
      go_wp2_with fail
      have QU := Lib.hid ((RowAt.new w31 26 #[.int .i64 x0, .int .i64 x1, .int .i64 x2, .int .i64 x3, .int .i64 B, .int .i64 x5, .int .i64 x6, .int .i64 W, .int .i64 1, .slice aU n1 cU]).ext (Ext.refl _))
      have hal := ((Ext.refl w31).alloc (.cells #[.int .i64 x0, .int .i64 x1, .int .i64 x2, .int .i64 x3, .int .i64 B, .int .i64 x5, .int .i64 x6, .int .i64 W, .int .i64 1, .slice aU n1 cU] 26))
      obtain ⟨bU, hbU⟩ : ∃ x, x = w31.heap.size := ⟨_, rfl⟩
      obtain ⟨w32, hw32⟩ : ∃ x, x = (w31.alloc (.cells #[.int .i64 x0, .int .i64 x1, .int .i64 x2, .int .i64 x3, .int .i64 B, .int .i64 x5, .int .i64 x6, .int .i64 W, .int .i64 1, .slice aU n1 cU] 26)) := ⟨_, rfl⟩
      have sU : w32.heap.size = bU + 1 := by rw [hw32, hbU]; simp
      have mU : w31.heap.size ≤ bU := Nat.le_of_eq hbU.symm; have nU : bU ≤ w31.heap.size := Nat.le_of_eq hbU
      rw [← hbU] at QU
      rw [← hw32] at QU hal
      (try simp only [World.size_alloc])
      (try rw [← hw32])
      (try rw [← hbU])
      clear hw32 hbU
      replace HX := Lib.hid (HX.out.trans hal)
      replace KL := Lib.hid (KL.out.ext hal)
      replace KR := Lib.hid (KR.out.ext hal)
      replace KQ := Lib.hid (KQ.out.ext hal)
      replace OQ := Lib.hid (OQ.out.ext hal)
      replace OP := Lib.hid (OP.out.ext hal)
      replace OI := Lib.hid (OI.out.ext hal)
      replace OU := Lib.hid (OU.out.ext hal)
      have zz32 := hal.size
      clear hal
      have KU := QU; clear QU
      have HGT := Lib.hid (show (if lockOk x0 x1 x2 x3 B x5 x6 W 1 ts = true then 0 else (1 : Int)) = 0 by rw [if_pos (HL.out.ok ⟨sb1, sb2⟩ (by omega))])
      with_reducible refine (implShut_any 0 _ _ _ _ _ _ _ _ _ _ n1 _ ts _ HN1.out hn1 HTS.out OU.out.trains HGT.out).mono ?_
      rintro e w33 ⟨aS, cS, rfl, hoS, hb⟩
      have OS := Lib.hid hoS; clear hoS
      replace HX := Lib.hid (HX.out.trans hb)
      replace KL := Lib.hid (KL.out.ext hb)
      replace KR := Lib.hid (KR.out.ext hb)
      replace KQ := Lib.hid (KQ.out.ext hb)
      replace KU := Lib.hid (KU.out.ext hb)
      replace OQ := Lib.hid (OQ.out.ext hb)
      replace OP := Lib.hid (OP.out.ext hb)
      replace OI := Lib.hid (OI.out.ext hb)
      replace OU := Lib.hid (OU.out.ext hb)
      have zz33 := hb.size
      clear hb
      go_wp2_with fail
      have QS := Lib.hid ((RowAt.new w33 26 #[.int .i64 x0, .int .i64 x1, .int .i64 x2, .int .i64 x3, .int .i64 B, .int .i64 x5, .int .i64 x6, .int .i64 W, .int .i64 0, .slice aS n1 cS]).ext (Ext.refl _))
      have hal := ((Ext.refl w33).alloc (.cells #[.int .i64 x0, .int .i64 x1, .int .i64 x2, .int .i64 x3, .int .i64 B, .int .i64 x5, .int .i64 x6, .int .i64 W, .int .i64 0, .slice aS n1 cS] 26))
      obtain ⟨bS, hbS⟩ : ∃ x, x = w33.heap.size := ⟨_, rfl⟩
      obtain ⟨w34, hw34⟩ : ∃ x, x = (w33.alloc (.cells #[.int .i64 x0, .int .i64 x1, .int .i64 x2, .int .i64 x3, .int .i64 B, .int .i64 x5, .int .i64 x6, .int .i64 W, .int .i64 0, .slice aS n1 cS] 26)) := ⟨_, rfl⟩
      have sS : w34.heap.size = bS + 1 := by rw [hw34, hbS]; simp
      have mS : w33.heap.size ≤ bS := Nat.le_of_eq hbS.symm; have nS : bS ≤ w33.heap.size := Nat.le_of_eq hbS
      rw [← hbS] at QS
      rw [← hw34] at QS hal
      (try simp only [World.size_alloc])
      (try rw [← hw34])
      (try rw [← hbS])
      clear hw34 hbS
      replace HX := Lib.hid (HX.out.trans hal)
      replace KL := Lib.hid (KL.out.ext hal)
      replace KR := Lib.hid (KR.out.ext hal)
      replace KQ := Lib.hid (KQ.out.ext hal)
      replace KU := Lib.hid (KU.out.ext hal)
      replace OQ := Lib.hid (OQ.out.ext hal)
      replace OP := Lib.hid (OP.out.ext hal)
      replace OI := Lib.hid (OI.out.ext hal)
      replace OU := Lib.hid (OU.out.ext hal)
      replace OS := Lib.hid (OS.out.ext hal)
      have zz34 := hal.size
      clear hal
      have KS := QS; clear QS
      obtain ⟨T2, hT2⟩ : ∃ t, W + vq0 = t := ⟨_, rfl⟩
      have hT2b : T2 ≤ 98000 := by omega
      have HSM2 := Lib.hid (show SM = T2 + v + s by rw [HSM.out, ← hT2]; omega)
      have HSK := Lib.hid (show Sink x5 x6 B T2 W vq0 0 from sink_start (b := lvl v) HLK.out.h5 HLK.out.h6 HL.out.hB ⟨sb1, sb2⟩ hvqb (by unfold lvl; omega) hend.2 hT2)
      clear hT2 hend HS HSE HO HGT
      obtain ⟨loS, hiS, hwS, hq⟩ : ∃ lo hi, (bQ < lo ∧ hi ≤ bS) ∧ OwnTrains w34 lo hi aS ts := ⟨_, _, ⟨by omega, by omega⟩, OS.out⟩
      have OS := Lib.hid hq; clear hq
      obtain ⟨loU, hiU, hwU, hq⟩ : ∃ lo hi, (bQ < lo ∧ hi ≤ bS) ∧ OwnTrains w34 lo hi aU ts := ⟨_, _, ⟨by omega, by omega⟩, OU.out⟩
      have OU := Lib.hid hq; clear hq
      have hwR : (bL < lr ∧ hr ≤ bR) ∨ (bQ < lr ∧ hr ≤ bS) := hwr.imp id (fun h => ⟨h, by omega⟩)
      have hord : bL < bR ∧ bR < bQ ∧ bQ < bU ∧ bU < bS ∧ bS < w34.heap.size := by omega
      obtain ⟨wV, hq⟩ : ∃ x, x = w34 := ⟨_, rfl⟩; subst hq
      go_wp2
      go_loopw [16] (fun i wr => ∃ (j : Nat) (Wz vl : Int) (aC2 : Option Addr) (cC2 : Nat) (taD paD : Option Addr) (tcD pcD lo hi lr2 hr2 : Nat), j ≤ 200 ∧ i = .int .i64 j ∧ (bQ < lo ∧ (hi ≤ bS ∨ bS < lo)) ∧ (hr2 ≤ bQ ∨ bS < lr2) ∧ bS < wr.heap.size ∧ Hid (Ext w wr) ∧ Hid (RowAt wr bL 26 #[.int .i64 x0, .int .i64 x1, .int .i64 x2, .int .i64 x3, .int .i64 B, .int .i64 x5, .int .i64 x6, .int .i64 W, .int .i64 0, .slice aC n1 cC]) ∧ Hid (RowAt wr bR 33 #[.slice taC 2 tcC, .int .i64 v, .slice paC d pcC]) ∧ Hid (RowAt wr bU 26 #[.int .i64 x0, .int .i64 x1, .int .i64 x2, .int .i64 x3, .int .i64 B, .int .i64 x5, .int .i64 x6, .int .i64 W, .int .i64 1, .slice aU n1 cU]) ∧ Hid (RowAt wr bQ 33 #[.slice taD 2 tcD, .int .i64 vl, .slice paD 0 pcD]) ∧ Hid (RowAt wr bS 26 #[.int .i64 x0, .int .i64 x1, .int .i64 x2, .int .i64 x3, .int .i64 B, .int .i64 x5, .int .i64 x6, .int .i64 Wz, .int .i64 0, .slice aC2 n1 cC2]) ∧ Hid (PtOwn wr lr hr (.slice taC 2 tcC) tabL) ∧ Hid (IntOwn wr lr hr (.slice paC d pcC) xs) ∧ Hid (OwnTrains wr loU hiU aU ts) ∧ Hid (OwnTrains wr lo hi aC2 ts) ∧ Hid (PtOwn wr lr2 hr2 (.slice taD 2 tcD) tabL) ∧ Hid (Sink x5 x6 B T2 Wz vl j)) (fun i _ => 200 - (intOf i).toNat)
      case atStart => exact ⟨0, W, vq0, aS, cS, taq, paq, tcq, pcq, loS, hiS, loq, hiq, Nat.zero_le _, rfl, ⟨hwS.1, .inl hwS.2⟩, .inl hwq.2, hord.2.2.2.2, HX, KL, KR, KU, KQ, KS, OP, OI, OU, OS, OQ, HSK⟩
      case round =>
        clear HX KL KR KU KQ KS OP OI OU OS OQ HSK hwS
        obtain ⟨j, Wz, vl, aC2, cC2, taD, paD, tcD, pcD, lo2, hi2, lr2, hr2, hj, rfl, hwo2, hwr2, hwz2, HX, KL, KR, KU, KQ, KS, OP, OI, OU, OS, OQ, HS⟩ := hrel
        obtain ⟨wb, rfl⟩ : ∃ x, x = wr := ⟨_, rfl⟩
        have HIN2 := Lib.hid (show ∀ w : World, IntsAt w paD [] from fun w k h => absurd h (Nat.not_lt_zero _))
        have hsk := HS.out
        unfold Sink at hsk
        obtain ⟨tb1, tb2, tb3, tb4, tb5, _⟩ := hsk
        have hvli : -9223372036854775808 ≤ vl ∧ vl ≤ 9223372036854775807 := by omega
        by_cases hlt2 : j < 200
        case pos =>
          have hltz2 : (j : Int) < 200 := by omega
          obtain ⟨W3, v3, hf1, hf2, hf3⟩ := sink_round HL.out hT2b HS.out
          have HF1 := Lib.hid hf1; have HF3 := Lib.hid hf3; clear hf1 hf3
          have cS0 : wb.cell? ⟨bS, 0, none⟩ = some (.int .i64 x0) := KS.out.cell rfl
          have cS1 : wb.cell? ⟨bS, 1, none⟩ = some (.int .i64 x1) := KS.out.cell rfl
          have cS2 : wb.cell? ⟨bS, 2, none⟩ = some (.int .i64 x2) := KS.out.cell rfl
          have cS3 : wb.cell? ⟨bS, 3, none⟩ = some (.int .i64 x3) := KS.out.cell rfl
          have cS4 : wb.cell? ⟨bS, 4, none⟩ = some (.int .i64 B) := KS.out.cell rfl
          have cS5 : wb.cell? ⟨bS, 5, none⟩ = some (.int .i64 x5) := KS.out.cell rfl
          have cS6 : wb.cell? ⟨bS, 6, none⟩ = some (.int .i64 x6) := KS.out.cell rfl
          have cS7 : wb.cell? ⟨bS, 7, none⟩ = some (.int .i64 Wz) := KS.out.cell rfl
          have cS8 : wb.cell? ⟨bS, 8, none⟩ = some (.int .i64 0) := KS.out.cell rfl
          have cS9 : wb.cell? ⟨bS, 9, none⟩ = some (.slice aC2 n1 cC2) := KS.out.cell rfl
          have cQ0 : wb.cell? ⟨bQ, 0, none⟩ = some (.slice taD 2 tcD) := KQ.out.cell rfl
          have cQ1 : wb.cell? ⟨bQ, 1, none⟩ = some (.int .i64 vl) := KQ.out.cell rfl
          have cQ2 : wb.cell? ⟨bQ, 2, none⟩ = some (.slice paD 0 pcD) := KQ.out.cell rfl
          go_wp2_with fail
          with_reducible refine (implDrain_any W3 v3 [] _ _ _ _ _ _ _ _ _ _ n1 _ ts _ _ 2 _ 0 _ _ tabL [] _ HN1.out hn1 HTS.out OS.out.trains HT2.out (by omega) HP0.out (by omega) OQ.out.at (HIN2.out _) hvli trivial trivial HF1.out).mono ?_
          rintro e w41 ⟨a6, c6, a7, c7, a8, c8, rfl, hLR, hb⟩
          clear cS0 cS1 cS2 cS3 cS4 cS5 cS6 cS7 cS8 cS9 cQ0 cQ1 cQ2
          obtain ⟨mid, hmid, hoT, mid2, hmid2, hoP, hoI⟩ := hLR
          have PT := Lib.hid hoT; have PP := Lib.hid hoP; clear hoT hoP hoI
          replace HX := Lib.hid (HX.out.trans hb)
          replace KL := Lib.hid (KL.out.ext hb)
          replace KR := Lib.hid (KR.out.ext hb)
          replace KU := Lib.hid (KU.out.ext hb)
          replace KQ := Lib.hid (KQ.out.ext hb)
          replace KS := Lib.hid (KS.out.ext hb)
          replace OP := Lib.hid (OP.out.ext hb)
          replace OI := Lib.hid (OI.out.ext hb)
          replace OU := Lib.hid (OU.out.ext hb)
          replace OS := Lib.hid (OS.out.ext hb)
          replace OQ := Lib.hid (OQ.out.ext hb)
          have zz41 := hb.size
          clear hb
          clear OS
          clear OQ
          have hx6 : 50 ≤ x6 ∧ x6 ≤ 5000 := by have := HLK.out.h6; omega
          have q1 : decide (Wz < W3) = false := decide_eq_false (by omega)
          have q2 : IntKind.i64.wrap (Wz - W3) = Wz - W3 := IntWalk.i64_in _ (by omega)
          have q3 : decide (x6 < Wz - W3) = false := decide_eq_false (by omega)
          have lS := KS.out.lt; have lQ := KQ.out.lt; have lL := KL.out.lt
          have cS0 : w41.cell? ⟨bS, 0, none⟩ = some (.int .i64 x0) := KS.out.cell rfl
          have fS0 := KS.out.frozen 0
          have cS1 : w41.cell? ⟨bS, 1, none⟩ = some (.int .i64 x1) := KS.out.cell rfl
          have fS1 := KS.out.frozen 1
          have cS2 : w41.cell? ⟨bS, 2, none⟩ = some (.int .i64 x2) := KS.out.cell rfl
          have fS2 := KS.out.frozen 2
          have cS3 : w41.cell? ⟨bS, 3, none⟩ = some (.int .i64 x3) := KS.out.cell rfl
          have fS3 := KS.out.frozen 3
          have cS4 : w41.cell? ⟨bS, 4, none⟩ = some (.int .i64 B) := KS.out.cell rfl
          have fS4 := KS.out.frozen 4
          have cS5 : w41.cell? ⟨bS, 5, none⟩ = some (.int .i64 x5) := KS.out.cell rfl
          have fS5 := KS.out.frozen 5
          have cS6 : w41.cell? ⟨bS, 6, none⟩ = some (.int .i64 x6) := KS.out.cell rfl
          have fS6 := KS.out.frozen 6
          have cS7 : w41.cell? ⟨bS, 7, none⟩ = some (.int .i64 Wz) := KS.out.cell rfl
          have fS7 := KS.out.frozen 7
          have cS8 : w41.cell? ⟨bS, 8, none⟩ = some (.int .i64 0) := KS.out.cell rfl
          have fS8 := KS.out.frozen 8
          have cS9 : w41.cell? ⟨bS, 9, none⟩ = some (.slice aC2 n1 cC2) := KS.out.cell rfl
          have fS9 := KS.out.frozen 9
          have cQ0 : w41.cell? ⟨bQ, 0, none⟩ = some (.slice taD 2 tcD) := KQ.out.cell rfl
          have fQ0 := KQ.out.frozen 0
          have cQ1 : w41.cell? ⟨bQ, 1, none⟩ = some (.int .i64 vl) := KQ.out.cell rfl
          have fQ1 := KQ.out.frozen 1
          have cQ2 : w41.cell? ⟨bQ, 2, none⟩ = some (.slice paD 0 pcD) := KQ.out.cell rfl
          have fQ2 := KQ.out.frozen 2
          have cL0 : w41.cell? ⟨bL, 0, none⟩ = some (.int .i64 x0) := KL.out.cell rfl
          have cL1 : w41.cell? ⟨bL, 1, none⟩ = some (.int .i64 x1) := KL.out.cell rfl
          have cL2 : w41.cell? ⟨bL, 2, none⟩ = some (.int .i64 x2) := KL.out.cell rfl
          have cL3 : w41.cell? ⟨bL, 3, none⟩ = some (.int .i64 x3) := KL.out.cell rfl
          have cL4 : w41.cell? ⟨bL, 4, none⟩ = some (.int .i64 B) := KL.out.cell rfl
          have cL5 : w41.cell? ⟨bL, 5, none⟩ = some (.int .i64 x5) := KL.out.cell rfl
          have cL6 : w41.cell? ⟨bL, 6, none⟩ = some (.int .i64 x6) := KL.out.cell rfl
          have cL7 : w41.cell? ⟨bL, 7, none⟩ = some (.int .i64 W) := KL.out.cell rfl
          have cL8 : w41.cell? ⟨bL, 8, none⟩ = some (.int .i64 0) := KL.out.cell rfl
          have cL9 : w41.cell? ⟨bL, 9, none⟩ = some (.slice aC n1 cC) := KL.out.cell rfl
          go_wp2
          clear cS0 fS0 cS1 fS1 cS2 fS2 cS3 fS3 cS4 fS4 cS5 fS5 cS6 fS6 cS7 fS7 cS8 fS8 cS9 fS9 cQ0 fQ0 cQ1 fQ1 cQ2 fQ2
          clear cL0 cL1 cL2 cL3 cL4 cL5 cL6 cL7 cL8 cL9
          obtain ⟨w42, hw42⟩ : ∃ x, x = putAt (putAt (w41) bS 0 [.int .i64 x0, .int .i64 x1, .int .i64 x2, .int .i64 x3, .int .i64 B, .int .i64 x5, .int .i64 x6, .int .i64 W3, .int .i64 0, .slice a6 n1 c6]) bQ 0 [.slice a7 2 c7, .int .i64 v3, .slice a8 0 c8] := ⟨_, rfl⟩
          have en : (((((((((((((w41.setCell ⟨bS, 0, none⟩ (.int .i64 x0)).setCell ⟨bS, 1, none⟩ (.int .i64 x1)).setCell ⟨bS, 2, none⟩ (.int .i64 x2)).setCell ⟨bS, 3, none⟩ (.int .i64 x3)).setCell ⟨bS, 4, none⟩ (.int .i64 B)).setCell ⟨bS, 5, none⟩ (.int .i64 x5)).setCell ⟨bS, 6, none⟩ (.int .i64 x6)).setCell ⟨bS, 7, none⟩ (.int .i64 W3)).setCell ⟨bS, 8, none⟩ (.int .i64 0)).setCell ⟨bS, 9, none⟩ (.slice a6 n1 c6)).setCell ⟨bQ, 0, none⟩ (.slice a7 2 c7)).setCell ⟨bQ, 1, none⟩ (.int .i64 v3)).setCell ⟨bQ, 2, none⟩ (.slice a8 0 c8)) = w42 := (by rw [hw42]; rfl)
          rw [en]; clear en
          have zw42 : w42.heap.size = w41.heap.size := by rw [hw42, put_size, put_size]
          replace HX := Lib.hid (show Ext w w42 by rw [hw42]; exact put_ext (by omega) _ _ _ (put_ext (by omega) _ _ _ (HX.out)))
          replace KL := Lib.hid (show RowAt w42 (bL) 26 _ by rw [hw42]; exact put_other (by omega) _ _ _ (put_other (by omega) _ _ _ (KL.out)))
          replace KR := Lib.hid (show RowAt w42 (bR) 33 _ by rw [hw42]; exact put_other (by omega) _ _ _ (put_other (by omega) _ _ _ (KR.out)))
          replace KU := Lib.hid (show RowAt w42 (bU) 26 _ by rw [hw42]; exact put_other (by omega) _ _ _ (put_other (by omega) _ _ _ (KU.out)))
          replace KQ := Lib.hid (RowAt.cast (c' := #[.slice a7 2 c7, .int .i64 v3, .slice a8 0 c8]) (show RowAt w42 (bQ) 33 (putArr #[.slice taD 2 tcD, .int .i64 vl, .slice paD 0 pcD] 0 [.slice a7 2 c7, .int .i64 v3, .slice a8 0 c8]) by rw [hw42]; exact put_at _ _ _ _ (put_other (by omega) _ _ _ (KQ.out))) (by simp [putArr]))
          replace KS := Lib.hid (RowAt.cast (c' := #[.int .i64 x0, .int .i64 x1, .int .i64 x2, .int .i64 x3, .int .i64 B, .int .i64 x5, .int .i64 x6, .int .i64 W3, .int .i64 0, .slice a6 n1 c6]) (show RowAt w42 (bS) 26 (putArr #[.int .i64 x0, .int .i64 x1, .int .i64 x2, .int .i64 x3, .int .i64 B, .int .i64 x5, .int .i64 x6, .int .i64 Wz, .int .i64 0, .slice aC2 n1 cC2] 0 [.int .i64 x0, .int .i64 x1, .int .i64 x2, .int .i64 x3, .int .i64 B, .int .i64 x5, .int .i64 x6, .int .i64 W3, .int .i64 0, .slice a6 n1 c6]) by rw [hw42]; exact put_other (by omega) _ _ _ (put_at _ _ _ _ (KS.out))) (by simp [putArr]))
          replace OP := Lib.hid (OP.out.keep (w' := w42) (Nat.le_refl _) (Nat.le_refl _) (by rw [hw42]; exact fun B t c h1 h2 hr => put_kept (by omega) B t c h1 h2 (put_kept (by omega) B t c h1 h2 (hr))))
          replace OI := Lib.hid (OI.out.keep (w' := w42) (Nat.le_refl _) (Nat.le_refl _) (by rw [hw42]; exact fun B t c h1 h2 hr => put_kept (by omega) B t c h1 h2 (put_kept (by omega) B t c h1 h2 (hr))))
          replace OU := Lib.hid (OU.out.keep (w' := w42) (Nat.le_refl _) (Nat.le_refl _) (by rw [hw42]; exact fun B t c h1 h2 hr => put_kept (by omega) B t c h1 h2 (put_kept (by omega) B t c h1 h2 (hr))))
          replace PT := Lib.hid (PT.out.keep (w' := w42) (Nat.le_refl _) (Nat.le_refl _) (by rw [hw42]; exact fun B t c h1 h2 hr => put_kept (by omega) B t c h1 h2 (put_kept (by omega) B t c h1 h2 (hr))))
          replace PP := Lib.hid (PP.out.keep (w' := w42) (Nat.le_refl _) (Nat.le_refl _) (by rw [hw42]; exact fun B t c h1 h2 hr => put_kept (by omega) B t c h1 h2 (put_kept (by omega) B t c h1 h2 (hr))))
          clear hw42
          have QX := Lib.hid ((RowAt.new w42 26 #[.int .i64 x0, .int .i64 x1, .int .i64 x2, .int .i64 x3, .int .i64 B, .int .i64 x5, .int .i64 x6, .int .i64 W3, .int .i64 0, .slice a6 n1 c6]).ext ((Ext.refl _).alloc (.cells #[.slice a7 2 c7, .int .i64 v3, .slice a8 0 c8] 33)))
          have QY := Lib.hid ((RowAt.new (w42.alloc (.cells #[.int .i64 x0, .int .i64 x1, .int .i64 x2, .int .i64 x3, .int .i64 B, .int .i64 x5, .int .i64 x6, .int .i64 W3, .int .i64 0, .slice a6 n1 c6] 26)) 33 #[.slice a7 2 c7, .int .i64 v3, .slice a8 0 c8]).ext (Ext.refl _))
          simp only [World.size_alloc] at QY
          have hal := (((Ext.refl w42).alloc (.cells #[.int .i64 x0, .int .i64 x1, .int .i64 x2, .int .i64 x3, .int .i64 B, .int .i64 x5, .int .i64 x6, .int .i64 W3, .int .i64 0, .slice a6 n1 c6] 26)).alloc (.cells #[.slice a7 2 c7, .int .i64 v3, .slice a8 0 c8] 33))
          obtain ⟨bX, hbX⟩ : ∃ x, x = w42.heap.size := ⟨_, rfl⟩
          obtain ⟨w43, hw43⟩ : ∃ x, x = ((w42.alloc (.cells #[.int .i64 x0, .int .i64 x1, .int .i64 x2, .int .i64 x3, .int .i64 B, .int .i64 x5, .int .i64 x6, .int .i64 W3, .int .i64 0, .slice a6 n1 c6] 26)).alloc (.cells #[.slice a7 2 c7, .int .i64 v3, .slice a8 0 c8] 33)) := ⟨_, rfl⟩
          have sX : w43.heap.size = bX + 1 + 1 := by rw [hw43, hbX]; simp
          have mX : w42.heap.size ≤ bX := Nat.le_of_eq hbX.symm; have nX : bX ≤ w42.heap.size := Nat.le_of_eq hbX
          rw [← hbX] at QX QY
          rw [← hw43] at QX QY hal
          (try simp only [World.size_alloc])
          (try rw [← hw43])
          (try rw [← hbX])
          clear hw43 hbX
          replace HX := Lib.hid (HX.out.trans hal)
          replace KL := Lib.hid (KL.out.ext hal)
          replace KR := Lib.hid (KR.out.ext hal)
          replace KU := Lib.hid (KU.out.ext hal)
          replace KQ := Lib.hid (KQ.out.ext hal)
          replace KS := Lib.hid (KS.out.ext hal)
          replace OP := Lib.hid (OP.out.ext hal)
          replace OI := Lib.hid (OI.out.ext hal)
          replace OU := Lib.hid (OU.out.ext hal)
          replace PT := Lib.hid (PT.out.ext hal)
          replace PP := Lib.hid (PP.out.ext hal)
          have zz43 := hal.size
          clear hal
          have KX := QX; clear QX
          have KY := QY; clear QY
          go_roundw
          case rel => exact ⟨j + 1, W3, v3, a6, c6, a7, a8, c7, c8, wb.heap.size, mid, mid, mid2, by omega, by go_num, ⟨by omega, .inr (by omega)⟩, .inr (by omega), by omega, HX, KL, KR, KU, KQ, KS, OP, OI, OU, PT, PP, HF3⟩
          case measure => simp [intOf]; omega
        case neg =>
          obtain rfl : j = 200 := by omega
          obtain ⟨g, is, hob, hg1, hg2⟩ := open_below (T := T) (Wb := W) (ts := ts) (v := v) (s := s) (xs := xs) HL.out ⟨by omega, by omega⟩ HP.out hT2b (show Sink x5 x6 B T2 Wz vl 200 from HS.out)
          have HOB := Lib.hid hob; clear hob
          obtain ⟨TR, hTR⟩ : ∃ t, v + s = t := ⟨_, rfl⟩
          have HTR := Lib.hid (show sumFrom v xs = TR by rw [sum_from, HP.out.2.2]; exact hTR)
          have HTQ := Lib.hid (show sumFrom vl [] = vl from rfl)
          have HRQ2 := Lib.hid (show reachOk tabL vl [] = true from (pipe_start (d := 0) (by decide)).reach (v := vl) (by omega) (by omega))
          have hsum : (Wz + TR + vl == SM) = true := by rw [beq_iff_eq, HSM2.out, ← hTR]; omega
          have hTRb : 0 ≤ TR ∧ TR ≤ 400000 := by omega
          obtain ⟨ch, hch⟩ : ∃ c, B + Wz / x5 = c := ⟨_, rfl⟩
          obtain ⟨lev, hlev⟩ : ∃ c, lvl vl = c := ⟨_, rfl⟩
          have HCH := Lib.hid (show chamber x0 x1 x2 x3 B x5 x6 Wz 0 ts = ch from (HL.out.cham ⟨by omega, by omega⟩ (by omega)).trans hch)
          have HLV := Lib.hid (show levelOf tabL vl [] = lev from (level_L HRQ2.out (by omega)).trans hlev)
          rw [hch, hlev] at hg2
          have HG1 := Lib.hid hg1; have HG2 := Lib.hid hg2; clear hg1 hg2 hch hlev hTR
          have HFO := Lib.hid (show fillRes x0 x1 x2 x3 B x5 x6 W 1 ts tabL v xs = (W, v) from fill_open)
          have cS0 : wb.cell? ⟨bS, 0, none⟩ = some (.int .i64 x0) := KS.out.cell rfl
          have cS1 : wb.cell? ⟨bS, 1, none⟩ = some (.int .i64 x1) := KS.out.cell rfl
          have cS2 : wb.cell? ⟨bS, 2, none⟩ = some (.int .i64 x2) := KS.out.cell rfl
          have cS3 : wb.cell? ⟨bS, 3, none⟩ = some (.int .i64 x3) := KS.out.cell rfl
          have cS4 : wb.cell? ⟨bS, 4, none⟩ = some (.int .i64 B) := KS.out.cell rfl
          have cS5 : wb.cell? ⟨bS, 5, none⟩ = some (.int .i64 x5) := KS.out.cell rfl
          have cS6 : wb.cell? ⟨bS, 6, none⟩ = some (.int .i64 x6) := KS.out.cell rfl
          have cS7 : wb.cell? ⟨bS, 7, none⟩ = some (.int .i64 Wz) := KS.out.cell rfl
          have cS8 : wb.cell? ⟨bS, 8, none⟩ = some (.int .i64 0) := KS.out.cell rfl
          have cS9 : wb.cell? ⟨bS, 9, none⟩ = some (.slice aC2 n1 cC2) := KS.out.cell rfl
          have cR0 : wb.cell? ⟨bR, 0, none⟩ = some (.slice taC 2 tcC) := KR.out.cell rfl
          have cR1 : wb.cell? ⟨bR, 1, none⟩ = some (.int .i64 v) := KR.out.cell rfl
          have cR2 : wb.cell? ⟨bR, 2, none⟩ = some (.slice paC d pcC) := KR.out.cell rfl
          have cQ0 : wb.cell? ⟨bQ, 0, none⟩ = some (.slice taD 2 tcD) := KQ.out.cell rfl
          have cQ1 : wb.cell? ⟨bQ, 1, none⟩ = some (.int .i64 vl) := KQ.out.cell rfl
          have cQ2 : wb.cell? ⟨bQ, 2, none⟩ = some (.slice paD 0 pcD) := KQ.out.cell rfl
          go_wp2_with fail
          with_reducible refine (implOpen_any g is _ _ _ _ _ _ _ _ _ _ n1 _ ts _ _ 2 _ d _ _ tabL xs _ _ 2 _ 0 _ _ tabL [] 2 _ HN1.out hn1 HTS.out OS.out.trains HT2.out (by omega) HXD.out (by omega) OP.out.at OI.out.at hvi HT2.out (by omega) HP0.out (by omega) OQ.out.at (HIN2.out _) hvli (by unfold I64; omega) HOB.out).mono ?_
          rintro e w61 ⟨aD, cD, rfl, hoD, hb⟩
          clear cS0 cS1 cS2 cS3 cS4 cS5 cS6 cS7 cS8 cS9 cR0 cR1 cR2 cQ0 cQ1 cQ2
          clear hoD
          replace HX := Lib.hid (HX.out.trans hb)
          replace KL := Lib.hid (KL.out.ext hb)
          replace KR := Lib.hid (KR.out.ext hb)
          replace KU := Lib.hid (KU.out.ext hb)
          replace KQ := Lib.hid (KQ.out.ext hb)
          replace KS := Lib.hid (KS.out.ext hb)
          replace OP := Lib.hid (OP.out.ext hb)
          replace OI := Lib.hid (OI.out.ext hb)
          replace OU := Lib.hid (OU.out.ext hb)
          replace OS := Lib.hid (OS.out.ext hb)
          replace OQ := Lib.hid (OQ.out.ext hb)
          have zz61 := hb.size
          clear hb
          have e0 : (w61.alloc (.cells #[.int .i64 x0, .int .i64 x1, .int .i64 x2, .int .i64 x3, .int .i64 B, .int .i64 x5, .int .i64 x6, .int .i64 Wz, .int .i64 g, .slice aD n1 cD] 26)).cell? ⟨bU, 0, none⟩ = some (.int .i64 x0) := (KU.out.ext ((Ext.refl w61).alloc _)).cell rfl
          have e1 : (w61.alloc (.cells #[.int .i64 x0, .int .i64 x1, .int .i64 x2, .int .i64 x3, .int .i64 B, .int .i64 x5, .int .i64 x6, .int .i64 Wz, .int .i64 g, .slice aD n1 cD] 26)).cell? ⟨bU, 1, none⟩ = some (.int .i64 x1) := (KU.out.ext ((Ext.refl w61).alloc _)).cell rfl
          have e2 : (w61.alloc (.cells #[.int .i64 x0, .int .i64 x1, .int .i64 x2, .int .i64 x3, .int .i64 B, .int .i64 x5, .int .i64 x6, .int .i64 Wz, .int .i64 g, .slice aD n1 cD] 26)).cell? ⟨bU, 2, none⟩ = some (.int .i64 x2) := (KU.out.ext ((Ext.refl w61).alloc _)).cell rfl
          have e3 : (w61.alloc (.cells #[.int .i64 x0, .int .i64 x1, .int .i64 x2, .int .i64 x3, .int .i64 B, .int .i64 x5, .int .i64 x6, .int .i64 Wz, .int .i64 g, .slice aD n1 cD] 26)).cell? ⟨bU, 3, none⟩ = some (.int .i64 x3) := (KU.out.ext ((Ext.refl w61).alloc _)).cell rfl
          have e4 : (w61.alloc (.cells #[.int .i64 x0, .int .i64 x1, .int .i64 x2, .int .i64 x3, .int .i64 B, .int .i64 x5, .int .i64 x6, .int .i64 Wz, .int .i64 g, .slice aD n1 cD] 26)).cell? ⟨bU, 4, none⟩ = some (.int .i64 B) := (KU.out.ext ((Ext.refl w61).alloc _)).cell rfl
          have e5 : (w61.alloc (.cells #[.int .i64 x0, .int .i64 x1, .int .i64 x2, .int .i64 x3, .int .i64 B, .int .i64 x5, .int .i64 x6, .int .i64 Wz, .int .i64 g, .slice aD n1 cD] 26)).cell? ⟨bU, 5, none⟩ = some (.int .i64 x5) := (KU.out.ext ((Ext.refl w61).alloc _)).cell rfl
          have e6 : (w61.alloc (.cells #[.int .i64 x0, .int .i64 x1, .int .i64 x2, .int .i64 x3, .int .i64 B, .int .i64 x5, .int .i64 x6, .int .i64 Wz, .int .i64 g, .slice aD n1 cD] 26)).cell? ⟨bU, 6, none⟩ = some (.int .i64 x6) := (KU.out.ext ((Ext.refl w61).alloc _)).cell rfl
          have e7 : (w61.alloc (.cells #[.int .i64 x0, .int .i64 x1, .int .i64 x2, .int .i64 x3, .int .i64 B, .int .i64 x5, .int .i64 x6, .int .i64 Wz, .int .i64 g, .slice aD n1 cD] 26)).cell? ⟨bU, 7, none⟩ = some (.int .i64 W) := (KU.out.ext ((Ext.refl w61).alloc _)).cell rfl
          have e8 : (w61.alloc (.cells #[.int .i64 x0, .int .i64 x1, .int .i64 x2, .int .i64 x3, .int .i64 B, .int .i64 x5, .int .i64 x6, .int .i64 Wz, .int .i64 g, .slice aD n1 cD] 26)).cell? ⟨bU, 8, none⟩ = some (.int .i64 1) := (KU.out.ext ((Ext.refl w61).alloc _)).cell rfl
          have e9 : (w61.alloc (.cells #[.int .i64 x0, .int .i64 x1, .int .i64 x2, .int .i64 x3, .int .i64 B, .int .i64 x5, .int .i64 x6, .int .i64 Wz, .int .i64 g, .slice aD n1 cD] 26)).cell? ⟨bU, 9, none⟩ = some (.slice aU n1 cU) := (KU.out.ext ((Ext.refl w61).alloc _)).cell rfl
          have e10 : (w61.alloc (.cells #[.int .i64 x0, .int .i64 x1, .int .i64 x2, .int .i64 x3, .int .i64 B, .int .i64 x5, .int .i64 x6, .int .i64 Wz, .int .i64 g, .slice aD n1 cD] 26)).cell? ⟨bR, 0, none⟩ = some (.slice taC 2 tcC) := (KR.out.ext ((Ext.refl w61).alloc _)).cell rfl
          have e11 : (w61.alloc (.cells #[.int .i64 x0, .int .i64 x1, .int .i64 x2, .int .i64 x3, .int .i64 B, .int .i64 x5, .int .i64 x6, .int .i64 Wz, .int .i64 g, .slice aD n1 cD] 26)).cell? ⟨bR, 1, none⟩ = some (.int .i64 v) := (KR.out.ext ((Ext.refl w61).alloc _)).cell rfl
          have e12 : (w61.alloc (.cells #[.int .i64 x0, .int .i64 x1, .int .i64 x2, .int .i64 x3, .int .i64 B, .int .i64 x5, .int .i64 x6, .int .i64 Wz, .int .i64 g, .slice aD n1 cD] 26)).cell? ⟨bR, 2, none⟩ = some (.slice paC d pcC) := (KR.out.ext ((Ext.refl w61).alloc _)).cell rfl
          go_wp2_with fail
          clear e0 e1 e2 e3 e4 e5 e6 e7 e8 e9 e10 e11 e12
          have QD := Lib.hid ((RowAt.new w61 26 #[.int .i64 x0, .int .i64 x1, .int .i64 x2, .int .i64 x3, .int .i64 B, .int .i64 x5, .int .i64 x6, .int .i64 Wz, .int .i64 g, .slice aD n1 cD]).ext (Ext.refl _))
          have hal := ((Ext.refl w61).alloc (.cells #[.int .i64 x0, .int .i64 x1, .int .i64 x2, .int .i64 x3, .int .i64 B, .int .i64 x5, .int .i64 x6, .int .i64 Wz, .int .i64 g, .slice aD n1 cD] 26))
          obtain ⟨bD, hbD⟩ : ∃ x, x = w61.heap.size := ⟨_, rfl⟩
          obtain ⟨w62, hw62⟩ : ∃ x, x = (w61.alloc (.cells #[.int .i64 x0, .int .i64 x1, .int .i64 x2, .int .i64 x3, .int .i64 B, .int .i64 x5, .int .i64 x6, .int .i64 Wz, .int .i64 g, .slice aD n1 cD] 26)) := ⟨_, rfl⟩
          have sD : w62.heap.size = bD + 1 := by rw [hw62, hbD]; simp
          have mD : w61.heap.size ≤ bD := Nat.le_of_eq hbD.symm; have nD : bD ≤ w61.heap.size := Nat.le_of_eq hbD
          rw [← hbD] at QD
          rw [← hw62] at QD hal
          (try simp only [World.size_alloc])
          (try rw [← hw62])
          (try rw [← hbD])
          clear hw62 hbD
          replace HX := Lib.hid (HX.out.trans hal)
          replace KL := Lib.hid (KL.out.ext hal)
          replace KR := Lib.hid (KR.out.ext hal)
          replace KU := Lib.hid (KU.out.ext hal)
          replace KQ := Lib.hid (KQ.out.ext hal)
          replace KS := Lib.hid (KS.out.ext hal)
          replace OP := Lib.hid (OP.out.ext hal)
          replace OI := Lib.hid (OI.out.ext hal)
          replace OU := Lib.hid (OU.out.ext hal)
          replace OS := Lib.hid (OS.out.ext hal)
          replace OQ := Lib.hid (OQ.out.ext hal)
          have zz62 := hal.size
          clear hal
          have KD := QD; clear QD
          with_reducible refine (implFill_any W v _ _ _ _ _ _ _ _ _ _ n1 _ ts _ _ 2 _ d _ _ tabL xs _ HN1.out hn1 HTS.out OU.out.trains HT2.out (by omega) HXD.out (by omega) OP.out.at OI.out.at hvi trivial trivial HFO.out).mono ?_
          rintro e w63 ⟨a6, c6, a7, c7, a8, c8, rfl, hLR, hb⟩
          clear hLR
          replace HX := Lib.hid (HX.out.trans hb)
          replace KL := Lib.hid (KL.out.ext hb)
          replace KR := Lib.hid (KR.out.ext hb)
          replace KU := Lib.hid (KU.out.ext hb)
          replace KQ := Lib.hid (KQ.out.ext hb)
          replace KS := Lib.hid (KS.out.ext hb)
          replace KD := Lib.hid (KD.out.ext hb)
          replace OP := Lib.hid (OP.out.ext hb)
          replace OI := Lib.hid (OI.out.ext hb)
          replace OU := Lib.hid (OU.out.ext hb)
          replace OS := Lib.hid (OS.out.ext hb)
          replace OQ := Lib.hid (OQ.out.ext hb)
          have zz63 := hb.size
          clear hb
          go_wp2_with fail
          have QX := Lib.hid ((RowAt.new w63 26 #[.int .i64 x0, .int .i64 x1, .int .i64 x2, .int .i64 x3, .int .i64 B, .int .i64 x5, .int .i64 x6, .int .i64 W, .int .i64 1, .slice a6 n1 c6]).ext ((Ext.refl _).alloc (.cells #[.slice a7 2 c7, .int .i64 v, .slice a8 d c8] 33)))
          have QY := Lib.hid ((RowAt.new (w63.alloc (.cells #[.int .i64 x0, .int .i64 x1, .int .i64 x2, .int .i64 x3, .int .i64 B, .int .i64 x5, .int .i64 x6, .int .i64 W, .int .i64 1, .slice a6 n1 c6] 26)) 33 #[.slice a7 2 c7, .int .i64 v, .slice a8 d c8]).ext (Ext.refl _))
          simp only [World.size_alloc] at QY
          have hal := (((Ext.refl w63).alloc (.cells #[.int .i64 x0, .int .i64 x1, .int .i64 x2, .int .i64 x3, .int .i64 B, .int .i64 x5, .int .i64 x6, .int .i64 W, .int .i64 1, .slice a6 n1 c6] 26)).alloc (.cells #[.slice a7 2 c7, .int .i64 v, .slice a8 d c8] 33))
          obtain ⟨bX, hbX⟩ : ∃ x, x = w63.heap.size := ⟨_, rfl⟩
          obtain ⟨w64, hw64⟩ : ∃ x, x = ((w63.alloc (.cells #[.int .i64 x0, .int .i64 x1, .int .i64 x2, .int .i64 x3, .int .i64 B, .int .i64 x5, .int .i64 x6, .int .i64 W, .int .i64 1, .slice a6 n1 c6] 26)).alloc (.cells #[.slice a7 2 c7, .int .i64 v, .slice a8 d c8] 33)) := ⟨_, rfl⟩
          have sX : w64.heap.size = bX + 1 + 1 := by rw [hw64, hbX]; simp
          have mX : w63.heap.size ≤ bX := Nat.le_of_eq hbX.symm; have nX : bX ≤ w63.heap.size := Nat.le_of_eq hbX
          rw [← hbX] at QX QY
          rw [← hw64] at QX QY hal
          (try simp only [World.size_alloc])
          (try rw [← hw64])
          (try rw [← hbX])
          clear hw64 hbX
          replace HX := Lib.hid (HX.out.trans hal)
          replace KL := Lib.hid (KL.out.ext hal)
          replace KR := Lib.hid (KR.out.ext hal)
          replace KU := Lib.hid (KU.out.ext hal)
          replace KQ := Lib.hid (KQ.out.ext hal)
          replace KS := Lib.hid (KS.out.ext hal)
          replace KD := Lib.hid (KD.out.ext hal)
          replace OP := Lib.hid (OP.out.ext hal)
          replace OI := Lib.hid (OI.out.ext hal)
          replace OU := Lib.hid (OU.out.ext hal)
          replace OS := Lib.hid (OS.out.ext hal)
          replace OQ := Lib.hid (OQ.out.ext hal)
          have zz64 := hal.size
          clear hal
          have KX := QX; clear QX
          have KY := QY; clear QY
          cases is
          case false =>
            have hlc := HG2.out rfl
            have hlcz : decide (ch < lev) = true := decide_eq_true hlc
            have cS0 : ∀ y : Aft w64, y.1.cell? ⟨bS, 0, none⟩ = some (.int .i64 x0) := fun y => (KS.out.ext y.2).cell rfl
            have cS1 : ∀ y : Aft w64, y.1.cell? ⟨bS, 1, none⟩ = some (.int .i64 x1) := fun y => (KS.out.ext y.2).cell rfl
            have cS2 : ∀ y : Aft w64, y.1.cell? ⟨bS, 2, none⟩ = some (.int .i64 x2) := fun y => (KS.out.ext y.2).cell rfl
            have cS3 : ∀ y : Aft w64, y.1.cell? ⟨bS, 3, none⟩ = some (.int .i64 x3) := fun y => (KS.out.ext y.2).cell rfl
            have cS4 : ∀ y : Aft w64, y.1.cell? ⟨bS, 4, none⟩ = some (.int .i64 B) := fun y => (KS.out.ext y.2).cell rfl
            have cS5 : ∀ y : Aft w64, y.1.cell? ⟨bS, 5, none⟩ = some (.int .i64 x5) := fun y => (KS.out.ext y.2).cell rfl
            have cS6 : ∀ y : Aft w64, y.1.cell? ⟨bS, 6, none⟩ = some (.int .i64 x6) := fun y => (KS.out.ext y.2).cell rfl
            have cS7 : ∀ y : Aft w64, y.1.cell? ⟨bS, 7, none⟩ = some (.int .i64 Wz) := fun y => (KS.out.ext y.2).cell rfl
            have cS8 : ∀ y : Aft w64, y.1.cell? ⟨bS, 8, none⟩ = some (.int .i64 0) := fun y => (KS.out.ext y.2).cell rfl
            have cS9 : ∀ y : Aft w64, y.1.cell? ⟨bS, 9, none⟩ = some (.slice aC2 n1 cC2) := fun y => (KS.out.ext y.2).cell rfl
            have cR0 : ∀ y : Aft w64, y.1.cell? ⟨bR, 0, none⟩ = some (.slice taC 2 tcC) := fun y => (KR.out.ext y.2).cell rfl
            have cR1 : ∀ y : Aft w64, y.1.cell? ⟨bR, 1, none⟩ = some (.int .i64 v) := fun y => (KR.out.ext y.2).cell rfl
            have cR2 : ∀ y : Aft w64, y.1.cell? ⟨bR, 2, none⟩ = some (.slice paC d pcC) := fun y => (KR.out.ext y.2).cell rfl
            have cQ0 : ∀ y : Aft w64, y.1.cell? ⟨bQ, 0, none⟩ = some (.slice taD 2 tcD) := fun y => (KQ.out.ext y.2).cell rfl
            have cQ1 : ∀ y : Aft w64, y.1.cell? ⟨bQ, 1, none⟩ = some (.int .i64 vl) := fun y => (KQ.out.ext y.2).cell rfl
            have cQ2 : ∀ y : Aft w64, y.1.cell? ⟨bQ, 2, none⟩ = some (.slice paD 0 pcD) := fun y => (KQ.out.ext y.2).cell rfl
            have cD0 : ∀ y : Aft w64, y.1.cell? ⟨bD, 0, none⟩ = some (.int .i64 x0) := fun y => (KD.out.ext y.2).cell rfl
            have cD1 : ∀ y : Aft w64, y.1.cell? ⟨bD, 1, none⟩ = some (.int .i64 x1) := fun y => (KD.out.ext y.2).cell rfl
            have cD2 : ∀ y : Aft w64, y.1.cell? ⟨bD, 2, none⟩ = some (.int .i64 x2) := fun y => (KD.out.ext y.2).cell rfl
            have cD3 : ∀ y : Aft w64, y.1.cell? ⟨bD, 3, none⟩ = some (.int .i64 x3) := fun y => (KD.out.ext y.2).cell rfl
            have cD4 : ∀ y : Aft w64, y.1.cell? ⟨bD, 4, none⟩ = some (.int .i64 B) := fun y => (KD.out.ext y.2).cell rfl
            have cD5 : ∀ y : Aft w64, y.1.cell? ⟨bD, 5, none⟩ = some (.int .i64 x5) := fun y => (KD.out.ext y.2).cell rfl
            have cD6 : ∀ y : Aft w64, y.1.cell? ⟨bD, 6, none⟩ = some (.int .i64 x6) := fun y => (KD.out.ext y.2).cell rfl
            have cD7 : ∀ y : Aft w64, y.1.cell? ⟨bD, 7, none⟩ = some (.int .i64 Wz) := fun y => (KD.out.ext y.2).cell rfl
            have cD8 : ∀ y : Aft w64, y.1.cell? ⟨bD, 8, none⟩ = some (.int .i64 g) := fun y => (KD.out.ext y.2).cell rfl
            have cD9 : ∀ y : Aft w64, y.1.cell? ⟨bD, 9, none⟩ = some (.slice aD n1 cD) := fun y => (KD.out.ext y.2).cell rfl
            have cU0 : ∀ y : Aft w64, y.1.cell? ⟨bU, 0, none⟩ = some (.int .i64 x0) := fun y => (KU.out.ext y.2).cell rfl
            have cU1 : ∀ y : Aft w64, y.1.cell? ⟨bU, 1, none⟩ = some (.int .i64 x1) := fun y => (KU.out.ext y.2).cell rfl
            have cU2 : ∀ y : Aft w64, y.1.cell? ⟨bU, 2, none⟩ = some (.int .i64 x2) := fun y => (KU.out.ext y.2).cell rfl
            have cU3 : ∀ y : Aft w64, y.1.cell? ⟨bU, 3, none⟩ = some (.int .i64 x3) := fun y => (KU.out.ext y.2).cell rfl
            have cU4 : ∀ y : Aft w64, y.1.cell? ⟨bU, 4, none⟩ = some (.int .i64 B) := fun y => (KU.out.ext y.2).cell rfl
            have cU5 : ∀ y : Aft w64, y.1.cell? ⟨bU, 5, none⟩ = some (.int .i64 x5) := fun y => (KU.out.ext y.2).cell rfl
            have cU6 : ∀ y : Aft w64, y.1.cell? ⟨bU, 6, none⟩ = some (.int .i64 x6) := fun y => (KU.out.ext y.2).cell rfl
            have cU7 : ∀ y : Aft w64, y.1.cell? ⟨bU, 7, none⟩ = some (.int .i64 W) := fun y => (KU.out.ext y.2).cell rfl
            have cU8 : ∀ y : Aft w64, y.1.cell? ⟨bU, 8, none⟩ = some (.int .i64 1) := fun y => (KU.out.ext y.2).cell rfl
            have cU9 : ∀ y : Aft w64, y.1.cell? ⟨bU, 9, none⟩ = some (.slice aU n1 cU) := fun y => (KU.out.ext y.2).cell rfl
            have cX0 : ∀ y : Aft w64, y.1.cell? ⟨bX, 0, none⟩ = some (.int .i64 x0) := fun y => (KX.out.ext y.2).cell rfl
            have cX1 : ∀ y : Aft w64, y.1.cell? ⟨bX, 1, none⟩ = some (.int .i64 x1) := fun y => (KX.out.ext y.2).cell rfl
            have cX2 : ∀ y : Aft w64, y.1.cell? ⟨bX, 2, none⟩ = some (.int .i64 x2) := fun y => (KX.out.ext y.2).cell rfl
            have cX3 : ∀ y : Aft w64, y.1.cell? ⟨bX, 3, none⟩ = some (.int .i64 x3) := fun y => (KX.out.ext y.2).cell rfl
            have cX4 : ∀ y : Aft w64, y.1.cell? ⟨bX, 4, none⟩ = some (.int .i64 B) := fun y => (KX.out.ext y.2).cell rfl
            have cX5 : ∀ y : Aft w64, y.1.cell? ⟨bX, 5, none⟩ = some (.int .i64 x5) := fun y => (KX.out.ext y.2).cell rfl
            have cX6 : ∀ y : Aft w64, y.1.cell? ⟨bX, 6, none⟩ = some (.int .i64 x6) := fun y => (KX.out.ext y.2).cell rfl
            have cX7 : ∀ y : Aft w64, y.1.cell? ⟨bX, 7, none⟩ = some (.int .i64 W) := fun y => (KX.out.ext y.2).cell rfl
            have cX8 : ∀ y : Aft w64, y.1.cell? ⟨bX, 8, none⟩ = some (.int .i64 1) := fun y => (KX.out.ext y.2).cell rfl
            have cX9 : ∀ y : Aft w64, y.1.cell? ⟨bX, 9, none⟩ = some (.slice a6 n1 c6) := fun y => (KX.out.ext y.2).cell rfl
            have cY0 : ∀ y : Aft w64, y.1.cell? ⟨(bX + 1), 0, none⟩ = some (.slice a7 2 c7) := fun y => (KY.out.ext y.2).cell rfl
            have cY1 : ∀ y : Aft w64, y.1.cell? ⟨(bX + 1), 1, none⟩ = some (.int .i64 v) := fun y => (KY.out.ext y.2).cell rfl
            have cY2 : ∀ y : Aft w64, y.1.cell? ⟨(bX + 1), 2, none⟩ = some (.slice a8 d c8) := fun y => (KY.out.ext y.2).cell rfl
            (refine wp_region_aft w64 (Ext.refl _) (by kernel_rfl) (by kernel_rfl) ?_; (repeat (go_big_quiet_step ((first | (go_at_call 11; with_reducible exact aft_call (implChamber_any ch _ _ _ _ _ _ _ _ _ _ n1 _ ts _ HN1.out hn1 HTS.out (OS.out.trains.ext (Subtype.property _)) HCH.out)) | (go_at_call 12; with_reducible exact aft_call (implLevel_is lev _ _ _ _ _ _ _ tabL [] _ HT2.out (by unfold maxLen; omega) HP0.out (by unfold maxLen; omega) (OQ.out.at.ext (Subtype.property _)) (HIN2.out _) hvli HLV.out)) | (go_at_call 9; with_reducible exact aft_call (implTotal_any TR _ _ _ _ _ _ _ tabL xs _ HT2.out (by omega) HXD.out (by omega) (OP.out.at.ext (Subtype.property _)) (OI.out.at.ext (Subtype.property _)) hvi HRE.out HTR.out)) | (go_at_call 9; with_reducible exact aft_call (implTotal_any vl _ _ _ _ _ _ _ tabL [] _ HT2.out (by omega) HP0.out (by omega) (OQ.out.at.ext (Subtype.property _)) (HIN2.out _) hvli HRQ2.out HTQ.out)))))); refine wpQuiet_nil ?_; intro w2 hx2)
            obtain ⟨w65, hq⟩ : ∃ x, x = w2 := ⟨_, rfl⟩; subst hq
            clear cS0 cS1 cS2 cS3 cS4 cS5 cS6 cS7 cS8 cS9 cR0 cR1 cR2 cQ0 cQ1 cQ2 cD0 cD1 cD2 cD3 cD4 cD5 cD6 cD7 cD8 cD9 cU0 cU1 cU2 cU3 cU4 cU5 cU6 cU7 cU8 cU9 cX0 cX1 cX2 cX3 cX4 cX5 cX6 cX7 cX8 cX9 cY0 cY1 cY2
            replace HX := Lib.hid (HX.out.trans hx2)
            replace KL := Lib.hid (KL.out.ext hx2)
            replace KR := Lib.hid (KR.out.ext hx2)
            replace KU := Lib.hid (KU.out.ext hx2)
            replace KQ := Lib.hid (KQ.out.ext hx2)
            replace KS := Lib.hid (KS.out.ext hx2)
            replace KD := Lib.hid (KD.out.ext hx2)
            replace KX := Lib.hid (KX.out.ext hx2)
            replace KY := Lib.hid (KY.out.ext hx2)
            replace OP := Lib.hid (OP.out.ext hx2)
            replace OI := Lib.hid (OI.out.ext hx2)
            replace OU := Lib.hid (OU.out.ext hx2)
            replace OS := Lib.hid (OS.out.ext hx2)
            replace OQ := Lib.hid (OQ.out.ext hx2)
            have zz65 := hx2.size
            clear hx2
            go_wp2
            go_ret
            exact ⟨rfl, HX.out⟩
          case true =>
            have hgz : (g == 2) = true := beq_iff_eq.2 (HG1.out rfl)
            have cS0 : ∀ y : Aft w64, y.1.cell? ⟨bS, 0, none⟩ = some (.int .i64 x0) := fun y => (KS.out.ext y.2).cell rfl
            have cS1 : ∀ y : Aft w64, y.1.cell? ⟨bS, 1, none⟩ = some (.int .i64 x1) := fun y => (KS.out.ext y.2).cell rfl
            have cS2 : ∀ y : Aft w64, y.1.cell? ⟨bS, 2, none⟩ = some (.int .i64 x2) := fun y => (KS.out.ext y.2).cell rfl
            have cS3 : ∀ y : Aft w64, y.1.cell? ⟨bS, 3, none⟩ = some (.int .i64 x3) := fun y => (KS.out.ext y.2).cell rfl
            have cS4 : ∀ y : Aft w64, y.1.cell? ⟨bS, 4, none⟩ = some (.int .i64 B) := fun y => (KS.out.ext y.2).cell rfl
            have cS5 : ∀ y : Aft w64, y.1.cell? ⟨bS, 5, none⟩ = some (.int .i64 x5) := fun y => (KS.out.ext y.2).cell rfl
            have cS6 : ∀ y : Aft w64, y.1.cell? ⟨bS, 6, none⟩ = some (.int .i64 x6) := fun y => (KS.out.ext y.2).cell rfl
            have cS7 : ∀ y : Aft w64, y.1.cell? ⟨bS, 7, none⟩ = some (.int .i64 Wz) := fun y => (KS.out.ext y.2).cell rfl
            have cS8 : ∀ y : Aft w64, y.1.cell? ⟨bS, 8, none⟩ = some (.int .i64 0) := fun y => (KS.out.ext y.2).cell rfl
            have cS9 : ∀ y : Aft w64, y.1.cell? ⟨bS, 9, none⟩ = some (.slice aC2 n1 cC2) := fun y => (KS.out.ext y.2).cell rfl
            have cR0 : ∀ y : Aft w64, y.1.cell? ⟨bR, 0, none⟩ = some (.slice taC 2 tcC) := fun y => (KR.out.ext y.2).cell rfl
            have cR1 : ∀ y : Aft w64, y.1.cell? ⟨bR, 1, none⟩ = some (.int .i64 v) := fun y => (KR.out.ext y.2).cell rfl
            have cR2 : ∀ y : Aft w64, y.1.cell? ⟨bR, 2, none⟩ = some (.slice paC d pcC) := fun y => (KR.out.ext y.2).cell rfl
            have cQ0 : ∀ y : Aft w64, y.1.cell? ⟨bQ, 0, none⟩ = some (.slice taD 2 tcD) := fun y => (KQ.out.ext y.2).cell rfl
            have cQ1 : ∀ y : Aft w64, y.1.cell? ⟨bQ, 1, none⟩ = some (.int .i64 vl) := fun y => (KQ.out.ext y.2).cell rfl
            have cQ2 : ∀ y : Aft w64, y.1.cell? ⟨bQ, 2, none⟩ = some (.slice paD 0 pcD) := fun y => (KQ.out.ext y.2).cell rfl
            have cD0 : ∀ y : Aft w64, y.1.cell? ⟨bD, 0, none⟩ = some (.int .i64 x0) := fun y => (KD.out.ext y.2).cell rfl
            have cD1 : ∀ y : Aft w64, y.1.cell? ⟨bD, 1, none⟩ = some (.int .i64 x1) := fun y => (KD.out.ext y.2).cell rfl
            have cD2 : ∀ y : Aft w64, y.1.cell? ⟨bD, 2, none⟩ = some (.int .i64 x2) := fun y => (KD.out.ext y.2).cell rfl
            have cD3 : ∀ y : Aft w64, y.1.cell? ⟨bD, 3, none⟩ = some (.int .i64 x3) := fun y => (KD.out.ext y.2).cell rfl
            have cD4 : ∀ y : Aft w64, y.1.cell? ⟨bD, 4, none⟩ = some (.int .i64 B) := fun y => (KD.out.ext y.2).cell rfl
            have cD5 : ∀ y : Aft w64, y.1.cell? ⟨bD, 5, none⟩ = some (.int .i64 x5) := fun y => (KD.out.ext y.2).cell rfl
            have cD6 : ∀ y : Aft w64, y.1.cell? ⟨bD, 6, none⟩ = some (.int .i64 x6) := fun y => (KD.out.ext y.2).cell rfl
            have cD7 : ∀ y : Aft w64, y.1.cell? ⟨bD, 7, none⟩ = some (.int .i64 Wz) := fun y => (KD.out.ext y.2).cell rfl
            have cD8 : ∀ y : Aft w64, y.1.cell? ⟨bD, 8, none⟩ = some (.int .i64 g) := fun y => (KD.out.ext y.2).cell rfl
            have cD9 : ∀ y : Aft w64, y.1.cell? ⟨bD, 9, none⟩ = some (.slice aD n1 cD) := fun y => (KD.out.ext y.2).cell rfl
            have cU0 : ∀ y : Aft w64, y.1.cell? ⟨bU, 0, none⟩ = some (.int .i64 x0) := fun y => (KU.out.ext y.2).cell rfl
            have cU1 : ∀ y : Aft w64, y.1.cell? ⟨bU, 1, none⟩ = some (.int .i64 x1) := fun y => (KU.out.ext y.2).cell rfl
            have cU2 : ∀ y : Aft w64, y.1.cell? ⟨bU, 2, none⟩ = some (.int .i64 x2) := fun y => (KU.out.ext y.2).cell rfl
            have cU3 : ∀ y : Aft w64, y.1.cell? ⟨bU, 3, none⟩ = some (.int .i64 x3) := fun y => (KU.out.ext y.2).cell rfl
            have cU4 : ∀ y : Aft w64, y.1.cell? ⟨bU, 4, none⟩ = some (.int .i64 B) := fun y => (KU.out.ext y.2).cell rfl
            have cU5 : ∀ y : Aft w64, y.1.cell? ⟨bU, 5, none⟩ = some (.int .i64 x5) := fun y => (KU.out.ext y.2).cell rfl
            have cU6 : ∀ y : Aft w64, y.1.cell? ⟨bU, 6, none⟩ = some (.int .i64 x6) := fun y => (KU.out.ext y.2).cell rfl
            have cU7 : ∀ y : Aft w64, y.1.cell? ⟨bU, 7, none⟩ = some (.int .i64 W) := fun y => (KU.out.ext y.2).cell rfl
            have cU8 : ∀ y : Aft w64, y.1.cell? ⟨bU, 8, none⟩ = some (.int .i64 1) := fun y => (KU.out.ext y.2).cell rfl
            have cU9 : ∀ y : Aft w64, y.1.cell? ⟨bU, 9, none⟩ = some (.slice aU n1 cU) := fun y => (KU.out.ext y.2).cell rfl
            have cX0 : ∀ y : Aft w64, y.1.cell? ⟨bX, 0, none⟩ = some (.int .i64 x0) := fun y => (KX.out.ext y.2).cell rfl
            have cX1 : ∀ y : Aft w64, y.1.cell? ⟨bX, 1, none⟩ = some (.int .i64 x1) := fun y => (KX.out.ext y.2).cell rfl
            have cX2 : ∀ y : Aft w64, y.1.cell? ⟨bX, 2, none⟩ = some (.int .i64 x2) := fun y => (KX.out.ext y.2).cell rfl
            have cX3 : ∀ y : Aft w64, y.1.cell? ⟨bX, 3, none⟩ = some (.int .i64 x3) := fun y => (KX.out.ext y.2).cell rfl
            have cX4 : ∀ y : Aft w64, y.1.cell? ⟨bX, 4, none⟩ = some (.int .i64 B) := fun y => (KX.out.ext y.2).cell rfl
            have cX5 : ∀ y : Aft w64, y.1.cell? ⟨bX, 5, none⟩ = some (.int .i64 x5) := fun y => (KX.out.ext y.2).cell rfl
            have cX6 : ∀ y : Aft w64, y.1.cell? ⟨bX, 6, none⟩ = some (.int .i64 x6) := fun y => (KX.out.ext y.2).cell rfl
            have cX7 : ∀ y : Aft w64, y.1.cell? ⟨bX, 7, none⟩ = some (.int .i64 W) := fun y => (KX.out.ext y.2).cell rfl
            have cX8 : ∀ y : Aft w64, y.1.cell? ⟨bX, 8, none⟩ = some (.int .i64 1) := fun y => (KX.out.ext y.2).cell rfl
            have cX9 : ∀ y : Aft w64, y.1.cell? ⟨bX, 9, none⟩ = some (.slice a6 n1 c6) := fun y => (KX.out.ext y.2).cell rfl
            have cY0 : ∀ y : Aft w64, y.1.cell? ⟨(bX + 1), 0, none⟩ = some (.slice a7 2 c7) := fun y => (KY.out.ext y.2).cell rfl
            have cY1 : ∀ y : Aft w64, y.1.cell? ⟨(bX + 1), 1, none⟩ = some (.int .i64 v) := fun y => (KY.out.ext y.2).cell rfl
            have cY2 : ∀ y : Aft w64, y.1.cell? ⟨(bX + 1), 2, none⟩ = some (.slice a8 d c8) := fun y => (KY.out.ext y.2).cell rfl
            (refine wp_region_aft w64 (Ext.refl _) (by kernel_rfl) (by kernel_rfl) ?_; (repeat (go_big_quiet_step ((first | (go_at_call 11; with_reducible exact aft_call (implChamber_any ch _ _ _ _ _ _ _ _ _ _ n1 _ ts _ HN1.out hn1 HTS.out (OS.out.trains.ext (Subtype.property _)) HCH.out)) | (go_at_call 12; with_reducible exact aft_call (implLevel_is lev _ _ _ _ _ _ _ tabL [] _ HT2.out (by unfold maxLen; omega) HP0.out (by unfold maxLen; omega) (OQ.out.at.ext (Subtype.property _)) (HIN2.out _) hvli HLV.out)) | (go_at_call 9; with_reducible exact aft_call (implTotal_any TR _ _ _ _ _ _ _ tabL xs _ HT2.out (by omega) HXD.out (by omega) (OP.out.at.ext (Subtype.property _)) (OI.out.at.ext (Subtype.property _)) hvi HRE.out HTR.out)) | (go_at_call 9; with_reducible exact aft_call (implTotal_any vl _ _ _ _ _ _ _ tabL [] _ HT2.out (by omega) HP0.out (by omega) (OQ.out.at.ext (Subtype.property _)) (HIN2.out _) hvli HRQ2.out HTQ.out)))))); refine wpQuiet_nil ?_; intro w2 hx2)
            obtain ⟨w65, hq⟩ : ∃ x, x = w2 := ⟨_, rfl⟩; subst hq
            clear cS0 cS1 cS2 cS3 cS4 cS5 cS6 cS7 cS8 cS9 cR0 cR1 cR2 cQ0 cQ1 cQ2 cD0 cD1 cD2 cD3 cD4 cD5 cD6 cD7 cD8 cD9 cU0 cU1 cU2 cU3 cU4 cU5 cU6 cU7 cU8 cU9 cX0 cX1 cX2 cX3 cX4 cX5 cX6 cX7 cX8 cX9 cY0 cY1 cY2
            replace HX := Lib.hid (HX.out.trans hx2)
            replace KL := Lib.hid (KL.out.ext hx2)
            replace KR := Lib.hid (KR.out.ext hx2)
            replace KU := Lib.hid (KU.out.ext hx2)
            replace KQ := Lib.hid (KQ.out.ext hx2)
            replace KS := Lib.hid (KS.out.ext hx2)
            replace KD := Lib.hid (KD.out.ext hx2)
            replace KX := Lib.hid (KX.out.ext hx2)
            replace KY := Lib.hid (KY.out.ext hx2)
            replace OP := Lib.hid (OP.out.ext hx2)
            replace OI := Lib.hid (OI.out.ext hx2)
            replace OU := Lib.hid (OU.out.ext hx2)
            replace OS := Lib.hid (OS.out.ext hx2)
            replace OQ := Lib.hid (OQ.out.ext hx2)
            have zz65 := hx2.size
            clear hx2
            go_wp2
            go_ret
            exact ⟨rfl, HX.out⟩
end Go.Proofs.Ytmppoflgbmabpaa
