/- FnDepthOverSills: the walk of the law. -/
import Derived.Test.YtmppoflgbmabpaaProg
import Derived.Test.YtmppoflgbmabpaaM7
import Derived.Test.YtmppoflgbmabpaaEnterC
import Derived.Test.YtmppoflgbmabpaaLeave
import Derived.Test.YtmppoflgbmabpaaNewRS
namespace Go.Proofs.Ytmppoflgbmabpaa
open Go.RowKit
set_option linter.unusedSimpArgs false
set_option linter.unusedVariables false

theorem specNew0_is (v : Int) (a : Option Addr) (n c : Nat) (ps : List Pt) (x : Int) (w : World) (hn : n = ps.length) (hs : n ≤ 1048576) (hc : a = none → c = 0 ∧ n = 0) (hf : FlatAt w ptCells 2 a ps) (hx : -9223372036854775808 ≤ x ∧ x ≤ 9223372036854775807) (ht : tableOk ps = true) (hv : valueAt ps x = v) :
    Calls Try.prog 16 #[.slice a n c, .int .i64 x, .int .i64 0] w fun e w' => ∃ ta tc pa pc, e = .returned (.tuple #[.agg #[.slice ta n tc, .int .i64 v, .slice pa 0 pc], .bool true]) ∧ PtOwn w' w.heap.size w'.heap.size (.slice ta n tc) ps ∧ IntOwn w' w.heap.size w'.heap.size (.slice pa 0 pc) [] ∧ Ext w w' := by
  subst hv
  exact specNewReach_any 0 (by decide) a n c ps x w hn hs hc hf hx ht
theorem rem120 {z : Int} (h : 0 ≤ z ∧ z ≤ 255) : -9223372036854775808 ≤ z % 120 ∧ z % 120 ≤ 9223372036854775807 := by omega

set_option maxRecDepth 100000 in
set_option maxHeartbeats 20000000 in
theorem depth_any (a : Option Addr) (n c : Nat) (bs : List Int) (w : World) (hn : n = bs.length) (hs : n ≤ maxLen) (hf : BytesAt w a bs) :
    Calls Try.prog 4 #[.slice a n c] w fun e w' => e = .returned (.bool true) ∧ Ext w w' := by
  have HS := Lib.hid hs
  have HF := Lib.hid hf; clear hf
  have HN := Lib.hid hn; clear hn
  by_cases hsz : (1048576 : Int) < n
  · have hd : decide ((1048576 : Int) < n) = true := by simpa using hsz
    go_enter Try.func4, Try.ntmps4
    go_wp2_with ((go_at_call 5; refine (big_any _ _ _ _ HS.out).mono ?_; rintro e w' ⟨rfl, rfl⟩))
    go_ret
    exact ⟨rfl, by (repeat' (first | (with_reducible exact Ext.refl _) | (with_reducible assumption) | (with_reducible refine Ext.alloc ?_ _) | (with_reducible refine Ext.drewN ?_ _) | (with_reducible refine Ext.drew ?_) | (with_reducible refine Ext.setCell ?_ ?_ _) | (with_reducible exact Nat.le_refl _) | (with_reducible exact Nat.le_succ _) | (with_reducible refine Ext.trans ?_ (by assumption)) | (simp; done) | (simp; omega)))⟩
  have hs2 : n ≤ 1048576 := by omega
  have hd : decide ((1048576 : Int) < n) = false := by simpa using hsz
  go_enter Try.func4, Try.ntmps4
  go_wp2_with fail
  refine (big_any _ _ _ _ HS.out).mono ?_
  rintro e w1 ⟨rfl, rfl⟩
  go_wp2_with fail
  refine (DrawLock_any _ _ _ bs _ HN.out hs2 HF.out).mono ?_
  rintro e w2 ⟨x0, x1, x2, x3, x4, x5, x6, x7, x8, a1, n1, c1, lo1, hi1, es, ts, a2, n2, c2, lo2, es2, qs, K, hlk, hins, hn1, hq, hn2, hl1, hl2, hl3, rfl, hg1, hg2, hx2⟩
  have HXW := Lib.hid hx2
  have HQ := Lib.hid hq
  have HN2 := Lib.hid hn2
  have hn5 : n2 ≤ 5 := by have := hq.1; have := hq.2.1; omega
  have hcap := hg2.capE
  have hcap1 := hg1.capE
  have HLK0 := Lib.hid (lk_start hlk (fits_dist hins.1))
  have HLKX := Lib.hid hlk
  have hi0 : I64 x0 := by have := hlk.h0; unfold I64; omega
  have hi1' : I64 x1 := by have := hlk.h1; unfold I64; omega
  have HTS0 := Lib.hid hins.small
  have hn8 : n1 ≤ 8 := by have := hins.2.1; omega
  have HTQ := Lib.hid (show TrainsAt w2 a2 qs from by
    obtain ⟨a', c', e', h'⟩ := hg2.trains
    injection e' with e1 _ _
    rw [e1]
    exact h')
  have OT := Lib.hid (show OwnTrains w2 lo1 hi1 a1 ts from by
    obtain ⟨a', c', e', _, h'⟩ := hg1.own
    injection e' with e1 _ _
    rw [e1]
    exact h')
  have HN1 := Lib.hid hn1; clear hn1
  have hw0 : hi1 ≤ w2.heap.size := by omega
  have HX := Lib.hid (Ext.refl w2)
  clear hlk hins hq hn2 hg1 hg2 hx2 hl1 hl2 hl3
  go_wp2_with fail
  refine (at_any _ _ _ bs 0 _ HN.out hs2 (by decide) (by decide) (HF.out.ext (HXW.out.trans (by (repeat' (first | (with_reducible exact Ext.refl _) | (with_reducible assumption) | (with_reducible refine Ext.alloc ?_ _) | (with_reducible refine Ext.drewN ?_ _) | (with_reducible refine Ext.drew ?_) | (with_reducible refine Ext.setCell ?_ ?_ _) | (with_reducible exact Nat.le_refl _) | (with_reducible exact Nat.le_succ _) | (with_reducible refine Ext.trans ?_ (by assumption)) | (simp; done) | (simp; omega))))))).mono ?_
  rintro e w3 ⟨z, hz0, hz255, rfl, rfl⟩
  go_wp2_with fail
  obtain ⟨vol, hvol⟩ : ∃ v, valueAt tabL (z % 120) = v := ⟨_, rfl⟩
  have hvb := valueAt_b tabL (z % 120)
  rw [hvol] at hvb
  have hvi : -9223372036854775808 ≤ vol ∧ vol ≤ 9223372036854775807 := by omega
  have HVOL := Lib.hid hvol; clear hvol hvb
  have HRM := Lib.hid (rem120 ⟨hz0, hz255⟩)
  have QL := Lib.hid ((RowAt.new w2 26 #[.int .i64 x0, .int .i64 x1, .int .i64 x2, .int .i64 x3, .int .i64 x4, .int .i64 x5, .int .i64 x6, .int .i64 x7, .int .i64 x8, .slice a1 n1 c1]).ext ((Ext.refl _).alloc (.cells #[.int .i64 0, .int .i64 0, .int .i64 500, .int .i64 500000] 37)))
  have QT := Lib.hid ((RowAt.new (w2.alloc (.cells #[.int .i64 x0, .int .i64 x1, .int .i64 x2, .int .i64 x3, .int .i64 x4, .int .i64 x5, .int .i64 x6, .int .i64 x7, .int .i64 x8, .slice a1 n1 c1] 26)) 37 #[.int .i64 0, .int .i64 0, .int .i64 500, .int .i64 500000]).ext (Ext.refl _))
  simp only [World.size_alloc] at QT
  have hal := (((Ext.refl w2).alloc (.cells #[.int .i64 x0, .int .i64 x1, .int .i64 x2, .int .i64 x3, .int .i64 x4, .int .i64 x5, .int .i64 x6, .int .i64 x7, .int .i64 x8, .slice a1 n1 c1] 26)).alloc (.cells #[.int .i64 0, .int .i64 0, .int .i64 500, .int .i64 500000] 37))
  obtain ⟨bL, hbL⟩ : ∃ x, x = w2.heap.size := ⟨_, rfl⟩
  obtain ⟨w3, hw3⟩ : ∃ x, x = ((w2.alloc (.cells #[.int .i64 x0, .int .i64 x1, .int .i64 x2, .int .i64 x3, .int .i64 x4, .int .i64 x5, .int .i64 x6, .int .i64 x7, .int .i64 x8, .slice a1 n1 c1] 26)).alloc (.cells #[.int .i64 0, .int .i64 0, .int .i64 500, .int .i64 500000] 37)) := ⟨_, rfl⟩
  have sL : w3.heap.size = bL + 1 + 1 := by rw [hw3, hbL]; simp
  have mL : w2.heap.size ≤ bL := Nat.le_of_eq hbL.symm; have nL : bL ≤ w2.heap.size := Nat.le_of_eq hbL
  rw [← hbL] at QL QT
  rw [← hw3] at QL QT hal
  (try simp only [World.size_alloc])
  (try rw [← hw3])
  (try rw [← hbL])
  clear hw3 hbL
  replace HX := Lib.hid (HX.out.trans hal)
  replace OT := Lib.hid (OT.out.ext hal)
  have zz3 := hal.size
  clear hal
  have KL := QL; clear QL
  have KT := QT; clear QT
  with_reducible refine (specNew0_is vol _ 2 2 tabL _ _ rfl (by decide) (fun h => by cases h) (tabL_at KT.out) HRM.out tabL_ok HVOL.out).mono ?_
  rintro e w4 ⟨ta, tc, pa, pc, rfl, hpt, hpi, hb⟩
  have OP := Lib.hid hpt; clear hpt hpi
  replace HX := Lib.hid (HX.out.trans hb)
  replace KL := Lib.hid (KL.out.ext hb)
  replace KT := Lib.hid (KT.out.ext hb)
  replace OT := Lib.hid (OT.out.ext hb)
  have zz4 := hb.size
  clear hb
  clear KT
  go_wp2_with fail
  have QR := Lib.hid ((RowAt.new w4 33 #[.slice ta 2 tc, .int .i64 vol, .slice pa 0 pc]).ext (Ext.refl _))
  have hal := ((Ext.refl w4).alloc (.cells #[.slice ta 2 tc, .int .i64 vol, .slice pa 0 pc] 33))
  obtain ⟨bR, hbR⟩ : ∃ x, x = w4.heap.size := ⟨_, rfl⟩
  obtain ⟨w5, hw5⟩ : ∃ x, x = (w4.alloc (.cells #[.slice ta 2 tc, .int .i64 vol, .slice pa 0 pc] 33)) := ⟨_, rfl⟩
  have sR : w5.heap.size = bR + 1 := by rw [hw5, hbR]; simp
  have mR : w4.heap.size ≤ bR := Nat.le_of_eq hbR.symm; have nR : bR ≤ w4.heap.size := Nat.le_of_eq hbR
  rw [← hbR] at QR
  rw [← hw5] at QR hal
  (try simp only [World.size_alloc])
  (try rw [← hw5])
  (try rw [← hbR])
  clear hw5 hbR
  replace HX := Lib.hid (HX.out.trans hal)
  replace KL := Lib.hid (KL.out.ext hal)
  replace OT := Lib.hid (OT.out.ext hal)
  replace OP := Lib.hid (OP.out.ext hal)
  have zz5 := hal.size
  clear hal
  have KR := QR; clear QR
  go_wp2
  obtain ⟨loP, hiP, hwP, hq⟩ : ∃ lo hi, (bL < lo ∧ hi ≤ bR) ∧ PtOwn w5 lo hi (.slice ta 2 tc) tabL := ⟨_, _, ⟨by omega, by omega⟩, OP.out⟩
  have OP := Lib.hid hq; clear hq
  have hwL : hi1 ≤ bL ∨ bL < lo1 := .inl (by omega)
  have hbR : bR < w5.heap.size ∧ bL < bR ∧ w2.heap.size ≤ bL := by omega
  have HT2 := Lib.hid (show 2 = tabL.length from rfl); have HP0 := Lib.hid (show 0 = ([] : List Int).length from rfl)
  have HINT := Lib.hid (show ∀ w : World, IntsAt w pa [] from fun w k h => absurd h (Nat.not_lt_zero _))
  clear HVOL HRM HF
  obtain ⟨wS, hq⟩ : ∃ x, x = w5 := ⟨_, rfl⟩; subst hq
  clear sL mL nL sR mR nR
  go_loopw [7] (fun i wr => ∃ (j : Nat) (cu : List Tn) (aC : Option Addr) (nC cC lo hi : Nat), j ≤ n2 ∧ i = .int .i64 j ∧ (nC ≤ cC ∧ cC ≤ 9223372036854775807) ∧ nC ≤ 8 ∧ (hi ≤ bL ∨ bL < lo) ∧ (bR < wr.heap.size ∧ hi ≤ wr.heap.size) ∧ Hid (Ext w2 wr) ∧ Hid (RowAt wr bL 26 #[.int .i64 x0, .int .i64 x1, .int .i64 x2, .int .i64 x3, .int .i64 x4, .int .i64 x5, .int .i64 x6, .int .i64 x7, .int .i64 x8, .slice aC nC cC]) ∧ Hid (RowAt wr bR 33 #[.slice ta 2 tc, .int .i64 vol, .slice pa 0 pc]) ∧ Hid (PtOwn wr loP hiP (.slice ta 2 tc) tabL) ∧ Hid (nC = cu.length) ∧ Hid (lockOk x0 x1 x2 x3 x4 x5 x6 x7 x8 cu = true) ∧ Hid (∀ t ∈ cu, SmallT t) ∧ Hid (OwnTrains wr lo hi aC cu)) (fun i _ => n2 - (intOf i).toNat)
  case atStart => exact ⟨0, ts, a1, n1, c1, lo1, hi1, Nat.zero_le _, rfl, hcap1, hn8, hwL, ⟨hbR.1, by omega⟩, HX, KL, KR, OP, HN1, HLK0, HTS0, OT⟩
  case round =>
    clear hcap1 HX KL KR OP HN1 HLK0 HTS0 OT hwL hn8
    obtain ⟨j, cu, aC, nC, cC, lo, hi, hj, rfl, hcC, hnC8, hwin, hRw, HX, KL, KR, OP, hnC, hok, hsm, OT⟩ := hrel
    obtain ⟨w5, rfl⟩ : ∃ x, x = wr := ⟨_, rfl⟩
    by_cases hlt : j < n2
    case neg =>
      obtain ⟨ts1, tn1, ok, hres⟩ : ∃ ts1 t ok, leaveRes x0 x1 x2 x3 x4 x5 x6 x7 x8 cu tabL vol [] = (ts1, t, ok) := ⟨_, _, _, rfl⟩
      obtain ⟨ut, rows1⟩ := tn1
      obtain ⟨hok1, hno, hyes⟩ := leave_facts hok.out hres
      have HSM1 := Lib.hid (leave_small hsm.out hres)
      obtain ⟨m1, hm1⟩ : ∃ m, m = ts1.length := ⟨_, rfl⟩
      obtain ⟨m2, hm2⟩ : ∃ m, m = rows1.length := ⟨_, rfl⟩
      have hno' : ok = false → m1 = nC := fun h => by rw [hm1, hno h, ← hnC.out]
      have hyes' : ok = true → ut = decide (x8 = 1) ∧ m1 + 1 = nC := fun h => by rw [hm1, (hyes h).2, ← hnC.out]; exact ⟨(hyes h).1, rfl⟩
      have hm8 : m1 ≤ 8 := by cases ok; have := hno' rfl; omega; have := (hyes' rfl).2; omega
      have HNO := Lib.hid hno'; have HYE := Lib.hid hyes'
      have HM1 := Lib.hid hm1; have HM2 := Lib.hid hm2; have HRES := Lib.hid hres; have HOK1 := Lib.hid hok1; clear hm1 hm2 hres hok1 hno hyes hno' hyes'
      have cL0 : w5.cell? ⟨bL, 0, none⟩ = some (.int .i64 x0) := KL.out.cell rfl
      have cL1 : w5.cell? ⟨bL, 1, none⟩ = some (.int .i64 x1) := KL.out.cell rfl
      have cL2 : w5.cell? ⟨bL, 2, none⟩ = some (.int .i64 x2) := KL.out.cell rfl
      have cL3 : w5.cell? ⟨bL, 3, none⟩ = some (.int .i64 x3) := KL.out.cell rfl
      have cL4 : w5.cell? ⟨bL, 4, none⟩ = some (.int .i64 x4) := KL.out.cell rfl
      have cL5 : w5.cell? ⟨bL, 5, none⟩ = some (.int .i64 x5) := KL.out.cell rfl
      have cL6 : w5.cell? ⟨bL, 6, none⟩ = some (.int .i64 x6) := KL.out.cell rfl
      have cL7 : w5.cell? ⟨bL, 7, none⟩ = some (.int .i64 x7) := KL.out.cell rfl
      have cL8 : w5.cell? ⟨bL, 8, none⟩ = some (.int .i64 x8) := KL.out.cell rfl
      have cL9 : w5.cell? ⟨bL, 9, none⟩ = some (.slice aC nC cC) := KL.out.cell rfl
      have cR0 : w5.cell? ⟨bR, 0, none⟩ = some (.slice ta 2 tc) := KR.out.cell rfl
      have cR1 : w5.cell? ⟨bR, 1, none⟩ = some (.int .i64 vol) := KR.out.cell rfl
      have cR2 : w5.cell? ⟨bR, 2, none⟩ = some (.slice pa 0 pc) := KR.out.cell rfl
      go_wp2_with fail
      with_reducible refine (implLeave_any ts1 m1 ut rows1 m2 ok _ _ _ _ _ _ _ _ _ _ _ _ cu _ _ _ _ _ _ _ tabL [] _ hnC.out (by omega) hsm.out OT.out.trains HT2.out (by omega) HP0.out (by omega) OP.out.at (HINT.out _) hvi hcC.1 hcC.2 HM1.out HM2.out HRES.out).mono ?_
      rintro e w11 ⟨a6, c6, a7, c7, rfl, hLT, hb⟩
      clear cL0 cL1 cL2 cL3 cL4 cL5 cL6 cL7 cL8 cL9 cR0 cR1 cR2
      obtain ⟨mid, hmid, hoT, hoR⟩ := hLT
      have OY := Lib.hid hoT; clear hoT hoR
      replace HX := Lib.hid (HX.out.trans hb)
      replace KL := Lib.hid (KL.out.ext hb)
      replace KR := Lib.hid (KR.out.ext hb)
      replace OP := Lib.hid (OP.out.ext hb)
      replace OT := Lib.hid (OT.out.ext hb)
      have zz11 := hb.size
      clear hb
      cases ok
      case false =>
        have hm := HNO.out rfl; clear HNO HYE
        have hme : ((m1 : Int) == (nC : Int)) = true := by rw [hm]; exact beq_self_eq_true _
        clear hm
        have e0_ : ((w11.alloc (.cells #[.int .i64 x0, .int .i64 x1, .int .i64 x2, .int .i64 x3, .int .i64 x4, .int .i64 x5, .int .i64 x6, .int .i64 x7, .int .i64 x8, .slice a6 m1 c6] 26)).alloc (.cells #[.bool ut, .slice a7 m2 c7] 47)).cell? ⟨bL, 0, none⟩ = some (.int .i64 x0) := (KL.out.ext (((Ext.refl w11).alloc _).alloc _)).cell rfl
        have e1_ : ((w11.alloc (.cells #[.int .i64 x0, .int .i64 x1, .int .i64 x2, .int .i64 x3, .int .i64 x4, .int .i64 x5, .int .i64 x6, .int .i64 x7, .int .i64 x8, .slice a6 m1 c6] 26)).alloc (.cells #[.bool ut, .slice a7 m2 c7] 47)).cell? ⟨bL, 1, none⟩ = some (.int .i64 x1) := (KL.out.ext (((Ext.refl w11).alloc _).alloc _)).cell rfl
        have e2_ : ((w11.alloc (.cells #[.int .i64 x0, .int .i64 x1, .int .i64 x2, .int .i64 x3, .int .i64 x4, .int .i64 x5, .int .i64 x6, .int .i64 x7, .int .i64 x8, .slice a6 m1 c6] 26)).alloc (.cells #[.bool ut, .slice a7 m2 c7] 47)).cell? ⟨bL, 2, none⟩ = some (.int .i64 x2) := (KL.out.ext (((Ext.refl w11).alloc _).alloc _)).cell rfl
        have e3_ : ((w11.alloc (.cells #[.int .i64 x0, .int .i64 x1, .int .i64 x2, .int .i64 x3, .int .i64 x4, .int .i64 x5, .int .i64 x6, .int .i64 x7, .int .i64 x8, .slice a6 m1 c6] 26)).alloc (.cells #[.bool ut, .slice a7 m2 c7] 47)).cell? ⟨bL, 3, none⟩ = some (.int .i64 x3) := (KL.out.ext (((Ext.refl w11).alloc _).alloc _)).cell rfl
        have e4_ : ((w11.alloc (.cells #[.int .i64 x0, .int .i64 x1, .int .i64 x2, .int .i64 x3, .int .i64 x4, .int .i64 x5, .int .i64 x6, .int .i64 x7, .int .i64 x8, .slice a6 m1 c6] 26)).alloc (.cells #[.bool ut, .slice a7 m2 c7] 47)).cell? ⟨bL, 4, none⟩ = some (.int .i64 x4) := (KL.out.ext (((Ext.refl w11).alloc _).alloc _)).cell rfl
        have e5_ : ((w11.alloc (.cells #[.int .i64 x0, .int .i64 x1, .int .i64 x2, .int .i64 x3, .int .i64 x4, .int .i64 x5, .int .i64 x6, .int .i64 x7, .int .i64 x8, .slice a6 m1 c6] 26)).alloc (.cells #[.bool ut, .slice a7 m2 c7] 47)).cell? ⟨bL, 5, none⟩ = some (.int .i64 x5) := (KL.out.ext (((Ext.refl w11).alloc _).alloc _)).cell rfl
        have e6_ : ((w11.alloc (.cells #[.int .i64 x0, .int .i64 x1, .int .i64 x2, .int .i64 x3, .int .i64 x4, .int .i64 x5, .int .i64 x6, .int .i64 x7, .int .i64 x8, .slice a6 m1 c6] 26)).alloc (.cells #[.bool ut, .slice a7 m2 c7] 47)).cell? ⟨bL, 6, none⟩ = some (.int .i64 x6) := (KL.out.ext (((Ext.refl w11).alloc _).alloc _)).cell rfl
        have e7_ : ((w11.alloc (.cells #[.int .i64 x0, .int .i64 x1, .int .i64 x2, .int .i64 x3, .int .i64 x4, .int .i64 x5, .int .i64 x6, .int .i64 x7, .int .i64 x8, .slice a6 m1 c6] 26)).alloc (.cells #[.bool ut, .slice a7 m2 c7] 47)).cell? ⟨bL, 7, none⟩ = some (.int .i64 x7) := (KL.out.ext (((Ext.refl w11).alloc _).alloc _)).cell rfl
        have e8_ : ((w11.alloc (.cells #[.int .i64 x0, .int .i64 x1, .int .i64 x2, .int .i64 x3, .int .i64 x4, .int .i64 x5, .int .i64 x6, .int .i64 x7, .int .i64 x8, .slice a6 m1 c6] 26)).alloc (.cells #[.bool ut, .slice a7 m2 c7] 47)).cell? ⟨bL, 8, none⟩ = some (.int .i64 x8) := (KL.out.ext (((Ext.refl w11).alloc _).alloc _)).cell rfl
        have e9_ : ((w11.alloc (.cells #[.int .i64 x0, .int .i64 x1, .int .i64 x2, .int .i64 x3, .int .i64 x4, .int .i64 x5, .int .i64 x6, .int .i64 x7, .int .i64 x8, .slice a6 m1 c6] 26)).alloc (.cells #[.bool ut, .slice a7 m2 c7] 47)).cell? ⟨bL, 9, none⟩ = some (.slice aC nC cC) := (KL.out.ext (((Ext.refl w11).alloc _).alloc _)).cell rfl
        go_wp2_with fail
        clear e0_ e1_ e2_ e3_ e4_ e5_ e6_ e7_ e8_ e9_
        have QY := Lib.hid ((RowAt.new w11 26 #[.int .i64 x0, .int .i64 x1, .int .i64 x2, .int .i64 x3, .int .i64 x4, .int .i64 x5, .int .i64 x6, .int .i64 x7, .int .i64 x8, .slice a6 m1 c6]).ext ((Ext.refl _).alloc (.cells #[.bool ut, .slice a7 m2 c7] 47)))
        have QN := Lib.hid ((RowAt.new (w11.alloc (.cells #[.int .i64 x0, .int .i64 x1, .int .i64 x2, .int .i64 x3, .int .i64 x4, .int .i64 x5, .int .i64 x6, .int .i64 x7, .int .i64 x8, .slice a6 m1 c6] 26)) 47 #[.bool ut, .slice a7 m2 c7]).ext (Ext.refl _))
        simp only [World.size_alloc] at QN
        have hal := (((Ext.refl w11).alloc (.cells #[.int .i64 x0, .int .i64 x1, .int .i64 x2, .int .i64 x3, .int .i64 x4, .int .i64 x5, .int .i64 x6, .int .i64 x7, .int .i64 x8, .slice a6 m1 c6] 26)).alloc (.cells #[.bool ut, .slice a7 m2 c7] 47))
        obtain ⟨bY, hbY⟩ : ∃ x, x = w11.heap.size := ⟨_, rfl⟩
        obtain ⟨w12, hw12⟩ : ∃ x, x = ((w11.alloc (.cells #[.int .i64 x0, .int .i64 x1, .int .i64 x2, .int .i64 x3, .int .i64 x4, .int .i64 x5, .int .i64 x6, .int .i64 x7, .int .i64 x8, .slice a6 m1 c6] 26)).alloc (.cells #[.bool ut, .slice a7 m2 c7] 47)) := ⟨_, rfl⟩
        have sY : w12.heap.size = bY + 1 + 1 := by rw [hw12, hbY]; simp
        have mY : w11.heap.size ≤ bY := Nat.le_of_eq hbY.symm; have nY : bY ≤ w11.heap.size := Nat.le_of_eq hbY
        rw [← hbY] at QY QN
        rw [← hw12] at QY QN hal
        (try simp only [World.size_alloc])
        (try rw [← hw12])
        (try rw [← hbY])
        clear hw12 hbY
        replace HX := Lib.hid (HX.out.trans hal)
        replace KL := Lib.hid (KL.out.ext hal)
        replace KR := Lib.hid (KR.out.ext hal)
        replace OP := Lib.hid (OP.out.ext hal)
        replace OT := Lib.hid (OT.out.ext hal)
        replace OY := Lib.hid (OY.out.ext hal)
        have zz12 := hal.size
        clear hal
        have KY := QY; clear QY
        have KN := QN; clear QN
        with_reducible refine (implLockOk_any true _ _ _ _ _ _ _ _ _ _ _ _ cu _ hnC.out (by omega) hsm.out OT.out.trains hok.out).mono ?_
        rintro e w13 ⟨rfl, hb⟩
        replace HX := Lib.hid (HX.out.trans hb)
        replace KL := Lib.hid (KL.out.ext hb)
        replace KR := Lib.hid (KR.out.ext hb)
        replace KY := Lib.hid (KY.out.ext hb)
        replace KN := Lib.hid (KN.out.ext hb)
        replace OP := Lib.hid (OP.out.ext hb)
        replace OT := Lib.hid (OT.out.ext hb)
        replace OY := Lib.hid (OY.out.ext hb)
        have zz13 := hb.size
        clear hb
        have cY0 : w13.cell? ⟨bY, 0, none⟩ = some (.int .i64 x0) := KY.out.cell rfl
        have cY1 : w13.cell? ⟨bY, 1, none⟩ = some (.int .i64 x1) := KY.out.cell rfl
        have cY2 : w13.cell? ⟨bY, 2, none⟩ = some (.int .i64 x2) := KY.out.cell rfl
        have cY3 : w13.cell? ⟨bY, 3, none⟩ = some (.int .i64 x3) := KY.out.cell rfl
        have cY4 : w13.cell? ⟨bY, 4, none⟩ = some (.int .i64 x4) := KY.out.cell rfl
        have cY5 : w13.cell? ⟨bY, 5, none⟩ = some (.int .i64 x5) := KY.out.cell rfl
        have cY6 : w13.cell? ⟨bY, 6, none⟩ = some (.int .i64 x6) := KY.out.cell rfl
        have cY7 : w13.cell? ⟨bY, 7, none⟩ = some (.int .i64 x7) := KY.out.cell rfl
        have cY8 : w13.cell? ⟨bY, 8, none⟩ = some (.int .i64 x8) := KY.out.cell rfl
        have cY9 : w13.cell? ⟨bY, 9, none⟩ = some (.slice a6 m1 c6) := KY.out.cell rfl
        go_wp2_with fail
        with_reducible refine (implLockOk_any true _ _ _ _ _ _ _ _ _ _ _ _ ts1 _ HM1.out (by omega) HSM1.out OY.out.trains HOK1.out).mono ?_
        rintro e w14 ⟨rfl, hb⟩
        clear cY0 cY1 cY2 cY3 cY4 cY5 cY6 cY7 cY8 cY9
        replace HX := Lib.hid (HX.out.trans hb)
        replace KL := Lib.hid (KL.out.ext hb)
        replace KR := Lib.hid (KR.out.ext hb)
        replace KY := Lib.hid (KY.out.ext hb)
        replace KN := Lib.hid (KN.out.ext hb)
        replace OP := Lib.hid (OP.out.ext hb)
        replace OT := Lib.hid (OT.out.ext hb)
        replace OY := Lib.hid (OY.out.ext hb)
        have zz14 := hb.size
        clear hb
        have cY0 : w14.cell? ⟨bY, 0, none⟩ = some (.int .i64 x0) := KY.out.cell rfl
        have cY1 : w14.cell? ⟨bY, 1, none⟩ = some (.int .i64 x1) := KY.out.cell rfl
        have cY2 : w14.cell? ⟨bY, 2, none⟩ = some (.int .i64 x2) := KY.out.cell rfl
        have cY3 : w14.cell? ⟨bY, 3, none⟩ = some (.int .i64 x3) := KY.out.cell rfl
        have cY4 : w14.cell? ⟨bY, 4, none⟩ = some (.int .i64 x4) := KY.out.cell rfl
        have cY5 : w14.cell? ⟨bY, 5, none⟩ = some (.int .i64 x5) := KY.out.cell rfl
        have cY6 : w14.cell? ⟨bY, 6, none⟩ = some (.int .i64 x6) := KY.out.cell rfl
        have cY7 : w14.cell? ⟨bY, 7, none⟩ = some (.int .i64 x7) := KY.out.cell rfl
        have cY8 : w14.cell? ⟨bY, 8, none⟩ = some (.int .i64 x8) := KY.out.cell rfl
        have cY9 : w14.cell? ⟨bY, 9, none⟩ = some (.slice a6 m1 c6) := KY.out.cell rfl
        go_wp2
        go_ret
        exact ⟨rfl, HXW.out.trans HX.out⟩
      case true =>
        obtain ⟨hut, hm⟩ := HYE.out rfl; clear HNO HYE
        obtain ⟨k8, hk8⟩ : ∃ k, decide (x8 = 1) = k := ⟨_, rfl⟩
        have hut2 : ut = k8 := hut.trans hk8
        subst hut2
        have hq8 : (x8 == 1) = ut := by rw [← hk8]; exact Bool.beq_eq_decide_eq _ _
        have hmz : (nC : Int) - 1 = (m1 : Int) := by omega
        clear hut hk8 hm
        have e0_ : ((w11.alloc (.cells #[.int .i64 x0, .int .i64 x1, .int .i64 x2, .int .i64 x3, .int .i64 x4, .int .i64 x5, .int .i64 x6, .int .i64 x7, .int .i64 x8, .slice a6 m1 c6] 26)).alloc (.cells #[.bool ut, .slice a7 m2 c7] 47)).cell? ⟨bL, 0, none⟩ = some (.int .i64 x0) := (KL.out.ext (((Ext.refl w11).alloc _).alloc _)).cell rfl
        have e1_ : ((w11.alloc (.cells #[.int .i64 x0, .int .i64 x1, .int .i64 x2, .int .i64 x3, .int .i64 x4, .int .i64 x5, .int .i64 x6, .int .i64 x7, .int .i64 x8, .slice a6 m1 c6] 26)).alloc (.cells #[.bool ut, .slice a7 m2 c7] 47)).cell? ⟨bL, 1, none⟩ = some (.int .i64 x1) := (KL.out.ext (((Ext.refl w11).alloc _).alloc _)).cell rfl
        have e2_ : ((w11.alloc (.cells #[.int .i64 x0, .int .i64 x1, .int .i64 x2, .int .i64 x3, .int .i64 x4, .int .i64 x5, .int .i64 x6, .int .i64 x7, .int .i64 x8, .slice a6 m1 c6] 26)).alloc (.cells #[.bool ut, .slice a7 m2 c7] 47)).cell? ⟨bL, 2, none⟩ = some (.int .i64 x2) := (KL.out.ext (((Ext.refl w11).alloc _).alloc _)).cell rfl
        have e3_ : ((w11.alloc (.cells #[.int .i64 x0, .int .i64 x1, .int .i64 x2, .int .i64 x3, .int .i64 x4, .int .i64 x5, .int .i64 x6, .int .i64 x7, .int .i64 x8, .slice a6 m1 c6] 26)).alloc (.cells #[.bool ut, .slice a7 m2 c7] 47)).cell? ⟨bL, 3, none⟩ = some (.int .i64 x3) := (KL.out.ext (((Ext.refl w11).alloc _).alloc _)).cell rfl
        have e4_ : ((w11.alloc (.cells #[.int .i64 x0, .int .i64 x1, .int .i64 x2, .int .i64 x3, .int .i64 x4, .int .i64 x5, .int .i64 x6, .int .i64 x7, .int .i64 x8, .slice a6 m1 c6] 26)).alloc (.cells #[.bool ut, .slice a7 m2 c7] 47)).cell? ⟨bL, 4, none⟩ = some (.int .i64 x4) := (KL.out.ext (((Ext.refl w11).alloc _).alloc _)).cell rfl
        have e5_ : ((w11.alloc (.cells #[.int .i64 x0, .int .i64 x1, .int .i64 x2, .int .i64 x3, .int .i64 x4, .int .i64 x5, .int .i64 x6, .int .i64 x7, .int .i64 x8, .slice a6 m1 c6] 26)).alloc (.cells #[.bool ut, .slice a7 m2 c7] 47)).cell? ⟨bL, 5, none⟩ = some (.int .i64 x5) := (KL.out.ext (((Ext.refl w11).alloc _).alloc _)).cell rfl
        have e6_ : ((w11.alloc (.cells #[.int .i64 x0, .int .i64 x1, .int .i64 x2, .int .i64 x3, .int .i64 x4, .int .i64 x5, .int .i64 x6, .int .i64 x7, .int .i64 x8, .slice a6 m1 c6] 26)).alloc (.cells #[.bool ut, .slice a7 m2 c7] 47)).cell? ⟨bL, 6, none⟩ = some (.int .i64 x6) := (KL.out.ext (((Ext.refl w11).alloc _).alloc _)).cell rfl
        have e7_ : ((w11.alloc (.cells #[.int .i64 x0, .int .i64 x1, .int .i64 x2, .int .i64 x3, .int .i64 x4, .int .i64 x5, .int .i64 x6, .int .i64 x7, .int .i64 x8, .slice a6 m1 c6] 26)).alloc (.cells #[.bool ut, .slice a7 m2 c7] 47)).cell? ⟨bL, 7, none⟩ = some (.int .i64 x7) := (KL.out.ext (((Ext.refl w11).alloc _).alloc _)).cell rfl
        have e8_ : ((w11.alloc (.cells #[.int .i64 x0, .int .i64 x1, .int .i64 x2, .int .i64 x3, .int .i64 x4, .int .i64 x5, .int .i64 x6, .int .i64 x7, .int .i64 x8, .slice a6 m1 c6] 26)).alloc (.cells #[.bool ut, .slice a7 m2 c7] 47)).cell? ⟨bL, 8, none⟩ = some (.int .i64 x8) := (KL.out.ext (((Ext.refl w11).alloc _).alloc _)).cell rfl
        have e9_ : ((w11.alloc (.cells #[.int .i64 x0, .int .i64 x1, .int .i64 x2, .int .i64 x3, .int .i64 x4, .int .i64 x5, .int .i64 x6, .int .i64 x7, .int .i64 x8, .slice a6 m1 c6] 26)).alloc (.cells #[.bool ut, .slice a7 m2 c7] 47)).cell? ⟨bL, 9, none⟩ = some (.slice aC nC cC) := (KL.out.ext (((Ext.refl w11).alloc _).alloc _)).cell rfl
        go_wp2_with fail
        clear e0_ e1_ e2_ e3_ e4_ e5_ e6_ e7_ e8_ e9_
        have QY := Lib.hid ((RowAt.new w11 26 #[.int .i64 x0, .int .i64 x1, .int .i64 x2, .int .i64 x3, .int .i64 x4, .int .i64 x5, .int .i64 x6, .int .i64 x7, .int .i64 x8, .slice a6 m1 c6]).ext ((Ext.refl _).alloc (.cells #[.bool ut, .slice a7 m2 c7] 47)))
        have QN := Lib.hid ((RowAt.new (w11.alloc (.cells #[.int .i64 x0, .int .i64 x1, .int .i64 x2, .int .i64 x3, .int .i64 x4, .int .i64 x5, .int .i64 x6, .int .i64 x7, .int .i64 x8, .slice a6 m1 c6] 26)) 47 #[.bool ut, .slice a7 m2 c7]).ext (Ext.refl _))
        simp only [World.size_alloc] at QN
        have hal := (((Ext.refl w11).alloc (.cells #[.int .i64 x0, .int .i64 x1, .int .i64 x2, .int .i64 x3, .int .i64 x4, .int .i64 x5, .int .i64 x6, .int .i64 x7, .int .i64 x8, .slice a6 m1 c6] 26)).alloc (.cells #[.bool ut, .slice a7 m2 c7] 47))
        obtain ⟨bY, hbY⟩ : ∃ x, x = w11.heap.size := ⟨_, rfl⟩
        obtain ⟨w12, hw12⟩ : ∃ x, x = ((w11.alloc (.cells #[.int .i64 x0, .int .i64 x1, .int .i64 x2, .int .i64 x3, .int .i64 x4, .int .i64 x5, .int .i64 x6, .int .i64 x7, .int .i64 x8, .slice a6 m1 c6] 26)).alloc (.cells #[.bool ut, .slice a7 m2 c7] 47)) := ⟨_, rfl⟩
        have sY : w12.heap.size = bY + 1 + 1 := by rw [hw12, hbY]; simp
        have mY : w11.heap.size ≤ bY := Nat.le_of_eq hbY.symm; have nY : bY ≤ w11.heap.size := Nat.le_of_eq hbY
        rw [← hbY] at QY QN
        rw [← hw12] at QY QN hal
        (try simp only [World.size_alloc])
        (try rw [← hw12])
        (try rw [← hbY])
        clear hw12 hbY
        replace HX := Lib.hid (HX.out.trans hal)
        replace KL := Lib.hid (KL.out.ext hal)
        replace KR := Lib.hid (KR.out.ext hal)
        replace OP := Lib.hid (OP.out.ext hal)
        replace OT := Lib.hid (OT.out.ext hal)
        replace OY := Lib.hid (OY.out.ext hal)
        have zz12 := hal.size
        clear hal
        have KY := QY; clear QY
        have KN := QN; clear QN
        with_reducible refine (implLockOk_any true _ _ _ _ _ _ _ _ _ _ _ _ cu _ hnC.out (by omega) hsm.out OT.out.trains hok.out).mono ?_
        rintro e w13 ⟨rfl, hb⟩
        replace HX := Lib.hid (HX.out.trans hb)
        replace KL := Lib.hid (KL.out.ext hb)
        replace KR := Lib.hid (KR.out.ext hb)
        replace KY := Lib.hid (KY.out.ext hb)
        replace KN := Lib.hid (KN.out.ext hb)
        replace OP := Lib.hid (OP.out.ext hb)
        replace OT := Lib.hid (OT.out.ext hb)
        replace OY := Lib.hid (OY.out.ext hb)
        have zz13 := hb.size
        clear hb
        have cY0 : w13.cell? ⟨bY, 0, none⟩ = some (.int .i64 x0) := KY.out.cell rfl
        have cY1 : w13.cell? ⟨bY, 1, none⟩ = some (.int .i64 x1) := KY.out.cell rfl
        have cY2 : w13.cell? ⟨bY, 2, none⟩ = some (.int .i64 x2) := KY.out.cell rfl
        have cY3 : w13.cell? ⟨bY, 3, none⟩ = some (.int .i64 x3) := KY.out.cell rfl
        have cY4 : w13.cell? ⟨bY, 4, none⟩ = some (.int .i64 x4) := KY.out.cell rfl
        have cY5 : w13.cell? ⟨bY, 5, none⟩ = some (.int .i64 x5) := KY.out.cell rfl
        have cY6 : w13.cell? ⟨bY, 6, none⟩ = some (.int .i64 x6) := KY.out.cell rfl
        have cY7 : w13.cell? ⟨bY, 7, none⟩ = some (.int .i64 x7) := KY.out.cell rfl
        have cY8 : w13.cell? ⟨bY, 8, none⟩ = some (.int .i64 x8) := KY.out.cell rfl
        have cY9 : w13.cell? ⟨bY, 9, none⟩ = some (.slice a6 m1 c6) := KY.out.cell rfl
        go_wp2_with fail
        with_reducible refine (implLockOk_any true _ _ _ _ _ _ _ _ _ _ _ _ ts1 _ HM1.out (by omega) HSM1.out OY.out.trains HOK1.out).mono ?_
        rintro e w14 ⟨rfl, hb⟩
        clear cY0 cY1 cY2 cY3 cY4 cY5 cY6 cY7 cY8 cY9
        replace HX := Lib.hid (HX.out.trans hb)
        replace KL := Lib.hid (KL.out.ext hb)
        replace KR := Lib.hid (KR.out.ext hb)
        replace KY := Lib.hid (KY.out.ext hb)
        replace KN := Lib.hid (KN.out.ext hb)
        replace OP := Lib.hid (OP.out.ext hb)
        replace OT := Lib.hid (OT.out.ext hb)
        replace OY := Lib.hid (OY.out.ext hb)
        have zz14 := hb.size
        clear hb
        have cY0 : w14.cell? ⟨bY, 0, none⟩ = some (.int .i64 x0) := KY.out.cell rfl
        have cY1 : w14.cell? ⟨bY, 1, none⟩ = some (.int .i64 x1) := KY.out.cell rfl
        have cY2 : w14.cell? ⟨bY, 2, none⟩ = some (.int .i64 x2) := KY.out.cell rfl
        have cY3 : w14.cell? ⟨bY, 3, none⟩ = some (.int .i64 x3) := KY.out.cell rfl
        have cY4 : w14.cell? ⟨bY, 4, none⟩ = some (.int .i64 x4) := KY.out.cell rfl
        have cY5 : w14.cell? ⟨bY, 5, none⟩ = some (.int .i64 x5) := KY.out.cell rfl
        have cY6 : w14.cell? ⟨bY, 6, none⟩ = some (.int .i64 x6) := KY.out.cell rfl
        have cY7 : w14.cell? ⟨bY, 7, none⟩ = some (.int .i64 x7) := KY.out.cell rfl
        have cY8 : w14.cell? ⟨bY, 8, none⟩ = some (.int .i64 x8) := KY.out.cell rfl
        have cY9 : w14.cell? ⟨bY, 9, none⟩ = some (.slice a6 m1 c6) := KY.out.cell rfl
        go_wp2
        go_ret
        exact ⟨rfl, HXW.out.trans HX.out⟩
    case pos =>
      have hlt' : j < qs.length := by rw [← HN2.out]; exact hlt
      obtain ⟨b0, off, a', c', rfl, hc0, hc1, hml, hfr⟩ := HTQ.out j hlt'
      have E0 := Lib.hid hc0; have E1 := Lib.hid hc1
      obtain ⟨g1, g2, g3⟩ := HQ.out.small qs[j] (List.getElem_mem _)
      obtain ⟨t, ht'⟩ : ∃ t, qs[j] = t := ⟨_, rfl⟩
      rw [ht'] at E0 E1 hfr hml g1 g2 g3
      clear ht' hc0 hc1
      obtain ⟨u, rows⟩ := t
      dsimp only at E0 E1 hfr hml g1 g2 g3
      obtain ⟨m, hm⟩ : ∃ m, m = rows.length := ⟨_, rfl⟩
      rw [← hm] at E1 g1
      have HM := Lib.hid hm; have HG1 := Lib.hid g1; have HG2 := Lib.hid g2; have HG3 := Lib.hid g3; have HFR := Lib.hid hfr; clear hm g1 g2 g3 hml hfr hlt'
      obtain ⟨ts1, ok, hres⟩ : ∃ ts1 ok, enterRes x0 x1 x2 x3 x4 x5 x6 x7 x8 cu tabL vol [] u rows = (ts1, ok) := ⟨_, _, rfl⟩
      obtain ⟨hok1, hno, hyes⟩ := enter_facts hok.out hres
      obtain ⟨m1, hm1⟩ : ∃ m, m = ts1.length := ⟨_, rfl⟩
      have HM1 := Lib.hid hm1; have HRES := Lib.hid hres; have HOK1 := Lib.hid hok1; clear hres hok1
      obtain ⟨sill, hsill⟩ : ∃ s, (if u then x3 else x2) = s := ⟨_, rfl⟩
      rw [hsill] at hyes
      have hm8 : m1 ≤ 8 := by rw [hm1]; exact (distinct_parts (lockOk_dist HOK1.out)).1
      have HSM1 := Lib.hid (show ∀ t ∈ ts1, SmallT t from fun t ht => by
        cases hk : ok with
        | false => rw [hno hk] at ht; exact hsm.out t ht
        | true =>
          rw [(hyes hk).1] at ht
          rcases List.mem_append.1 ht with h | h
          · exact hsm.out t h
          · rw [List.mem_singleton.1 h]; exact ⟨by rw [← HM.out]; exact HG1.out, HG2.out, HG3.out⟩)
      obtain ⟨lev, hlev⟩ : ∃ v, levelOf tabL vol [] = v := ⟨_, rfl⟩
      obtain ⟨dra, hdra⟩ : ∃ v, draughtOf rows = v := ⟨_, rfl⟩
      rw [hlev, hdra] at hyes
      have HLEV := Lib.hid hlev; have HDRA := Lib.hid hdra; clear hlev hdra
      have hyes2 : ok = true → m1 = nC + 1 ∧ x8 = (if u then 2 else 1) ∧ dra ≤ lev - sill := fun h => ⟨by rw [hm1, (hyes h).1, List.length_append, ← hnC.out]; rfl, (hyes h).2.2⟩
      have HYES2 := Lib.hid hyes2; clear hyes2
      have HMAY := Lib.hid (show ok = true → mayEnter x0 x1 x2 x3 x4 x5 x6 x7 x8 cu tabL vol [] u rows = true from fun h => (hyes h).2.1)
      have hsb : 0 ≤ sill ∧ sill ≤ 59 := by have := HLKX.out.h2; have := HLKX.out.h3; rw [← hsill]; split <;> omega
      have hlb := levelOf_b tabL vol []
      rw [HLEV.out] at hlb
      have HSL := Lib.hid hsill
      clear hno hyes hm1 hsill
      have hltz : (j : Int) < (n2 : Int) := by omega
      cases u
      case false =>
        have hsl : x2 = sill := HSL.out; clear HSL
        subst hsl
        have e0 := HX.out.cell E0.out; have e1 := HX.out.cell E1.out
        have cL0 : w5.cell? ⟨bL, 0, none⟩ = some (.int .i64 x0) := KL.out.cell rfl
        have cL1 : w5.cell? ⟨bL, 1, none⟩ = some (.int .i64 x1) := KL.out.cell rfl
        have cL2 : w5.cell? ⟨bL, 2, none⟩ = some (.int .i64 x2) := KL.out.cell rfl
        have cL3 : w5.cell? ⟨bL, 3, none⟩ = some (.int .i64 x3) := KL.out.cell rfl
        have cL4 : w5.cell? ⟨bL, 4, none⟩ = some (.int .i64 x4) := KL.out.cell rfl
        have cL5 : w5.cell? ⟨bL, 5, none⟩ = some (.int .i64 x5) := KL.out.cell rfl
        have cL6 : w5.cell? ⟨bL, 6, none⟩ = some (.int .i64 x6) := KL.out.cell rfl
        have cL7 : w5.cell? ⟨bL, 7, none⟩ = some (.int .i64 x7) := KL.out.cell rfl
        have cL8 : w5.cell? ⟨bL, 8, none⟩ = some (.int .i64 x8) := KL.out.cell rfl
        have cL9 : w5.cell? ⟨bL, 9, none⟩ = some (.slice aC nC cC) := KL.out.cell rfl
        have cR0 : w5.cell? ⟨bR, 0, none⟩ = some (.slice ta 2 tc) := KR.out.cell rfl
        have cR1 : w5.cell? ⟨bR, 1, none⟩ = some (.int .i64 vol) := KR.out.cell rfl
        have cR2 : w5.cell? ⟨bR, 2, none⟩ = some (.slice pa 0 pc) := KR.out.cell rfl
        go_wp2_with fail
        clear cL0 cL1 cL2 cL3 cL4 cL5 cL6 cL7 cL8 cL9 cR0 cR1 cR2
        clear e0 e1
        have hz5 := HX.out.size; have HWX := HX; clear HX
        refine wp_region_held_drew (S := (fun w' => w'.cell? ⟨bL, 0, none⟩ = some (.int .i64 x0) ∧ w'.cell? ⟨bL, 1, none⟩ = some (.int .i64 x1) ∧ w'.cell? ⟨bL, 2, none⟩ = some (.int .i64 x2) ∧ w'.cell? ⟨bL, 3, none⟩ = some (.int .i64 x3) ∧ w'.cell? ⟨bL, 4, none⟩ = some (.int .i64 x4) ∧ w'.cell? ⟨bL, 5, none⟩ = some (.int .i64 x5) ∧ w'.cell? ⟨bL, 6, none⟩ = some (.int .i64 x6) ∧ w'.cell? ⟨bL, 7, none⟩ = some (.int .i64 x7) ∧ w'.cell? ⟨bL, 8, none⟩ = some (.int .i64 x8) ∧ w'.cell? ⟨bL, 9, none⟩ = some (.slice aC nC cC) ∧ w'.cell? ⟨bR, 0, none⟩ = some (.slice ta 2 tc) ∧ w'.cell? ⟨bR, 1, none⟩ = some (.int .i64 vol) ∧ w'.cell? ⟨bR, 2, none⟩ = some (.slice pa 0 pc) ∧ w'.cell? ⟨b0, off + j * 2, none⟩ = some (.bool false) ∧ w'.cell? ⟨b0, off + j * 2 + 1, none⟩ = some (.slice a' m c'))) (by kernel_rfl) ?_ (fun hH0 => ?_)
        · (try dsimp only)
          (exact ⟨KL.out.cell rfl, KL.out.cell rfl, KL.out.cell rfl, KL.out.cell rfl, KL.out.cell rfl, KL.out.cell rfl, KL.out.cell rfl, KL.out.cell rfl, KL.out.cell rfl, KL.out.cell rfl, KR.out.cell rfl, KR.out.cell rfl, KR.out.cell rfl, HWX.out.cell E0.out, HWX.out.cell E1.out⟩)
        (obtain ⟨wc, hwc⟩ : ∃ x, x = w5.drew := ⟨_, rfl⟩; have hdr : Ext w5 wc := (by rw [hwc]; exact (Ext.refl _).drew); (try rw [← hwc] at hH0); (try rw [← hwc]); have zdr : w5.heap.size ≤ wc.heap.size := hdr.size; have HX := Lib.hid hdr; have KL := Lib.hid (KL.out.ext hdr); have KR := Lib.hid (KR.out.ext hdr); have OP := Lib.hid (OP.out.ext hdr); have OT := Lib.hid (OT.out.ext hdr); clear hwc hdr; replace HWX := Lib.hid (HWX.out.trans HX.out))
        refine take_l 0 (v := ?_) rfl (by kernel_rfl) (by kernel_rfl) (by kernel_rfl) (fun _ _ _ h => h) (by rfl) ?_ (by assumption) ?_
        rotate_left
        · (intro w hSw; (try dsimp only at hSw); go_simp; (try with_reducible rfl))
        (try simp only [Act.put, List.setIfInBounds_toArray, List.set_cons_zero, List.set_cons_succ])
        refine take_l 1 (v := ?_) rfl (by kernel_rfl) (by kernel_rfl) (by kernel_rfl) (fun _ _ _ h => h) (by rfl) ?_ (by assumption) ?_
        rotate_left
        · (intro w hSw; (try dsimp only at hSw); go_simp; (try with_reducible rfl))
        (try simp only [Act.put, List.setIfInBounds_toArray, List.set_cons_zero, List.set_cons_succ])
        refine take_l 2 (v := ?_) rfl (by kernel_rfl) (by kernel_rfl) (by kernel_rfl) (fun _ _ _ h => h) (by rfl) ?_ (by assumption) ?_
        rotate_left
        · (intro w hSw; (try dsimp only at hSw); go_simp; (try with_reducible rfl))
        (try simp only [Act.put, List.setIfInBounds_toArray, List.set_cons_zero, List.set_cons_succ])
        refine take_l 3 (v := ?_) rfl (by kernel_rfl) (by kernel_rfl) (by kernel_rfl) (fun _ _ _ h => h) (by rfl) ?_ (by assumption) ?_
        rotate_left
        · (intro w hSw; (try dsimp only at hSw); go_simp; (try with_reducible rfl))
        (try simp only [Act.put, List.setIfInBounds_toArray, List.set_cons_zero, List.set_cons_succ])
        refine take_l 4 (v := ?_) rfl (by kernel_rfl) (by kernel_rfl) (by kernel_rfl) (fun _ _ _ h => h) (by rfl) ?_ (by assumption) ?_
        rotate_left
        · (intro w hSw; (try dsimp only at hSw); go_simp; (try with_reducible rfl))
        (try simp only [Act.put, List.setIfInBounds_toArray, List.set_cons_zero, List.set_cons_succ])
        refine take_l 5 (v := ?_) rfl (by kernel_rfl) (by kernel_rfl) (by kernel_rfl) (fun _ _ _ h => h) (by rfl) ?_ (by assumption) ?_
        rotate_left
        · (intro w hSw; (try dsimp only at hSw); go_simp; (try with_reducible rfl))
        (try simp only [Act.put, List.setIfInBounds_toArray, List.set_cons_zero, List.set_cons_succ])
        refine wpAnyH_ready (rs := [6, 10]) (by kernel_rfl) (by simp) ?_
        refine cons_l (i := 6) rfl (fun K hK => ?_) ?_
        (go_simp; obtain ⟨lo6, hlo6⟩ : ∃ n, n = wc.heap.size := ⟨_, rfl⟩; have mlo6 : lo6 ≤ wc.heap.size := Nat.le_of_eq hlo6; have nlo6 : wc.heap.size ≤ lo6 := Nat.le_of_eq hlo6.symm; have xwlo6 : w5.heap.size ≤ lo6 := Nat.le_trans HX.out.size nlo6; (go_at_call 17; with_reducible refine (implEnterC_any ts1 m1 ok _ _ _ _ _ _ _ _ _ _ _ _ cu _ _ _ _ _ _ _ tabL [] _ _ _ _ rows _ hnC.out (by omega) hsm.out OT.out.trains HT2.out (by omega) HP0.out (by omega) OP.out.at (HINT.out _) hvi HM.out HG1.out HG2.out HG3.out (HFR.out.ext HWX.out) hi0 hi1' HM1.out HRES.out).mono ?_); rintro e wc ⟨a6, c6, rfl, hcap6, ho6, hb⟩; have zz6 := hb.size; obtain ⟨hi6, hhi6⟩ : ∃ n, n = wc.heap.size := ⟨_, rfl⟩; have mhi6 : hi6 ≤ wc.heap.size := Nat.le_of_eq hhi6; have nhi6 : wc.heap.size ≤ hi6 := Nat.le_of_eq hhi6.symm; (try rw [← hlo6] at ho6); (try rw [← hhi6] at ho6); clear hlo6; clear hhi6; (try replace KL := Lib.hid (KL.out.ext hb)); (try replace KR := Lib.hid (KR.out.ext hb)); (try replace KX := Lib.hid (KX.out.ext hb)); (try replace OP := Lib.hid (OP.out.ext hb)); (try replace OT := Lib.hid (OT.out.ext hb)); (try replace OC := Lib.hid (OC.out.ext hb)); (try replace HWX := Lib.hid (HWX.out.trans hb)); replace HX := Lib.hid (HX.out.trans hb); have OC := Lib.hid ho6; clear ho6; clear hb)
        refine hK.out _ _ ?_ (fun hH1 => ?_)
        · (try dsimp only)
          (exact ⟨KL.out.cell rfl, KL.out.cell rfl, KL.out.cell rfl, KL.out.cell rfl, KL.out.cell rfl, KL.out.cell rfl, KL.out.cell rfl, KL.out.cell rfl, KL.out.cell rfl, KL.out.cell rfl, KR.out.cell rfl, KR.out.cell rfl, KR.out.cell rfl, HWX.out.cell E0.out, HWX.out.cell E1.out⟩)
        clear hK K hH0
        (try simp only [Act.put, List.setIfInBounds_toArray, List.set_cons_zero, List.set_cons_succ])
        refine take_l 7 (v := ?_) rfl (by kernel_rfl) (by kernel_rfl) (by kernel_rfl) (fun _ _ _ h => h) (by rfl) ?_ (by assumption) ?_
        rotate_left
        · (intro w hSw; (try dsimp only at hSw); go_simp; (try with_reducible rfl))
        (try simp only [Act.put, List.setIfInBounds_toArray, List.set_cons_zero, List.set_cons_succ])
        refine take_l 8 (v := ?_) rfl (by kernel_rfl) (by kernel_rfl) (by kernel_rfl) (fun _ _ _ h => h) (by rfl) ?_ (by assumption) ?_
        rotate_left
        · (intro w hSw; (try dsimp only at hSw); go_simp; (try with_reducible rfl))
        (try simp only [Act.put, List.setIfInBounds_toArray, List.set_cons_zero, List.set_cons_succ])
        refine take_l 9 (v := ?_) rfl (by kernel_rfl) (by kernel_rfl) (by kernel_rfl) (fun _ _ _ h => h) (by rfl) ?_ (by assumption) ?_
        rotate_left
        · (intro w hSw; (try dsimp only at hSw); go_simp; (try with_reducible rfl))
        (try simp only [Act.put, List.setIfInBounds_toArray, List.set_cons_zero, List.set_cons_succ])
        refine wpAnyH_ready (rs := [10]) (by kernel_rfl) (by simp) ?_
        refine cons_l (i := 10) rfl (fun K hK => ?_) ?_
        (go_simp; obtain ⟨bX, hbX⟩ : ∃ x, x = wc.heap.size := ⟨_, rfl⟩; obtain ⟨wn, hwn⟩ : ∃ x, x = wc.alloc (.cells #[.int .i64 0, .int .i64 0, .int .i64 0, .int .i64 0, .int .i64 0, .int .i64 0, .int .i64 0, .int .i64 0, .int .i64 0, .slice none 0 0] 26) := ⟨_, rfl⟩; have hal : Ext wc wn := (by rw [hwn]; exact (Ext.refl wc).alloc _); have hk := RowAt.new wc 26 #[.int .i64 0, .int .i64 0, .int .i64 0, .int .i64 0, .int .i64 0, .int .i64 0, .int .i64 0, .int .i64 0, .int .i64 0, .slice none 0 0]; rw [← hwn, ← hbX] at hk; rw [← hwn]; (try rw [← hbX]); have zz10 := hal.size; have lbX := hk.lt; have mbX : wc.heap.size ≤ bX := Nat.le_of_eq hbX.symm; have nbX : bX ≤ wc.heap.size := Nat.le_of_eq hbX; have xwbX : w5.heap.size ≤ bX := Nat.le_trans HX.out.size mbX; clear hbX hwn; (try replace KL := Lib.hid (KL.out.ext hal)); (try replace KR := Lib.hid (KR.out.ext hal)); (try replace KX := Lib.hid (KX.out.ext hal)); (try replace OP := Lib.hid (OP.out.ext hal)); (try replace OT := Lib.hid (OT.out.ext hal)); (try replace OC := Lib.hid (OC.out.ext hal)); (try replace HWX := Lib.hid (HWX.out.trans hal)); replace HX := Lib.hid (HX.out.trans hal); have KX := Lib.hid hk; clear hk hal; obtain ⟨wc, hq⟩ : ∃ x, x = wn := ⟨_, rfl⟩; subst hq)
        refine hK.out _ _ ?_ (fun hH2 => ?_)
        · (try dsimp only)
          (exact ⟨KL.out.cell rfl, KL.out.cell rfl, KL.out.cell rfl, KL.out.cell rfl, KL.out.cell rfl, KL.out.cell rfl, KL.out.cell rfl, KL.out.cell rfl, KL.out.cell rfl, KL.out.cell rfl, KR.out.cell rfl, KR.out.cell rfl, KR.out.cell rfl, HWX.out.cell E0.out, HWX.out.cell E1.out⟩)
        clear hK K hH1
        (try simp only [Act.put, List.setIfInBounds_toArray, List.set_cons_zero, List.set_cons_succ])
        refine wpAnyH_ready (rs := [11]) (by kernel_rfl) (by simp) ?_
        refine cons_l (i := 11) rfl (fun K hK => ?_) ?_
        (have hs0 := KX.out.cell (j := 0) (v := .int .i64 0) rfl; have hf0 := KX.out.frozen 0; have hs1 := KX.out.cell (j := 1) (v := .int .i64 0) rfl; have hf1 := KX.out.frozen 1; have hs2 := KX.out.cell (j := 2) (v := .int .i64 0) rfl; have hf2 := KX.out.frozen 2; have hs3 := KX.out.cell (j := 3) (v := .int .i64 0) rfl; have hf3 := KX.out.frozen 3; have hs4 := KX.out.cell (j := 4) (v := .int .i64 0) rfl; have hf4 := KX.out.frozen 4; have hs5 := KX.out.cell (j := 5) (v := .int .i64 0) rfl; have hf5 := KX.out.frozen 5; have hs6 := KX.out.cell (j := 6) (v := .int .i64 0) rfl; have hf6 := KX.out.frozen 6; have hs7 := KX.out.cell (j := 7) (v := .int .i64 0) rfl; have hf7 := KX.out.frozen 7; have hs8 := KX.out.cell (j := 8) (v := .int .i64 0) rfl; have hf8 := KX.out.frozen 8; have hs9 := KX.out.cell (j := 9) (v := .slice none 0 0) rfl; have hf9 := KX.out.frozen 9; go_simp; clear hs0 hf0 hs1 hf1 hs2 hf2 hs3 hf3 hs4 hf4 hs5 hf5 hs6 hf6 hs7 hf7 hs8 hf8 hs9 hf9; obtain ⟨wn, hwn⟩ : ∃ x, x = putAt wc (bX) 0 [.int .i64 x0, .int .i64 x1, .int .i64 x2, .int .i64 x3, .int .i64 x4, .int .i64 x5, .int .i64 x6, .int .i64 x7, .int .i64 x8, .slice a6 m1 c6] := ⟨_, rfl⟩; have en : ((((((((((wc.setCell ⟨bX, 0, none⟩ (.int .i64 x0)).setCell ⟨bX, 1, none⟩ (.int .i64 x1)).setCell ⟨bX, 2, none⟩ (.int .i64 x2)).setCell ⟨bX, 3, none⟩ (.int .i64 x3)).setCell ⟨bX, 4, none⟩ (.int .i64 x4)).setCell ⟨bX, 5, none⟩ (.int .i64 x5)).setCell ⟨bX, 6, none⟩ (.int .i64 x6)).setCell ⟨bX, 7, none⟩ (.int .i64 x7)).setCell ⟨bX, 8, none⟩ (.int .i64 x8)).setCell ⟨bX, 9, none⟩ (.slice a6 m1 c6)) = wn := (by rw [hwn]; rfl); rw [en]; clear en; have zz11 : wc.heap.size ≤ wn.heap.size := (by rw [hwn, put_size]; exact Nat.le_refl _); (first | replace HX := Lib.hid (show Ext w5 wn by rw [hwn]; exact put_ext (by first | assumption | omega) _ _ _ HX.out) | skip); (try replace KL := Lib.hid (show RowAt wn (bL) 26 _ by rw [hwn]; exact put_other (by omega) _ _ _ KL.out)); (try replace KR := Lib.hid (show RowAt wn (bR) 33 _ by rw [hwn]; exact put_other (by omega) _ _ _ KR.out)); replace KX := Lib.hid (RowAt.cast (c' := #[.int .i64 x0, .int .i64 x1, .int .i64 x2, .int .i64 x3, .int .i64 x4, .int .i64 x5, .int .i64 x6, .int .i64 x7, .int .i64 x8, .slice a6 m1 c6]) (show RowAt wn (bX) 26 (putArr #[.int .i64 0, .int .i64 0, .int .i64 0, .int .i64 0, .int .i64 0, .int .i64 0, .int .i64 0, .int .i64 0, .int .i64 0, .slice none 0 0] 0 [.int .i64 x0, .int .i64 x1, .int .i64 x2, .int .i64 x3, .int .i64 x4, .int .i64 x5, .int .i64 x6, .int .i64 x7, .int .i64 x8, .slice a6 m1 c6]) by rw [hwn]; exact put_at _ _ _ _ KX.out) (by simp [putArr])); (try replace OP := Lib.hid (OP.out.keep (w' := wn) (Nat.le_refl _) (Nat.le_refl _) (by rw [hwn]; exact put_kept (by omega)))); (try replace OT := Lib.hid (OT.out.keep (w' := wn) (Nat.le_refl _) (Nat.le_refl _) (by rw [hwn]; exact put_kept (by omega)))); (try replace OC := Lib.hid (OC.out.keep (w' := wn) (Nat.le_refl _) (Nat.le_refl _) (by rw [hwn]; exact put_kept (by omega)))); (try replace HWX := Lib.hid (show Ext _ wn by rw [hwn]; exact put_ext (by omega) _ _ _ HWX.out)); clear hwn; obtain ⟨wc, hq⟩ : ∃ x, x = wn := ⟨_, rfl⟩; subst hq)
        refine hK.out _ _ ?_ (fun hH3 => ?_)
        · (try dsimp only)
          (exact ⟨KL.out.cell rfl, KL.out.cell rfl, KL.out.cell rfl, KL.out.cell rfl, KL.out.cell rfl, KL.out.cell rfl, KL.out.cell rfl, KL.out.cell rfl, KL.out.cell rfl, KL.out.cell rfl, KR.out.cell rfl, KR.out.cell rfl, KR.out.cell rfl, HWX.out.cell E0.out, HWX.out.cell E1.out⟩)
        clear hK K hH2
        (try simp only [Act.put, List.setIfInBounds_toArray, List.set_cons_zero, List.set_cons_succ])
        refine take_l 12 (v := ?_) rfl (by kernel_rfl) (by kernel_rfl) (by kernel_rfl) (fun _ _ _ h => h) (by rfl) ?_ (by assumption) ?_
        rotate_left
        · (intro w hSw; (try dsimp only at hSw); go_simp; (try with_reducible rfl))
        (try simp only [Act.put, List.setIfInBounds_toArray, List.set_cons_zero, List.set_cons_succ])
        refine wpAnyH_done (by kernel_rfl) ?_ _
        rotate_left
        exact AllReadyH.nil
        exact AllReadyH.nil
        refine cons_l (i := 10) rfl (fun K hK => ?_) ?_
        (go_simp; obtain ⟨bX, hbX⟩ : ∃ x, x = wc.heap.size := ⟨_, rfl⟩; obtain ⟨wn, hwn⟩ : ∃ x, x = wc.alloc (.cells #[.int .i64 0, .int .i64 0, .int .i64 0, .int .i64 0, .int .i64 0, .int .i64 0, .int .i64 0, .int .i64 0, .int .i64 0, .slice none 0 0] 26) := ⟨_, rfl⟩; have hal : Ext wc wn := (by rw [hwn]; exact (Ext.refl wc).alloc _); have hk := RowAt.new wc 26 #[.int .i64 0, .int .i64 0, .int .i64 0, .int .i64 0, .int .i64 0, .int .i64 0, .int .i64 0, .int .i64 0, .int .i64 0, .slice none 0 0]; rw [← hwn, ← hbX] at hk; rw [← hwn]; (try rw [← hbX]); have zz10 := hal.size; have lbX := hk.lt; have mbX : wc.heap.size ≤ bX := Nat.le_of_eq hbX.symm; have nbX : bX ≤ wc.heap.size := Nat.le_of_eq hbX; have xwbX : w5.heap.size ≤ bX := Nat.le_trans HX.out.size mbX; clear hbX hwn; (try replace KL := Lib.hid (KL.out.ext hal)); (try replace KR := Lib.hid (KR.out.ext hal)); (try replace KX := Lib.hid (KX.out.ext hal)); (try replace OP := Lib.hid (OP.out.ext hal)); (try replace OT := Lib.hid (OT.out.ext hal)); (try replace OC := Lib.hid (OC.out.ext hal)); (try replace HWX := Lib.hid (HWX.out.trans hal)); replace HX := Lib.hid (HX.out.trans hal); have KX := Lib.hid hk; clear hk hal; obtain ⟨wc, hq⟩ : ∃ x, x = wn := ⟨_, rfl⟩; subst hq)
        refine hK.out _ _ ?_ (fun hH1 => ?_)
        · (try dsimp only)
          (exact ⟨KL.out.cell rfl, KL.out.cell rfl, KL.out.cell rfl, KL.out.cell rfl, KL.out.cell rfl, KL.out.cell rfl, KL.out.cell rfl, KL.out.cell rfl, KL.out.cell rfl, KL.out.cell rfl, KR.out.cell rfl, KR.out.cell rfl, KR.out.cell rfl, HWX.out.cell E0.out, HWX.out.cell E1.out⟩)
        clear hK K hH0
        (try simp only [Act.put, List.setIfInBounds_toArray, List.set_cons_zero, List.set_cons_succ])
        refine wpAnyH_ready (rs := [6]) (by kernel_rfl) (by simp) ?_
        refine cons_l (i := 6) rfl (fun K hK => ?_) ?_
        (go_simp; obtain ⟨lo6, hlo6⟩ : ∃ n, n = wc.heap.size := ⟨_, rfl⟩; have mlo6 : lo6 ≤ wc.heap.size := Nat.le_of_eq hlo6; have nlo6 : wc.heap.size ≤ lo6 := Nat.le_of_eq hlo6.symm; have xwlo6 : w5.heap.size ≤ lo6 := Nat.le_trans HX.out.size nlo6; (go_at_call 17; with_reducible refine (implEnterC_any ts1 m1 ok _ _ _ _ _ _ _ _ _ _ _ _ cu _ _ _ _ _ _ _ tabL [] _ _ _ _ rows _ hnC.out (by omega) hsm.out OT.out.trains HT2.out (by omega) HP0.out (by omega) OP.out.at (HINT.out _) hvi HM.out HG1.out HG2.out HG3.out (HFR.out.ext HWX.out) hi0 hi1' HM1.out HRES.out).mono ?_); rintro e wc ⟨a6, c6, rfl, hcap6, ho6, hb⟩; have zz6 := hb.size; obtain ⟨hi6, hhi6⟩ : ∃ n, n = wc.heap.size := ⟨_, rfl⟩; have mhi6 : hi6 ≤ wc.heap.size := Nat.le_of_eq hhi6; have nhi6 : wc.heap.size ≤ hi6 := Nat.le_of_eq hhi6.symm; (try rw [← hlo6] at ho6); (try rw [← hhi6] at ho6); clear hlo6; clear hhi6; (try replace KL := Lib.hid (KL.out.ext hb)); (try replace KR := Lib.hid (KR.out.ext hb)); (try replace KX := Lib.hid (KX.out.ext hb)); (try replace OP := Lib.hid (OP.out.ext hb)); (try replace OT := Lib.hid (OT.out.ext hb)); (try replace OC := Lib.hid (OC.out.ext hb)); (try replace HWX := Lib.hid (HWX.out.trans hb)); replace HX := Lib.hid (HX.out.trans hb); have OC := Lib.hid ho6; clear ho6; clear hb)
        refine hK.out _ _ ?_ (fun hH2 => ?_)
        · (try dsimp only)
          (exact ⟨KL.out.cell rfl, KL.out.cell rfl, KL.out.cell rfl, KL.out.cell rfl, KL.out.cell rfl, KL.out.cell rfl, KL.out.cell rfl, KL.out.cell rfl, KL.out.cell rfl, KL.out.cell rfl, KR.out.cell rfl, KR.out.cell rfl, KR.out.cell rfl, HWX.out.cell E0.out, HWX.out.cell E1.out⟩)
        clear hK K hH1
        (try simp only [Act.put, List.setIfInBounds_toArray, List.set_cons_zero, List.set_cons_succ])
        refine take_l 7 (v := ?_) rfl (by kernel_rfl) (by kernel_rfl) (by kernel_rfl) (fun _ _ _ h => h) (by rfl) ?_ (by assumption) ?_
        rotate_left
        · (intro w hSw; (try dsimp only at hSw); go_simp; (try with_reducible rfl))
        (try simp only [Act.put, List.setIfInBounds_toArray, List.set_cons_zero, List.set_cons_succ])
        refine take_l 8 (v := ?_) rfl (by kernel_rfl) (by kernel_rfl) (by kernel_rfl) (fun _ _ _ h => h) (by rfl) ?_ (by assumption) ?_
        rotate_left
        · (intro w hSw; (try dsimp only at hSw); go_simp; (try with_reducible rfl))
        (try simp only [Act.put, List.setIfInBounds_toArray, List.set_cons_zero, List.set_cons_succ])
        refine take_l 9 (v := ?_) rfl (by kernel_rfl) (by kernel_rfl) (by kernel_rfl) (fun _ _ _ h => h) (by rfl) ?_ (by assumption) ?_
        rotate_left
        · (intro w hSw; (try dsimp only at hSw); go_simp; (try with_reducible rfl))
        (try simp only [Act.put, List.setIfInBounds_toArray, List.set_cons_zero, List.set_cons_succ])
        refine wpAnyH_ready (rs := [11]) (by kernel_rfl) (by simp) ?_
        refine cons_l (i := 11) rfl (fun K hK => ?_) ?_
        (have hs0 := KX.out.cell (j := 0) (v := .int .i64 0) rfl; have hf0 := KX.out.frozen 0; have hs1 := KX.out.cell (j := 1) (v := .int .i64 0) rfl; have hf1 := KX.out.frozen 1; have hs2 := KX.out.cell (j := 2) (v := .int .i64 0) rfl; have hf2 := KX.out.frozen 2; have hs3 := KX.out.cell (j := 3) (v := .int .i64 0) rfl; have hf3 := KX.out.frozen 3; have hs4 := KX.out.cell (j := 4) (v := .int .i64 0) rfl; have hf4 := KX.out.frozen 4; have hs5 := KX.out.cell (j := 5) (v := .int .i64 0) rfl; have hf5 := KX.out.frozen 5; have hs6 := KX.out.cell (j := 6) (v := .int .i64 0) rfl; have hf6 := KX.out.frozen 6; have hs7 := KX.out.cell (j := 7) (v := .int .i64 0) rfl; have hf7 := KX.out.frozen 7; have hs8 := KX.out.cell (j := 8) (v := .int .i64 0) rfl; have hf8 := KX.out.frozen 8; have hs9 := KX.out.cell (j := 9) (v := .slice none 0 0) rfl; have hf9 := KX.out.frozen 9; go_simp; clear hs0 hf0 hs1 hf1 hs2 hf2 hs3 hf3 hs4 hf4 hs5 hf5 hs6 hf6 hs7 hf7 hs8 hf8 hs9 hf9; obtain ⟨wn, hwn⟩ : ∃ x, x = putAt wc (bX) 0 [.int .i64 x0, .int .i64 x1, .int .i64 x2, .int .i64 x3, .int .i64 x4, .int .i64 x5, .int .i64 x6, .int .i64 x7, .int .i64 x8, .slice a6 m1 c6] := ⟨_, rfl⟩; have en : ((((((((((wc.setCell ⟨bX, 0, none⟩ (.int .i64 x0)).setCell ⟨bX, 1, none⟩ (.int .i64 x1)).setCell ⟨bX, 2, none⟩ (.int .i64 x2)).setCell ⟨bX, 3, none⟩ (.int .i64 x3)).setCell ⟨bX, 4, none⟩ (.int .i64 x4)).setCell ⟨bX, 5, none⟩ (.int .i64 x5)).setCell ⟨bX, 6, none⟩ (.int .i64 x6)).setCell ⟨bX, 7, none⟩ (.int .i64 x7)).setCell ⟨bX, 8, none⟩ (.int .i64 x8)).setCell ⟨bX, 9, none⟩ (.slice a6 m1 c6)) = wn := (by rw [hwn]; rfl); rw [en]; clear en; have zz11 : wc.heap.size ≤ wn.heap.size := (by rw [hwn, put_size]; exact Nat.le_refl _); (first | replace HX := Lib.hid (show Ext w5 wn by rw [hwn]; exact put_ext (by first | assumption | omega) _ _ _ HX.out) | skip); (try replace KL := Lib.hid (show RowAt wn (bL) 26 _ by rw [hwn]; exact put_other (by omega) _ _ _ KL.out)); (try replace KR := Lib.hid (show RowAt wn (bR) 33 _ by rw [hwn]; exact put_other (by omega) _ _ _ KR.out)); replace KX := Lib.hid (RowAt.cast (c' := #[.int .i64 x0, .int .i64 x1, .int .i64 x2, .int .i64 x3, .int .i64 x4, .int .i64 x5, .int .i64 x6, .int .i64 x7, .int .i64 x8, .slice a6 m1 c6]) (show RowAt wn (bX) 26 (putArr #[.int .i64 0, .int .i64 0, .int .i64 0, .int .i64 0, .int .i64 0, .int .i64 0, .int .i64 0, .int .i64 0, .int .i64 0, .slice none 0 0] 0 [.int .i64 x0, .int .i64 x1, .int .i64 x2, .int .i64 x3, .int .i64 x4, .int .i64 x5, .int .i64 x6, .int .i64 x7, .int .i64 x8, .slice a6 m1 c6]) by rw [hwn]; exact put_at _ _ _ _ KX.out) (by simp [putArr])); (try replace OP := Lib.hid (OP.out.keep (w' := wn) (Nat.le_refl _) (Nat.le_refl _) (by rw [hwn]; exact put_kept (by omega)))); (try replace OT := Lib.hid (OT.out.keep (w' := wn) (Nat.le_refl _) (Nat.le_refl _) (by rw [hwn]; exact put_kept (by omega)))); (try replace OC := Lib.hid (OC.out.keep (w' := wn) (Nat.le_refl _) (Nat.le_refl _) (by rw [hwn]; exact put_kept (by omega)))); (try replace HWX := Lib.hid (show Ext _ wn by rw [hwn]; exact put_ext (by omega) _ _ _ HWX.out)); clear hwn; obtain ⟨wc, hq⟩ : ∃ x, x = wn := ⟨_, rfl⟩; subst hq)
        refine hK.out _ _ ?_ (fun hH3 => ?_)
        · (try dsimp only)
          (exact ⟨KL.out.cell rfl, KL.out.cell rfl, KL.out.cell rfl, KL.out.cell rfl, KL.out.cell rfl, KL.out.cell rfl, KL.out.cell rfl, KL.out.cell rfl, KL.out.cell rfl, KL.out.cell rfl, KR.out.cell rfl, KR.out.cell rfl, KR.out.cell rfl, HWX.out.cell E0.out, HWX.out.cell E1.out⟩)
        clear hK K hH2
        (try simp only [Act.put, List.setIfInBounds_toArray, List.set_cons_zero, List.set_cons_succ])
        refine take_l 12 (v := ?_) rfl (by kernel_rfl) (by kernel_rfl) (by kernel_rfl) (fun _ _ _ h => h) (by rfl) ?_ (by assumption) ?_
        rotate_left
        · (intro w hSw; (try dsimp only at hSw); go_simp; (try with_reducible rfl))
        (try simp only [Act.put, List.setIfInBounds_toArray, List.set_cons_zero, List.set_cons_succ])
        refine wpAnyH_done (by kernel_rfl) ?_ _
        rotate_left
        exact AllReadyH.nil
        exact AllReadyH.nil
        exact AllReadyH.nil
        all_goals
          obtain ⟨w6, hq⟩ : ∃ x, x = wc := ⟨_, rfl⟩; subst hq
          have zX := KX.out.lt; have zL := KL.out.lt; have zR := KR.out.lt
          clear HX
          cases ok
          case false =>
            (try dsimp only)
            go_wp2_with fail
            (refine wp_region_aft w6 (Ext.refl _) (by kernel_rfl) (by kernel_rfl) ?_; (repeat (go_big_quiet_step ((fail)))); refine wpQuiet_nil ?_; intro w2 hx2)
            obtain ⟨w21, hq⟩ : ∃ x, x = w2 := ⟨_, rfl⟩; subst hq
            replace HWX := Lib.hid (HWX.out.trans hx2)
            replace KL := Lib.hid (KL.out.ext hx2)
            replace KR := Lib.hid (KR.out.ext hx2)
            replace KX := Lib.hid (KX.out.ext hx2)
            replace OP := Lib.hid (OP.out.ext hx2)
            replace OC := Lib.hid (OC.out.ext hx2)
            replace OT := Lib.hid (OT.out.ext hx2)
            have zz21 := hx2.size
            clear hx2
            have cX0 : w21.cell? ⟨bX, 0, none⟩ = some (.int .i64 x0) := KX.out.cell rfl
            have cX1 : w21.cell? ⟨bX, 1, none⟩ = some (.int .i64 x1) := KX.out.cell rfl
            have cX2 : w21.cell? ⟨bX, 2, none⟩ = some (.int .i64 x2) := KX.out.cell rfl
            have cX3 : w21.cell? ⟨bX, 3, none⟩ = some (.int .i64 x3) := KX.out.cell rfl
            have cX4 : w21.cell? ⟨bX, 4, none⟩ = some (.int .i64 x4) := KX.out.cell rfl
            have cX5 : w21.cell? ⟨bX, 5, none⟩ = some (.int .i64 x5) := KX.out.cell rfl
            have cX6 : w21.cell? ⟨bX, 6, none⟩ = some (.int .i64 x6) := KX.out.cell rfl
            have cX7 : w21.cell? ⟨bX, 7, none⟩ = some (.int .i64 x7) := KX.out.cell rfl
            have cX8 : w21.cell? ⟨bX, 8, none⟩ = some (.int .i64 x8) := KX.out.cell rfl
            have cX9 : w21.cell? ⟨bX, 9, none⟩ = some (.slice a6 m1 c6) := KX.out.cell rfl
            have cL0 : w21.cell? ⟨bL, 0, none⟩ = some (.int .i64 x0) := KL.out.cell rfl
            have fL0 := KL.out.frozen 0
            have cL1 : w21.cell? ⟨bL, 1, none⟩ = some (.int .i64 x1) := KL.out.cell rfl
            have fL1 := KL.out.frozen 1
            have cL2 : w21.cell? ⟨bL, 2, none⟩ = some (.int .i64 x2) := KL.out.cell rfl
            have fL2 := KL.out.frozen 2
            have cL3 : w21.cell? ⟨bL, 3, none⟩ = some (.int .i64 x3) := KL.out.cell rfl
            have fL3 := KL.out.frozen 3
            have cL4 : w21.cell? ⟨bL, 4, none⟩ = some (.int .i64 x4) := KL.out.cell rfl
            have fL4 := KL.out.frozen 4
            have cL5 : w21.cell? ⟨bL, 5, none⟩ = some (.int .i64 x5) := KL.out.cell rfl
            have fL5 := KL.out.frozen 5
            have cL6 : w21.cell? ⟨bL, 6, none⟩ = some (.int .i64 x6) := KL.out.cell rfl
            have fL6 := KL.out.frozen 6
            have cL7 : w21.cell? ⟨bL, 7, none⟩ = some (.int .i64 x7) := KL.out.cell rfl
            have fL7 := KL.out.frozen 7
            have cL8 : w21.cell? ⟨bL, 8, none⟩ = some (.int .i64 x8) := KL.out.cell rfl
            have fL8 := KL.out.frozen 8
            have cL9 : w21.cell? ⟨bL, 9, none⟩ = some (.slice aC nC cC) := KL.out.cell rfl
            have fL9 := KL.out.frozen 9
            go_wp2
            clear cX0 cX1 cX2 cX3 cX4 cX5 cX6 cX7 cX8 cX9
            clear cL0 fL0 cL1 fL1 cL2 fL2 cL3 fL3 cL4 fL4 cL5 fL5 cL6 fL6 cL7 fL7 cL8 fL8 cL9 fL9
            clear OT
            obtain ⟨w22, hw22⟩ : ∃ x, x = putAt (w21) bL 0 [.int .i64 x0, .int .i64 x1, .int .i64 x2, .int .i64 x3, .int .i64 x4, .int .i64 x5, .int .i64 x6, .int .i64 x7, .int .i64 x8, .slice a6 m1 c6] := ⟨_, rfl⟩
            have en : ((((((((((w21.setCell ⟨bL, 0, none⟩ (.int .i64 x0)).setCell ⟨bL, 1, none⟩ (.int .i64 x1)).setCell ⟨bL, 2, none⟩ (.int .i64 x2)).setCell ⟨bL, 3, none⟩ (.int .i64 x3)).setCell ⟨bL, 4, none⟩ (.int .i64 x4)).setCell ⟨bL, 5, none⟩ (.int .i64 x5)).setCell ⟨bL, 6, none⟩ (.int .i64 x6)).setCell ⟨bL, 7, none⟩ (.int .i64 x7)).setCell ⟨bL, 8, none⟩ (.int .i64 x8)).setCell ⟨bL, 9, none⟩ (.slice a6 m1 c6)) = w22 := (by rw [hw22]; rfl)
            rw [en]; clear en
            have zw22 : w22.heap.size = w21.heap.size := by rw [hw22, put_size]
            replace HWX := Lib.hid (show Ext _ w22 by rw [hw22]; exact put_ext (by omega) _ _ _ (HWX.out))
            replace KL := Lib.hid (RowAt.cast (c' := #[.int .i64 x0, .int .i64 x1, .int .i64 x2, .int .i64 x3, .int .i64 x4, .int .i64 x5, .int .i64 x6, .int .i64 x7, .int .i64 x8, .slice a6 m1 c6]) (show RowAt w22 (bL) 26 (putArr #[.int .i64 x0, .int .i64 x1, .int .i64 x2, .int .i64 x3, .int .i64 x4, .int .i64 x5, .int .i64 x6, .int .i64 x7, .int .i64 x8, .slice aC nC cC] 0 [.int .i64 x0, .int .i64 x1, .int .i64 x2, .int .i64 x3, .int .i64 x4, .int .i64 x5, .int .i64 x6, .int .i64 x7, .int .i64 x8, .slice a6 m1 c6]) by rw [hw22]; exact put_at _ _ _ _ (KL.out)) (by simp [putArr]))
            replace KR := Lib.hid (show RowAt w22 (bR) 33 _ by rw [hw22]; exact put_other (by omega) _ _ _ (KR.out))
            replace KX := Lib.hid (show RowAt w22 (bX) 26 _ by rw [hw22]; exact put_other (by omega) _ _ _ (KX.out))
            replace OP := Lib.hid (OP.out.keep (w' := w22) (Nat.le_refl _) (Nat.le_refl _) (by rw [hw22]; exact fun B t c h1 h2 hr => put_kept (by omega) B t c h1 h2 (hr)))
            replace OC := Lib.hid (OC.out.keep (w' := w22) (Nat.le_refl _) (Nat.le_refl _) (by rw [hw22]; exact fun B t c h1 h2 hr => put_kept (by omega) B t c h1 h2 (hr)))
            clear hw22
            go_roundw
            case rel => exact ⟨j + 1, ts1, a6, m1, c6, lo6, hi6, by omega, by go_num, hcap6, hm8, .inr (by omega), ⟨by omega, by omega⟩, HWX, KL, KR, OP, HM1, HOK1, HSM1, OC⟩
            case measure => simp [intOf]; omega
          case true =>
            (try dsimp only)
            obtain ⟨hm1, hx8, hdl⟩ := HYES2.out rfl
            have HMT := Lib.hid (HMAY.out rfl)
            have e80 : (x8 == 0) = false := by rw [hx8]; decide
            have e82 : (x8 == 2) = false := by rw [hx8]; decide
            have hmne : ((m1 : Int) != (nC : Int) + 1) = false := by rw [hm1]; simp
            have hdl2 : dra ≤ lev - x2 := hdl
            have hq83 : decide (lev - x2 < dra) = false := decide_eq_false (by omega)
            have hq84 : IntKind.i64.wrap (lev - x2) = lev - x2 := IntWalk.i64_in _ (by omega)
            clear hx8 hdl hm1
            go_wp2_with fail
            have p0_ : ∀ y : Aft w6, y.1.cell? ⟨b0, off + j * 2, none⟩ = some (.bool false) := fun y => y.2.cell (HWX.out.cell E0.out)
            have p1_ : ∀ y : Aft w6, y.1.cell? ⟨b0, off + j * 2 + 1, none⟩ = some (.slice a' m c') := fun y => y.2.cell (HWX.out.cell E1.out)
            have cL0 : ∀ y : Aft w6, y.1.cell? ⟨bL, 0, none⟩ = some (.int .i64 x0) := fun y => (KL.out.ext y.2).cell rfl
            have cL1 : ∀ y : Aft w6, y.1.cell? ⟨bL, 1, none⟩ = some (.int .i64 x1) := fun y => (KL.out.ext y.2).cell rfl
            have cL2 : ∀ y : Aft w6, y.1.cell? ⟨bL, 2, none⟩ = some (.int .i64 x2) := fun y => (KL.out.ext y.2).cell rfl
            have cL3 : ∀ y : Aft w6, y.1.cell? ⟨bL, 3, none⟩ = some (.int .i64 x3) := fun y => (KL.out.ext y.2).cell rfl
            have cL4 : ∀ y : Aft w6, y.1.cell? ⟨bL, 4, none⟩ = some (.int .i64 x4) := fun y => (KL.out.ext y.2).cell rfl
            have cL5 : ∀ y : Aft w6, y.1.cell? ⟨bL, 5, none⟩ = some (.int .i64 x5) := fun y => (KL.out.ext y.2).cell rfl
            have cL6 : ∀ y : Aft w6, y.1.cell? ⟨bL, 6, none⟩ = some (.int .i64 x6) := fun y => (KL.out.ext y.2).cell rfl
            have cL7 : ∀ y : Aft w6, y.1.cell? ⟨bL, 7, none⟩ = some (.int .i64 x7) := fun y => (KL.out.ext y.2).cell rfl
            have cL8 : ∀ y : Aft w6, y.1.cell? ⟨bL, 8, none⟩ = some (.int .i64 x8) := fun y => (KL.out.ext y.2).cell rfl
            have cL9 : ∀ y : Aft w6, y.1.cell? ⟨bL, 9, none⟩ = some (.slice aC nC cC) := fun y => (KL.out.ext y.2).cell rfl
            have cR0 : ∀ y : Aft w6, y.1.cell? ⟨bR, 0, none⟩ = some (.slice ta 2 tc) := fun y => (KR.out.ext y.2).cell rfl
            have cR1 : ∀ y : Aft w6, y.1.cell? ⟨bR, 1, none⟩ = some (.int .i64 vol) := fun y => (KR.out.ext y.2).cell rfl
            have cR2 : ∀ y : Aft w6, y.1.cell? ⟨bR, 2, none⟩ = some (.slice pa 0 pc) := fun y => (KR.out.ext y.2).cell rfl
            have cX0 : ∀ y : Aft w6, y.1.cell? ⟨bX, 0, none⟩ = some (.int .i64 x0) := fun y => (KX.out.ext y.2).cell rfl
            have cX1 : ∀ y : Aft w6, y.1.cell? ⟨bX, 1, none⟩ = some (.int .i64 x1) := fun y => (KX.out.ext y.2).cell rfl
            have cX2 : ∀ y : Aft w6, y.1.cell? ⟨bX, 2, none⟩ = some (.int .i64 x2) := fun y => (KX.out.ext y.2).cell rfl
            have cX3 : ∀ y : Aft w6, y.1.cell? ⟨bX, 3, none⟩ = some (.int .i64 x3) := fun y => (KX.out.ext y.2).cell rfl
            have cX4 : ∀ y : Aft w6, y.1.cell? ⟨bX, 4, none⟩ = some (.int .i64 x4) := fun y => (KX.out.ext y.2).cell rfl
            have cX5 : ∀ y : Aft w6, y.1.cell? ⟨bX, 5, none⟩ = some (.int .i64 x5) := fun y => (KX.out.ext y.2).cell rfl
            have cX6 : ∀ y : Aft w6, y.1.cell? ⟨bX, 6, none⟩ = some (.int .i64 x6) := fun y => (KX.out.ext y.2).cell rfl
            have cX7 : ∀ y : Aft w6, y.1.cell? ⟨bX, 7, none⟩ = some (.int .i64 x7) := fun y => (KX.out.ext y.2).cell rfl
            have cX8 : ∀ y : Aft w6, y.1.cell? ⟨bX, 8, none⟩ = some (.int .i64 x8) := fun y => (KX.out.ext y.2).cell rfl
            have cX9 : ∀ y : Aft w6, y.1.cell? ⟨bX, 9, none⟩ = some (.slice a6 m1 c6) := fun y => (KX.out.ext y.2).cell rfl
            (refine wp_region_aft w6 (Ext.refl _) (by kernel_rfl) (by kernel_rfl) ?_; (repeat (go_big_quiet_step ((first | (go_at_call 12; with_reducible exact aft_call (implLevel_is lev _ _ _ _ _ _ _ tabL [] _ HT2.out (by unfold maxLen; omega) HP0.out (by unfold maxLen; omega) (OP.out.at.ext (Subtype.property _)) (HINT.out _) hvi HLEV.out)) | (go_at_call 18; with_reducible exact aft_call (implDraught_is dra _ _ _ _ rows _ HM.out HG1.out HG3.out (HFR.out.ext (HWX.out.trans (Subtype.property _))) HDRA.out)) | (go_at_call 19; with_reducible exact aft_call (implMayEnter_any true _ _ _ _ _ _ _ _ _ _ _ _ cu _ _ _ _ _ _ _ tabL [] _ _ _ _ rows _ hnC.out (by omega) hsm.out (OT.out.trains.ext (Subtype.property _)) HT2.out (by unfold maxLen; omega) HP0.out (by unfold maxLen; omega) (OP.out.at.ext (Subtype.property _)) (HINT.out _) hvi HM.out HG1.out HG3.out (HFR.out.ext (HWX.out.trans (Subtype.property _))) HMT.out)))))); refine wpQuiet_nil ?_; intro w2 hx2)
            obtain ⟨w21, hq⟩ : ∃ x, x = w2 := ⟨_, rfl⟩; subst hq
            clear cL0 cL1 cL2 cL3 cL4 cL5 cL6 cL7 cL8 cL9 cR0 cR1 cR2 cX0 cX1 cX2 cX3 cX4 cX5 cX6 cX7 cX8 cX9
            clear p0_ p1_
            replace HWX := Lib.hid (HWX.out.trans hx2)
            replace KL := Lib.hid (KL.out.ext hx2)
            replace KR := Lib.hid (KR.out.ext hx2)
            replace KX := Lib.hid (KX.out.ext hx2)
            replace OP := Lib.hid (OP.out.ext hx2)
            replace OC := Lib.hid (OC.out.ext hx2)
            replace OT := Lib.hid (OT.out.ext hx2)
            have zz21 := hx2.size
            clear hx2
            have cX0 : w21.cell? ⟨bX, 0, none⟩ = some (.int .i64 x0) := KX.out.cell rfl
            have cX1 : w21.cell? ⟨bX, 1, none⟩ = some (.int .i64 x1) := KX.out.cell rfl
            have cX2 : w21.cell? ⟨bX, 2, none⟩ = some (.int .i64 x2) := KX.out.cell rfl
            have cX3 : w21.cell? ⟨bX, 3, none⟩ = some (.int .i64 x3) := KX.out.cell rfl
            have cX4 : w21.cell? ⟨bX, 4, none⟩ = some (.int .i64 x4) := KX.out.cell rfl
            have cX5 : w21.cell? ⟨bX, 5, none⟩ = some (.int .i64 x5) := KX.out.cell rfl
            have cX6 : w21.cell? ⟨bX, 6, none⟩ = some (.int .i64 x6) := KX.out.cell rfl
            have cX7 : w21.cell? ⟨bX, 7, none⟩ = some (.int .i64 x7) := KX.out.cell rfl
            have cX8 : w21.cell? ⟨bX, 8, none⟩ = some (.int .i64 x8) := KX.out.cell rfl
            have cX9 : w21.cell? ⟨bX, 9, none⟩ = some (.slice a6 m1 c6) := KX.out.cell rfl
            have cL0 : w21.cell? ⟨bL, 0, none⟩ = some (.int .i64 x0) := KL.out.cell rfl
            have fL0 := KL.out.frozen 0
            have cL1 : w21.cell? ⟨bL, 1, none⟩ = some (.int .i64 x1) := KL.out.cell rfl
            have fL1 := KL.out.frozen 1
            have cL2 : w21.cell? ⟨bL, 2, none⟩ = some (.int .i64 x2) := KL.out.cell rfl
            have fL2 := KL.out.frozen 2
            have cL3 : w21.cell? ⟨bL, 3, none⟩ = some (.int .i64 x3) := KL.out.cell rfl
            have fL3 := KL.out.frozen 3
            have cL4 : w21.cell? ⟨bL, 4, none⟩ = some (.int .i64 x4) := KL.out.cell rfl
            have fL4 := KL.out.frozen 4
            have cL5 : w21.cell? ⟨bL, 5, none⟩ = some (.int .i64 x5) := KL.out.cell rfl
            have fL5 := KL.out.frozen 5
            have cL6 : w21.cell? ⟨bL, 6, none⟩ = some (.int .i64 x6) := KL.out.cell rfl
            have fL6 := KL.out.frozen 6
            have cL7 : w21.cell? ⟨bL, 7, none⟩ = some (.int .i64 x7) := KL.out.cell rfl
            have fL7 := KL.out.frozen 7
            have cL8 : w21.cell? ⟨bL, 8, none⟩ = some (.int .i64 x8) := KL.out.cell rfl
            have fL8 := KL.out.frozen 8
            have cL9 : w21.cell? ⟨bL, 9, none⟩ = some (.slice aC nC cC) := KL.out.cell rfl
            have fL9 := KL.out.frozen 9
            go_wp2
            clear cX0 cX1 cX2 cX3 cX4 cX5 cX6 cX7 cX8 cX9
            clear cL0 fL0 cL1 fL1 cL2 fL2 cL3 fL3 cL4 fL4 cL5 fL5 cL6 fL6 cL7 fL7 cL8 fL8 cL9 fL9
            clear OT
            obtain ⟨w22, hw22⟩ : ∃ x, x = putAt (w21) bL 0 [.int .i64 x0, .int .i64 x1, .int .i64 x2, .int .i64 x3, .int .i64 x4, .int .i64 x5, .int .i64 x6, .int .i64 x7, .int .i64 x8, .slice a6 m1 c6] := ⟨_, rfl⟩
            have en : ((((((((((w21.setCell ⟨bL, 0, none⟩ (.int .i64 x0)).setCell ⟨bL, 1, none⟩ (.int .i64 x1)).setCell ⟨bL, 2, none⟩ (.int .i64 x2)).setCell ⟨bL, 3, none⟩ (.int .i64 x3)).setCell ⟨bL, 4, none⟩ (.int .i64 x4)).setCell ⟨bL, 5, none⟩ (.int .i64 x5)).setCell ⟨bL, 6, none⟩ (.int .i64 x6)).setCell ⟨bL, 7, none⟩ (.int .i64 x7)).setCell ⟨bL, 8, none⟩ (.int .i64 x8)).setCell ⟨bL, 9, none⟩ (.slice a6 m1 c6)) = w22 := (by rw [hw22]; rfl)
            rw [en]; clear en
            have zw22 : w22.heap.size = w21.heap.size := by rw [hw22, put_size]
            replace HWX := Lib.hid (show Ext _ w22 by rw [hw22]; exact put_ext (by omega) _ _ _ (HWX.out))
            replace KL := Lib.hid (RowAt.cast (c' := #[.int .i64 x0, .int .i64 x1, .int .i64 x2, .int .i64 x3, .int .i64 x4, .int .i64 x5, .int .i64 x6, .int .i64 x7, .int .i64 x8, .slice a6 m1 c6]) (show RowAt w22 (bL) 26 (putArr #[.int .i64 x0, .int .i64 x1, .int .i64 x2, .int .i64 x3, .int .i64 x4, .int .i64 x5, .int .i64 x6, .int .i64 x7, .int .i64 x8, .slice aC nC cC] 0 [.int .i64 x0, .int .i64 x1, .int .i64 x2, .int .i64 x3, .int .i64 x4, .int .i64 x5, .int .i64 x6, .int .i64 x7, .int .i64 x8, .slice a6 m1 c6]) by rw [hw22]; exact put_at _ _ _ _ (KL.out)) (by simp [putArr]))
            replace KR := Lib.hid (show RowAt w22 (bR) 33 _ by rw [hw22]; exact put_other (by omega) _ _ _ (KR.out))
            replace KX := Lib.hid (show RowAt w22 (bX) 26 _ by rw [hw22]; exact put_other (by omega) _ _ _ (KX.out))
            replace OP := Lib.hid (OP.out.keep (w' := w22) (Nat.le_refl _) (Nat.le_refl _) (by rw [hw22]; exact fun B t c h1 h2 hr => put_kept (by omega) B t c h1 h2 (hr)))
            replace OC := Lib.hid (OC.out.keep (w' := w22) (Nat.le_refl _) (Nat.le_refl _) (by rw [hw22]; exact fun B t c h1 h2 hr => put_kept (by omega) B t c h1 h2 (hr)))
            clear hw22
            go_roundw
            case rel => exact ⟨j + 1, ts1, a6, m1, c6, lo6, hi6, by omega, by go_num, hcap6, hm8, .inr (by omega), ⟨by omega, by omega⟩, HWX, KL, KR, OP, HM1, HOK1, HSM1, OC⟩
            case measure => simp [intOf]; omega
      case true =>
        have hsl : x3 = sill := HSL.out; clear HSL
        subst hsl
        have e0 := HX.out.cell E0.out; have e1 := HX.out.cell E1.out
        have cL0 : w5.cell? ⟨bL, 0, none⟩ = some (.int .i64 x0) := KL.out.cell rfl
        have cL1 : w5.cell? ⟨bL, 1, none⟩ = some (.int .i64 x1) := KL.out.cell rfl
        have cL2 : w5.cell? ⟨bL, 2, none⟩ = some (.int .i64 x2) := KL.out.cell rfl
        have cL3 : w5.cell? ⟨bL, 3, none⟩ = some (.int .i64 x3) := KL.out.cell rfl
        have cL4 : w5.cell? ⟨bL, 4, none⟩ = some (.int .i64 x4) := KL.out.cell rfl
        have cL5 : w5.cell? ⟨bL, 5, none⟩ = some (.int .i64 x5) := KL.out.cell rfl
        have cL6 : w5.cell? ⟨bL, 6, none⟩ = some (.int .i64 x6) := KL.out.cell rfl
        have cL7 : w5.cell? ⟨bL, 7, none⟩ = some (.int .i64 x7) := KL.out.cell rfl
        have cL8 : w5.cell? ⟨bL, 8, none⟩ = some (.int .i64 x8) := KL.out.cell rfl
        have cL9 : w5.cell? ⟨bL, 9, none⟩ = some (.slice aC nC cC) := KL.out.cell rfl
        have cR0 : w5.cell? ⟨bR, 0, none⟩ = some (.slice ta 2 tc) := KR.out.cell rfl
        have cR1 : w5.cell? ⟨bR, 1, none⟩ = some (.int .i64 vol) := KR.out.cell rfl
        have cR2 : w5.cell? ⟨bR, 2, none⟩ = some (.slice pa 0 pc) := KR.out.cell rfl
        go_wp2_with fail
        clear cL0 cL1 cL2 cL3 cL4 cL5 cL6 cL7 cL8 cL9 cR0 cR1 cR2
        clear e0 e1
        have hz5 := HX.out.size; have HWX := HX; clear HX
        refine wp_region_held_drew (S := (fun w' => w'.cell? ⟨bL, 0, none⟩ = some (.int .i64 x0) ∧ w'.cell? ⟨bL, 1, none⟩ = some (.int .i64 x1) ∧ w'.cell? ⟨bL, 2, none⟩ = some (.int .i64 x2) ∧ w'.cell? ⟨bL, 3, none⟩ = some (.int .i64 x3) ∧ w'.cell? ⟨bL, 4, none⟩ = some (.int .i64 x4) ∧ w'.cell? ⟨bL, 5, none⟩ = some (.int .i64 x5) ∧ w'.cell? ⟨bL, 6, none⟩ = some (.int .i64 x6) ∧ w'.cell? ⟨bL, 7, none⟩ = some (.int .i64 x7) ∧ w'.cell? ⟨bL, 8, none⟩ = some (.int .i64 x8) ∧ w'.cell? ⟨bL, 9, none⟩ = some (.slice aC nC cC) ∧ w'.cell? ⟨bR, 0, none⟩ = some (.slice ta 2 tc) ∧ w'.cell? ⟨bR, 1, none⟩ = some (.int .i64 vol) ∧ w'.cell? ⟨bR, 2, none⟩ = some (.slice pa 0 pc) ∧ w'.cell? ⟨b0, off + j * 2, none⟩ = some (.bool true) ∧ w'.cell? ⟨b0, off + j * 2 + 1, none⟩ = some (.slice a' m c'))) (by kernel_rfl) ?_ (fun hH0 => ?_)
        · (try dsimp only)
          (exact ⟨KL.out.cell rfl, KL.out.cell rfl, KL.out.cell rfl, KL.out.cell rfl, KL.out.cell rfl, KL.out.cell rfl, KL.out.cell rfl, KL.out.cell rfl, KL.out.cell rfl, KL.out.cell rfl, KR.out.cell rfl, KR.out.cell rfl, KR.out.cell rfl, HWX.out.cell E0.out, HWX.out.cell E1.out⟩)
        (obtain ⟨wc, hwc⟩ : ∃ x, x = w5.drew := ⟨_, rfl⟩; have hdr : Ext w5 wc := (by rw [hwc]; exact (Ext.refl _).drew); (try rw [← hwc] at hH0); (try rw [← hwc]); have zdr : w5.heap.size ≤ wc.heap.size := hdr.size; have HX := Lib.hid hdr; have KL := Lib.hid (KL.out.ext hdr); have KR := Lib.hid (KR.out.ext hdr); have OP := Lib.hid (OP.out.ext hdr); have OT := Lib.hid (OT.out.ext hdr); clear hwc hdr; replace HWX := Lib.hid (HWX.out.trans HX.out))
        refine take_l 0 (v := ?_) rfl (by kernel_rfl) (by kernel_rfl) (by kernel_rfl) (fun _ _ _ h => h) (by rfl) ?_ (by assumption) ?_
        rotate_left
        · (intro w hSw; (try dsimp only at hSw); go_simp; (try with_reducible rfl))
        (try simp only [Act.put, List.setIfInBounds_toArray, List.set_cons_zero, List.set_cons_succ])
        refine take_l 1 (v := ?_) rfl (by kernel_rfl) (by kernel_rfl) (by kernel_rfl) (fun _ _ _ h => h) (by rfl) ?_ (by assumption) ?_
        rotate_left
        · (intro w hSw; (try dsimp only at hSw); go_simp; (try with_reducible rfl))
        (try simp only [Act.put, List.setIfInBounds_toArray, List.set_cons_zero, List.set_cons_succ])
        refine take_l 2 (v := ?_) rfl (by kernel_rfl) (by kernel_rfl) (by kernel_rfl) (fun _ _ _ h => h) (by rfl) ?_ (by assumption) ?_
        rotate_left
        · (intro w hSw; (try dsimp only at hSw); go_simp; (try with_reducible rfl))
        (try simp only [Act.put, List.setIfInBounds_toArray, List.set_cons_zero, List.set_cons_succ])
        refine take_l 3 (v := ?_) rfl (by kernel_rfl) (by kernel_rfl) (by kernel_rfl) (fun _ _ _ h => h) (by rfl) ?_ (by assumption) ?_
        rotate_left
        · (intro w hSw; (try dsimp only at hSw); go_simp; (try with_reducible rfl))
        (try simp only [Act.put, List.setIfInBounds_toArray, List.set_cons_zero, List.set_cons_succ])
        refine take_l 4 (v := ?_) rfl (by kernel_rfl) (by kernel_rfl) (by kernel_rfl) (fun _ _ _ h => h) (by rfl) ?_ (by assumption) ?_
        rotate_left
        · (intro w hSw; (try dsimp only at hSw); go_simp; (try with_reducible rfl))
        (try simp only [Act.put, List.setIfInBounds_toArray, List.set_cons_zero, List.set_cons_succ])
        refine take_l 5 (v := ?_) rfl (by kernel_rfl) (by kernel_rfl) (by kernel_rfl) (fun _ _ _ h => h) (by rfl) ?_ (by assumption) ?_
        rotate_left
        · (intro w hSw; (try dsimp only at hSw); go_simp; (try with_reducible rfl))
        (try simp only [Act.put, List.setIfInBounds_toArray, List.set_cons_zero, List.set_cons_succ])
        refine wpAnyH_ready (rs := [6, 10]) (by kernel_rfl) (by simp) ?_
        refine cons_l (i := 6) rfl (fun K hK => ?_) ?_
        (go_simp; obtain ⟨lo6, hlo6⟩ : ∃ n, n = wc.heap.size := ⟨_, rfl⟩; have mlo6 : lo6 ≤ wc.heap.size := Nat.le_of_eq hlo6; have nlo6 : wc.heap.size ≤ lo6 := Nat.le_of_eq hlo6.symm; have xwlo6 : w5.heap.size ≤ lo6 := Nat.le_trans HX.out.size nlo6; (go_at_call 17; with_reducible refine (implEnterC_any ts1 m1 ok _ _ _ _ _ _ _ _ _ _ _ _ cu _ _ _ _ _ _ _ tabL [] _ _ _ _ rows _ hnC.out (by omega) hsm.out OT.out.trains HT2.out (by omega) HP0.out (by omega) OP.out.at (HINT.out _) hvi HM.out HG1.out HG2.out HG3.out (HFR.out.ext HWX.out) hi0 hi1' HM1.out HRES.out).mono ?_); rintro e wc ⟨a6, c6, rfl, hcap6, ho6, hb⟩; have zz6 := hb.size; obtain ⟨hi6, hhi6⟩ : ∃ n, n = wc.heap.size := ⟨_, rfl⟩; have mhi6 : hi6 ≤ wc.heap.size := Nat.le_of_eq hhi6; have nhi6 : wc.heap.size ≤ hi6 := Nat.le_of_eq hhi6.symm; (try rw [← hlo6] at ho6); (try rw [← hhi6] at ho6); clear hlo6; clear hhi6; (try replace KL := Lib.hid (KL.out.ext hb)); (try replace KR := Lib.hid (KR.out.ext hb)); (try replace KX := Lib.hid (KX.out.ext hb)); (try replace OP := Lib.hid (OP.out.ext hb)); (try replace OT := Lib.hid (OT.out.ext hb)); (try replace OC := Lib.hid (OC.out.ext hb)); (try replace HWX := Lib.hid (HWX.out.trans hb)); replace HX := Lib.hid (HX.out.trans hb); have OC := Lib.hid ho6; clear ho6; clear hb)
        refine hK.out _ _ ?_ (fun hH1 => ?_)
        · (try dsimp only)
          (exact ⟨KL.out.cell rfl, KL.out.cell rfl, KL.out.cell rfl, KL.out.cell rfl, KL.out.cell rfl, KL.out.cell rfl, KL.out.cell rfl, KL.out.cell rfl, KL.out.cell rfl, KL.out.cell rfl, KR.out.cell rfl, KR.out.cell rfl, KR.out.cell rfl, HWX.out.cell E0.out, HWX.out.cell E1.out⟩)
        clear hK K hH0
        (try simp only [Act.put, List.setIfInBounds_toArray, List.set_cons_zero, List.set_cons_succ])
        refine take_l 7 (v := ?_) rfl (by kernel_rfl) (by kernel_rfl) (by kernel_rfl) (fun _ _ _ h => h) (by rfl) ?_ (by assumption) ?_
        rotate_left
        · (intro w hSw; (try dsimp only at hSw); go_simp; (try with_reducible rfl))
        (try simp only [Act.put, List.setIfInBounds_toArray, List.set_cons_zero, List.set_cons_succ])
        refine take_l 8 (v := ?_) rfl (by kernel_rfl) (by kernel_rfl) (by kernel_rfl) (fun _ _ _ h => h) (by rfl) ?_ (by assumption) ?_
        rotate_left
        · (intro w hSw; (try dsimp only at hSw); go_simp; (try with_reducible rfl))
        (try simp only [Act.put, List.setIfInBounds_toArray, List.set_cons_zero, List.set_cons_succ])
        refine take_l 9 (v := ?_) rfl (by kernel_rfl) (by kernel_rfl) (by kernel_rfl) (fun _ _ _ h => h) (by rfl) ?_ (by assumption) ?_
        rotate_left
        · (intro w hSw; (try dsimp only at hSw); go_simp; (try with_reducible rfl))
        (try simp only [Act.put, List.setIfInBounds_toArray, List.set_cons_zero, List.set_cons_succ])
        refine wpAnyH_ready (rs := [10]) (by kernel_rfl) (by simp) ?_
        refine cons_l (i := 10) rfl (fun K hK => ?_) ?_
        (go_simp; obtain ⟨bX, hbX⟩ : ∃ x, x = wc.heap.size := ⟨_, rfl⟩; obtain ⟨wn, hwn⟩ : ∃ x, x = wc.alloc (.cells #[.int .i64 0, .int .i64 0, .int .i64 0, .int .i64 0, .int .i64 0, .int .i64 0, .int .i64 0, .int .i64 0, .int .i64 0, .slice none 0 0] 26) := ⟨_, rfl⟩; have hal : Ext wc wn := (by rw [hwn]; exact (Ext.refl wc).alloc _); have hk := RowAt.new wc 26 #[.int .i64 0, .int .i64 0, .int .i64 0, .int .i64 0, .int .i64 0, .int .i64 0, .int .i64 0, .int .i64 0, .int .i64 0, .slice none 0 0]; rw [← hwn, ← hbX] at hk; rw [← hwn]; (try rw [← hbX]); have zz10 := hal.size; have lbX := hk.lt; have mbX : wc.heap.size ≤ bX := Nat.le_of_eq hbX.symm; have nbX : bX ≤ wc.heap.size := Nat.le_of_eq hbX; have xwbX : w5.heap.size ≤ bX := Nat.le_trans HX.out.size mbX; clear hbX hwn; (try replace KL := Lib.hid (KL.out.ext hal)); (try replace KR := Lib.hid (KR.out.ext hal)); (try replace KX := Lib.hid (KX.out.ext hal)); (try replace OP := Lib.hid (OP.out.ext hal)); (try replace OT := Lib.hid (OT.out.ext hal)); (try replace OC := Lib.hid (OC.out.ext hal)); (try replace HWX := Lib.hid (HWX.out.trans hal)); replace HX := Lib.hid (HX.out.trans hal); have KX := Lib.hid hk; clear hk hal; obtain ⟨wc, hq⟩ : ∃ x, x = wn := ⟨_, rfl⟩; subst hq)
        refine hK.out _ _ ?_ (fun hH2 => ?_)
        · (try dsimp only)
          (exact ⟨KL.out.cell rfl, KL.out.cell rfl, KL.out.cell rfl, KL.out.cell rfl, KL.out.cell rfl, KL.out.cell rfl, KL.out.cell rfl, KL.out.cell rfl, KL.out.cell rfl, KL.out.cell rfl, KR.out.cell rfl, KR.out.cell rfl, KR.out.cell rfl, HWX.out.cell E0.out, HWX.out.cell E1.out⟩)
        clear hK K hH1
        (try simp only [Act.put, List.setIfInBounds_toArray, List.set_cons_zero, List.set_cons_succ])
        refine wpAnyH_ready (rs := [11]) (by kernel_rfl) (by simp) ?_
        refine cons_l (i := 11) rfl (fun K hK => ?_) ?_
        (have hs0 := KX.out.cell (j := 0) (v := .int .i64 0) rfl; have hf0 := KX.out.frozen 0; have hs1 := KX.out.cell (j := 1) (v := .int .i64 0) rfl; have hf1 := KX.out.frozen 1; have hs2 := KX.out.cell (j := 2) (v := .int .i64 0) rfl; have hf2 := KX.out.frozen 2; have hs3 := KX.out.cell (j := 3) (v := .int .i64 0) rfl; have hf3 := KX.out.frozen 3; have hs4 := KX.out.cell (j := 4) (v := .int .i64 0) rfl; have hf4 := KX.out.frozen 4; have hs5 := KX.out.cell (j := 5) (v := .int .i64 0) rfl; have hf5 := KX.out.frozen 5; have hs6 := KX.out.cell (j := 6) (v := .int .i64 0) rfl; have hf6 := KX.out.frozen 6; have hs7 := KX.out.cell (j := 7) (v := .int .i64 0) rfl; have hf7 := KX.out.frozen 7; have hs8 := KX.out.cell (j := 8) (v := .int .i64 0) rfl; have hf8 := KX.out.frozen 8; have hs9 := KX.out.cell (j := 9) (v := .slice none 0 0) rfl; have hf9 := KX.out.frozen 9; go_simp; clear hs0 hf0 hs1 hf1 hs2 hf2 hs3 hf3 hs4 hf4 hs5 hf5 hs6 hf6 hs7 hf7 hs8 hf8 hs9 hf9; obtain ⟨wn, hwn⟩ : ∃ x, x = putAt wc (bX) 0 [.int .i64 x0, .int .i64 x1, .int .i64 x2, .int .i64 x3, .int .i64 x4, .int .i64 x5, .int .i64 x6, .int .i64 x7, .int .i64 x8, .slice a6 m1 c6] := ⟨_, rfl⟩; have en : ((((((((((wc.setCell ⟨bX, 0, none⟩ (.int .i64 x0)).setCell ⟨bX, 1, none⟩ (.int .i64 x1)).setCell ⟨bX, 2, none⟩ (.int .i64 x2)).setCell ⟨bX, 3, none⟩ (.int .i64 x3)).setCell ⟨bX, 4, none⟩ (.int .i64 x4)).setCell ⟨bX, 5, none⟩ (.int .i64 x5)).setCell ⟨bX, 6, none⟩ (.int .i64 x6)).setCell ⟨bX, 7, none⟩ (.int .i64 x7)).setCell ⟨bX, 8, none⟩ (.int .i64 x8)).setCell ⟨bX, 9, none⟩ (.slice a6 m1 c6)) = wn := (by rw [hwn]; rfl); rw [en]; clear en; have zz11 : wc.heap.size ≤ wn.heap.size := (by rw [hwn, put_size]; exact Nat.le_refl _); (first | replace HX := Lib.hid (show Ext w5 wn by rw [hwn]; exact put_ext (by first | assumption | omega) _ _ _ HX.out) | skip); (try replace KL := Lib.hid (show RowAt wn (bL) 26 _ by rw [hwn]; exact put_other (by omega) _ _ _ KL.out)); (try replace KR := Lib.hid (show RowAt wn (bR) 33 _ by rw [hwn]; exact put_other (by omega) _ _ _ KR.out)); replace KX := Lib.hid (RowAt.cast (c' := #[.int .i64 x0, .int .i64 x1, .int .i64 x2, .int .i64 x3, .int .i64 x4, .int .i64 x5, .int .i64 x6, .int .i64 x7, .int .i64 x8, .slice a6 m1 c6]) (show RowAt wn (bX) 26 (putArr #[.int .i64 0, .int .i64 0, .int .i64 0, .int .i64 0, .int .i64 0, .int .i64 0, .int .i64 0, .int .i64 0, .int .i64 0, .slice none 0 0] 0 [.int .i64 x0, .int .i64 x1, .int .i64 x2, .int .i64 x3, .int .i64 x4, .int .i64 x5, .int .i64 x6, .int .i64 x7, .int .i64 x8, .slice a6 m1 c6]) by rw [hwn]; exact put_at _ _ _ _ KX.out) (by simp [putArr])); (try replace OP := Lib.hid (OP.out.keep (w' := wn) (Nat.le_refl _) (Nat.le_refl _) (by rw [hwn]; exact put_kept (by omega)))); (try replace OT := Lib.hid (OT.out.keep (w' := wn) (Nat.le_refl _) (Nat.le_refl _) (by rw [hwn]; exact put_kept (by omega)))); (try replace OC := Lib.hid (OC.out.keep (w' := wn) (Nat.le_refl _) (Nat.le_refl _) (by rw [hwn]; exact put_kept (by omega)))); (try replace HWX := Lib.hid (show Ext _ wn by rw [hwn]; exact put_ext (by omega) _ _ _ HWX.out)); clear hwn; obtain ⟨wc, hq⟩ : ∃ x, x = wn := ⟨_, rfl⟩; subst hq)
        refine hK.out _ _ ?_ (fun hH3 => ?_)
        · (try dsimp only)
          (exact ⟨KL.out.cell rfl, KL.out.cell rfl, KL.out.cell rfl, KL.out.cell rfl, KL.out.cell rfl, KL.out.cell rfl, KL.out.cell rfl, KL.out.cell rfl, KL.out.cell rfl, KL.out.cell rfl, KR.out.cell rfl, KR.out.cell rfl, KR.out.cell rfl, HWX.out.cell E0.out, HWX.out.cell E1.out⟩)
        clear hK K hH2
        (try simp only [Act.put, List.setIfInBounds_toArray, List.set_cons_zero, List.set_cons_succ])
        refine take_l 12 (v := ?_) rfl (by kernel_rfl) (by kernel_rfl) (by kernel_rfl) (fun _ _ _ h => h) (by rfl) ?_ (by assumption) ?_
        rotate_left
        · (intro w hSw; (try dsimp only at hSw); go_simp; (try with_reducible rfl))
        (try simp only [Act.put, List.setIfInBounds_toArray, List.set_cons_zero, List.set_cons_succ])
        refine wpAnyH_done (by kernel_rfl) ?_ _
        rotate_left
        exact AllReadyH.nil
        exact AllReadyH.nil
        refine cons_l (i := 10) rfl (fun K hK => ?_) ?_
        (go_simp; obtain ⟨bX, hbX⟩ : ∃ x, x = wc.heap.size := ⟨_, rfl⟩; obtain ⟨wn, hwn⟩ : ∃ x, x = wc.alloc (.cells #[.int .i64 0, .int .i64 0, .int .i64 0, .int .i64 0, .int .i64 0, .int .i64 0, .int .i64 0, .int .i64 0, .int .i64 0, .slice none 0 0] 26) := ⟨_, rfl⟩; have hal : Ext wc wn := (by rw [hwn]; exact (Ext.refl wc).alloc _); have hk := RowAt.new wc 26 #[.int .i64 0, .int .i64 0, .int .i64 0, .int .i64 0, .int .i64 0, .int .i64 0, .int .i64 0, .int .i64 0, .int .i64 0, .slice none 0 0]; rw [← hwn, ← hbX] at hk; rw [← hwn]; (try rw [← hbX]); have zz10 := hal.size; have lbX := hk.lt; have mbX : wc.heap.size ≤ bX := Nat.le_of_eq hbX.symm; have nbX : bX ≤ wc.heap.size := Nat.le_of_eq hbX; have xwbX : w5.heap.size ≤ bX := Nat.le_trans HX.out.size mbX; clear hbX hwn; (try replace KL := Lib.hid (KL.out.ext hal)); (try replace KR := Lib.hid (KR.out.ext hal)); (try replace KX := Lib.hid (KX.out.ext hal)); (try replace OP := Lib.hid (OP.out.ext hal)); (try replace OT := Lib.hid (OT.out.ext hal)); (try replace OC := Lib.hid (OC.out.ext hal)); (try replace HWX := Lib.hid (HWX.out.trans hal)); replace HX := Lib.hid (HX.out.trans hal); have KX := Lib.hid hk; clear hk hal; obtain ⟨wc, hq⟩ : ∃ x, x = wn := ⟨_, rfl⟩; subst hq)
        refine hK.out _ _ ?_ (fun hH1 => ?_)
        · (try dsimp only)
          (exact ⟨KL.out.cell rfl, KL.out.cell rfl, KL.out.cell rfl, KL.out.cell rfl, KL.out.cell rfl, KL.out.cell rfl, KL.out.cell rfl, KL.out.cell rfl, KL.out.cell rfl, KL.out.cell rfl, KR.out.cell rfl, KR.out.cell rfl, KR.out.cell rfl, HWX.out.cell E0.out, HWX.out.cell E1.out⟩)
        clear hK K hH0
        (try simp only [Act.put, List.setIfInBounds_toArray, List.set_cons_zero, List.set_cons_succ])
        refine wpAnyH_ready (rs := [6]) (by kernel_rfl) (by simp) ?_
        refine cons_l (i := 6) rfl (fun K hK => ?_) ?_
        (go_simp; obtain ⟨lo6, hlo6⟩ : ∃ n, n = wc.heap.size := ⟨_, rfl⟩; have mlo6 : lo6 ≤ wc.heap.size := Nat.le_of_eq hlo6; have nlo6 : wc.heap.size ≤ lo6 := Nat.le_of_eq hlo6.symm; have xwlo6 : w5.heap.size ≤ lo6 := Nat.le_trans HX.out.size nlo6; (go_at_call 17; with_reducible refine (implEnterC_any ts1 m1 ok _ _ _ _ _ _ _ _ _ _ _ _ cu _ _ _ _ _ _ _ tabL [] _ _ _ _ rows _ hnC.out (by omega) hsm.out OT.out.trains HT2.out (by omega) HP0.out (by omega) OP.out.at (HINT.out _) hvi HM.out HG1.out HG2.out HG3.out (HFR.out.ext HWX.out) hi0 hi1' HM1.out HRES.out).mono ?_); rintro e wc ⟨a6, c6, rfl, hcap6, ho6, hb⟩; have zz6 := hb.size; obtain ⟨hi6, hhi6⟩ : ∃ n, n = wc.heap.size := ⟨_, rfl⟩; have mhi6 : hi6 ≤ wc.heap.size := Nat.le_of_eq hhi6; have nhi6 : wc.heap.size ≤ hi6 := Nat.le_of_eq hhi6.symm; (try rw [← hlo6] at ho6); (try rw [← hhi6] at ho6); clear hlo6; clear hhi6; (try replace KL := Lib.hid (KL.out.ext hb)); (try replace KR := Lib.hid (KR.out.ext hb)); (try replace KX := Lib.hid (KX.out.ext hb)); (try replace OP := Lib.hid (OP.out.ext hb)); (try replace OT := Lib.hid (OT.out.ext hb)); (try replace OC := Lib.hid (OC.out.ext hb)); (try replace HWX := Lib.hid (HWX.out.trans hb)); replace HX := Lib.hid (HX.out.trans hb); have OC := Lib.hid ho6; clear ho6; clear hb)
        refine hK.out _ _ ?_ (fun hH2 => ?_)
        · (try dsimp only)
          (exact ⟨KL.out.cell rfl, KL.out.cell rfl, KL.out.cell rfl, KL.out.cell rfl, KL.out.cell rfl, KL.out.cell rfl, KL.out.cell rfl, KL.out.cell rfl, KL.out.cell rfl, KL.out.cell rfl, KR.out.cell rfl, KR.out.cell rfl, KR.out.cell rfl, HWX.out.cell E0.out, HWX.out.cell E1.out⟩)
        clear hK K hH1
        (try simp only [Act.put, List.setIfInBounds_toArray, List.set_cons_zero, List.set_cons_succ])
        refine take_l 7 (v := ?_) rfl (by kernel_rfl) (by kernel_rfl) (by kernel_rfl) (fun _ _ _ h => h) (by rfl) ?_ (by assumption) ?_
        rotate_left
        · (intro w hSw; (try dsimp only at hSw); go_simp; (try with_reducible rfl))
        (try simp only [Act.put, List.setIfInBounds_toArray, List.set_cons_zero, List.set_cons_succ])
        refine take_l 8 (v := ?_) rfl (by kernel_rfl) (by kernel_rfl) (by kernel_rfl) (fun _ _ _ h => h) (by rfl) ?_ (by assumption) ?_
        rotate_left
        · (intro w hSw; (try dsimp only at hSw); go_simp; (try with_reducible rfl))
        (try simp only [Act.put, List.setIfInBounds_toArray, List.set_cons_zero, List.set_cons_succ])
        refine take_l 9 (v := ?_) rfl (by kernel_rfl) (by kernel_rfl) (by kernel_rfl) (fun _ _ _ h => h) (by rfl) ?_ (by assumption) ?_
        rotate_left
        · (intro w hSw; (try dsimp only at hSw); go_simp; (try with_reducible rfl))
        (try simp only [Act.put, List.setIfInBounds_toArray, List.set_cons_zero, List.set_cons_succ])
        refine wpAnyH_ready (rs := [11]) (by kernel_rfl) (by simp) ?_
        refine cons_l (i := 11) rfl (fun K hK => ?_) ?_
        (have hs0 := KX.out.cell (j := 0) (v := .int .i64 0) rfl; have hf0 := KX.out.frozen 0; have hs1 := KX.out.cell (j := 1) (v := .int .i64 0) rfl; have hf1 := KX.out.frozen 1; have hs2 := KX.out.cell (j := 2) (v := .int .i64 0) rfl; have hf2 := KX.out.frozen 2; have hs3 := KX.out.cell (j := 3) (v := .int .i64 0) rfl; have hf3 := KX.out.frozen 3; have hs4 := KX.out.cell (j := 4) (v := .int .i64 0) rfl; have hf4 := KX.out.frozen 4; have hs5 := KX.out.cell (j := 5) (v := .int .i64 0) rfl; have hf5 := KX.out.frozen 5; have hs6 := KX.out.cell (j := 6) (v := .int .i64 0) rfl; have hf6 := KX.out.frozen 6; have hs7 := KX.out.cell (j := 7) (v := .int .i64 0) rfl; have hf7 := KX.out.frozen 7; have hs8 := KX.out.cell (j := 8) (v := .int .i64 0) rfl; have hf8 := KX.out.frozen 8; have hs9 := KX.out.cell (j := 9) (v := .slice none 0 0) rfl; have hf9 := KX.out.frozen 9; go_simp; clear hs0 hf0 hs1 hf1 hs2 hf2 hs3 hf3 hs4 hf4 hs5 hf5 hs6 hf6 hs7 hf7 hs8 hf8 hs9 hf9; obtain ⟨wn, hwn⟩ : ∃ x, x = putAt wc (bX) 0 [.int .i64 x0, .int .i64 x1, .int .i64 x2, .int .i64 x3, .int .i64 x4, .int .i64 x5, .int .i64 x6, .int .i64 x7, .int .i64 x8, .slice a6 m1 c6] := ⟨_, rfl⟩; have en : ((((((((((wc.setCell ⟨bX, 0, none⟩ (.int .i64 x0)).setCell ⟨bX, 1, none⟩ (.int .i64 x1)).setCell ⟨bX, 2, none⟩ (.int .i64 x2)).setCell ⟨bX, 3, none⟩ (.int .i64 x3)).setCell ⟨bX, 4, none⟩ (.int .i64 x4)).setCell ⟨bX, 5, none⟩ (.int .i64 x5)).setCell ⟨bX, 6, none⟩ (.int .i64 x6)).setCell ⟨bX, 7, none⟩ (.int .i64 x7)).setCell ⟨bX, 8, none⟩ (.int .i64 x8)).setCell ⟨bX, 9, none⟩ (.slice a6 m1 c6)) = wn := (by rw [hwn]; rfl); rw [en]; clear en; have zz11 : wc.heap.size ≤ wn.heap.size := (by rw [hwn, put_size]; exact Nat.le_refl _); (first | replace HX := Lib.hid (show Ext w5 wn by rw [hwn]; exact put_ext (by first | assumption | omega) _ _ _ HX.out) | skip); (try replace KL := Lib.hid (show RowAt wn (bL) 26 _ by rw [hwn]; exact put_other (by omega) _ _ _ KL.out)); (try replace KR := Lib.hid (show RowAt wn (bR) 33 _ by rw [hwn]; exact put_other (by omega) _ _ _ KR.out)); replace KX := Lib.hid (RowAt.cast (c' := #[.int .i64 x0, .int .i64 x1, .int .i64 x2, .int .i64 x3, .int .i64 x4, .int .i64 x5, .int .i64 x6, .int .i64 x7, .int .i64 x8, .slice a6 m1 c6]) (show RowAt wn (bX) 26 (putArr #[.int .i64 0, .int .i64 0, .int .i64 0, .int .i64 0, .int .i64 0, .int .i64 0, .int .i64 0, .int .i64 0, .int .i64 0, .slice none 0 0] 0 [.int .i64 x0, .int .i64 x1, .int .i64 x2, .int .i64 x3, .int .i64 x4, .int .i64 x5, .int .i64 x6, .int .i64 x7, .int .i64 x8, .slice a6 m1 c6]) by rw [hwn]; exact put_at _ _ _ _ KX.out) (by simp [putArr])); (try replace OP := Lib.hid (OP.out.keep (w' := wn) (Nat.le_refl _) (Nat.le_refl _) (by rw [hwn]; exact put_kept (by omega)))); (try replace OT := Lib.hid (OT.out.keep (w' := wn) (Nat.le_refl _) (Nat.le_refl _) (by rw [hwn]; exact put_kept (by omega)))); (try replace OC := Lib.hid (OC.out.keep (w' := wn) (Nat.le_refl _) (Nat.le_refl _) (by rw [hwn]; exact put_kept (by omega)))); (try replace HWX := Lib.hid (show Ext _ wn by rw [hwn]; exact put_ext (by omega) _ _ _ HWX.out)); clear hwn; obtain ⟨wc, hq⟩ : ∃ x, x = wn := ⟨_, rfl⟩; subst hq)
        refine hK.out _ _ ?_ (fun hH3 => ?_)
        · (try dsimp only)
          (exact ⟨KL.out.cell rfl, KL.out.cell rfl, KL.out.cell rfl, KL.out.cell rfl, KL.out.cell rfl, KL.out.cell rfl, KL.out.cell rfl, KL.out.cell rfl, KL.out.cell rfl, KL.out.cell rfl, KR.out.cell rfl, KR.out.cell rfl, KR.out.cell rfl, HWX.out.cell E0.out, HWX.out.cell E1.out⟩)
        clear hK K hH2
        (try simp only [Act.put, List.setIfInBounds_toArray, List.set_cons_zero, List.set_cons_succ])
        refine take_l 12 (v := ?_) rfl (by kernel_rfl) (by kernel_rfl) (by kernel_rfl) (fun _ _ _ h => h) (by rfl) ?_ (by assumption) ?_
        rotate_left
        · (intro w hSw; (try dsimp only at hSw); go_simp; (try with_reducible rfl))
        (try simp only [Act.put, List.setIfInBounds_toArray, List.set_cons_zero, List.set_cons_succ])
        refine wpAnyH_done (by kernel_rfl) ?_ _
        rotate_left
        exact AllReadyH.nil
        exact AllReadyH.nil
        exact AllReadyH.nil
        all_goals
          obtain ⟨w6, hq⟩ : ∃ x, x = wc := ⟨_, rfl⟩; subst hq
          have zX := KX.out.lt; have zL := KL.out.lt; have zR := KR.out.lt
          clear HX
          cases ok
          case false =>
            (try dsimp only)
            go_wp2_with fail
            (refine wp_region_aft w6 (Ext.refl _) (by kernel_rfl) (by kernel_rfl) ?_; (repeat (go_big_quiet_step ((fail)))); refine wpQuiet_nil ?_; intro w2 hx2)
            obtain ⟨w21, hq⟩ : ∃ x, x = w2 := ⟨_, rfl⟩; subst hq
            replace HWX := Lib.hid (HWX.out.trans hx2)
            replace KL := Lib.hid (KL.out.ext hx2)
            replace KR := Lib.hid (KR.out.ext hx2)
            replace KX := Lib.hid (KX.out.ext hx2)
            replace OP := Lib.hid (OP.out.ext hx2)
            replace OC := Lib.hid (OC.out.ext hx2)
            replace OT := Lib.hid (OT.out.ext hx2)
            have zz21 := hx2.size
            clear hx2
            have cX0 : w21.cell? ⟨bX, 0, none⟩ = some (.int .i64 x0) := KX.out.cell rfl
            have cX1 : w21.cell? ⟨bX, 1, none⟩ = some (.int .i64 x1) := KX.out.cell rfl
            have cX2 : w21.cell? ⟨bX, 2, none⟩ = some (.int .i64 x2) := KX.out.cell rfl
            have cX3 : w21.cell? ⟨bX, 3, none⟩ = some (.int .i64 x3) := KX.out.cell rfl
            have cX4 : w21.cell? ⟨bX, 4, none⟩ = some (.int .i64 x4) := KX.out.cell rfl
            have cX5 : w21.cell? ⟨bX, 5, none⟩ = some (.int .i64 x5) := KX.out.cell rfl
            have cX6 : w21.cell? ⟨bX, 6, none⟩ = some (.int .i64 x6) := KX.out.cell rfl
            have cX7 : w21.cell? ⟨bX, 7, none⟩ = some (.int .i64 x7) := KX.out.cell rfl
            have cX8 : w21.cell? ⟨bX, 8, none⟩ = some (.int .i64 x8) := KX.out.cell rfl
            have cX9 : w21.cell? ⟨bX, 9, none⟩ = some (.slice a6 m1 c6) := KX.out.cell rfl
            have cL0 : w21.cell? ⟨bL, 0, none⟩ = some (.int .i64 x0) := KL.out.cell rfl
            have fL0 := KL.out.frozen 0
            have cL1 : w21.cell? ⟨bL, 1, none⟩ = some (.int .i64 x1) := KL.out.cell rfl
            have fL1 := KL.out.frozen 1
            have cL2 : w21.cell? ⟨bL, 2, none⟩ = some (.int .i64 x2) := KL.out.cell rfl
            have fL2 := KL.out.frozen 2
            have cL3 : w21.cell? ⟨bL, 3, none⟩ = some (.int .i64 x3) := KL.out.cell rfl
            have fL3 := KL.out.frozen 3
            have cL4 : w21.cell? ⟨bL, 4, none⟩ = some (.int .i64 x4) := KL.out.cell rfl
            have fL4 := KL.out.frozen 4
            have cL5 : w21.cell? ⟨bL, 5, none⟩ = some (.int .i64 x5) := KL.out.cell rfl
            have fL5 := KL.out.frozen 5
            have cL6 : w21.cell? ⟨bL, 6, none⟩ = some (.int .i64 x6) := KL.out.cell rfl
            have fL6 := KL.out.frozen 6
            have cL7 : w21.cell? ⟨bL, 7, none⟩ = some (.int .i64 x7) := KL.out.cell rfl
            have fL7 := KL.out.frozen 7
            have cL8 : w21.cell? ⟨bL, 8, none⟩ = some (.int .i64 x8) := KL.out.cell rfl
            have fL8 := KL.out.frozen 8
            have cL9 : w21.cell? ⟨bL, 9, none⟩ = some (.slice aC nC cC) := KL.out.cell rfl
            have fL9 := KL.out.frozen 9
            go_wp2
            clear cX0 cX1 cX2 cX3 cX4 cX5 cX6 cX7 cX8 cX9
            clear cL0 fL0 cL1 fL1 cL2 fL2 cL3 fL3 cL4 fL4 cL5 fL5 cL6 fL6 cL7 fL7 cL8 fL8 cL9 fL9
            clear OT
            obtain ⟨w22, hw22⟩ : ∃ x, x = putAt (w21) bL 0 [.int .i64 x0, .int .i64 x1, .int .i64 x2, .int .i64 x3, .int .i64 x4, .int .i64 x5, .int .i64 x6, .int .i64 x7, .int .i64 x8, .slice a6 m1 c6] := ⟨_, rfl⟩
            have en : ((((((((((w21.setCell ⟨bL, 0, none⟩ (.int .i64 x0)).setCell ⟨bL, 1, none⟩ (.int .i64 x1)).setCell ⟨bL, 2, none⟩ (.int .i64 x2)).setCell ⟨bL, 3, none⟩ (.int .i64 x3)).setCell ⟨bL, 4, none⟩ (.int .i64 x4)).setCell ⟨bL, 5, none⟩ (.int .i64 x5)).setCell ⟨bL, 6, none⟩ (.int .i64 x6)).setCell ⟨bL, 7, none⟩ (.int .i64 x7)).setCell ⟨bL, 8, none⟩ (.int .i64 x8)).setCell ⟨bL, 9, none⟩ (.slice a6 m1 c6)) = w22 := (by rw [hw22]; rfl)
            rw [en]; clear en
            have zw22 : w22.heap.size = w21.heap.size := by rw [hw22, put_size]
            replace HWX := Lib.hid (show Ext _ w22 by rw [hw22]; exact put_ext (by omega) _ _ _ (HWX.out))
            replace KL := Lib.hid (RowAt.cast (c' := #[.int .i64 x0, .int .i64 x1, .int .i64 x2, .int .i64 x3, .int .i64 x4, .int .i64 x5, .int .i64 x6, .int .i64 x7, .int .i64 x8, .slice a6 m1 c6]) (show RowAt w22 (bL) 26 (putArr #[.int .i64 x0, .int .i64 x1, .int .i64 x2, .int .i64 x3, .int .i64 x4, .int .i64 x5, .int .i64 x6, .int .i64 x7, .int .i64 x8, .slice aC nC cC] 0 [.int .i64 x0, .int .i64 x1, .int .i64 x2, .int .i64 x3, .int .i64 x4, .int .i64 x5, .int .i64 x6, .int .i64 x7, .int .i64 x8, .slice a6 m1 c6]) by rw [hw22]; exact put_at _ _ _ _ (KL.out)) (by simp [putArr]))
            replace KR := Lib.hid (show RowAt w22 (bR) 33 _ by rw [hw22]; exact put_other (by omega) _ _ _ (KR.out))
            replace KX := Lib.hid (show RowAt w22 (bX) 26 _ by rw [hw22]; exact put_other (by omega) _ _ _ (KX.out))
            replace OP := Lib.hid (OP.out.keep (w' := w22) (Nat.le_refl _) (Nat.le_refl _) (by rw [hw22]; exact fun B t c h1 h2 hr => put_kept (by omega) B t c h1 h2 (hr)))
            replace OC := Lib.hid (OC.out.keep (w' := w22) (Nat.le_refl _) (Nat.le_refl _) (by rw [hw22]; exact fun B t c h1 h2 hr => put_kept (by omega) B t c h1 h2 (hr)))
            clear hw22
            go_roundw
            case rel => exact ⟨j + 1, ts1, a6, m1, c6, lo6, hi6, by omega, by go_num, hcap6, hm8, .inr (by omega), ⟨by omega, by omega⟩, HWX, KL, KR, OP, HM1, HOK1, HSM1, OC⟩
            case measure => simp [intOf]; omega
          case true =>
            (try dsimp only)
            obtain ⟨hm1, hx8, hdl⟩ := HYES2.out rfl
            have HMT := Lib.hid (HMAY.out rfl)
            have e80 : (x8 == 0) = false := by rw [hx8]; decide
            have e82 : (x8 == 2) = true := by rw [hx8]; decide
            have hmne : ((m1 : Int) != (nC : Int) + 1) = false := by rw [hm1]; simp
            have hdl2 : dra ≤ lev - x3 := hdl
            have hq83 : decide (lev - x3 < dra) = false := decide_eq_false (by omega)
            have hq84 : IntKind.i64.wrap (lev - x3) = lev - x3 := IntWalk.i64_in _ (by omega)
            clear hx8 hdl hm1
            go_wp2_with fail
            have p0_ : ∀ y : Aft w6, y.1.cell? ⟨b0, off + j * 2, none⟩ = some (.bool true) := fun y => y.2.cell (HWX.out.cell E0.out)
            have p1_ : ∀ y : Aft w6, y.1.cell? ⟨b0, off + j * 2 + 1, none⟩ = some (.slice a' m c') := fun y => y.2.cell (HWX.out.cell E1.out)
            have cL0 : ∀ y : Aft w6, y.1.cell? ⟨bL, 0, none⟩ = some (.int .i64 x0) := fun y => (KL.out.ext y.2).cell rfl
            have cL1 : ∀ y : Aft w6, y.1.cell? ⟨bL, 1, none⟩ = some (.int .i64 x1) := fun y => (KL.out.ext y.2).cell rfl
            have cL2 : ∀ y : Aft w6, y.1.cell? ⟨bL, 2, none⟩ = some (.int .i64 x2) := fun y => (KL.out.ext y.2).cell rfl
            have cL3 : ∀ y : Aft w6, y.1.cell? ⟨bL, 3, none⟩ = some (.int .i64 x3) := fun y => (KL.out.ext y.2).cell rfl
            have cL4 : ∀ y : Aft w6, y.1.cell? ⟨bL, 4, none⟩ = some (.int .i64 x4) := fun y => (KL.out.ext y.2).cell rfl
            have cL5 : ∀ y : Aft w6, y.1.cell? ⟨bL, 5, none⟩ = some (.int .i64 x5) := fun y => (KL.out.ext y.2).cell rfl
            have cL6 : ∀ y : Aft w6, y.1.cell? ⟨bL, 6, none⟩ = some (.int .i64 x6) := fun y => (KL.out.ext y.2).cell rfl
            have cL7 : ∀ y : Aft w6, y.1.cell? ⟨bL, 7, none⟩ = some (.int .i64 x7) := fun y => (KL.out.ext y.2).cell rfl
            have cL8 : ∀ y : Aft w6, y.1.cell? ⟨bL, 8, none⟩ = some (.int .i64 x8) := fun y => (KL.out.ext y.2).cell rfl
            have cL9 : ∀ y : Aft w6, y.1.cell? ⟨bL, 9, none⟩ = some (.slice aC nC cC) := fun y => (KL.out.ext y.2).cell rfl
            have cR0 : ∀ y : Aft w6, y.1.cell? ⟨bR, 0, none⟩ = some (.slice ta 2 tc) := fun y => (KR.out.ext y.2).cell rfl
            have cR1 : ∀ y : Aft w6, y.1.cell? ⟨bR, 1, none⟩ = some (.int .i64 vol) := fun y => (KR.out.ext y.2).cell rfl
            have cR2 : ∀ y : Aft w6, y.1.cell? ⟨bR, 2, none⟩ = some (.slice pa 0 pc) := fun y => (KR.out.ext y.2).cell rfl
            have cX0 : ∀ y : Aft w6, y.1.cell? ⟨bX, 0, none⟩ = some (.int .i64 x0) := fun y => (KX.out.ext y.2).cell rfl
            have cX1 : ∀ y : Aft w6, y.1.cell? ⟨bX, 1, none⟩ = some (.int .i64 x1) := fun y => (KX.out.ext y.2).cell rfl
            have cX2 : ∀ y : Aft w6, y.1.cell? ⟨bX, 2, none⟩ = some (.int .i64 x2) := fun y => (KX.out.ext y.2).cell rfl
            have cX3 : ∀ y : Aft w6, y.1.cell? ⟨bX, 3, none⟩ = some (.int .i64 x3) := fun y => (KX.out.ext y.2).cell rfl
            have cX4 : ∀ y : Aft w6, y.1.cell? ⟨bX, 4, none⟩ = some (.int .i64 x4) := fun y => (KX.out.ext y.2).cell rfl
            have cX5 : ∀ y : Aft w6, y.1.cell? ⟨bX, 5, none⟩ = some (.int .i64 x5) := fun y => (KX.out.ext y.2).cell rfl
            have cX6 : ∀ y : Aft w6, y.1.cell? ⟨bX, 6, none⟩ = some (.int .i64 x6) := fun y => (KX.out.ext y.2).cell rfl
            have cX7 : ∀ y : Aft w6, y.1.cell? ⟨bX, 7, none⟩ = some (.int .i64 x7) := fun y => (KX.out.ext y.2).cell rfl
            have cX8 : ∀ y : Aft w6, y.1.cell? ⟨bX, 8, none⟩ = some (.int .i64 x8) := fun y => (KX.out.ext y.2).cell rfl
            have cX9 : ∀ y : Aft w6, y.1.cell? ⟨bX, 9, none⟩ = some (.slice a6 m1 c6) := fun y => (KX.out.ext y.2).cell rfl
            (refine wp_region_aft w6 (Ext.refl _) (by kernel_rfl) (by kernel_rfl) ?_; (repeat (go_big_quiet_step ((first | (go_at_call 12; with_reducible exact aft_call (implLevel_is lev _ _ _ _ _ _ _ tabL [] _ HT2.out (by unfold maxLen; omega) HP0.out (by unfold maxLen; omega) (OP.out.at.ext (Subtype.property _)) (HINT.out _) hvi HLEV.out)) | (go_at_call 18; with_reducible exact aft_call (implDraught_is dra _ _ _ _ rows _ HM.out HG1.out HG3.out (HFR.out.ext (HWX.out.trans (Subtype.property _))) HDRA.out)) | (go_at_call 19; with_reducible exact aft_call (implMayEnter_any true _ _ _ _ _ _ _ _ _ _ _ _ cu _ _ _ _ _ _ _ tabL [] _ _ _ _ rows _ hnC.out (by omega) hsm.out (OT.out.trains.ext (Subtype.property _)) HT2.out (by unfold maxLen; omega) HP0.out (by unfold maxLen; omega) (OP.out.at.ext (Subtype.property _)) (HINT.out _) hvi HM.out HG1.out HG3.out (HFR.out.ext (HWX.out.trans (Subtype.property _))) HMT.out)))))); refine wpQuiet_nil ?_; intro w2 hx2)
            obtain ⟨w21, hq⟩ : ∃ x, x = w2 := ⟨_, rfl⟩; subst hq
            clear cL0 cL1 cL2 cL3 cL4 cL5 cL6 cL7 cL8 cL9 cR0 cR1 cR2 cX0 cX1 cX2 cX3 cX4 cX5 cX6 cX7 cX8 cX9
            clear p0_ p1_
            replace HWX := Lib.hid (HWX.out.trans hx2)
            replace KL := Lib.hid (KL.out.ext hx2)
            replace KR := Lib.hid (KR.out.ext hx2)
            replace KX := Lib.hid (KX.out.ext hx2)
            replace OP := Lib.hid (OP.out.ext hx2)
            replace OC := Lib.hid (OC.out.ext hx2)
            replace OT := Lib.hid (OT.out.ext hx2)
            have zz21 := hx2.size
            clear hx2
            have cX0 : w21.cell? ⟨bX, 0, none⟩ = some (.int .i64 x0) := KX.out.cell rfl
            have cX1 : w21.cell? ⟨bX, 1, none⟩ = some (.int .i64 x1) := KX.out.cell rfl
            have cX2 : w21.cell? ⟨bX, 2, none⟩ = some (.int .i64 x2) := KX.out.cell rfl
            have cX3 : w21.cell? ⟨bX, 3, none⟩ = some (.int .i64 x3) := KX.out.cell rfl
            have cX4 : w21.cell? ⟨bX, 4, none⟩ = some (.int .i64 x4) := KX.out.cell rfl
            have cX5 : w21.cell? ⟨bX, 5, none⟩ = some (.int .i64 x5) := KX.out.cell rfl
            have cX6 : w21.cell? ⟨bX, 6, none⟩ = some (.int .i64 x6) := KX.out.cell rfl
            have cX7 : w21.cell? ⟨bX, 7, none⟩ = some (.int .i64 x7) := KX.out.cell rfl
            have cX8 : w21.cell? ⟨bX, 8, none⟩ = some (.int .i64 x8) := KX.out.cell rfl
            have cX9 : w21.cell? ⟨bX, 9, none⟩ = some (.slice a6 m1 c6) := KX.out.cell rfl
            have cL0 : w21.cell? ⟨bL, 0, none⟩ = some (.int .i64 x0) := KL.out.cell rfl
            have fL0 := KL.out.frozen 0
            have cL1 : w21.cell? ⟨bL, 1, none⟩ = some (.int .i64 x1) := KL.out.cell rfl
            have fL1 := KL.out.frozen 1
            have cL2 : w21.cell? ⟨bL, 2, none⟩ = some (.int .i64 x2) := KL.out.cell rfl
            have fL2 := KL.out.frozen 2
            have cL3 : w21.cell? ⟨bL, 3, none⟩ = some (.int .i64 x3) := KL.out.cell rfl
            have fL3 := KL.out.frozen 3
            have cL4 : w21.cell? ⟨bL, 4, none⟩ = some (.int .i64 x4) := KL.out.cell rfl
            have fL4 := KL.out.frozen 4
            have cL5 : w21.cell? ⟨bL, 5, none⟩ = some (.int .i64 x5) := KL.out.cell rfl
            have fL5 := KL.out.frozen 5
            have cL6 : w21.cell? ⟨bL, 6, none⟩ = some (.int .i64 x6) := KL.out.cell rfl
            have fL6 := KL.out.frozen 6
            have cL7 : w21.cell? ⟨bL, 7, none⟩ = some (.int .i64 x7) := KL.out.cell rfl
            have fL7 := KL.out.frozen 7
            have cL8 : w21.cell? ⟨bL, 8, none⟩ = some (.int .i64 x8) := KL.out.cell rfl
            have fL8 := KL.out.frozen 8
            have cL9 : w21.cell? ⟨bL, 9, none⟩ = some (.slice aC nC cC) := KL.out.cell rfl
            have fL9 := KL.out.frozen 9
            go_wp2
            clear cX0 cX1 cX2 cX3 cX4 cX5 cX6 cX7 cX8 cX9
            clear cL0 fL0 cL1 fL1 cL2 fL2 cL3 fL3 cL4 fL4 cL5 fL5 cL6 fL6 cL7 fL7 cL8 fL8 cL9 fL9
            clear OT
            obtain ⟨w22, hw22⟩ : ∃ x, x = putAt (w21) bL 0 [.int .i64 x0, .int .i64 x1, .int .i64 x2, .int .i64 x3, .int .i64 x4, .int .i64 x5, .int .i64 x6, .int .i64 x7, .int .i64 x8, .slice a6 m1 c6] := ⟨_, rfl⟩
            have en : ((((((((((w21.setCell ⟨bL, 0, none⟩ (.int .i64 x0)).setCell ⟨bL, 1, none⟩ (.int .i64 x1)).setCell ⟨bL, 2, none⟩ (.int .i64 x2)).setCell ⟨bL, 3, none⟩ (.int .i64 x3)).setCell ⟨bL, 4, none⟩ (.int .i64 x4)).setCell ⟨bL, 5, none⟩ (.int .i64 x5)).setCell ⟨bL, 6, none⟩ (.int .i64 x6)).setCell ⟨bL, 7, none⟩ (.int .i64 x7)).setCell ⟨bL, 8, none⟩ (.int .i64 x8)).setCell ⟨bL, 9, none⟩ (.slice a6 m1 c6)) = w22 := (by rw [hw22]; rfl)
            rw [en]; clear en
            have zw22 : w22.heap.size = w21.heap.size := by rw [hw22, put_size]
            replace HWX := Lib.hid (show Ext _ w22 by rw [hw22]; exact put_ext (by omega) _ _ _ (HWX.out))
            replace KL := Lib.hid (RowAt.cast (c' := #[.int .i64 x0, .int .i64 x1, .int .i64 x2, .int .i64 x3, .int .i64 x4, .int .i64 x5, .int .i64 x6, .int .i64 x7, .int .i64 x8, .slice a6 m1 c6]) (show RowAt w22 (bL) 26 (putArr #[.int .i64 x0, .int .i64 x1, .int .i64 x2, .int .i64 x3, .int .i64 x4, .int .i64 x5, .int .i64 x6, .int .i64 x7, .int .i64 x8, .slice aC nC cC] 0 [.int .i64 x0, .int .i64 x1, .int .i64 x2, .int .i64 x3, .int .i64 x4, .int .i64 x5, .int .i64 x6, .int .i64 x7, .int .i64 x8, .slice a6 m1 c6]) by rw [hw22]; exact put_at _ _ _ _ (KL.out)) (by simp [putArr]))
            replace KR := Lib.hid (show RowAt w22 (bR) 33 _ by rw [hw22]; exact put_other (by omega) _ _ _ (KR.out))
            replace KX := Lib.hid (show RowAt w22 (bX) 26 _ by rw [hw22]; exact put_other (by omega) _ _ _ (KX.out))
            replace OP := Lib.hid (OP.out.keep (w' := w22) (Nat.le_refl _) (Nat.le_refl _) (by rw [hw22]; exact fun B t c h1 h2 hr => put_kept (by omega) B t c h1 h2 (hr)))
            replace OC := Lib.hid (OC.out.keep (w' := w22) (Nat.le_refl _) (Nat.le_refl _) (by rw [hw22]; exact fun B t c h1 h2 hr => put_kept (by omega) B t c h1 h2 (hr)))
            clear hw22
            go_roundw
            case rel => exact ⟨j + 1, ts1, a6, m1, c6, lo6, hi6, by omega, by go_num, hcap6, hm8, .inr (by omega), ⟨by omega, by omega⟩, HWX, KL, KR, OP, HM1, HOK1, HSM1, OC⟩
            case measure => simp [intOf]; omega
end Go.Proofs.Ytmppoflgbmabpaa
