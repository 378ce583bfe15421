/- LockOk on both sides. -/
import Derived.Test.YtooedgaaaoinbaaProg
import Derived.Test.YtooedgaaaoinbaaLock
import Derived.Test.YtooedgaaaoinbaaDist
namespace Go.Proofs.Ytooedgaaaoinbaa
open Go.RowKit
set_option linter.unusedSimpArgs false
set_option linter.unusedVariables false

/-! ### LockOk -/
def lockOk (x0 x1 x2 x3 x4 x5 x6 x7 x8 : Int) (ts : List Tn) : Bool := inR x0 1 1000 && inR x1 1 100 && inR x2 0 100000 && inR x3 0 100000 && inR x4 0 100000 && inR x5 1 10000 && inR x6 1 100000 && inR x7 0 1000000000 && inR x8 0 2 && distinct ts
theorem and_f {a b : Bool} : a = false ∨ (a = true) := by cases a <;> simp
set_option maxHeartbeats 1000000 in
theorem l03Level_any (x : Int) (w : World) : Calls Try.prog 110 #[.int .i64 x] w fun e w' => e = .returned (.bool (inR x 0 100000)) ∧ w = w' := by
  go_enter Try.func110, Try.ntmps110
  go_wp2_with fail
  refine (l01In_any _ _ _ _).mono ?_
  rintro e w1 ⟨rfl, rfl⟩
  go_wp2
  go_ret
  exact ⟨rfl, rfl⟩

set_option maxHeartbeats 4000000 in
theorem implLockOk_any (R : Bool) (x0 x1 x2 x3 x4 x5 x6 x7 x8 : Int) (a : Option Addr) (n c : Nat) (ts : List Tn) (w : World) (hn : n = ts.length) (hs : n ≤ 1048576) (hts : ∀ t ∈ ts, SmallT t) (hf : TrainsAt w a ts) (hR : lockOk x0 x1 x2 x3 x4 x5 x6 x7 x8 ts = R) :
    Calls Try.prog 46 #[.agg #[.int .i64 x0, .int .i64 x1, .int .i64 x2, .int .i64 x3, .int .i64 x4, .int .i64 x5, .int .i64 x6, .int .i64 x7, .int .i64 x8, .slice a n c]] w fun e w' => e = .returned (.bool R) ∧ Ext w w' := by
  have HF := Lib.hid hf; clear hf
  have HN := Lib.hid hn; clear hn
  have HS := Lib.hid hs; clear hs
  have HT := Lib.hid hts; clear hts
  obtain ⟨D, hD⟩ : ∃ D, distinct ts = D := ⟨_, rfl⟩
  unfold lockOk at hR
  rw [hD] at hR
  have HD := Lib.hid hD; clear hD
  obtain ⟨b0, hb0⟩ : ∃ b, inR x0 1 1000 = b := ⟨_, rfl⟩
  obtain ⟨b1, hb1⟩ : ∃ b, inR x1 1 100 = b := ⟨_, rfl⟩
  obtain ⟨b2, hb2⟩ : ∃ b, inR x2 0 100000 = b := ⟨_, rfl⟩
  obtain ⟨b3, hb3⟩ : ∃ b, inR x3 0 100000 = b := ⟨_, rfl⟩
  obtain ⟨b4, hb4⟩ : ∃ b, inR x4 0 100000 = b := ⟨_, rfl⟩
  obtain ⟨b5, hb5⟩ : ∃ b, inR x5 1 10000 = b := ⟨_, rfl⟩
  obtain ⟨b6, hb6⟩ : ∃ b, inR x6 1 100000 = b := ⟨_, rfl⟩
  obtain ⟨b7, hb7⟩ : ∃ b, inR x7 0 1000000000 = b := ⟨_, rfl⟩
  obtain ⟨b8, hb8⟩ : ∃ b, inR x8 0 2 = b := ⟨_, rfl⟩
  rw [hb0, hb1, hb2, hb3, hb4, hb5, hb6, hb7, hb8] at hR
  have HR := Lib.hid hR; clear hR
  cases b0
  · have hR := Lib.hid (show false = R by rw [← HR.out]; rfl)
    go_enter Try.func46, Try.ntmps46
    go_wp2_with (first | (go_at_call 98; refine (inRange_any _ _ _ _).mono ?_; rintro e w' ⟨rfl, rfl⟩) | (go_at_call 99; refine (implDistinct_any D _ _ _ ts _ HN.out HS.out HT.out (HF.out.ext ((Ext.refl w).alloc _)) HD.out).mono ?_; rintro e w' ⟨rfl, hb⟩))
    go_ret
    exact ⟨ret_bool (by simp [*, ← hR.out]), by (repeat' (first | (with_reducible exact Ext.refl _) | (with_reducible assumption) | (with_reducible refine Ext.alloc ?_ _) | (with_reducible refine Ext.drewN ?_ _) | (with_reducible refine Ext.drew ?_) | (with_reducible refine Ext.setCell ?_ ?_ _) | (with_reducible exact Nat.le_refl _) | (with_reducible exact Nat.le_succ _) | (with_reducible refine Ext.trans ?_ (by assumption)) | (simp; done) | (simp; omega)))⟩
  cases b1
  · have hR := Lib.hid (show false = R by rw [← HR.out]; rfl)
    go_enter Try.func46, Try.ntmps46
    go_wp2_with (first | (go_at_call 98; refine (inRange_any _ _ _ _).mono ?_; rintro e w' ⟨rfl, rfl⟩) | (go_at_call 99; refine (implDistinct_any D _ _ _ ts _ HN.out HS.out HT.out (HF.out.ext ((Ext.refl w).alloc _)) HD.out).mono ?_; rintro e w' ⟨rfl, hb⟩))
    go_ret
    exact ⟨ret_bool (by simp [*, ← hR.out]), by (repeat' (first | (with_reducible exact Ext.refl _) | (with_reducible assumption) | (with_reducible refine Ext.alloc ?_ _) | (with_reducible refine Ext.drewN ?_ _) | (with_reducible refine Ext.drew ?_) | (with_reducible refine Ext.setCell ?_ ?_ _) | (with_reducible exact Nat.le_refl _) | (with_reducible exact Nat.le_succ _) | (with_reducible refine Ext.trans ?_ (by assumption)) | (simp; done) | (simp; omega)))⟩
  cases b2
  · have hR := Lib.hid (show false = R by rw [← HR.out]; rfl)
    go_enter Try.func46, Try.ntmps46
    go_wp2_with (first | (go_at_call 98; refine (inRange_any _ _ _ _).mono ?_; rintro e w' ⟨rfl, rfl⟩) | (go_at_call 99; refine (implDistinct_any D _ _ _ ts _ HN.out HS.out HT.out (HF.out.ext ((Ext.refl w).alloc _)) HD.out).mono ?_; rintro e w' ⟨rfl, hb⟩))
    go_ret
    exact ⟨ret_bool (by simp [*, ← hR.out]), by (repeat' (first | (with_reducible exact Ext.refl _) | (with_reducible assumption) | (with_reducible refine Ext.alloc ?_ _) | (with_reducible refine Ext.drewN ?_ _) | (with_reducible refine Ext.drew ?_) | (with_reducible refine Ext.setCell ?_ ?_ _) | (with_reducible exact Nat.le_refl _) | (with_reducible exact Nat.le_succ _) | (with_reducible refine Ext.trans ?_ (by assumption)) | (simp; done) | (simp; omega)))⟩
  cases b3
  · have hR := Lib.hid (show false = R by rw [← HR.out]; rfl)
    go_enter Try.func46, Try.ntmps46
    go_wp2_with (first | (go_at_call 98; refine (inRange_any _ _ _ _).mono ?_; rintro e w' ⟨rfl, rfl⟩) | (go_at_call 99; refine (implDistinct_any D _ _ _ ts _ HN.out HS.out HT.out (HF.out.ext ((Ext.refl w).alloc _)) HD.out).mono ?_; rintro e w' ⟨rfl, hb⟩))
    go_ret
    exact ⟨ret_bool (by simp [*, ← hR.out]), by (repeat' (first | (with_reducible exact Ext.refl _) | (with_reducible assumption) | (with_reducible refine Ext.alloc ?_ _) | (with_reducible refine Ext.drewN ?_ _) | (with_reducible refine Ext.drew ?_) | (with_reducible refine Ext.setCell ?_ ?_ _) | (with_reducible exact Nat.le_refl _) | (with_reducible exact Nat.le_succ _) | (with_reducible refine Ext.trans ?_ (by assumption)) | (simp; done) | (simp; omega)))⟩
  cases b4
  · have hR := Lib.hid (show false = R by rw [← HR.out]; rfl)
    go_enter Try.func46, Try.ntmps46
    go_wp2_with (first | (go_at_call 98; refine (inRange_any _ _ _ _).mono ?_; rintro e w' ⟨rfl, rfl⟩) | (go_at_call 99; refine (implDistinct_any D _ _ _ ts _ HN.out HS.out HT.out (HF.out.ext ((Ext.refl w).alloc _)) HD.out).mono ?_; rintro e w' ⟨rfl, hb⟩))
    go_ret
    exact ⟨ret_bool (by simp [*, ← hR.out]), by (repeat' (first | (with_reducible exact Ext.refl _) | (with_reducible assumption) | (with_reducible refine Ext.alloc ?_ _) | (with_reducible refine Ext.drewN ?_ _) | (with_reducible refine Ext.drew ?_) | (with_reducible refine Ext.setCell ?_ ?_ _) | (with_reducible exact Nat.le_refl _) | (with_reducible exact Nat.le_succ _) | (with_reducible refine Ext.trans ?_ (by assumption)) | (simp; done) | (simp; omega)))⟩
  cases b5
  · have hR := Lib.hid (show false = R by rw [← HR.out]; rfl)
    go_enter Try.func46, Try.ntmps46
    go_wp2_with (first | (go_at_call 98; refine (inRange_any _ _ _ _).mono ?_; rintro e w' ⟨rfl, rfl⟩) | (go_at_call 99; refine (implDistinct_any D _ _ _ ts _ HN.out HS.out HT.out (HF.out.ext ((Ext.refl w).alloc _)) HD.out).mono ?_; rintro e w' ⟨rfl, hb⟩))
    go_ret
    exact ⟨ret_bool (by simp [*, ← hR.out]), by (repeat' (first | (with_reducible exact Ext.refl _) | (with_reducible assumption) | (with_reducible refine Ext.alloc ?_ _) | (with_reducible refine Ext.drewN ?_ _) | (with_reducible refine Ext.drew ?_) | (with_reducible refine Ext.setCell ?_ ?_ _) | (with_reducible exact Nat.le_refl _) | (with_reducible exact Nat.le_succ _) | (with_reducible refine Ext.trans ?_ (by assumption)) | (simp; done) | (simp; omega)))⟩
  cases b6
  · have hR := Lib.hid (show false = R by rw [← HR.out]; rfl)
    go_enter Try.func46, Try.ntmps46
    go_wp2_with (first | (go_at_call 98; refine (inRange_any _ _ _ _).mono ?_; rintro e w' ⟨rfl, rfl⟩) | (go_at_call 99; refine (implDistinct_any D _ _ _ ts _ HN.out HS.out HT.out (HF.out.ext ((Ext.refl w).alloc _)) HD.out).mono ?_; rintro e w' ⟨rfl, hb⟩))
    go_ret
    exact ⟨ret_bool (by simp [*, ← hR.out]), by (repeat' (first | (with_reducible exact Ext.refl _) | (with_reducible assumption) | (with_reducible refine Ext.alloc ?_ _) | (with_reducible refine Ext.drewN ?_ _) | (with_reducible refine Ext.drew ?_) | (with_reducible refine Ext.setCell ?_ ?_ _) | (with_reducible exact Nat.le_refl _) | (with_reducible exact Nat.le_succ _) | (with_reducible refine Ext.trans ?_ (by assumption)) | (simp; done) | (simp; omega)))⟩
  cases b7
  · have hR := Lib.hid (show false = R by rw [← HR.out]; rfl)
    go_enter Try.func46, Try.ntmps46
    go_wp2_with (first | (go_at_call 98; refine (inRange_any _ _ _ _).mono ?_; rintro e w' ⟨rfl, rfl⟩) | (go_at_call 99; refine (implDistinct_any D _ _ _ ts _ HN.out HS.out HT.out (HF.out.ext ((Ext.refl w).alloc _)) HD.out).mono ?_; rintro e w' ⟨rfl, hb⟩))
    go_ret
    exact ⟨ret_bool (by simp [*, ← hR.out]), by (repeat' (first | (with_reducible exact Ext.refl _) | (with_reducible assumption) | (with_reducible refine Ext.alloc ?_ _) | (with_reducible refine Ext.drewN ?_ _) | (with_reducible refine Ext.drew ?_) | (with_reducible refine Ext.setCell ?_ ?_ _) | (with_reducible exact Nat.le_refl _) | (with_reducible exact Nat.le_succ _) | (with_reducible refine Ext.trans ?_ (by assumption)) | (simp; done) | (simp; omega)))⟩
  cases b8
  · have hR := Lib.hid (show false = R by rw [← HR.out]; rfl)
    go_enter Try.func46, Try.ntmps46
    go_wp2_with (first | (go_at_call 98; refine (inRange_any _ _ _ _).mono ?_; rintro e w' ⟨rfl, rfl⟩) | (go_at_call 99; refine (implDistinct_any D _ _ _ ts _ HN.out HS.out HT.out (HF.out.ext ((Ext.refl w).alloc _)) HD.out).mono ?_; rintro e w' ⟨rfl, hb⟩))
    go_ret
    exact ⟨ret_bool (by simp [*, ← hR.out]), by (repeat' (first | (with_reducible exact Ext.refl _) | (with_reducible assumption) | (with_reducible refine Ext.alloc ?_ _) | (with_reducible refine Ext.drewN ?_ _) | (with_reducible refine Ext.drew ?_) | (with_reducible refine Ext.setCell ?_ ?_ _) | (with_reducible exact Nat.le_refl _) | (with_reducible exact Nat.le_succ _) | (with_reducible refine Ext.trans ?_ (by assumption)) | (simp; done) | (simp; omega)))⟩
  have hR := Lib.hid (show D = R by rw [← HR.out]; rfl)
  go_enter Try.func46, Try.ntmps46
  go_wp2_with (first | (go_at_call 98; refine (inRange_any _ _ _ _).mono ?_; rintro e w' ⟨rfl, rfl⟩) | (go_at_call 99; refine (implDistinct_any D _ _ _ ts _ HN.out HS.out HT.out (HF.out.ext ((Ext.refl w).alloc _)) HD.out).mono ?_; rintro e w' ⟨rfl, hb⟩))
  go_ret
  exact ⟨ret_bool (by simp [*, hR.out]), by (repeat' (first | (with_reducible exact Ext.refl _) | (with_reducible assumption) | (with_reducible refine Ext.alloc ?_ _) | (with_reducible refine Ext.drewN ?_ _) | (with_reducible refine Ext.drew ?_) | (with_reducible refine Ext.setCell ?_ ?_ _) | (with_reducible exact Nat.le_refl _) | (with_reducible exact Nat.le_succ _) | (with_reducible refine Ext.trans ?_ (by assumption)) | (simp; done) | (simp; omega)))⟩

set_option maxHeartbeats 4000000 in
theorem specLockOk_any (R : Bool) (x0 x1 x2 x3 x4 x5 x6 x7 x8 : Int) (a : Option Addr) (n c : Nat) (ts : List Tn) (w : World) (hn : n = ts.length) (hs : n ≤ 1048576) (hts : ∀ t ∈ ts, SmallT t) (hf : TrainsAt w a ts) (hR : lockOk x0 x1 x2 x3 x4 x5 x6 x7 x8 ts = R) :
    Calls Try.prog 58 #[.agg #[.int .i64 x0, .int .i64 x1, .int .i64 x2, .int .i64 x3, .int .i64 x4, .int .i64 x5, .int .i64 x6, .int .i64 x7, .int .i64 x8, .slice a n c]] w fun e w' => e = .returned (.bool R) ∧ Ext w w' := by
  have HF := Lib.hid hf; clear hf
  have HN := Lib.hid hn; clear hn
  have HS := Lib.hid hs; clear hs
  have HT := Lib.hid hts; clear hts
  obtain ⟨D, hD⟩ : ∃ D, distinct ts = D := ⟨_, rfl⟩
  unfold lockOk at hR
  rw [hD] at hR
  have HD := Lib.hid hD; clear hD
  obtain ⟨b0, hb0⟩ : ∃ b, inR x0 1 1000 = b := ⟨_, rfl⟩
  obtain ⟨b1, hb1⟩ : ∃ b, inR x1 1 100 = b := ⟨_, rfl⟩
  obtain ⟨b2, hb2⟩ : ∃ b, inR x2 0 100000 = b := ⟨_, rfl⟩
  obtain ⟨b3, hb3⟩ : ∃ b, inR x3 0 100000 = b := ⟨_, rfl⟩
  obtain ⟨b4, hb4⟩ : ∃ b, inR x4 0 100000 = b := ⟨_, rfl⟩
  obtain ⟨b5, hb5⟩ : ∃ b, inR x5 1 10000 = b := ⟨_, rfl⟩
  obtain ⟨b6, hb6⟩ : ∃ b, inR x6 1 100000 = b := ⟨_, rfl⟩
  obtain ⟨b7, hb7⟩ : ∃ b, inR x7 0 1000000000 = b := ⟨_, rfl⟩
  obtain ⟨b8, hb8⟩ : ∃ b, inR x8 0 2 = b := ⟨_, rfl⟩
  rw [hb0, hb1, hb2, hb3, hb4, hb5, hb6, hb7, hb8] at hR
  have HR := Lib.hid hR; clear hR
  cases b0
  · have hR := Lib.hid (show false = R by rw [← HR.out]; rfl)
    go_enter Try.func58, Try.ntmps58
    go_wp2_with (first | (go_at_call 93; refine (l01In_any _ _ _ _).mono ?_; rintro e w' ⟨rfl, rfl⟩) | (go_at_call 110; refine (l03Level_any _ _).mono ?_; rintro e w' ⟨rfl, rfl⟩) | (go_at_call 111; refine (specTrains_any D _ _ _ ts _ HN.out HS.out HT.out (HF.out.ext ((Ext.refl w).alloc _)) HD.out).mono ?_; rintro e w' ⟨rfl, hb⟩))
    go_ret
    exact ⟨ret_bool (by simp [*, ← hR.out]), by (repeat' (first | (with_reducible exact Ext.refl _) | (with_reducible assumption) | (with_reducible refine Ext.alloc ?_ _) | (with_reducible refine Ext.drewN ?_ _) | (with_reducible refine Ext.drew ?_) | (with_reducible refine Ext.setCell ?_ ?_ _) | (with_reducible exact Nat.le_refl _) | (with_reducible exact Nat.le_succ _) | (with_reducible refine Ext.trans ?_ (by assumption)) | (simp; done) | (simp; omega)))⟩
  cases b1
  · have hR := Lib.hid (show false = R by rw [← HR.out]; rfl)
    go_enter Try.func58, Try.ntmps58
    go_wp2_with (first | (go_at_call 93; refine (l01In_any _ _ _ _).mono ?_; rintro e w' ⟨rfl, rfl⟩) | (go_at_call 110; refine (l03Level_any _ _).mono ?_; rintro e w' ⟨rfl, rfl⟩) | (go_at_call 111; refine (specTrains_any D _ _ _ ts _ HN.out HS.out HT.out (HF.out.ext ((Ext.refl w).alloc _)) HD.out).mono ?_; rintro e w' ⟨rfl, hb⟩))
    go_ret
    exact ⟨ret_bool (by simp [*, ← hR.out]), by (repeat' (first | (with_reducible exact Ext.refl _) | (with_reducible assumption) | (with_reducible refine Ext.alloc ?_ _) | (with_reducible refine Ext.drewN ?_ _) | (with_reducible refine Ext.drew ?_) | (with_reducible refine Ext.setCell ?_ ?_ _) | (with_reducible exact Nat.le_refl _) | (with_reducible exact Nat.le_succ _) | (with_reducible refine Ext.trans ?_ (by assumption)) | (simp; done) | (simp; omega)))⟩
  cases b2
  · have hR := Lib.hid (show false = R by rw [← HR.out]; rfl)
    go_enter Try.func58, Try.ntmps58
    go_wp2_with (first | (go_at_call 93; refine (l01In_any _ _ _ _).mono ?_; rintro e w' ⟨rfl, rfl⟩) | (go_at_call 110; refine (l03Level_any _ _).mono ?_; rintro e w' ⟨rfl, rfl⟩) | (go_at_call 111; refine (specTrains_any D _ _ _ ts _ HN.out HS.out HT.out (HF.out.ext ((Ext.refl w).alloc _)) HD.out).mono ?_; rintro e w' ⟨rfl, hb⟩))
    go_ret
    exact ⟨ret_bool (by simp [*, ← hR.out]), by (repeat' (first | (with_reducible exact Ext.refl _) | (with_reducible assumption) | (with_reducible refine Ext.alloc ?_ _) | (with_reducible refine Ext.drewN ?_ _) | (with_reducible refine Ext.drew ?_) | (with_reducible refine Ext.setCell ?_ ?_ _) | (with_reducible exact Nat.le_refl _) | (with_reducible exact Nat.le_succ _) | (with_reducible refine Ext.trans ?_ (by assumption)) | (simp; done) | (simp; omega)))⟩
  cases b3
  · have hR := Lib.hid (show false = R by rw [← HR.out]; rfl)
    go_enter Try.func58, Try.ntmps58
    go_wp2_with (first | (go_at_call 93; refine (l01In_any _ _ _ _).mono ?_; rintro e w' ⟨rfl, rfl⟩) | (go_at_call 110; refine (l03Level_any _ _).mono ?_; rintro e w' ⟨rfl, rfl⟩) | (go_at_call 111; refine (specTrains_any D _ _ _ ts _ HN.out HS.out HT.out (HF.out.ext ((Ext.refl w).alloc _)) HD.out).mono ?_; rintro e w' ⟨rfl, hb⟩))
    go_ret
    exact ⟨ret_bool (by simp [*, ← hR.out]), by (repeat' (first | (with_reducible exact Ext.refl _) | (with_reducible assumption) | (with_reducible refine Ext.alloc ?_ _) | (with_reducible refine Ext.drewN ?_ _) | (with_reducible refine Ext.drew ?_) | (with_reducible refine Ext.setCell ?_ ?_ _) | (with_reducible exact Nat.le_refl _) | (with_reducible exact Nat.le_succ _) | (with_reducible refine Ext.trans ?_ (by assumption)) | (simp; done) | (simp; omega)))⟩
  cases b4
  · have hR := Lib.hid (show false = R by rw [← HR.out]; rfl)
    go_enter Try.func58, Try.ntmps58
    go_wp2_with (first | (go_at_call 93; refine (l01In_any _ _ _ _).mono ?_; rintro e w' ⟨rfl, rfl⟩) | (go_at_call 110; refine (l03Level_any _ _).mono ?_; rintro e w' ⟨rfl, rfl⟩) | (go_at_call 111; refine (specTrains_any D _ _ _ ts _ HN.out HS.out HT.out (HF.out.ext ((Ext.refl w).alloc _)) HD.out).mono ?_; rintro e w' ⟨rfl, hb⟩))
    go_ret
    exact ⟨ret_bool (by simp [*, ← hR.out]), by (repeat' (first | (with_reducible exact Ext.refl _) | (with_reducible assumption) | (with_reducible refine Ext.alloc ?_ _) | (with_reducible refine Ext.drewN ?_ _) | (with_reducible refine Ext.drew ?_) | (with_reducible refine Ext.setCell ?_ ?_ _) | (with_reducible exact Nat.le_refl _) | (with_reducible exact Nat.le_succ _) | (with_reducible refine Ext.trans ?_ (by assumption)) | (simp; done) | (simp; omega)))⟩
  cases b5
  · have hR := Lib.hid (show false = R by rw [← HR.out]; rfl)
    go_enter Try.func58, Try.ntmps58
    go_wp2_with (first | (go_at_call 93; refine (l01In_any _ _ _ _).mono ?_; rintro e w' ⟨rfl, rfl⟩) | (go_at_call 110; refine (l03Level_any _ _).mono ?_; rintro e w' ⟨rfl, rfl⟩) | (go_at_call 111; refine (specTrains_any D _ _ _ ts _ HN.out HS.out HT.out (HF.out.ext ((Ext.refl w).alloc _)) HD.out).mono ?_; rintro e w' ⟨rfl, hb⟩))
    go_ret
    exact ⟨ret_bool (by simp [*, ← hR.out]), by (repeat' (first | (with_reducible exact Ext.refl _) | (with_reducible assumption) | (with_reducible refine Ext.alloc ?_ _) | (with_reducible refine Ext.drewN ?_ _) | (with_reducible refine Ext.drew ?_) | (with_reducible refine Ext.setCell ?_ ?_ _) | (with_reducible exact Nat.le_refl _) | (with_reducible exact Nat.le_succ _) | (with_reducible refine Ext.trans ?_ (by assumption)) | (simp; done) | (simp; omega)))⟩
  cases b6
  · have hR := Lib.hid (show false = R by rw [← HR.out]; rfl)
    go_enter Try.func58, Try.ntmps58
    go_wp2_with (first | (go_at_call 93; refine (l01In_any _ _ _ _).mono ?_; rintro e w' ⟨rfl, rfl⟩) | (go_at_call 110; refine (l03Level_any _ _).mono ?_; rintro e w' ⟨rfl, rfl⟩) | (go_at_call 111; refine (specTrains_any D _ _ _ ts _ HN.out HS.out HT.out (HF.out.ext ((Ext.refl w).alloc _)) HD.out).mono ?_; rintro e w' ⟨rfl, hb⟩))
    go_ret
    exact ⟨ret_bool (by simp [*, ← hR.out]), by (repeat' (first | (with_reducible exact Ext.refl _) | (with_reducible assumption) | (with_reducible refine Ext.alloc ?_ _) | (with_reducible refine Ext.drewN ?_ _) | (with_reducible refine Ext.drew ?_) | (with_reducible refine Ext.setCell ?_ ?_ _) | (with_reducible exact Nat.le_refl _) | (with_reducible exact Nat.le_succ _) | (with_reducible refine Ext.trans ?_ (by assumption)) | (simp; done) | (simp; omega)))⟩
  cases b7
  · have hR := Lib.hid (show false = R by rw [← HR.out]; rfl)
    go_enter Try.func58, Try.ntmps58
    go_wp2_with (first | (go_at_call 93; refine (l01In_any _ _ _ _).mono ?_; rintro e w' ⟨rfl, rfl⟩) | (go_at_call 110; refine (l03Level_any _ _).mono ?_; rintro e w' ⟨rfl, rfl⟩) | (go_at_call 111; refine (specTrains_any D _ _ _ ts _ HN.out HS.out HT.out (HF.out.ext ((Ext.refl w).alloc _)) HD.out).mono ?_; rintro e w' ⟨rfl, hb⟩))
    go_ret
    exact ⟨ret_bool (by simp [*, ← hR.out]), by (repeat' (first | (with_reducible exact Ext.refl _) | (with_reducible assumption) | (with_reducible refine Ext.alloc ?_ _) | (with_reducible refine Ext.drewN ?_ _) | (with_reducible refine Ext.drew ?_) | (with_reducible refine Ext.setCell ?_ ?_ _) | (with_reducible exact Nat.le_refl _) | (with_reducible exact Nat.le_succ _) | (with_reducible refine Ext.trans ?_ (by assumption)) | (simp; done) | (simp; omega)))⟩
  cases b8
  · have hR := Lib.hid (show false = R by rw [← HR.out]; rfl)
    go_enter Try.func58, Try.ntmps58
    go_wp2_with (first | (go_at_call 93; refine (l01In_any _ _ _ _).mono ?_; rintro e w' ⟨rfl, rfl⟩) | (go_at_call 110; refine (l03Level_any _ _).mono ?_; rintro e w' ⟨rfl, rfl⟩) | (go_at_call 111; refine (specTrains_any D _ _ _ ts _ HN.out HS.out HT.out (HF.out.ext ((Ext.refl w).alloc _)) HD.out).mono ?_; rintro e w' ⟨rfl, hb⟩))
    go_ret
    exact ⟨ret_bool (by simp [*, ← hR.out]), by (repeat' (first | (with_reducible exact Ext.refl _) | (with_reducible assumption) | (with_reducible refine Ext.alloc ?_ _) | (with_reducible refine Ext.drewN ?_ _) | (with_reducible refine Ext.drew ?_) | (with_reducible refine Ext.setCell ?_ ?_ _) | (with_reducible exact Nat.le_refl _) | (with_reducible exact Nat.le_succ _) | (with_reducible refine Ext.trans ?_ (by assumption)) | (simp; done) | (simp; omega)))⟩
  have hR := Lib.hid (show D = R by rw [← HR.out]; rfl)
  go_enter Try.func58, Try.ntmps58
  go_wp2_with (first | (go_at_call 93; refine (l01In_any _ _ _ _).mono ?_; rintro e w' ⟨rfl, rfl⟩) | (go_at_call 110; refine (l03Level_any _ _).mono ?_; rintro e w' ⟨rfl, rfl⟩) | (go_at_call 111; refine (specTrains_any D _ _ _ ts _ HN.out HS.out HT.out (HF.out.ext ((Ext.refl w).alloc _)) HD.out).mono ?_; rintro e w' ⟨rfl, hb⟩))
  go_ret
  exact ⟨ret_bool (by simp [*, hR.out]), by (repeat' (first | (with_reducible exact Ext.refl _) | (with_reducible assumption) | (with_reducible refine Ext.alloc ?_ _) | (with_reducible refine Ext.drewN ?_ _) | (with_reducible refine Ext.drew ?_) | (with_reducible refine Ext.setCell ?_ ?_ _) | (with_reducible exact Nat.le_refl _) | (with_reducible exact Nat.le_succ _) | (with_reducible refine Ext.trans ?_ (by assumption)) | (simp; done) | (simp; omega)))⟩
end Go.Proofs.Ytooedgaaaoinbaa
