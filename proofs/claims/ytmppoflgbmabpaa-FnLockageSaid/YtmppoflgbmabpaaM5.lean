/- LockOk on both sides. -/
import Derived.Test.YtmppoflgbmabpaaProg
import Derived.Test.YtmppoflgbmabpaaM4
import Derived.Test.YtmppoflgbmabpaaM3
import Derived.Test.YtmppoflgbmabpaaM2
import Derived.Lib.SliceRun
namespace Go.Proofs.Ytmppoflgbmabpaa
open Go.RowKit
set_option linter.unusedSimpArgs false
set_option linter.unusedVariables false

/-! ### LockOk -/
def lockOk (x0 x1 x2 x3 x4 x5 x6 x7 x8 : Int) (ts : List Tn) : Bool := inR x0 1 1000 && inR x1 1 100 && inR x2 0 100000 && inR x3 0 100000 && inR x4 0 100000 && inR x5 1 10000 && inR x6 1 100000 && inR x7 0 1000000000 && inR x8 0 2 && distinct ts
theorem and_f {a b : Bool} : a = false ∨ (a = true) := by cases a <;> simp
set_option maxHeartbeats 4000000 in
theorem implLockOk_any (R : Bool) (x0 x1 x2 x3 x4 x5 x6 x7 x8 : Int) (a : Option Addr) (n c : Nat) (ts : List Tn) (w : World) (hn : n = ts.length) (hs : n ≤ 1048576) (hts : ∀ t ∈ ts, SmallT t) (hf : TrainsAt w a ts) (hR : lockOk x0 x1 x2 x3 x4 x5 x6 x7 x8 ts = R) :
    Calls Try.prog 21 #[.agg #[.int .i64 x0, .int .i64 x1, .int .i64 x2, .int .i64 x3, .int .i64 x4, .int .i64 x5, .int .i64 x6, .int .i64 x7, .int .i64 x8, .slice a n c]] w fun e w' => e = .returned (.bool R) ∧ Ext w w' := by
  have HF := Lib.hid hf; clear hf
  have HN := Lib.hid hn; clear hn
  have HS := Lib.hid hs; clear hs
  have HT := Lib.hid hts; clear hts
  obtain ⟨D, hD⟩ : ∃ D, distinct ts = D := ⟨_, rfl⟩
  unfold lockOk at hR
  rw [hD] at hR
  have HD := Lib.hid hD; clear hD
  obtain ⟨b0, hb0⟩ : ∃ b, inR x0 1 1000 = b := ⟨_, rfl⟩
  obtain ⟨b1, hb1⟩ : ∃ b, inR x1 1 100 = b := ⟨_, rfl⟩
  obtain ⟨b2, hb2⟩ : ∃ b, inR x2 0 100000 = b := ⟨_, rfl⟩
  obtain ⟨b3, hb3⟩ : ∃ b, inR x3 0 100000 = b := ⟨_, rfl⟩
  obtain ⟨b4, hb4⟩ : ∃ b, inR x4 0 100000 = b := ⟨_, rfl⟩
  obtain ⟨b5, hb5⟩ : ∃ b, inR x5 1 10000 = b := ⟨_, rfl⟩
  obtain ⟨b6, hb6⟩ : ∃ b, inR x6 1 100000 = b := ⟨_, rfl⟩
  obtain ⟨b7, hb7⟩ : ∃ b, inR x7 0 1000000000 = b := ⟨_, rfl⟩
  obtain ⟨b8, hb8⟩ : ∃ b, inR x8 0 2 = b := ⟨_, rfl⟩
  rw [hb0, hb1, hb2, hb3, hb4, hb5, hb6, hb7, hb8] at hR
  have HR := Lib.hid hR; clear hR
  cases b0
  · have hR := Lib.hid (show false = R by rw [← HR.out]; rfl)
    go_enter Try.func21, Try.ntmps21
    go_wp2_with (first | (go_at_call 26; refine (inRange_any _ _ _ _).mono ?_; rintro e w' ⟨rfl, rfl⟩) | (go_at_call 45; refine (implDistinct_any D _ _ _ ts _ HN.out HS.out HT.out (HF.out.ext ((Ext.refl w).alloc _)) HD.out).mono ?_; rintro e w' ⟨rfl, hb⟩))
    go_ret
    exact ⟨ret_bool (by simp [*, ← hR.out]), by (repeat' (first | (with_reducible exact Ext.refl _) | (with_reducible assumption) | (with_reducible refine Ext.alloc ?_ _) | (with_reducible refine Ext.drewN ?_ _) | (with_reducible refine Ext.drew ?_) | (with_reducible refine Ext.setCell ?_ ?_ _) | (with_reducible exact Nat.le_refl _) | (with_reducible exact Nat.le_succ _) | (with_reducible refine Ext.trans ?_ (by assumption)) | (simp; done) | (simp; omega)))⟩
  cases b1
  · have hR := Lib.hid (show false = R by rw [← HR.out]; rfl)
    go_enter Try.func21, Try.ntmps21
    go_wp2_with (first | (go_at_call 26; refine (inRange_any _ _ _ _).mono ?_; rintro e w' ⟨rfl, rfl⟩) | (go_at_call 45; refine (implDistinct_any D _ _ _ ts _ HN.out HS.out HT.out (HF.out.ext ((Ext.refl w).alloc _)) HD.out).mono ?_; rintro e w' ⟨rfl, hb⟩))
    go_ret
    exact ⟨ret_bool (by simp [*, ← hR.out]), by (repeat' (first | (with_reducible exact Ext.refl _) | (with_reducible assumption) | (with_reducible refine Ext.alloc ?_ _) | (with_reducible refine Ext.drewN ?_ _) | (with_reducible refine Ext.drew ?_) | (with_reducible refine Ext.setCell ?_ ?_ _) | (with_reducible exact Nat.le_refl _) | (with_reducible exact Nat.le_succ _) | (with_reducible refine Ext.trans ?_ (by assumption)) | (simp; done) | (simp; omega)))⟩
  cases b2
  · have hR := Lib.hid (show false = R by rw [← HR.out]; rfl)
    go_enter Try.func21, Try.ntmps21
    go_wp2_with (first | (go_at_call 26; refine (inRange_any _ _ _ _).mono ?_; rintro e w' ⟨rfl, rfl⟩) | (go_at_call 45; refine (implDistinct_any D _ _ _ ts _ HN.out HS.out HT.out (HF.out.ext ((Ext.refl w).alloc _)) HD.out).mono ?_; rintro e w' ⟨rfl, hb⟩))
    go_ret
    exact ⟨ret_bool (by simp [*, ← hR.out]), by (repeat' (first | (with_reducible exact Ext.refl _) | (with_reducible assumption) | (with_reducible refine Ext.alloc ?_ _) | (with_reducible refine Ext.drewN ?_ _) | (with_reducible refine Ext.drew ?_) | (with_reducible refine Ext.setCell ?_ ?_ _) | (with_reducible exact Nat.le_refl _) | (with_reducible exact Nat.le_succ _) | (with_reducible refine Ext.trans ?_ (by assumption)) | (simp; done) | (simp; omega)))⟩
  cases b3
  · have hR := Lib.hid (show false = R by rw [← HR.out]; rfl)
    go_enter Try.func21, Try.ntmps21
    go_wp2_with (first | (go_at_call 26; refine (inRange_any _ _ _ _).mono ?_; rintro e w' ⟨rfl, rfl⟩) | (go_at_call 45; refine (implDistinct_any D _ _ _ ts _ HN.out HS.out HT.out (HF.out.ext ((Ext.refl w).alloc _)) HD.out).mono ?_; rintro e w' ⟨rfl, hb⟩))
    go_ret
    exact ⟨ret_bool (by simp [*, ← hR.out]), by (repeat' (first | (with_reducible exact Ext.refl _) | (with_reducible assumption) | (with_reducible refine Ext.alloc ?_ _) | (with_reducible refine Ext.drewN ?_ _) | (with_reducible refine Ext.drew ?_) | (with_reducible refine Ext.setCell ?_ ?_ _) | (with_reducible exact Nat.le_refl _) | (with_reducible exact Nat.le_succ _) | (with_reducible refine Ext.trans ?_ (by assumption)) | (simp; done) | (simp; omega)))⟩
  cases b4
  · have hR := Lib.hid (show false = R by rw [← HR.out]; rfl)
    go_enter Try.func21, Try.ntmps21
    go_wp2_with (first | (go_at_call 26; refine (inRange_any _ _ _ _).mono ?_; rintro e w' ⟨rfl, rfl⟩) | (go_at_call 45; refine (implDistinct_any D _ _ _ ts _ HN.out HS.out HT.out (HF.out.ext ((Ext.refl w).alloc _)) HD.out).mono ?_; rintro e w' ⟨rfl, hb⟩))
    go_ret
    exact ⟨ret_bool (by simp [*, ← hR.out]), by (repeat' (first | (with_reducible exact Ext.refl _) | (with_reducible assumption) | (with_reducible refine Ext.alloc ?_ _) | (with_reducible refine Ext.drewN ?_ _) | (with_reducible refine Ext.drew ?_) | (with_reducible refine Ext.setCell ?_ ?_ _) | (with_reducible exact Nat.le_refl _) | (with_reducible exact Nat.le_succ _) | (with_reducible refine Ext.trans ?_ (by assumption)) | (simp; done) | (simp; omega)))⟩
  cases b5
  · have hR := Lib.hid (show false = R by rw [← HR.out]; rfl)
    go_enter Try.func21, Try.ntmps21
    go_wp2_with (first | (go_at_call 26; refine (inRange_any _ _ _ _).mono ?_; rintro e w' ⟨rfl, rfl⟩) | (go_at_call 45; refine (implDistinct_any D _ _ _ ts _ HN.out HS.out HT.out (HF.out.ext ((Ext.refl w).alloc _)) HD.out).mono ?_; rintro e w' ⟨rfl, hb⟩))
    go_ret
    exact ⟨ret_bool (by simp [*, ← hR.out]), by (repeat' (first | (with_reducible exact Ext.refl _) | (with_reducible assumption) | (with_reducible refine Ext.alloc ?_ _) | (with_reducible refine Ext.drewN ?_ _) | (with_reducible refine Ext.drew ?_) | (with_reducible refine Ext.setCell ?_ ?_ _) | (with_reducible exact Nat.le_refl _) | (with_reducible exact Nat.le_succ _) | (with_reducible refine Ext.trans ?_ (by assumption)) | (simp; done) | (simp; omega)))⟩
  cases b6
  · have hR := Lib.hid (show false = R by rw [← HR.out]; rfl)
    go_enter Try.func21, Try.ntmps21
    go_wp2_with (first | (go_at_call 26; refine (inRange_any _ _ _ _).mono ?_; rintro e w' ⟨rfl, rfl⟩) | (go_at_call 45; refine (implDistinct_any D _ _ _ ts _ HN.out HS.out HT.out (HF.out.ext ((Ext.refl w).alloc _)) HD.out).mono ?_; rintro e w' ⟨rfl, hb⟩))
    go_ret
    exact ⟨ret_bool (by simp [*, ← hR.out]), by (repeat' (first | (with_reducible exact Ext.refl _) | (with_reducible assumption) | (with_reducible refine Ext.alloc ?_ _) | (with_reducible refine Ext.drewN ?_ _) | (with_reducible refine Ext.drew ?_) | (with_reducible refine Ext.setCell ?_ ?_ _) | (with_reducible exact Nat.le_refl _) | (with_reducible exact Nat.le_succ _) | (with_reducible refine Ext.trans ?_ (by assumption)) | (simp; done) | (simp; omega)))⟩
  cases b7
  · have hR := Lib.hid (show false = R by rw [← HR.out]; rfl)
    go_enter Try.func21, Try.ntmps21
    go_wp2_with (first | (go_at_call 26; refine (inRange_any _ _ _ _).mono ?_; rintro e w' ⟨rfl, rfl⟩) | (go_at_call 45; refine (implDistinct_any D _ _ _ ts _ HN.out HS.out HT.out (HF.out.ext ((Ext.refl w).alloc _)) HD.out).mono ?_; rintro e w' ⟨rfl, hb⟩))
    go_ret
    exact ⟨ret_bool (by simp [*, ← hR.out]), by (repeat' (first | (with_reducible exact Ext.refl _) | (with_reducible assumption) | (with_reducible refine Ext.alloc ?_ _) | (with_reducible refine Ext.drewN ?_ _) | (with_reducible refine Ext.drew ?_) | (with_reducible refine Ext.setCell ?_ ?_ _) | (with_reducible exact Nat.le_refl _) | (with_reducible exact Nat.le_succ _) | (with_reducible refine Ext.trans ?_ (by assumption)) | (simp; done) | (simp; omega)))⟩
  cases b8
  · have hR := Lib.hid (show false = R by rw [← HR.out]; rfl)
    go_enter Try.func21, Try.ntmps21
    go_wp2_with (first | (go_at_call 26; refine (inRange_any _ _ _ _).mono ?_; rintro e w' ⟨rfl, rfl⟩) | (go_at_call 45; refine (implDistinct_any D _ _ _ ts _ HN.out HS.out HT.out (HF.out.ext ((Ext.refl w).alloc _)) HD.out).mono ?_; rintro e w' ⟨rfl, hb⟩))
    go_ret
    exact ⟨ret_bool (by simp [*, ← hR.out]), by (repeat' (first | (with_reducible exact Ext.refl _) | (with_reducible assumption) | (with_reducible refine Ext.alloc ?_ _) | (with_reducible refine Ext.drewN ?_ _) | (with_reducible refine Ext.drew ?_) | (with_reducible refine Ext.setCell ?_ ?_ _) | (with_reducible exact Nat.le_refl _) | (with_reducible exact Nat.le_succ _) | (with_reducible refine Ext.trans ?_ (by assumption)) | (simp; done) | (simp; omega)))⟩
  have hR := Lib.hid (show D = R by rw [← HR.out]; rfl)
  go_enter Try.func21, Try.ntmps21
  go_wp2_with (first | (go_at_call 26; refine (inRange_any _ _ _ _).mono ?_; rintro e w' ⟨rfl, rfl⟩) | (go_at_call 45; refine (implDistinct_any D _ _ _ ts _ HN.out HS.out HT.out (HF.out.ext ((Ext.refl w).alloc _)) HD.out).mono ?_; rintro e w' ⟨rfl, hb⟩))
  go_ret
  exact ⟨ret_bool (by simp [*, hR.out]), by (repeat' (first | (with_reducible exact Ext.refl _) | (with_reducible assumption) | (with_reducible refine Ext.alloc ?_ _) | (with_reducible refine Ext.drewN ?_ _) | (with_reducible refine Ext.drew ?_) | (with_reducible refine Ext.setCell ?_ ?_ _) | (with_reducible exact Nat.le_refl _) | (with_reducible exact Nat.le_succ _) | (with_reducible refine Ext.trans ?_ (by assumption)) | (simp; done) | (simp; omega)))⟩

end Go.Proofs.Ytmppoflgbmabpaa
/- ShutGate on both sides. -/
namespace Go.Proofs.Ytmppoflgbmabpaa
open Go.RowKit
set_option linter.unusedSimpArgs false
set_option linter.unusedVariables false

theorem GT.ownAt {w : World} {lo hi n : Nat} {a : Option Addr} {c : Nat} {es : List (Bool × Value)} {ts : List Tn} (h : GT w lo hi (.slice a n c) es ts) : OwnTrains w lo hi a ts := by
  obtain ⟨a', c', e, _, ho⟩ := h.own
  injection e with e1 _ _
  rw [e1]
  exact ho
theorem OwnTrains.wide {w : World} {lo hi lo' hi' : Nat} {a : Option Addr} {ts : List Tn} (h : OwnTrains w lo hi a ts) (hl : lo' ≤ lo) (hh : hi ≤ hi') : OwnTrains w lo' hi' a ts := h.keep hl hh (fun _ _ _ _ _ hr => hr)


set_option maxRecDepth 100000 in
set_option maxHeartbeats 2000000 in
theorem implShut_any (g : Int) (x0 x1 x2 x3 x4 x5 x6 x7 x8 : Int) (a : Option Addr) (n c : Nat) (ts : List Tn) (w : World) (hn : n = ts.length) (hs : n ≤ 1048576) (hts : ∀ t ∈ ts, SmallT t) (hf : TrainsAt w a ts) (hg : (if lockOk x0 x1 x2 x3 x4 x5 x6 x7 x8 ts = true then 0 else x8) = g) :
    Calls Try.prog 15 #[.agg #[.int .i64 x0, .int .i64 x1, .int .i64 x2, .int .i64 x3, .int .i64 x4, .int .i64 x5, .int .i64 x6, .int .i64 x7, .int .i64 x8, .slice a n c]] w fun e w' => ∃ a' c', e = .returned (.agg #[.int .i64 x0, .int .i64 x1, .int .i64 x2, .int .i64 x3, .int .i64 x4, .int .i64 x5, .int .i64 x6, .int .i64 x7, .int .i64 g, .slice a' n c']) ∧ OwnTrains w' w.heap.size w'.heap.size a' ts ∧ Ext w w' := by
  obtain ⟨R, hR⟩ : ∃ R, lockOk x0 x1 x2 x3 x4 x5 x6 x7 x8 ts = R := ⟨_, rfl⟩
  rw [hR] at hg
  have HRR := Lib.hid hR; clear hR
  have HF := Lib.hid hf; clear hf
  have HN := Lib.hid hn; clear hn
  have HTS := Lib.hid hts; clear hts
  have R0 := (RowAt.new w 26 #[.int .i64 x0, .int .i64 x1, .int .i64 x2, .int .i64 x3, .int .i64 x4, .int .i64 x5, .int .i64 x6, .int .i64 x7, .int .i64 x8, .slice a n c]).ext ((Ext.refl _).alloc (.cells #[.int .i64 0, .int .i64 0, .int .i64 0, .int .i64 0, .int .i64 0, .int .i64 0, .int .i64 0, .int .i64 0, .int .i64 0, .slice none 0 0] 26))
  have R1 := RowAt.new (w.alloc (.cells #[.int .i64 x0, .int .i64 x1, .int .i64 x2, .int .i64 x3, .int .i64 x4, .int .i64 x5, .int .i64 x6, .int .i64 x7, .int .i64 x8, .slice a n c] 26)) 26 #[.int .i64 0, .int .i64 0, .int .i64 0, .int .i64 0, .int .i64 0, .int .i64 0, .int .i64 0, .int .i64 0, .int .i64 0, .slice none 0 0]
  rw [World.size_alloc] at R1
  have HR0 := Lib.hid R0
  have HR1 := Lib.hid R1
  have HE0 := Lib.hid (((Ext.refl w).alloc (.cells #[.int .i64 x0, .int .i64 x1, .int .i64 x2, .int .i64 x3, .int .i64 x4, .int .i64 x5, .int .i64 x6, .int .i64 x7, .int .i64 x8, .slice a n c] 26)).alloc (.cells #[.int .i64 0, .int .i64 0, .int .i64 0, .int .i64 0, .int .i64 0, .int .i64 0, .int .i64 0, .int .i64 0, .int .i64 0, .slice none 0 0] 26))
  clear R0 R1
  cases R
  all_goals
    (first | rw [if_pos rfl] at hg | rw [if_neg (by decide)] at hg)
    subst hg
    go_enter Try.func15, Try.ntmps15
    go_wp2_with fail
    with_reducible refine (copyLock_any _ _ _ _ _ _ _ _ _ _ _ _ ts _ HN.out hs HTS.out (HF.out.ext HE0.out)).mono ?_
    rintro e w1 ⟨a1, c1, es, rfl, hg1, hb1⟩
    have z1 := hb1.size
    simp only [World.size_alloc] at z1 hg1
    have eA := (Ext.refl w1).alloc (.cells #[.int .i64 x0, .int .i64 x1, .int .i64 x2, .int .i64 x3, .int .i64 x4, .int .i64 x5, .int .i64 x6, .int .i64 x7, .int .i64 x8, .slice a1 n c1] 26)
    have HG2 := Lib.hid (hg1.ext eA)
    have S0 := Lib.hid ((HR0.out.ext hb1).ext eA)
    have S1 := Lib.hid ((HR1.out.ext hb1).ext eA)
    have SO := Lib.hid (RowAt.new w1 26 #[.int .i64 x0, .int .i64 x1, .int .i64 x2, .int .i64 x3, .int .i64 x4, .int .i64 x5, .int .i64 x6, .int .i64 x7, .int .i64 x8, .slice a1 n c1])
    have HE2 := Lib.hid (HE0.out.trans (hb1.trans eA))
    have p0 : (w1.alloc (.cells #[.int .i64 x0, .int .i64 x1, .int .i64 x2, .int .i64 x3, .int .i64 x4, .int .i64 x5, .int .i64 x6, .int .i64 x7, .int .i64 x8, .slice a1 n c1] 26)).cell? ⟨w.heap.size, 0, none⟩ = some (.int .i64 x0) := S0.out.cell rfl
    have p1 : (w1.alloc (.cells #[.int .i64 x0, .int .i64 x1, .int .i64 x2, .int .i64 x3, .int .i64 x4, .int .i64 x5, .int .i64 x6, .int .i64 x7, .int .i64 x8, .slice a1 n c1] 26)).cell? ⟨w.heap.size, 1, none⟩ = some (.int .i64 x1) := S0.out.cell rfl
    have p2 : (w1.alloc (.cells #[.int .i64 x0, .int .i64 x1, .int .i64 x2, .int .i64 x3, .int .i64 x4, .int .i64 x5, .int .i64 x6, .int .i64 x7, .int .i64 x8, .slice a1 n c1] 26)).cell? ⟨w.heap.size, 2, none⟩ = some (.int .i64 x2) := S0.out.cell rfl
    have p3 : (w1.alloc (.cells #[.int .i64 x0, .int .i64 x1, .int .i64 x2, .int .i64 x3, .int .i64 x4, .int .i64 x5, .int .i64 x6, .int .i64 x7, .int .i64 x8, .slice a1 n c1] 26)).cell? ⟨w.heap.size, 3, none⟩ = some (.int .i64 x3) := S0.out.cell rfl
    have p4 : (w1.alloc (.cells #[.int .i64 x0, .int .i64 x1, .int .i64 x2, .int .i64 x3, .int .i64 x4, .int .i64 x5, .int .i64 x6, .int .i64 x7, .int .i64 x8, .slice a1 n c1] 26)).cell? ⟨w.heap.size, 4, none⟩ = some (.int .i64 x4) := S0.out.cell rfl
    have p5 : (w1.alloc (.cells #[.int .i64 x0, .int .i64 x1, .int .i64 x2, .int .i64 x3, .int .i64 x4, .int .i64 x5, .int .i64 x6, .int .i64 x7, .int .i64 x8, .slice a1 n c1] 26)).cell? ⟨w.heap.size, 5, none⟩ = some (.int .i64 x5) := S0.out.cell rfl
    have p6 : (w1.alloc (.cells #[.int .i64 x0, .int .i64 x1, .int .i64 x2, .int .i64 x3, .int .i64 x4, .int .i64 x5, .int .i64 x6, .int .i64 x7, .int .i64 x8, .slice a1 n c1] 26)).cell? ⟨w.heap.size, 6, none⟩ = some (.int .i64 x6) := S0.out.cell rfl
    have p7 : (w1.alloc (.cells #[.int .i64 x0, .int .i64 x1, .int .i64 x2, .int .i64 x3, .int .i64 x4, .int .i64 x5, .int .i64 x6, .int .i64 x7, .int .i64 x8, .slice a1 n c1] 26)).cell? ⟨w.heap.size, 7, none⟩ = some (.int .i64 x7) := S0.out.cell rfl
    have p8 : (w1.alloc (.cells #[.int .i64 x0, .int .i64 x1, .int .i64 x2, .int .i64 x3, .int .i64 x4, .int .i64 x5, .int .i64 x6, .int .i64 x7, .int .i64 x8, .slice a1 n c1] 26)).cell? ⟨w.heap.size, 8, none⟩ = some (.int .i64 x8) := S0.out.cell rfl
    have p9 : (w1.alloc (.cells #[.int .i64 x0, .int .i64 x1, .int .i64 x2, .int .i64 x3, .int .i64 x4, .int .i64 x5, .int .i64 x6, .int .i64 x7, .int .i64 x8, .slice a1 n c1] 26)).cell? ⟨w.heap.size, 9, none⟩ = some (.slice a n c) := S0.out.cell rfl
    go_wp2_with fail
    clear p0 p1 p2 p3 p4 p5 p6 p7 p8 p9
    with_reducible refine (implLockOk_any _ _ _ _ _ _ _ _ _ _ _ _ _ ts _ HN.out hs HTS.out (HF.out.ext HE2.out) HRR.out).mono ?_
    rintro e w3 ⟨rfl, hb3⟩
    have z3 := hb3.size
    simp only [World.size_alloc] at z3
    have HG3 := Lib.hid (HG2.out.ext hb3)
    have T1 := Lib.hid (S1.out.ext hb3)
    have TO := Lib.hid (SO.out.ext hb3)
    have HE3 := Lib.hid (HE2.out.trans hb3)
    obtain ⟨O, hO⟩ : ∃ x, x = w1.heap.size := ⟨_, rfl⟩
    rw [← hO] at TO z3
    (try rw [← hO])
    have zO : w.heap.size + 1 + 1 ≤ O := by omega
    have zG : w1.heap.size ≤ O := by omega
    clear hO hb1 hb3 S0 S1 SO HG2 HE2 HE0 HR0 HR1 hg1 eA
  · have TO2 := TO; have T12 := T1; have HG4 := HG3; have HE4 := HE3
    have q0 : w3.cell? ⟨O, 0, none⟩ = some (.int .i64 x0) := TO2.out.cell rfl
    have q1 : w3.cell? ⟨O, 1, none⟩ = some (.int .i64 x1) := TO2.out.cell rfl
    have q2 : w3.cell? ⟨O, 2, none⟩ = some (.int .i64 x2) := TO2.out.cell rfl
    have q3 : w3.cell? ⟨O, 3, none⟩ = some (.int .i64 x3) := TO2.out.cell rfl
    have q4 : w3.cell? ⟨O, 4, none⟩ = some (.int .i64 x4) := TO2.out.cell rfl
    have q5 : w3.cell? ⟨O, 5, none⟩ = some (.int .i64 x5) := TO2.out.cell rfl
    have q6 : w3.cell? ⟨O, 6, none⟩ = some (.int .i64 x6) := TO2.out.cell rfl
    have q7 : w3.cell? ⟨O, 7, none⟩ = some (.int .i64 x7) := TO2.out.cell rfl
    have q8 : w3.cell? ⟨O, 8, none⟩ = some (.int .i64 x8) := TO2.out.cell rfl
    have q9 : w3.cell? ⟨O, 9, none⟩ = some (.slice a1 n c1) := TO2.out.cell rfl
    have r0 : w3.cell? ⟨w.heap.size + 1, 0, none⟩ = some (.int .i64 0) := T12.out.cell rfl
    have g0 := T12.out.frozen 0
    have r1 : w3.cell? ⟨w.heap.size + 1, 1, none⟩ = some (.int .i64 0) := T12.out.cell rfl
    have g1 := T12.out.frozen 1
    have r2 : w3.cell? ⟨w.heap.size + 1, 2, none⟩ = some (.int .i64 0) := T12.out.cell rfl
    have g2 := T12.out.frozen 2
    have r3 : w3.cell? ⟨w.heap.size + 1, 3, none⟩ = some (.int .i64 0) := T12.out.cell rfl
    have g3 := T12.out.frozen 3
    have r4 : w3.cell? ⟨w.heap.size + 1, 4, none⟩ = some (.int .i64 0) := T12.out.cell rfl
    have g4 := T12.out.frozen 4
    have r5 : w3.cell? ⟨w.heap.size + 1, 5, none⟩ = some (.int .i64 0) := T12.out.cell rfl
    have g5 := T12.out.frozen 5
    have r6 : w3.cell? ⟨w.heap.size + 1, 6, none⟩ = some (.int .i64 0) := T12.out.cell rfl
    have g6 := T12.out.frozen 6
    have r7 : w3.cell? ⟨w.heap.size + 1, 7, none⟩ = some (.int .i64 0) := T12.out.cell rfl
    have g7 := T12.out.frozen 7
    have r8 : w3.cell? ⟨w.heap.size + 1, 8, none⟩ = some (.int .i64 0) := T12.out.cell rfl
    have g8 := T12.out.frozen 8
    have r9 : w3.cell? ⟨w.heap.size + 1, 9, none⟩ = some (.slice none 0 0) := T12.out.cell rfl
    have g9 := T12.out.frozen 9
    go_wp2
    refine bodyPost_ret (v := .agg #[.int .i64 x0, .int .i64 x1, .int .i64 x2, .int .i64 x3, .int .i64 x4, .int .i64 x5, .int .i64 x6, .int .i64 x7, .int .i64 x8, .slice a1 n c1]) (by simp [results, Try.results15, go_sem, *]) rfl ⟨a1, c1, rfl, ?_, ?_⟩
    · exact (((((((((((HG4.out.set (p := ⟨w.heap.size + 1, 0, none⟩) (.inl (by dsimp only; omega)) _).set (p := ⟨w.heap.size + 1, 1, none⟩) (.inl (by dsimp only; omega)) _).set (p := ⟨w.heap.size + 1, 2, none⟩) (.inl (by dsimp only; omega)) _).set (p := ⟨w.heap.size + 1, 3, none⟩) (.inl (by dsimp only; omega)) _).set (p := ⟨w.heap.size + 1, 4, none⟩) (.inl (by dsimp only; omega)) _).set (p := ⟨w.heap.size + 1, 5, none⟩) (.inl (by dsimp only; omega)) _).set (p := ⟨w.heap.size + 1, 6, none⟩) (.inl (by dsimp only; omega)) _).set (p := ⟨w.heap.size + 1, 7, none⟩) (.inl (by dsimp only; omega)) _).set (p := ⟨w.heap.size + 1, 8, none⟩) (.inl (by dsimp only; omega)) _).set (p := ⟨w.heap.size + 1, 9, none⟩) (.inl (by dsimp only; omega)) _).ownAt).wide (by omega) (by simp only [size_setCell']; omega)
    · exact ((((((((((HE4.out.setCell (p := ⟨w.heap.size + 1, 0, none⟩) (by dsimp only; omega) _).setCell (p := ⟨w.heap.size + 1, 1, none⟩) (by dsimp only; omega) _).setCell (p := ⟨w.heap.size + 1, 2, none⟩) (by dsimp only; omega) _).setCell (p := ⟨w.heap.size + 1, 3, none⟩) (by dsimp only; omega) _).setCell (p := ⟨w.heap.size + 1, 4, none⟩) (by dsimp only; omega) _).setCell (p := ⟨w.heap.size + 1, 5, none⟩) (by dsimp only; omega) _).setCell (p := ⟨w.heap.size + 1, 6, none⟩) (by dsimp only; omega) _).setCell (p := ⟨w.heap.size + 1, 7, none⟩) (by dsimp only; omega) _).setCell (p := ⟨w.heap.size + 1, 8, none⟩) (by dsimp only; omega) _).setCell (p := ⟨w.heap.size + 1, 9, none⟩) (by dsimp only; omega) _)
  · have f8 := TO.out.frozen 8
    have d8 : w3.cell? ⟨O, 8, none⟩ = some (.int .i64 x8) := TO.out.cell rfl
    have TO2 := Lib.hid (TO.out.set 8 (.int .i64 0))
    have T12 := Lib.hid (T1.out.other (p := ⟨O, 8, none⟩) (by dsimp only; omega) (.int .i64 0))
    have HG4 := Lib.hid (HG3.out.set (p := ⟨O, 8, none⟩) (.inr zG) (.int .i64 0))
    have HE4 := Lib.hid (HE3.out.setCell (p := ⟨O, 8, none⟩) (by dsimp only; omega) (.int .i64 0))
    have q0 : (w3.setCell ⟨O, 8, none⟩ (.int .i64 0)).cell? ⟨O, 0, none⟩ = some (.int .i64 x0) := TO2.out.cell rfl
    have q1 : (w3.setCell ⟨O, 8, none⟩ (.int .i64 0)).cell? ⟨O, 1, none⟩ = some (.int .i64 x1) := TO2.out.cell rfl
    have q2 : (w3.setCell ⟨O, 8, none⟩ (.int .i64 0)).cell? ⟨O, 2, none⟩ = some (.int .i64 x2) := TO2.out.cell rfl
    have q3 : (w3.setCell ⟨O, 8, none⟩ (.int .i64 0)).cell? ⟨O, 3, none⟩ = some (.int .i64 x3) := TO2.out.cell rfl
    have q4 : (w3.setCell ⟨O, 8, none⟩ (.int .i64 0)).cell? ⟨O, 4, none⟩ = some (.int .i64 x4) := TO2.out.cell rfl
    have q5 : (w3.setCell ⟨O, 8, none⟩ (.int .i64 0)).cell? ⟨O, 5, none⟩ = some (.int .i64 x5) := TO2.out.cell rfl
    have q6 : (w3.setCell ⟨O, 8, none⟩ (.int .i64 0)).cell? ⟨O, 6, none⟩ = some (.int .i64 x6) := TO2.out.cell rfl
    have q7 : (w3.setCell ⟨O, 8, none⟩ (.int .i64 0)).cell? ⟨O, 7, none⟩ = some (.int .i64 x7) := TO2.out.cell rfl
    have q8 : (w3.setCell ⟨O, 8, none⟩ (.int .i64 0)).cell? ⟨O, 8, none⟩ = some (.int .i64 0) := TO2.out.cell rfl
    have q9 : (w3.setCell ⟨O, 8, none⟩ (.int .i64 0)).cell? ⟨O, 9, none⟩ = some (.slice a1 n c1) := TO2.out.cell rfl
    have r0 : (w3.setCell ⟨O, 8, none⟩ (.int .i64 0)).cell? ⟨w.heap.size + 1, 0, none⟩ = some (.int .i64 0) := T12.out.cell rfl
    have g0 := T12.out.frozen 0
    have r1 : (w3.setCell ⟨O, 8, none⟩ (.int .i64 0)).cell? ⟨w.heap.size + 1, 1, none⟩ = some (.int .i64 0) := T12.out.cell rfl
    have g1 := T12.out.frozen 1
    have r2 : (w3.setCell ⟨O, 8, none⟩ (.int .i64 0)).cell? ⟨w.heap.size + 1, 2, none⟩ = some (.int .i64 0) := T12.out.cell rfl
    have g2 := T12.out.frozen 2
    have r3 : (w3.setCell ⟨O, 8, none⟩ (.int .i64 0)).cell? ⟨w.heap.size + 1, 3, none⟩ = some (.int .i64 0) := T12.out.cell rfl
    have g3 := T12.out.frozen 3
    have r4 : (w3.setCell ⟨O, 8, none⟩ (.int .i64 0)).cell? ⟨w.heap.size + 1, 4, none⟩ = some (.int .i64 0) := T12.out.cell rfl
    have g4 := T12.out.frozen 4
    have r5 : (w3.setCell ⟨O, 8, none⟩ (.int .i64 0)).cell? ⟨w.heap.size + 1, 5, none⟩ = some (.int .i64 0) := T12.out.cell rfl
    have g5 := T12.out.frozen 5
    have r6 : (w3.setCell ⟨O, 8, none⟩ (.int .i64 0)).cell? ⟨w.heap.size + 1, 6, none⟩ = some (.int .i64 0) := T12.out.cell rfl
    have g6 := T12.out.frozen 6
    have r7 : (w3.setCell ⟨O, 8, none⟩ (.int .i64 0)).cell? ⟨w.heap.size + 1, 7, none⟩ = some (.int .i64 0) := T12.out.cell rfl
    have g7 := T12.out.frozen 7
    have r8 : (w3.setCell ⟨O, 8, none⟩ (.int .i64 0)).cell? ⟨w.heap.size + 1, 8, none⟩ = some (.int .i64 0) := T12.out.cell rfl
    have g8 := T12.out.frozen 8
    have r9 : (w3.setCell ⟨O, 8, none⟩ (.int .i64 0)).cell? ⟨w.heap.size + 1, 9, none⟩ = some (.slice none 0 0) := T12.out.cell rfl
    have g9 := T12.out.frozen 9
    go_wp2
    refine bodyPost_ret (v := .agg #[.int .i64 x0, .int .i64 x1, .int .i64 x2, .int .i64 x3, .int .i64 x4, .int .i64 x5, .int .i64 x6, .int .i64 x7, .int .i64 0, .slice a1 n c1]) (by simp [results, Try.results15, go_sem, *]) rfl ⟨a1, c1, rfl, ?_, ?_⟩
    · exact (((((((((((HG4.out.set (p := ⟨w.heap.size + 1, 0, none⟩) (.inl (by dsimp only; omega)) _).set (p := ⟨w.heap.size + 1, 1, none⟩) (.inl (by dsimp only; omega)) _).set (p := ⟨w.heap.size + 1, 2, none⟩) (.inl (by dsimp only; omega)) _).set (p := ⟨w.heap.size + 1, 3, none⟩) (.inl (by dsimp only; omega)) _).set (p := ⟨w.heap.size + 1, 4, none⟩) (.inl (by dsimp only; omega)) _).set (p := ⟨w.heap.size + 1, 5, none⟩) (.inl (by dsimp only; omega)) _).set (p := ⟨w.heap.size + 1, 6, none⟩) (.inl (by dsimp only; omega)) _).set (p := ⟨w.heap.size + 1, 7, none⟩) (.inl (by dsimp only; omega)) _).set (p := ⟨w.heap.size + 1, 8, none⟩) (.inl (by dsimp only; omega)) _).set (p := ⟨w.heap.size + 1, 9, none⟩) (.inl (by dsimp only; omega)) _).ownAt).wide (by omega) (by simp only [size_setCell']; omega)
    · exact ((((((((((HE4.out.setCell (p := ⟨w.heap.size + 1, 0, none⟩) (by dsimp only; omega) _).setCell (p := ⟨w.heap.size + 1, 1, none⟩) (by dsimp only; omega) _).setCell (p := ⟨w.heap.size + 1, 2, none⟩) (by dsimp only; omega) _).setCell (p := ⟨w.heap.size + 1, 3, none⟩) (by dsimp only; omega) _).setCell (p := ⟨w.heap.size + 1, 4, none⟩) (by dsimp only; omega) _).setCell (p := ⟨w.heap.size + 1, 5, none⟩) (by dsimp only; omega) _).setCell (p := ⟨w.heap.size + 1, 6, none⟩) (by dsimp only; omega) _).setCell (p := ⟨w.heap.size + 1, 7, none⟩) (by dsimp only; omega) _).setCell (p := ⟨w.heap.size + 1, 8, none⟩) (by dsimp only; omega) _).setCell (p := ⟨w.heap.size + 1, 9, none⟩) (by dsimp only; omega) _)


end Go.Proofs.Ytmppoflgbmabpaa
/- May a train enter a lock: on both sides. -/
namespace Go.Proofs.Ytmppoflgbmabpaa
open Go.RowKit
set_option linter.unusedSimpArgs false
set_option linter.unusedVariables false

theorem lockOk_sills {x0 x1 x2 x3 x4 x5 x6 x7 x8 : Int} {ts : List Tn} (h : lockOk x0 x1 x2 x3 x4 x5 x6 x7 x8 ts = true) : (0 ≤ x2 ∧ x2 ≤ 100000) ∧ (0 ≤ x3 ∧ x3 ≤ 100000) ∧ (0 ≤ x8 ∧ x8 ≤ 2) := by
  unfold lockOk at h
  simp only [Bool.and_eq_true] at h
  obtain ⟨⟨⟨⟨⟨⟨⟨⟨⟨h0, h1⟩, h2⟩, h3⟩, h4⟩, h5⟩, h6⟩, h7⟩, h8⟩, _⟩ := h
  exact ⟨inR_true h2, inR_true h3, inR_true h8⟩
/-- Enough water over the sill s. -/
noncomputable def deep (s : Int) (ps : List Pt) (vol : Int) (xs : List Int) (rows : List (List Bt)) : Bool := decide (draughtOf rows ≤ levelOf ps vol xs - s)
noncomputable def mayEnter (x0 x1 x2 x3 x4 x5 x6 x7 x8 : Int) (ts : List Tn) (ps : List Pt) (vol : Int) (xs : List Int) (u : Bool) (rows : List (List Bt)) : Bool :=
  if lockOk x0 x1 x2 x3 x4 x5 x6 x7 x8 ts && (reachOk ps vol xs && trainOk rows) then (if x8 = (if u then 2 else 1) then deep (if u then x3 else x2) ps vol xs rows else false) else false
theorem implTrainOk_is (R : Bool) (u : Bool) (a : Option Addr) (n c : Nat) (rows : List (List Bt)) (w : World) (hn : n = rows.length) (hs : n ≤ 1048576) (ht : rows.flatten.length ≤ 1048576) (hf : RowsAt w a rows) (hR : trainOk rows = R) :
    Calls Try.prog 42 #[.agg #[.bool u, .slice a n c]] w fun e w' => e = .returned (.bool R) ∧ Ext w w' := by
  subst hR
  exact implTrainOk_any u a n c rows w hn hs ht hf
theorem specTrainOk_is (R : Bool) (u : Bool) (a : Option Addr) (n c : Nat) (rows : List (List Bt)) (w : World) (hn : n = rows.length) (hs : n ≤ 1048576) (ht : rows.flatten.length ≤ 1048576) (hf : RowsAt w a rows) (hR : trainOk rows = R) :
    Calls Try.prog 61 #[.agg #[.bool u, .slice a n c]] w fun e w' => e = .returned (.bool R) ∧ Ext w w' := by
  subst hR
  exact specTrainOk_any u a n c rows w hn hs ht hf
theorem implLevel_is (v : Int) (ta pa : Option Addr) (tn tc pn pc : Nat) (vol : Int) (ps : List Pt) (xs : List Int) (w : World) (ht : tn = ps.length) (hts : tn ≤ maxLen) (hp : pn = xs.length) (hps : pn ≤ maxLen) (hft : FlatAt w ptCells 2 ta ps) (hfp : IntsAt w pa xs) (hvol : -9223372036854775808 ≤ vol ∧ vol ≤ 9223372036854775807) (hv : levelOf ps vol xs = v) :
    Calls Try.prog 12 #[.agg #[.slice ta tn tc, .int .i64 vol, .slice pa pn pc]] w fun e w' => e = .returned (.int .i64 v) ∧ Ext w w' := by
  subst hv
  exact implLevelOf_any ta pa tn tc pn pc vol ps xs w ht hts hp hps hft hfp hvol
theorem implDraught_is (v : Int) (u : Bool) (a : Option Addr) (n c : Nat) (rows : List (List Bt)) (w : World) (hn : n = rows.length) (hs : n ≤ 1048576) (ht : rows.flatten.length ≤ 1048576) (hf : RowsAt w a rows) (hv : draughtOf rows = v) :
    Calls Try.prog 18 #[.agg #[.bool u, .slice a n c]] w fun e w' => e = .returned (.int .i64 v) ∧ Ext w w' := by
  subst hv
  exact implDraughtOf_any u a n c rows w hn hs ht hf
set_option maxHeartbeats 1000000 in
theorem sillOf_any (x0 x1 x2 x3 x4 x5 x6 x7 x8 g s : Int) (a : Option Addr) (n c : Nat) (w : World) (hs : (if g = 1 then x2 else x3) = s) :
    Calls Try.prog 44 #[.agg #[.int .i64 x0, .int .i64 x1, .int .i64 x2, .int .i64 x3, .int .i64 x4, .int .i64 x5, .int .i64 x6, .int .i64 x7, .int .i64 x8, .slice a n c], .int .i64 g] w fun e w' => e = .returned (.int .i64 s) ∧ Ext w w' := by
  by_cases h : g = 1
  · rw [if_pos h] at hs
    subst hs h
    go_enter Try.func44, Try.ntmps44
    go_wp2
    go_ret
    exact ⟨rfl, by (repeat' (first | (with_reducible exact Ext.refl _) | (with_reducible assumption) | (with_reducible refine Ext.alloc ?_ _) | (with_reducible refine Ext.drewN ?_ _) | (with_reducible refine Ext.drew ?_) | (with_reducible refine Ext.setCell ?_ ?_ _) | (with_reducible exact Nat.le_refl _) | (with_reducible exact Nat.le_succ _) | (with_reducible refine Ext.trans ?_ (by assumption)) | (simp; done) | (simp; omega)))⟩
  · rw [if_neg h] at hs
    subst hs
    have h1 : (g == 1) = false := by simpa using h
    go_enter Try.func44, Try.ntmps44
    go_wp2
    go_ret
    exact ⟨rfl, by (repeat' (first | (with_reducible exact Ext.refl _) | (with_reducible assumption) | (with_reducible refine Ext.alloc ?_ _) | (with_reducible refine Ext.drewN ?_ _) | (with_reducible refine Ext.drew ?_) | (with_reducible refine Ext.setCell ?_ ?_ _) | (with_reducible exact Nat.le_refl _) | (with_reducible exact Nat.le_succ _) | (with_reducible refine Ext.trans ?_ (by assumption)) | (simp; done) | (simp; omega)))⟩


set_option maxRecDepth 100000 in
set_option maxHeartbeats 1000000 in
theorem implMayEnter_any (R : Bool) (x0 x1 x2 x3 x4 x5 x6 x7 x8 : Int) (a : Option Addr) (n c : Nat) (ts : List Tn) (ta pa : Option Addr) (tn tc pn pc : Nat) (vol : Int) (ps : List Pt) (xs : List Int) (u : Bool) (ra : Option Addr) (rn rc : Nat) (rows : List (List Bt)) (w : World) (hn : n = ts.length) (hs : n ≤ 1048576) (hts : ∀ t ∈ ts, SmallT t) (hf : TrainsAt w a ts) (ht : tn = ps.length) (htl : tn ≤ maxLen) (hp : pn = xs.length) (hpl : pn ≤ maxLen) (hft : FlatAt w ptCells 2 ta ps) (hfp : IntsAt w pa xs) (hvol : -9223372036854775808 ≤ vol ∧ vol ≤ 9223372036854775807) (hrn : rn = rows.length) (hrs : rn ≤ 1048576) (hrt : rows.flatten.length ≤ 1048576) (hfr : RowsAt w ra rows) (hR : mayEnter x0 x1 x2 x3 x4 x5 x6 x7 x8 ts ps vol xs u rows = R) :
    Calls Try.prog 19 #[.agg #[.int .i64 x0, .int .i64 x1, .int .i64 x2, .int .i64 x3, .int .i64 x4, .int .i64 x5, .int .i64 x6, .int .i64 x7, .int .i64 x8, .slice a n c], .agg #[.slice ta tn tc, .int .i64 vol, .slice pa pn pc], .agg #[.bool u, .slice ra rn rc]] w fun e w' => e = .returned (.bool R) ∧ Ext w w' := by
  obtain ⟨k1, hk1⟩ : ∃ k, lockOk x0 x1 x2 x3 x4 x5 x6 x7 x8 ts = k := ⟨_, rfl⟩
  obtain ⟨k2, hk2⟩ : ∃ k, reachOk ps vol xs = k := ⟨_, rfl⟩
  obtain ⟨k3, hk3⟩ : ∃ k, trainOk rows = k := ⟨_, rfl⟩
  unfold mayEnter at hR
  rw [hk1, hk2, hk3] at hR
  have HK1 := Lib.hid hk1
  have HK2 := Lib.hid hk2; clear hk2
  have HK3 := Lib.hid hk3; clear hk3
  have HN := Lib.hid hn; clear hn
  have HS := Lib.hid hs; clear hs
  have HTS := Lib.hid hts; clear hts
  have HF := Lib.hid hf; clear hf
  have HT := Lib.hid ht; clear ht
  have HTL := Lib.hid htl; clear htl
  have HP := Lib.hid hp; clear hp
  have HPL := Lib.hid hpl; clear hpl
  have HFT := Lib.hid hft; clear hft
  have HFP := Lib.hid hfp; clear hfp
  have HRN := Lib.hid hrn; clear hrn
  have HRS := Lib.hid hrs; clear hrs
  have HRT := Lib.hid hrt; clear hrt
  have HFR := Lib.hid hfr; clear hfr
  have HBL := Lib.hid ((RowAt.new w 26 #[.int .i64 x0, .int .i64 x1, .int .i64 x2, .int .i64 x3, .int .i64 x4, .int .i64 x5, .int .i64 x6, .int .i64 x7, .int .i64 x8, .slice a n c]).ext (((Ext.refl _).alloc (.cells #[.slice ta tn tc, .int .i64 vol, .slice pa pn pc] 33)).alloc (.cells #[.bool u, .slice ra rn rc] 47)))
  have HBR := Lib.hid (show RowAt (((w.alloc (.cells #[.int .i64 x0, .int .i64 x1, .int .i64 x2, .int .i64 x3, .int .i64 x4, .int .i64 x5, .int .i64 x6, .int .i64 x7, .int .i64 x8, .slice a n c] 26)).alloc (.cells #[.slice ta tn tc, .int .i64 vol, .slice pa pn pc] 33)).alloc (.cells #[.bool u, .slice ra rn rc] 47)) (w.heap.size + 1) 33 #[.slice ta tn tc, .int .i64 vol, .slice pa pn pc] from by
    have h := (RowAt.new (w.alloc (.cells #[.int .i64 x0, .int .i64 x1, .int .i64 x2, .int .i64 x3, .int .i64 x4, .int .i64 x5, .int .i64 x6, .int .i64 x7, .int .i64 x8, .slice a n c] 26)) 33 #[.slice ta tn tc, .int .i64 vol, .slice pa pn pc]).ext ((Ext.refl _).alloc (.cells #[.bool u, .slice ra rn rc] 47))
    rw [World.size_alloc] at h
    exact h)
  have HBT := Lib.hid (show RowAt (((w.alloc (.cells #[.int .i64 x0, .int .i64 x1, .int .i64 x2, .int .i64 x3, .int .i64 x4, .int .i64 x5, .int .i64 x6, .int .i64 x7, .int .i64 x8, .slice a n c] 26)).alloc (.cells #[.slice ta tn tc, .int .i64 vol, .slice pa pn pc] 33)).alloc (.cells #[.bool u, .slice ra rn rc] 47)) (w.heap.size + 1 + 1) 47 #[.bool u, .slice ra rn rc] from by
    have h := RowAt.new ((w.alloc (.cells #[.int .i64 x0, .int .i64 x1, .int .i64 x2, .int .i64 x3, .int .i64 x4, .int .i64 x5, .int .i64 x6, .int .i64 x7, .int .i64 x8, .slice a n c] 26)).alloc (.cells #[.slice ta tn tc, .int .i64 vol, .slice pa pn pc] 33)) 47 #[.bool u, .slice ra rn rc]
    rw [World.size_alloc, World.size_alloc] at h
    exact h)
  have HE0 := Lib.hid (show Ext w (((w.alloc (.cells #[.int .i64 x0, .int .i64 x1, .int .i64 x2, .int .i64 x3, .int .i64 x4, .int .i64 x5, .int .i64 x6, .int .i64 x7, .int .i64 x8, .slice a n c] 26)).alloc (.cells #[.slice ta tn tc, .int .i64 vol, .slice pa pn pc] 33)).alloc (.cells #[.bool u, .slice ra rn rc] 47)) from (((Ext.refl w).alloc _).alloc _).alloc _)
  cases k1
  · have HRR := Lib.hid (show (false : Bool) = R by simpa using hR)
    clear hR hk1
    go_enter Try.func19, Try.ntmps19
    go_wp2_with fail
    with_reducible refine (implLockOk_any false _ _ _ _ _ _ _ _ _ _ _ _ ts _ HN.out HS.out HTS.out (HF.out.ext HE0.out) HK1.out).mono ?_
    rintro e w1 ⟨rfl, hx1⟩
    go_wp2
    go_ret
    exact ⟨ret_bool HRR.out, HE0.out.trans hx1⟩
  cases k2
  · have HRR := Lib.hid (show (false : Bool) = R by simpa using hR)
    clear hR hk1
    go_enter Try.func19, Try.ntmps19
    go_wp2_with fail
    with_reducible refine (implLockOk_any true _ _ _ _ _ _ _ _ _ _ _ _ ts _ HN.out HS.out HTS.out (HF.out.ext HE0.out) HK1.out).mono ?_
    rintro e w1 ⟨rfl, hx1⟩
    have r0 : w1.cell? ⟨w.heap.size + 1, 0, none⟩ = some (.slice ta tn tc) := (HBR.out.ext hx1).cell rfl
    have r1 : w1.cell? ⟨w.heap.size + 1, 1, none⟩ = some (.int .i64 vol) := (HBR.out.ext hx1).cell rfl
    have r2 : w1.cell? ⟨w.heap.size + 1, 2, none⟩ = some (.slice pa pn pc) := (HBR.out.ext hx1).cell rfl
    go_wp2_with fail
    with_reducible refine (implReachOk_is _ _ _ _ _ _ _ _ ps xs _ HT.out HTL.out HP.out HPL.out (HFT.out.ext (HE0.out.trans hx1)) (HFP.out.ext (HE0.out.trans hx1)) hvol HK2.out).mono ?_
    rintro e w2 ⟨rfl, hx2⟩
    go_wp2
    go_ret
    exact ⟨ret_bool HRR.out, HE0.out.trans (hx1.trans hx2)⟩
  cases k3
  · have HRR := Lib.hid (show (false : Bool) = R by simpa using hR)
    clear hR hk1
    go_enter Try.func19, Try.ntmps19
    go_wp2_with fail
    with_reducible refine (implLockOk_any true _ _ _ _ _ _ _ _ _ _ _ _ ts _ HN.out HS.out HTS.out (HF.out.ext HE0.out) HK1.out).mono ?_
    rintro e w1 ⟨rfl, hx1⟩
    have r0 : w1.cell? ⟨w.heap.size + 1, 0, none⟩ = some (.slice ta tn tc) := (HBR.out.ext hx1).cell rfl
    have r1 : w1.cell? ⟨w.heap.size + 1, 1, none⟩ = some (.int .i64 vol) := (HBR.out.ext hx1).cell rfl
    have r2 : w1.cell? ⟨w.heap.size + 1, 2, none⟩ = some (.slice pa pn pc) := (HBR.out.ext hx1).cell rfl
    go_wp2_with fail
    with_reducible refine (implReachOk_is _ _ _ _ _ _ _ _ ps xs _ HT.out HTL.out HP.out HPL.out (HFT.out.ext (HE0.out.trans hx1)) (HFP.out.ext (HE0.out.trans hx1)) hvol HK2.out).mono ?_
    rintro e w2 ⟨rfl, hx2⟩
    have hx12 := hx1.trans hx2
    have t0 : w2.cell? ⟨w.heap.size + 1 + 1, 0, none⟩ = some (.bool u) := (HBT.out.ext hx12).cell rfl
    have t1 : w2.cell? ⟨w.heap.size + 1 + 1, 1, none⟩ = some (.slice ra rn rc) := (HBT.out.ext hx12).cell rfl
    go_wp2_with fail
    with_reducible refine (implTrainOk_is _ _ _ _ _ rows _ HRN.out HRS.out HRT.out (HFR.out.ext (HE0.out.trans hx12)) HK3.out).mono ?_
    rintro e w3 ⟨rfl, hx3⟩
    go_wp2
    go_ret
    exact ⟨ret_bool HRR.out, HE0.out.trans (hx12.trans hx3)⟩
  obtain ⟨hb2, hb3, hb8⟩ := lockOk_sills hk1
  obtain ⟨lev, hlev⟩ : ∃ v, levelOf ps vol xs = v := ⟨_, rfl⟩
  obtain ⟨dra, hdra⟩ : ∃ v, draughtOf rows = v := ⟨_, rfl⟩
  have hlb := levelOf_b ps vol xs
  rw [hlev] at hlb
  simp only [Bool.and_self, if_true, deep, hlev, hdra] at hR
  have HLV := Lib.hid hlev; clear hlev
  have HDR := Lib.hid hdra; clear hdra
  clear hk1
  cases u
  all_goals
    simp only [Bool.false_eq_true, if_false, if_true] at hR
  · by_cases hg : x8 = 1
    · rw [if_pos hg] at hR
      have hg1 : (x8 == 1) = true := by simpa using hg
      have HG := Lib.hid hg; clear hg
      have HRR := Lib.hid hR; clear hR
      go_enter Try.func19, Try.ntmps19
      go_wp2_with fail
      with_reducible refine (implLockOk_any true _ _ _ _ _ _ _ _ _ _ _ _ ts _ HN.out HS.out HTS.out (HF.out.ext HE0.out) HK1.out).mono ?_
      rintro e w1 ⟨rfl, hx1⟩
      have r0 : w1.cell? ⟨w.heap.size + 1, 0, none⟩ = some (.slice ta tn tc) := (HBR.out.ext hx1).cell rfl
      have r1 : w1.cell? ⟨w.heap.size + 1, 1, none⟩ = some (.int .i64 vol) := (HBR.out.ext hx1).cell rfl
      have r2 : w1.cell? ⟨w.heap.size + 1, 2, none⟩ = some (.slice pa pn pc) := (HBR.out.ext hx1).cell rfl
      go_wp2_with fail
      with_reducible refine (implReachOk_is _ _ _ _ _ _ _ _ ps xs _ HT.out HTL.out HP.out HPL.out (HFT.out.ext (HE0.out.trans hx1)) (HFP.out.ext (HE0.out.trans hx1)) hvol HK2.out).mono ?_
      rintro e w2 ⟨rfl, hx2⟩
      have hx12 := hx1.trans hx2
      have t0 : w2.cell? ⟨w.heap.size + 1 + 1, 0, none⟩ = some (.bool false) := (HBT.out.ext hx12).cell rfl
      have t1 : w2.cell? ⟨w.heap.size + 1 + 1, 1, none⟩ = some (.slice ra rn rc) := (HBT.out.ext hx12).cell rfl
      go_wp2_with fail
      with_reducible refine (implTrainOk_is _ _ _ _ _ rows _ HRN.out HRS.out HRT.out (HFR.out.ext (HE0.out.trans hx12)) HK3.out).mono ?_
      rintro e w3 ⟨rfl, hx3⟩
      have HX := Lib.hid (hx12.trans hx3)
      have l0 : ∀ y : Aft w3, y.1.cell? ⟨w.heap.size, 0, none⟩ = some (.int .i64 x0) := fun y => (HBL.out.ext (HX.out.trans y.2)).cell rfl
      have l1 : ∀ y : Aft w3, y.1.cell? ⟨w.heap.size, 1, none⟩ = some (.int .i64 x1) := fun y => (HBL.out.ext (HX.out.trans y.2)).cell rfl
      have l2 : ∀ y : Aft w3, y.1.cell? ⟨w.heap.size, 2, none⟩ = some (.int .i64 x2) := fun y => (HBL.out.ext (HX.out.trans y.2)).cell rfl
      have l3 : ∀ y : Aft w3, y.1.cell? ⟨w.heap.size, 3, none⟩ = some (.int .i64 x3) := fun y => (HBL.out.ext (HX.out.trans y.2)).cell rfl
      have l4 : ∀ y : Aft w3, y.1.cell? ⟨w.heap.size, 4, none⟩ = some (.int .i64 x4) := fun y => (HBL.out.ext (HX.out.trans y.2)).cell rfl
      have l5 : ∀ y : Aft w3, y.1.cell? ⟨w.heap.size, 5, none⟩ = some (.int .i64 x5) := fun y => (HBL.out.ext (HX.out.trans y.2)).cell rfl
      have l6 : ∀ y : Aft w3, y.1.cell? ⟨w.heap.size, 6, none⟩ = some (.int .i64 x6) := fun y => (HBL.out.ext (HX.out.trans y.2)).cell rfl
      have l7 : ∀ y : Aft w3, y.1.cell? ⟨w.heap.size, 7, none⟩ = some (.int .i64 x7) := fun y => (HBL.out.ext (HX.out.trans y.2)).cell rfl
      have l8 : ∀ y : Aft w3, y.1.cell? ⟨w.heap.size, 8, none⟩ = some (.int .i64 x8) := fun y => (HBL.out.ext (HX.out.trans y.2)).cell rfl
      have l9 : ∀ y : Aft w3, y.1.cell? ⟨w.heap.size, 9, none⟩ = some (.slice a n c) := fun y => (HBL.out.ext (HX.out.trans y.2)).cell rfl
      have r0 : ∀ y : Aft w3, y.1.cell? ⟨w.heap.size + 1, 0, none⟩ = some (.slice ta tn tc) := fun y => (HBR.out.ext (HX.out.trans y.2)).cell rfl
      have r1 : ∀ y : Aft w3, y.1.cell? ⟨w.heap.size + 1, 1, none⟩ = some (.int .i64 vol) := fun y => (HBR.out.ext (HX.out.trans y.2)).cell rfl
      have r2 : ∀ y : Aft w3, y.1.cell? ⟨w.heap.size + 1, 2, none⟩ = some (.slice pa pn pc) := fun y => (HBR.out.ext (HX.out.trans y.2)).cell rfl
      have t0 : ∀ y : Aft w3, y.1.cell? ⟨w.heap.size + 1 + 1, 0, none⟩ = some (.bool false) := fun y => (HBT.out.ext (HX.out.trans y.2)).cell rfl
      have t1 : ∀ y : Aft w3, y.1.cell? ⟨w.heap.size + 1 + 1, 1, none⟩ = some (.slice ra rn rc) := fun y => (HBT.out.ext (HX.out.trans y.2)).cell rfl
      have tt0 : w3.cell? ⟨w.heap.size + 1 + 1, 0, none⟩ = some (.bool false) := (HBT.out.ext HX.out).cell rfl
      clear hx1 hx2 hx12 hx3
      go_wp2_with fail
      clear tt0
      (refine wp_region_aft w3 (Ext.refl _) (by kernel_rfl) (by kernel_rfl) ?_; (repeat (go_big_quiet_step ((first | (go_at_call 12; exact aft_call (implLevel_is lev _ _ _ _ _ _ _ ps xs _ HT.out HTL.out HP.out HPL.out (HFT.out.ext (HE0.out.trans (HX.out.trans (Subtype.property _)))) (HFP.out.ext (HE0.out.trans (HX.out.trans (Subtype.property _)))) hvol HLV.out)) | (go_at_call 44; exact aft_call (sillOf_any _ _ _ _ _ _ _ _ _ 1 x2 _ _ _ _ rfl)) | (go_at_call 18; exact aft_call (implDraught_is dra _ _ _ _ rows _ HRN.out HRS.out HRT.out (HFR.out.ext (HE0.out.trans (HX.out.trans (Subtype.property _)))) HDR.out)))))); refine wpQuiet_nil ?_; intro w2 hx2)
      go_wp2
      go_ret
      exact ⟨ret_bool HRR.out, HE0.out.trans (HX.out.trans hx2)⟩
    · rw [if_neg hg] at hR
      have hg1 : (x8 == 1) = false := by simpa using hg
      have HRR := Lib.hid hR; clear hR
      go_enter Try.func19, Try.ntmps19
      go_wp2_with fail
      with_reducible refine (implLockOk_any true _ _ _ _ _ _ _ _ _ _ _ _ ts _ HN.out HS.out HTS.out (HF.out.ext HE0.out) HK1.out).mono ?_
      rintro e w1 ⟨rfl, hx1⟩
      have r0 : w1.cell? ⟨w.heap.size + 1, 0, none⟩ = some (.slice ta tn tc) := (HBR.out.ext hx1).cell rfl
      have r1 : w1.cell? ⟨w.heap.size + 1, 1, none⟩ = some (.int .i64 vol) := (HBR.out.ext hx1).cell rfl
      have r2 : w1.cell? ⟨w.heap.size + 1, 2, none⟩ = some (.slice pa pn pc) := (HBR.out.ext hx1).cell rfl
      go_wp2_with fail
      with_reducible refine (implReachOk_is _ _ _ _ _ _ _ _ ps xs _ HT.out HTL.out HP.out HPL.out (HFT.out.ext (HE0.out.trans hx1)) (HFP.out.ext (HE0.out.trans hx1)) hvol HK2.out).mono ?_
      rintro e w2 ⟨rfl, hx2⟩
      have hx12 := hx1.trans hx2
      have t0 : w2.cell? ⟨w.heap.size + 1 + 1, 0, none⟩ = some (.bool false) := (HBT.out.ext hx12).cell rfl
      have t1 : w2.cell? ⟨w.heap.size + 1 + 1, 1, none⟩ = some (.slice ra rn rc) := (HBT.out.ext hx12).cell rfl
      go_wp2_with fail
      with_reducible refine (implTrainOk_is _ _ _ _ _ rows _ HRN.out HRS.out HRT.out (HFR.out.ext (HE0.out.trans hx12)) HK3.out).mono ?_
      rintro e w3 ⟨rfl, hx3⟩
      have HX := Lib.hid (hx12.trans hx3)
      have l0 : ∀ y : Aft w3, y.1.cell? ⟨w.heap.size, 0, none⟩ = some (.int .i64 x0) := fun y => (HBL.out.ext (HX.out.trans y.2)).cell rfl
      have l1 : ∀ y : Aft w3, y.1.cell? ⟨w.heap.size, 1, none⟩ = some (.int .i64 x1) := fun y => (HBL.out.ext (HX.out.trans y.2)).cell rfl
      have l2 : ∀ y : Aft w3, y.1.cell? ⟨w.heap.size, 2, none⟩ = some (.int .i64 x2) := fun y => (HBL.out.ext (HX.out.trans y.2)).cell rfl
      have l3 : ∀ y : Aft w3, y.1.cell? ⟨w.heap.size, 3, none⟩ = some (.int .i64 x3) := fun y => (HBL.out.ext (HX.out.trans y.2)).cell rfl
      have l4 : ∀ y : Aft w3, y.1.cell? ⟨w.heap.size, 4, none⟩ = some (.int .i64 x4) := fun y => (HBL.out.ext (HX.out.trans y.2)).cell rfl
      have l5 : ∀ y : Aft w3, y.1.cell? ⟨w.heap.size, 5, none⟩ = some (.int .i64 x5) := fun y => (HBL.out.ext (HX.out.trans y.2)).cell rfl
      have l6 : ∀ y : Aft w3, y.1.cell? ⟨w.heap.size, 6, none⟩ = some (.int .i64 x6) := fun y => (HBL.out.ext (HX.out.trans y.2)).cell rfl
      have l7 : ∀ y : Aft w3, y.1.cell? ⟨w.heap.size, 7, none⟩ = some (.int .i64 x7) := fun y => (HBL.out.ext (HX.out.trans y.2)).cell rfl
      have l8 : ∀ y : Aft w3, y.1.cell? ⟨w.heap.size, 8, none⟩ = some (.int .i64 x8) := fun y => (HBL.out.ext (HX.out.trans y.2)).cell rfl
      have l9 : ∀ y : Aft w3, y.1.cell? ⟨w.heap.size, 9, none⟩ = some (.slice a n c) := fun y => (HBL.out.ext (HX.out.trans y.2)).cell rfl
      have r0 : ∀ y : Aft w3, y.1.cell? ⟨w.heap.size + 1, 0, none⟩ = some (.slice ta tn tc) := fun y => (HBR.out.ext (HX.out.trans y.2)).cell rfl
      have r1 : ∀ y : Aft w3, y.1.cell? ⟨w.heap.size + 1, 1, none⟩ = some (.int .i64 vol) := fun y => (HBR.out.ext (HX.out.trans y.2)).cell rfl
      have r2 : ∀ y : Aft w3, y.1.cell? ⟨w.heap.size + 1, 2, none⟩ = some (.slice pa pn pc) := fun y => (HBR.out.ext (HX.out.trans y.2)).cell rfl
      have t0 : ∀ y : Aft w3, y.1.cell? ⟨w.heap.size + 1 + 1, 0, none⟩ = some (.bool false) := fun y => (HBT.out.ext (HX.out.trans y.2)).cell rfl
      have t1 : ∀ y : Aft w3, y.1.cell? ⟨w.heap.size + 1 + 1, 1, none⟩ = some (.slice ra rn rc) := fun y => (HBT.out.ext (HX.out.trans y.2)).cell rfl
      have tt0 : w3.cell? ⟨w.heap.size + 1 + 1, 0, none⟩ = some (.bool false) := (HBT.out.ext HX.out).cell rfl
      clear hx1 hx2 hx12 hx3
      go_wp2_with fail
      clear tt0
      (refine wp_region_aft w3 (Ext.refl _) (by kernel_rfl) (by kernel_rfl) ?_; (repeat (go_big_quiet_step ((first | (go_at_call 12; exact aft_call (implLevel_is lev _ _ _ _ _ _ _ ps xs _ HT.out HTL.out HP.out HPL.out (HFT.out.ext (HE0.out.trans (HX.out.trans (Subtype.property _)))) (HFP.out.ext (HE0.out.trans (HX.out.trans (Subtype.property _)))) hvol HLV.out)) | (go_at_call 44; exact aft_call (sillOf_any _ _ _ _ _ _ _ _ _ 1 x2 _ _ _ _ rfl)) | (go_at_call 18; exact aft_call (implDraught_is dra _ _ _ _ rows _ HRN.out HRS.out HRT.out (HFR.out.ext (HE0.out.trans (HX.out.trans (Subtype.property _)))) HDR.out)))))); refine wpQuiet_nil ?_; intro w2 hx2)
      go_wp2
      go_ret
      exact ⟨ret_bool HRR.out, HE0.out.trans (HX.out.trans hx2)⟩
  · by_cases hg : x8 = 2
    · rw [if_pos hg] at hR
      have hg1 : (x8 == 2) = true := by simpa using hg
      have HG := Lib.hid hg; clear hg
      have HRR := Lib.hid hR; clear hR
      go_enter Try.func19, Try.ntmps19
      go_wp2_with fail
      with_reducible refine (implLockOk_any true _ _ _ _ _ _ _ _ _ _ _ _ ts _ HN.out HS.out HTS.out (HF.out.ext HE0.out) HK1.out).mono ?_
      rintro e w1 ⟨rfl, hx1⟩
      have r0 : w1.cell? ⟨w.heap.size + 1, 0, none⟩ = some (.slice ta tn tc) := (HBR.out.ext hx1).cell rfl
      have r1 : w1.cell? ⟨w.heap.size + 1, 1, none⟩ = some (.int .i64 vol) := (HBR.out.ext hx1).cell rfl
      have r2 : w1.cell? ⟨w.heap.size + 1, 2, none⟩ = some (.slice pa pn pc) := (HBR.out.ext hx1).cell rfl
      go_wp2_with fail
      with_reducible refine (implReachOk_is _ _ _ _ _ _ _ _ ps xs _ HT.out HTL.out HP.out HPL.out (HFT.out.ext (HE0.out.trans hx1)) (HFP.out.ext (HE0.out.trans hx1)) hvol HK2.out).mono ?_
      rintro e w2 ⟨rfl, hx2⟩
      have hx12 := hx1.trans hx2
      have t0 : w2.cell? ⟨w.heap.size + 1 + 1, 0, none⟩ = some (.bool true) := (HBT.out.ext hx12).cell rfl
      have t1 : w2.cell? ⟨w.heap.size + 1 + 1, 1, none⟩ = some (.slice ra rn rc) := (HBT.out.ext hx12).cell rfl
      go_wp2_with fail
      with_reducible refine (implTrainOk_is _ _ _ _ _ rows _ HRN.out HRS.out HRT.out (HFR.out.ext (HE0.out.trans hx12)) HK3.out).mono ?_
      rintro e w3 ⟨rfl, hx3⟩
      have HX := Lib.hid (hx12.trans hx3)
      have l0 : ∀ y : Aft w3, y.1.cell? ⟨w.heap.size, 0, none⟩ = some (.int .i64 x0) := fun y => (HBL.out.ext (HX.out.trans y.2)).cell rfl
      have l1 : ∀ y : Aft w3, y.1.cell? ⟨w.heap.size, 1, none⟩ = some (.int .i64 x1) := fun y => (HBL.out.ext (HX.out.trans y.2)).cell rfl
      have l2 : ∀ y : Aft w3, y.1.cell? ⟨w.heap.size, 2, none⟩ = some (.int .i64 x2) := fun y => (HBL.out.ext (HX.out.trans y.2)).cell rfl
      have l3 : ∀ y : Aft w3, y.1.cell? ⟨w.heap.size, 3, none⟩ = some (.int .i64 x3) := fun y => (HBL.out.ext (HX.out.trans y.2)).cell rfl
      have l4 : ∀ y : Aft w3, y.1.cell? ⟨w.heap.size, 4, none⟩ = some (.int .i64 x4) := fun y => (HBL.out.ext (HX.out.trans y.2)).cell rfl
      have l5 : ∀ y : Aft w3, y.1.cell? ⟨w.heap.size, 5, none⟩ = some (.int .i64 x5) := fun y => (HBL.out.ext (HX.out.trans y.2)).cell rfl
      have l6 : ∀ y : Aft w3, y.1.cell? ⟨w.heap.size, 6, none⟩ = some (.int .i64 x6) := fun y => (HBL.out.ext (HX.out.trans y.2)).cell rfl
      have l7 : ∀ y : Aft w3, y.1.cell? ⟨w.heap.size, 7, none⟩ = some (.int .i64 x7) := fun y => (HBL.out.ext (HX.out.trans y.2)).cell rfl
      have l8 : ∀ y : Aft w3, y.1.cell? ⟨w.heap.size, 8, none⟩ = some (.int .i64 x8) := fun y => (HBL.out.ext (HX.out.trans y.2)).cell rfl
      have l9 : ∀ y : Aft w3, y.1.cell? ⟨w.heap.size, 9, none⟩ = some (.slice a n c) := fun y => (HBL.out.ext (HX.out.trans y.2)).cell rfl
      have r0 : ∀ y : Aft w3, y.1.cell? ⟨w.heap.size + 1, 0, none⟩ = some (.slice ta tn tc) := fun y => (HBR.out.ext (HX.out.trans y.2)).cell rfl
      have r1 : ∀ y : Aft w3, y.1.cell? ⟨w.heap.size + 1, 1, none⟩ = some (.int .i64 vol) := fun y => (HBR.out.ext (HX.out.trans y.2)).cell rfl
      have r2 : ∀ y : Aft w3, y.1.cell? ⟨w.heap.size + 1, 2, none⟩ = some (.slice pa pn pc) := fun y => (HBR.out.ext (HX.out.trans y.2)).cell rfl
      have t0 : ∀ y : Aft w3, y.1.cell? ⟨w.heap.size + 1 + 1, 0, none⟩ = some (.bool true) := fun y => (HBT.out.ext (HX.out.trans y.2)).cell rfl
      have t1 : ∀ y : Aft w3, y.1.cell? ⟨w.heap.size + 1 + 1, 1, none⟩ = some (.slice ra rn rc) := fun y => (HBT.out.ext (HX.out.trans y.2)).cell rfl
      have tt0 : w3.cell? ⟨w.heap.size + 1 + 1, 0, none⟩ = some (.bool true) := (HBT.out.ext HX.out).cell rfl
      clear hx1 hx2 hx12 hx3
      go_wp2_with fail
      clear tt0
      (refine wp_region_aft w3 (Ext.refl _) (by kernel_rfl) (by kernel_rfl) ?_; (repeat (go_big_quiet_step ((first | (go_at_call 12; exact aft_call (implLevel_is lev _ _ _ _ _ _ _ ps xs _ HT.out HTL.out HP.out HPL.out (HFT.out.ext (HE0.out.trans (HX.out.trans (Subtype.property _)))) (HFP.out.ext (HE0.out.trans (HX.out.trans (Subtype.property _)))) hvol HLV.out)) | (go_at_call 44; exact aft_call (sillOf_any _ _ _ _ _ _ _ _ _ 2 x3 _ _ _ _ rfl)) | (go_at_call 18; exact aft_call (implDraught_is dra _ _ _ _ rows _ HRN.out HRS.out HRT.out (HFR.out.ext (HE0.out.trans (HX.out.trans (Subtype.property _)))) HDR.out)))))); refine wpQuiet_nil ?_; intro w2 hx2)
      go_wp2
      go_ret
      exact ⟨ret_bool HRR.out, HE0.out.trans (HX.out.trans hx2)⟩
    · rw [if_neg hg] at hR
      have hg1 : (x8 == 2) = false := by simpa using hg
      have HRR := Lib.hid hR; clear hR
      go_enter Try.func19, Try.ntmps19
      go_wp2_with fail
      with_reducible refine (implLockOk_any true _ _ _ _ _ _ _ _ _ _ _ _ ts _ HN.out HS.out HTS.out (HF.out.ext HE0.out) HK1.out).mono ?_
      rintro e w1 ⟨rfl, hx1⟩
      have r0 : w1.cell? ⟨w.heap.size + 1, 0, none⟩ = some (.slice ta tn tc) := (HBR.out.ext hx1).cell rfl
      have r1 : w1.cell? ⟨w.heap.size + 1, 1, none⟩ = some (.int .i64 vol) := (HBR.out.ext hx1).cell rfl
      have r2 : w1.cell? ⟨w.heap.size + 1, 2, none⟩ = some (.slice pa pn pc) := (HBR.out.ext hx1).cell rfl
      go_wp2_with fail
      with_reducible refine (implReachOk_is _ _ _ _ _ _ _ _ ps xs _ HT.out HTL.out HP.out HPL.out (HFT.out.ext (HE0.out.trans hx1)) (HFP.out.ext (HE0.out.trans hx1)) hvol HK2.out).mono ?_
      rintro e w2 ⟨rfl, hx2⟩
      have hx12 := hx1.trans hx2
      have t0 : w2.cell? ⟨w.heap.size + 1 + 1, 0, none⟩ = some (.bool true) := (HBT.out.ext hx12).cell rfl
      have t1 : w2.cell? ⟨w.heap.size + 1 + 1, 1, none⟩ = some (.slice ra rn rc) := (HBT.out.ext hx12).cell rfl
      go_wp2_with fail
      with_reducible refine (implTrainOk_is _ _ _ _ _ rows _ HRN.out HRS.out HRT.out (HFR.out.ext (HE0.out.trans hx12)) HK3.out).mono ?_
      rintro e w3 ⟨rfl, hx3⟩
      have HX := Lib.hid (hx12.trans hx3)
      have l0 : ∀ y : Aft w3, y.1.cell? ⟨w.heap.size, 0, none⟩ = some (.int .i64 x0) := fun y => (HBL.out.ext (HX.out.trans y.2)).cell rfl
      have l1 : ∀ y : Aft w3, y.1.cell? ⟨w.heap.size, 1, none⟩ = some (.int .i64 x1) := fun y => (HBL.out.ext (HX.out.trans y.2)).cell rfl
      have l2 : ∀ y : Aft w3, y.1.cell? ⟨w.heap.size, 2, none⟩ = some (.int .i64 x2) := fun y => (HBL.out.ext (HX.out.trans y.2)).cell rfl
      have l3 : ∀ y : Aft w3, y.1.cell? ⟨w.heap.size, 3, none⟩ = some (.int .i64 x3) := fun y => (HBL.out.ext (HX.out.trans y.2)).cell rfl
      have l4 : ∀ y : Aft w3, y.1.cell? ⟨w.heap.size, 4, none⟩ = some (.int .i64 x4) := fun y => (HBL.out.ext (HX.out.trans y.2)).cell rfl
      have l5 : ∀ y : Aft w3, y.1.cell? ⟨w.heap.size, 5, none⟩ = some (.int .i64 x5) := fun y => (HBL.out.ext (HX.out.trans y.2)).cell rfl
      have l6 : ∀ y : Aft w3, y.1.cell? ⟨w.heap.size, 6, none⟩ = some (.int .i64 x6) := fun y => (HBL.out.ext (HX.out.trans y.2)).cell rfl
      have l7 : ∀ y : Aft w3, y.1.cell? ⟨w.heap.size, 7, none⟩ = some (.int .i64 x7) := fun y => (HBL.out.ext (HX.out.trans y.2)).cell rfl
      have l8 : ∀ y : Aft w3, y.1.cell? ⟨w.heap.size, 8, none⟩ = some (.int .i64 x8) := fun y => (HBL.out.ext (HX.out.trans y.2)).cell rfl
      have l9 : ∀ y : Aft w3, y.1.cell? ⟨w.heap.size, 9, none⟩ = some (.slice a n c) := fun y => (HBL.out.ext (HX.out.trans y.2)).cell rfl
      have r0 : ∀ y : Aft w3, y.1.cell? ⟨w.heap.size + 1, 0, none⟩ = some (.slice ta tn tc) := fun y => (HBR.out.ext (HX.out.trans y.2)).cell rfl
      have r1 : ∀ y : Aft w3, y.1.cell? ⟨w.heap.size + 1, 1, none⟩ = some (.int .i64 vol) := fun y => (HBR.out.ext (HX.out.trans y.2)).cell rfl
      have r2 : ∀ y : Aft w3, y.1.cell? ⟨w.heap.size + 1, 2, none⟩ = some (.slice pa pn pc) := fun y => (HBR.out.ext (HX.out.trans y.2)).cell rfl
      have t0 : ∀ y : Aft w3, y.1.cell? ⟨w.heap.size + 1 + 1, 0, none⟩ = some (.bool true) := fun y => (HBT.out.ext (HX.out.trans y.2)).cell rfl
      have t1 : ∀ y : Aft w3, y.1.cell? ⟨w.heap.size + 1 + 1, 1, none⟩ = some (.slice ra rn rc) := fun y => (HBT.out.ext (HX.out.trans y.2)).cell rfl
      have tt0 : w3.cell? ⟨w.heap.size + 1 + 1, 0, none⟩ = some (.bool true) := (HBT.out.ext HX.out).cell rfl
      clear hx1 hx2 hx12 hx3
      go_wp2_with fail
      clear tt0
      (refine wp_region_aft w3 (Ext.refl _) (by kernel_rfl) (by kernel_rfl) ?_; (repeat (go_big_quiet_step ((first | (go_at_call 12; exact aft_call (implLevel_is lev _ _ _ _ _ _ _ ps xs _ HT.out HTL.out HP.out HPL.out (HFT.out.ext (HE0.out.trans (HX.out.trans (Subtype.property _)))) (HFP.out.ext (HE0.out.trans (HX.out.trans (Subtype.property _)))) hvol HLV.out)) | (go_at_call 44; exact aft_call (sillOf_any _ _ _ _ _ _ _ _ _ 2 x3 _ _ _ _ rfl)) | (go_at_call 18; exact aft_call (implDraught_is dra _ _ _ _ rows _ HRN.out HRS.out HRT.out (HFR.out.ext (HE0.out.trans (HX.out.trans (Subtype.property _)))) HDR.out)))))); refine wpQuiet_nil ?_; intro w2 hx2)
      go_wp2
      go_ret
      exact ⟨ret_bool HRR.out, HE0.out.trans (HX.out.trans hx2)⟩


end Go.Proofs.Ytmppoflgbmabpaa
/- ChamberLevel on both sides. -/
namespace Go.Proofs.Ytmppoflgbmabpaa
open Go.RowKit
set_option linter.unusedSimpArgs false
set_option linter.unusedVariables false

def chamber (x0 x1 x2 x3 x4 x5 x6 x7 x8 : Int) (ts : List Tn) : Int := if lockOk x0 x1 x2 x3 x4 x5 x6 x7 x8 ts then min (x4 + Int.tdiv x7 x5) 100000 else 0
theorem lockOk_bounds {x0 x1 x2 x3 x4 x5 x6 x7 x8 : Int} {ts : List Tn} (h : lockOk x0 x1 x2 x3 x4 x5 x6 x7 x8 ts = true) : (0 ≤ x4 ∧ x4 ≤ 100000) ∧ (1 ≤ x5 ∧ x5 ≤ 10000) ∧ (0 ≤ x7 ∧ x7 ≤ 1000000000) := by
  unfold lockOk at h
  simp only [Bool.and_eq_true] at h
  obtain ⟨⟨⟨⟨⟨⟨⟨⟨⟨h0, h1⟩, h2⟩, h3⟩, h4⟩, h5⟩, h6⟩, h7⟩, h8⟩, _⟩ := h
  exact ⟨inR_true h4, inR_true h5, inR_true h7⟩
theorem tdiv_bounds {a b : Int} (h0 : 0 ≤ a) (h1 : a ≤ 1000000000) (h2 : 1 ≤ b) : 0 ≤ Int.tdiv a b ∧ Int.tdiv a b ≤ 1000000000 := by
  rw [Int.tdiv_eq_ediv_of_nonneg h0]
  have k1 : 0 ≤ a / b := Int.ediv_nonneg h0 (by omega)
  have k2 : a / b ≤ a := Int.ediv_le_self b h0
  omega

set_option maxHeartbeats 2000000 in
theorem implChamber_any (R : Int) (x0 x1 x2 x3 x4 x5 x6 x7 x8 : Int) (a : Option Addr) (n c : Nat) (ts : List Tn) (w : World) (hn : n = ts.length) (hs : n ≤ 1048576) (hts : ∀ t ∈ ts, SmallT t) (hf : TrainsAt w a ts) (hR : chamber x0 x1 x2 x3 x4 x5 x6 x7 x8 ts = R) :
    Calls Try.prog 11 #[.agg #[.int .i64 x0, .int .i64 x1, .int .i64 x2, .int .i64 x3, .int .i64 x4, .int .i64 x5, .int .i64 x6, .int .i64 x7, .int .i64 x8, .slice a n c]] w fun e w' => e = .returned (.int .i64 R) ∧ Ext w w' := by
  have HF := Lib.hid hf; clear hf
  have HN := Lib.hid hn; clear hn
  have HS := Lib.hid hs; clear hs
  have HT := Lib.hid hts; clear hts
  obtain ⟨k, hk⟩ : ∃ k, lockOk x0 x1 x2 x3 x4 x5 x6 x7 x8 ts = k := ⟨_, rfl⟩
  unfold chamber at hR
  rw [hk] at hR
  have HK := Lib.hid hk
  cases k
  · have HR := Lib.hid (show (0 : Int) = R from hR)
    clear hR hk
    go_enter Try.func11, Try.ntmps11
    go_wp2_with fail
    (with_reducible refine (implLockOk_any false _ _ _ _ _ _ _ _ _ _ _ _ ts _ HN.out HS.out HT.out (HF.out.ext (by (repeat' (first | (with_reducible exact Ext.refl _) | (with_reducible assumption) | (with_reducible refine Ext.alloc ?_ _) | (with_reducible refine Ext.drewN ?_ _) | (with_reducible refine Ext.drew ?_) | (with_reducible refine Ext.setCell ?_ ?_ _) | (with_reducible exact Nat.le_refl _) | (with_reducible exact Nat.le_succ _) | (with_reducible refine Ext.trans ?_ (by assumption)) | (simp; done) | (simp; omega))))) HK.out).mono ?_); rintro e w1 ⟨rfl, hb1⟩
    have x0_1 := hb1
    obtain ⟨hc0_1, hf0_1⟩ := bcell x0_1.below
    have z0_1_0 : w.heap.size < w1.heap.size := by have h := x0_1.size; simp at h; omega
    go_wp2
    go_ret
    exact ⟨ret_int HR.out, by (repeat' (first | (with_reducible exact Ext.refl _) | (with_reducible assumption) | (with_reducible refine Ext.alloc ?_ _) | (with_reducible refine Ext.drewN ?_ _) | (with_reducible refine Ext.drew ?_) | (with_reducible refine Ext.setCell ?_ ?_ _) | (with_reducible exact Nat.le_refl _) | (with_reducible exact Nat.le_succ _) | (with_reducible refine Ext.trans ?_ (by assumption)) | (simp; done) | (simp; omega)))⟩
  · have HR := Lib.hid (show min (x4 + Int.tdiv x7 x5) 100000 = R from hR)
    obtain ⟨⟨q1, q2⟩, ⟨q3, q4⟩, q5, q6⟩ := lockOk_bounds hk
    clear hR hk
    obtain ⟨q7, q8⟩ := tdiv_bounds q5 q6 q3
    obtain ⟨d, hd⟩ : ∃ d, Int.tdiv x7 x5 = d := ⟨_, rfl⟩
    rw [hd] at q7 q8
    have HD := Lib.hid hd
    have nz : (x5 == 0) = false := by simp; omega
    have nm : ¬ x5 = 0 := by omega
    have tA := (RowAt.new w 26 #[.int .i64 x0, .int .i64 x1, .int .i64 x2, .int .i64 x3, .int .i64 x4, .int .i64 x5, .int .i64 x6, .int .i64 x7, .int .i64 x8, .slice a n c])
    go_enter Try.func11, Try.ntmps11
    go_wp2_with fail
    (with_reducible refine (implLockOk_any true _ _ _ _ _ _ _ _ _ _ _ _ ts _ HN.out HS.out HT.out (HF.out.ext (by (repeat' (first | (with_reducible exact Ext.refl _) | (with_reducible assumption) | (with_reducible refine Ext.alloc ?_ _) | (with_reducible refine Ext.drewN ?_ _) | (with_reducible refine Ext.drew ?_) | (with_reducible refine Ext.setCell ?_ ?_ _) | (with_reducible exact Nat.le_refl _) | (with_reducible exact Nat.le_succ _) | (with_reducible refine Ext.trans ?_ (by assumption)) | (simp; done) | (simp; omega))))) HK.out).mono ?_); rintro e w1 ⟨rfl, hb1⟩
    have x0_1 := hb1
    obtain ⟨hc0_1, hf0_1⟩ := bcell x0_1.below
    have z0_1_0 : w.heap.size < w1.heap.size := by have h := x0_1.size; simp at h; omega
    have t1 := tA.ext x0_1
    clear tA
    have c4 : ∀ y : Aft w1, y.1.cell? ⟨w.heap.size, 4, none⟩ = some (.int .i64 x4) := fun y => (t1.ext y.2).cell rfl
    have c5 : ∀ y : Aft w1, y.1.cell? ⟨w.heap.size, 5, none⟩ = some (.int .i64 x5) := fun y => (t1.ext y.2).cell rfl
    have c7 : ∀ y : Aft w1, y.1.cell? ⟨w.heap.size, 7, none⟩ = some (.int .i64 x7) := fun y => (t1.ext y.2).cell rfl
    go_wp2_with fail
    try ((refine wp_region_aft w1 (Ext.refl _) (by kernel_rfl) (by kernel_rfl) ?_; (repeat (go_big_quiet_step (fail))); refine wpQuiet_nil ?_; intro w2 hx2))
    have hx := Ext.trans ((Ext.refl w).alloc _) (x0_1.trans hx2)
    have HX := Lib.hid hx
    clear c4 c5 c7
    go_wp2
    all_goals
      go_ret
      exact ⟨ret_int (by have h1 := HR.out; rw [HD.out] at h1; (try split) <;> omega), HX.out⟩

theorem chamber_b (x0 x1 x2 x3 x4 x5 x6 x7 x8 : Int) (ts : List Tn) : 0 ≤ chamber x0 x1 x2 x3 x4 x5 x6 x7 x8 ts ∧ chamber x0 x1 x2 x3 x4 x5 x6 x7 x8 ts ≤ 100000 := by
  unfold chamber
  split
  · rename_i h
    obtain ⟨h1, h2, h3⟩ := lockOk_bounds h
    have := (tdiv_bounds h3.1 h3.2 h2.1).1
    omega
  · omega
end Go.Proofs.Ytmppoflgbmabpaa
/- Reaches in memory of their own; what their sizes tell. -/
namespace Go.Proofs.Ytmppoflgbmabpaa
open Go.RowKit
set_option linter.unusedSimpArgs false
set_option linter.unusedVariables false

theorem szReach_bounds {l : Int} {tn pn : Nat} (h0 : 0 ≤ l) (h1 : l ≤ 1048576) (h : ¬ (if szRow l tn < 0 then -1 else szRow (szRow l tn) pn) < 0) : tn ≤ 1048576 ∧ pn ≤ 1048576 ∧ (if szRow l tn < 0 then -1 else szRow (szRow l tn) pn) ≤ l := by
  split at h
  · omega
  · rename_i h2
    rw [if_neg h2]
    obtain ⟨e, hl⟩ := szRow_val h2
    obtain ⟨e2, hl2⟩ := szRow_val h
    omega
/-- A reach whose points and whose pipe lie in blocks of their own, from lo to hi. -/
def OwnReach (w : World) (lo hi : Nat) (ta : Option Addr) (tn tc : Nat) (pa : Option Addr) (pn pc : Nat) (ps : List Pt) (xs : List Int) : Prop :=
  ∃ mid, (lo ≤ mid ∧ mid ≤ hi) ∧ PtOwn w lo mid (.slice ta tn tc) ps ∧ IntOwn w mid hi (.slice pa pn pc) xs
theorem OwnReach.mk {w : World} {lo mid hi : Nat} {ta : Option Addr} {tn tc : Nat} {pa : Option Addr} {pn pc : Nat} {ps : List Pt} {xs : List Int} (h1 : lo ≤ mid ∧ mid ≤ hi) (h2 : PtOwn w lo mid (.slice ta tn tc) ps) (h3 : IntOwn w mid hi (.slice pa pn pc) xs) : OwnReach w lo hi ta tn tc pa pn pc ps xs := ⟨mid, h1, h2, h3⟩
theorem OwnReach.ext {w w' : World} {lo hi : Nat} {ta : Option Addr} {tn tc : Nat} {pa : Option Addr} {pn pc : Nat} {ps : List Pt} {xs : List Int} (h : OwnReach w lo hi ta tn tc pa pn pc ps xs) (hx : Ext w w') : OwnReach w' lo hi ta tn tc pa pn pc ps xs :=
  let ⟨mid, h1, h2, h3⟩ := h; ⟨mid, h1, h2.ext hx, h3.ext hx⟩
theorem OwnReach.chg {w w' : World} {lo hi lo2 hi2 : Nat} {ta : Option Addr} {tn tc : Nat} {pa : Option Addr} {pn pc : Nat} {ps : List Pt} {xs : List Int} (h : OwnReach w lo hi ta tn tc pa pn pc ps xs) (hc : Chg lo2 hi2 w w') (ho : hi ≤ lo2 ∨ hi2 ≤ lo) : OwnReach w' lo hi ta tn tc pa pn pc ps xs :=
  let ⟨mid, h1, h2, h3⟩ := h; ⟨mid, h1, h2.chg hc (by omega), h3.chg hc (by omega)⟩
theorem OwnReach.pts {w : World} {lo hi : Nat} {ta : Option Addr} {tn tc : Nat} {pa : Option Addr} {pn pc : Nat} {ps : List Pt} {xs : List Int} (h : OwnReach w lo hi ta tn tc pa pn pc ps xs) : FlatAt w ptCells 2 ta ps :=
  let ⟨_, _, h2, _⟩ := h; h2.at
theorem OwnReach.ints {w : World} {lo hi : Nat} {ta : Option Addr} {tn tc : Nat} {pa : Option Addr} {pn pc : Nat} {ps : List Pt} {xs : List Int} (h : OwnReach w lo hi ta tn tc pa pn pc ps xs) : IntsAt w pa xs :=
  let ⟨_, _, _, h3⟩ := h; h3.at
theorem OwnTrains.chg {lo hi lo2 hi2 : Nat} {w w' : World} {a : Option Addr} {ts : List Tn} (h : OwnTrains w lo hi a ts) (hc : Chg lo2 hi2 w w') (ho : hi ≤ lo2 ∨ hi2 ≤ lo) : OwnTrains w' lo hi a ts :=
  h.keep (Nat.le_refl _) (Nat.le_refl _) (fun B t c h1 h2 hr => hr.chg hc (by omega))
end Go.Proofs.Ytmppoflgbmabpaa
/- Copies of reaches: the program's. -/
namespace Go.Proofs.Ytmppoflgbmabpaa
open Go.RowKit
set_option linter.unusedSimpArgs false
set_option linter.unusedVariables false

theorem OwnReach.keep {w w' : World} {lo hi lo' hi' : Nat} {ta : Option Addr} {tn tc : Nat} {pa : Option Addr} {pn pc : Nat} {ps : List Pt} {xs : List Int} (h : OwnReach w lo hi ta tn tc pa pn pc ps xs) (hl : lo' ≤ lo) (hh : hi ≤ hi') (hk : ∀ B t c, lo ≤ B → B < hi → RowAt w B t c → RowAt w' B t c) : OwnReach w' lo' hi' ta tn tc pa pn pc ps xs :=
  let ⟨mid, h1, h2, h3⟩ := h; ⟨mid, ⟨by omega, by omega⟩, h2.keep hl (Nat.le_refl _) (fun B t c g1 g2 hr => hk B t c g1 (by omega) hr), h3.keep (Nat.le_refl _) hh (fun B t c g1 g2 hr => hk B t c (by omega) g2 hr)⟩
theorem ptCells_len (p : Pt) : (ptCells p).length = 2 := rfl
theorem ptFlat_len : ∀ (ps : List Pt), (ps.flatMap ptCells).length = ps.length * 2
  | [] => rfl
  | p :: ps => by rw [List.flatMap_cons, List.length_append, ptFlat_len ps, ptCells_len, List.length_cons]; omega
theorem ptFlat_one (ps : List Pt) : ∀ u ∈ ps.flatMap ptCells, u.oneCell' = true := fun u hu => by
  obtain ⟨p, _, hp⟩ := List.mem_flatMap.1 hu
  simp [ptCells] at hp
  rcases hp with rfl | rfl <;> rfl
theorem PtOwn.of_row {w : World} {base n : Nat} {v : Value} {ps : List Pt} (hn : n = ps.length) (h : w.ownsRow base 37 2 v n (ps.flatMap ptCells)) : PtOwn w base w.heap.size v ps := by
  rcases h.2 with ⟨rfl, h0⟩ | ⟨g, cap, cur, rfl, hb, hheap, hnc, hcm, hcs, htake⟩
  · have : ps = [] := List.eq_nil_of_length_eq_zero (by omega)
    subst this
    exact ⟨none, 0, rfl, .inl rfl⟩
  · have hrow : RowAt w g 37 cur := hheap
    refine ⟨some ⟨g, 0, none⟩, cap, by rw [hn], .inr ⟨g, 0, cur, rfl, hb, hrow.lt, hrow, fun k hk => ?_⟩⟩
    have e0 := flatMap_get ptCells_len ps k 0 hk (by decide)
    have e1 := flatMap_get ptCells_len ps k 1 hk (by decide)
    rw [← htake, List.getElem?_take] at e0 e1
    rw [Nat.zero_add]
    constructor
    · split at e0
      · simpa [ptCells] using e0
      · simp [ptCells] at e0
    · split at e1
      · simpa [ptCells] using e1
      · simp [ptCells] at e1
theorem flatPts_cells {w : World} {a' : Option Addr} {ps : List Pt} (h : FlatAt w ptCells 2 a' ps) : ∀ ad, a' = some ad → ∀ (j : Nat) u, (ps.flatMap ptCells)[j]? = some u → w.cell? (ad.add j) = some u := by
  intro ad e j u hu
  have hj : j < ps.length * 2 := by
    have := (List.getElem?_eq_some_iff.1 hu).1
    rw [ptFlat_len] at this
    exact this
  have hk : j / 2 < ps.length := by omega
  obtain ⟨b, off, e', hc⟩ := h (j / 2) hk
  rw [e] at e'
  cases e'
  rw [add_plain rfl]
  have e0 := flatMap_get ptCells_len ps (j / 2) (j % 2) hk (Nat.mod_lt _ (by decide))
  rw [(by omega : j / 2 * 2 + j % 2 = j), hu] at e0
  have := hc (j % 2) u e0.symm
  rw [Nat.add_assoc, (by omega : j / 2 * 2 + j % 2 = j)] at this
  exact this
theorem pts_none {w : World} {a' : Option Addr} {ps : List Pt} (h : FlatAt w ptCells 2 a' ps) (e : a' = none) : ps = [] := by
  cases ps with
  | nil => rfl
  | cons r rs => obtain ⟨_, _, e', _⟩ := h 0 (by simp); rw [e] at e'; cases e'
theorem ints_none {w : World} {a' : Option Addr} {xs : List Int} (h : IntsAt w a' xs) (e : a' = none) : xs = [] := by
  cases xs with
  | nil => rfl
  | cons r rs => obtain ⟨_, _, e', _⟩ := h 0 (by simp); rw [e] at e'; cases e'

set_option maxHeartbeats 1000000 in
theorem clonePts_any (a : Option Addr) (n c : Nat) (ps : List Pt) (w : World) (hn : n = ps.length) (hs : n ≤ 1048576) (hc : True) (hf : FlatAt w ptCells 2 a ps) :
    Calls Try.prog 27 #[.slice a n c] w fun e w' => ∃ a' c', e = .returned (.slice a' n c') ∧ PtOwn w' w.heap.size w'.heap.size (.slice a' n c') ps ∧ Ext w w' := by
  have qT : ∀ (w : World) (a : Option Addr) (n c n' c' : Nat), (binOp .eql 30 (.slice a n c) (.slice none n' c')).run Try.prog w = .ok (.bool a.isNone) w := fun w a n c n' c' => Lib.run_eql_slice_nil w _ _ a n c n' c' Try.underlying30
  have HF := Lib.hid hf; clear hf
  have HN := Lib.hid hn
  clear hn
  cases a with
  | none =>
    have hr := Lib.hid (pts_none HF.out rfl)
    have hn0 := Lib.hid (show n = 0 by rw [HN.out, hr.out]; rfl)
    go_enter Try.func27, Try.ntmps27
    go_wp2
    go_ret
    exact ⟨none, 0, by (show Ending.returned (Value.slice none 0 0) = _); rw [hn0.out], by rw [hr.out, hn0.out]; exact ⟨none, 0, rfl, .inl rfl⟩, Ext.refl _⟩
  | some ad =>
    have HL := Lib.hid (show (w.alloc (.cells #[] 37)).ownsRow w.heap.size 37 2 (.slice (some ⟨w.heap.size, 0, none⟩) 0 0) 0 [] from by
      have := World.ownsRow_lit (base := w.heap.size) (e := 37) (size := 2) w #[] 0 (by simp) (by unfold maxLen; omega) rfl
      simpa using this)
    have HFC := Lib.hid (flatPts_cells (HF.out.ext ((Ext.refl w).alloc (.cells #[] 37))))
    go_enter Try.func27, Try.ntmps27
    go_wp2_with (at_builtin; refine wpList_plain rfl fun K hK => wp_append_any _ _ _ _ 37 rfl w.heap.size _ 2 16 Try.underlying30 info_point rfl (by decide) (.slice (some ⟨w.heap.size, 0, none⟩) 0 0) 0 [] rfl HL.out (some ad) n c rfl (ps.flatMap ptCells) (fun h => by cases h) (by rw [ptFlat_len, HN.out]) HFC.out (ptFlat_one ps) (by unfold maxLen; omega) (by omega) (by simp) ?_)
    intro v' w5 hown5 hgrow5 _
    have hx5 : Ext w w5 := Ext.own2 ((Ext.refl w).alloc (.cells #[] 37)) hgrow5 HL.out (Nat.le_refl _)
    have HP := Lib.hid (PtOwn.of_row (n := n) HN.out (by simpa using hown5))
    obtain ⟨a9, c9, hv, _⟩ := HP.out
    rw [← HN.out] at hv
    subst hv
    clear hown5 hgrow5
    refine hK _ _ ?_
    clear hK K
    go_wp2
    go_ret
    exact ⟨a9, c9, rfl, HP.out, hx5⟩
theorem iFlat_map : ∀ (xs : List Int), xs.flatMap iCells = xs.map (fun x => Value.int .i64 x)
  | [] => rfl
  | x :: xs => by rw [List.flatMap_cons, List.map_cons, iFlat_map xs]; rfl
theorem flatInts_cells {w : World} {a' : Option Addr} {xs : List Int} (h : IntsAt w a' xs) : ∀ ad, a' = some ad → ∀ (j : Nat) u, (xs.flatMap iCells)[j]? = some u → w.cell? (ad.add j) = some u := by
  intro ad e j u hu
  rw [iFlat_map, List.getElem?_map] at hu
  cases hx : xs[j]? with
  | none => rw [hx] at hu; cases hu
  | some x =>
    rw [hx] at hu
    cases hu
    obtain ⟨hj, hx'⟩ := List.getElem?_eq_some_iff.1 hx
    obtain ⟨b, off, e', hc⟩ := h j hj
    rw [e] at e'
    cases e'
    rw [add_plain rfl, ← hx']
    exact hc

set_option maxHeartbeats 1000000 in
theorem cloneInts_any (a : Option Addr) (n c : Nat) (xs : List Int) (w : World) (hn : n = xs.length) (hs : n ≤ 1048576) (hc : True) (hf : IntsAt w a xs) :
    Calls Try.prog 52 #[.slice a n c] w fun e w' => ∃ a' c', e = .returned (.slice a' n c') ∧ IntOwn w' w.heap.size w'.heap.size (.slice a' n c') xs ∧ Ext w w' := by
  have qT : ∀ (w : World) (a : Option Addr) (n c n' c' : Nat), (binOp .eql 31 (.slice a n c) (.slice none n' c')).run Try.prog w = .ok (.bool a.isNone) w := fun w a n c n' c' => Lib.run_eql_slice_nil w _ _ a n c n' c' Try.underlying31
  have HF := Lib.hid hf; clear hf
  have HN := Lib.hid hn
  clear hn
  cases a with
  | none =>
    have hr := Lib.hid (ints_none HF.out rfl)
    have hn0 := Lib.hid (show n = 0 by rw [HN.out, hr.out]; rfl)
    go_enter Try.func52, Try.ntmps52
    go_wp2
    go_ret
    exact ⟨none, 0, by (show Ending.returned (Value.slice none 0 0) = _); rw [hn0.out], by rw [hr.out, hn0.out]; exact ⟨none, 0, rfl, .inl rfl⟩, Ext.refl _⟩
  | some ad =>
    have HL := Lib.hid (show (w.alloc (.cells #[] 3)).ownsRow w.heap.size 3 1 (.slice (some ⟨w.heap.size, 0, none⟩) 0 0) 0 [] from by
      have := World.ownsRow_lit (base := w.heap.size) (e := 3) (size := 1) w #[] 0 (by simp) (by unfold maxLen; omega) rfl
      simpa using this)
    have HFC := Lib.hid (flatInts_cells (HF.out.ext ((Ext.refl w).alloc (.cells #[] 3))))
    have HFL := Lib.hid (show (xs.flatMap iCells).length = n * 1 by rw [iFlat_map, List.length_map, HN.out, Nat.mul_one])
    have HFO := Lib.hid (show ∀ u ∈ xs.flatMap iCells, u.oneCell' = true from fun u hu => by
      rw [iFlat_map] at hu
      obtain ⟨x, _, rfl⟩ := List.mem_map.1 hu
      rfl)
    go_enter Try.func52, Try.ntmps52
    go_wp2_with (at_builtin; refine wpList_plain rfl fun K hK => wp_append_any _ _ _ _ 3 rfl w.heap.size _ 1 8 Try.underlying31 info_int2 rfl (by decide) (.slice (some ⟨w.heap.size, 0, none⟩) 0 0) 0 [] rfl HL.out (some ad) n c rfl (xs.flatMap iCells) (fun h => by cases h) HFL.out HFC.out HFO.out (by unfold maxLen; omega) (by omega) (by simp) ?_)
    intro v' w5 hown5 hgrow5 _
    have hx5 : Ext w w5 := Ext.own2 ((Ext.refl w).alloc (.cells #[] 3)) hgrow5 HL.out (Nat.le_refl _)
    have HP := Lib.hid (OwnInts.own (show OwnInts w5 w.heap.size v' xs from by unfold OwnInts; rw [← HN.out]; simpa using hown5))
    obtain ⟨a9, c9, hv, _⟩ := HP.out
    rw [← HN.out] at hv
    subst hv
    clear hown5 hgrow5
    refine hK _ _ ?_
    clear hK K
    go_wp2
    go_ret
    exact ⟨a9, c9, rfl, HP.out, hx5⟩

set_option maxRecDepth 100000 in
set_option maxHeartbeats 1000000 in
theorem copyReach_any (ta pa : Option Addr) (tn tc pn pc : Nat) (vol : Int) (ps : List Pt) (xs : List Int) (w : World) (ht : tn = ps.length) (hts : tn ≤ 1048576) (hp : pn = xs.length) (hps : pn ≤ 1048576) (hft : FlatAt w ptCells 2 ta ps) (hfp : IntsAt w pa xs) (hct : True) (hcp : True) :
    Calls Try.prog 31 #[.agg #[.slice ta tn tc, .int .i64 vol, .slice pa pn pc]] w fun e w' => ∃ a1 c1 a2 c2, e = .returned (.agg #[.slice a1 tn c1, .int .i64 vol, .slice a2 pn c2]) ∧ OwnReach w' w.heap.size w'.heap.size a1 tn c1 a2 pn c2 ps xs ∧ Ext w w' := by
  have HFT := Lib.hid hft; clear hft
  have HFP := Lib.hid hfp; clear hfp
  have HT := Lib.hid ht; clear ht
  have HP := Lib.hid hp; clear hp
  have HCT := Lib.hid hct; clear hct
  have HCP := Lib.hid hcp; clear hcp
  have R0 := (RowAt.new w 33 #[.slice ta tn tc, .int .i64 vol, .slice pa pn pc]).ext ((Ext.refl _).alloc (.cells #[.slice none 0 0, .int .i64 0, .slice none 0 0] 33))
  have R1 := RowAt.new (w.alloc (.cells #[.slice ta tn tc, .int .i64 vol, .slice pa pn pc] 33)) 33 #[.slice none 0 0, .int .i64 0, .slice none 0 0]
  rw [World.size_alloc] at R1
  have HE0 := Lib.hid (((Ext.refl w).alloc (.cells #[.slice ta tn tc, .int .i64 vol, .slice pa pn pc] 33)).alloc (.cells #[.slice none 0 0, .int .i64 0, .slice none 0 0] 33))
  have HR0 := Lib.hid R0
  have HR1 := Lib.hid R1
  go_enter Try.func31, Try.ntmps31
  go_wp2_with fail
  obtain ⟨W, hW⟩ : ∃ x, x = ((w.alloc (.cells #[.slice ta tn tc, .int .i64 vol, .slice pa pn pc] 33)).alloc (.cells #[.slice none 0 0, .int .i64 0, .slice none 0 0] 33)) := ⟨_, rfl⟩
  have hWs : w.heap.size + 1 + 1 ≤ W.heap.size := by rw [hW]; simp
  rw [← hW] at HR0 HR1 HE0
  (try rw [← hW])
  clear hW R0 R1
  have c0 : W.cell? ⟨w.heap.size, 0, none⟩ = some (.slice ta tn tc) := HR0.out.cell rfl
  have HSK := Lib.hid (fun (w' : World) (h : Ext W w') => (⟨(HR0.out.ext h).cell rfl, (HR0.out.ext h).cell rfl, (HR0.out.ext h).cell rfl⟩ : w'.cell? ⟨w.heap.size, 0, none⟩ = some (.slice ta tn tc) ∧ w'.cell? ⟨w.heap.size, 1, none⟩ = some (.int .i64 vol) ∧ w'.cell? ⟨w.heap.size, 2, none⟩ = some (.slice pa pn pc)))
  refine wp_region_held_drew (S := (fun w' => w'.cell? ⟨w.heap.size, 0, none⟩ = some (.slice ta tn tc) ∧ w'.cell? ⟨w.heap.size, 1, none⟩ = some (.int .i64 vol) ∧ w'.cell? ⟨w.heap.size, 2, none⟩ = some (.slice pa pn pc))) (by kernel_rfl) ?_ (fun hH0 => ?_)
  · (try dsimp only)
    (first | exact HZZ.out | (refine HSK.out _ ?_; (repeat' (first | (with_reducible assumption) | (with_reducible exact Ext.refl _) | (with_reducible refine Ext.alloc ?_ _) | (with_reducible refine Ext.drew ?_) | (with_reducible refine Ext.setCell ?_ ?_ _) | (simp; done) | (simp; omega)))))
  refine take_l 0 (v := ?_) rfl (by kernel_rfl) (by kernel_rfl) (by kernel_rfl) (fun _ _ _ h => h) (by rfl) ?_ (by assumption) ?_
  rotate_left
  · (intro w hSw; (try dsimp only at hSw); go_simp; (try with_reducible rfl))
  (try simp only [Act.put, List.setIfInBounds_toArray, List.set_cons_zero, List.set_cons_succ])
  refine take_l 1 (v := ?_) rfl (by kernel_rfl) (by kernel_rfl) (by kernel_rfl) (fun _ _ _ h => h) (by rfl) ?_ (by assumption) ?_
  rotate_left
  · (intro w hSw; (try dsimp only at hSw); go_simp; (try with_reducible rfl))
  (try simp only [Act.put, List.setIfInBounds_toArray, List.set_cons_zero, List.set_cons_succ])
  refine take_l 3 (v := ?_) rfl (by kernel_rfl) (by kernel_rfl) (by kernel_rfl) (fun _ _ _ h => h) (by rfl) ?_ (by assumption) ?_
  rotate_left
  · (intro w hSw; (try dsimp only at hSw); go_simp; (try with_reducible rfl))
  (try simp only [Act.put, List.setIfInBounds_toArray, List.set_cons_zero, List.set_cons_succ])
  refine take_l 4 (v := ?_) rfl (by kernel_rfl) (by kernel_rfl) (by kernel_rfl) (fun _ _ _ h => h) (by rfl) ?_ (by assumption) ?_
  rotate_left
  · (intro w hSw; (try dsimp only at hSw); go_simp; (try with_reducible rfl))
  (try simp only [Act.put, List.setIfInBounds_toArray, List.set_cons_zero, List.set_cons_succ])
  refine take_l 5 (v := ?_) rfl (by kernel_rfl) (by kernel_rfl) (by kernel_rfl) (fun _ _ _ h => h) (by rfl) ?_ (by assumption) ?_
  rotate_left
  · (intro w hSw; (try dsimp only at hSw); go_simp; (try with_reducible rfl))
  (try simp only [Act.put, List.setIfInBounds_toArray, List.set_cons_zero, List.set_cons_succ])
  refine take_l 6 (v := ?_) rfl (by kernel_rfl) (by kernel_rfl) (by kernel_rfl) (fun _ _ _ h => h) (by rfl) ?_ (by assumption) ?_
  rotate_left
  · (intro w hSw; (try dsimp only at hSw); go_simp; (try with_reducible rfl))
  (try simp only [Act.put, List.setIfInBounds_toArray, List.set_cons_zero, List.set_cons_succ])
  refine wpAnyH_ready (rs := [2]) (by kernel_rfl) (by simp) ?_
  refine cons_l (i := 2) rfl (fun K hK => ?_) ?_
  go_simp; (go_at_call 27; with_reducible refine (clonePts_any _ _ _ ps _ HT.out hts HCT.out (HFT.out.ext (HE0.out.trans (by (repeat' (first | (with_reducible assumption) | (with_reducible exact Ext.refl _) | (with_reducible refine Ext.alloc ?_ _) | (with_reducible refine Ext.drew ?_) | (with_reducible refine Ext.setCell ?_ ?_ _) | (simp; done) | (simp; omega))))))).mono ?_); rintro e y1 ⟨a1, c1, rfl, hp1, hb1⟩; have xy1 : Ext W y1 := Ext.trans (by (repeat' (first | (with_reducible assumption) | (with_reducible exact Ext.refl _) | (with_reducible refine Ext.alloc ?_ _) | (with_reducible refine Ext.drew ?_) | (with_reducible refine Ext.setCell ?_ ?_ _) | (simp; done) | (simp; omega)))) hb1; have zy1 := hb1.size; (try simp only [World.size_drew] at zy1 hp1); have HP1 := Lib.hid hp1; clear hp1
  refine hK.out _ _ ?_ (fun hH1 => ?_)
  · (try dsimp only)
    (first | exact HZZ.out | (refine HSK.out _ ?_; (repeat' (first | (with_reducible assumption) | (with_reducible exact Ext.refl _) | (with_reducible refine Ext.alloc ?_ _) | (with_reducible refine Ext.drew ?_) | (with_reducible refine Ext.setCell ?_ ?_ _) | (simp; done) | (simp; omega)))))
  clear hK K hH0
  (try simp only [Act.put, List.setIfInBounds_toArray, List.set_cons_zero, List.set_cons_succ])
  refine wpAnyH_ready (rs := [7]) (by kernel_rfl) (by simp) ?_
  refine cons_l (i := 7) rfl (fun K hK => ?_) ?_
  go_simp; (go_at_call 52; with_reducible refine (cloneInts_any _ _ _ xs _ HP.out hps HCP.out (HFP.out.ext (HE0.out.trans (by (repeat' (first | (with_reducible assumption) | (with_reducible exact Ext.refl _) | (with_reducible refine Ext.alloc ?_ _) | (with_reducible refine Ext.drew ?_) | (with_reducible refine Ext.setCell ?_ ?_ _) | (simp; done) | (simp; omega))))))).mono ?_); rintro e y2 ⟨a2, c2, rfl, hp2, hb2⟩; have xy2 : Ext W y2 := Ext.trans xy1 hb2; have zy2 := hb2.size; have HO := Lib.hid (OwnReach.mk (lo := W.heap.size) (hi := y2.heap.size) ⟨zy1, zy2⟩ (HP1.out.ext hb2) hp2); have YR := Lib.hid (HR1.out.ext xy2); have k0 : y2.cell? ⟨w.heap.size + 1, 0, none⟩ = some (.slice none 0 0) := YR.out.cell rfl; have k1 : y2.cell? ⟨w.heap.size + 1, 1, none⟩ = some (.int .i64 0) := YR.out.cell rfl; have k2 : y2.cell? ⟨w.heap.size + 1, 2, none⟩ = some (.slice none 0 0) := YR.out.cell rfl; have g0 := YR.out.frozen 0; have g1 := YR.out.frozen 1; have g2 := YR.out.frozen 2; have HZZ := Lib.hid (show ((((y2.setCell ⟨w.heap.size + 1, 0, none⟩ (.slice a1 tn c1)).setCell ⟨w.heap.size + 1, 1, none⟩ (.int .i64 vol)).setCell ⟨w.heap.size + 1, 2, none⟩ (.slice a2 pn c2)).cell? ⟨w.heap.size, 0, none⟩ = some (.slice ta tn tc) ∧ (((y2.setCell ⟨w.heap.size + 1, 0, none⟩ (.slice a1 tn c1)).setCell ⟨w.heap.size + 1, 1, none⟩ (.int .i64 vol)).setCell ⟨w.heap.size + 1, 2, none⟩ (.slice a2 pn c2)).cell? ⟨w.heap.size, 1, none⟩ = some (.int .i64 vol) ∧ (((y2.setCell ⟨w.heap.size + 1, 0, none⟩ (.slice a1 tn c1)).setCell ⟨w.heap.size + 1, 1, none⟩ (.int .i64 vol)).setCell ⟨w.heap.size + 1, 2, none⟩ (.slice a2 pn c2)).cell? ⟨w.heap.size, 2, none⟩ = some (.slice pa pn pc)) from by have Q := (((HR0.out.ext xy2).other (p := ⟨w.heap.size + 1, 0, none⟩) (by simp) (.slice a1 tn c1)).other (p := ⟨w.heap.size + 1, 1, none⟩) (by simp) (.int .i64 vol)).other (p := ⟨w.heap.size + 1, 2, none⟩) (by simp) (.slice a2 pn c2); exact ⟨Q.cell rfl, Q.cell rfl, Q.cell rfl⟩); clear hp2 hb1 hb2
  refine hK.out _ _ ?_ (fun hH2 => ?_)
  · (try dsimp only)
    (first | exact HZZ.out | (refine HSK.out _ ?_; (repeat' (first | (with_reducible assumption) | (with_reducible exact Ext.refl _) | (with_reducible refine Ext.alloc ?_ _) | (with_reducible refine Ext.drew ?_) | (with_reducible refine Ext.setCell ?_ ?_ _) | (simp; done) | (simp; omega)))))
  clear hK K hH1
  (try simp only [Act.put, List.setIfInBounds_toArray, List.set_cons_zero, List.set_cons_succ])
  refine take_l 8 (v := ?_) rfl (by kernel_rfl) (by kernel_rfl) (by kernel_rfl) (fun _ _ _ h => h) (by rfl) ?_ (by assumption) ?_
  rotate_left
  · (intro w hSw; (try dsimp only at hSw); go_simp; (try with_reducible rfl))
  (try simp only [Act.put, List.setIfInBounds_toArray, List.set_cons_zero, List.set_cons_succ])
  refine wpAnyH_ready (rs := [9]) (by kernel_rfl) (by simp) ?_
  refine cons_l (i := 9) rfl (fun K hK => ?_) ?_
  go_simp
  refine hK.out _ _ ?_ (fun hH3 => ?_)
  · (try dsimp only)
    (first | exact HZZ.out | (refine HSK.out _ ?_; (repeat' (first | (with_reducible assumption) | (with_reducible exact Ext.refl _) | (with_reducible refine Ext.alloc ?_ _) | (with_reducible refine Ext.drew ?_) | (with_reducible refine Ext.setCell ?_ ?_ _) | (simp; done) | (simp; omega)))))
  clear hK K hH2
  (try simp only [Act.put, List.setIfInBounds_toArray, List.set_cons_zero, List.set_cons_succ])
  refine wpAnyH_done (by kernel_rfl) ?_ _
  rotate_left
  exact AllReadyH.nil
  exact AllReadyH.nil
  exact AllReadyH.nil
  all_goals
    have T1 := ((YR.out.set 0 (.slice a1 tn c1)).set 1 (.int .i64 vol)).set 2 (.slice a2 pn c2)
    have q0 : (((y2.setCell ⟨w.heap.size + 1, 0, none⟩ (.slice a1 tn c1)).setCell ⟨w.heap.size + 1, 1, none⟩ (.int .i64 vol)).setCell ⟨w.heap.size + 1, 2, none⟩ (.slice a2 pn c2)).cell? ⟨w.heap.size + 1, 0, none⟩ = some (.slice a1 tn c1) := T1.cell rfl
    have q1 : (((y2.setCell ⟨w.heap.size + 1, 0, none⟩ (.slice a1 tn c1)).setCell ⟨w.heap.size + 1, 1, none⟩ (.int .i64 vol)).setCell ⟨w.heap.size + 1, 2, none⟩ (.slice a2 pn c2)).cell? ⟨w.heap.size + 1, 1, none⟩ = some (.int .i64 vol) := T1.cell rfl
    have q2 : (((y2.setCell ⟨w.heap.size + 1, 0, none⟩ (.slice a1 tn c1)).setCell ⟨w.heap.size + 1, 1, none⟩ (.int .i64 vol)).setCell ⟨w.heap.size + 1, 2, none⟩ (.slice a2 pn c2)).cell? ⟨w.heap.size + 1, 2, none⟩ = some (.slice a2 pn c2) := T1.cell rfl
    clear T1
    go_wp2
    refine bodyPost_ret (v := .agg #[.slice a1 tn c1, .int .i64 vol, .slice a2 pn c2]) (by simp [results, Try.results31, go_sem, *]) rfl ⟨a1, c1, a2, c2, rfl, ?_, (((HE0.out.trans xy2).setCell (by dsimp only; omega) _).setCell (by dsimp only; omega) _).setCell (by dsimp only; omega) _⟩
    exact HO.out.keep (by omega) (by simp only [size_setCell']; exact Nat.le_refl _) (fun B t c h1 h2 hr => by
      (repeat' (first | (with_reducible assumption) | (with_reducible refine RowAt.other ?_ ?_ _))) <;> dsimp only <;> omega)
end Go.Proofs.Ytmppoflgbmabpaa
