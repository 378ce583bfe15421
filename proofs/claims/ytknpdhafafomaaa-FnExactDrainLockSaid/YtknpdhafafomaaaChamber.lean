/- ChamberLevel on both sides. -/
import Derived.Test.YtknpdhafafomaaaProg
import Derived.Test.YtknpdhafafomaaaLockOk
namespace Go.Proofs.Ytknpdhafafomaaa
open Go.RowKit
set_option linter.unusedSimpArgs false
set_option linter.unusedVariables false

def chamber (x0 x1 x2 x3 x4 x5 x6 x7 x8 : Int) (ts : List Tn) : Int := if lockOk x0 x1 x2 x3 x4 x5 x6 x7 x8 ts then min (x4 + Int.tdiv x7 x5) 100000 else 0
theorem lockOk_bounds {x0 x1 x2 x3 x4 x5 x6 x7 x8 : Int} {ts : List Tn} (h : lockOk x0 x1 x2 x3 x4 x5 x6 x7 x8 ts = true) : (0 ≤ x4 ∧ x4 ≤ 100000) ∧ (1 ≤ x5 ∧ x5 ≤ 10000) ∧ (0 ≤ x7 ∧ x7 ≤ 1000000000) := by
  unfold lockOk at h
  simp only [Bool.and_eq_true] at h
  obtain ⟨⟨⟨⟨⟨⟨⟨⟨⟨h0, h1⟩, h2⟩, h3⟩, h4⟩, h5⟩, h6⟩, h7⟩, h8⟩, _⟩ := h
  exact ⟨inR_true h4, inR_true h5, inR_true h7⟩
theorem tdiv_bounds {a b : Int} (h0 : 0 ≤ a) (h1 : a ≤ 1000000000) (h2 : 1 ≤ b) : 0 ≤ Int.tdiv a b ∧ Int.tdiv a b ≤ 1000000000 := by
  rw [Int.tdiv_eq_ediv_of_nonneg h0]
  have k1 : 0 ≤ a / b := Int.ediv_nonneg h0 (by omega)
  have k2 : a / b ≤ a := Int.ediv_le_self b h0
  omega

set_option maxHeartbeats 2000000 in
theorem implChamber_any (R : Int) (x0 x1 x2 x3 x4 x5 x6 x7 x8 : Int) (a : Option Addr) (n c : Nat) (ts : List Tn) (w : World) (hn : n = ts.length) (hs : n ≤ 1048576) (hts : ∀ t ∈ ts, SmallT t) (hf : TrainsAt w a ts) (hR : chamber x0 x1 x2 x3 x4 x5 x6 x7 x8 ts = R) :
    Calls Try.prog 21 #[.agg #[.int .i64 x0, .int .i64 x1, .int .i64 x2, .int .i64 x3, .int .i64 x4, .int .i64 x5, .int .i64 x6, .int .i64 x7, .int .i64 x8, .slice a n c]] w fun e w' => e = .returned (.int .i64 R) ∧ Ext w w' := by
  have HF := Lib.hid hf; clear hf
  have HN := Lib.hid hn; clear hn
  have HS := Lib.hid hs; clear hs
  have HT := Lib.hid hts; clear hts
  obtain ⟨k, hk⟩ : ∃ k, lockOk x0 x1 x2 x3 x4 x5 x6 x7 x8 ts = k := ⟨_, rfl⟩
  unfold chamber at hR
  rw [hk] at hR
  have HK := Lib.hid hk
  cases k
  · have HR := Lib.hid (show (0 : Int) = R from hR)
    clear hR hk
    go_enter Try.func21, Try.ntmps21
    go_wp2_with fail
    (with_reducible refine (implLockOk_any false _ _ _ _ _ _ _ _ _ _ _ _ ts _ HN.out HS.out HT.out (HF.out.ext (by (repeat' (first | (with_reducible exact Ext.refl _) | (with_reducible assumption) | (with_reducible refine Ext.alloc ?_ _) | (with_reducible refine Ext.drewN ?_ _) | (with_reducible refine Ext.drew ?_) | (with_reducible refine Ext.setCell ?_ ?_ _) | (with_reducible exact Nat.le_refl _) | (with_reducible exact Nat.le_succ _) | (with_reducible refine Ext.trans ?_ (by assumption)) | (simp; done) | (simp; omega))))) HK.out).mono ?_); rintro e w1 ⟨rfl, hb1⟩
    have x0_1 := hb1
    obtain ⟨hc0_1, hf0_1⟩ := bcell x0_1.below
    have z0_1_0 : w.heap.size < w1.heap.size := by have h := x0_1.size; simp at h; omega
    go_wp2
    go_ret
    exact ⟨ret_int HR.out, by (repeat' (first | (with_reducible exact Ext.refl _) | (with_reducible assumption) | (with_reducible refine Ext.alloc ?_ _) | (with_reducible refine Ext.drewN ?_ _) | (with_reducible refine Ext.drew ?_) | (with_reducible refine Ext.setCell ?_ ?_ _) | (with_reducible exact Nat.le_refl _) | (with_reducible exact Nat.le_succ _) | (with_reducible refine Ext.trans ?_ (by assumption)) | (simp; done) | (simp; omega)))⟩
  · have HR := Lib.hid (show min (x4 + Int.tdiv x7 x5) 100000 = R from hR)
    obtain ⟨⟨q1, q2⟩, ⟨q3, q4⟩, q5, q6⟩ := lockOk_bounds hk
    clear hR hk
    obtain ⟨q7, q8⟩ := tdiv_bounds q5 q6 q3
    obtain ⟨d, hd⟩ : ∃ d, Int.tdiv x7 x5 = d := ⟨_, rfl⟩
    rw [hd] at q7 q8
    have HD := Lib.hid hd
    have nz : (x5 == 0) = false := by simp; omega
    have nm : ¬ x5 = 0 := by omega
    have tA := (RowAt.new w 26 #[.int .i64 x0, .int .i64 x1, .int .i64 x2, .int .i64 x3, .int .i64 x4, .int .i64 x5, .int .i64 x6, .int .i64 x7, .int .i64 x8, .slice a n c])
    go_enter Try.func21, Try.ntmps21
    go_wp2_with fail
    (with_reducible refine (implLockOk_any true _ _ _ _ _ _ _ _ _ _ _ _ ts _ HN.out HS.out HT.out (HF.out.ext (by (repeat' (first | (with_reducible exact Ext.refl _) | (with_reducible assumption) | (with_reducible refine Ext.alloc ?_ _) | (with_reducible refine Ext.drewN ?_ _) | (with_reducible refine Ext.drew ?_) | (with_reducible refine Ext.setCell ?_ ?_ _) | (with_reducible exact Nat.le_refl _) | (with_reducible exact Nat.le_succ _) | (with_reducible refine Ext.trans ?_ (by assumption)) | (simp; done) | (simp; omega))))) HK.out).mono ?_); rintro e w1 ⟨rfl, hb1⟩
    have x0_1 := hb1
    obtain ⟨hc0_1, hf0_1⟩ := bcell x0_1.below
    have z0_1_0 : w.heap.size < w1.heap.size := by have h := x0_1.size; simp at h; omega
    have t1 := tA.ext x0_1
    clear tA
    have c4 : ∀ y : Aft w1, y.1.cell? ⟨w.heap.size, 4, none⟩ = some (.int .i64 x4) := fun y => (t1.ext y.2).cell rfl
    have c5 : ∀ y : Aft w1, y.1.cell? ⟨w.heap.size, 5, none⟩ = some (.int .i64 x5) := fun y => (t1.ext y.2).cell rfl
    have c7 : ∀ y : Aft w1, y.1.cell? ⟨w.heap.size, 7, none⟩ = some (.int .i64 x7) := fun y => (t1.ext y.2).cell rfl
    go_wp2_with fail
    try ((refine wp_region_aft w1 (Ext.refl _) (by kernel_rfl) (by kernel_rfl) ?_; (repeat (go_big_quiet_step (fail))); refine wpQuiet_nil ?_; intro w2 hx2))
    have hx := Ext.trans ((Ext.refl w).alloc _) (x0_1.trans hx2)
    have HX := Lib.hid hx
    clear c4 c5 c7
    go_wp2
    all_goals
      go_ret
      exact ⟨ret_int (by have h1 := HR.out; rw [HD.out] at h1; (try split) <;> omega), HX.out⟩

set_option maxHeartbeats 2000000 in
theorem specChamber_any (R : Int) (x0 x1 x2 x3 x4 x5 x6 x7 x8 : Int) (a : Option Addr) (n c : Nat) (ts : List Tn) (w : World) (hn : n = ts.length) (hs : n ≤ 1048576) (hts : ∀ t ∈ ts, SmallT t) (hf : TrainsAt w a ts) (hR : chamber x0 x1 x2 x3 x4 x5 x6 x7 x8 ts = R) :
    Calls Try.prog 94 #[.agg #[.int .i64 x0, .int .i64 x1, .int .i64 x2, .int .i64 x3, .int .i64 x4, .int .i64 x5, .int .i64 x6, .int .i64 x7, .int .i64 x8, .slice a n c]] w fun e w' => e = .returned (.int .i64 R) ∧ Ext w w' := by
  have HF := Lib.hid hf; clear hf
  have HN := Lib.hid hn; clear hn
  have HS := Lib.hid hs; clear hs
  have HT := Lib.hid hts; clear hts
  obtain ⟨k, hk⟩ : ∃ k, lockOk x0 x1 x2 x3 x4 x5 x6 x7 x8 ts = k := ⟨_, rfl⟩
  unfold chamber at hR
  rw [hk] at hR
  have HK := Lib.hid hk
  cases k
  · have HR := Lib.hid (show (0 : Int) = R from hR)
    clear hR hk
    go_enter Try.func94, Try.ntmps94
    go_wp2_with fail
    (with_reducible refine (specLockOk_any false _ _ _ _ _ _ _ _ _ _ _ _ ts _ HN.out HS.out HT.out (HF.out.ext (by (repeat' (first | (with_reducible exact Ext.refl _) | (with_reducible assumption) | (with_reducible refine Ext.alloc ?_ _) | (with_reducible refine Ext.drewN ?_ _) | (with_reducible refine Ext.drew ?_) | (with_reducible refine Ext.setCell ?_ ?_ _) | (with_reducible exact Nat.le_refl _) | (with_reducible exact Nat.le_succ _) | (with_reducible refine Ext.trans ?_ (by assumption)) | (simp; done) | (simp; omega))))) HK.out).mono ?_); rintro e w1 ⟨rfl, hb1⟩
    have x0_1 := hb1
    obtain ⟨hc0_1, hf0_1⟩ := bcell x0_1.below
    have z0_1_0 : w.heap.size < w1.heap.size := by have h := x0_1.size; simp at h; omega
    go_wp2
    go_ret
    exact ⟨ret_int HR.out, by (repeat' (first | (with_reducible exact Ext.refl _) | (with_reducible assumption) | (with_reducible refine Ext.alloc ?_ _) | (with_reducible refine Ext.drewN ?_ _) | (with_reducible refine Ext.drew ?_) | (with_reducible refine Ext.setCell ?_ ?_ _) | (with_reducible exact Nat.le_refl _) | (with_reducible exact Nat.le_succ _) | (with_reducible refine Ext.trans ?_ (by assumption)) | (simp; done) | (simp; omega)))⟩
  · have HR := Lib.hid (show min (x4 + Int.tdiv x7 x5) 100000 = R from hR)
    obtain ⟨⟨q1, q2⟩, ⟨q3, q4⟩, q5, q6⟩ := lockOk_bounds hk
    clear hR hk
    obtain ⟨q7, q8⟩ := tdiv_bounds q5 q6 q3
    obtain ⟨d, hd⟩ : ∃ d, Int.tdiv x7 x5 = d := ⟨_, rfl⟩
    rw [hd] at q7 q8
    have HD := Lib.hid hd
    have nz : (x5 == 0) = false := by simp; omega
    have nm : ¬ x5 = 0 := by omega
    have tA := (RowAt.new w 26 #[.int .i64 x0, .int .i64 x1, .int .i64 x2, .int .i64 x3, .int .i64 x4, .int .i64 x5, .int .i64 x6, .int .i64 x7, .int .i64 x8, .slice a n c])
    go_enter Try.func94, Try.ntmps94
    go_wp2_with fail
    (with_reducible refine (specLockOk_any true _ _ _ _ _ _ _ _ _ _ _ _ ts _ HN.out HS.out HT.out (HF.out.ext (by (repeat' (first | (with_reducible exact Ext.refl _) | (with_reducible assumption) | (with_reducible refine Ext.alloc ?_ _) | (with_reducible refine Ext.drewN ?_ _) | (with_reducible refine Ext.drew ?_) | (with_reducible refine Ext.setCell ?_ ?_ _) | (with_reducible exact Nat.le_refl _) | (with_reducible exact Nat.le_succ _) | (with_reducible refine Ext.trans ?_ (by assumption)) | (simp; done) | (simp; omega))))) HK.out).mono ?_); rintro e w1 ⟨rfl, hb1⟩
    have x0_1 := hb1
    obtain ⟨hc0_1, hf0_1⟩ := bcell x0_1.below
    have z0_1_0 : w.heap.size < w1.heap.size := by have h := x0_1.size; simp at h; omega
    have t1 := tA.ext x0_1
    clear tA
    have c4 : ∀ y : Aft w1, y.1.cell? ⟨w.heap.size, 4, none⟩ = some (.int .i64 x4) := fun y => (t1.ext y.2).cell rfl
    have c5 : ∀ y : Aft w1, y.1.cell? ⟨w.heap.size, 5, none⟩ = some (.int .i64 x5) := fun y => (t1.ext y.2).cell rfl
    have c7 : ∀ y : Aft w1, y.1.cell? ⟨w.heap.size, 7, none⟩ = some (.int .i64 x7) := fun y => (t1.ext y.2).cell rfl
    go_wp2_with fail
    try ((refine wp_region_aft w1 (Ext.refl _) (by kernel_rfl) (by kernel_rfl) ?_; (repeat (go_big_quiet_step (fail))); refine wpQuiet_nil ?_; intro w2 hx2))
    have hx := Ext.trans ((Ext.refl w).alloc _) (x0_1.trans hx2)
    have HX := Lib.hid hx
    clear c4 c5 c7
    go_wp2
    all_goals
      go_ret
      exact ⟨ret_int (by have h1 := HR.out; rw [HD.out] at h1; (try split) <;> omega), HX.out⟩
theorem chamber_b (x0 x1 x2 x3 x4 x5 x6 x7 x8 : Int) (ts : List Tn) : 0 ≤ chamber x0 x1 x2 x3 x4 x5 x6 x7 x8 ts ∧ chamber x0 x1 x2 x3 x4 x5 x6 x7 x8 ts ≤ 100000 := by
  unfold chamber
  split
  · rename_i h
    obtain ⟨h1, h2, h3⟩ := lockOk_bounds h
    have := (tdiv_bounds h3.1 h3.2 h2.1).1
    omega
  · omega
end Go.Proofs.Ytknpdhafafomaaa
