/- What the functions on turns, stretches and boats compute. -/
import Derived.Test.YtpfofheligacfaaProg
import Derived.Test.YtpfofheligacfaaLib
namespace Go.Proofs.Ytpfofheligacfaa
open Go.RowKit

def inR (n lo hi : Int) : Bool := decide (lo ≤ n ∧ n ≤ hi)
theorem inR_true {n lo hi : Int} (h : inR n lo hi = true) : lo ≤ n ∧ n ≤ hi := by simpa [inR] using h
theorem inR_false {n lo hi : Int} (h : inR n lo hi = false) : ¬ (lo ≤ n ∧ n ≤ hi) := by simpa [inR] using h
set_option maxHeartbeats 400000 in
theorem inRange_any (n lo hi : Int) (w : World) :
    Calls Try.prog 48 #[.int .i64 n, .int .i64 lo, .int .i64 hi] w fun e w' => e = .returned (.bool (inR n lo hi)) ∧ w = w' := by
  rcases (by omega : (lo ≤ n ∧ n ≤ hi) ∨ (n < lo) ∨ (lo ≤ n ∧ hi < n)) with ⟨h1, h2⟩ | h1 | ⟨h1, h2⟩
  all_goals
    go_enter Try.func48, Try.ntmps48
    go_wp2
    go_ret
    exact ⟨ret_bool (by simp [inR]; omega), rfl⟩
set_option maxHeartbeats 400000 in
theorem l01In_any (n lo hi : Int) (w : World) :
    Calls Try.prog 47 #[.int .i64 n, .int .i64 lo, .int .i64 hi] w fun e w' => e = .returned (.bool (inR n lo hi)) ∧ w = w' := by
  rcases (by omega : (lo ≤ n ∧ n ≤ hi) ∨ (n < lo) ∨ (lo ≤ n ∧ hi < n)) with ⟨h1, h2⟩ | h1 | ⟨h1, h2⟩
  all_goals
    go_enter Try.func47, Try.ntmps47
    go_wp2
    go_ret
    exact ⟨ret_bool (by simp [inR]; omega), rfl⟩

/-! ### Turns -/
set_option maxHeartbeats 400000 in
theorem toTurn_any (u : Bool) (n : Int) (w : World) :
    Calls Try.prog 16 #[.agg #[.bool u, .int .i64 n]] w fun e w' => e = .returned (.agg #[.bool u, .int .i64 n]) ∧ Ext w w' := by
  go_enter Try.func16, Try.ntmps16
  go_wp2
  exact bodyPost_ret (v := .agg #[.bool u, .int .i64 n]) (by simp [results, Try.results16, go_sem]) rfl ⟨rfl, by (repeat' (first | (with_reducible exact Ext.refl _) | (with_reducible assumption) | (with_reducible refine Ext.alloc ?_ _) | (with_reducible refine Ext.drewN ?_ _) | (with_reducible refine Ext.drew ?_) | (with_reducible refine Ext.setCell ?_ ?_ _) | (with_reducible exact Nat.le_refl _) | (with_reducible exact Nat.le_succ _) | (with_reducible refine Ext.trans ?_ (by assumption)) | (simp; done) | (simp; omega)))⟩
set_option maxHeartbeats 400000 in
theorem implTurnOk_any (u : Bool) (n : Int) (w : World) :
    Calls Try.prog 17 #[.agg #[.bool u, .int .i64 n]] w fun e w' => e = .returned (.bool (inR n 0 1000000)) ∧ Ext w w' := by
  go_enter Try.func17, Try.ntmps17
  go_wp2_with (go_at_call 48; refine (inRange_any _ _ _ _).mono ?_; rintro e w' ⟨rfl, rfl⟩)
  go_ret
  exact ⟨rfl, by (repeat' (first | (with_reducible exact Ext.refl _) | (with_reducible assumption) | (with_reducible refine Ext.alloc ?_ _) | (with_reducible refine Ext.drewN ?_ _) | (with_reducible refine Ext.drew ?_) | (with_reducible refine Ext.setCell ?_ ?_ _) | (with_reducible exact Nat.le_refl _) | (with_reducible exact Nat.le_succ _) | (with_reducible refine Ext.trans ?_ (by assumption)) | (simp; done) | (simp; omega)))⟩
set_option maxHeartbeats 400000 in
theorem specTurnOk_any (u : Bool) (n : Int) (w : World) :
    Calls Try.prog 15 #[.agg #[.bool u, .int .i64 n]] w fun e w' => e = .returned (.bool (inR n 0 1000000)) ∧ Ext w w' := by
  go_enter Try.func15, Try.ntmps15
  go_wp2_with (go_at_call 47; refine (l01In_any _ _ _ _).mono ?_; rintro e w' ⟨rfl, rfl⟩)
  go_ret
  exact ⟨rfl, by (repeat' (first | (with_reducible exact Ext.refl _) | (with_reducible assumption) | (with_reducible refine Ext.alloc ?_ _) | (with_reducible refine Ext.drewN ?_ _) | (with_reducible refine Ext.drew ?_) | (with_reducible refine Ext.setCell ?_ ?_ _) | (with_reducible exact Nat.le_refl _) | (with_reducible exact Nat.le_succ _) | (with_reducible refine Ext.trans ?_ (by assumption)) | (simp; done) | (simp; omega)))⟩
set_option maxHeartbeats 400000 in
theorem eqTurn_same (u : Bool) (n : Int) (w : World) :
    Calls Try.prog 28 #[.agg #[.bool u, .int .i64 n], .agg #[.bool u, .int .i64 n]] w fun e w' => e = .returned (.bool true) ∧ Ext w w' := by
  go_enter Try.func28, Try.ntmps28
  go_wp2
  go_ret
  exact ⟨rfl, by (repeat' (first | (with_reducible exact Ext.refl _) | (with_reducible assumption) | (with_reducible refine Ext.alloc ?_ _) | (with_reducible refine Ext.drewN ?_ _) | (with_reducible refine Ext.drew ?_) | (with_reducible refine Ext.setCell ?_ ?_ _) | (with_reducible exact Nat.le_refl _) | (with_reducible exact Nat.le_succ _) | (with_reducible refine Ext.trans ?_ (by assumption)) | (simp; done) | (simp; omega)))⟩

def noteTurn (u : Bool) (n : Int) (up : Bool) : Bool × Int := if inR n 0 1000000 then (if u = up then (up, min (n + 1) 1000000) else (up, 1)) else (u, n)
set_option maxHeartbeats 1000000 in
theorem implNoteTurn_any (u : Bool) (n : Int) (up : Bool) (w : World) :
    Calls Try.prog 27 #[.agg #[.bool u, .int .i64 n], .bool up] w fun e w' => e = .returned (.agg #[.bool (noteTurn u n up).1, .int .i64 (noteTurn u n up).2]) ∧ Ext w w' := by
  cases ht : inR n 0 1000000
  · go_enter Try.func27, Try.ntmps27
    go_wp2_with (go_at_call 17; refine (implTurnOk_any _ _ _).mono ?_; rintro e w' ⟨rfl, hb⟩; obtain ⟨hc', hf'⟩ := bcell hb.below; have hz' := hb.below.size; simp at hz')
    exact bodyPost_ret (v := .agg #[.bool u, .int .i64 n]) (by simp [results, Try.results27, go_sem, hc']) rfl ⟨by simp [noteTurn, ht], by (repeat' (first | (with_reducible exact Ext.refl _) | (with_reducible assumption) | (with_reducible refine Ext.alloc ?_ _) | (with_reducible refine Ext.drewN ?_ _) | (with_reducible refine Ext.drew ?_) | (with_reducible refine Ext.setCell ?_ ?_ _) | (with_reducible exact Nat.le_refl _) | (with_reducible exact Nat.le_succ _) | (with_reducible refine Ext.trans ?_ (by assumption)) | (simp; done) | (simp; omega)))⟩
  · have hn := inR_true ht
    cases u <;> cases up
    all_goals
      go_enter Try.func27, Try.ntmps27
      go_wp2_with (go_at_call 17; refine (implTurnOk_any _ _ _).mono ?_; rintro e w' ⟨rfl, hb⟩; obtain ⟨hc', hf'⟩ := bcell hb.below; have hz' := hb.below.size; simp at hz')
      all_goals exact bodyPost_ret (by simp [results, Try.results27, go_sem, hc']; rfl) rfl ⟨by simp [noteTurn, ht]; try omega, by (repeat' (first | (with_reducible exact Ext.refl _) | (with_reducible assumption) | (with_reducible refine Ext.alloc ?_ _) | (with_reducible refine Ext.drewN ?_ _) | (with_reducible refine Ext.drew ?_) | (with_reducible refine Ext.setCell ?_ ?_ _) | (with_reducible exact Nat.le_refl _) | (with_reducible exact Nat.le_succ _) | (with_reducible refine Ext.trans ?_ (by assumption)) | (simp; done) | (simp; omega)))⟩
set_option maxHeartbeats 1000000 in
theorem specNoteTurn_any (u : Bool) (n : Int) (up : Bool) (w : World) :
    Calls Try.prog 26 #[.agg #[.bool u, .int .i64 n], .bool up] w fun e w' => e = .returned (.agg #[.bool (noteTurn u n up).1, .int .i64 (noteTurn u n up).2]) ∧ Ext w w' := by
  cases ht : inR n 0 1000000
  · go_enter Try.func26, Try.ntmps26
    go_wp2_with (go_at_call 15; refine (specTurnOk_any _ _ _).mono ?_; rintro e w' ⟨rfl, hb⟩; obtain ⟨hc', hf'⟩ := bcell hb.below; have hz' := hb.below.size; simp at hz')
    exact bodyPost_ret (v := .agg #[.bool u, .int .i64 n]) (by simp [results, Try.results26, go_sem, hc']) rfl ⟨by simp [noteTurn, ht], by (repeat' (first | (with_reducible exact Ext.refl _) | (with_reducible assumption) | (with_reducible refine Ext.alloc ?_ _) | (with_reducible refine Ext.drewN ?_ _) | (with_reducible refine Ext.drew ?_) | (with_reducible refine Ext.setCell ?_ ?_ _) | (with_reducible exact Nat.le_refl _) | (with_reducible exact Nat.le_succ _) | (with_reducible refine Ext.trans ?_ (by assumption)) | (simp; done) | (simp; omega)))⟩
  · have hn := inR_true ht
    cases u <;> cases up
    all_goals
      go_enter Try.func26, Try.ntmps26
      go_wp2_with ((go_at_call 15; refine (specTurnOk_any _ _ _).mono ?_; rintro e w' ⟨rfl, hb⟩; obtain ⟨hc', hf'⟩ := bcell hb.below; have hz' := hb.below.size; simp at hz'); have g0 := hb.cell (a := ⟨w.heap.size, 0, none⟩) (by go_simp; rfl); have g1 := hb.cell (a := ⟨w.heap.size, 1, none⟩) (by go_simp; rfl))
      all_goals exact bodyPost_ret (v := .agg #[.bool (noteTurn _ n _).1, .int .i64 (noteTurn _ n _).2]) (by simp [results, Try.results26, go_sem, hc', noteTurn, ht]; try omega) rfl ⟨rfl, by (repeat' (first | (with_reducible exact Ext.refl _) | (with_reducible assumption) | (with_reducible refine Ext.alloc ?_ _) | (with_reducible refine Ext.drewN ?_ _) | (with_reducible refine Ext.drew ?_) | (with_reducible refine Ext.setCell ?_ ?_ _) | (with_reducible exact Nat.le_refl _) | (with_reducible exact Nat.le_succ _) | (with_reducible refine Ext.trans ?_ (by assumption)) | (simp; done) | (simp; omega)))⟩
end Go.Proofs.Ytpfofheligacfaa
