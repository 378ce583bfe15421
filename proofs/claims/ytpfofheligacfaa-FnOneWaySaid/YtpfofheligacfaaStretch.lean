/- What the functions on stretches compute. -/
import Derived.Test.YtpfofheligacfaaProg
import Derived.Test.YtpfofheligacfaaLib
import Derived.Test.YtpfofheligacfaaFlat
namespace Go.Proofs.Ytpfofheligacfaa
open Go.RowKit
set_option linter.unusedSimpArgs false

theorem toStretch_any (u : Bool) (i r l : Int) (w : World) :
    Calls Try.prog 19 #[.agg #[.bool u, .int .i64 i, .int .i64 r, .int .i64 l]] w fun e w' => e = .returned (.agg #[.bool u, .int .i64 i, .int .i64 r, .int .i64 l]) ∧ Ext w w' := by
  go_enter Try.func19, Try.ntmps19
  go_wp2
  exact bodyPost_ret (v := .agg #[.bool u, .int .i64 i, .int .i64 r, .int .i64 l]) (by simp [results, Try.results19, go_sem]) rfl ⟨rfl, by (repeat' (first | (with_reducible exact Ext.refl _) | (with_reducible assumption) | (with_reducible refine Ext.alloc ?_ _) | (with_reducible refine Ext.drewN ?_ _) | (with_reducible refine Ext.drew ?_) | (with_reducible refine Ext.setCell ?_ ?_ _) | (with_reducible exact Nat.le_refl _) | (with_reducible exact Nat.le_succ _) | (with_reducible refine Ext.trans ?_ (by assumption)) | (simp; done) | (simp; omega)))⟩
def stretchOk (i r l : Int) : Bool := inR i 0 r && inR r 0 1000000 && inR l 1 100
set_option maxHeartbeats 400000 in
theorem implStretchOk_any (u : Bool) (i r l : Int) (w : World) :
    Calls Try.prog 20 #[.agg #[.bool u, .int .i64 i, .int .i64 r, .int .i64 l]] w fun e w' => e = .returned (.bool (stretchOk i r l)) ∧ Ext w w' := by
  rcases (by cases inR i 0 r <;> cases inR r 0 1000000 <;> simp : inR i 0 r = false ∨ (inR i 0 r = true ∧ inR r 0 1000000 = false) ∨ (inR i 0 r = true ∧ inR r 0 1000000 = true)) with c1 | ⟨c1, c2⟩ | ⟨c1, c2⟩
  all_goals
    go_enter Try.func20, Try.ntmps20
    go_wp2_with (go_at_call 48; refine (inRange_any _ _ _ _).mono ?_; rintro e w' ⟨rfl, rfl⟩)
    go_ret
    exact ⟨ret_bool (by simp [stretchOk, *]), by (repeat' (first | (with_reducible exact Ext.refl _) | (with_reducible assumption) | (with_reducible refine Ext.alloc ?_ _) | (with_reducible refine Ext.drewN ?_ _) | (with_reducible refine Ext.drew ?_) | (with_reducible refine Ext.setCell ?_ ?_ _) | (with_reducible exact Nat.le_refl _) | (with_reducible exact Nat.le_succ _) | (with_reducible refine Ext.trans ?_ (by assumption)) | (simp; done) | (simp; omega)))⟩
set_option maxHeartbeats 400000 in
theorem specStretchOk_any (u : Bool) (i r l : Int) (w : World) :
    Calls Try.prog 18 #[.agg #[.bool u, .int .i64 i, .int .i64 r, .int .i64 l]] w fun e w' => e = .returned (.bool (stretchOk i r l)) ∧ Ext w w' := by
  rcases (by cases inR i 0 r <;> cases inR r 0 1000000 <;> simp : inR r 0 1000000 = false ∨ (inR r 0 1000000 = true ∧ inR i 0 r = false) ∨ (inR r 0 1000000 = true ∧ inR i 0 r = true)) with c1 | ⟨c1, c2⟩ | ⟨c1, c2⟩
  all_goals
    go_enter Try.func18, Try.ntmps18
    go_wp2_with (go_at_call 47; refine (l01In_any _ _ _ _).mono ?_; rintro e w' ⟨rfl, rfl⟩)
    go_ret
    exact ⟨ret_bool (by simp [stretchOk, *]), by (repeat' (first | (with_reducible exact Ext.refl _) | (with_reducible assumption) | (with_reducible refine Ext.alloc ?_ _) | (with_reducible refine Ext.drewN ?_ _) | (with_reducible refine Ext.drew ?_) | (with_reducible refine Ext.setCell ?_ ?_ _) | (with_reducible exact Nat.le_refl _) | (with_reducible exact Nat.le_succ _) | (with_reducible refine Ext.trans ?_ (by assumption)) | (simp; done) | (simp; omega)))⟩
def mayPass (u : Bool) (i r l : Int) (up others : Bool) : Bool := stretchOk i r l && (if up = u then (decide (r < l) || !others) else (i == 0))
set_option maxHeartbeats 400000 in
theorem implMayPass_any (u : Bool) (i r l : Int) (up others : Bool) (w : World) :
    Calls Try.prog 25 #[.agg #[.bool u, .int .i64 i, .int .i64 r, .int .i64 l], .bool up, .bool others] w fun e w' => e = .returned (.bool (mayPass u i r l up others)) ∧ Ext w w' := by
  cases ht : stretchOk i r l
  · go_enter Try.func25, Try.ntmps25
    go_wp2_with (go_at_call 20; refine (implStretchOk_any _ _ _ _ _).mono ?_; rintro e w' ⟨rfl, hb⟩; obtain ⟨hc', hf'⟩ := bcell hb.below; have hz' := hb.below.size; simp at hz')
    go_ret
    exact ⟨ret_bool (by simp [mayPass, *]), by (repeat' (first | (with_reducible exact Ext.refl _) | (with_reducible assumption) | (with_reducible refine Ext.alloc ?_ _) | (with_reducible refine Ext.drewN ?_ _) | (with_reducible refine Ext.drew ?_) | (with_reducible refine Ext.setCell ?_ ?_ _) | (with_reducible exact Nat.le_refl _) | (with_reducible exact Nat.le_succ _) | (with_reducible refine Ext.trans ?_ (by assumption)) | (simp; done) | (simp; omega)))⟩
  · cases u <;> cases up
    all_goals by_cases hl : r < l
    all_goals
      go_enter Try.func25, Try.ntmps25
      go_wp2_with ((go_at_call 20; refine (implStretchOk_any _ _ _ _ _).mono ?_; rintro e w' ⟨rfl, hb⟩; obtain ⟨hc', hf'⟩ := bcell hb.below; have hz' := hb.below.size; simp at hz'))
      go_ret
      exact ⟨ret_bool (by simp [mayPass, *]), by (repeat' (first | (with_reducible exact Ext.refl _) | (with_reducible assumption) | (with_reducible refine Ext.alloc ?_ _) | (with_reducible refine Ext.drewN ?_ _) | (with_reducible refine Ext.drew ?_) | (with_reducible refine Ext.setCell ?_ ?_ _) | (with_reducible exact Nat.le_refl _) | (with_reducible exact Nat.le_succ _) | (with_reducible refine Ext.trans ?_ (by assumption)) | (simp; done) | (simp; omega)))⟩
set_option maxHeartbeats 400000 in
theorem specMayPass_any (u : Bool) (i r l : Int) (up others : Bool) (w : World) :
    Calls Try.prog 24 #[.agg #[.bool u, .int .i64 i, .int .i64 r, .int .i64 l], .bool up, .bool others] w fun e w' => e = .returned (.bool (mayPass u i r l up others)) ∧ Ext w w' := by
  cases ht : stretchOk i r l
  · go_enter Try.func24, Try.ntmps24
    go_wp2_with (go_at_call 18; refine (specStretchOk_any _ _ _ _ _).mono ?_; rintro e w' ⟨rfl, hb⟩; obtain ⟨hc', hf'⟩ := bcell hb.below; have hz' := hb.below.size; simp at hz')
    go_ret
    exact ⟨ret_bool (by simp [mayPass, *]), by (repeat' (first | (with_reducible exact Ext.refl _) | (with_reducible assumption) | (with_reducible refine Ext.alloc ?_ _) | (with_reducible refine Ext.drewN ?_ _) | (with_reducible refine Ext.drew ?_) | (with_reducible refine Ext.setCell ?_ ?_ _) | (with_reducible exact Nat.le_refl _) | (with_reducible exact Nat.le_succ _) | (with_reducible refine Ext.trans ?_ (by assumption)) | (simp; done) | (simp; omega)))⟩
  · cases u <;> cases up
    all_goals by_cases hl : r < l
    all_goals
      go_enter Try.func24, Try.ntmps24
      go_wp2_with ((go_at_call 18; refine (specStretchOk_any _ _ _ _ _).mono ?_; rintro e w' ⟨rfl, hb⟩; obtain ⟨hc', hf'⟩ := bcell hb.below; have hz' := hb.below.size; simp at hz'))
      go_ret
      exact ⟨ret_bool (by simp [mayPass, *]), by (repeat' (first | (with_reducible exact Ext.refl _) | (with_reducible assumption) | (with_reducible refine Ext.alloc ?_ _) | (with_reducible refine Ext.drewN ?_ _) | (with_reducible refine Ext.drew ?_) | (with_reducible refine Ext.setCell ?_ ?_ _) | (with_reducible exact Nat.le_refl _) | (with_reducible exact Nat.le_succ _) | (with_reducible refine Ext.trans ?_ (by assumption)) | (simp; done) | (simp; omega)))⟩

def leaveInside (i r l : Int) : Int := if stretchOk i r l && decide (0 < i) then i - 1 else i
set_option maxHeartbeats 400000 in
theorem implLeaveStretch_any (u : Bool) (i r l : Int) (w : World) (hi : i ≤ 9223372036854775807) :
    Calls Try.prog 31 #[.agg #[.bool u, .int .i64 i, .int .i64 r, .int .i64 l]] w fun e w' => e = .returned (.agg #[.bool u, .int .i64 (leaveInside i r l), .int .i64 r, .int .i64 l]) ∧ Ext w w' := by
  cases ht : stretchOk i r l
  · go_enter Try.func31, Try.ntmps31
    go_wp2_with ((go_at_call 20; refine (implStretchOk_any _ _ _ _ _).mono ?_; rintro e w' ⟨rfl, hb⟩; obtain ⟨hc', hf'⟩ := bcell hb.below; have hz' := hb.below.size; simp at hz'); have g1 := hb.cell (a := ⟨w.heap.size, 1, none⟩) (by go_simp; rfl))
    exact bodyPost_ret (v := .agg #[.bool u, .int .i64 (leaveInside i r l), .int .i64 r, .int .i64 l]) (by simp [results, Try.results31, go_sem, hc', leaveInside, *]; try omega) rfl ⟨rfl, by (repeat' (first | (with_reducible exact Ext.refl _) | (with_reducible assumption) | (with_reducible refine Ext.alloc ?_ _) | (with_reducible refine Ext.drewN ?_ _) | (with_reducible refine Ext.drew ?_) | (with_reducible refine Ext.setCell ?_ ?_ _) | (with_reducible exact Nat.le_refl _) | (with_reducible exact Nat.le_succ _) | (with_reducible refine Ext.trans ?_ (by assumption)) | (simp; done) | (simp; omega)))⟩
  · by_cases hl : 0 < i
    all_goals
      go_enter Try.func31, Try.ntmps31
      go_wp2_with ((go_at_call 20; refine (implStretchOk_any _ _ _ _ _).mono ?_; rintro e w' ⟨rfl, hb⟩; obtain ⟨hc', hf'⟩ := bcell hb.below; have hz' := hb.below.size; simp at hz'); have g0 := hb.cell (a := ⟨w.heap.size, 0, none⟩) (by go_simp; rfl); have g1 := hb.cell (a := ⟨w.heap.size, 1, none⟩) (by go_simp; rfl); have g2 := hb.cell (a := ⟨w.heap.size, 2, none⟩) (by go_simp; rfl); have g3 := hb.cell (a := ⟨w.heap.size, 3, none⟩) (by go_simp; rfl))
      exact bodyPost_ret (v := .agg #[.bool u, .int .i64 (leaveInside i r l), .int .i64 r, .int .i64 l]) (by simp [results, Try.results31, go_sem, hc', leaveInside, *]; try omega) rfl ⟨rfl, by (repeat' (first | (with_reducible exact Ext.refl _) | (with_reducible assumption) | (with_reducible refine Ext.alloc ?_ _) | (with_reducible refine Ext.drewN ?_ _) | (with_reducible refine Ext.drew ?_) | (with_reducible refine Ext.setCell ?_ ?_ _) | (with_reducible exact Nat.le_refl _) | (with_reducible exact Nat.le_succ _) | (with_reducible refine Ext.trans ?_ (by assumption)) | (simp; done) | (simp; omega)))⟩
set_option maxHeartbeats 400000 in
theorem specLeaveStretch_any (u : Bool) (i r l : Int) (w : World) (hi : i ≤ 9223372036854775807) :
    Calls Try.prog 34 #[.agg #[.bool u, .int .i64 i, .int .i64 r, .int .i64 l]] w fun e w' => e = .returned (.agg #[.bool u, .int .i64 (leaveInside i r l), .int .i64 r, .int .i64 l]) ∧ Ext w w' := by
  cases ht : stretchOk i r l
  · go_enter Try.func34, Try.ntmps34
    go_wp2_with ((go_at_call 18; refine (specStretchOk_any _ _ _ _ _).mono ?_; rintro e w' ⟨rfl, hb⟩; obtain ⟨hc', hf'⟩ := bcell hb.below; have hz' := hb.below.size; simp at hz'); have g1 := hb.cell (a := ⟨w.heap.size, 1, none⟩) (by go_simp; rfl))
    exact bodyPost_ret (v := .agg #[.bool u, .int .i64 (leaveInside i r l), .int .i64 r, .int .i64 l]) (by simp [results, Try.results34, go_sem, hc', leaveInside, *]; try omega) rfl ⟨rfl, by (repeat' (first | (with_reducible exact Ext.refl _) | (with_reducible assumption) | (with_reducible refine Ext.alloc ?_ _) | (with_reducible refine Ext.drewN ?_ _) | (with_reducible refine Ext.drew ?_) | (with_reducible refine Ext.setCell ?_ ?_ _) | (with_reducible exact Nat.le_refl _) | (with_reducible exact Nat.le_succ _) | (with_reducible refine Ext.trans ?_ (by assumption)) | (simp; done) | (simp; omega)))⟩
  · by_cases hl : 0 < i
    all_goals
      go_enter Try.func34, Try.ntmps34
      go_wp2_with ((go_at_call 18; refine (specStretchOk_any _ _ _ _ _).mono ?_; rintro e w' ⟨rfl, hb⟩; obtain ⟨hc', hf'⟩ := bcell hb.below; have hz' := hb.below.size; simp at hz'); have g0 := hb.cell (a := ⟨w.heap.size, 0, none⟩) (by go_simp; rfl); have g1 := hb.cell (a := ⟨w.heap.size, 1, none⟩) (by go_simp; rfl); have g2 := hb.cell (a := ⟨w.heap.size, 2, none⟩) (by go_simp; rfl); have g3 := hb.cell (a := ⟨w.heap.size, 3, none⟩) (by go_simp; rfl))
      exact bodyPost_ret (v := .agg #[.bool u, .int .i64 (leaveInside i r l), .int .i64 r, .int .i64 l]) (by simp [results, Try.results34, go_sem, hc', leaveInside, *]; try omega) rfl ⟨rfl, by (repeat' (first | (with_reducible exact Ext.refl _) | (with_reducible assumption) | (with_reducible refine Ext.alloc ?_ _) | (with_reducible refine Ext.drewN ?_ _) | (with_reducible refine Ext.drew ?_) | (with_reducible refine Ext.setCell ?_ ?_ _) | (with_reducible exact Nat.le_refl _) | (with_reducible exact Nat.le_succ _) | (with_reducible refine Ext.trans ?_ (by assumption)) | (simp; done) | (simp; omega)))⟩

def enterS (u : Bool) (i r l : Int) (up : Bool) : Bool × Int × Int := if mayPass u i r l up false && !((r == 1000000) && (up == u)) then (up, i + 1, if up == u then r + 1 else 1) else (u, i, r)
theorem mayPass_bounds {u : Bool} {i r l : Int} {up others : Bool} (h : mayPass u i r l up others = true) : 0 ≤ i ∧ i ≤ r ∧ r ≤ 1000000 := by
  simp [mayPass, stretchOk, inR] at h
  omega
set_option maxHeartbeats 1000000 in
theorem implEnterStretch_any (u : Bool) (i r l : Int) (up : Bool) (w : World) :
    Calls Try.prog 32 #[.agg #[.bool u, .int .i64 i, .int .i64 r, .int .i64 l], .bool up] w fun e w' => e = .returned (.agg #[.bool (enterS u i r l up).1, .int .i64 (enterS u i r l up).2.1, .int .i64 (enterS u i r l up).2.2, .int .i64 l]) ∧ Ext w w' := by
  cases ht : mayPass u i r l up false
  · go_enter Try.func32, Try.ntmps32
    go_wp2_with ((go_at_call 25; refine (implMayPass_any _ _ _ _ _ _ _).mono ?_; rintro e w' ⟨rfl, hb⟩; obtain ⟨hc', hf'⟩ := bcell hb.below; have hz' := hb.below.size; simp at hz'))
    exact bodyPost_ret (v := .agg #[.bool (enterS u i r l up).1, .int .i64 (enterS u i r l up).2.1, .int .i64 (enterS u i r l up).2.2, .int .i64 l]) (by simp [results, Try.results32, go_sem, hc', enterS, *]) rfl ⟨rfl, by (repeat' (first | (with_reducible exact Ext.refl _) | (with_reducible assumption) | (with_reducible refine Ext.alloc ?_ _) | (with_reducible refine Ext.drewN ?_ _) | (with_reducible refine Ext.drew ?_) | (with_reducible refine Ext.setCell ?_ ?_ _) | (with_reducible exact Nat.le_refl _) | (with_reducible exact Nat.le_succ _) | (with_reducible refine Ext.trans ?_ (by assumption)) | (simp; done) | (simp; omega)))⟩
  · have hbd := mayPass_bounds ht
    cases hr : (r == 1000000)
    all_goals cases u <;> cases up
    all_goals
      go_enter Try.func32, Try.ntmps32
      go_wp2_with ((go_at_call 25; refine (implMayPass_any _ _ _ _ _ _ _).mono ?_; rintro e w' ⟨rfl, hb⟩; obtain ⟨hc', hf'⟩ := bcell hb.below; have hz' := hb.below.size; simp at hz'); have g0 := hb.cell (a := ⟨w.heap.size, 0, none⟩) (by go_simp; rfl); have g1 := hb.cell (a := ⟨w.heap.size, 1, none⟩) (by go_simp; rfl); have g2 := hb.cell (a := ⟨w.heap.size, 2, none⟩) (by go_simp; rfl); have g3 := hb.cell (a := ⟨w.heap.size, 3, none⟩) (by go_simp; rfl))
      exact bodyPost_ret (v := .agg #[.bool (enterS _ i r l _).1, .int .i64 (enterS _ i r l _).2.1, .int .i64 (enterS _ i r l _).2.2, .int .i64 l]) (by simp [results, Try.results32, go_sem, hc', enterS, *]) rfl ⟨rfl, by (repeat' (first | (with_reducible exact Ext.refl _) | (with_reducible assumption) | (with_reducible refine Ext.alloc ?_ _) | (with_reducible refine Ext.drewN ?_ _) | (with_reducible refine Ext.drew ?_) | (with_reducible refine Ext.setCell ?_ ?_ _) | (with_reducible exact Nat.le_refl _) | (with_reducible exact Nat.le_succ _) | (with_reducible refine Ext.trans ?_ (by assumption)) | (simp; done) | (simp; omega)))⟩
set_option maxHeartbeats 1000000 in
theorem specEnterStretch_any (u : Bool) (i r l : Int) (up : Bool) (w : World) :
    Calls Try.prog 41 #[.agg #[.bool u, .int .i64 i, .int .i64 r, .int .i64 l], .bool up] w fun e w' => e = .returned (.agg #[.bool (enterS u i r l up).1, .int .i64 (enterS u i r l up).2.1, .int .i64 (enterS u i r l up).2.2, .int .i64 l]) ∧ Ext w w' := by
  cases ht : mayPass u i r l up false
  · go_enter Try.func41, Try.ntmps41
    go_wp2_with ((go_at_call 24; refine (specMayPass_any _ _ _ _ _ _ _).mono ?_; rintro e w' ⟨rfl, hb⟩; obtain ⟨hc', hf'⟩ := bcell hb.below; have hz' := hb.below.size; simp at hz'))
    exact bodyPost_ret (v := .agg #[.bool (enterS u i r l up).1, .int .i64 (enterS u i r l up).2.1, .int .i64 (enterS u i r l up).2.2, .int .i64 l]) (by simp [results, Try.results41, go_sem, hc', enterS, *]) rfl ⟨rfl, by (repeat' (first | (with_reducible exact Ext.refl _) | (with_reducible assumption) | (with_reducible refine Ext.alloc ?_ _) | (with_reducible refine Ext.drewN ?_ _) | (with_reducible refine Ext.drew ?_) | (with_reducible refine Ext.setCell ?_ ?_ _) | (with_reducible exact Nat.le_refl _) | (with_reducible exact Nat.le_succ _) | (with_reducible refine Ext.trans ?_ (by assumption)) | (simp; done) | (simp; omega)))⟩
  · have hbd := mayPass_bounds ht
    cases hr : (r == 1000000)
    all_goals cases u <;> cases up
    all_goals
      go_enter Try.func41, Try.ntmps41
      go_wp2_with ((go_at_call 24; refine (specMayPass_any _ _ _ _ _ _ _).mono ?_; rintro e w' ⟨rfl, hb⟩; obtain ⟨hc', hf'⟩ := bcell hb.below; have hz' := hb.below.size; simp at hz'); have g0 := hb.cell (a := ⟨w.heap.size, 0, none⟩) (by go_simp; rfl); have g1 := hb.cell (a := ⟨w.heap.size, 1, none⟩) (by go_simp; rfl); have g2 := hb.cell (a := ⟨w.heap.size, 2, none⟩) (by go_simp; rfl); have g3 := hb.cell (a := ⟨w.heap.size, 3, none⟩) (by go_simp; rfl))
      exact bodyPost_ret (v := .agg #[.bool (enterS _ i r l _).1, .int .i64 (enterS _ i r l _).2.1, .int .i64 (enterS _ i r l _).2.2, .int .i64 l]) (by simp [results, Try.results41, go_sem, hc', enterS, *]) rfl ⟨rfl, by (repeat' (first | (with_reducible exact Ext.refl _) | (with_reducible assumption) | (with_reducible refine Ext.alloc ?_ _) | (with_reducible refine Ext.drewN ?_ _) | (with_reducible refine Ext.drew ?_) | (with_reducible refine Ext.setCell ?_ ?_ _) | (with_reducible exact Nat.le_refl _) | (with_reducible exact Nat.le_succ _) | (with_reducible refine Ext.trans ?_ (by assumption)) | (simp; done) | (simp; omega)))⟩
set_option maxHeartbeats 400000 in
theorem eqStretch_same (u : Bool) (i r l : Int) (w : World) :
    Calls Try.prog 35 #[.agg #[.bool u, .int .i64 i, .int .i64 r, .int .i64 l], .agg #[.bool u, .int .i64 i, .int .i64 r, .int .i64 l]] w fun e w' => e = .returned (.bool true) ∧ Ext w w' := by
  go_enter Try.func35, Try.ntmps35
  go_wp2
  go_ret
  exact ⟨rfl, by (repeat' (first | (with_reducible exact Ext.refl _) | (with_reducible assumption) | (with_reducible refine Ext.alloc ?_ _) | (with_reducible refine Ext.drewN ?_ _) | (with_reducible refine Ext.drew ?_) | (with_reducible refine Ext.setCell ?_ ?_ _) | (with_reducible exact Nat.le_refl _) | (with_reducible exact Nat.le_succ _) | (with_reducible refine Ext.trans ?_ (by assumption)) | (simp; done) | (simp; omega)))⟩

/-! ### Boats -/
set_option maxHeartbeats 400000 in
theorem toBoat_any (a b c d e f : Int) (w : World) :
    Calls Try.prog 22 #[.agg #[.int .i64 a, .int .i64 b, .int .i64 c, .int .i64 d, .int .i64 e, .int .i64 f]] w fun en w' => en = .returned (.agg #[.int .i64 a, .int .i64 b, .int .i64 c, .int .i64 d, .int .i64 e, .int .i64 f]) ∧ Ext w w' := by
  go_enter Try.func22, Try.ntmps22
  go_wp2
  exact bodyPost_ret (v := .agg #[.int .i64 a, .int .i64 b, .int .i64 c, .int .i64 d, .int .i64 e, .int .i64 f]) (by simp [results, Try.results22, go_sem]) rfl ⟨rfl, by (repeat' (first | (with_reducible exact Ext.refl _) | (with_reducible assumption) | (with_reducible refine Ext.alloc ?_ _) | (with_reducible refine Ext.drewN ?_ _) | (with_reducible refine Ext.drew ?_) | (with_reducible refine Ext.setCell ?_ ?_ _) | (with_reducible exact Nat.le_refl _) | (with_reducible exact Nat.le_succ _) | (with_reducible refine Ext.trans ?_ (by assumption)) | (simp; done) | (simp; omega)))⟩
def boatOk (a b c d e f : Int) : Bool := inR a 1 9999 && inR b 1 200 && inR c 1 30 && inR d 1 100 && inR e 1 50 && inR f 0 2
theorem chain5 (a b c d e : Bool) : a = false ∨ (a = true ∧ b = false) ∨ (a = true ∧ b = true ∧ c = false) ∨ (a = true ∧ b = true ∧ c = true ∧ d = false) ∨ (a = true ∧ b = true ∧ c = true ∧ d = true ∧ e = false) ∨ (a = true ∧ b = true ∧ c = true ∧ d = true ∧ e = true) := by
  cases a <;> cases b <;> cases c <;> cases d <;> cases e <;> simp
set_option maxHeartbeats 1000000 in
theorem implBoatOk_any (a b c d e f : Int) (w : World) :
    Calls Try.prog 23 #[.agg #[.int .i64 a, .int .i64 b, .int .i64 c, .int .i64 d, .int .i64 e, .int .i64 f]] w fun en w' => en = .returned (.bool (boatOk a b c d e f)) ∧ Ext w w' := by
  rcases chain5 (inR a 1 9999) (inR b 1 200) (inR c 1 30) (inR d 1 100) (inR e 1 50) with c1 | ⟨c1, c2⟩ | ⟨c1, c2, c3⟩ | ⟨c1, c2, c3, c4⟩ | ⟨c1, c2, c3, c4, c5⟩ | ⟨c1, c2, c3, c4, c5⟩
  all_goals
    go_enter Try.func23, Try.ntmps23
    go_wp2_with (go_at_call 48; refine (inRange_any _ _ _ _).mono ?_; rintro e w' ⟨rfl, rfl⟩)
    go_ret
    exact ⟨ret_bool (by simp [boatOk, *]), by (repeat' (first | (with_reducible exact Ext.refl _) | (with_reducible assumption) | (with_reducible refine Ext.alloc ?_ _) | (with_reducible refine Ext.drewN ?_ _) | (with_reducible refine Ext.drew ?_) | (with_reducible refine Ext.setCell ?_ ?_ _) | (with_reducible exact Nat.le_refl _) | (with_reducible exact Nat.le_succ _) | (with_reducible refine Ext.trans ?_ (by assumption)) | (simp; done) | (simp; omega)))⟩
set_option maxHeartbeats 1000000 in
theorem specBoatOk_any (a b c d e f : Int) (w : World) :
    Calls Try.prog 21 #[.agg #[.int .i64 a, .int .i64 b, .int .i64 c, .int .i64 d, .int .i64 e, .int .i64 f]] w fun en w' => en = .returned (.bool (boatOk a b c d e f)) ∧ Ext w w' := by
  rcases chain5 (inR a 1 9999) (inR b 1 200) (inR c 1 30) (inR d 1 100) (inR e 1 50) with c1 | ⟨c1, c2⟩ | ⟨c1, c2, c3⟩ | ⟨c1, c2, c3, c4⟩ | ⟨c1, c2, c3, c4, c5⟩ | ⟨c1, c2, c3, c4, c5⟩
  all_goals
    go_enter Try.func21, Try.ntmps21
    go_wp2_with (go_at_call 47; refine (l01In_any _ _ _ _).mono ?_; rintro e w' ⟨rfl, rfl⟩)
    go_ret
    exact ⟨ret_bool (by simp [boatOk, *]), by (repeat' (first | (with_reducible exact Ext.refl _) | (with_reducible assumption) | (with_reducible refine Ext.alloc ?_ _) | (with_reducible refine Ext.drewN ?_ _) | (with_reducible refine Ext.drew ?_) | (with_reducible refine Ext.setCell ?_ ?_ _) | (with_reducible exact Nat.le_refl _) | (with_reducible exact Nat.le_succ _) | (with_reducible refine Ext.trans ?_ (by assumption)) | (simp; done) | (simp; omega)))⟩
end Go.Proofs.Ytpfofheligacfaa
