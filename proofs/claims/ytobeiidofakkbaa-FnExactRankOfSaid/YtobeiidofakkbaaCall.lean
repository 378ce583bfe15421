/- Calls: sizes, conversion, comparison, CallOk on both sides. -/
import Derived.Test.YtobeiidofakkbaaProg
import Derived.Test.YtobeiidofakkbaaTrainMin
namespace Go.Proofs.Ytobeiidofakkbaa
open Go.RowKit
set_option linter.unusedSimpArgs false
set_option linter.unusedVariables false

set_option maxHeartbeats 1000000 in
theorem szCall_any (z : Int) (u : Bool) (a : Option Addr) (n c : Nat) (si bo : Int) (rows : List (List Bt)) (left : Int) (hn : n = rows.length) (hs : n ≤ maxLen) (h0 : 0 ≤ left) (h1 : left ≤ 1048576) (w : World) (hf : RowsAt w a rows) (hz : szRows left rows = z) :
    Calls Try.prog 26 #[.agg #[.bool u, .slice a n c, .int .i64 si, .int .i64 bo], .int .i64 left] w fun e w' => e = .returned (.int .i64 (if z < 0 then -1 else z)) ∧ Ext w w' := by
  have HF := Lib.hid hf; clear hf
  have HN := Lib.hid hn; clear hn
  have HS := Lib.hid hs; clear hs
  have HZ := Lib.hid hz; clear hz
  by_cases hneg : z < 0
  · rw [if_pos hneg]
    go_enter Try.func26, Try.ntmps26
    go_wp2_with fail
    refine (szTrain_is z _ _ _ _ rows _ HN.out HS.out h0 h1 _ (HF.out.ext ((Ext.refl _).alloc _)) HZ.out).mono ?_
    rintro e w1 ⟨rfl, hb1⟩
    have hx := Ext.trans ((Ext.refl w).alloc _) hb1
    go_wp2
    go_ret
    exact ⟨rfl, hx⟩
  · rw [if_neg hneg]
    go_enter Try.func26, Try.ntmps26
    go_wp2_with fail
    refine (szTrain_is z _ _ _ _ rows _ HN.out HS.out h0 h1 _ (HF.out.ext ((Ext.refl _).alloc _)) HZ.out).mono ?_
    rintro e w1 ⟨rfl, hb1⟩
    have hx := Ext.trans ((Ext.refl w).alloc _) hb1
    go_wp2
    go_ret
    exact ⟨rfl, hx⟩

theorem szCall_is (z : Int) (hp : ¬ z < 0) (u : Bool) (a : Option Addr) (n c : Nat) (si bo : Int) (rows : List (List Bt)) (left : Int) (hn : n = rows.length) (hs : n ≤ maxLen) (h0 : 0 ≤ left) (h1 : left ≤ 1048576) (w : World) (hf : RowsAt w a rows) (hz : szRows left rows = z) :
    Calls Try.prog 26 #[.agg #[.bool u, .slice a n c, .int .i64 si, .int .i64 bo], .int .i64 left] w fun e w' => e = .returned (.int .i64 z) ∧ Ext w w' := by
  have := szCall_any z u a n c si bo rows left hn hs h0 h1 w hf hz
  rwa [if_neg hp] at this
set_option maxHeartbeats 1000000 in
theorem toCall_any (u : Bool) (a : Option Addr) (n c : Nat) (si bo : Int) (rows : List (List Bt)) (w : World) (hn : n = rows.length) (hs : n ≤ 1048576) (hrs : ∀ r ∈ rows, r.length ≤ 1048576) (hf : RowsAt w a rows) :
    Calls Try.prog 28 #[.agg #[.bool u, .slice a n c, .int .i64 si, .int .i64 bo]] w fun e w' => ∃ a', e = .returned (.agg #[.bool u, .slice (some a') n n, .int .i64 si, .int .i64 bo]) ∧ OwnRows w' w.heap.size w'.heap.size (some a') rows ∧ Ext w w' := by
  have HF := Lib.hid hf; clear hf
  have HN := Lib.hid hn; clear hn
  have HR := Lib.hid hrs; clear hrs
  go_enter Try.func28, Try.ntmps28
  go_wp2_with fail
  (with_reducible refine (toTrain_any _ _ _ _ rows _ HN.out hs HR.out (HF.out.ext (by (repeat' (first | (with_reducible exact Ext.refl _) | (with_reducible assumption) | (with_reducible refine Ext.alloc ?_ _) | (with_reducible refine Ext.drewN ?_ _) | (with_reducible refine Ext.drew ?_) | (with_reducible refine Ext.setCell ?_ ?_ _) | (with_reducible exact Nat.le_refl _) | (with_reducible exact Nat.le_succ _) | (with_reducible refine Ext.trans ?_ (by assumption)) | (simp; done) | (simp; omega)))))).mono ?_); rintro e w1 ⟨a1, rfl, hro1, hb1⟩
  have x0_1 := hb1
  obtain ⟨hc0_1, hf0_1⟩ := bcell x0_1.below
  have z0_1_0 : w.heap.size < w1.heap.size := by have h := x0_1.size; simp at h; omega
  have z0_1_1 : w.heap.size + 1 < w1.heap.size := by have h := x0_1.size; simp at h; omega
  have z0_1_2 : w.heap.size + 1 + 1 < w1.heap.size := by have h := x0_1.size; simp at h; omega
  simp only [World.size_alloc] at hro1
  have HRO := Lib.hid hro1; clear hro1
  go_wp2
  refine bodyPost_ret (v := .agg #[.bool u, .slice (some a1) n n, .int .i64 si, .int .i64 bo]) (by simp [results, Try.results28, go_sem, hc0_1, hf0_1, z0_1_0, z0_1_1, z0_1_2]) rfl ⟨_, rfl, ?_, by (repeat' (first | (with_reducible exact Ext.refl _) | (with_reducible assumption) | (with_reducible refine Ext.alloc ?_ _) | (with_reducible refine Ext.drewN ?_ _) | (with_reducible refine Ext.drew ?_) | (with_reducible refine Ext.setCell ?_ ?_ _) | (with_reducible exact Nat.le_refl _) | (with_reducible exact Nat.le_succ _) | (with_reducible refine Ext.trans ?_ (by assumption)) | (simp; done) | (simp; omega)))⟩
  exact OwnRows.keep HRO.out (by omega) (by simp [size_setCell']) (fun B t c h1 _ hr => by
    (repeat' (first | (with_reducible assumption) | (with_reducible refine RowAt.other ?_ ?_ _))) <;> simp <;> omega)

set_option maxHeartbeats 1000000 in
theorem eqCall_same (u : Bool) (a a' : Option Addr) (n c c' : Nat) (si bo : Int) (rows : List (List Bt)) (w : World) (hn : n = rows.length) (hs : n ≤ maxLen) (hf : RowsAt w a rows) (hf' : RowsAt w a' rows) :
    Calls Try.prog 30 #[.agg #[.bool u, .slice a n c, .int .i64 si, .int .i64 bo], .agg #[.bool u, .slice a' n c', .int .i64 si, .int .i64 bo]] w fun e w' => e = .returned (.bool true) ∧ Ext w w' := by
  have HS := Lib.hid hs; clear hs
  have HF := Lib.hid hf; clear hf
  have HF' := Lib.hid hf'; clear hf'
  have HN := Lib.hid hn; clear hn
  go_enter Try.func30, Try.ntmps30
  go_wp2_with fail
  (with_reducible refine (eqTrain_same _ _ _ _ _ _ rows _ HN.out HS.out (HF.out.ext (by (repeat' (first | (with_reducible exact Ext.refl _) | (with_reducible assumption) | (with_reducible refine Ext.alloc ?_ _) | (with_reducible refine Ext.drewN ?_ _) | (with_reducible refine Ext.drew ?_) | (with_reducible refine Ext.setCell ?_ ?_ _) | (with_reducible exact Nat.le_refl _) | (with_reducible exact Nat.le_succ _) | (with_reducible refine Ext.trans ?_ (by assumption)) | (simp; done) | (simp; omega))))) (HF'.out.ext (by (repeat' (first | (with_reducible exact Ext.refl _) | (with_reducible assumption) | (with_reducible refine Ext.alloc ?_ _) | (with_reducible refine Ext.drewN ?_ _) | (with_reducible refine Ext.drew ?_) | (with_reducible refine Ext.setCell ?_ ?_ _) | (with_reducible exact Nat.le_refl _) | (with_reducible exact Nat.le_succ _) | (with_reducible refine Ext.trans ?_ (by assumption)) | (simp; done) | (simp; omega)))))).mono ?_); rintro e w1 ⟨rfl, hb1⟩
  have x0_1 := hb1
  obtain ⟨hc0_1, hf0_1⟩ := bcell x0_1.below
  have z0_1_0 : w.heap.size < w1.heap.size := by have h := x0_1.size; simp at h; omega
  have z0_1_1 : w.heap.size + 1 < w1.heap.size := by have h := x0_1.size; simp at h; omega
  go_wp2
  go_ret
  exact ⟨rfl, by (repeat' (first | (with_reducible exact Ext.refl _) | (with_reducible assumption) | (with_reducible refine Ext.alloc ?_ _) | (with_reducible refine Ext.drewN ?_ _) | (with_reducible refine Ext.drew ?_) | (with_reducible refine Ext.setCell ?_ ?_ _) | (with_reducible exact Nat.le_refl _) | (with_reducible exact Nat.le_succ _) | (with_reducible refine Ext.trans ?_ (by assumption)) | (simp; done) | (simp; omega)))⟩

def callOk (rows : List (List Bt)) (si bo : Int) : Bool := trainOk rows && inR si 0 1000000 && inR bo (-1) 1000000
theorem chain2 (a b : Bool) : a = false ∨ (a = true ∧ b = false) ∨ (a = true ∧ b = true) := by cases a <;> cases b <;> simp
set_option maxHeartbeats 1000000 in
theorem implCallOk_any (u : Bool) (a : Option Addr) (n c : Nat) (si bo : Int) (rows : List (List Bt)) (w : World) (hn : n = rows.length) (hs : n ≤ 1048576) (ht : rows.flatten.length ≤ 1048576) (hf : RowsAt w a rows) :
    Calls Try.prog 29 #[.agg #[.bool u, .slice a n c, .int .i64 si, .int .i64 bo]] w fun e w' => e = .returned (.bool (callOk rows si bo)) ∧ Ext w w' := by
  have HF := Lib.hid hf; clear hf
  have HS := Lib.hid hs; clear hs
  have HT := Lib.hid ht; clear ht
  have HN := Lib.hid hn; clear hn
  obtain ⟨t, ht⟩ : ∃ t, trainOk rows = t := ⟨_, rfl⟩
  have HR := Lib.hid (show callOk rows si bo = (t && inR si 0 1000000 && inR bo (-1) 1000000) by rw [callOk, ht])
  have OK := Lib.hid ht; clear ht
  rcases chain2 t (inR si 0 1000000) with c1 | ⟨c1, c2⟩ | ⟨c1, c2⟩
  all_goals
    rw [HR.out]
    go_enter Try.func29, Try.ntmps29
    go_wp2_with fail
    (with_reducible refine (OK.out ▸ implTrainOk_any _ _ _ _ rows _ HN.out HS.out HT.out (HF.out.ext (by (repeat' (first | (with_reducible exact Ext.refl _) | (with_reducible assumption) | (with_reducible refine Ext.alloc ?_ _) | (with_reducible refine Ext.drewN ?_ _) | (with_reducible refine Ext.drew ?_) | (with_reducible refine Ext.setCell ?_ ?_ _) | (with_reducible exact Nat.le_refl _) | (with_reducible exact Nat.le_succ _) | (with_reducible refine Ext.trans ?_ (by assumption)) | (simp; done) | (simp; omega)))))).mono ?_); rintro e w1 ⟨rfl, hb1⟩
    have x0_1 := hb1
    obtain ⟨hc0_1, hf0_1⟩ := bcell x0_1.below
    have z0_1_0 : w.heap.size < w1.heap.size := by have h := x0_1.size; simp at h; omega
    have hx := Ext.trans ((Ext.refl w).alloc _) hb1
    go_wp2_with (go_at_call 42; refine (inRange_any _ _ _ _).mono ?_; rintro e w' ⟨rfl, rfl⟩)
    go_ret
    exact ⟨ret_bool (by simp [*]), by (repeat' (first | (with_reducible exact Ext.refl _) | (with_reducible assumption) | (with_reducible refine Ext.alloc ?_ _) | (with_reducible refine Ext.drewN ?_ _) | (with_reducible refine Ext.drew ?_) | (with_reducible refine Ext.setCell ?_ ?_ _) | (with_reducible exact Nat.le_refl _) | (with_reducible exact Nat.le_succ _) | (with_reducible refine Ext.trans ?_ (by assumption)) | (simp; done) | (simp; omega)))⟩
set_option maxHeartbeats 1000000 in
theorem specCallOk_any (u : Bool) (a : Option Addr) (n c : Nat) (si bo : Int) (rows : List (List Bt)) (w : World) (hn : n = rows.length) (hs : n ≤ 1048576) (ht : rows.flatten.length ≤ 1048576) (hf : RowsAt w a rows) :
    Calls Try.prog 27 #[.agg #[.bool u, .slice a n c, .int .i64 si, .int .i64 bo]] w fun e w' => e = .returned (.bool (callOk rows si bo)) ∧ Ext w w' := by
  have HF := Lib.hid hf; clear hf
  have HS := Lib.hid hs; clear hs
  have HT := Lib.hid ht; clear ht
  have HN := Lib.hid hn; clear hn
  obtain ⟨t, ht⟩ : ∃ t, trainOk rows = t := ⟨_, rfl⟩
  have HR := Lib.hid (show callOk rows si bo = (t && inR si 0 1000000 && inR bo (-1) 1000000) by rw [callOk, ht])
  have OK := Lib.hid ht; clear ht
  rcases chain2 t (inR si 0 1000000) with c1 | ⟨c1, c2⟩ | ⟨c1, c2⟩
  all_goals
    rw [HR.out]
    go_enter Try.func27, Try.ntmps27
    go_wp2_with fail
    (with_reducible refine (OK.out ▸ specTrainOk_any _ _ _ _ rows _ HN.out HS.out HT.out (HF.out.ext (by (repeat' (first | (with_reducible exact Ext.refl _) | (with_reducible assumption) | (with_reducible refine Ext.alloc ?_ _) | (with_reducible refine Ext.drewN ?_ _) | (with_reducible refine Ext.drew ?_) | (with_reducible refine Ext.setCell ?_ ?_ _) | (with_reducible exact Nat.le_refl _) | (with_reducible exact Nat.le_succ _) | (with_reducible refine Ext.trans ?_ (by assumption)) | (simp; done) | (simp; omega)))))).mono ?_); rintro e w1 ⟨rfl, hb1⟩
    have x0_1 := hb1
    obtain ⟨hc0_1, hf0_1⟩ := bcell x0_1.below
    have z0_1_0 : w.heap.size < w1.heap.size := by have h := x0_1.size; simp at h; omega
    have hx := Ext.trans ((Ext.refl w).alloc _) hb1
    go_wp2_with (go_at_call 36; refine (l01In_any _ _ _ _).mono ?_; rintro e w' ⟨rfl, rfl⟩)
    go_ret
    exact ⟨ret_bool (by simp [*]), by (repeat' (first | (with_reducible exact Ext.refl _) | (with_reducible assumption) | (with_reducible refine Ext.alloc ?_ _) | (with_reducible refine Ext.drewN ?_ _) | (with_reducible refine Ext.drew ?_) | (with_reducible refine Ext.setCell ?_ ?_ _) | (with_reducible exact Nat.le_refl _) | (with_reducible exact Nat.le_succ _) | (with_reducible refine Ext.trans ?_ (by assumption)) | (simp; done) | (simp; omega)))⟩
end Go.Proofs.Ytobeiidofakkbaa
