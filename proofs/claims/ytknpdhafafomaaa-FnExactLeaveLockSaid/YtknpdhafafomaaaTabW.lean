/- TableOk, ValueAt on both sides. -/
import Derived.Test.YtknpdhafafomaaaProg
import Derived.Test.YtknpdhafafomaaaTab
namespace Go.Proofs.Ytknpdhafafomaaa
open Go.RowKit
set_option linter.unusedSimpArgs false
set_option linter.unusedVariables false

theorem tab_short {ps : List Pt} (h : ps.length < 2 ∨ 20 < ps.length) : false = tableOk ps := by
  rw [tableOk, decide_eq_false (by omega), Bool.false_and]
theorem tab_bad {ps : List Pt} {b : Bool} (h : tabGo ps = (false && b)) : false = tableOk ps := by
  rw [tableOk, h, Bool.false_and, Bool.and_false]
theorem tab_good {ps : List Pt} (h : 2 ≤ ps.length ∧ ps.length ≤ 20) (h2 : tabGo ps = true) : true = tableOk ps := by
  rw [tableOk, h2, decide_eq_true h]; rfl
theorem ptOk_eq (p1 p2 : Int) : ptOk (p1, p2) = (inR p1 0 1000000000 && inR p2 0 1000000000) := rfl

set_option maxRecDepth 100000 in
set_option maxHeartbeats 4000000 in
theorem implTableOk_any (a : Option Addr) (n c : Nat) (ps : List Pt) (w : World) (hn : n = ps.length) (hs : n ≤ maxLen) (hf : FlatAt w ptCells 2 a ps) :
    Calls Try.prog 116 #[.slice a n c] w fun e w' => e = .returned (.bool (tableOk ps)) ∧ Ext w w' := by
  unfold maxLen at hs
  have HF := Lib.hid hf; clear hf
  by_cases h : n < 2 ∨ 20 < n
  · have HN := Lib.hid hn; clear hn
    rcases (by omega : n < 2 ∨ (2 ≤ n ∧ 20 < n)) with h1 | ⟨h1, h2⟩
    all_goals
      go_enter Try.func116, Try.ntmps116
      go_wp2
      go_ret
      exact ⟨ret_bool (tab_short (by rw [← HN.out]; exact h)), by (repeat' (first | (with_reducible exact Ext.refl _) | (with_reducible assumption) | (with_reducible refine Ext.alloc ?_ _) | (with_reducible refine Ext.drewN ?_ _) | (with_reducible refine Ext.drew ?_) | (with_reducible refine Ext.setCell ?_ ?_ _) | (with_reducible exact Nat.le_refl _) | (with_reducible exact Nat.le_succ _) | (with_reducible refine Ext.trans ?_ (by assumption)) | (simp; done) | (simp; omega)))⟩
  have hn2 : 2 ≤ n := by omega
  have hn20 : n ≤ 20 := by omega
  have HN := Lib.hid hn; clear hn h
  go_enter Try.func116, Try.ntmps116
  go_wp2
  go_loopw [15] (fun i wr => ∃ (k : Nat), k ≤ n ∧ i = .int .i64 k ∧ Ext w wr ∧ Hid (tabGo ps = tabFrom ps k)) (fun i _ => n - (intOf i).toNat)
  case atStart => exact ⟨0, Nat.zero_le _, rfl, by (repeat' (first | (with_reducible exact Ext.refl _) | (with_reducible assumption) | (with_reducible refine Ext.alloc ?_ _) | (with_reducible refine Ext.drewN ?_ _) | (with_reducible refine Ext.drew ?_) | (with_reducible refine Ext.setCell ?_ ?_ _) | (with_reducible exact Nat.le_refl _) | (with_reducible exact Nat.le_succ _) | (with_reducible refine Ext.trans ?_ (by assumption)) | (simp; done) | (simp; omega))), rfl⟩
  case round =>
    obtain ⟨k, hk, rfl, hr, hgo⟩ := hrel
    by_cases hlt : k < n
    · have hlt' : k < ps.length := by rw [← HN.out]; exact hlt
      obtain ⟨b, off, rfl, hcell⟩ := HF.out.get k hlt'
      obtain ⟨p1, p2, hp⟩ : ∃ p1 p2, ps[k] = (p1, p2) := ⟨_, _, rfl⟩
      rw [hp] at hcell
      have e1 : wr.cell? ⟨b, off + k * 2, none⟩ = some (.int .i64 p1) := hcell 0 _ rfl _ hr
      have e2 : wr.cell? ⟨b, off + k * 2 + 1, none⟩ = some (.int .i64 p2) := hcell 1 _ rfl _ hr
      have eX := (Ext.refl wr).alloc (.cells #[.int .i64 p1, .int .i64 p2] 44)
      have x1 : ∀ x : Aft (wr.alloc (.cells #[.int .i64 p1, .int .i64 p2] 44)), x.1.cell? ⟨wr.heap.size, 0, none⟩ = some (.int .i64 p1) := fun x => ((RowAt.new wr 44 #[.int .i64 p1, .int .i64 p2]).ext x.2).cell rfl
      have x2 : ∀ x : Aft (wr.alloc (.cells #[.int .i64 p1, .int .i64 p2] 44)), x.1.cell? ⟨wr.heap.size, 1, none⟩ = some (.int .i64 p2) := fun x => ((RowAt.new wr 44 #[.int .i64 p1, .int .i64 p2]).ext x.2).cell rfl
      clear hcell
      cases k with
      | zero =>
        have HD := Lib.hid (show tabGo ps = ((inR p1 0 1000000000 && inR p2 0 1000000000) && tabFrom ps 1) by rw [hgo.out, tabFrom_zero ps (by omega), hp, ptOk_eq])
        clear hp hgo
        (try simp only [Nat.zero_mul, Nat.add_zero] at e1 e2)
        obtain ⟨b1, hb1⟩ : ∃ b1, inR p1 0 1000000000 = b1 := ⟨_, rfl⟩
        obtain ⟨b2, hb2⟩ : ∃ b2, inR p2 0 1000000000 = b2 := ⟨_, rfl⟩
        rw [hb1, hb2] at HD
        cases b1
        · go_wp2_with ((go_at_call 69; refine (inRange_any _ _ _ _).mono ?_; rintro e w' ⟨rfl, rfl⟩))
          go_ret
          exact ⟨ret_bool (tab_bad (b := false) (by rw [HD.out]; simp)), by (repeat' (first | (with_reducible exact Ext.refl _) | (with_reducible assumption) | (with_reducible refine Ext.alloc ?_ _) | (with_reducible refine Ext.drewN ?_ _) | (with_reducible refine Ext.drew ?_) | (with_reducible refine Ext.setCell ?_ ?_ _) | (with_reducible exact Nat.le_refl _) | (with_reducible exact Nat.le_succ _) | (with_reducible refine Ext.trans ?_ (by assumption)) | (simp; done) | (simp; omega)))⟩
        cases b2
        · go_wp2_with ((go_at_call 69; refine (inRange_any _ _ _ _).mono ?_; rintro e w' ⟨rfl, rfl⟩))
          go_ret
          exact ⟨ret_bool (tab_bad (b := false) (by rw [HD.out]; simp)), by (repeat' (first | (with_reducible exact Ext.refl _) | (with_reducible assumption) | (with_reducible refine Ext.alloc ?_ _) | (with_reducible refine Ext.drewN ?_ _) | (with_reducible refine Ext.drew ?_) | (with_reducible refine Ext.setCell ?_ ?_ _) | (with_reducible exact Nat.le_refl _) | (with_reducible exact Nat.le_succ _) | (with_reducible refine Ext.trans ?_ (by assumption)) | (simp; done) | (simp; omega)))⟩
        go_wp2_with ((go_at_call 69; refine (inRange_any _ _ _ _).mono ?_; rintro e w' ⟨rfl, rfl⟩))
        try ((refine wp_region_aft (wr.alloc (.cells #[.int .i64 p1, .int .i64 p2] 44)) (Ext.refl _) (by kernel_rfl) (by kernel_rfl) ?_; (repeat (go_big_quiet_step (fail))); refine wpQuiet_nil ?_; intro w2 hx2))
        go_wp2
        go_roundw
        case rel => exact ⟨1, by omega, by go_num, by (repeat' (first | (with_reducible exact Ext.refl _) | (with_reducible assumption) | (with_reducible refine Ext.alloc ?_ _) | (with_reducible refine Ext.drewN ?_ _) | (with_reducible refine Ext.drew ?_) | (with_reducible refine Ext.setCell ?_ ?_ _) | (with_reducible exact Nat.le_refl _) | (with_reducible exact Nat.le_succ _) | (with_reducible refine Ext.trans ?_ (by assumption)) | (simp; done) | (simp; omega))), by (show _ = _); rw [HD.out]; simp⟩
        case measure => simp [intOf]; omega
      | succ k =>
        have hlt2 : k < ps.length := by omega
        obtain ⟨b', off', e', hcell'⟩ := HF.out.get k hlt2
        cases e'
        obtain ⟨q1, q2, hq⟩ : ∃ q1 q2, ps[k] = (q1, q2) := ⟨_, _, rfl⟩
        rw [hq] at hcell'
        have y1 : ∀ x : Aft (wr.alloc (.cells #[.int .i64 p1, .int .i64 p2] 44)), x.1.cell? ⟨b, off + k * 2, none⟩ = some (.int .i64 q1) := fun x => hcell' 0 _ rfl _ (hr.trans (eX.trans x.2))
        have y2 : ∀ x : Aft (wr.alloc (.cells #[.int .i64 p1, .int .i64 p2] 44)), x.1.cell? ⟨b, off + k * 2 + 1, none⟩ = some (.int .i64 q2) := fun x => hcell' 1 _ rfl _ (hr.trans (eX.trans x.2))
        have HD := Lib.hid (show tabGo ps = (((inR p1 0 1000000000 && inR p2 0 1000000000) && (decide (q1 < p1) && decide (q2 ≤ p2))) && tabFrom ps (k + 2)) by rw [hgo.out, tabFrom_succ ps k hlt', hp, hq, ptOk_eq])
        clear hp hq hgo hcell'
        obtain ⟨b1, hb1⟩ : ∃ b1, inR p1 0 1000000000 = b1 := ⟨_, rfl⟩
        obtain ⟨b2, hb2⟩ : ∃ b2, inR p2 0 1000000000 = b2 := ⟨_, rfl⟩
        rw [hb1, hb2] at HD
        cases b1
        · go_wp2_with ((go_at_call 69; refine (inRange_any _ _ _ _).mono ?_; rintro e w' ⟨rfl, rfl⟩))
          go_ret
          exact ⟨ret_bool (tab_bad (b := false) (by rw [HD.out]; simp)), by (repeat' (first | (with_reducible exact Ext.refl _) | (with_reducible assumption) | (with_reducible refine Ext.alloc ?_ _) | (with_reducible refine Ext.drewN ?_ _) | (with_reducible refine Ext.drew ?_) | (with_reducible refine Ext.setCell ?_ ?_ _) | (with_reducible exact Nat.le_refl _) | (with_reducible exact Nat.le_succ _) | (with_reducible refine Ext.trans ?_ (by assumption)) | (simp; done) | (simp; omega)))⟩
        cases b2
        · go_wp2_with ((go_at_call 69; refine (inRange_any _ _ _ _).mono ?_; rintro e w' ⟨rfl, rfl⟩))
          go_ret
          exact ⟨ret_bool (tab_bad (b := false) (by rw [HD.out]; simp)), by (repeat' (first | (with_reducible exact Ext.refl _) | (with_reducible assumption) | (with_reducible refine Ext.alloc ?_ _) | (with_reducible refine Ext.drewN ?_ _) | (with_reducible refine Ext.drew ?_) | (with_reducible refine Ext.setCell ?_ ?_ _) | (with_reducible exact Nat.le_refl _) | (with_reducible exact Nat.le_succ _) | (with_reducible refine Ext.trans ?_ (by assumption)) | (simp; done) | (simp; omega)))⟩
        have k0 : 0 < k + 1 := by omega
        by_cases c1 : p1 ≤ q1
        · have d1 : decide (q1 < p1) = false := by simpa using c1
          go_wp2_with ((go_at_call 69; refine (inRange_any _ _ _ _).mono ?_; rintro e w' ⟨rfl, rfl⟩))
          (refine wp_region_aft (wr.alloc (.cells #[.int .i64 p1, .int .i64 p2] 44)) (Ext.refl _) (by kernel_rfl) (by kernel_rfl) ?_; (repeat (go_big_quiet_step (fail))); refine wpQuiet_nil ?_; intro w2 hx2)
          go_wp2
          go_ret
          exact ⟨ret_bool (tab_bad (b := false) (by rw [HD.out, d1]; simp)), by (repeat' (first | (with_reducible exact Ext.refl _) | (with_reducible assumption) | (with_reducible refine Ext.alloc ?_ _) | (with_reducible refine Ext.drewN ?_ _) | (with_reducible refine Ext.drew ?_) | (with_reducible refine Ext.setCell ?_ ?_ _) | (with_reducible exact Nat.le_refl _) | (with_reducible exact Nat.le_succ _) | (with_reducible refine Ext.trans ?_ (by assumption)) | (simp; done) | (simp; omega)))⟩
        have dd1 : decide (p1 ≤ q1) = false := by simp; omega
        by_cases c2 : p2 < q2
        · have d2 : decide (q2 ≤ p2) = false := by simpa using c2
          go_wp2_with ((go_at_call 69; refine (inRange_any _ _ _ _).mono ?_; rintro e w' ⟨rfl, rfl⟩))
          (refine wp_region_aft (wr.alloc (.cells #[.int .i64 p1, .int .i64 p2] 44)) (Ext.refl _) (by kernel_rfl) (by kernel_rfl) ?_; (repeat (go_big_quiet_step (fail))); refine wpQuiet_nil ?_; intro w2 hx2)
          go_wp2
          go_ret
          exact ⟨ret_bool (tab_bad (b := false) (by rw [HD.out, d2]; simp)), by (repeat' (first | (with_reducible exact Ext.refl _) | (with_reducible assumption) | (with_reducible refine Ext.alloc ?_ _) | (with_reducible refine Ext.drewN ?_ _) | (with_reducible refine Ext.drew ?_) | (with_reducible refine Ext.setCell ?_ ?_ _) | (with_reducible exact Nat.le_refl _) | (with_reducible exact Nat.le_succ _) | (with_reducible refine Ext.trans ?_ (by assumption)) | (simp; done) | (simp; omega)))⟩
        · have dd2 : decide (p2 < q2) = false := by simp; omega
          have d1 : decide (q1 < p1) = true := by simp; omega
          have d2 : decide (q2 ≤ p2) = true := by simp; omega
          go_wp2_with ((go_at_call 69; refine (inRange_any _ _ _ _).mono ?_; rintro e w' ⟨rfl, rfl⟩))
          (refine wp_region_aft (wr.alloc (.cells #[.int .i64 p1, .int .i64 p2] 44)) (Ext.refl _) (by kernel_rfl) (by kernel_rfl) ?_; (repeat (go_big_quiet_step (fail))); refine wpQuiet_nil ?_; intro w2 hx2)
          go_wp2
          go_roundw
          case rel => exact ⟨k + 2, by omega, by go_num, by (repeat' (first | (with_reducible exact Ext.refl _) | (with_reducible assumption) | (with_reducible refine Ext.alloc ?_ _) | (with_reducible refine Ext.drewN ?_ _) | (with_reducible refine Ext.drew ?_) | (with_reducible refine Ext.setCell ?_ ?_ _) | (with_reducible exact Nat.le_refl _) | (with_reducible exact Nat.le_succ _) | (with_reducible refine Ext.trans ?_ (by assumption)) | (simp; done) | (simp; omega))), by (show _ = _); rw [HD.out, d1, d2]; simp⟩
          case measure => simp [intOf]; omega
    · have hkn : k = n := by omega
      have HG := Lib.hid (show tabGo ps = true by rw [hgo.out, hkn, HN.out, tabFrom_end])
      go_wp2
      go_ret
      exact ⟨ret_bool (tab_good (by rw [← HN.out]; omega) HG.out), hr⟩

set_option maxRecDepth 100000 in
set_option maxHeartbeats 4000000 in
theorem specTableOk_any (a : Option Addr) (n c : Nat) (ps : List Pt) (w : World) (hn : n = ps.length) (hs : n ≤ maxLen) (hf : FlatAt w ptCells 2 a ps) :
    Calls Try.prog 118 #[.slice a n c] w fun e w' => e = .returned (.bool (tableOk ps)) ∧ Ext w w' := by
  unfold maxLen at hs
  have HF := Lib.hid hf; clear hf
  have HN := Lib.hid hn; clear hn
  go_enter Try.func118, Try.ntmps118
  go_wp2
  go_loopw [3] (fun i wr => ∃ (k : Nat), k ≤ n ∧ i = .int .i64 k ∧ Ext w wr ∧ Hid (tabGo ps = tabFrom ps k)) (fun i _ => n - (intOf i).toNat)
  case atStart => exact ⟨0, Nat.zero_le _, rfl, by (repeat' (first | (with_reducible exact Ext.refl _) | (with_reducible assumption) | (with_reducible refine Ext.alloc ?_ _) | (with_reducible refine Ext.drewN ?_ _) | (with_reducible refine Ext.drew ?_) | (with_reducible refine Ext.setCell ?_ ?_ _) | (with_reducible exact Nat.le_refl _) | (with_reducible exact Nat.le_succ _) | (with_reducible refine Ext.trans ?_ (by assumption)) | (simp; done) | (simp; omega))), rfl⟩
  case round =>
    obtain ⟨k, hk, rfl, hr, hgo⟩ := hrel
    by_cases hlt : k < n
    · have hlt' : k < ps.length := by rw [← HN.out]; exact hlt
      obtain ⟨b, off, rfl, hcell⟩ := HF.out.get k hlt'
      obtain ⟨p1, p2, hp⟩ : ∃ p1 p2, ps[k] = (p1, p2) := ⟨_, _, rfl⟩
      rw [hp] at hcell
      have x1 : ∀ x : Aft wr, x.1.cell? ⟨b, off + k * 2, none⟩ = some (.int .i64 p1) := fun x => hcell 0 _ rfl _ (hr.trans x.2)
      have x2 : ∀ x : Aft wr, x.1.cell? ⟨b, off + k * 2 + 1, none⟩ = some (.int .i64 p2) := fun x => hcell 1 _ rfl _ (hr.trans x.2)
      clear hcell
      cases k with
      | zero =>
        have HD := Lib.hid (show tabGo ps = ((inR p1 0 1000000000 && inR p2 0 1000000000) && tabFrom ps 1) by rw [hgo.out, tabFrom_zero ps (by omega), hp, ptOk_eq])
        clear hp hgo
        (try simp only [Nat.zero_mul, Nat.add_zero] at x1 x2)
        obtain ⟨b1, hb1⟩ : ∃ b1, inR p1 0 1000000000 = b1 := ⟨_, rfl⟩
        obtain ⟨b2, hb2⟩ : ∃ b2, inR p2 0 1000000000 = b2 := ⟨_, rfl⟩
        rw [hb1, hb2] at HD
        cases b1
        · go_wp2_with fail
          (refine wp_region_aft wr (Ext.refl _) (by kernel_rfl) (by kernel_rfl) ?_; (repeat (go_big_quiet_step ((go_at_call 79; exact aft_same (l01In_any _ _ _ _))))); refine wpQuiet_nil ?_; intro w2 hx2)
          go_wp2
          go_ret
          exact ⟨ret_bool (tab_bad (b := false) (by rw [HD.out]; simp)), by (repeat' (first | (with_reducible exact Ext.refl _) | (with_reducible assumption) | (with_reducible refine Ext.alloc ?_ _) | (with_reducible refine Ext.drewN ?_ _) | (with_reducible refine Ext.drew ?_) | (with_reducible refine Ext.setCell ?_ ?_ _) | (with_reducible exact Nat.le_refl _) | (with_reducible exact Nat.le_succ _) | (with_reducible refine Ext.trans ?_ (by assumption)) | (simp; done) | (simp; omega)))⟩
        cases b2
        · go_wp2_with fail
          (refine wp_region_aft wr (Ext.refl _) (by kernel_rfl) (by kernel_rfl) ?_; (repeat (go_big_quiet_step ((go_at_call 79; exact aft_same (l01In_any _ _ _ _))))); refine wpQuiet_nil ?_; intro w2 hx2)
          go_wp2
          go_ret
          exact ⟨ret_bool (tab_bad (b := false) (by rw [HD.out]; simp)), by (repeat' (first | (with_reducible exact Ext.refl _) | (with_reducible assumption) | (with_reducible refine Ext.alloc ?_ _) | (with_reducible refine Ext.drewN ?_ _) | (with_reducible refine Ext.drew ?_) | (with_reducible refine Ext.setCell ?_ ?_ _) | (with_reducible exact Nat.le_refl _) | (with_reducible exact Nat.le_succ _) | (with_reducible refine Ext.trans ?_ (by assumption)) | (simp; done) | (simp; omega)))⟩
        go_wp2_with fail
        (refine wp_region_aft wr (Ext.refl _) (by kernel_rfl) (by kernel_rfl) ?_; (repeat (go_big_quiet_step ((go_at_call 79; exact aft_same (l01In_any _ _ _ _))))); refine wpQuiet_nil ?_; intro w2 hx2)
        go_wp2
        go_roundw
        case rel => exact ⟨1, by omega, by go_num, by (repeat' (first | (with_reducible exact Ext.refl _) | (with_reducible assumption) | (with_reducible refine Ext.alloc ?_ _) | (with_reducible refine Ext.drewN ?_ _) | (with_reducible refine Ext.drew ?_) | (with_reducible refine Ext.setCell ?_ ?_ _) | (with_reducible exact Nat.le_refl _) | (with_reducible exact Nat.le_succ _) | (with_reducible refine Ext.trans ?_ (by assumption)) | (simp; done) | (simp; omega))), by (show _ = _); rw [HD.out]; simp⟩
        case measure => simp [intOf]; omega
      | succ k =>
        have hlt2 : k < ps.length := by omega
        obtain ⟨b', off', e', hcell'⟩ := HF.out.get k hlt2
        cases e'
        obtain ⟨q1, q2, hq⟩ : ∃ q1 q2, ps[k] = (q1, q2) := ⟨_, _, rfl⟩
        rw [hq] at hcell'
        have y1 : ∀ x : Aft wr, x.1.cell? ⟨b, off + k * 2, none⟩ = some (.int .i64 q1) := fun x => hcell' 0 _ rfl _ (hr.trans x.2)
        have y2 : ∀ x : Aft wr, x.1.cell? ⟨b, off + k * 2 + 1, none⟩ = some (.int .i64 q2) := fun x => hcell' 1 _ rfl _ (hr.trans x.2)
        have HD := Lib.hid (show tabGo ps = (((inR p1 0 1000000000 && inR p2 0 1000000000) && (decide (q1 < p1) && decide (q2 ≤ p2))) && tabFrom ps (k + 2)) by rw [hgo.out, tabFrom_succ ps k hlt', hp, hq, ptOk_eq])
        clear hp hq hgo hcell'
        obtain ⟨b1, hb1⟩ : ∃ b1, inR p1 0 1000000000 = b1 := ⟨_, rfl⟩
        obtain ⟨b2, hb2⟩ : ∃ b2, inR p2 0 1000000000 = b2 := ⟨_, rfl⟩
        rw [hb1, hb2] at HD
        cases b1
        · go_wp2_with fail
          (refine wp_region_aft wr (Ext.refl _) (by kernel_rfl) (by kernel_rfl) ?_; (repeat (go_big_quiet_step ((go_at_call 79; exact aft_same (l01In_any _ _ _ _))))); refine wpQuiet_nil ?_; intro w2 hx2)
          go_wp2
          go_ret
          exact ⟨ret_bool (tab_bad (b := false) (by rw [HD.out]; simp)), by (repeat' (first | (with_reducible exact Ext.refl _) | (with_reducible assumption) | (with_reducible refine Ext.alloc ?_ _) | (with_reducible refine Ext.drewN ?_ _) | (with_reducible refine Ext.drew ?_) | (with_reducible refine Ext.setCell ?_ ?_ _) | (with_reducible exact Nat.le_refl _) | (with_reducible exact Nat.le_succ _) | (with_reducible refine Ext.trans ?_ (by assumption)) | (simp; done) | (simp; omega)))⟩
        cases b2
        · go_wp2_with fail
          (refine wp_region_aft wr (Ext.refl _) (by kernel_rfl) (by kernel_rfl) ?_; (repeat (go_big_quiet_step ((go_at_call 79; exact aft_same (l01In_any _ _ _ _))))); refine wpQuiet_nil ?_; intro w2 hx2)
          go_wp2
          go_ret
          exact ⟨ret_bool (tab_bad (b := false) (by rw [HD.out]; simp)), by (repeat' (first | (with_reducible exact Ext.refl _) | (with_reducible assumption) | (with_reducible refine Ext.alloc ?_ _) | (with_reducible refine Ext.drewN ?_ _) | (with_reducible refine Ext.drew ?_) | (with_reducible refine Ext.setCell ?_ ?_ _) | (with_reducible exact Nat.le_refl _) | (with_reducible exact Nat.le_succ _) | (with_reducible refine Ext.trans ?_ (by assumption)) | (simp; done) | (simp; omega)))⟩
        have k0 : 0 < k + 1 := by omega
        by_cases c1 : p1 ≤ q1
        · have d1 : decide (q1 < p1) = false := by simpa using c1
          go_wp2_with fail
          (refine wp_region_aft wr (Ext.refl _) (by kernel_rfl) (by kernel_rfl) ?_; (repeat (go_big_quiet_step ((go_at_call 79; exact aft_same (l01In_any _ _ _ _))))); refine wpQuiet_nil ?_; intro w2 hx2)
          go_wp2
          go_ret
          exact ⟨ret_bool (tab_bad (b := false) (by rw [HD.out, d1]; simp)), by (repeat' (first | (with_reducible exact Ext.refl _) | (with_reducible assumption) | (with_reducible refine Ext.alloc ?_ _) | (with_reducible refine Ext.drewN ?_ _) | (with_reducible refine Ext.drew ?_) | (with_reducible refine Ext.setCell ?_ ?_ _) | (with_reducible exact Nat.le_refl _) | (with_reducible exact Nat.le_succ _) | (with_reducible refine Ext.trans ?_ (by assumption)) | (simp; done) | (simp; omega)))⟩
        have dd1 : decide (p1 ≤ q1) = false := by simp; omega
        by_cases c2 : p2 < q2
        · have d2 : decide (q2 ≤ p2) = false := by simpa using c2
          go_wp2_with fail
          (refine wp_region_aft wr (Ext.refl _) (by kernel_rfl) (by kernel_rfl) ?_; (repeat (go_big_quiet_step ((go_at_call 79; exact aft_same (l01In_any _ _ _ _))))); refine wpQuiet_nil ?_; intro w2 hx2)
          go_wp2
          go_ret
          exact ⟨ret_bool (tab_bad (b := false) (by rw [HD.out, d2]; simp)), by (repeat' (first | (with_reducible exact Ext.refl _) | (with_reducible assumption) | (with_reducible refine Ext.alloc ?_ _) | (with_reducible refine Ext.drewN ?_ _) | (with_reducible refine Ext.drew ?_) | (with_reducible refine Ext.setCell ?_ ?_ _) | (with_reducible exact Nat.le_refl _) | (with_reducible exact Nat.le_succ _) | (with_reducible refine Ext.trans ?_ (by assumption)) | (simp; done) | (simp; omega)))⟩
        · have dd2 : decide (p2 < q2) = false := by simp; omega
          have d1 : decide (q1 < p1) = true := by simp; omega
          have d2 : decide (q2 ≤ p2) = true := by simp; omega
          go_wp2_with fail
          (refine wp_region_aft wr (Ext.refl _) (by kernel_rfl) (by kernel_rfl) ?_; (repeat (go_big_quiet_step ((go_at_call 79; exact aft_same (l01In_any _ _ _ _))))); refine wpQuiet_nil ?_; intro w2 hx2)
          go_wp2
          go_roundw
          case rel => exact ⟨k + 2, by omega, by go_num, by (repeat' (first | (with_reducible exact Ext.refl _) | (with_reducible assumption) | (with_reducible refine Ext.alloc ?_ _) | (with_reducible refine Ext.drewN ?_ _) | (with_reducible refine Ext.drew ?_) | (with_reducible refine Ext.setCell ?_ ?_ _) | (with_reducible exact Nat.le_refl _) | (with_reducible exact Nat.le_succ _) | (with_reducible refine Ext.trans ?_ (by assumption)) | (simp; done) | (simp; omega))), by (show _ = _); rw [HD.out, d1, d2]; simp⟩
          case measure => simp [intOf]; omega
    · have hkn : k = n := by omega
      have HG := Lib.hid (show tabGo ps = true by rw [hgo.out, hkn, HN.out, tabFrom_end])
      have HT := Lib.hid (show inR (n : Int) 2 20 = tableOk ps by
        rw [tableOk, HG.out, Bool.and_true, inR, ← HN.out]
        exact decide_eq_decide.2 (by omega))
      go_wp2_with ((go_at_call 79; refine (l01In_any _ _ _ _).mono ?_; rintro e w' ⟨rfl, rfl⟩))
      go_ret
      exact ⟨ret_bool HT.out, hr⟩
end Go.Proofs.Ytknpdhafafomaaa
