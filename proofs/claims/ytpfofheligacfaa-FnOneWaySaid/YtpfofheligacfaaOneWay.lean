/- FnOneWay: in a stretch there are never trains in both directions. -/
import Derived.Test.YtpfofheligacfaaProg
import Derived.Test.YtpfofheligacfaaBytes
import Derived.Test.YtpfofheligacfaaStretch
namespace Go.Proofs.Ytpfofheligacfaa
open Go.RowKit
set_option linter.unusedSimpArgs false
set_option linter.unusedVariables false

def sCells (u : Bool) (i r l : Int) : Array Value := #[.bool u, .int .i64 i, .int .i64 r, .int .i64 l]
/-- What holds of the stretch and the two counts when round k begins. -/
def WayInv (u : Bool) (i r l ups downs : Int) (k : Nat) : Prop := stretchOk i r l = true ∧ r + 1 ≤ k ∧ ups = (if u then i else 0) ∧ downs = (if u then 0 else i)
theorem stretchOk_bounds {i r l : Int} (h : stretchOk i r l = true) : 0 ≤ i ∧ i ≤ r ∧ r ≤ 1000000 ∧ 1 ≤ l ∧ l ≤ 100 := by
  simp [stretchOk, inR] at h
  omega
theorem stretchOk_mk {i r l : Int} (h : 0 ≤ i ∧ i ≤ r ∧ r ≤ 1000000 ∧ 1 ≤ l ∧ l ≤ 100) : stretchOk i r l = true := by
  simp [stretchOk, inR]
  omega

theorem leave_zero (r l : Int) : leaveInside 0 r l = 0 := by simp [leaveInside]
theorem leave_pos {i r l : Int} (h : stretchOk i r l = true) (hi : 0 < i) : leaveInside i r l = i - 1 := by simp [leaveInside, h, hi]

set_option maxHeartbeats 400000 in
theorem btoi_any (b : Bool) (w : World) : Calls Try.prog 33 #[.bool b] w fun e w' => e = .returned (.int .i64 (if b then 1 else 0)) ∧ w = w' := by
  cases b
  all_goals
    go_enter Try.func33, Try.ntmps33
    go_wp2
    go_ret
    exact ⟨rfl, rfl⟩
theorem mayPass_alone {u : Bool} {i r l : Int} {up oth : Bool} (h : mayPass u i r l up oth = true) : mayPass u i r l up false = true := by
  by_cases hu : up = u
  · simp only [mayPass, if_pos hu, Bool.and_eq_true] at h ⊢
    exact ⟨h.1, by simp⟩
  · simp only [mayPass, if_neg hu] at h ⊢
    exact h
theorem enter_eq {u : Bool} {i r l : Int} {up : Bool} (h : mayPass u i r l up false = true) (hr : r ≠ 1000000) : enterS u i r l up = (up, i + 1, if up == u then r + 1 else 1) := by
  have : (r == 1000000) = false := by simpa using hr
  simp [enterS, h, this]
theorem mayPass_facts {u : Bool} {i r l : Int} {up oth : Bool} (h : mayPass u i r l up oth = true) : if up = u then (oth = true → r < l) else i = 0 := by
  cases u <;> cases up <;> cases oth <;> simp [mayPass] at * <;> simp [*]

set_option maxHeartbeats 8000000 in
set_option maxRecDepth 100000 in
theorem oneWay_any (a : Option Addr) (n c : Nat) (xs : List Int) (w : World) (hn : n = xs.length) (hs : n ≤ maxLen) (hf : BytesAt w a xs) :
    Calls Try.prog 8 #[.slice a n c] w fun e w' => e = .returned (.bool true) ∧ Ext w w' := by
  have HS := Lib.hid hs
  have HF := Lib.hid hf; clear hf
  have HN := Lib.hid hn; clear hn
  by_cases hsz : (1048576 : Int) < n
  · have hd : decide ((1048576 : Int) < n) = true := by simpa using hsz
    go_enter Try.func8, Try.ntmps8
    go_wp2_with ((go_at_call 29; refine (big_any _ _ _ _ HS.out).mono ?_; rintro e w' ⟨rfl, rfl⟩))
    go_ret
    exact ⟨rfl, by (repeat' (first | (with_reducible exact Ext.refl _) | (with_reducible assumption) | (with_reducible refine Ext.alloc ?_ _) | (with_reducible refine Ext.drewN ?_ _) | (with_reducible refine Ext.drew ?_) | (with_reducible refine Ext.setCell ?_ ?_ _) | (with_reducible exact Nat.le_refl _) | (with_reducible exact Nat.le_succ _) | (with_reducible refine Ext.trans ?_ (by assumption)) | (simp; done) | (simp; omega)))⟩
  have hs2 : n ≤ 1048576 := by omega
  have hd : decide ((1048576 : Int) < n) = false := by simpa using hsz
  go_enter Try.func8, Try.ntmps8
  go_wp2_with fail
  refine (big_any _ _ _ _ HS.out).mono ?_
  rintro e w1 ⟨rfl, rfl⟩
  go_wp2_with fail
  refine (at_any _ _ _ xs 0 _ HN.out hs2 (by omega) (by omega) HF.out).mono ?_
  rintro e w1 ⟨z0, hz0, hz1, rfl, rfl⟩
  go_wp2
  go_loopw [4, 5, 6] (fun up dn kk wr => ∃ (k : Nat) (u : Bool) (i r l ups downs : Int), 1 ≤ k ∧ k ≤ 40 ∧ kk = .int .i64 k ∧ up = .int .i64 ups ∧ dn = .int .i64 downs ∧ Ext w wr ∧ RowAt wr w.heap.size 31 (sCells u i r l) ∧ Hid (WayInv u i r l ups downs k)) (fun _ _ kk _ => 40 - (intOf kk).toNat)
  case atStart => exact ⟨1, false, 0, 0, z0 % 4 + 1, 0, 0, by omega, by omega, rfl, rfl, rfl, by (repeat' (first | (with_reducible exact Ext.refl _) | (with_reducible assumption) | (with_reducible refine Ext.alloc ?_ _) | (with_reducible refine Ext.drewN ?_ _) | (with_reducible refine Ext.drew ?_) | (with_reducible refine Ext.setCell ?_ ?_ _) | (with_reducible exact Nat.le_refl _) | (with_reducible exact Nat.le_succ _) | (with_reducible refine Ext.trans ?_ (by assumption)) | (simp; done) | (simp; omega))), by (have := RowAt.new w 31 (sCells false 0 0 (1 + z0 % 4)); rw [Int.add_comm (z0 % 4) 1]; exact this), ⟨stretchOk_mk (by omega), by omega, rfl, rfl⟩⟩
  case round =>
    obtain ⟨k, u, i, r, l, ups, downs, hk1, hk2, rfl, rfl, rfl, hr, hrow, hinv⟩ := hrel
    obtain ⟨hok, hrk, hups, hdns⟩ := hinv.out
    clear hinv
    have hbd := stretchOk_bounds hok
    have hB : w.heap.size < wr.heap.size := hrow.lt
    have HU := Lib.hid hups; clear hups
    have HD := Lib.hid hdns; clear hdns
    by_cases hlt : k < 40
    · go_wp2_with fail
      refine (at_any _ _ _ xs k _ HN.out hs2 (by omega) (by omega) (HF.out.ext hr)).mono ?_
      rintro e w1 ⟨z, hz2, hz3, rfl, rfl⟩
      have g0 : wr.cell? ⟨w.heap.size, 0, none⟩ = some (.bool _) := hrow.cell (j := 0) rfl
      have g1 : wr.cell? ⟨w.heap.size, 1, none⟩ = some (.int .i64 _) := hrow.cell (j := 1) rfl
      have g2 : wr.cell? ⟨w.heap.size, 2, none⟩ = some (.int .i64 _) := hrow.cell (j := 2) rfl
      have g3 : wr.cell? ⟨w.heap.size, 3, none⟩ = some (.int .i64 _) := hrow.cell (j := 3) rfl
      have f0 := hrow.frozen 0
      have f1 := hrow.frozen 1
      have f2 := hrow.frozen 2
      have f3 := hrow.frozen 3
      have f4 := fun o => (hrow.alloc o).frozen 0
      have f5 := fun o => (hrow.alloc o).frozen 1
      have f6 := fun o => (hrow.alloc o).frozen 2
      have f7 := fun o => (hrow.alloc o).frozen 3
      have hB' := hrow.lt
      cases h3 : (z % 3 == 0)
      · obtain ⟨up, hup⟩ : ∃ up, (z % 2 == 0) = up := ⟨_, rfl⟩
        obtain ⟨oth, hoth⟩ : ∃ oth, (z % 5 == 0) = oth := ⟨_, rfl⟩
        cases hm : mayPass u i r l up oth
        · cases u
          all_goals rcases (by omega : i = 0 ∨ 0 < i) with rfl | hi
          all_goals
            first | obtain rfl : ups = 0 := HU.out | obtain rfl : ups = 1 := HU.out | obtain rfl : i = ups := HU.out.symm
            first | obtain rfl : downs = 0 := HD.out | obtain rfl : downs = 1 := HD.out | obtain rfl : i = downs := HD.out.symm
            try clear HU
            try clear HD
            go_wp2_with fail
            refine (implMayPass_any _ _ _ _ _ _ _).mono ?_
            rintro e w2 ⟨rfl, hb2⟩
            rw [hm]
            have r2 := hrow.ext hb2
            have g0 : w2.cell? ⟨w.heap.size, 0, none⟩ = some (.bool _) := r2.cell (j := 0) rfl
            have g1 : w2.cell? ⟨w.heap.size, 1, none⟩ = some (.int .i64 _) := r2.cell (j := 1) rfl
            have g2 : w2.cell? ⟨w.heap.size, 2, none⟩ = some (.int .i64 _) := r2.cell (j := 2) rfl
            have g3 : w2.cell? ⟨w.heap.size, 3, none⟩ = some (.int .i64 _) := r2.cell (j := 3) rfl
            have f0 := r2.frozen 0
            have f1 := r2.frozen 1
            have f2 := r2.frozen 2
            have f3 := r2.frozen 3
            have f4 := fun o => (r2.alloc o).frozen 0
            have f5 := fun o => (r2.alloc o).frozen 1
            have f6 := fun o => (r2.alloc o).frozen 2
            have f7 := fun o => (r2.alloc o).frozen 3
            have hB' := r2.lt
            go_wp2_with fail
            refine (implStretchOk_any _ _ _ _ _).mono ?_
            rintro e w4 ⟨rfl, hb4⟩
            rw [show stretchOk _ _ l = true from stretchOk_mk (by omega)]
            have r4 := (r2).ext hb4
            go_wp2
            go_roundw
            case rel => exact ⟨k + 1, _, _, _, l, _, _, by omega, by omega, by go_num, rfl, rfl, by (repeat' (first | (with_reducible exact Ext.refl _) | (with_reducible assumption) | (with_reducible refine Ext.alloc ?_ _) | (with_reducible refine Ext.drewN ?_ _) | (with_reducible refine Ext.drew ?_) | (with_reducible refine Ext.setCell ?_ ?_ _) | (with_reducible exact Nat.le_refl _) | (with_reducible exact Nat.le_succ _) | (with_reducible refine Ext.trans ?_ (by assumption)) | (simp; done) | (simp; omega))), r4, ⟨stretchOk_mk (by omega), by omega, rfl, rfl⟩⟩
            case measure => simp [intOf]; omega
        · have hmf : mayPass u i r l up false = true := mayPass_alone hm
          have hne : r ≠ 1000000 := by omega
          have hen := enter_eq hmf hne
          have hfact := mayPass_facts hm
          have HE := Lib.hid hen; clear hen
          have HMF := Lib.hid hmf; clear hmf
          have HFA := Lib.hid hfact; clear hfact
          have HM := Lib.hid hm; clear hm
          cases u <;> cases up <;> cases oth
          all_goals
            have hfa := HFA.out
            simp at hfa
            first | (obtain rfl : i = 0 := hfa) | skip
            first | obtain rfl : ups = 0 := HU.out | obtain rfl : ups = 1 := HU.out | obtain rfl : i = ups := HU.out.symm
            first | obtain rfl : downs = 0 := HD.out | obtain rfl : downs = 1 := HD.out | obtain rfl : i = downs := HD.out.symm
            try clear HU
            try clear HD
            go_wp2_with fail
            refine (implMayPass_any _ _ _ _ _ _ _).mono ?_
            rintro e w2 ⟨rfl, hb2⟩
            rw [HM.out]
            have r2 := hrow.ext hb2
            have g0 : w2.cell? ⟨w.heap.size, 0, none⟩ = some (.bool _) := r2.cell (j := 0) rfl
            have g1 : w2.cell? ⟨w.heap.size, 1, none⟩ = some (.int .i64 _) := r2.cell (j := 1) rfl
            have g2 : w2.cell? ⟨w.heap.size, 2, none⟩ = some (.int .i64 _) := r2.cell (j := 2) rfl
            have g3 : w2.cell? ⟨w.heap.size, 3, none⟩ = some (.int .i64 _) := r2.cell (j := 3) rfl
            have f0 := r2.frozen 0
            have f1 := r2.frozen 1
            have f2 := r2.frozen 2
            have f3 := r2.frozen 3
            have f4 := fun o => (r2.alloc o).frozen 0
            have f5 := fun o => (r2.alloc o).frozen 1
            have f6 := fun o => (r2.alloc o).frozen 2
            have f7 := fun o => (r2.alloc o).frozen 3
            have hB' := r2.lt
            go_wp2_with fail
            refine (implEnterStretch_any _ _ _ _ _ _).mono ?_
            rintro e w3 ⟨rfl, hb3⟩
            rw [HE.out]
            dsimp only
            have r3 := r2.ext hb3
            have g0 : w3.cell? ⟨w.heap.size, 0, none⟩ = some (.bool _) := r3.cell (j := 0) rfl
            have g1 : w3.cell? ⟨w.heap.size, 1, none⟩ = some (.int .i64 _) := r3.cell (j := 1) rfl
            have g2 : w3.cell? ⟨w.heap.size, 2, none⟩ = some (.int .i64 _) := r3.cell (j := 2) rfl
            have g3 : w3.cell? ⟨w.heap.size, 3, none⟩ = some (.int .i64 _) := r3.cell (j := 3) rfl
            have f0 := r3.frozen 0
            have f1 := r3.frozen 1
            have f2 := r3.frozen 2
            have f3 := r3.frozen 3
            have f4 := fun o => (r3.alloc o).frozen 0
            have f5 := fun o => (r3.alloc o).frozen 1
            have f6 := fun o => (r3.alloc o).frozen 2
            have f7 := fun o => (r3.alloc o).frozen 3
            have hB' := r3.lt
            go_wp2_with fail
            refine (btoi_any _ _).mono ?_
            rintro e w5 ⟨rfl, rfl⟩
            simp only [if_true, Bool.false_eq_true, if_false]
            go_wp2_with fail
            refine (btoi_any _ _).mono ?_
            rintro e w5 ⟨rfl, rfl⟩
            simp only [if_true, Bool.false_eq_true, if_false]
            go_wp2_with fail
            refine (implStretchOk_any _ _ _ _ _).mono ?_
            rintro e w4 ⟨rfl, hb4⟩
            rw [show stretchOk _ _ l = true from stretchOk_mk (by omega)]
            have r4 := (((((r3.set 0 _).set 1 _).set 2 _).set 3 _)).ext hb4
            go_wp2
            go_roundw
            case rel => exact ⟨k + 1, _, _, _, l, _, _, by omega, by omega, by go_num, rfl, rfl, by (repeat' (first | (with_reducible exact Ext.refl _) | (with_reducible assumption) | (with_reducible refine Ext.alloc ?_ _) | (with_reducible refine Ext.drewN ?_ _) | (with_reducible refine Ext.drew ?_) | (with_reducible refine Ext.setCell ?_ ?_ _) | (with_reducible exact Nat.le_refl _) | (with_reducible exact Nat.le_succ _) | (with_reducible refine Ext.trans ?_ (by assumption)) | (simp; done) | (simp; omega))), r4, ⟨stretchOk_mk (by omega), by omega, rfl, rfl⟩⟩
            case measure => simp [intOf]; omega
      · cases u
        all_goals rcases (by omega : i = 0 ∨ i = 1 ∨ 1 < i) with rfl | rfl | hi
        all_goals
          first | obtain rfl : ups = 0 := HU.out | obtain rfl : ups = 1 := HU.out | obtain rfl : i = ups := HU.out.symm
          first | obtain rfl : downs = 0 := HD.out | obtain rfl : downs = 1 := HD.out | obtain rfl : i = downs := HD.out.symm
          try clear HU
          try clear HD
          go_wp2_with fail
          refine (implLeaveStretch_any _ _ _ _ _ (by omega)).mono ?_
          rintro e w2 ⟨rfl, hb2⟩
          have r2 := hrow.ext hb2
          have g0 : w2.cell? ⟨w.heap.size, 0, none⟩ = some (.bool _) := r2.cell (j := 0) rfl
          have g1 : w2.cell? ⟨w.heap.size, 1, none⟩ = some (.int .i64 _) := r2.cell (j := 1) rfl
          have g2 : w2.cell? ⟨w.heap.size, 2, none⟩ = some (.int .i64 _) := r2.cell (j := 2) rfl
          have g3 : w2.cell? ⟨w.heap.size, 3, none⟩ = some (.int .i64 _) := r2.cell (j := 3) rfl
          have f0 := r2.frozen 0
          have f1 := r2.frozen 1
          have f2 := r2.frozen 2
          have f3 := r2.frozen 3
          have f4 := fun o => (r2.alloc o).frozen 0
          have f5 := fun o => (r2.alloc o).frozen 1
          have f6 := fun o => (r2.alloc o).frozen 2
          have f7 := fun o => (r2.alloc o).frozen 3
          have hB' := r2.lt
          first | rw [leave_zero] | rw [leave_pos hok (by omega)]
          go_wp2_with fail
          refine (implStretchOk_any _ _ _ _ _).mono ?_
          rintro e w4 ⟨rfl, hb4⟩
          rw [show stretchOk _ _ l = true from stretchOk_mk (by omega)]
          have r4 := (((((r2.set 0 _).set 1 _).set 2 _).set 3 _).alloc _).ext hb4
          go_wp2
          go_roundw
          case rel => exact ⟨k + 1, _, _, _, l, _, _, by omega, by omega, by go_num, rfl, rfl, by (repeat' (first | (with_reducible exact Ext.refl _) | (with_reducible assumption) | (with_reducible refine Ext.alloc ?_ _) | (with_reducible refine Ext.drewN ?_ _) | (with_reducible refine Ext.drew ?_) | (with_reducible refine Ext.setCell ?_ ?_ _) | (with_reducible exact Nat.le_refl _) | (with_reducible exact Nat.le_succ _) | (with_reducible refine Ext.trans ?_ (by assumption)) | (simp; done) | (simp; omega))), r4, ⟨stretchOk_mk (by omega), by omega, rfl, rfl⟩⟩
          case measure => simp [intOf]; omega
    · have hu0 : 0 ≤ ups := by have := HU.out; split at this <;> omega
      have hd0 : 0 ≤ downs := by have := HD.out; split at this <;> omega
      go_wp2
      go_ret
      exact ⟨rfl, by (repeat' (first | (with_reducible exact Ext.refl _) | (with_reducible assumption) | (with_reducible refine Ext.alloc ?_ _) | (with_reducible refine Ext.drewN ?_ _) | (with_reducible refine Ext.drew ?_) | (with_reducible refine Ext.setCell ?_ ?_ _) | (with_reducible exact Nat.le_refl _) | (with_reducible exact Nat.le_succ _) | (with_reducible refine Ext.trans ?_ (by assumption)) | (simp; done) | (simp; omega)))⟩
end Go.Proofs.Ytpfofheligacfaa
