/- FnPauses: the next time at which a lock is open is the first one. -/
import Derived.Test.YtpfofheligacfaaProg
import Derived.Test.YtpfofheligacfaaDrawPauses
namespace Go.Proofs.Ytpfofheligacfaa
open Go.RowKit
set_option linter.unusedSimpArgs false
set_option linter.unusedVariables false

theorem next_before : ∀ (ps : List (Int × Int)) (bef t : Int), t < bef → pausesGo bef ps = true → nextGo t ps = t ∧ openGo t ps = true
  | [], _, _, _, _ => ⟨rfl, rfl⟩
  | p :: ps, bef, t, h, hp => by
    simp only [pausesGo] at hp
    split at hp
    · cases hp
    split at hp
    · cases hp
    split at hp
    · cases hp
    have ih := next_before ps p.2 t (by omega) hp
    simp only [nextGo, openGo]
    rw [if_neg (by omega), if_neg (by omega)]
    exact ih
theorem next_spec : ∀ (ps : List (Int × Int)) (bef t M : Int), pausesGo bef ps = true → (∀ p ∈ ps, p.2 ≤ M) → t ≤ M →
    t ≤ nextGo t ps ∧ nextGo t ps ≤ M ∧ openGo (nextGo t ps) ps = true ∧ ∀ i, t ≤ i → i < nextGo t ps → openGo i ps = false
  | [], _, t, _, _, _, h => ⟨Int.le_refl _, h, rfl, fun i h1 h2 => by simp only [nextGo] at h2; omega⟩
  | p :: ps, bef, t, M, hp, hM, ht => by
    simp only [pausesGo] at hp
    split at hp
    · cases hp
    split at hp
    · cases hp
    split at hp
    · cases hp
    have hMp := hM p (by simp)
    have hMs : ∀ q ∈ ps, q.2 ≤ M := fun q hq => hM q (by simp [hq])
    simp only [nextGo]
    by_cases h1 : t < p.1
    · have hb := next_before ps p.2 t (by omega) hp
      rw [if_neg (by omega), hb.1]
      refine ⟨by omega, by omega, ?_, fun i _ _ => by omega⟩
      simp only [openGo]
      rw [if_neg (by omega)]
      exact hb.2
    · by_cases h2 : t < p.2
      · rw [if_pos (by omega)]
        obtain ⟨a1, a2, a3, a4⟩ := next_spec ps p.2 p.2 M hp hMs hMp
        refine ⟨by omega, a2, ?_, fun i hi1 hi2 => ?_⟩
        · simp only [openGo]
          rw [if_neg (by omega)]
          exact a3
        · simp only [openGo]
          split
          · rfl
          · exact a4 i (by omega) hi2
      · rw [if_neg (by omega)]
        obtain ⟨a1, a2, a3, a4⟩ := next_spec ps p.2 t M hp hMs ht
        refine ⟨a1, a2, ?_, fun i hi1 hi2 => ?_⟩
        · simp only [openGo]
          rw [if_neg (by omega)]
          exact a3
        · simp only [openGo]
          rw [if_neg (by omega)]
          exact a4 i hi1 hi2
/-- All that the law asks of the next open time. -/
theorem next_all {ps : List (Int × Int)} (he : EndBy ps 1000) (hl : ps.length ≤ 3) :
    pausesOk ps = true ∧ ∀ t : Int, 0 ≤ t → t ≤ 1000 → t ≤ nextOpen ps t ∧ nextOpen ps t ≤ 1000 ∧ isOpen ps (nextOpen ps t) = true ∧ isOpen ps t = (nextOpen ps t == t) ∧ ∀ i, t ≤ i → i < nextOpen ps t → isOpen ps i = false := by
  have hok : pausesOk ps = true := by simp [pausesOk, he.1]; omega
  refine ⟨hok, fun t h0 h1 => ?_⟩
  have hin : ∀ t : Int, 0 ≤ t → t ≤ 1000 → inR t 0 1000000 = true := fun t _ _ => by simp [inR]; omega
  obtain ⟨a1, a2, a3, a4⟩ := next_spec ps 0 t 1000 he.1 he.2.1 h1
  have hn : nextOpen ps t = nextGo t ps := by simp [nextOpen, hok, hin t h0 h1]
  rw [hn]
  refine ⟨a1, a2, by simp [isOpen, hok, hin _ (by omega) a2, a3], ?_, fun i h2 h3 => by simp [isOpen, a4 i h2 h3]⟩
  by_cases e : nextGo t ps = t
  · have : openGo t ps = true := by rw [← e]; rw [e]; rw [e] at a3; exact a3
    simp [isOpen, hok, hin t h0 h1, this, e]
  · have := a4 t (Int.le_refl _) (by omega)
    simp [isOpen, this, e]

set_option maxHeartbeats 2000000 in
set_option maxRecDepth 100000 in
theorem pauses_any (a : Option Addr) (n c : Nat) (xs : List Int) (w : World) (hn : n = xs.length) (hs : n ≤ maxLen) (hf : BytesAt w a xs) :
    Calls Try.prog 12 #[.slice a n c] w fun e w' => e = .returned (.bool true) ∧ Ext w w' := by
  have HS := Lib.hid hs
  have HF := Lib.hid hf; clear hf
  have HN := Lib.hid hn; clear hn
  by_cases hsz : (1048576 : Int) < n
  · have hd : decide ((1048576 : Int) < n) = true := by simpa using hsz
    go_enter Try.func12, Try.ntmps12
    go_wp2_with ((go_at_call 29; refine (big_any _ _ _ _ HS.out).mono ?_; rintro e w' ⟨rfl, rfl⟩))
    go_ret
    exact ⟨rfl, by (repeat' (first | (with_reducible exact Ext.refl _) | (with_reducible assumption) | (with_reducible refine Ext.alloc ?_ _) | (with_reducible refine Ext.drewN ?_ _) | (with_reducible refine Ext.drew ?_) | (with_reducible refine Ext.setCell ?_ ?_ _) | (with_reducible exact Nat.le_refl _) | (with_reducible exact Nat.le_succ _) | (with_reducible refine Ext.trans ?_ (by assumption)) | (simp; done) | (simp; omega)))⟩
  have hs2 : n ≤ 1048576 := by omega
  have hd : decide ((1048576 : Int) < n) = false := by simpa using hsz
  go_enter Try.func12, Try.ntmps12
  go_wp2_with fail
  refine (big_any _ _ _ _ HS.out).mono ?_
  rintro e w1 ⟨rfl, rfl⟩
  go_wp2_with fail
  refine (DrawPauses_any _ _ _ xs _ HN.out hs2 HF.out).mono ?_
  rintro e w1 ⟨b, cap, ps, rfl, hfl, hlen, hend, hx1⟩
  have HP := Lib.hid (next_all hend hlen)
  have HFL := Lib.hid hfl; clear hfl
  have hmax : ps.length ≤ maxLen := by unfold maxLen; omega
  clear hend
  go_wp2_with fail
  go_loopw [4] (fun t wr => ∃ k : Nat, k ≤ 120 ∧ t = .int .i64 k ∧ Ext w1 wr) (fun t _ => 120 - (intOf t).toNat)
  case atStart => exact ⟨0, by omega, rfl, by (repeat' (first | (with_reducible exact Ext.refl _) | (with_reducible assumption) | (with_reducible refine Ext.alloc ?_ _) | (with_reducible refine Ext.drewN ?_ _) | (with_reducible refine Ext.drew ?_) | (with_reducible refine Ext.setCell ?_ ?_ _) | (with_reducible exact Nat.le_refl _) | (with_reducible exact Nat.le_succ _) | (with_reducible refine Ext.trans ?_ (by assumption)) | (simp; done) | (simp; omega)))⟩
  case round =>
    obtain ⟨k, hk, rfl, hr⟩ := hrel
    obtain ⟨wo, rfl⟩ : ∃ wo : World, wo = wr := ⟨_, rfl⟩
    by_cases hlt : k < 120
    · obtain ⟨q1, q2, q3, q4, q5⟩ := HP.out.2 (k : Int) (by omega) (by omega)
      have Q3 := Lib.hid q3; clear q3
      have Q4 := Lib.hid q4; clear q4
      have Q5 := Lib.hid q5; clear q5
      go_wp2_with fail
      refine (implNextOpen_any _ _ _ ps _ _ rfl hmax (HFL.out.ext hr)).mono ?_
      rintro e w2 ⟨rfl, hx2⟩
      generalize nextOpen ps (k : Int) = m at *
      have hdm : decide (m < (k : Int)) = false := by simpa using q1
      go_wp2_with fail
      refine (implIsOpen_any _ _ _ ps _ _ rfl hmax (HFL.out.ext (by (repeat' (first | (with_reducible exact Ext.refl _) | (with_reducible assumption) | (with_reducible refine Ext.alloc ?_ _) | (with_reducible refine Ext.drewN ?_ _) | (with_reducible refine Ext.drew ?_) | (with_reducible refine Ext.setCell ?_ ?_ _) | (with_reducible exact Nat.le_refl _) | (with_reducible exact Nat.le_succ _) | (with_reducible refine Ext.trans ?_ (by assumption)) | (simp; done) | (simp; omega)))))).mono ?_
      rintro e w3 ⟨rfl, hx3⟩
      rw [Q3.out]
      go_wp2_with fail
      refine (implIsOpen_any _ _ _ ps _ _ rfl hmax (HFL.out.ext (by (repeat' (first | (with_reducible exact Ext.refl _) | (with_reducible assumption) | (with_reducible refine Ext.alloc ?_ _) | (with_reducible refine Ext.drewN ?_ _) | (with_reducible refine Ext.drew ?_) | (with_reducible refine Ext.setCell ?_ ?_ _) | (with_reducible exact Nat.le_refl _) | (with_reducible exact Nat.le_succ _) | (with_reducible refine Ext.trans ?_ (by assumption)) | (simp; done) | (simp; omega)))))).mono ?_
      rintro e w4 ⟨rfl, hx4⟩
      rw [Q4.out]
      go_wp2_with fail
      go_loopw [6] (fun i wr => ∃ z : Int, (k : Int) ≤ z ∧ z ≤ m ∧ i = .int .i64 z ∧ Ext w1 wr) (fun i _ => (m - intOf i).toNat)
      case atStart => exact ⟨k, by omega, by omega, rfl, by (repeat' (first | (with_reducible exact Ext.refl _) | (with_reducible assumption) | (with_reducible refine Ext.alloc ?_ _) | (with_reducible refine Ext.drewN ?_ _) | (with_reducible refine Ext.drew ?_) | (with_reducible refine Ext.setCell ?_ ?_ _) | (with_reducible exact Nat.le_refl _) | (with_reducible exact Nat.le_succ _) | (with_reducible refine Ext.trans ?_ (by assumption)) | (simp; done) | (simp; omega)))⟩
      case round =>
        obtain ⟨z, hz1, hz2, rfl, hr2⟩ := hrel
        by_cases hzm : z < m
        · go_wp2_with fail
          refine (implIsOpen_any _ _ _ ps _ _ rfl hmax (HFL.out.ext hr2)).mono ?_
          rintro e w5 ⟨rfl, hx5⟩
          rw [Q5.out z hz1 hzm]
          go_wp2_with fail
          go_roundw
          case rel => exact ⟨z + 1, by omega, by omega, rfl, by (repeat' (first | (with_reducible exact Ext.refl _) | (with_reducible assumption) | (with_reducible refine Ext.alloc ?_ _) | (with_reducible refine Ext.drewN ?_ _) | (with_reducible refine Ext.drew ?_) | (with_reducible refine Ext.setCell ?_ ?_ _) | (with_reducible exact Nat.le_refl _) | (with_reducible exact Nat.le_succ _) | (with_reducible refine Ext.trans ?_ (by assumption)) | (simp; done) | (simp; omega)))⟩
          case measure => simp [intOf]; omega
        · go_wp2_with fail
          go_roundw
          case rel => exact ⟨k + 1, by omega, by go_num, by (repeat' (first | (with_reducible exact Ext.refl _) | (with_reducible assumption) | (with_reducible refine Ext.alloc ?_ _) | (with_reducible refine Ext.drewN ?_ _) | (with_reducible refine Ext.drew ?_) | (with_reducible refine Ext.setCell ?_ ?_ _) | (with_reducible exact Nat.le_refl _) | (with_reducible exact Nat.le_succ _) | (with_reducible refine Ext.trans ?_ (by assumption)) | (simp; done) | (simp; omega)))⟩
          case measure => simp [intOf]; omega
    · go_wp2_with fail
      refine (implPausesOk_any _ _ _ ps _ rfl hmax (HFL.out.ext hr)).mono ?_
      rintro e w2 ⟨rfl, hx2⟩
      rw [HP.out.1]
      go_wp2
      go_ret
      exact ⟨rfl, by (repeat' (first | (with_reducible exact Ext.refl _) | (with_reducible assumption) | (with_reducible refine Ext.alloc ?_ _) | (with_reducible refine Ext.drewN ?_ _) | (with_reducible refine Ext.drew ?_) | (with_reducible refine Ext.setCell ?_ ?_ _) | (with_reducible exact Nat.le_refl _) | (with_reducible exact Nat.le_succ _) | (with_reducible refine Ext.trans ?_ (by assumption)) | (simp; done) | (simp; omega)))⟩
end Go.Proofs.Ytpfofheligacfaa
