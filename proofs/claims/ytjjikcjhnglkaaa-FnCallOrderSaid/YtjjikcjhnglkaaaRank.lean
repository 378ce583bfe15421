/- RankOf: what it computes, on both sides. -/
import Derived.Test.YtjjikcjhnglkaaaProg
import Derived.Test.YtjjikcjhnglkaaaCall
namespace Go.Proofs.Ytjjikcjhnglkaaa
open Go.RowKit
set_option linter.unusedSimpArgs false
set_option linter.unusedVariables false

theorem cls_bounds {rows : List (List Bt)} (h : trainOk rows = true) : 0 ≤ classOf rows ∧ classOf rows ≤ 2 := by
  obtain ⟨b0, r, rs, hr⟩ := trainOk_head h
  have hb : ∀ b ∈ rows.flatten, 0 ≤ b.cls ∧ b.cls ≤ 2 := fun b hb => (bOk_bounds (boatsGo_ok _ _ (trainOk_true h).2.2.2.2.2 b hb)).2.2.2.2.2
  have key : ∀ (bs : List Bt) (n : Int), 0 ≤ n → n ≤ 2 → (∀ b ∈ bs, 0 ≤ b.cls ∧ b.cls ≤ 2) → 0 ≤ clsGo n bs ∧ clsGo n bs ≤ 2 := by
    intro bs
    induction bs with
    | nil => intro n h0 h1 _; exact ⟨h0, h1⟩
    | cons b bs ih =>
      intro n h0 h1 hbs
      have hb := hbs b (by simp)
      exact ih (if b.cls < n then b.cls else n) (by split <;> omega) (by split <;> omega) (fun c hc => hbs c (by simp [hc]))
  unfold classOf
  rw [if_pos h]
  rw [hr] at hb ⊢
  have h0 := hb b0 (by simp)
  exact key _ _ h0.1 h0.2 hb

def rankOf (rows : List (List Bt)) (si bo now : Int) : Int :=
  if callOk rows si bo = true ∧ inR now si 1000000 = true then (if bo ≠ -1 ∧ bo ≤ now then -1 else if (now - si) / 20 < classOf rows then classOf rows - (now - si) / 20 else 0) else 3

set_option maxHeartbeats 2000000 in
theorem implRankOf_any (u : Bool) (a : Option Addr) (n c : Nat) (si bo now : Int) (rows : List (List Bt)) (w : World) (hn : n = rows.length) (hs : n ≤ 1048576) (ht : rows.flatten.length ≤ 1048576) (hf : RowsAt w a rows) :
    Calls Try.prog 13 #[.agg #[.bool u, .slice a n c, .int .i64 si, .int .i64 bo], .int .i64 now] w fun e w' => e = .returned (.int .i64 (rankOf rows si bo now)) ∧ Ext w w' := by
  have HF := Lib.hid hf; clear hf
  have HS := Lib.hid hs; clear hs
  have HT := Lib.hid ht; clear ht
  have HN := Lib.hid hn; clear hn
  obtain ⟨R, hR⟩ : ∃ R, rankOf rows si bo now = R := ⟨_, rfl⟩
  rw [hR]
  have HR := Lib.hid hR; clear hR
  cases hok : callOk rows si bo
  · have OK := Lib.hid hok; clear hok
    have hR := Lib.hid (show R = 3 by rw [← HR.out, rankOf, if_neg (by rw [OK.out]; simp)])
    go_enter Try.func13, Try.ntmps13
    go_wp2_with fail
    (with_reducible refine (OK.out ▸ implCallOk_any _ _ _ _ _ _ rows _ HN.out HS.out HT.out (HF.out.ext (by (repeat' (first | (with_reducible exact Ext.refl _) | (with_reducible assumption) | (with_reducible refine Ext.alloc ?_ _) | (with_reducible refine Ext.drewN ?_ _) | (with_reducible refine Ext.drew ?_) | (with_reducible refine Ext.setCell ?_ ?_ _) | (with_reducible exact Nat.le_refl _) | (with_reducible exact Nat.le_succ _) | (with_reducible refine Ext.trans ?_ (by assumption)) | (simp; done) | (simp; omega)))))).mono ?_); rintro e w1 ⟨rfl, hb1⟩
    have x0_1 := hb1
    obtain ⟨hc0_1, hf0_1⟩ := bcell x0_1.below
    have z0_1_0 : w.heap.size < w1.heap.size := by have h := x0_1.size; simp at h; omega
    have hx := Ext.trans ((Ext.refl w).alloc _) hb1
    go_wp2_with (go_at_call 21; refine (inRange_any _ _ _ _).mono ?_; rintro e w' ⟨rfl, rfl⟩)
    go_ret
    exact ⟨ret_int hR.out.symm, by (repeat' (first | (with_reducible exact Ext.refl _) | (with_reducible assumption) | (with_reducible refine Ext.alloc ?_ _) | (with_reducible refine Ext.drewN ?_ _) | (with_reducible refine Ext.drew ?_) | (with_reducible refine Ext.setCell ?_ ?_ _) | (with_reducible exact Nat.le_refl _) | (with_reducible exact Nat.le_succ _) | (with_reducible refine Ext.trans ?_ (by assumption)) | (simp; done) | (simp; omega)))⟩
  cases hin : inR now si 1000000
  · have OK := Lib.hid hok; clear hok
    have hR := Lib.hid (show R = 3 by rw [← HR.out, rankOf, if_neg (by rw [hin]; simp)])
    go_enter Try.func13, Try.ntmps13
    go_wp2_with fail
    (with_reducible refine (OK.out ▸ implCallOk_any _ _ _ _ _ _ rows _ HN.out HS.out HT.out (HF.out.ext (by (repeat' (first | (with_reducible exact Ext.refl _) | (with_reducible assumption) | (with_reducible refine Ext.alloc ?_ _) | (with_reducible refine Ext.drewN ?_ _) | (with_reducible refine Ext.drew ?_) | (with_reducible refine Ext.setCell ?_ ?_ _) | (with_reducible exact Nat.le_refl _) | (with_reducible exact Nat.le_succ _) | (with_reducible refine Ext.trans ?_ (by assumption)) | (simp; done) | (simp; omega)))))).mono ?_); rintro e w1 ⟨rfl, hb1⟩
    have x0_1 := hb1
    obtain ⟨hc0_1, hf0_1⟩ := bcell x0_1.below
    have z0_1_0 : w.heap.size < w1.heap.size := by have h := x0_1.size; simp at h; omega
    have hx := Ext.trans ((Ext.refl w).alloc _) hb1
    go_wp2_with (go_at_call 21; refine (inRange_any _ _ _ _).mono ?_; rintro e w' ⟨rfl, rfl⟩)
    go_ret
    exact ⟨ret_int hR.out.symm, by (repeat' (first | (with_reducible exact Ext.refl _) | (with_reducible assumption) | (with_reducible refine Ext.alloc ?_ _) | (with_reducible refine Ext.drewN ?_ _) | (with_reducible refine Ext.drew ?_) | (with_reducible refine Ext.setCell ?_ ?_ _) | (with_reducible exact Nat.le_refl _) | (with_reducible exact Nat.le_succ _) | (with_reducible refine Ext.trans ?_ (by assumption)) | (simp; done) | (simp; omega)))⟩
  have hRR : R = (if bo ≠ -1 ∧ bo ≤ now then -1 else if (now - si) / 20 < classOf rows then classOf rows - (now - si) / 20 else 0) := by rw [← HR.out, rankOf, if_pos ⟨hok, hin⟩]
  have hbounds := inR_true hin
  have hck := hok
  unfold callOk at hck
  rw [Bool.and_eq_true, Bool.and_eq_true] at hck
  have hsi := inR_true hck.1.2
  have hbo := inR_true hck.2
  have hcl := cls_bounds hck.1.1
  have HTR := Lib.hid hck.1.1
  clear hck
  obtain ⟨hb0, hb1⟩ := hbounds
  obtain ⟨hs0, hs1⟩ := hsi
  obtain ⟨ho0, ho1⟩ := hbo
  have OK := Lib.hid hok; clear hok
  by_cases hbk : bo = -1 ∨ now < bo
  · have hR := Lib.hid (show R = if (now - si) / 20 < classOf rows then classOf rows - (now - si) / 20 else 0 by rw [hRR, if_neg (by omega)])
    clear hRR
    obtain ⟨k, hk⟩ : ∃ k, classOf rows = k := ⟨_, rfl⟩
    rw [hk] at hcl hR
    obtain ⟨hc0, hc1⟩ := hcl
    have HK := Lib.hid hk; clear hk
    have hd : ∀ x : Int, x = (now - si) / 20 → 0 ≤ x ∧ x ≤ 50000 := fun x e => by omega
    have HD := Lib.hid hd; clear hd
    go_enter Try.func13, Try.ntmps13
    go_wp2_with fail
    (with_reducible refine (OK.out ▸ implCallOk_any _ _ _ _ _ _ rows _ HN.out HS.out HT.out (HF.out.ext (by (repeat' (first | (with_reducible exact Ext.refl _) | (with_reducible assumption) | (with_reducible refine Ext.alloc ?_ _) | (with_reducible refine Ext.drewN ?_ _) | (with_reducible refine Ext.drew ?_) | (with_reducible refine Ext.setCell ?_ ?_ _) | (with_reducible exact Nat.le_refl _) | (with_reducible exact Nat.le_succ _) | (with_reducible refine Ext.trans ?_ (by assumption)) | (simp; done) | (simp; omega)))))).mono ?_); rintro e w1 ⟨rfl, hb1⟩
    have x0_1 := hb1
    obtain ⟨hc0_1, hf0_1⟩ := bcell x0_1.below
    have z0_1_0 : w.heap.size < w1.heap.size := by have h := x0_1.size; simp at h; omega
    have hx := Ext.trans ((Ext.refl w).alloc _) hb1
    have hrow := (RowAt.new w 34 #[.bool u, .slice a n c, .int .i64 si, .int .i64 bo]).ext x0_1
    have j0 : ∀ x : Aft w1, x.1.cell? ⟨w.heap.size, 0, none⟩ = some (.bool u) := fun x => (hrow.ext x.2).cell rfl
    have j1 : ∀ x : Aft w1, x.1.cell? ⟨w.heap.size, 1, none⟩ = some (.slice a n c) := fun x => (hrow.ext x.2).cell rfl
    have j2 : ∀ x : Aft w1, x.1.cell? ⟨w.heap.size, 2, none⟩ = some (.int .i64 si) := fun x => (hrow.ext x.2).cell rfl
    have j3 : ∀ x : Aft w1, x.1.cell? ⟨w.heap.size, 3, none⟩ = some (.int .i64 bo) := fun x => (hrow.ext x.2).cell rfl
    have HX := Lib.hid hx
    clear hrow
    rcases hbk with hbk | hbk
    · subst hbk
      go_wp2_with (go_at_call 21; refine (inRange_any _ _ _ _).mono ?_; rintro e w' ⟨rfl, rfl⟩)
      (refine wp_region_aft w1 (Ext.refl _) (by kernel_rfl) (by kernel_rfl) ?_; (repeat (go_big_quiet_step ((go_at_call 22; exact aft_call (HK.out ▸ implClassOf_any _ _ _ _ rows _ HN.out HS.out HT.out (HF.out.ext (HX.out.trans (Subtype.property _)))))))); refine wpQuiet_nil ?_; intro w2 hx2)
      go_wp2
      all_goals
        go_ret
        exact ⟨ret_int (by have := hR.out; split at this <;> omega), by (repeat' (first | (with_reducible exact Ext.refl _) | (with_reducible assumption) | (with_reducible refine Ext.alloc ?_ _) | (with_reducible refine Ext.drewN ?_ _) | (with_reducible refine Ext.drew ?_) | (with_reducible refine Ext.setCell ?_ ?_ _) | (with_reducible exact Nat.le_refl _) | (with_reducible exact Nat.le_succ _) | (with_reducible refine Ext.trans ?_ (by assumption)) | (simp; done) | (simp; omega)))⟩
    · have q1 : (bo == -1) = false := by simp; omega
      have q2 : decide (bo ≤ now) = false := by simp; omega
      have q3 : inR bo 0 now = false := by unfold inR; apply decide_eq_false; omega
      go_wp2_with (go_at_call 21; refine (inRange_any _ _ _ _).mono ?_; rintro e w' ⟨rfl, rfl⟩)
      (refine wp_region_aft w1 (Ext.refl _) (by kernel_rfl) (by kernel_rfl) ?_; (repeat (go_big_quiet_step ((go_at_call 22; exact aft_call (HK.out ▸ implClassOf_any _ _ _ _ rows _ HN.out HS.out HT.out (HF.out.ext (HX.out.trans (Subtype.property _)))))))); refine wpQuiet_nil ?_; intro w2 hx2)
      go_wp2
      all_goals
        go_ret
        exact ⟨ret_int (by have := hR.out; split at this <;> omega), by (repeat' (first | (with_reducible exact Ext.refl _) | (with_reducible assumption) | (with_reducible refine Ext.alloc ?_ _) | (with_reducible refine Ext.drewN ?_ _) | (with_reducible refine Ext.drew ?_) | (with_reducible refine Ext.setCell ?_ ?_ _) | (with_reducible exact Nat.le_refl _) | (with_reducible exact Nat.le_succ _) | (with_reducible refine Ext.trans ?_ (by assumption)) | (simp; done) | (simp; omega)))⟩
  · have hR := Lib.hid (show R = -1 by rw [hRR, if_pos (by omega)])
    clear hRR hcl
    have q1 : (bo == -1) = false := by simp; omega
    have q2 : decide (bo ≤ now) = true := by simp; omega
    have q3 : inR bo 0 now = true := by unfold inR; apply decide_eq_true; omega
    go_enter Try.func13, Try.ntmps13
    go_wp2_with fail
    (with_reducible refine (OK.out ▸ implCallOk_any _ _ _ _ _ _ rows _ HN.out HS.out HT.out (HF.out.ext (by (repeat' (first | (with_reducible exact Ext.refl _) | (with_reducible assumption) | (with_reducible refine Ext.alloc ?_ _) | (with_reducible refine Ext.drewN ?_ _) | (with_reducible refine Ext.drew ?_) | (with_reducible refine Ext.setCell ?_ ?_ _) | (with_reducible exact Nat.le_refl _) | (with_reducible exact Nat.le_succ _) | (with_reducible refine Ext.trans ?_ (by assumption)) | (simp; done) | (simp; omega)))))).mono ?_); rintro e w1 ⟨rfl, hb1⟩
    have x0_1 := hb1
    obtain ⟨hc0_1, hf0_1⟩ := bcell x0_1.below
    have z0_1_0 : w.heap.size < w1.heap.size := by have h := x0_1.size; simp at h; omega
    have hx := Ext.trans ((Ext.refl w).alloc _) hb1
    go_wp2_with (go_at_call 21; refine (inRange_any _ _ _ _).mono ?_; rintro e w' ⟨rfl, rfl⟩)
    go_ret
    exact ⟨ret_int hR.out.symm, by (repeat' (first | (with_reducible exact Ext.refl _) | (with_reducible assumption) | (with_reducible refine Ext.alloc ?_ _) | (with_reducible refine Ext.drewN ?_ _) | (with_reducible refine Ext.drew ?_) | (with_reducible refine Ext.setCell ?_ ?_ _) | (with_reducible exact Nat.le_refl _) | (with_reducible exact Nat.le_succ _) | (with_reducible refine Ext.trans ?_ (by assumption)) | (simp; done) | (simp; omega)))⟩
end Go.Proofs.Ytjjikcjhnglkaaa
