/- For every train and width, the program and the reference agree on the train that ReformTrain returns, and it shares no memory with others. -/
import Derived.Test.YtmcmialaofckkaaRows
import Derived.Test.YtmcmialaofckkaaHead
import Derived.Test.YtmcmialaofckkaaOpenT
import Derived.Test.YtmcmialaofckkaaReformS
import Derived.Deep.RegionHeld3
namespace Go.Proofs.Ytmcmialaofckkaa.lawReformTrain
open Go.ChangeShapes Go.WideShapes Go.ChangeAt Go.RowKit Go.Joins
set_option linter.unusedVariables false
set_option linter.unusedSimpArgs false

theorem addLast_total : ∀ (rows : List (List Bt)) (b : Bt), rows ≠ [] → total (addLast rows b) = total rows + 1
  | [r], b, _ => by simp [addLast, total]
  | r :: r2 :: rs, b, _ => by
    have ih := addLast_total (r2 :: rs) b (by simp)
    have e : addLast (r :: r2 :: rs) b = r :: addLast (r2 :: rs) b := by simp [addLast]
    rw [e]
    simp only [total, List.map_cons, List.sum_cons] at *
    omega
theorem refGo_total : ∀ (bs : List Bt) (W : Int) (acc : List (List Bt)) (used : Int) (x : List (List Bt)), refGo W acc used bs = some x → total x = total acc + bs.length ∧ x.length ≤ acc.length + bs.length
  | [], W, acc, used, x, h => by
    simp only [refGo] at h
    cases h
    exact ⟨by simp, by simp⟩
  | b :: bs, W, acc, used, x, h => by
    simp only [refGo] at h
    split at h
    · cases h
    · split at h
      · rename_i h2
        obtain ⟨k1, k2⟩ := refGo_total bs _ _ _ _ h
        rw [addLast_total acc b (List.length_pos_iff.1 h2.1)] at k1
        rw [addLast_len] at k2
        rw [List.length_cons]
        exact ⟨by omega, by omega⟩
      · obtain ⟨k1, k2⟩ := refGo_total bs _ _ _ _ h
        have e : total (acc ++ [[b]]) = total acc + 1 := by
          unfold total
          rw [List.map_append, List.sum_append]
          rfl
        rw [e] at k1
        rw [List.length_append] at k2
        rw [List.length_cons]
        exact ⟨by omega, by simp at k2; omega⟩
theorem refRes_bounds {u : Bool} {rows : List (List Bt)} {W : Int} {u1 R : Bool} {r1 : List (List Bt)} (h : refRes u rows W = (u1, r1, R)) : r1.length ≤ 1048576 ∧ (∀ r ∈ r1, r.length ≤ 1048576) ∧ total r1 ≤ 1048576 := by
  unfold refRes at h
  split at h
  · rename_i hok
    have h6 := (trainOk_true hok).2.2.2.1
    split at h
    · rename_i x hx
      cases h
      obtain ⟨k1, k2⟩ := refGo_total _ _ _ _ _ hx
      have k1' : total r1 = rows.flatten.length := by rw [k1]; simp [total]
      simp only [List.length_nil] at k2
      refine ⟨by omega, fun r hr => ?_, by omega⟩
      have := total_le hr
      omega
    · cases h
      exact ⟨Nat.zero_le _, (fun r h => by cases h), Nat.zero_le _⟩
  · cases h
    exact ⟨Nat.zero_le _, (fun r h => by cases h), Nat.zero_le _⟩

set_option maxRecDepth 100000 in
set_option maxHeartbeats 8000000 in
theorem walk (u : Bool) (a : Option Addr) (n c : Nat) (rows : List (List Bt)) (k : Int) (w : World) (hn : n = rows.length) (hs : n ≤ maxLen) (hf : RowsAt w a rows) (hik : I64 k) :
    Calls Try.prog 10 #[.agg #[.bool u, .slice a n c], .int .i64 k] w fun e w' => e = .returned (.bool true) ∧ Ext w w' := by
  have HF := Lib.hid hf; clear hf
  have HIK := Lib.hid hik; clear hik
  by_cases hsz : szRows 1048576 rows < 0
  · have HN := Lib.hid hn; clear hn
    have HS := Lib.hid hs; clear hs
    obtain ⟨z, hz⟩ : ∃ z, szRows 1048576 rows = z := ⟨_, rfl⟩
    rw [hz] at hsz
    have HZ := Lib.hid hz; clear hz
    have d0 : decide (z < 0) = true := by simpa using hsz
    go_enter Try.func10, Try.ntmps10
    go_wp2_with fail
    (with_reducible refine (szTrain_is z _ _ _ _ rows _ HN.out HS.out (by decide) (by decide) _ (HF.out.ext (by (repeat' (first | (with_reducible exact Ext.refl _) | (with_reducible assumption) | (with_reducible refine Ext.alloc ?_ _) | (with_reducible refine Ext.drewN ?_ _) | (with_reducible refine Ext.drew ?_) | (with_reducible refine Ext.setCell ?_ ?_ _) | (with_reducible exact Nat.le_refl _) | (with_reducible exact Nat.le_succ _) | (with_reducible refine Ext.trans ?_ (by assumption)) | (simp; done) | (simp; omega))))) HZ.out).mono ?_); rintro e w1 ⟨rfl, hb1⟩
    have x0_1 := hb1
    obtain ⟨hc0_1, hf0_1⟩ := bcell x0_1.below
    have z0_1_0 : w.heap.size < w1.heap.size := by have h := x0_1.size; simp at h; omega
    go_wp2
    go_ret
    exact ⟨rfl, by (repeat' (first | (with_reducible exact Ext.refl _) | (with_reducible assumption) | (with_reducible refine Ext.alloc ?_ _) | (with_reducible refine Ext.drewN ?_ _) | (with_reducible refine Ext.drew ?_) | (with_reducible refine Ext.setCell ?_ ?_ _) | (with_reducible exact Nat.le_refl _) | (with_reducible exact Nat.le_succ _) | (with_reducible refine Ext.trans ?_ (by assumption)) | (simp; done) | (simp; omega)))⟩
  · obtain ⟨hs2, hrs, ht⟩ := szRows_bounds (L := 1048576) (by decide) (by decide) hsz
    obtain ⟨u1, r1, R, hRR⟩ : ∃ u1 r1 R, refRes u rows k = (u1, r1, R) := ⟨_, _, _, rfl⟩
    obtain ⟨l1, q1, t1⟩ := refRes_bounds hRR
    rw [← hn] at hs2
    have HN := Lib.hid hn; clear hn
    have HS := Lib.hid hs; clear hs
    have HR := Lib.hid hrs; clear hrs
    have HT := Lib.hid ht
    obtain ⟨z, hz⟩ : ∃ z, szRows 1048576 rows = z := ⟨_, rfl⟩
    rw [hz] at hsz
    have HZ := Lib.hid hz; clear hz
    have d0 : decide (z < 0) = false := by simpa using hsz
    obtain ⟨n1, hn1⟩ : ∃ m, m = r1.length := ⟨_, rfl⟩
    obtain ⟨T, hT⟩ : ∃ T, total rows = T := ⟨_, rfl⟩
    obtain ⟨T1, hT1⟩ : ∃ T, total r1 = T := ⟨_, rfl⟩
    have hTb : T ≤ 1048576 := by rw [← hT, total_flatten]; exact ht
    rw [hT1] at t1
    rw [← hn1] at l1
    have HN1 := Lib.hid hn1; clear hn1
    have HTT := Lib.hid hT; clear hT
    have HT1 := Lib.hid hT1; clear hT1
    have HQ1 := Lib.hid q1; clear q1
    have HM1 := Lib.hid (show n1 ≤ maxLen by unfold maxLen; omega)
    have HRR := Lib.hid hRR; clear hRR
    clear ht
    have d1 : decide (1 + 6 * (T : Int) < 0) = false := by simp; omega
    have d2 : decide (1 + 6 * (T1 : Int) < 0) = false := by simp; omega
    go_enter Try.func10, Try.ntmps10
    go_wp2_with fail
    (with_reducible refine (szTrain_is z _ _ _ _ rows _ HN.out HS.out (by decide) (by decide) _ (HF.out.ext (by (repeat' (first | (with_reducible exact Ext.refl _) | (with_reducible assumption) | (with_reducible refine Ext.alloc ?_ _) | (with_reducible refine Ext.drewN ?_ _) | (with_reducible refine Ext.drew ?_) | (with_reducible refine Ext.setCell ?_ ?_ _) | (with_reducible exact Nat.le_refl _) | (with_reducible exact Nat.le_succ _) | (with_reducible refine Ext.trans ?_ (by assumption)) | (simp; done) | (simp; omega))))) HZ.out).mono ?_); rintro e w1 ⟨rfl, hb1⟩
    have x0_1 := hb1
    obtain ⟨hc0_1, hf0_1⟩ := bcell x0_1.below
    have z0_1_0 : w.heap.size < w1.heap.size := by have h := x0_1.size; simp at h; omega
    go_wp2_with fail
    (with_reducible refine (toTrain_any _ _ _ _ rows _ HN.out hs2 HR.out (HF.out.ext (by (repeat' (first | (with_reducible exact Ext.refl _) | (with_reducible assumption) | (with_reducible refine Ext.alloc ?_ _) | (with_reducible refine Ext.drewN ?_ _) | (with_reducible refine Ext.drew ?_) | (with_reducible refine Ext.setCell ?_ ?_ _) | (with_reducible exact Nat.le_refl _) | (with_reducible exact Nat.le_succ _) | (with_reducible refine Ext.trans ?_ (by assumption)) | (simp; done) | (simp; omega)))))).mono ?_); rintro e w2 ⟨a2, rfl, ho2, hb2⟩
    have x1_2 := hb2
    have x0_2 : Ext _ w2 := x0_1.trans (Ext.trans (b := _) (by (repeat' (first | (with_reducible exact Ext.refl _) | (with_reducible assumption) | (with_reducible refine Ext.alloc ?_ _) | (with_reducible refine Ext.drewN ?_ _) | (with_reducible refine Ext.drew ?_) | (with_reducible refine Ext.setCell ?_ ?_ _) | (with_reducible exact Nat.le_refl _) | (with_reducible exact Nat.le_succ _) | (with_reducible refine Ext.trans ?_ (by assumption)) | (simp; done) | (simp; omega)))) hb2)
    obtain ⟨hc0_2, hf0_2⟩ := bcell x0_2.below
    have z0_2_0 : w.heap.size < w2.heap.size := by have h := x0_2.size; simp at h; omega
    go_wp2_with fail
    (with_reducible refine (specReform_any u1 R r1 n1 _ _ _ _ rows _ _ HN.out hs2 HT.out ho2.rows HIK.out HRR.out HN1.out).mono ?_); rintro e w3 ⟨p3, pc3, rfl, hi3, hb3⟩
    have x2_3 := hb3
    have x0_3 : Ext _ w3 := x0_2.trans (Ext.trans (b := _) (by (repeat' (first | (with_reducible exact Ext.refl _) | (with_reducible assumption) | (with_reducible refine Ext.alloc ?_ _) | (with_reducible refine Ext.drewN ?_ _) | (with_reducible refine Ext.drew ?_) | (with_reducible refine Ext.setCell ?_ ?_ _) | (with_reducible exact Nat.le_refl _) | (with_reducible exact Nat.le_succ _) | (with_reducible refine Ext.trans ?_ (by assumption)) | (simp; done) | (simp; omega)))) hb3)
    obtain ⟨hc0_3, hf0_3⟩ := bcell x0_3.below
    have z0_3_0 : w.heap.size < w3.heap.size := by have h := x0_3.size; simp at h; omega
    go_wp2_with fail
    (with_reducible refine (toTrain_any _ _ _ _ rows _ HN.out hs2 HR.out (HF.out.ext (by (repeat' (first | (with_reducible exact Ext.refl _) | (with_reducible assumption) | (with_reducible refine Ext.alloc ?_ _) | (with_reducible refine Ext.drewN ?_ _) | (with_reducible refine Ext.drew ?_) | (with_reducible refine Ext.setCell ?_ ?_ _) | (with_reducible exact Nat.le_refl _) | (with_reducible exact Nat.le_succ _) | (with_reducible refine Ext.trans ?_ (by assumption)) | (simp; done) | (simp; omega)))))).mono ?_); rintro e w4 ⟨a4, rfl, ho4, hb4⟩
    have x3_4 := hb4
    have x0_4 : Ext _ w4 := x0_3.trans (Ext.trans (b := _) (by (repeat' (first | (with_reducible exact Ext.refl _) | (with_reducible assumption) | (with_reducible refine Ext.alloc ?_ _) | (with_reducible refine Ext.drewN ?_ _) | (with_reducible refine Ext.drew ?_) | (with_reducible refine Ext.setCell ?_ ?_ _) | (with_reducible exact Nat.le_refl _) | (with_reducible exact Nat.le_succ _) | (with_reducible refine Ext.trans ?_ (by assumption)) | (simp; done) | (simp; omega)))) hb4)
    obtain ⟨hc0_4, hf0_4⟩ := bcell x0_4.below
    have z0_4_0 : w.heap.size < w4.heap.size := by have h := x0_4.size; simp at h; omega
    obtain ⟨hc3_4, hf3_4⟩ := bcell x3_4.below
    have z3_4_0 : w3.heap.size < w4.heap.size := by have h := x3_4.size; simp at h; omega
    go_wp2_with fail
    (with_reducible refine (implReform_any u1 R r1 n1 _ _ _ _ rows _ _ HN.out hs2 HT.out (ho4.rows.ext (by (repeat' (first | (with_reducible exact Ext.refl _) | (with_reducible assumption) | (with_reducible refine Ext.alloc ?_ _) | (with_reducible refine Ext.drewN ?_ _) | (with_reducible refine Ext.drew ?_) | (with_reducible refine Ext.setCell ?_ ?_ _) | (with_reducible exact Nat.le_refl _) | (with_reducible exact Nat.le_succ _) | (with_reducible refine Ext.trans ?_ (by assumption)) | (simp; done) | (simp; omega))))) HIK.out HRR.out HN1.out).mono ?_); rintro e w5 ⟨p5, pc5, rfl, hi5, hb5⟩
    have x4_5 := hb5
    have x0_5 : Ext _ w5 := x0_4.trans (Ext.trans (b := _) (by (repeat' (first | (with_reducible exact Ext.refl _) | (with_reducible assumption) | (with_reducible refine Ext.alloc ?_ _) | (with_reducible refine Ext.drewN ?_ _) | (with_reducible refine Ext.drew ?_) | (with_reducible refine Ext.setCell ?_ ?_ _) | (with_reducible exact Nat.le_refl _) | (with_reducible exact Nat.le_succ _) | (with_reducible refine Ext.trans ?_ (by assumption)) | (simp; done) | (simp; omega)))) hb5)
    obtain ⟨hc0_5, hf0_5⟩ := bcell x0_5.below
    have z0_5_0 : w.heap.size < w5.heap.size := by have h := x0_5.size; simp at h; omega
    have x3_5 : Ext _ w5 := x3_4.trans (Ext.trans (b := _) (by (repeat' (first | (with_reducible exact Ext.refl _) | (with_reducible assumption) | (with_reducible refine Ext.alloc ?_ _) | (with_reducible refine Ext.drewN ?_ _) | (with_reducible refine Ext.drew ?_) | (with_reducible refine Ext.setCell ?_ ?_ _) | (with_reducible exact Nat.le_refl _) | (with_reducible exact Nat.le_succ _) | (with_reducible refine Ext.trans ?_ (by assumption)) | (simp; done) | (simp; omega)))) hb5)
    obtain ⟨hc3_5, hf3_5⟩ := bcell x3_5.below
    have z3_5_0 : w3.heap.size < w5.heap.size := by have h := x3_5.size; simp at h; omega
    obtain ⟨hc4_5, hf4_5⟩ := bcell x4_5.below
    have z4_5_0 : w4.heap.size < w5.heap.size := by have h := x4_5.size; simp at h; omega
    go_wp2_with fail
    have s1 := x0_1.size; have s2 := hb2.size; have s3 := hb3.size; have s4 := hb4.size; have s5 := hb5.size
    simp only [World.size_alloc] at s1 s4 s5 ho4 hi5
    have hV5 : Ext w5 (w5.alloc (.cells #[.bool u1, .slice p5 n1 pc5] 26)) := (Ext.refl w5).alloc _
    have r0 := (RowAt.new w 45 #[.bool u, .slice a n c]).ext (x0_5.trans hV5)
    have r1' := (RowAt.new w3 26 #[.bool u1, .slice p3 n1 pc3]).ext (x3_5.trans hV5)
    have r3 := (RowAt.new w4 26 #[.bool u, .slice (some a4) n n]).ext (x4_5.trans hV5)
    have r4 := RowAt.new w5 26 #[.bool u1, .slice p5 n1 pc5]
    have BX5 : Hid (Boxes (w5.alloc (.cells #[.bool u1, .slice p5 n1 pc5] 26)) [(w.heap.size, 45, #[.bool u, .slice a n c]), (w3.heap.size, 26, #[.bool u1, .slice p3 n1 pc3]), (w4.heap.size, 26, #[.bool u, .slice (some a4) n n]), (w5.heap.size, 26, #[.bool u1, .slice p5 n1 pc5])]) := Boxes.cons r0 (Boxes.cons r1' (Boxes.cons r3 (Boxes.cons r4 (Boxes.nil _))))
    have h35 : Ext w3 w5 := Ext.trans ((Ext.refl w3).alloc _) x3_5
    have h45 : Ext w4 w5 := Ext.trans ((Ext.refl w4).alloc _) x4_5
    have OX5 := Lib.hid (ho4.ext (h45.trans hV5))
    have PA5 := Lib.hid (hi3.ext (h35.trans hV5))
    have GA5 := Lib.hid (hi5.ext hV5)
    have HW5 := Lib.hid (Ext.trans ((Ext.refl w).alloc _) (x0_5.trans hV5))
    have hVs : (w5.alloc (.cells #[.bool u1, .slice p5 n1 pc5] 26)).heap.size = w5.heap.size + 1 := World.size_alloc _ _
    obtain ⟨V, hV⟩ : ∃ x, (w5.alloc (.cells #[.bool u1, .slice p5 n1 pc5] 26)) = x := ⟨_, rfl⟩
    rw [hV] at BX5 OX5 PA5 GA5 HW5 hVs ⊢
    clear hV hV5 r0 r1' r3 r4 h35 h45 hi3 hi5 ho2 ho4
    clear hb1 hb2 hb3 hb4 hb5 x0_1 x0_2 x0_3 x0_4 x0_5 x1_2 x2_3 x3_4 x3_5 x4_5 hc0_1 hc0_2 hc0_3 hc0_4 hc0_5 hc3_4 hc3_5 hc4_5 hf0_1 hf0_2 hf0_3 hf0_4 hf0_5 hf3_4 hf3_5 hf4_5 z0_1_0 z0_2_0 z0_3_0 z0_4_0 z0_5_0 z3_4_0 z3_5_0 z4_5_0
    have hvs : w5.heap.size + 1 ≤ V.heap.size := by omega
    clear hVs
    with_reducible refine (eqTrain_same _ _ _ _ _ _ r1 _ HN1.out HM1.out GA5.out.rows PA5.out.rows).mono ?_
    rintro e w7 ⟨rfl, hb⟩
    have BX7 := Lib.hid (BX5.out.ext hb)
    have OX7 := Lib.hid (OX5.out.ext hb)
    have PA7 := Lib.hid (PA5.out.ext hb)
    have GA7 := Lib.hid (GA5.out.ext hb)
    have HW7 := Lib.hid (HW5.out.trans hb)
    have z7 := hb.size
    clear BX5 OX5 PA5 GA5 HW5 hb
    have cX0 : w7.cell? ⟨w4.heap.size, 0, none⟩ = some (.bool u) := (BX7.out (w4.heap.size, 26, #[.bool u, .slice (some a4) n n]) (by simp)).cell rfl
    have cX1 : w7.cell? ⟨w4.heap.size, 1, none⟩ = some (.slice (some a4) n n) := (BX7.out (w4.heap.size, 26, #[.bool u, .slice (some a4) n n]) (by simp)).cell rfl
    have cA0 : w7.cell? ⟨w.heap.size, 0, none⟩ = some (.bool u) := (BX7.out (w.heap.size, 45, #[.bool u, .slice a n c]) (by simp)).cell rfl
    have cA1 : w7.cell? ⟨w.heap.size, 1, none⟩ = some (.slice a n c) := (BX7.out (w.heap.size, 45, #[.bool u, .slice a n c]) (by simp)).cell rfl
    have hS := Ext.refl w7
    go_wp2_with fail
    go_region_held3 (fun w' => Ext w7 w' ∧ w'.cell? ⟨w.heap.size, 0, none⟩ = some (.bool u) ∧ w'.cell? ⟨w.heap.size, 1, none⟩ = some (.slice a n c) ∧ w'.cell? ⟨w4.heap.size, 0, none⟩ = some (.bool u) ∧ w'.cell? ⟨w4.heap.size, 1, none⟩ = some (.slice (some a4) n n))
      ((repeat' (refine And.intro ?_ ?_)) <;> (first | (exact Ext.cell (w := w7) (by (repeat' (first | (with_reducible exact Ext.refl _) | (with_reducible assumption) | (with_reducible refine Ext.alloc ?_ _) | (with_reducible refine Ext.drewN ?_ _) | (with_reducible refine Ext.drew ?_) | (with_reducible refine Ext.setCell ?_ ?_ _) | (with_reducible exact Nat.le_refl _) | (with_reducible exact Nat.le_succ _) | (with_reducible refine Ext.trans ?_ (by assumption)) | (simp; done) | (simp; omega)))) (by assumption)) | ((repeat' (first | (with_reducible exact Ext.refl _) | (with_reducible assumption) | (with_reducible refine Ext.alloc ?_ _) | (with_reducible refine Ext.drewN ?_ _) | (with_reducible refine Ext.drew ?_) | (with_reducible refine Ext.setCell ?_ ?_ _) | (with_reducible exact Nat.le_refl _) | (with_reducible exact Nat.le_succ _) | (with_reducible refine Ext.trans ?_ (by assumption)) | (simp; done) | (simp; omega))); done)))
      (first
        | (go_at_call 27; refine (toTrain_any _ _ _ _ rows _ HN.out hs2 HR.out (HF.out.ext (HW7.out.trans (by (repeat' (first | (with_reducible exact Ext.refl _) | (with_reducible assumption) | (with_reducible refine Ext.alloc ?_ _) | (with_reducible refine Ext.drewN ?_ _) | (with_reducible refine Ext.drew ?_) | (with_reducible refine Ext.setCell ?_ ?_ _) | (with_reducible exact Nat.le_refl _) | (with_reducible exact Nat.le_succ _) | (with_reducible refine Ext.trans ?_ (by assumption)) | (simp; done) | (simp; omega))))))).mono ?_; rintro e w' ⟨a6, rfl, ho6, hb6⟩)
        | (go_at_call 29; refine (eqTrain_same _ _ _ _ _ _ rows _ HN.out HS.out (OX7.out.rows.ext (by (repeat' (first | (with_reducible exact Ext.refl _) | (with_reducible assumption) | (with_reducible refine Ext.alloc ?_ _) | (with_reducible refine Ext.drewN ?_ _) | (with_reducible refine Ext.drew ?_) | (with_reducible refine Ext.setCell ?_ ?_ _) | (with_reducible exact Nat.le_refl _) | (with_reducible exact Nat.le_succ _) | (with_reducible refine Ext.trans ?_ (by assumption)) | (simp; done) | (simp; omega))))) ho6.rows).mono ?_; rintro e w' ⟨rfl, hb7⟩))
    obtain ⟨w8, hw8e⟩ : ∃ x, x = w' := ⟨_, rfl⟩
    subst hw8e
    have hx8 : Ext w7 w8 := by (repeat' (first | (with_reducible exact Ext.refl _) | (with_reducible assumption) | (with_reducible refine Ext.alloc ?_ _) | (with_reducible refine Ext.drewN ?_ _) | (with_reducible refine Ext.drew ?_) | (with_reducible refine Ext.setCell ?_ ?_ _) | (with_reducible exact Nat.le_refl _) | (with_reducible exact Nat.le_succ _) | (with_reducible refine Ext.trans ?_ (by assumption)) | (simp; done) | (simp; omega)))
    clear ho6 hb6 hb7 hS
    clear cX0 cX1 cA0 cA1
    have BX8 := Lib.hid (BX7.out.ext hx8)
    have OX8 := Lib.hid (OX7.out.ext hx8)
    have PA8 := Lib.hid (PA7.out.ext hx8)
    have GA8 := Lib.hid (GA7.out.ext hx8)
    have HW8 := Lib.hid (HW7.out.trans hx8)
    have z8 := hx8.size
    clear BX7 OX7 PA7 GA7 HW7 hx8
    have cX0 : w8.cell? ⟨w4.heap.size, 0, none⟩ = some (.bool u) := (BX8.out (w4.heap.size, 26, #[.bool u, .slice (some a4) n n]) (by simp)).cell rfl
    have cX1 : w8.cell? ⟨w4.heap.size, 1, none⟩ = some (.slice (some a4) n n) := (BX8.out (w4.heap.size, 26, #[.bool u, .slice (some a4) n n]) (by simp)).cell rfl
    go_wp2_with fail
    with_reducible refine (markTrain_is T _ _ _ _ (w3.heap.size + 1) w4.heap.size rows 1 _ HN.out hs2 HR.out hTb (by decide) (by decide) (by omega) OX8.out HTT.out).mono ?_
    rintro e w9 ⟨rfl, ho, hc⟩
    clear cX0 cX1
    have BX9 := Lib.hid (BX8.out.chg hc (by intro p hp; simp only [List.mem_cons, List.not_mem_nil, or_false] at hp; rcases hp with rfl | rfl | rfl | rfl <;> (dsimp only; omega)))
    have OX9 := Lib.hid ho
    have PA9 := Lib.hid (PA8.out.chg hc (by omega))
    have GA9 := Lib.hid (GA8.out.chg hc (by omega))
    have HW9 := Lib.hid (hc.ext HW8.out (by omega))
    have z9 := hc.size
    clear BX8 OX8 PA8 GA8 HW8 hc ho
    have cG00 : w9.cell? ⟨w5.heap.size, 0, none⟩ = some (.bool u1) := (BX9.out (w5.heap.size, 26, #[.bool u1, .slice p5 n1 pc5]) (by simp)).cell rfl
    have cG01 : w9.cell? ⟨w5.heap.size, 1, none⟩ = some (.slice p5 n1 pc5) := (BX9.out (w5.heap.size, 26, #[.bool u1, .slice p5 n1 pc5]) (by simp)).cell rfl
    have cP00 : w9.cell? ⟨w3.heap.size, 0, none⟩ = some (.bool u1) := (BX9.out (w3.heap.size, 26, #[.bool u1, .slice p3 n1 pc3]) (by simp)).cell rfl
    have cP01 : w9.cell? ⟨w3.heap.size, 1, none⟩ = some (.slice p3 n1 pc3) := (BX9.out (w3.heap.size, 26, #[.bool u1, .slice p3 n1 pc3]) (by simp)).cell rfl
    go_wp2_with fail
    with_reducible refine (eqTrain_same _ _ _ _ _ _ r1 _ HN1.out HM1.out GA9.out.rows PA9.out.rows).mono ?_
    rintro e w10 ⟨rfl, hb⟩
    clear cG00 cG01 cP00 cP01
    have BX10 := Lib.hid (BX9.out.ext hb)
    have OX10 := Lib.hid (OX9.out.ext hb)
    have PA10 := Lib.hid (PA9.out.ext hb)
    have GA10 := Lib.hid (GA9.out.ext hb)
    have HW10 := Lib.hid (HW9.out.trans hb)
    have z10 := hb.size
    clear BX9 OX9 PA9 GA9 HW9 hb
    have cG00 : w10.cell? ⟨w5.heap.size, 0, none⟩ = some (.bool u1) := (BX10.out (w5.heap.size, 26, #[.bool u1, .slice p5 n1 pc5]) (by simp)).cell rfl
    have cG01 : w10.cell? ⟨w5.heap.size, 1, none⟩ = some (.slice p5 n1 pc5) := (BX10.out (w5.heap.size, 26, #[.bool u1, .slice p5 n1 pc5]) (by simp)).cell rfl
    go_wp2_with fail
    with_reducible refine (markTrain_is T1 _ _ _ _ (w4.heap.size + 1) w5.heap.size r1 1 _ HN1.out l1 HQ1.out t1 (by decide) (by decide) (by omega) GA10.out HT1.out).mono ?_
    rintro e w12 ⟨rfl, ho, hc⟩
    clear cG00 cG01
    have BX12 := Lib.hid (BX10.out.chg hc (by intro p hp; simp only [List.mem_cons, List.not_mem_nil, or_false] at hp; rcases hp with rfl | rfl | rfl | rfl <;> (dsimp only; omega)))
    have OX12 := Lib.hid (OX10.out.chg hc (by omega))
    have PA12 := Lib.hid (PA10.out.chg hc (by omega))
    have GA12 := Lib.hid ho
    have HW12 := Lib.hid (hc.ext HW10.out (by omega))
    have z12 := hc.size
    clear BX10 OX10 PA10 GA10 HW10 hc ho
    have cG00 : w12.cell? ⟨w5.heap.size, 0, none⟩ = some (.bool u1) := (BX12.out (w5.heap.size, 26, #[.bool u1, .slice p5 n1 pc5]) (by simp)).cell rfl
    have cG01 : w12.cell? ⟨w5.heap.size, 1, none⟩ = some (.slice p5 n1 pc5) := (BX12.out (w5.heap.size, 26, #[.bool u1, .slice p5 n1 pc5]) (by simp)).cell rfl
    go_wp2_with fail
    with_reducible refine (heldTrain_is T1 _ _ _ _ r1 1 _ HN1.out l1 HQ1.out t1 (by decide) (by decide) GA12.out.rows HT1.out).mono ?_
    rintro e w14 ⟨rfl, hb⟩
    clear cG00 cG01
    have BX14 := Lib.hid (BX12.out.ext hb)
    have OX14 := Lib.hid (OX12.out.ext hb)
    have PA14 := Lib.hid (PA12.out.ext hb)
    have GA14 := Lib.hid (GA12.out.ext hb)
    have HW14 := Lib.hid (HW12.out.trans hb)
    have z14 := hb.size
    clear BX12 OX12 PA12 GA12 HW12 hb
    have cA0 : w14.cell? ⟨w.heap.size, 0, none⟩ = some (.bool u) := (BX14.out (w.heap.size, 45, #[.bool u, .slice a n c]) (by simp)).cell rfl
    have cA1 : w14.cell? ⟨w.heap.size, 1, none⟩ = some (.slice a n c) := (BX14.out (w.heap.size, 45, #[.bool u, .slice a n c]) (by simp)).cell rfl
    go_wp2_with fail
    with_reducible refine (toTrain_any _ _ _ _ rows _ HN.out hs2 HR.out (HF.out.ext HW14.out)).mono ?_
    rintro e w16 ⟨a16, rfl, ho16, hb⟩
    clear cA0 cA1
    have HO16 := Lib.hid ho16.rows; clear ho16
    have BX16 := Lib.hid (BX14.out.ext hb)
    have OX16 := Lib.hid (OX14.out.ext hb)
    have PA16 := Lib.hid (PA14.out.ext hb)
    have GA16 := Lib.hid (GA14.out.ext hb)
    have HW16 := Lib.hid (HW14.out.trans hb)
    have z16 := hb.size
    clear BX14 OX14 PA14 GA14 HW14 hb
    go_wp2_with fail
    with_reducible refine (implReform_any u1 R r1 n1 _ _ _ _ rows _ _ HN.out hs2 HT.out HO16.out HIK.out HRR.out HN1.out).mono ?_
    rintro e w17 ⟨p7, pc7, rfl, hi7, hb⟩
    have HA17 := Lib.hid hi7.rows; clear hi7
    have BX17 := Lib.hid (BX16.out.ext hb)
    have OX17 := Lib.hid (OX16.out.ext hb)
    have PA17 := Lib.hid (PA16.out.ext hb)
    have GA17 := Lib.hid (GA16.out.ext hb)
    have HW17 := Lib.hid (HW16.out.trans hb)
    have z17 := hb.size
    clear BX16 OX16 PA16 GA16 HW16 hb
    have cP00 : w17.cell? ⟨w3.heap.size, 0, none⟩ = some (.bool u1) := (BX17.out (w3.heap.size, 26, #[.bool u1, .slice p3 n1 pc3]) (by simp)).cell rfl
    have cP01 : w17.cell? ⟨w3.heap.size, 1, none⟩ = some (.slice p3 n1 pc3) := (BX17.out (w3.heap.size, 26, #[.bool u1, .slice p3 n1 pc3]) (by simp)).cell rfl
    have e17 := (Ext.refl w17).alloc (.cells #[.bool u1, .slice p7 n1 pc7] 26)
    have k0 := e17.cell cP00; have k1 := e17.cell cP01
    clear cP00 cP01
    go_wp2_with fail
    with_reducible refine (eqTrain_same _ _ _ _ _ _ r1 _ HN1.out HM1.out (HA17.out.ext e17) (PA17.out.rows.ext e17)).mono ?_
    rintro e w18 ⟨rfl, hb⟩
    have hx18 := e17.trans hb
    clear hb k0 k1 e17
    have BX18 := Lib.hid (BX17.out.ext hx18)
    have OX18 := Lib.hid (OX17.out.ext hx18)
    have PA18 := Lib.hid (PA17.out.ext hx18)
    have GA18 := Lib.hid (GA17.out.ext hx18)
    have HW18 := Lib.hid (HW17.out.trans hx18)
    have z18 := hx18.size
    clear BX17 OX17 PA17 GA17 HW17 hx18
    have cG00 : w18.cell? ⟨w5.heap.size, 0, none⟩ = some (.bool u1) := (BX18.out (w5.heap.size, 26, #[.bool u1, .slice p5 n1 pc5]) (by simp)).cell rfl
    have cG01 : w18.cell? ⟨w5.heap.size, 1, none⟩ = some (.slice p5 n1 pc5) := (BX18.out (w5.heap.size, 26, #[.bool u1, .slice p5 n1 pc5]) (by simp)).cell rfl
    go_wp2_with fail
    with_reducible refine (heldTrain_is T1 _ _ _ _ r1 1 _ HN1.out l1 HQ1.out t1 (by decide) (by decide) GA18.out.rows HT1.out).mono ?_
    rintro e w20 ⟨rfl, hb⟩
    clear cG00 cG01
    have BX20 := Lib.hid (BX18.out.ext hb)
    have OX20 := Lib.hid (OX18.out.ext hb)
    have PA20 := Lib.hid (PA18.out.ext hb)
    have GA20 := Lib.hid (GA18.out.ext hb)
    have HW20 := Lib.hid (HW18.out.trans hb)
    have z20 := hb.size
    clear BX18 OX18 PA18 GA18 HW18 hb
    have hx := HW20.out
    go_wp2
    go_ret
    exact ⟨rfl, hx⟩

theorem own : ownKnob Try.prog.godebug = none := by kernel_rfl
theorem laidOut : laidOutB Try.prog = true := Head.laidOut

set_option maxRecDepth 100000 in
theorem contract (H : Type) (enc : TypeId × Value → H) (W : World) (base : Nat) (args : Array Value) (ds gs : List (DataW H)) (before : List MemPlace)
    (hval : ∀ (j : Nat) t v, Try.f10.params[j]? = some t → args[j]? = some v → Value.okWide Try.prog W .any base t v)
    (hW : DataW.Whole enc Try.prog Try.f10.params.toList Rows.fnExactReformTrainSpec.vars false W args.toList ds gs before) :
    Calls Try.prog 10 args W fun e W' => ∃ v, e = .returned v ∧ Rows.fnExactReformTrainSpec.post enc Try.prog Try.f10 false true false false W args v W' := by
  have hW' := hW
  obtain ⟨p, q, hA0, hV, rfl, hfz, hnd⟩ := hW
  have hA : DataW.TrodAll enc Try.prog W 0 (fun _ => true) true Try.f10.params.toList args.toList ds p := hA0
  rw [Try.params10] at hA hval
  obtain ⟨v0, vs0, d0, ds0, p0, q0, hargs, rfl, rfl, h0, r0⟩ := trodAll_cons hA
  obtain ⟨v1, vs1, d1, ds1, p1, q1, rfl, rfl, rfl, h1, r1⟩ := trodAll_cons r0
  obtain ⟨rfl, rfl, rfl⟩ := trodAll_nil r1
  obtain rfl : args = #[v0, v1] := by cases args; simp_all
  obtain ⟨rfl, rfl⟩ := trodVars_none hV
  have hv0 := hval 0 45 v0 rfl rfl
  have hv1 := hval 1 3 v1 rfl rfl
  clear hA0 hA
  obtain ⟨u, rows, a, c, rfl, hmax, hrows⟩ := open_train hv0 h0
  obtain ⟨k, rfl, rfl, rfl, wk⟩ := open_int Try.underlying3 hv1 h1
  refine (walk u a _ c rows k W rfl hmax hrows (i64_of wk)).mono fun e W' ⟨he, hb⟩ => ?_
  subst he
  exact ⟨_, rfl, law_post laidOut rfl (by kernel_rfl) rfl Try.underlying4 hW' rfl rfl rfl hb.below⟩

set_option maxRecDepth 100000 in
theorem lifted (os : Os) (started : os.Started) (H : Type) (enc : TypeId × Value → H) :
    ReturnsInHanded {} Try.checked os 10 .any (Rows.fnExactReformTrainSpec.pre6 enc Try.prog Try.f10 Rows.fnExactReformTrainRow.domain false) (Rows.fnExactReformTrainSpec.post enc Try.prog Try.f10 false true false false) := by
  refine returnsInHanded_of_change (C := Try.checked) own started (by kernel_rfl) Try.func10
    (ChangeSpec.witness6 (enc := enc) (C := Try.checked) false ⟨#[], #[.agg #[.bool false, .slice none 0 0], .int .i64 0], []⟩ 8 (by kernel_rfl) (by kernel_rfl) (by kernel_rfl) (by kernel_rfl)) ?_
  intro W base args ds gs before hval hW _ _
  exact contract H enc W base args ds gs before hval hW

theorem closed : joinedFacts Try.prog 10 Try.f10 Rows.fnExactReformTrainSpec Rows.fnExactReformTrainRow = true := by
  unfold joinedFacts
  rw [Head.laidOut, Head.mapsRowed, Head.stopsHeard, Head.mayEnter, Head.liftsFinal, Head.make, Head.plainKeys]
  kernel_rfl
theorem proved : Rows.FnExactReformTrainSaid :=
  OpenClaim.holds_of_wide 10 Try.f10 rfl rfl rfl rfl rfl rfl rfl ⟨rfl, rfl, rfl, rfl, rfl⟩ rfl rfl rfl rfl rfl (by kernel_rfl) Try.func10 closed
    (of_decide_eq_true (by kernel_rfl)) (by unfold Func.isWrapper; first | (rw [if_pos (by decide +kernel)]; kernel_rfl) | (rw [if_neg (by decide +kernel)]; exact ⟨rfl, rfl⟩))
    (fun os started H enc _ => lifted os started H enc)
end Go.Proofs.Ytmcmialaofckkaa.lawReformTrain
