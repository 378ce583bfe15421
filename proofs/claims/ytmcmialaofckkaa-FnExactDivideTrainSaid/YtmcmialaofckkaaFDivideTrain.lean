/- For every train and number, the program and the reference agree on the two trains that DivideTrain returns, and these share no memory with others. -/
import Derived.Test.YtmcmialaofckkaaRows
import Derived.Test.YtmcmialaofckkaaHead
import Derived.Test.YtmcmialaofckkaaOpenT
import Derived.Test.YtmcmialaofckkaaDivideS
import Derived.Deep.RegionHeld3
namespace Go.Proofs.Ytmcmialaofckkaa.lawDivideTrain
open Go.ChangeShapes Go.WideShapes Go.ChangeAt Go.RowKit Go.Joins
set_option linter.unusedVariables false
set_option linter.unusedSimpArgs false

theorem divRes_bounds {u : Bool} {rows : List (List Bt)} {k : Int} {u1 R : Bool} {r1 r2 : List (List Bt)} (h : divRes u rows k = (u1, r1, r2, R)) (hl : rows.length ≤ 1048576) (hr : ∀ r ∈ rows, r.length ≤ 1048576) (ht : total rows ≤ 1048576) :
    (r1.length ≤ 1048576 ∧ (∀ r ∈ r1, r.length ≤ 1048576) ∧ total r1 ≤ 1048576) ∧ (r2.length ≤ 1048576 ∧ (∀ r ∈ r2, r.length ≤ 1048576) ∧ total r2 ≤ 1048576) := by
  unfold divRes at h
  split at h
  · cases h
    have e := congrArg total (List.take_append_drop k.toNat rows)
    have e2 : total (rows.take k.toNat ++ rows.drop k.toNat) = total (rows.take k.toNat) + total (rows.drop k.toNat) := by
      unfold total
      rw [List.map_append, List.sum_append]
    rw [e2] at e
    refine ⟨⟨by rw [List.length_take]; omega, fun r hr' => hr r (List.mem_of_mem_take hr'), by omega⟩, ⟨by rw [List.length_drop]; omega, fun r hr' => hr r (List.mem_of_mem_drop hr'), by omega⟩⟩
  · cases h
    exact ⟨⟨Nat.zero_le _, (fun r h => by cases h), Nat.zero_le _⟩, ⟨Nat.zero_le _, (fun r h => by cases h), Nat.zero_le _⟩⟩

set_option maxRecDepth 100000 in
set_option maxHeartbeats 8000000 in
theorem walk (u : Bool) (a : Option Addr) (n c : Nat) (rows : List (List Bt)) (k : Int) (w : World) (hn : n = rows.length) (hs : n ≤ maxLen) (hf : RowsAt w a rows) :
    Calls Try.prog 6 #[.agg #[.bool u, .slice a n c], .int .i64 k] w fun e w' => e = .returned (.bool true) ∧ Ext w w' := by
  have HF := Lib.hid hf; clear hf
  by_cases hsz : szRows 1048576 rows < 0
  · have HN := Lib.hid hn; clear hn
    have HS := Lib.hid hs; clear hs
    have HSZ := Lib.hid hsz
    obtain ⟨z, hz⟩ : ∃ z, szRows 1048576 rows = z := ⟨_, rfl⟩
    rw [hz] at hsz
    have HZ := Lib.hid hz; clear hz
    have d0 : decide (z < 0) = true := by simpa using hsz
    go_enter Try.func6, Try.ntmps6
    go_wp2_with fail
    (with_reducible refine (szTrain_is z _ _ _ _ rows _ HN.out HS.out (by decide) (by decide) _ (HF.out.ext (by (repeat' (first | (with_reducible exact Ext.refl _) | (with_reducible assumption) | (with_reducible refine Ext.alloc ?_ _) | (with_reducible refine Ext.drewN ?_ _) | (with_reducible refine Ext.drew ?_) | (with_reducible refine Ext.setCell ?_ ?_ _) | (with_reducible exact Nat.le_refl _) | (with_reducible exact Nat.le_succ _) | (with_reducible refine Ext.trans ?_ (by assumption)) | (simp; done) | (simp; omega))))) HZ.out).mono ?_); rintro e w1 ⟨rfl, hb1⟩
    have x0_1 := hb1
    obtain ⟨hc0_1, hf0_1⟩ := bcell x0_1.below
    have z0_1_0 : w.heap.size < w1.heap.size := by have h := x0_1.size; simp at h; omega
    go_wp2
    go_ret
    exact ⟨rfl, by (repeat' (first | (with_reducible exact Ext.refl _) | (with_reducible assumption) | (with_reducible refine Ext.alloc ?_ _) | (with_reducible refine Ext.drewN ?_ _) | (with_reducible refine Ext.drew ?_) | (with_reducible refine Ext.setCell ?_ ?_ _) | (with_reducible exact Nat.le_refl _) | (with_reducible exact Nat.le_succ _) | (with_reducible refine Ext.trans ?_ (by assumption)) | (simp; done) | (simp; omega)))⟩
  · obtain ⟨hs2, hrs, ht⟩ := szRows_bounds (L := 1048576) (by decide) (by decide) hsz
    obtain ⟨u1, r1, r2, R, hRR⟩ : ∃ u1 r1 r2 R, divRes u rows k = (u1, r1, r2, R) := ⟨_, _, _, _, rfl⟩
    obtain ⟨⟨l1, q1, t1⟩, ⟨l2, q2, t2⟩⟩ := divRes_bounds hRR hs2 hrs (by rw [total_flatten]; exact ht)
    rw [← hn] at hs2
    have HN := Lib.hid hn; clear hn
    have HS := Lib.hid hs; clear hs
    have HR := Lib.hid hrs; clear hrs
    have HT := Lib.hid ht
    obtain ⟨z, hz⟩ : ∃ z, szRows 1048576 rows = z := ⟨_, rfl⟩
    rw [hz] at hsz
    have HZ := Lib.hid hz; clear hz
    have d0 : decide (z < 0) = false := by simpa using hsz
    obtain ⟨n1, hn1⟩ : ∃ m, m = r1.length := ⟨_, rfl⟩
    obtain ⟨n2, hn2⟩ : ∃ m, m = r2.length := ⟨_, rfl⟩
    obtain ⟨T, hT⟩ : ∃ T, total rows = T := ⟨_, rfl⟩
    obtain ⟨T1, hT1⟩ : ∃ T, total r1 = T := ⟨_, rfl⟩
    obtain ⟨T2, hT2⟩ : ∃ T, total r2 = T := ⟨_, rfl⟩
    have hTb : T ≤ 1048576 := by rw [← hT, total_flatten]; exact ht
    rw [hT1] at t1
    rw [hT2] at t2
    rw [← hn1] at l1
    rw [← hn2] at l2
    have HN1 := Lib.hid hn1; clear hn1
    have HN2 := Lib.hid hn2; clear hn2
    have HTT := Lib.hid hT; clear hT
    have HT1 := Lib.hid hT1; clear hT1
    have HT2 := Lib.hid hT2; clear hT2
    have HQ1 := Lib.hid q1; clear q1
    have HQ2 := Lib.hid q2; clear q2
    have HM1 := Lib.hid (show n1 ≤ maxLen by unfold maxLen; omega)
    have HM2 := Lib.hid (show n2 ≤ maxLen by unfold maxLen; omega)
    have HRR := Lib.hid hRR; clear hRR
    clear ht
    have d1 : decide (1 + 6 * (T : Int) < 0) = false := by simp; omega
    have d2 : decide (1 + 6 * (T1 : Int) < 0) = false := by simp; omega
    have d3 : decide (1 + 6 * (T1 : Int) + 6 * (T2 : Int) < 0) = false := by simp; omega
    go_enter Try.func6, Try.ntmps6
    go_wp2_with fail
    (with_reducible refine (szTrain_is z _ _ _ _ rows _ HN.out HS.out (by decide) (by decide) _ (HF.out.ext (by (repeat' (first | (with_reducible exact Ext.refl _) | (with_reducible assumption) | (with_reducible refine Ext.alloc ?_ _) | (with_reducible refine Ext.drewN ?_ _) | (with_reducible refine Ext.drew ?_) | (with_reducible refine Ext.setCell ?_ ?_ _) | (with_reducible exact Nat.le_refl _) | (with_reducible exact Nat.le_succ _) | (with_reducible refine Ext.trans ?_ (by assumption)) | (simp; done) | (simp; omega))))) HZ.out).mono ?_); rintro e w1 ⟨rfl, hb1⟩
    have x0_1 := hb1
    obtain ⟨hc0_1, hf0_1⟩ := bcell x0_1.below
    have z0_1_0 : w.heap.size < w1.heap.size := by have h := x0_1.size; simp at h; omega
    go_wp2_with fail
    (with_reducible refine (toTrain_any _ _ _ _ rows _ HN.out hs2 HR.out (HF.out.ext (by (repeat' (first | (with_reducible exact Ext.refl _) | (with_reducible assumption) | (with_reducible refine Ext.alloc ?_ _) | (with_reducible refine Ext.drewN ?_ _) | (with_reducible refine Ext.drew ?_) | (with_reducible refine Ext.setCell ?_ ?_ _) | (with_reducible exact Nat.le_refl _) | (with_reducible exact Nat.le_succ _) | (with_reducible refine Ext.trans ?_ (by assumption)) | (simp; done) | (simp; omega)))))).mono ?_); rintro e w2 ⟨a2, rfl, ho2, hb2⟩
    have x1_2 := hb2
    have x0_2 : Ext _ w2 := x0_1.trans (Ext.trans (b := _) (by (repeat' (first | (with_reducible exact Ext.refl _) | (with_reducible assumption) | (with_reducible refine Ext.alloc ?_ _) | (with_reducible refine Ext.drewN ?_ _) | (with_reducible refine Ext.drew ?_) | (with_reducible refine Ext.setCell ?_ ?_ _) | (with_reducible exact Nat.le_refl _) | (with_reducible exact Nat.le_succ _) | (with_reducible refine Ext.trans ?_ (by assumption)) | (simp; done) | (simp; omega)))) hb2)
    obtain ⟨hc0_2, hf0_2⟩ := bcell x0_2.below
    have z0_2_0 : w.heap.size < w2.heap.size := by have h := x0_2.size; simp at h; omega
    go_wp2_with fail
    (with_reducible refine (specDivide_any u1 R r1 r2 n1 n2 _ _ _ _ rows _ _ HN.out (Nat.le_refl _) hs2 HR.out HT.out ho2.rows HRR.out HN1.out HN2.out).mono ?_); rintro e w3 ⟨p3, pc3, v3, vc3, mid3, rfl, hi3, hj3, hm3, hb3⟩
    have x2_3 := hb3
    have x0_3 : Ext _ w3 := x0_2.trans (Ext.trans (b := _) (by (repeat' (first | (with_reducible exact Ext.refl _) | (with_reducible assumption) | (with_reducible refine Ext.alloc ?_ _) | (with_reducible refine Ext.drewN ?_ _) | (with_reducible refine Ext.drew ?_) | (with_reducible refine Ext.setCell ?_ ?_ _) | (with_reducible exact Nat.le_refl _) | (with_reducible exact Nat.le_succ _) | (with_reducible refine Ext.trans ?_ (by assumption)) | (simp; done) | (simp; omega)))) hb3)
    obtain ⟨hc0_3, hf0_3⟩ := bcell x0_3.below
    have z0_3_0 : w.heap.size < w3.heap.size := by have h := x0_3.size; simp at h; omega
    go_wp2_with fail
    (with_reducible refine (toTrain_any _ _ _ _ rows _ HN.out hs2 HR.out (HF.out.ext (by (repeat' (first | (with_reducible exact Ext.refl _) | (with_reducible assumption) | (with_reducible refine Ext.alloc ?_ _) | (with_reducible refine Ext.drewN ?_ _) | (with_reducible refine Ext.drew ?_) | (with_reducible refine Ext.setCell ?_ ?_ _) | (with_reducible exact Nat.le_refl _) | (with_reducible exact Nat.le_succ _) | (with_reducible refine Ext.trans ?_ (by assumption)) | (simp; done) | (simp; omega)))))).mono ?_); rintro e w4 ⟨a4, rfl, ho4, hb4⟩
    have x3_4 := hb4
    have x0_4 : Ext _ w4 := x0_3.trans (Ext.trans (b := _) (by (repeat' (first | (with_reducible exact Ext.refl _) | (with_reducible assumption) | (with_reducible refine Ext.alloc ?_ _) | (with_reducible refine Ext.drewN ?_ _) | (with_reducible refine Ext.drew ?_) | (with_reducible refine Ext.setCell ?_ ?_ _) | (with_reducible exact Nat.le_refl _) | (with_reducible exact Nat.le_succ _) | (with_reducible refine Ext.trans ?_ (by assumption)) | (simp; done) | (simp; omega)))) hb4)
    obtain ⟨hc0_4, hf0_4⟩ := bcell x0_4.below
    have z0_4_0 : w.heap.size < w4.heap.size := by have h := x0_4.size; simp at h; omega
    obtain ⟨hc3_4, hf3_4⟩ := bcell x3_4.below
    have z3_4_0 : w3.heap.size < w4.heap.size := by have h := x3_4.size; simp at h; omega
    have z3_4_1 : w3.heap.size + 1 < w4.heap.size := by have h := x3_4.size; simp at h; omega
    go_wp2_with fail
    (with_reducible refine (implDivide_any u1 R r1 r2 n1 n2 _ _ _ _ rows _ _ HN.out (Nat.le_refl _) hs2 HR.out HT.out (ho4.rows.ext (by (repeat' (first | (with_reducible exact Ext.refl _) | (with_reducible assumption) | (with_reducible refine Ext.alloc ?_ _) | (with_reducible refine Ext.drewN ?_ _) | (with_reducible refine Ext.drew ?_) | (with_reducible refine Ext.setCell ?_ ?_ _) | (with_reducible exact Nat.le_refl _) | (with_reducible exact Nat.le_succ _) | (with_reducible refine Ext.trans ?_ (by assumption)) | (simp; done) | (simp; omega))))) HRR.out HN1.out HN2.out).mono ?_); rintro e w5 ⟨p5, pc5, v5, vc5, mid5, rfl, hi5, hj5, hm5, hb5⟩
    have x4_5 := hb5
    have x0_5 : Ext _ w5 := x0_4.trans (Ext.trans (b := _) (by (repeat' (first | (with_reducible exact Ext.refl _) | (with_reducible assumption) | (with_reducible refine Ext.alloc ?_ _) | (with_reducible refine Ext.drewN ?_ _) | (with_reducible refine Ext.drew ?_) | (with_reducible refine Ext.setCell ?_ ?_ _) | (with_reducible exact Nat.le_refl _) | (with_reducible exact Nat.le_succ _) | (with_reducible refine Ext.trans ?_ (by assumption)) | (simp; done) | (simp; omega)))) hb5)
    obtain ⟨hc0_5, hf0_5⟩ := bcell x0_5.below
    have z0_5_0 : w.heap.size < w5.heap.size := by have h := x0_5.size; simp at h; omega
    have x3_5 : Ext _ w5 := x3_4.trans (Ext.trans (b := _) (by (repeat' (first | (with_reducible exact Ext.refl _) | (with_reducible assumption) | (with_reducible refine Ext.alloc ?_ _) | (with_reducible refine Ext.drewN ?_ _) | (with_reducible refine Ext.drew ?_) | (with_reducible refine Ext.setCell ?_ ?_ _) | (with_reducible exact Nat.le_refl _) | (with_reducible exact Nat.le_succ _) | (with_reducible refine Ext.trans ?_ (by assumption)) | (simp; done) | (simp; omega)))) hb5)
    obtain ⟨hc3_5, hf3_5⟩ := bcell x3_5.below
    have z3_5_0 : w3.heap.size < w5.heap.size := by have h := x3_5.size; simp at h; omega
    have z3_5_1 : w3.heap.size + 1 < w5.heap.size := by have h := x3_5.size; simp at h; omega
    obtain ⟨hc4_5, hf4_5⟩ := bcell x4_5.below
    have z4_5_0 : w4.heap.size < w5.heap.size := by have h := x4_5.size; simp at h; omega
    go_wp2_with fail
    have s1 := x0_1.size; have s2 := hb2.size; have s3 := hb3.size; have s4 := hb4.size; have s5 := hb5.size
    simp only [World.size_alloc] at s1 s4 s5 ho4 hi5
    have hV5 : Ext w5 ((w5.alloc (.cells #[.bool u1, .slice p5 n1 pc5] 26)).alloc (.cells #[.bool u1, .slice v5 n2 vc5] 26)) := ((Ext.refl w5).alloc _).alloc _
    have r0 := (RowAt.new w 45 #[.bool u, .slice a n c]).ext (x0_5.trans hV5)
    have r1' := (RowAt.new w3 26 #[.bool u1, .slice p3 n1 pc3]).ext (((Ext.refl _).alloc (.cells #[.bool u1, .slice v3 n2 vc3] 26)).trans (x3_5.trans hV5))
    have r2' := (RowAt.new (w3.alloc (.cells #[.bool u1, .slice p3 n1 pc3] 26)) 26 #[.bool u1, .slice v3 n2 vc3]).ext (x3_5.trans hV5)
    have r3 := (RowAt.new w4 26 #[.bool u, .slice (some a4) n n]).ext (x4_5.trans hV5)
    have r4 := (RowAt.new w5 26 #[.bool u1, .slice p5 n1 pc5]).ext ((Ext.refl _).alloc (.cells #[.bool u1, .slice v5 n2 vc5] 26))
    have r5 := RowAt.new (w5.alloc (.cells #[.bool u1, .slice p5 n1 pc5] 26)) 26 #[.bool u1, .slice v5 n2 vc5]
    rw [World.size_alloc] at r2' r5
    have BX5 : Hid (Boxes ((w5.alloc (.cells #[.bool u1, .slice p5 n1 pc5] 26)).alloc (.cells #[.bool u1, .slice v5 n2 vc5] 26)) [(w.heap.size, 45, #[.bool u, .slice a n c]), (w3.heap.size, 26, #[.bool u1, .slice p3 n1 pc3]), (w3.heap.size + 1, 26, #[.bool u1, .slice v3 n2 vc3]), (w4.heap.size, 26, #[.bool u, .slice (some a4) n n]), (w5.heap.size, 26, #[.bool u1, .slice p5 n1 pc5]), (w5.heap.size + 1, 26, #[.bool u1, .slice v5 n2 vc5])]) := Boxes.cons r0 (Boxes.cons r1' (Boxes.cons r2' (Boxes.cons r3 (Boxes.cons r4 (Boxes.cons r5 (Boxes.nil _))))))
    have h35 : Ext w3 w5 := Ext.trans (((Ext.refl w3).alloc _).alloc _) x3_5
    have h45 : Ext w4 w5 := Ext.trans ((Ext.refl w4).alloc _) x4_5
    have OX5 := Lib.hid (ho4.ext (h45.trans hV5))
    have PA5 := Lib.hid (hi3.ext (h35.trans hV5))
    have PB5 := Lib.hid (hj3.ext (h35.trans hV5))
    have GA5 := Lib.hid (hi5.ext hV5)
    have GB5 := Lib.hid (hj5.ext hV5)
    have HW5 := Lib.hid (Ext.trans ((Ext.refl w).alloc _) (x0_5.trans hV5))
    have hm3a := hm3.1; have hm3b := hm3.2; have hm5a := hm5.1; have hm5b := hm5.2
    simp only [World.size_alloc] at hm5a
    have hVs : ((w5.alloc (.cells #[.bool u1, .slice p5 n1 pc5] 26)).alloc (.cells #[.bool u1, .slice v5 n2 vc5] 26)).heap.size = w5.heap.size + 1 + 1 := by simp only [World.size_alloc]
    obtain ⟨V, hV⟩ : ∃ x, ((w5.alloc (.cells #[.bool u1, .slice p5 n1 pc5] 26)).alloc (.cells #[.bool u1, .slice v5 n2 vc5] 26)) = x := ⟨_, rfl⟩
    rw [hV] at BX5 OX5 PA5 PB5 GA5 GB5 HW5 hVs ⊢
    clear hV hV5 r0 r1' r2' r3 r4 r5 h35 h45 hi3 hj3 hi5 hj5 ho2 ho4 hm3 hm5
    clear hb1 hb2 hb3 hb4 hb5 x0_1 x0_2 x0_3 x0_4 x0_5 x1_2 x2_3 x3_4 x3_5 x4_5 hc0_1 hc0_2 hc0_3 hc0_4 hc0_5 hc3_4 hc3_5 hc4_5 hf0_1 hf0_2 hf0_3 hf0_4 hf0_5 hf3_4 hf3_5 hf4_5 z0_1_0 z0_2_0 z0_3_0 z0_4_0 z0_5_0 z3_4_0 z3_4_1 z3_5_0 z3_5_1 z4_5_0
    have hvs : w5.heap.size + 1 + 1 ≤ V.heap.size := by omega
    clear hVs
    with_reducible refine (eqTrain_same _ _ _ _ _ _ r1 _ HN1.out HM1.out GA5.out.rows PA5.out.rows).mono ?_
    rintro e w6 ⟨rfl, hb⟩
    have BX6 := Lib.hid (BX5.out.ext hb)
    have OX6 := Lib.hid (OX5.out.ext hb)
    have PA6 := Lib.hid (PA5.out.ext hb)
    have PB6 := Lib.hid (PB5.out.ext hb)
    have GA6 := Lib.hid (GA5.out.ext hb)
    have GB6 := Lib.hid (GB5.out.ext hb)
    have HW6 := Lib.hid (HW5.out.trans hb)
    have z6 := hb.size
    clear BX5 OX5 PA5 PB5 GA5 GB5 HW5 hb
    have cG10 : w6.cell? ⟨w5.heap.size + 1, 0, none⟩ = some (.bool u1) := (BX6.out (w5.heap.size + 1, 26, #[.bool u1, .slice v5 n2 vc5]) (by simp)).cell rfl
    have cG11 : w6.cell? ⟨w5.heap.size + 1, 1, none⟩ = some (.slice v5 n2 vc5) := (BX6.out (w5.heap.size + 1, 26, #[.bool u1, .slice v5 n2 vc5]) (by simp)).cell rfl
    have cP10 : w6.cell? ⟨w3.heap.size + 1, 0, none⟩ = some (.bool u1) := (BX6.out (w3.heap.size + 1, 26, #[.bool u1, .slice v3 n2 vc3]) (by simp)).cell rfl
    have cP11 : w6.cell? ⟨w3.heap.size + 1, 1, none⟩ = some (.slice v3 n2 vc3) := (BX6.out (w3.heap.size + 1, 26, #[.bool u1, .slice v3 n2 vc3]) (by simp)).cell rfl
    go_wp2_with fail
    with_reducible refine (eqTrain_same _ _ _ _ _ _ r2 _ HN2.out HM2.out GB6.out.rows PB6.out.rows).mono ?_
    rintro e w7 ⟨rfl, hb⟩
    clear cG10 cG11 cP10 cP11
    have BX7 := Lib.hid (BX6.out.ext hb)
    have OX7 := Lib.hid (OX6.out.ext hb)
    have PA7 := Lib.hid (PA6.out.ext hb)
    have PB7 := Lib.hid (PB6.out.ext hb)
    have GA7 := Lib.hid (GA6.out.ext hb)
    have GB7 := Lib.hid (GB6.out.ext hb)
    have HW7 := Lib.hid (HW6.out.trans hb)
    have z7 := hb.size
    clear BX6 OX6 PA6 PB6 GA6 GB6 HW6 hb
    have cX0 : w7.cell? ⟨w4.heap.size, 0, none⟩ = some (.bool u) := (BX7.out (w4.heap.size, 26, #[.bool u, .slice (some a4) n n]) (by simp)).cell rfl
    have cX1 : w7.cell? ⟨w4.heap.size, 1, none⟩ = some (.slice (some a4) n n) := (BX7.out (w4.heap.size, 26, #[.bool u, .slice (some a4) n n]) (by simp)).cell rfl
    have cA0 : w7.cell? ⟨w.heap.size, 0, none⟩ = some (.bool u) := (BX7.out (w.heap.size, 45, #[.bool u, .slice a n c]) (by simp)).cell rfl
    have cA1 : w7.cell? ⟨w.heap.size, 1, none⟩ = some (.slice a n c) := (BX7.out (w.heap.size, 45, #[.bool u, .slice a n c]) (by simp)).cell rfl
    have hS := Ext.refl w7
    go_wp2_with fail
    go_region_held3 (fun w' => Ext w7 w' ∧ w'.cell? ⟨w.heap.size, 0, none⟩ = some (.bool u) ∧ w'.cell? ⟨w.heap.size, 1, none⟩ = some (.slice a n c) ∧ w'.cell? ⟨w4.heap.size, 0, none⟩ = some (.bool u) ∧ w'.cell? ⟨w4.heap.size, 1, none⟩ = some (.slice (some a4) n n))
      ((repeat' (refine And.intro ?_ ?_)) <;> (first | (exact Ext.cell (w := w7) (by (repeat' (first | (with_reducible exact Ext.refl _) | (with_reducible assumption) | (with_reducible refine Ext.alloc ?_ _) | (with_reducible refine Ext.drewN ?_ _) | (with_reducible refine Ext.drew ?_) | (with_reducible refine Ext.setCell ?_ ?_ _) | (with_reducible exact Nat.le_refl _) | (with_reducible exact Nat.le_succ _) | (with_reducible refine Ext.trans ?_ (by assumption)) | (simp; done) | (simp; omega)))) (by assumption)) | ((repeat' (first | (with_reducible exact Ext.refl _) | (with_reducible assumption) | (with_reducible refine Ext.alloc ?_ _) | (with_reducible refine Ext.drewN ?_ _) | (with_reducible refine Ext.drew ?_) | (with_reducible refine Ext.setCell ?_ ?_ _) | (with_reducible exact Nat.le_refl _) | (with_reducible exact Nat.le_succ _) | (with_reducible refine Ext.trans ?_ (by assumption)) | (simp; done) | (simp; omega))); done)))
      (first
        | (go_at_call 27; refine (toTrain_any _ _ _ _ rows _ HN.out hs2 HR.out (HF.out.ext (HW7.out.trans (by (repeat' (first | (with_reducible exact Ext.refl _) | (with_reducible assumption) | (with_reducible refine Ext.alloc ?_ _) | (with_reducible refine Ext.drewN ?_ _) | (with_reducible refine Ext.drew ?_) | (with_reducible refine Ext.setCell ?_ ?_ _) | (with_reducible exact Nat.le_refl _) | (with_reducible exact Nat.le_succ _) | (with_reducible refine Ext.trans ?_ (by assumption)) | (simp; done) | (simp; omega))))))).mono ?_; rintro e w' ⟨a6, rfl, ho6, hb6⟩)
        | (go_at_call 29; refine (eqTrain_same _ _ _ _ _ _ rows _ HN.out HS.out (OX7.out.rows.ext (by (repeat' (first | (with_reducible exact Ext.refl _) | (with_reducible assumption) | (with_reducible refine Ext.alloc ?_ _) | (with_reducible refine Ext.drewN ?_ _) | (with_reducible refine Ext.drew ?_) | (with_reducible refine Ext.setCell ?_ ?_ _) | (with_reducible exact Nat.le_refl _) | (with_reducible exact Nat.le_succ _) | (with_reducible refine Ext.trans ?_ (by assumption)) | (simp; done) | (simp; omega))))) ho6.rows).mono ?_; rintro e w' ⟨rfl, hb7⟩))
    obtain ⟨w8, hw8e⟩ : ∃ x, x = w' := ⟨_, rfl⟩
    subst hw8e
    have hx8 : Ext w7 w8 := by (repeat' (first | (with_reducible exact Ext.refl _) | (with_reducible assumption) | (with_reducible refine Ext.alloc ?_ _) | (with_reducible refine Ext.drewN ?_ _) | (with_reducible refine Ext.drew ?_) | (with_reducible refine Ext.setCell ?_ ?_ _) | (with_reducible exact Nat.le_refl _) | (with_reducible exact Nat.le_succ _) | (with_reducible refine Ext.trans ?_ (by assumption)) | (simp; done) | (simp; omega)))
    clear ho6 hb6 hb7 hS
    clear cX0 cX1 cA0 cA1
    have BX8 := Lib.hid (BX7.out.ext hx8)
    have OX8 := Lib.hid (OX7.out.ext hx8)
    have PA8 := Lib.hid (PA7.out.ext hx8)
    have PB8 := Lib.hid (PB7.out.ext hx8)
    have GA8 := Lib.hid (GA7.out.ext hx8)
    have GB8 := Lib.hid (GB7.out.ext hx8)
    have HW8 := Lib.hid (HW7.out.trans hx8)
    have z8 := hx8.size
    clear BX7 OX7 PA7 PB7 GA7 GB7 HW7 hx8
    have cX0 : w8.cell? ⟨w4.heap.size, 0, none⟩ = some (.bool u) := (BX8.out (w4.heap.size, 26, #[.bool u, .slice (some a4) n n]) (by simp)).cell rfl
    have cX1 : w8.cell? ⟨w4.heap.size, 1, none⟩ = some (.slice (some a4) n n) := (BX8.out (w4.heap.size, 26, #[.bool u, .slice (some a4) n n]) (by simp)).cell rfl
    go_wp2_with fail
    with_reducible refine (markTrain_is T _ _ _ _ (w3.heap.size + 1 + 1) w4.heap.size rows 1 _ HN.out hs2 HR.out hTb (by decide) (by decide) (by omega) OX8.out HTT.out).mono ?_
    rintro e w9 ⟨rfl, ho, hc⟩
    clear cX0 cX1
    have BX9 := Lib.hid (BX8.out.chg hc (by intro p hp; simp only [List.mem_cons, List.not_mem_nil, or_false] at hp; rcases hp with rfl | rfl | rfl | rfl | rfl | rfl <;> (dsimp only; omega)))
    have OX9 := Lib.hid ho
    have PA9 := Lib.hid (PA8.out.chg hc (by omega))
    have PB9 := Lib.hid (PB8.out.chg hc (by omega))
    have GA9 := Lib.hid (GA8.out.chg hc (by omega))
    have GB9 := Lib.hid (GB8.out.chg hc (by omega))
    have HW9 := Lib.hid (hc.ext HW8.out (by omega))
    have z9 := hc.size
    clear BX8 OX8 PA8 PB8 GA8 GB8 HW8 hc ho
    have cG00 : w9.cell? ⟨w5.heap.size, 0, none⟩ = some (.bool u1) := (BX9.out (w5.heap.size, 26, #[.bool u1, .slice p5 n1 pc5]) (by simp)).cell rfl
    have cG01 : w9.cell? ⟨w5.heap.size, 1, none⟩ = some (.slice p5 n1 pc5) := (BX9.out (w5.heap.size, 26, #[.bool u1, .slice p5 n1 pc5]) (by simp)).cell rfl
    have cP00 : w9.cell? ⟨w3.heap.size, 0, none⟩ = some (.bool u1) := (BX9.out (w3.heap.size, 26, #[.bool u1, .slice p3 n1 pc3]) (by simp)).cell rfl
    have cP01 : w9.cell? ⟨w3.heap.size, 1, none⟩ = some (.slice p3 n1 pc3) := (BX9.out (w3.heap.size, 26, #[.bool u1, .slice p3 n1 pc3]) (by simp)).cell rfl
    go_wp2_with fail
    with_reducible refine (eqTrain_same _ _ _ _ _ _ r1 _ HN1.out HM1.out GA9.out.rows PA9.out.rows).mono ?_
    rintro e w10 ⟨rfl, hb⟩
    clear cG00 cG01 cP00 cP01
    have BX10 := Lib.hid (BX9.out.ext hb)
    have OX10 := Lib.hid (OX9.out.ext hb)
    have PA10 := Lib.hid (PA9.out.ext hb)
    have PB10 := Lib.hid (PB9.out.ext hb)
    have GA10 := Lib.hid (GA9.out.ext hb)
    have GB10 := Lib.hid (GB9.out.ext hb)
    have HW10 := Lib.hid (HW9.out.trans hb)
    have z10 := hb.size
    clear BX9 OX9 PA9 PB9 GA9 GB9 HW9 hb
    have cG10 : w10.cell? ⟨w5.heap.size + 1, 0, none⟩ = some (.bool u1) := (BX10.out (w5.heap.size + 1, 26, #[.bool u1, .slice v5 n2 vc5]) (by simp)).cell rfl
    have cG11 : w10.cell? ⟨w5.heap.size + 1, 1, none⟩ = some (.slice v5 n2 vc5) := (BX10.out (w5.heap.size + 1, 26, #[.bool u1, .slice v5 n2 vc5]) (by simp)).cell rfl
    have cP10 : w10.cell? ⟨w3.heap.size + 1, 0, none⟩ = some (.bool u1) := (BX10.out (w3.heap.size + 1, 26, #[.bool u1, .slice v3 n2 vc3]) (by simp)).cell rfl
    have cP11 : w10.cell? ⟨w3.heap.size + 1, 1, none⟩ = some (.slice v3 n2 vc3) := (BX10.out (w3.heap.size + 1, 26, #[.bool u1, .slice v3 n2 vc3]) (by simp)).cell rfl
    go_wp2_with fail
    with_reducible refine (eqTrain_same _ _ _ _ _ _ r2 _ HN2.out HM2.out GB10.out.rows PB10.out.rows).mono ?_
    rintro e w11 ⟨rfl, hb⟩
    clear cG10 cG11 cP10 cP11
    have BX11 := Lib.hid (BX10.out.ext hb)
    have OX11 := Lib.hid (OX10.out.ext hb)
    have PA11 := Lib.hid (PA10.out.ext hb)
    have PB11 := Lib.hid (PB10.out.ext hb)
    have GA11 := Lib.hid (GA10.out.ext hb)
    have GB11 := Lib.hid (GB10.out.ext hb)
    have HW11 := Lib.hid (HW10.out.trans hb)
    have z11 := hb.size
    clear BX10 OX10 PA10 PB10 GA10 GB10 HW10 hb
    have cG00 : w11.cell? ⟨w5.heap.size, 0, none⟩ = some (.bool u1) := (BX11.out (w5.heap.size, 26, #[.bool u1, .slice p5 n1 pc5]) (by simp)).cell rfl
    have cG01 : w11.cell? ⟨w5.heap.size, 1, none⟩ = some (.slice p5 n1 pc5) := (BX11.out (w5.heap.size, 26, #[.bool u1, .slice p5 n1 pc5]) (by simp)).cell rfl
    go_wp2_with fail
    with_reducible refine (markTrain_is T1 _ _ _ _ (w4.heap.size + 1) mid5 r1 1 _ HN1.out l1 HQ1.out t1 (by decide) (by decide) (by omega) GA11.out HT1.out).mono ?_
    rintro e w12 ⟨rfl, ho, hc⟩
    clear cG00 cG01
    have BX12 := Lib.hid (BX11.out.chg hc (by intro p hp; simp only [List.mem_cons, List.not_mem_nil, or_false] at hp; rcases hp with rfl | rfl | rfl | rfl | rfl | rfl <;> (dsimp only; omega)))
    have OX12 := Lib.hid (OX11.out.chg hc (by omega))
    have PA12 := Lib.hid (PA11.out.chg hc (by omega))
    have PB12 := Lib.hid (PB11.out.chg hc (by omega))
    have GA12 := Lib.hid ho
    have GB12 := Lib.hid (GB11.out.chg hc (by omega))
    have HW12 := Lib.hid (hc.ext HW11.out (by omega))
    have z12 := hc.size
    clear BX11 OX11 PA11 PB11 GA11 GB11 HW11 hc ho
    have cG10 : w12.cell? ⟨w5.heap.size + 1, 0, none⟩ = some (.bool u1) := (BX12.out (w5.heap.size + 1, 26, #[.bool u1, .slice v5 n2 vc5]) (by simp)).cell rfl
    have cG11 : w12.cell? ⟨w5.heap.size + 1, 1, none⟩ = some (.slice v5 n2 vc5) := (BX12.out (w5.heap.size + 1, 26, #[.bool u1, .slice v5 n2 vc5]) (by simp)).cell rfl
    go_wp2_with fail
    with_reducible refine (markTrain_is T2 _ _ _ _ mid5 w5.heap.size r2 _ _ HN2.out l2 HQ2.out t2 (by omega) (by omega) (by omega) GB12.out HT2.out).mono ?_
    rintro e w13 ⟨rfl, ho, hc⟩
    clear cG10 cG11
    have BX13 := Lib.hid (BX12.out.chg hc (by intro p hp; simp only [List.mem_cons, List.not_mem_nil, or_false] at hp; rcases hp with rfl | rfl | rfl | rfl | rfl | rfl <;> (dsimp only; omega)))
    have OX13 := Lib.hid (OX12.out.chg hc (by omega))
    have PA13 := Lib.hid (PA12.out.chg hc (by omega))
    have PB13 := Lib.hid (PB12.out.chg hc (by omega))
    have GA13 := Lib.hid (GA12.out.chg hc (by omega))
    have GB13 := Lib.hid ho
    have HW13 := Lib.hid (hc.ext HW12.out (by omega))
    have z13 := hc.size
    clear BX12 OX12 PA12 PB12 GA12 GB12 HW12 hc ho
    have cG00 : w13.cell? ⟨w5.heap.size, 0, none⟩ = some (.bool u1) := (BX13.out (w5.heap.size, 26, #[.bool u1, .slice p5 n1 pc5]) (by simp)).cell rfl
    have cG01 : w13.cell? ⟨w5.heap.size, 1, none⟩ = some (.slice p5 n1 pc5) := (BX13.out (w5.heap.size, 26, #[.bool u1, .slice p5 n1 pc5]) (by simp)).cell rfl
    go_wp2_with fail
    with_reducible refine (heldTrain_is T1 _ _ _ _ r1 1 _ HN1.out l1 HQ1.out t1 (by omega) (by omega) GA13.out.rows HT1.out).mono ?_
    rintro e w14 ⟨rfl, hb⟩
    clear cG00 cG01
    have BX14 := Lib.hid (BX13.out.ext hb)
    have OX14 := Lib.hid (OX13.out.ext hb)
    have PA14 := Lib.hid (PA13.out.ext hb)
    have PB14 := Lib.hid (PB13.out.ext hb)
    have GA14 := Lib.hid (GA13.out.ext hb)
    have GB14 := Lib.hid (GB13.out.ext hb)
    have HW14 := Lib.hid (HW13.out.trans hb)
    have z14 := hb.size
    clear BX13 OX13 PA13 PB13 GA13 GB13 HW13 hb
    have cG10 : w14.cell? ⟨w5.heap.size + 1, 0, none⟩ = some (.bool u1) := (BX14.out (w5.heap.size + 1, 26, #[.bool u1, .slice v5 n2 vc5]) (by simp)).cell rfl
    have cG11 : w14.cell? ⟨w5.heap.size + 1, 1, none⟩ = some (.slice v5 n2 vc5) := (BX14.out (w5.heap.size + 1, 26, #[.bool u1, .slice v5 n2 vc5]) (by simp)).cell rfl
    go_wp2_with fail
    with_reducible refine (heldTrain_is T2 _ _ _ _ r2 _ _ HN2.out l2 HQ2.out t2 (by omega) (by omega) GB14.out.rows HT2.out).mono ?_
    rintro e w15 ⟨rfl, hb⟩
    clear cG10 cG11
    have BX15 := Lib.hid (BX14.out.ext hb)
    have OX15 := Lib.hid (OX14.out.ext hb)
    have PA15 := Lib.hid (PA14.out.ext hb)
    have PB15 := Lib.hid (PB14.out.ext hb)
    have GA15 := Lib.hid (GA14.out.ext hb)
    have GB15 := Lib.hid (GB14.out.ext hb)
    have HW15 := Lib.hid (HW14.out.trans hb)
    have z15 := hb.size
    clear BX14 OX14 PA14 PB14 GA14 GB14 HW14 hb
    have cA0 : w15.cell? ⟨w.heap.size, 0, none⟩ = some (.bool u) := (BX15.out (w.heap.size, 45, #[.bool u, .slice a n c]) (by simp)).cell rfl
    have cA1 : w15.cell? ⟨w.heap.size, 1, none⟩ = some (.slice a n c) := (BX15.out (w.heap.size, 45, #[.bool u, .slice a n c]) (by simp)).cell rfl
    go_wp2_with fail
    with_reducible refine (toTrain_any _ _ _ _ rows _ HN.out hs2 HR.out (HF.out.ext HW15.out)).mono ?_
    rintro e w16 ⟨a16, rfl, ho16, hb⟩
    clear cA0 cA1
    have HO16 := Lib.hid ho16.rows; clear ho16
    have BX16 := Lib.hid (BX15.out.ext hb)
    have OX16 := Lib.hid (OX15.out.ext hb)
    have PA16 := Lib.hid (PA15.out.ext hb)
    have PB16 := Lib.hid (PB15.out.ext hb)
    have GA16 := Lib.hid (GA15.out.ext hb)
    have GB16 := Lib.hid (GB15.out.ext hb)
    have HW16 := Lib.hid (HW15.out.trans hb)
    have z16 := hb.size
    clear BX15 OX15 PA15 PB15 GA15 GB15 HW15 hb
    go_wp2_with fail
    with_reducible refine (implDivide_any u1 R r1 r2 n1 n2 _ _ _ _ rows _ _ HN.out (Nat.le_refl _) hs2 HR.out HT.out HO16.out HRR.out HN1.out HN2.out).mono ?_
    rintro e w17 ⟨p7, pc7, v7, vc7, mid7, rfl, hi7, hj7, hm7, hb⟩
    have HA17 := Lib.hid hi7.rows; have HB17 := Lib.hid hj7.rows; clear hi7 hj7 hm7
    have BX17 := Lib.hid (BX16.out.ext hb)
    have OX17 := Lib.hid (OX16.out.ext hb)
    have PA17 := Lib.hid (PA16.out.ext hb)
    have PB17 := Lib.hid (PB16.out.ext hb)
    have GA17 := Lib.hid (GA16.out.ext hb)
    have GB17 := Lib.hid (GB16.out.ext hb)
    have HW17 := Lib.hid (HW16.out.trans hb)
    have z17 := hb.size
    clear BX16 OX16 PA16 PB16 GA16 GB16 HW16 hb
    have cP00 : w17.cell? ⟨w3.heap.size, 0, none⟩ = some (.bool u1) := (BX17.out (w3.heap.size, 26, #[.bool u1, .slice p3 n1 pc3]) (by simp)).cell rfl
    have cP01 : w17.cell? ⟨w3.heap.size, 1, none⟩ = some (.slice p3 n1 pc3) := (BX17.out (w3.heap.size, 26, #[.bool u1, .slice p3 n1 pc3]) (by simp)).cell rfl
    have e17 := ((Ext.refl w17).alloc (.cells #[.bool u1, .slice p7 n1 pc7] 26)).alloc (.cells #[.bool u1, .slice v7 n2 vc7] 26)
    have k0 := e17.cell cP00; have k1 := e17.cell cP01
    have m0 := RowAt.new (w17.alloc (.cells #[.bool u1, .slice p7 n1 pc7] 26)) 26 #[.bool u1, .slice v7 n2 vc7]
    rw [World.size_alloc] at m0
    have M0 := Lib.hid m0; clear m0
    clear cP00 cP01
    go_wp2_with fail
    with_reducible refine (eqTrain_same _ _ _ _ _ _ r1 _ HN1.out HM1.out (HA17.out.ext e17) (PA17.out.rows.ext e17)).mono ?_
    rintro e w18 ⟨rfl, hb⟩
    have m1 := M0.out.ext hb
    have y0 : w18.cell? ⟨w17.heap.size + 1, 0, none⟩ = some (.bool u1) := m1.cell rfl
    have y1 : w18.cell? ⟨w17.heap.size + 1, 1, none⟩ = some (.slice v7 n2 vc7) := m1.cell rfl
    have HB18 := Lib.hid (HB17.out.ext (e17.trans hb))
    have hx18 := e17.trans hb
    clear hb m1 k0 k1 e17
    have BX18 := Lib.hid (BX17.out.ext hx18)
    have OX18 := Lib.hid (OX17.out.ext hx18)
    have PA18 := Lib.hid (PA17.out.ext hx18)
    have PB18 := Lib.hid (PB17.out.ext hx18)
    have GA18 := Lib.hid (GA17.out.ext hx18)
    have GB18 := Lib.hid (GB17.out.ext hx18)
    have HW18 := Lib.hid (HW17.out.trans hx18)
    have z18 := hx18.size
    clear BX17 OX17 PA17 PB17 GA17 GB17 HW17 hx18
    have cP10 : w18.cell? ⟨w3.heap.size + 1, 0, none⟩ = some (.bool u1) := (BX18.out (w3.heap.size + 1, 26, #[.bool u1, .slice v3 n2 vc3]) (by simp)).cell rfl
    have cP11 : w18.cell? ⟨w3.heap.size + 1, 1, none⟩ = some (.slice v3 n2 vc3) := (BX18.out (w3.heap.size + 1, 26, #[.bool u1, .slice v3 n2 vc3]) (by simp)).cell rfl
    go_wp2_with fail
    with_reducible refine (eqTrain_same _ _ _ _ _ _ r2 _ HN2.out HM2.out HB18.out PB18.out.rows).mono ?_
    rintro e w19 ⟨rfl, hb⟩
    clear cP10 cP11
    clear y0 y1
    have BX19 := Lib.hid (BX18.out.ext hb)
    have OX19 := Lib.hid (OX18.out.ext hb)
    have PA19 := Lib.hid (PA18.out.ext hb)
    have PB19 := Lib.hid (PB18.out.ext hb)
    have GA19 := Lib.hid (GA18.out.ext hb)
    have GB19 := Lib.hid (GB18.out.ext hb)
    have HW19 := Lib.hid (HW18.out.trans hb)
    have z19 := hb.size
    clear BX18 OX18 PA18 PB18 GA18 GB18 HW18 hb
    have cG00 : w19.cell? ⟨w5.heap.size, 0, none⟩ = some (.bool u1) := (BX19.out (w5.heap.size, 26, #[.bool u1, .slice p5 n1 pc5]) (by simp)).cell rfl
    have cG01 : w19.cell? ⟨w5.heap.size, 1, none⟩ = some (.slice p5 n1 pc5) := (BX19.out (w5.heap.size, 26, #[.bool u1, .slice p5 n1 pc5]) (by simp)).cell rfl
    go_wp2_with fail
    with_reducible refine (heldTrain_is T1 _ _ _ _ r1 1 _ HN1.out l1 HQ1.out t1 (by omega) (by omega) GA19.out.rows HT1.out).mono ?_
    rintro e w20 ⟨rfl, hb⟩
    clear cG00 cG01
    have BX20 := Lib.hid (BX19.out.ext hb)
    have OX20 := Lib.hid (OX19.out.ext hb)
    have PA20 := Lib.hid (PA19.out.ext hb)
    have PB20 := Lib.hid (PB19.out.ext hb)
    have GA20 := Lib.hid (GA19.out.ext hb)
    have GB20 := Lib.hid (GB19.out.ext hb)
    have HW20 := Lib.hid (HW19.out.trans hb)
    have z20 := hb.size
    clear BX19 OX19 PA19 PB19 GA19 GB19 HW19 hb
    have cG10 : w20.cell? ⟨w5.heap.size + 1, 0, none⟩ = some (.bool u1) := (BX20.out (w5.heap.size + 1, 26, #[.bool u1, .slice v5 n2 vc5]) (by simp)).cell rfl
    have cG11 : w20.cell? ⟨w5.heap.size + 1, 1, none⟩ = some (.slice v5 n2 vc5) := (BX20.out (w5.heap.size + 1, 26, #[.bool u1, .slice v5 n2 vc5]) (by simp)).cell rfl
    go_wp2_with fail
    with_reducible refine (heldTrain_is T2 _ _ _ _ r2 _ _ HN2.out l2 HQ2.out t2 (by omega) (by omega) GB20.out.rows HT2.out).mono ?_
    rintro e w21 ⟨rfl, hb⟩
    clear cG10 cG11
    have BX21 := Lib.hid (BX20.out.ext hb)
    have OX21 := Lib.hid (OX20.out.ext hb)
    have PA21 := Lib.hid (PA20.out.ext hb)
    have PB21 := Lib.hid (PB20.out.ext hb)
    have GA21 := Lib.hid (GA20.out.ext hb)
    have GB21 := Lib.hid (GB20.out.ext hb)
    have HW21 := Lib.hid (HW20.out.trans hb)
    have z21 := hb.size
    clear BX20 OX20 PA20 PB20 GA20 GB20 HW20 hb
    have hx := HW21.out
    go_wp2
    go_ret
    exact ⟨rfl, hx⟩

theorem own : ownKnob Try.prog.godebug = none := by kernel_rfl
theorem laidOut : laidOutB Try.prog = true := Head.laidOut

set_option maxRecDepth 100000 in
theorem contract (H : Type) (enc : TypeId × Value → H) (W : World) (base : Nat) (args : Array Value) (ds gs : List (DataW H)) (before : List MemPlace)
    (hval : ∀ (j : Nat) t v, Try.f6.params[j]? = some t → args[j]? = some v → Value.okWide Try.prog W .any base t v)
    (hW : DataW.Whole enc Try.prog Try.f6.params.toList Rows.fnExactDivideTrainSpec.vars false W args.toList ds gs before) :
    Calls Try.prog 6 args W fun e W' => ∃ v, e = .returned v ∧ Rows.fnExactDivideTrainSpec.post enc Try.prog Try.f6 false true false false W args v W' := by
  have hW' := hW
  obtain ⟨p, q, hA0, hV, rfl, hfz, hnd⟩ := hW
  have hA : DataW.TrodAll enc Try.prog W 0 (fun _ => true) true Try.f6.params.toList args.toList ds p := hA0
  rw [Try.params6] at hA hval
  obtain ⟨v0, vs0, d0, ds0, p0, q0, hargs, rfl, rfl, h0, r0⟩ := trodAll_cons hA
  obtain ⟨v1, vs1, d1, ds1, p1, q1, rfl, rfl, rfl, h1, r1⟩ := trodAll_cons r0
  obtain ⟨rfl, rfl, rfl⟩ := trodAll_nil r1
  obtain rfl : args = #[v0, v1] := by cases args; simp_all
  obtain ⟨rfl, rfl⟩ := trodVars_none hV
  have hv0 := hval 0 45 v0 rfl rfl
  have hv1 := hval 1 3 v1 rfl rfl
  clear hA0 hA
  obtain ⟨u, rows, a, c, rfl, hmax, hrows⟩ := open_train hv0 h0
  obtain ⟨k, rfl, rfl, rfl, wk⟩ := open_int Try.underlying3 hv1 h1
  refine (walk u a _ c rows k W rfl hmax hrows).mono fun e W' ⟨he, hb⟩ => ?_
  subst he
  exact ⟨_, rfl, law_post laidOut rfl (by kernel_rfl) rfl Try.underlying4 hW' rfl rfl rfl hb.below⟩

set_option maxRecDepth 100000 in
theorem lifted (os : Os) (started : os.Started) (H : Type) (enc : TypeId × Value → H) :
    ReturnsInHanded {} Try.checked os 6 .any (Rows.fnExactDivideTrainSpec.pre6 enc Try.prog Try.f6 Rows.fnExactDivideTrainRow.domain false) (Rows.fnExactDivideTrainSpec.post enc Try.prog Try.f6 false true false false) := by
  refine returnsInHanded_of_change (C := Try.checked) own started (by kernel_rfl) Try.func6
    (ChangeSpec.witness6 (enc := enc) (C := Try.checked) false ⟨#[], #[.agg #[.bool false, .slice none 0 0], .int .i64 0], []⟩ 8 (by kernel_rfl) (by kernel_rfl) (by kernel_rfl) (by kernel_rfl)) ?_
  intro W base args ds gs before hval hW _ _
  exact contract H enc W base args ds gs before hval hW

theorem closed : joinedFacts Try.prog 6 Try.f6 Rows.fnExactDivideTrainSpec Rows.fnExactDivideTrainRow = true := by
  unfold joinedFacts
  rw [Head.laidOut, Head.mapsRowed, Head.stopsHeard, Head.mayEnter, Head.liftsFinal, Head.make, Head.plainKeys]
  kernel_rfl
theorem proved : Rows.FnExactDivideTrainSaid :=
  OpenClaim.holds_of_wide 6 Try.f6 rfl rfl rfl rfl rfl rfl rfl ⟨rfl, rfl, rfl, rfl, rfl⟩ rfl rfl rfl rfl rfl (by kernel_rfl) Try.func6 closed
    (of_decide_eq_true (by kernel_rfl)) (by unfold Func.isWrapper; first | (rw [if_pos (by decide +kernel)]; kernel_rfl) | (rw [if_neg (by decide +kernel)]; exact ⟨rfl, rfl⟩))
    (fun os started H enc _ => lifted os started H enc)
end Go.Proofs.Ytmcmialaofckkaa.lawDivideTrain
