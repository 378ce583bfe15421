/- For every two trains, the program and the reference agree on the train that CoupleTrains returns, and it shares no memory with others. -/
import Derived.Test.YtmcmialaofckkaaRows
import Derived.Test.YtmcmialaofckkaaHead
import Derived.Test.YtmcmialaofckkaaOpenT
import Derived.Test.YtmcmialaofckkaaCoupleS
import Derived.Deep.RegionHeld3
namespace Go.Proofs.Ytmcmialaofckkaa.lawCoupleTrains
open Go.ChangeShapes Go.WideShapes Go.ChangeAt Go.RowKit Go.Joins
set_option linter.unusedVariables false
set_option linter.unusedSimpArgs false

theorem total_append (ra rb : List (List Bt)) : total (ra ++ rb) = total ra + total rb := by
  unfold total
  rw [List.map_append, List.sum_append]
theorem couRes_bounds {ua ub : Bool} {ra rb : List (List Bt)} {u1 R : Bool} {r1 : List (List Bt)} (h : couRes ua ub ra rb = (u1, r1, R)) (hl : ra.length + rb.length ≤ 1048576) (hra : ∀ r ∈ ra, r.length ≤ 1048576) (hrb : ∀ r ∈ rb, r.length ≤ 1048576) (ht : total ra + total rb ≤ 1048576) :
    r1.length ≤ 1048576 ∧ (∀ r ∈ r1, r.length ≤ 1048576) ∧ total r1 ≤ 1048576 := by
  unfold couRes at h
  split at h
  · cases h
    refine ⟨by rw [List.length_append]; exact hl, fun r hr => ?_, by rw [total_append]; exact ht⟩
    rcases List.mem_append.1 hr with hr | hr
    · exact hra r hr
    · exact hrb r hr
  · cases h
    exact ⟨Nat.zero_le _, (fun r h => by cases h), Nat.zero_le _⟩
theorem OwnRows.low {w : World} {lo hi : Nat} {a : Option Addr} {rows : List (List Bt)} (h : OwnRows w lo hi a rows) : OwnRows w 0 hi a rows := h.wide (Nat.zero_le _) (Nat.le_refl _)

set_option maxRecDepth 100000 in
set_option maxHeartbeats 16000000 in
theorem walk (ua ub : Bool) (aa ab : Option Addr) (na ca nb cb : Nat) (ra rb : List (List Bt)) (w : World) (hna : na = ra.length) (hsa : na ≤ maxLen) (hfa : RowsAt w aa ra) (hnb : nb = rb.length) (hsb : nb ≤ maxLen) (hfb : RowsAt w ab rb) :
    Calls Try.prog 8 #[.agg #[.bool ua, .slice aa na ca], .agg #[.bool ub, .slice ab nb cb]] w fun e w' => e = .returned (.bool true) ∧ Ext w w' := by
  have HFA := Lib.hid hfa; clear hfa
  have HFB := Lib.hid hfb; clear hfb
  have HMA := Lib.hid hsa; clear hsa
  have HMB := Lib.hid hsb; clear hsb
  have A0 := (RowAt.new w 45 #[.bool ua, .slice aa na ca]).ext ((Ext.refl _).alloc (.cells #[.bool ub, .slice ab nb cb] 45))
  have B0 := RowAt.new (w.alloc (.cells #[.bool ua, .slice aa na ca] 45)) 45 #[.bool ub, .slice ab nb cb]
  rw [World.size_alloc] at B0
  have hw0 : Ext w ((w.alloc (.cells #[.bool ua, .slice aa na ca] 45)).alloc (.cells #[.bool ub, .slice ab nb cb] 45)) := ((Ext.refl w).alloc _).alloc _
  obtain ⟨W, hW⟩ : ∃ W, (w.alloc (.cells #[.bool ua, .slice aa na ca] 45)).alloc (.cells #[.bool ub, .slice ab nb cb] 45) = W := ⟨_, rfl⟩
  rw [hW] at A0 B0 hw0
  have HW := Lib.hid hW; clear hW
  have g0 : W.cell? ⟨w.heap.size, 0, none⟩ = some (.bool ua) := A0.cell rfl
  have g1 : W.cell? ⟨w.heap.size, 1, none⟩ = some (.slice aa na ca) := A0.cell rfl
  have HA0 := Lib.hid A0; clear A0
  have HB0 := Lib.hid B0; clear B0
  have HW0 := Lib.hid hw0
  by_cases hz1 : szRows 1048576 ra < 0
  · have HNA := Lib.hid hna; clear hna
    have HNB := Lib.hid hnb; clear hnb
    obtain ⟨z, hz⟩ : ∃ z, szRows 1048576 ra = z := ⟨_, rfl⟩
    rw [hz] at hz1
    have HZ := Lib.hid hz; clear hz
    have d0 : decide (z < 0) = true := by simpa using hz1
    go_enter Try.func8, Try.ntmps8
    go_wp2_with fail
    rw [HW.out]
    refine (szTrain_is z _ _ _ _ ra _ HNA.out HMA.out (by decide) (by decide) _ (HFA.out.ext HW0.out) HZ.out).mono ?_
    rintro e w1 ⟨rfl, hb1⟩
    have hx := hw0.trans hb1
    go_wp2
    go_ret
    exact ⟨rfl, hx⟩
  obtain ⟨hna2, hra, hta⟩ := szRows_bounds (L := 1048576) (by decide) (by decide) hz1
  have hzv := szRows_val (left := 1048576) (by decide) (by omega : 0 ≤ szRows 1048576 ra)
  rw [← hna] at hna2 hzv
  obtain ⟨z, hz⟩ : ∃ z, szRows 1048576 ra = z := ⟨_, rfl⟩
  rw [hz] at hz1 hzv
  have hzle : z ≤ 1048576 := by omega
  have hz0 : 0 ≤ z := by omega
  have HZ := Lib.hid hz; clear hz
  have d0 : decide (z < 0) = false := by simpa using hz1
  by_cases hz2 : szRows z rb < 0
  · have HNA := Lib.hid hna; clear hna
    have HNB := Lib.hid hnb; clear hnb
    clear hzv
    obtain ⟨y, hy⟩ : ∃ y, szRows z rb = y := ⟨_, rfl⟩
    rw [hy] at hz2
    have HY := Lib.hid hy; clear hy
    have d1 : decide (y < 0) = true := by simpa using hz2
    go_enter Try.func8, Try.ntmps8
    go_wp2_with fail
    rw [HW.out]
    refine (szTrain_is z _ _ _ _ ra _ HNA.out HMA.out (by decide) (by decide) _ (HFA.out.ext HW0.out) HZ.out).mono ?_
    rintro e w1 ⟨rfl, hb1⟩
    have hB1 := HB0.out.ext hb1
    have k0 : w1.cell? ⟨w.heap.size + 1, 0, none⟩ = some (.bool ub) := hB1.cell rfl
    have k1 : w1.cell? ⟨w.heap.size + 1, 1, none⟩ = some (.slice ab nb cb) := hB1.cell rfl
    clear hB1
    go_wp2_with fail
    refine (szTrain_is y _ _ _ _ rb _ HNB.out HMB.out hz0 hzle _ (HFB.out.ext (HW0.out.trans hb1)) HY.out).mono ?_
    rintro e w2 ⟨rfl, hb2⟩
    have hx := (hw0.trans hb1).trans hb2
    go_wp2
    go_ret
    exact ⟨rfl, hx⟩
  · obtain ⟨hnb2, hrb, htb⟩ := szRows_bounds (L := z) hz0 hzle hz2
    have hyv := szRows_val (left := z) hz0 (by omega : 0 ≤ szRows z rb)
    rw [← hnb] at hnb2 hyv
    obtain ⟨y, hy⟩ : ∃ y, szRows z rb = y := ⟨_, rfl⟩
    rw [hy] at hz2 hyv
    have HY := Lib.hid hy; clear hy
    have d1 : decide (y < 0) = false := by simpa using hz2
    obtain ⟨u1, r1, R, hRR⟩ : ∃ u1 r1 R, couRes ua ub ra rb = (u1, r1, R) := ⟨_, _, _, rfl⟩
    obtain ⟨l1, q1, t1⟩ := couRes_bounds hRR (by rw [← hna, ← hnb]; omega) hra hrb (by omega)
    have hab : na + nb ≤ 1048576 := by omega
    have htab : ra.flatten.length + rb.flatten.length ≤ 1048576 := by rw [← total_flatten, ← total_flatten]; omega
    obtain ⟨TA, hTA⟩ : ∃ T, total ra = T := ⟨_, rfl⟩
    obtain ⟨TB, hTB⟩ : ∃ T, total rb = T := ⟨_, rfl⟩
    obtain ⟨T1, hT1⟩ : ∃ T, total r1 = T := ⟨_, rfl⟩
    obtain ⟨n1, hn1⟩ : ∃ m, m = r1.length := ⟨_, rfl⟩
    have bA : TA ≤ 1048576 := by rw [hTA] at hzv; omega
    have bB : TB ≤ 1048576 := by rw [hTB] at hyv; omega
    rw [hT1] at t1
    rw [← hn1] at l1
    clear hzv hyv
    have HTA := Lib.hid hta; clear hta
    have HTB := Lib.hid htb; clear htb
    have HTAB := Lib.hid htab; clear htab
    have HVA := Lib.hid hTA; clear hTA
    have HVB := Lib.hid hTB; clear hTB
    have HV1 := Lib.hid hT1; clear hT1
    have HN1 := Lib.hid hn1; clear hn1
    have HQ1 := Lib.hid q1; clear q1
    have HM1 := Lib.hid (show n1 ≤ maxLen by unfold maxLen; omega)
    have HRR := Lib.hid hRR; clear hRR
    have HNA := Lib.hid hna; clear hna
    have HNB := Lib.hid hnb; clear hnb
    have HRA := Lib.hid hra; clear hra
    have HRB := Lib.hid hrb; clear hrb
    have d2 : decide (1 + 6 * (TA : Int) + 6 * (TB : Int) < 0) = false := by simp; omega
    have d3 : decide (1 + 6 * (T1 : Int) < 0) = false := by simp; omega
    go_enter Try.func8, Try.ntmps8
    go_wp2_with fail
    rw [HW.out]
    refine (szTrain_is z _ _ _ _ ra _ HNA.out HMA.out (by decide) (by decide) _ (HFA.out.ext HW0.out) HZ.out).mono ?_
    rintro e w1 ⟨rfl, hb1⟩
    have hB1 := HB0.out.ext hb1
    have k0 : w1.cell? ⟨w.heap.size + 1, 0, none⟩ = some (.bool ub) := hB1.cell rfl
    have k1 : w1.cell? ⟨w.heap.size + 1, 1, none⟩ = some (.slice ab nb cb) := hB1.cell rfl
    clear hB1
    go_wp2_with fail
    refine (szTrain_is y _ _ _ _ rb _ HNB.out HMB.out hz0 hzle _ (HFB.out.ext (HW0.out.trans hb1)) HY.out).mono ?_
    rintro e w2 ⟨rfl, hb2⟩
    have hW2 : Ext W w2 := hb1.trans hb2
    have hw2 := hw0.trans hW2
    clear g0 g1 k0 k1
    have HA2 := Lib.hid (HA0.out.ext hW2)
    have HB2 := Lib.hid (HB0.out.ext hW2)
    have zB2 := HB2.out.lt
    clear hb1 hb2 hW2 hw0
    have tA0 : w2.cell? ⟨w.heap.size, 0, none⟩ = some (.bool ua) := HA2.out.cell rfl
    have tA1 : w2.cell? ⟨w.heap.size, 1, none⟩ = some (.slice aa na ca) := HA2.out.cell rfl
    have tB0 : w2.cell? ⟨w.heap.size + 1, 0, none⟩ = some (.bool ub) := HB2.out.cell rfl
    have tB1 : w2.cell? ⟨w.heap.size + 1, 1, none⟩ = some (.slice ab nb cb) := HB2.out.cell rfl
    have HSK := Lib.hid (fun (w' : World) (h : Ext w2 w') => (⟨h, h.cell tA0, h.cell tA1, h.cell tB0, h.cell tB1⟩ : Ext w2 w' ∧ w'.cell? ⟨w.heap.size, 0, none⟩ = some (.bool ua) ∧ w'.cell? ⟨w.heap.size, 1, none⟩ = some (.slice aa na ca) ∧ w'.cell? ⟨w.heap.size + 1, 0, none⟩ = some (.bool ub) ∧ w'.cell? ⟨w.heap.size + 1, 1, none⟩ = some (.slice ab nb cb)))
    have hE := Ext.refl w2
    have hwk := hw2
    go_wp2_with fail
    refine wp_region_held_drew (S := (fun w' => Ext w2 w' ∧ w'.cell? ⟨w.heap.size, 0, none⟩ = some (.bool ua) ∧ w'.cell? ⟨w.heap.size, 1, none⟩ = some (.slice aa na ca) ∧ w'.cell? ⟨w.heap.size + 1, 0, none⟩ = some (.bool ub) ∧ w'.cell? ⟨w.heap.size + 1, 1, none⟩ = some (.slice ab nb cb))) (by kernel_rfl) ?_ (fun hH0 => ?_)
    · (try dsimp only)
      (exact HSK.out _ (by (repeat' (first | (with_reducible exact Ext.refl _) | (with_reducible assumption) | (with_reducible refine Ext.alloc ?_ _) | (with_reducible refine Ext.drewN ?_ _) | (with_reducible refine Ext.drew ?_) | (with_reducible refine Ext.setCell ?_ ?_ _) | (with_reducible exact Nat.le_refl _) | (with_reducible exact Nat.le_succ _) | (with_reducible refine Ext.trans ?_ (by assumption)) | (simp; done) | (simp; omega)))))
    refine take_l 0 (v := ?_) rfl (by kernel_rfl) (by kernel_rfl) (by kernel_rfl) (fun _ _ _ h => h) (by rfl) ?_ (by assumption) ?_
    rotate_left
    · (intro w hSw; (try dsimp only at hSw); go_simp; (try with_reducible rfl))
    (try simp only [Act.put, List.setIfInBounds_toArray, List.set_cons_zero, List.set_cons_succ])
    refine take_l 2 (v := ?_) rfl (by kernel_rfl) (by kernel_rfl) (by kernel_rfl) (fun _ _ _ h => h) (by rfl) ?_ (by assumption) ?_
    rotate_left
    · (intro w hSw; (try dsimp only at hSw); go_simp; (try with_reducible rfl))
    (try simp only [Act.put, List.setIfInBounds_toArray, List.set_cons_zero, List.set_cons_succ])
    refine wpAnyH_ready (rs := [1, 8]) (by kernel_rfl) (by simp) ?_
    refine cons_l (i := 1) rfl (fun K hK => ?_) ?_
    go_simp; (go_at_call 27; with_reducible refine (toTrain_any _ _ _ _ ra _ HNA.out hna2 HRA.out (HFA.out.ext (hwk.trans (by (repeat' (first | (with_reducible exact Ext.refl _) | (with_reducible assumption) | (with_reducible refine Ext.alloc ?_ _) | (with_reducible refine Ext.drewN ?_ _) | (with_reducible refine Ext.drew ?_) | (with_reducible refine Ext.setCell ?_ ?_ _) | (with_reducible exact Nat.le_refl _) | (with_reducible exact Nat.le_succ _) | (with_reducible refine Ext.trans ?_ (by assumption)) | (simp; done) | (simp; omega))))))).mono ?_); rintro e wa ⟨aA, rfl, hoA, hbA⟩; have xA : Ext w2 wa := Ext.trans (by (repeat' (first | (with_reducible exact Ext.refl _) | (with_reducible assumption) | (with_reducible refine Ext.alloc ?_ _) | (with_reducible refine Ext.drewN ?_ _) | (with_reducible refine Ext.drew ?_) | (with_reducible refine Ext.setCell ?_ ?_ _) | (with_reducible exact Nat.le_refl _) | (with_reducible exact Nat.le_succ _) | (with_reducible refine Ext.trans ?_ (by assumption)) | (simp; done) | (simp; omega)))) hbA; (first | (have RB := (RowAt.new w2 26 #[.bool false, .slice none 0 0]).ext ((Ext.refl _).drew.trans hbA)) | skip); have OA := Lib.hid hoA.rows; clear hoA hbA; have sA := xA.size
    refine hK.out _ _ ?_ (fun hH1 => ?_)
    · (try dsimp only)
      (exact HSK.out _ (by (repeat' (first | (with_reducible exact Ext.refl _) | (with_reducible assumption) | (with_reducible refine Ext.alloc ?_ _) | (with_reducible refine Ext.drewN ?_ _) | (with_reducible refine Ext.drew ?_) | (with_reducible refine Ext.setCell ?_ ?_ _) | (with_reducible exact Nat.le_refl _) | (with_reducible exact Nat.le_succ _) | (with_reducible refine Ext.trans ?_ (by assumption)) | (simp; done) | (simp; omega)))))
    clear hK K hH0
    (try simp only [Act.put, List.setIfInBounds_toArray, List.set_cons_zero, List.set_cons_succ])
    refine wpAnyH_ready (rs := [3, 8]) (by kernel_rfl) (by simp) ?_
    refine cons_l (i := 3) rfl (fun K hK => ?_) ?_
    go_simp; (go_at_call 27; with_reducible refine (toTrain_any _ _ _ _ rb _ HNB.out hnb2 HRB.out (HFB.out.ext (hwk.trans (xA.trans (by (repeat' (first | (with_reducible exact Ext.refl _) | (with_reducible assumption) | (with_reducible refine Ext.alloc ?_ _) | (with_reducible refine Ext.drewN ?_ _) | (with_reducible refine Ext.drew ?_) | (with_reducible refine Ext.setCell ?_ ?_ _) | (with_reducible exact Nat.le_refl _) | (with_reducible exact Nat.le_succ _) | (with_reducible refine Ext.trans ?_ (by assumption)) | (simp; done) | (simp; omega)))))))).mono ?_); rintro e wb ⟨aB, rfl, hoB, hbB⟩; have xB : Ext wa wb := Ext.trans (by (repeat' (first | (with_reducible exact Ext.refl _) | (with_reducible assumption) | (with_reducible refine Ext.alloc ?_ _) | (with_reducible refine Ext.drewN ?_ _) | (with_reducible refine Ext.drew ?_) | (with_reducible refine Ext.setCell ?_ ?_ _) | (with_reducible exact Nat.le_refl _) | (with_reducible exact Nat.le_succ _) | (with_reducible refine Ext.trans ?_ (by assumption)) | (simp; done) | (simp; omega)))) hbB; (first | (have RB := RB.ext hbB) | (have RB := (RowAt.new wa 26 #[.bool false, .slice none 0 0]).ext hbB) | skip); have OB := Lib.hid hoB.rows; clear hoB hbB; have sB := xB.size; have xAB := xA.trans xB
    refine hK.out _ _ ?_ (fun hH2 => ?_)
    · (try dsimp only)
      (exact HSK.out _ (by (repeat' (first | (with_reducible exact Ext.refl _) | (with_reducible assumption) | (with_reducible refine Ext.alloc ?_ _) | (with_reducible refine Ext.drewN ?_ _) | (with_reducible refine Ext.drew ?_) | (with_reducible refine Ext.setCell ?_ ?_ _) | (with_reducible exact Nat.le_refl _) | (with_reducible exact Nat.le_succ _) | (with_reducible refine Ext.trans ?_ (by assumption)) | (simp; done) | (simp; omega)))))
    clear hK K hH1
    (try simp only [Act.put, List.setIfInBounds_toArray, List.set_cons_zero, List.set_cons_succ])
    refine wpAnyH_ready (rs := [4, 8]) (by kernel_rfl) (by simp) ?_
    refine cons_l (i := 4) rfl (fun K hK => ?_) ?_
    go_simp; (go_at_call 43; with_reducible refine (specCouple_any u1 R r1 n1 _ _ _ _ _ _ _ _ ra rb _ HNA.out hna2 HRA.out HTA.out (OA.out.ext (xB.trans (by (repeat' (first | (with_reducible exact Ext.refl _) | (with_reducible assumption) | (with_reducible refine Ext.alloc ?_ _) | (with_reducible refine Ext.drewN ?_ _) | (with_reducible refine Ext.drew ?_) | (with_reducible refine Ext.setCell ?_ ?_ _) | (with_reducible exact Nat.le_refl _) | (with_reducible exact Nat.le_succ _) | (with_reducible refine Ext.trans ?_ (by assumption)) | (simp; done) | (simp; omega)))))) HNB.out hnb2 HRB.out HTB.out (OB.out.ext (by (repeat' (first | (with_reducible exact Ext.refl _) | (with_reducible assumption) | (with_reducible refine Ext.alloc ?_ _) | (with_reducible refine Ext.drewN ?_ _) | (with_reducible refine Ext.drew ?_) | (with_reducible refine Ext.setCell ?_ ?_ _) | (with_reducible exact Nat.le_refl _) | (with_reducible exact Nat.le_succ _) | (with_reducible refine Ext.trans ?_ (by assumption)) | (simp; done) | (simp; omega))))) hab HTAB.out HRR.out HN1.out).mono ?_); rintro e wc ⟨pp', pc', rfl, hpo, hbC⟩; have xC : Ext wb wc := Ext.trans (by (repeat' (first | (with_reducible exact Ext.refl _) | (with_reducible assumption) | (with_reducible refine Ext.alloc ?_ _) | (with_reducible refine Ext.drewN ?_ _) | (with_reducible refine Ext.drew ?_) | (with_reducible refine Ext.setCell ?_ ?_ _) | (with_reducible exact Nat.le_refl _) | (with_reducible exact Nat.le_succ _) | (with_reducible refine Ext.trans ?_ (by assumption)) | (simp; done) | (simp; omega)))) hbC; (first | (have RB := RB.ext hbC) | (have RB := (RowAt.new wb 26 #[.bool false, .slice none 0 0]).ext hbC) | skip); have HPO := Lib.hid hpo; clear hpo hbC; have sC := xC.size; have xAC := xAB.trans xC
    refine hK.out _ _ ?_ (fun hH3 => ?_)
    · (try dsimp only)
      (exact HSK.out _ (by (repeat' (first | (with_reducible exact Ext.refl _) | (with_reducible assumption) | (with_reducible refine Ext.alloc ?_ _) | (with_reducible refine Ext.drewN ?_ _) | (with_reducible refine Ext.drew ?_) | (with_reducible refine Ext.setCell ?_ ?_ _) | (with_reducible exact Nat.le_refl _) | (with_reducible exact Nat.le_succ _) | (with_reducible refine Ext.trans ?_ (by assumption)) | (simp; done) | (simp; omega)))))
    clear hK K hH2
    (try simp only [Act.put, List.setIfInBounds_toArray, List.set_cons_zero, List.set_cons_succ])
    refine take_l 5 (v := ?_) rfl (by kernel_rfl) (by kernel_rfl) (by kernel_rfl) (fun _ _ _ h => h) (by rfl) ?_ (by assumption) ?_
    rotate_left
    · (intro w hSw; (try dsimp only at hSw); go_simp; (try with_reducible rfl))
    (try simp only [Act.put, List.setIfInBounds_toArray, List.set_cons_zero, List.set_cons_succ])
    refine take_l 6 (v := ?_) rfl (by kernel_rfl) (by kernel_rfl) (by kernel_rfl) (fun _ _ _ h => h) (by rfl) ?_ (by assumption) ?_
    rotate_left
    · (intro w hSw; (try dsimp only at hSw); go_simp; (try with_reducible rfl))
    (try simp only [Act.put, List.setIfInBounds_toArray, List.set_cons_zero, List.set_cons_succ])
    refine take_l 7 (v := ?_) rfl (by kernel_rfl) (by kernel_rfl) (by kernel_rfl) (fun _ _ _ h => h) (by rfl) ?_ (by assumption) ?_
    rotate_left
    · (intro w hSw; (try dsimp only at hSw); go_simp; (try with_reducible rfl))
    (try simp only [Act.put, List.setIfInBounds_toArray, List.set_cons_zero, List.set_cons_succ])
    refine wpAnyH_ready (rs := [8]) (by kernel_rfl) (by simp) ?_
    refine cons_l (i := 8) rfl (fun K hK => ?_) ?_
    go_simp
    refine hK.out _ _ ?_ (fun hH4 => ?_)
    · (try dsimp only)
      (exact HSK.out _ (by (repeat' (first | (with_reducible exact Ext.refl _) | (with_reducible assumption) | (with_reducible refine Ext.alloc ?_ _) | (with_reducible refine Ext.drewN ?_ _) | (with_reducible refine Ext.drew ?_) | (with_reducible refine Ext.setCell ?_ ?_ _) | (with_reducible exact Nat.le_refl _) | (with_reducible exact Nat.le_succ _) | (with_reducible refine Ext.trans ?_ (by assumption)) | (simp; done) | (simp; omega)))))
    clear hK K hH3
    (try simp only [Act.put, List.setIfInBounds_toArray, List.set_cons_zero, List.set_cons_succ])
    refine wpAnyH_ready (rs := [9]) (by kernel_rfl) (by simp) ?_
    refine cons_l (i := 9) rfl (fun K hK => ?_) ?_
    (try (have k0 := RB.cell (j := 0) (v := .bool false) rfl; have k1 := RB.cell (j := 1) (v := .slice none 0 0) rfl; have k2 := RB.frozen 0; have k3 := RB.frozen 1; have zB := RB.lt)); go_simp
    refine hK.out _ _ ?_ (fun hH5 => ?_)
    · (try dsimp only)
      (exact HSK.out _ (by (repeat' (first | (with_reducible exact Ext.refl _) | (with_reducible assumption) | (with_reducible refine Ext.alloc ?_ _) | (with_reducible refine Ext.drewN ?_ _) | (with_reducible refine Ext.drew ?_) | (with_reducible refine Ext.setCell ?_ ?_ _) | (with_reducible exact Nat.le_refl _) | (with_reducible exact Nat.le_succ _) | (with_reducible refine Ext.trans ?_ (by assumption)) | (simp; done) | (simp; omega)))))
    clear hK K hH4
    (try simp only [Act.put, List.setIfInBounds_toArray, List.set_cons_zero, List.set_cons_succ])
    refine take_l 10 (v := ?_) rfl (by kernel_rfl) (by kernel_rfl) (by kernel_rfl) (fun _ _ _ h => h) (by rfl) ?_ (by assumption) ?_
    rotate_left
    · (intro w hSw; (try dsimp only at hSw); go_simp; (try with_reducible rfl))
    (try simp only [Act.put, List.setIfInBounds_toArray, List.set_cons_zero, List.set_cons_succ])
    refine wpAnyH_done (by kernel_rfl) ?_ _
    rotate_left
    exact AllReadyH.nil
    exact AllReadyH.nil
    refine cons_l (i := 8) rfl (fun K hK => ?_) ?_
    go_simp
    refine hK.out _ _ ?_ (fun hH3 => ?_)
    · (try dsimp only)
      (exact HSK.out _ (by (repeat' (first | (with_reducible exact Ext.refl _) | (with_reducible assumption) | (with_reducible refine Ext.alloc ?_ _) | (with_reducible refine Ext.drewN ?_ _) | (with_reducible refine Ext.drew ?_) | (with_reducible refine Ext.setCell ?_ ?_ _) | (with_reducible exact Nat.le_refl _) | (with_reducible exact Nat.le_succ _) | (with_reducible refine Ext.trans ?_ (by assumption)) | (simp; done) | (simp; omega)))))
    clear hK K hH2
    (try simp only [Act.put, List.setIfInBounds_toArray, List.set_cons_zero, List.set_cons_succ])
    refine wpAnyH_ready (rs := [4]) (by kernel_rfl) (by simp) ?_
    refine cons_l (i := 4) rfl (fun K hK => ?_) ?_
    go_simp; (go_at_call 43; with_reducible refine (specCouple_any u1 R r1 n1 _ _ _ _ _ _ _ _ ra rb _ HNA.out hna2 HRA.out HTA.out (OA.out.ext (xB.trans (by (repeat' (first | (with_reducible exact Ext.refl _) | (with_reducible assumption) | (with_reducible refine Ext.alloc ?_ _) | (with_reducible refine Ext.drewN ?_ _) | (with_reducible refine Ext.drew ?_) | (with_reducible refine Ext.setCell ?_ ?_ _) | (with_reducible exact Nat.le_refl _) | (with_reducible exact Nat.le_succ _) | (with_reducible refine Ext.trans ?_ (by assumption)) | (simp; done) | (simp; omega)))))) HNB.out hnb2 HRB.out HTB.out (OB.out.ext (by (repeat' (first | (with_reducible exact Ext.refl _) | (with_reducible assumption) | (with_reducible refine Ext.alloc ?_ _) | (with_reducible refine Ext.drewN ?_ _) | (with_reducible refine Ext.drew ?_) | (with_reducible refine Ext.setCell ?_ ?_ _) | (with_reducible exact Nat.le_refl _) | (with_reducible exact Nat.le_succ _) | (with_reducible refine Ext.trans ?_ (by assumption)) | (simp; done) | (simp; omega))))) hab HTAB.out HRR.out HN1.out).mono ?_); rintro e wc ⟨pp', pc', rfl, hpo, hbC⟩; have xC : Ext wb wc := Ext.trans (by (repeat' (first | (with_reducible exact Ext.refl _) | (with_reducible assumption) | (with_reducible refine Ext.alloc ?_ _) | (with_reducible refine Ext.drewN ?_ _) | (with_reducible refine Ext.drew ?_) | (with_reducible refine Ext.setCell ?_ ?_ _) | (with_reducible exact Nat.le_refl _) | (with_reducible exact Nat.le_succ _) | (with_reducible refine Ext.trans ?_ (by assumption)) | (simp; done) | (simp; omega)))) hbC; (first | (have RB := RB.ext hbC) | (have RB := (RowAt.new wb 26 #[.bool false, .slice none 0 0]).ext hbC) | skip); have HPO := Lib.hid hpo; clear hpo hbC; have sC := xC.size; have xAC := xAB.trans xC
    refine hK.out _ _ ?_ (fun hH4 => ?_)
    · (try dsimp only)
      (exact HSK.out _ (by (repeat' (first | (with_reducible exact Ext.refl _) | (with_reducible assumption) | (with_reducible refine Ext.alloc ?_ _) | (with_reducible refine Ext.drewN ?_ _) | (with_reducible refine Ext.drew ?_) | (with_reducible refine Ext.setCell ?_ ?_ _) | (with_reducible exact Nat.le_refl _) | (with_reducible exact Nat.le_succ _) | (with_reducible refine Ext.trans ?_ (by assumption)) | (simp; done) | (simp; omega)))))
    clear hK K hH3
    (try simp only [Act.put, List.setIfInBounds_toArray, List.set_cons_zero, List.set_cons_succ])
    refine take_l 5 (v := ?_) rfl (by kernel_rfl) (by kernel_rfl) (by kernel_rfl) (fun _ _ _ h => h) (by rfl) ?_ (by assumption) ?_
    rotate_left
    · (intro w hSw; (try dsimp only at hSw); go_simp; (try with_reducible rfl))
    (try simp only [Act.put, List.setIfInBounds_toArray, List.set_cons_zero, List.set_cons_succ])
    refine take_l 6 (v := ?_) rfl (by kernel_rfl) (by kernel_rfl) (by kernel_rfl) (fun _ _ _ h => h) (by rfl) ?_ (by assumption) ?_
    rotate_left
    · (intro w hSw; (try dsimp only at hSw); go_simp; (try with_reducible rfl))
    (try simp only [Act.put, List.setIfInBounds_toArray, List.set_cons_zero, List.set_cons_succ])
    refine take_l 7 (v := ?_) rfl (by kernel_rfl) (by kernel_rfl) (by kernel_rfl) (fun _ _ _ h => h) (by rfl) ?_ (by assumption) ?_
    rotate_left
    · (intro w hSw; (try dsimp only at hSw); go_simp; (try with_reducible rfl))
    (try simp only [Act.put, List.setIfInBounds_toArray, List.set_cons_zero, List.set_cons_succ])
    refine wpAnyH_ready (rs := [9]) (by kernel_rfl) (by simp) ?_
    refine cons_l (i := 9) rfl (fun K hK => ?_) ?_
    (try (have k0 := RB.cell (j := 0) (v := .bool false) rfl; have k1 := RB.cell (j := 1) (v := .slice none 0 0) rfl; have k2 := RB.frozen 0; have k3 := RB.frozen 1; have zB := RB.lt)); go_simp
    refine hK.out _ _ ?_ (fun hH5 => ?_)
    · (try dsimp only)
      (exact HSK.out _ (by (repeat' (first | (with_reducible exact Ext.refl _) | (with_reducible assumption) | (with_reducible refine Ext.alloc ?_ _) | (with_reducible refine Ext.drewN ?_ _) | (with_reducible refine Ext.drew ?_) | (with_reducible refine Ext.setCell ?_ ?_ _) | (with_reducible exact Nat.le_refl _) | (with_reducible exact Nat.le_succ _) | (with_reducible refine Ext.trans ?_ (by assumption)) | (simp; done) | (simp; omega)))))
    clear hK K hH4
    (try simp only [Act.put, List.setIfInBounds_toArray, List.set_cons_zero, List.set_cons_succ])
    refine take_l 10 (v := ?_) rfl (by kernel_rfl) (by kernel_rfl) (by kernel_rfl) (fun _ _ _ h => h) (by rfl) ?_ (by assumption) ?_
    rotate_left
    · (intro w hSw; (try dsimp only at hSw); go_simp; (try with_reducible rfl))
    (try simp only [Act.put, List.setIfInBounds_toArray, List.set_cons_zero, List.set_cons_succ])
    refine wpAnyH_done (by kernel_rfl) ?_ _
    rotate_left
    exact AllReadyH.nil
    exact AllReadyH.nil
    exact AllReadyH.nil
    refine cons_l (i := 8) rfl (fun K hK => ?_) ?_
    go_simp
    refine hK.out _ _ ?_ (fun hH2 => ?_)
    · (try dsimp only)
      (exact HSK.out _ (by (repeat' (first | (with_reducible exact Ext.refl _) | (with_reducible assumption) | (with_reducible refine Ext.alloc ?_ _) | (with_reducible refine Ext.drewN ?_ _) | (with_reducible refine Ext.drew ?_) | (with_reducible refine Ext.setCell ?_ ?_ _) | (with_reducible exact Nat.le_refl _) | (with_reducible exact Nat.le_succ _) | (with_reducible refine Ext.trans ?_ (by assumption)) | (simp; done) | (simp; omega)))))
    clear hK K hH1
    (try simp only [Act.put, List.setIfInBounds_toArray, List.set_cons_zero, List.set_cons_succ])
    refine wpAnyH_ready (rs := [3]) (by kernel_rfl) (by simp) ?_
    refine cons_l (i := 3) rfl (fun K hK => ?_) ?_
    go_simp; (go_at_call 27; with_reducible refine (toTrain_any _ _ _ _ rb _ HNB.out hnb2 HRB.out (HFB.out.ext (hwk.trans (xA.trans (by (repeat' (first | (with_reducible exact Ext.refl _) | (with_reducible assumption) | (with_reducible refine Ext.alloc ?_ _) | (with_reducible refine Ext.drewN ?_ _) | (with_reducible refine Ext.drew ?_) | (with_reducible refine Ext.setCell ?_ ?_ _) | (with_reducible exact Nat.le_refl _) | (with_reducible exact Nat.le_succ _) | (with_reducible refine Ext.trans ?_ (by assumption)) | (simp; done) | (simp; omega)))))))).mono ?_); rintro e wb ⟨aB, rfl, hoB, hbB⟩; have xB : Ext wa wb := Ext.trans (by (repeat' (first | (with_reducible exact Ext.refl _) | (with_reducible assumption) | (with_reducible refine Ext.alloc ?_ _) | (with_reducible refine Ext.drewN ?_ _) | (with_reducible refine Ext.drew ?_) | (with_reducible refine Ext.setCell ?_ ?_ _) | (with_reducible exact Nat.le_refl _) | (with_reducible exact Nat.le_succ _) | (with_reducible refine Ext.trans ?_ (by assumption)) | (simp; done) | (simp; omega)))) hbB; (first | (have RB := RB.ext hbB) | (have RB := (RowAt.new wa 26 #[.bool false, .slice none 0 0]).ext hbB) | skip); have OB := Lib.hid hoB.rows; clear hoB hbB; have sB := xB.size; have xAB := xA.trans xB
    refine hK.out _ _ ?_ (fun hH3 => ?_)
    · (try dsimp only)
      (exact HSK.out _ (by (repeat' (first | (with_reducible exact Ext.refl _) | (with_reducible assumption) | (with_reducible refine Ext.alloc ?_ _) | (with_reducible refine Ext.drewN ?_ _) | (with_reducible refine Ext.drew ?_) | (with_reducible refine Ext.setCell ?_ ?_ _) | (with_reducible exact Nat.le_refl _) | (with_reducible exact Nat.le_succ _) | (with_reducible refine Ext.trans ?_ (by assumption)) | (simp; done) | (simp; omega)))))
    clear hK K hH2
    (try simp only [Act.put, List.setIfInBounds_toArray, List.set_cons_zero, List.set_cons_succ])
    refine wpAnyH_ready (rs := [4]) (by kernel_rfl) (by simp) ?_
    refine cons_l (i := 4) rfl (fun K hK => ?_) ?_
    go_simp; (go_at_call 43; with_reducible refine (specCouple_any u1 R r1 n1 _ _ _ _ _ _ _ _ ra rb _ HNA.out hna2 HRA.out HTA.out (OA.out.ext (xB.trans (by (repeat' (first | (with_reducible exact Ext.refl _) | (with_reducible assumption) | (with_reducible refine Ext.alloc ?_ _) | (with_reducible refine Ext.drewN ?_ _) | (with_reducible refine Ext.drew ?_) | (with_reducible refine Ext.setCell ?_ ?_ _) | (with_reducible exact Nat.le_refl _) | (with_reducible exact Nat.le_succ _) | (with_reducible refine Ext.trans ?_ (by assumption)) | (simp; done) | (simp; omega)))))) HNB.out hnb2 HRB.out HTB.out (OB.out.ext (by (repeat' (first | (with_reducible exact Ext.refl _) | (with_reducible assumption) | (with_reducible refine Ext.alloc ?_ _) | (with_reducible refine Ext.drewN ?_ _) | (with_reducible refine Ext.drew ?_) | (with_reducible refine Ext.setCell ?_ ?_ _) | (with_reducible exact Nat.le_refl _) | (with_reducible exact Nat.le_succ _) | (with_reducible refine Ext.trans ?_ (by assumption)) | (simp; done) | (simp; omega))))) hab HTAB.out HRR.out HN1.out).mono ?_); rintro e wc ⟨pp', pc', rfl, hpo, hbC⟩; have xC : Ext wb wc := Ext.trans (by (repeat' (first | (with_reducible exact Ext.refl _) | (with_reducible assumption) | (with_reducible refine Ext.alloc ?_ _) | (with_reducible refine Ext.drewN ?_ _) | (with_reducible refine Ext.drew ?_) | (with_reducible refine Ext.setCell ?_ ?_ _) | (with_reducible exact Nat.le_refl _) | (with_reducible exact Nat.le_succ _) | (with_reducible refine Ext.trans ?_ (by assumption)) | (simp; done) | (simp; omega)))) hbC; (first | (have RB := RB.ext hbC) | (have RB := (RowAt.new wb 26 #[.bool false, .slice none 0 0]).ext hbC) | skip); have HPO := Lib.hid hpo; clear hpo hbC; have sC := xC.size; have xAC := xAB.trans xC
    refine hK.out _ _ ?_ (fun hH4 => ?_)
    · (try dsimp only)
      (exact HSK.out _ (by (repeat' (first | (with_reducible exact Ext.refl _) | (with_reducible assumption) | (with_reducible refine Ext.alloc ?_ _) | (with_reducible refine Ext.drewN ?_ _) | (with_reducible refine Ext.drew ?_) | (with_reducible refine Ext.setCell ?_ ?_ _) | (with_reducible exact Nat.le_refl _) | (with_reducible exact Nat.le_succ _) | (with_reducible refine Ext.trans ?_ (by assumption)) | (simp; done) | (simp; omega)))))
    clear hK K hH3
    (try simp only [Act.put, List.setIfInBounds_toArray, List.set_cons_zero, List.set_cons_succ])
    refine take_l 5 (v := ?_) rfl (by kernel_rfl) (by kernel_rfl) (by kernel_rfl) (fun _ _ _ h => h) (by rfl) ?_ (by assumption) ?_
    rotate_left
    · (intro w hSw; (try dsimp only at hSw); go_simp; (try with_reducible rfl))
    (try simp only [Act.put, List.setIfInBounds_toArray, List.set_cons_zero, List.set_cons_succ])
    refine take_l 6 (v := ?_) rfl (by kernel_rfl) (by kernel_rfl) (by kernel_rfl) (fun _ _ _ h => h) (by rfl) ?_ (by assumption) ?_
    rotate_left
    · (intro w hSw; (try dsimp only at hSw); go_simp; (try with_reducible rfl))
    (try simp only [Act.put, List.setIfInBounds_toArray, List.set_cons_zero, List.set_cons_succ])
    refine take_l 7 (v := ?_) rfl (by kernel_rfl) (by kernel_rfl) (by kernel_rfl) (fun _ _ _ h => h) (by rfl) ?_ (by assumption) ?_
    rotate_left
    · (intro w hSw; (try dsimp only at hSw); go_simp; (try with_reducible rfl))
    (try simp only [Act.put, List.setIfInBounds_toArray, List.set_cons_zero, List.set_cons_succ])
    refine wpAnyH_ready (rs := [9]) (by kernel_rfl) (by simp) ?_
    refine cons_l (i := 9) rfl (fun K hK => ?_) ?_
    (try (have k0 := RB.cell (j := 0) (v := .bool false) rfl; have k1 := RB.cell (j := 1) (v := .slice none 0 0) rfl; have k2 := RB.frozen 0; have k3 := RB.frozen 1; have zB := RB.lt)); go_simp
    refine hK.out _ _ ?_ (fun hH5 => ?_)
    · (try dsimp only)
      (exact HSK.out _ (by (repeat' (first | (with_reducible exact Ext.refl _) | (with_reducible assumption) | (with_reducible refine Ext.alloc ?_ _) | (with_reducible refine Ext.drewN ?_ _) | (with_reducible refine Ext.drew ?_) | (with_reducible refine Ext.setCell ?_ ?_ _) | (with_reducible exact Nat.le_refl _) | (with_reducible exact Nat.le_succ _) | (with_reducible refine Ext.trans ?_ (by assumption)) | (simp; done) | (simp; omega)))))
    clear hK K hH4
    (try simp only [Act.put, List.setIfInBounds_toArray, List.set_cons_zero, List.set_cons_succ])
    refine take_l 10 (v := ?_) rfl (by kernel_rfl) (by kernel_rfl) (by kernel_rfl) (fun _ _ _ h => h) (by rfl) ?_ (by assumption) ?_
    rotate_left
    · (intro w hSw; (try dsimp only at hSw); go_simp; (try with_reducible rfl))
    (try simp only [Act.put, List.setIfInBounds_toArray, List.set_cons_zero, List.set_cons_succ])
    refine wpAnyH_done (by kernel_rfl) ?_ _
    rotate_left
    exact AllReadyH.nil
    exact AllReadyH.nil
    exact AllReadyH.nil
    exact AllReadyH.nil
    refine cons_l (i := 8) rfl (fun K hK => ?_) ?_
    go_simp
    refine hK.out _ _ ?_ (fun hH1 => ?_)
    · (try dsimp only)
      (exact HSK.out _ (by (repeat' (first | (with_reducible exact Ext.refl _) | (with_reducible assumption) | (with_reducible refine Ext.alloc ?_ _) | (with_reducible refine Ext.drewN ?_ _) | (with_reducible refine Ext.drew ?_) | (with_reducible refine Ext.setCell ?_ ?_ _) | (with_reducible exact Nat.le_refl _) | (with_reducible exact Nat.le_succ _) | (with_reducible refine Ext.trans ?_ (by assumption)) | (simp; done) | (simp; omega)))))
    clear hK K hH0
    (try simp only [Act.put, List.setIfInBounds_toArray, List.set_cons_zero, List.set_cons_succ])
    refine wpAnyH_ready (rs := [1]) (by kernel_rfl) (by simp) ?_
    refine cons_l (i := 1) rfl (fun K hK => ?_) ?_
    go_simp; (go_at_call 27; with_reducible refine (toTrain_any _ _ _ _ ra _ HNA.out hna2 HRA.out (HFA.out.ext (hwk.trans (by (repeat' (first | (with_reducible exact Ext.refl _) | (with_reducible assumption) | (with_reducible refine Ext.alloc ?_ _) | (with_reducible refine Ext.drewN ?_ _) | (with_reducible refine Ext.drew ?_) | (with_reducible refine Ext.setCell ?_ ?_ _) | (with_reducible exact Nat.le_refl _) | (with_reducible exact Nat.le_succ _) | (with_reducible refine Ext.trans ?_ (by assumption)) | (simp; done) | (simp; omega))))))).mono ?_); rintro e wa ⟨aA, rfl, hoA, hbA⟩; have xA : Ext w2 wa := Ext.trans (by (repeat' (first | (with_reducible exact Ext.refl _) | (with_reducible assumption) | (with_reducible refine Ext.alloc ?_ _) | (with_reducible refine Ext.drewN ?_ _) | (with_reducible refine Ext.drew ?_) | (with_reducible refine Ext.setCell ?_ ?_ _) | (with_reducible exact Nat.le_refl _) | (with_reducible exact Nat.le_succ _) | (with_reducible refine Ext.trans ?_ (by assumption)) | (simp; done) | (simp; omega)))) hbA; (first | (have RB := (RowAt.new w2 26 #[.bool false, .slice none 0 0]).ext ((Ext.refl _).drew.trans hbA)) | skip); have OA := Lib.hid hoA.rows; clear hoA hbA; have sA := xA.size
    refine hK.out _ _ ?_ (fun hH2 => ?_)
    · (try dsimp only)
      (exact HSK.out _ (by (repeat' (first | (with_reducible exact Ext.refl _) | (with_reducible assumption) | (with_reducible refine Ext.alloc ?_ _) | (with_reducible refine Ext.drewN ?_ _) | (with_reducible refine Ext.drew ?_) | (with_reducible refine Ext.setCell ?_ ?_ _) | (with_reducible exact Nat.le_refl _) | (with_reducible exact Nat.le_succ _) | (with_reducible refine Ext.trans ?_ (by assumption)) | (simp; done) | (simp; omega)))))
    clear hK K hH1
    (try simp only [Act.put, List.setIfInBounds_toArray, List.set_cons_zero, List.set_cons_succ])
    refine wpAnyH_ready (rs := [3]) (by kernel_rfl) (by simp) ?_
    refine cons_l (i := 3) rfl (fun K hK => ?_) ?_
    go_simp; (go_at_call 27; with_reducible refine (toTrain_any _ _ _ _ rb _ HNB.out hnb2 HRB.out (HFB.out.ext (hwk.trans (xA.trans (by (repeat' (first | (with_reducible exact Ext.refl _) | (with_reducible assumption) | (with_reducible refine Ext.alloc ?_ _) | (with_reducible refine Ext.drewN ?_ _) | (with_reducible refine Ext.drew ?_) | (with_reducible refine Ext.setCell ?_ ?_ _) | (with_reducible exact Nat.le_refl _) | (with_reducible exact Nat.le_succ _) | (with_reducible refine Ext.trans ?_ (by assumption)) | (simp; done) | (simp; omega)))))))).mono ?_); rintro e wb ⟨aB, rfl, hoB, hbB⟩; have xB : Ext wa wb := Ext.trans (by (repeat' (first | (with_reducible exact Ext.refl _) | (with_reducible assumption) | (with_reducible refine Ext.alloc ?_ _) | (with_reducible refine Ext.drewN ?_ _) | (with_reducible refine Ext.drew ?_) | (with_reducible refine Ext.setCell ?_ ?_ _) | (with_reducible exact Nat.le_refl _) | (with_reducible exact Nat.le_succ _) | (with_reducible refine Ext.trans ?_ (by assumption)) | (simp; done) | (simp; omega)))) hbB; (first | (have RB := RB.ext hbB) | (have RB := (RowAt.new wa 26 #[.bool false, .slice none 0 0]).ext hbB) | skip); have OB := Lib.hid hoB.rows; clear hoB hbB; have sB := xB.size; have xAB := xA.trans xB
    refine hK.out _ _ ?_ (fun hH3 => ?_)
    · (try dsimp only)
      (exact HSK.out _ (by (repeat' (first | (with_reducible exact Ext.refl _) | (with_reducible assumption) | (with_reducible refine Ext.alloc ?_ _) | (with_reducible refine Ext.drewN ?_ _) | (with_reducible refine Ext.drew ?_) | (with_reducible refine Ext.setCell ?_ ?_ _) | (with_reducible exact Nat.le_refl _) | (with_reducible exact Nat.le_succ _) | (with_reducible refine Ext.trans ?_ (by assumption)) | (simp; done) | (simp; omega)))))
    clear hK K hH2
    (try simp only [Act.put, List.setIfInBounds_toArray, List.set_cons_zero, List.set_cons_succ])
    refine wpAnyH_ready (rs := [4]) (by kernel_rfl) (by simp) ?_
    refine cons_l (i := 4) rfl (fun K hK => ?_) ?_
    go_simp; (go_at_call 43; with_reducible refine (specCouple_any u1 R r1 n1 _ _ _ _ _ _ _ _ ra rb _ HNA.out hna2 HRA.out HTA.out (OA.out.ext (xB.trans (by (repeat' (first | (with_reducible exact Ext.refl _) | (with_reducible assumption) | (with_reducible refine Ext.alloc ?_ _) | (with_reducible refine Ext.drewN ?_ _) | (with_reducible refine Ext.drew ?_) | (with_reducible refine Ext.setCell ?_ ?_ _) | (with_reducible exact Nat.le_refl _) | (with_reducible exact Nat.le_succ _) | (with_reducible refine Ext.trans ?_ (by assumption)) | (simp; done) | (simp; omega)))))) HNB.out hnb2 HRB.out HTB.out (OB.out.ext (by (repeat' (first | (with_reducible exact Ext.refl _) | (with_reducible assumption) | (with_reducible refine Ext.alloc ?_ _) | (with_reducible refine Ext.drewN ?_ _) | (with_reducible refine Ext.drew ?_) | (with_reducible refine Ext.setCell ?_ ?_ _) | (with_reducible exact Nat.le_refl _) | (with_reducible exact Nat.le_succ _) | (with_reducible refine Ext.trans ?_ (by assumption)) | (simp; done) | (simp; omega))))) hab HTAB.out HRR.out HN1.out).mono ?_); rintro e wc ⟨pp', pc', rfl, hpo, hbC⟩; have xC : Ext wb wc := Ext.trans (by (repeat' (first | (with_reducible exact Ext.refl _) | (with_reducible assumption) | (with_reducible refine Ext.alloc ?_ _) | (with_reducible refine Ext.drewN ?_ _) | (with_reducible refine Ext.drew ?_) | (with_reducible refine Ext.setCell ?_ ?_ _) | (with_reducible exact Nat.le_refl _) | (with_reducible exact Nat.le_succ _) | (with_reducible refine Ext.trans ?_ (by assumption)) | (simp; done) | (simp; omega)))) hbC; (first | (have RB := RB.ext hbC) | (have RB := (RowAt.new wb 26 #[.bool false, .slice none 0 0]).ext hbC) | skip); have HPO := Lib.hid hpo; clear hpo hbC; have sC := xC.size; have xAC := xAB.trans xC
    refine hK.out _ _ ?_ (fun hH4 => ?_)
    · (try dsimp only)
      (exact HSK.out _ (by (repeat' (first | (with_reducible exact Ext.refl _) | (with_reducible assumption) | (with_reducible refine Ext.alloc ?_ _) | (with_reducible refine Ext.drewN ?_ _) | (with_reducible refine Ext.drew ?_) | (with_reducible refine Ext.setCell ?_ ?_ _) | (with_reducible exact Nat.le_refl _) | (with_reducible exact Nat.le_succ _) | (with_reducible refine Ext.trans ?_ (by assumption)) | (simp; done) | (simp; omega)))))
    clear hK K hH3
    (try simp only [Act.put, List.setIfInBounds_toArray, List.set_cons_zero, List.set_cons_succ])
    refine take_l 5 (v := ?_) rfl (by kernel_rfl) (by kernel_rfl) (by kernel_rfl) (fun _ _ _ h => h) (by rfl) ?_ (by assumption) ?_
    rotate_left
    · (intro w hSw; (try dsimp only at hSw); go_simp; (try with_reducible rfl))
    (try simp only [Act.put, List.setIfInBounds_toArray, List.set_cons_zero, List.set_cons_succ])
    refine take_l 6 (v := ?_) rfl (by kernel_rfl) (by kernel_rfl) (by kernel_rfl) (fun _ _ _ h => h) (by rfl) ?_ (by assumption) ?_
    rotate_left
    · (intro w hSw; (try dsimp only at hSw); go_simp; (try with_reducible rfl))
    (try simp only [Act.put, List.setIfInBounds_toArray, List.set_cons_zero, List.set_cons_succ])
    refine take_l 7 (v := ?_) rfl (by kernel_rfl) (by kernel_rfl) (by kernel_rfl) (fun _ _ _ h => h) (by rfl) ?_ (by assumption) ?_
    rotate_left
    · (intro w hSw; (try dsimp only at hSw); go_simp; (try with_reducible rfl))
    (try simp only [Act.put, List.setIfInBounds_toArray, List.set_cons_zero, List.set_cons_succ])
    refine wpAnyH_ready (rs := [9]) (by kernel_rfl) (by simp) ?_
    refine cons_l (i := 9) rfl (fun K hK => ?_) ?_
    (try (have k0 := RB.cell (j := 0) (v := .bool false) rfl; have k1 := RB.cell (j := 1) (v := .slice none 0 0) rfl; have k2 := RB.frozen 0; have k3 := RB.frozen 1; have zB := RB.lt)); go_simp
    refine hK.out _ _ ?_ (fun hH5 => ?_)
    · (try dsimp only)
      (exact HSK.out _ (by (repeat' (first | (with_reducible exact Ext.refl _) | (with_reducible assumption) | (with_reducible refine Ext.alloc ?_ _) | (with_reducible refine Ext.drewN ?_ _) | (with_reducible refine Ext.drew ?_) | (with_reducible refine Ext.setCell ?_ ?_ _) | (with_reducible exact Nat.le_refl _) | (with_reducible exact Nat.le_succ _) | (with_reducible refine Ext.trans ?_ (by assumption)) | (simp; done) | (simp; omega)))))
    clear hK K hH4
    (try simp only [Act.put, List.setIfInBounds_toArray, List.set_cons_zero, List.set_cons_succ])
    refine take_l 10 (v := ?_) rfl (by kernel_rfl) (by kernel_rfl) (by kernel_rfl) (fun _ _ _ h => h) (by rfl) ?_ (by assumption) ?_
    rotate_left
    · (intro w hSw; (try dsimp only at hSw); go_simp; (try with_reducible rfl))
    (try simp only [Act.put, List.setIfInBounds_toArray, List.set_cons_zero, List.set_cons_succ])
    refine wpAnyH_done (by kernel_rfl) ?_ _
    rotate_left
    exact AllReadyH.nil
    exact AllReadyH.nil
    exact AllReadyH.nil
    exact AllReadyH.nil
    exact AllReadyH.nil
    all_goals
      refine world_as ?_
      intro w3 hwe
      have hx : Ext w2 w3 := by rw [hwe]; exact hH5.1
      first
        | (have hr : RowAt w3 wc.heap.size 26 #[.bool u1, .slice pp' n1 pc'] := (by rw [hwe]; exact RowAt.new wc _ _); have ho : OwnRows w3 0 w3.heap.size pp' r1 := (by rw [hwe]; exact OwnRows.wide (OwnRows.low (HPO.out.ext ((Ext.refl wc).alloc _))) (Nat.le_refl _) (by simp)); have hBl : w2.heap.size ≤ wc.heap.size := (by omega); clear hwe; generalize wc.heap.size = BP at hr hBl ⊢)
        | (have hr : RowAt w3 w2.heap.size 26 #[.bool u1, .slice pp' n1 pc'] := (by rw [hwe]; exact (RB.set 0 (.bool u1)).set 1 (.slice pp' n1 pc')); have ho : OwnRows w3 0 w3.heap.size pp' r1 := (by rw [hwe]; exact OwnRows.wide (OwnRows.low (OwnRows.setT (OwnRows.setT HPO.out RB (by decide) (by decide) 0 (.bool u1)) (RB.set 0 (.bool u1)) (by decide) (by decide) 1 (.slice pp' n1 pc'))) (Nat.le_refl _) (by simp [size_setCell'])); have hBl : w2.heap.size ≤ w2.heap.size := (by omega); clear hwe; generalize w2.heap.size = BP at hr hBl ⊢)
        | (have hr : RowAt w3 wa.heap.size 26 #[.bool u1, .slice pp' n1 pc'] := (by rw [hwe]; exact (RB.set 0 (.bool u1)).set 1 (.slice pp' n1 pc')); have ho : OwnRows w3 0 w3.heap.size pp' r1 := (by rw [hwe]; exact OwnRows.wide (OwnRows.low (OwnRows.setT (OwnRows.setT HPO.out RB (by decide) (by decide) 0 (.bool u1)) (RB.set 0 (.bool u1)) (by decide) (by decide) 1 (.slice pp' n1 pc'))) (Nat.le_refl _) (by simp [size_setCell'])); have hBl : w2.heap.size ≤ wa.heap.size := (by omega); clear hwe; generalize wa.heap.size = BP at hr hBl ⊢)
        | (have hr : RowAt w3 wb.heap.size 26 #[.bool u1, .slice pp' n1 pc'] := (by rw [hwe]; exact (RB.set 0 (.bool u1)).set 1 (.slice pp' n1 pc')); have ho : OwnRows w3 0 w3.heap.size pp' r1 := (by rw [hwe]; exact OwnRows.wide (OwnRows.low (OwnRows.setT (OwnRows.setT HPO.out RB (by decide) (by decide) 0 (.bool u1)) (RB.set 0 (.bool u1)) (by decide) (by decide) 1 (.slice pp' n1 pc'))) (Nat.le_refl _) (by simp [size_setCell'])); have hBl : w2.heap.size ≤ wb.heap.size := (by omega); clear hwe; generalize wb.heap.size = BP at hr hBl ⊢)
      (try clear k0 k1 k2 k3 zB); (try clear RB); clear hH5 HPO OA OB xA xB xC xAB xAC sA sB sC tA0 tA1 tB0 tB1 HSK hE hwk
      have RP3 := Lib.hid hr
      have PA3 := Lib.hid ho
      have zBP := hr.lt
      clear hr ho
      have hw3 := hw2.trans hx; have zx3 := hx.size
      have HA3 := Lib.hid (HA2.out.ext hx); have HB3 := Lib.hid (HB2.out.ext hx)
      have HBL := Lib.hid hBl; clear hx HA2 HB2
      have g0 : w3.cell? ⟨w.heap.size, 0, none⟩ = some (.bool ua) := HA3.out.cell rfl
      have g1 : w3.cell? ⟨w.heap.size, 1, none⟩ = some (.slice aa na ca) := HA3.out.cell rfl
      go_wp2_with fail
      with_reducible refine (toTrain_any _ _ _ _ ra _ HNA.out hna2 HRA.out (HFA.out.ext hw3)).mono ?_
      rintro e w4 ⟨a4, rfl, ho4, hb4⟩
      have s4 := hb4.size
      have e4 := (Ext.refl w4).alloc (.cells #[.bool ua, .slice (some a4) na na] 26)
      have m4 := HB3.out.ext (hb4.trans e4)
      clear g0 g1
      have g0 : (w4.alloc (.cells #[.bool ua, .slice (some a4) na na] 26)).cell? ⟨w.heap.size + 1, 0, none⟩ = some (.bool ub) := m4.cell rfl
      have g1 : (w4.alloc (.cells #[.bool ua, .slice (some a4) na na] 26)).cell? ⟨w.heap.size + 1, 1, none⟩ = some (.slice ab nb cb) := m4.cell rfl
      clear m4
      go_wp2_with fail
      with_reducible refine (toTrain_any _ _ _ _ rb _ HNB.out hnb2 HRB.out (HFB.out.ext (hw3.trans (hb4.trans e4)))).mono ?_
      rintro e w5 ⟨a5, rfl, ho5, hb5⟩
      have s5 := hb5.size
      simp only [World.size_alloc] at s5 ho5
      have e5 := (Ext.refl w5).alloc (.cells #[.bool ub, .slice (some a5) nb nb] 26)
      clear g0 g1
      have RX0 := (RowAt.new w4 26 #[.bool ua, .slice (some a4) na na]).ext (hb5.trans e5)
      have g0 : (w5.alloc (.cells #[.bool ub, .slice (some a5) nb nb] 26)).cell? ⟨w4.heap.size, 0, none⟩ = some (.bool ua) := RX0.cell rfl
      have g1 : (w5.alloc (.cells #[.bool ub, .slice (some a5) nb nb] 26)).cell? ⟨w4.heap.size, 1, none⟩ = some (.slice (some a4) na na) := RX0.cell rfl
      have HRX0 := Lib.hid RX0; clear RX0
      have h45 := e4.trans hb5
      go_wp2_with fail
      with_reducible refine (implCouple_any u1 R r1 n1 _ _ _ _ _ _ _ _ ra rb _ HNA.out hna2 HRA.out HTA.out (ho4.rows.ext (h45.trans e5)) HNB.out hnb2 HRB.out HTB.out (ho5.rows.ext e5) HRR.out HN1.out).mono ?_
      rintro e w6 ⟨p6, c6, rfl, ho6, hb6⟩
      have s6 := hb6.size
      simp only [World.size_alloc] at s6 ho6
      have e6 := (Ext.refl w6).alloc (.cells #[.bool u1, .slice p6 n1 c6] 26)
      have h36 := (hb4.trans h45).trans (e5.trans (hb6.trans e6))
      have HW7 := Lib.hid (hw3.trans h36)
      have rg0 := HA3.out.ext h36; have rg1 := HB3.out.ext h36; have rg2 := RP3.out.ext h36; have rg3 := HRX0.out.ext (hb6.trans e6)
      have rg4 := (RowAt.new w5 26 #[.bool ub, .slice (some a5) nb nb]).ext (hb6.trans e6)
      have rg5 := RowAt.new w6 26 #[.bool u1, .slice p6 n1 c6]
      have BX7 : Hid (Boxes (w6.alloc (.cells #[.bool u1, .slice p6 n1 c6] 26)) [(w.heap.size, 45, #[.bool ua, .slice aa na ca]), (w.heap.size + 1, 45, #[.bool ub, .slice ab nb cb]), (BP, 26, #[.bool u1, .slice pp' n1 pc']), (w4.heap.size, 26, #[.bool ua, .slice (some a4) na na]), (w5.heap.size, 26, #[.bool ub, .slice (some a5) nb nb]), (w6.heap.size, 26, #[.bool u1, .slice p6 n1 c6])]) := Boxes.cons rg0 (Boxes.cons rg1 (Boxes.cons rg2 (Boxes.cons rg3 (Boxes.cons rg4 (Boxes.cons rg5 (Boxes.nil _))))))
      have PA7 := Lib.hid (PA3.out.ext h36)
      have OX7 := Lib.hid (ho4.ext (h45.trans (e5.trans (hb6.trans e6))))
      have OY7 := Lib.hid (ho5.ext (e5.trans (hb6.trans e6)))
      have GA7 := Lib.hid (ho6.ext e6)
      have hvs : (w6.alloc (.cells #[.bool u1, .slice p6 n1 c6] 26)).heap.size = w6.heap.size + 1 := World.size_alloc _ _
      clear g0 g1 ho4 ho5 ho6 hb4 hb5 e4 h45
      have k0 : (w6.alloc (.cells #[.bool u1, .slice p6 n1 c6] 26)).cell? ⟨BP, 0, none⟩ = some (.bool u1) := rg2.cell rfl
      have k1 : (w6.alloc (.cells #[.bool u1, .slice p6 n1 c6] 26)).cell? ⟨BP, 1, none⟩ = some (.slice pp' n1 pc') := rg2.cell rfl
      clear rg0 rg1 rg2 rg3 rg4 rg5 e5 e6 h36 hb6
      go_wp2_with fail
      obtain ⟨V, hV⟩ : ∃ x, (w6.alloc (.cells #[.bool u1, .slice p6 n1 c6] 26)) = x := ⟨_, rfl⟩
      rw [hV] at BX7 PA7 OX7 OY7 GA7 HW7 hvs k0 k1 ⊢
      clear hV
      have hvl : w6.heap.size + 1 ≤ V.heap.size := by omega
      clear hvs
      with_reducible refine (eqTrain_same _ _ _ _ _ _ r1 _ HN1.out HM1.out GA7.out.rows PA7.out.rows).mono ?_
      rintro e w8 ⟨rfl, hb⟩
      clear k0 k1
      have BX8 := Lib.hid (BX7.out.ext hb)
      have OX8 := Lib.hid (OX7.out.ext hb)
      have OY8 := Lib.hid (OY7.out.ext hb)
      have PA8 := Lib.hid (PA7.out.ext hb)
      have GA8 := Lib.hid (GA7.out.ext hb)
      have HW8 := Lib.hid (HW7.out.trans hb)
      have z8 := hb.size
      clear BX7 OX7 OY7 PA7 GA7 HW7 hb
      have cX00 : w8.cell? ⟨w4.heap.size, 0, none⟩ = some (.bool ua) := (BX8.out (w4.heap.size, 26, #[.bool ua, .slice (some a4) na na]) (by simp)).cell rfl
      have cX01 : w8.cell? ⟨w4.heap.size, 1, none⟩ = some (.slice (some a4) na na) := (BX8.out (w4.heap.size, 26, #[.bool ua, .slice (some a4) na na]) (by simp)).cell rfl
      have cA0 : w8.cell? ⟨w.heap.size, 0, none⟩ = some (.bool ua) := (BX8.out (w.heap.size, 45, #[.bool ua, .slice aa na ca]) (by simp)).cell rfl
      have cA1 : w8.cell? ⟨w.heap.size, 1, none⟩ = some (.slice aa na ca) := (BX8.out (w.heap.size, 45, #[.bool ua, .slice aa na ca]) (by simp)).cell rfl
      have hS := Ext.refl w8
      go_wp2_with fail
      go_region_held3 (fun w' => Ext w8 w' ∧ w'.cell? ⟨w4.heap.size, 0, none⟩ = some (.bool ua) ∧ w'.cell? ⟨w4.heap.size, 1, none⟩ = some (.slice (some a4) na na) ∧ w'.cell? ⟨w.heap.size, 0, none⟩ = some (.bool ua) ∧ w'.cell? ⟨w.heap.size, 1, none⟩ = some (.slice aa na ca))
        ((repeat' (refine And.intro ?_ ?_)) <;> (first | (exact Ext.cell (w := w8) (by (repeat' (first | (with_reducible exact Ext.refl _) | (with_reducible assumption) | (with_reducible refine Ext.alloc ?_ _) | (with_reducible refine Ext.drewN ?_ _) | (with_reducible refine Ext.drew ?_) | (with_reducible refine Ext.setCell ?_ ?_ _) | (with_reducible exact Nat.le_refl _) | (with_reducible exact Nat.le_succ _) | (with_reducible refine Ext.trans ?_ (by assumption)) | (simp; done) | (simp; omega)))) (by (with_reducible assumption))) | ((repeat' (first | (with_reducible exact Ext.refl _) | (with_reducible assumption) | (with_reducible refine Ext.alloc ?_ _) | (with_reducible refine Ext.drewN ?_ _) | (with_reducible refine Ext.drew ?_) | (with_reducible refine Ext.setCell ?_ ?_ _) | (with_reducible exact Nat.le_refl _) | (with_reducible exact Nat.le_succ _) | (with_reducible refine Ext.trans ?_ (by assumption)) | (simp; done) | (simp; omega))); done)))
        (first
          | (go_at_call 27; refine (toTrain_any _ _ _ _ ra _ HNA.out hna2 HRA.out (HFA.out.ext (HW8.out.trans (by (repeat' (first | (with_reducible exact Ext.refl _) | (with_reducible assumption) | (with_reducible refine Ext.alloc ?_ _) | (with_reducible refine Ext.drewN ?_ _) | (with_reducible refine Ext.drew ?_) | (with_reducible refine Ext.setCell ?_ ?_ _) | (with_reducible exact Nat.le_refl _) | (with_reducible exact Nat.le_succ _) | (with_reducible refine Ext.trans ?_ (by assumption)) | (simp; done) | (simp; omega))))))).mono ?_; rintro e w' ⟨aQ, rfl, hoQ, hbQ⟩)
          | (go_at_call 29; refine (eqTrain_same _ _ _ _ _ _ ra _ HNA.out HMA.out (OX8.out.rows.ext (by (repeat' (first | (with_reducible exact Ext.refl _) | (with_reducible assumption) | (with_reducible refine Ext.alloc ?_ _) | (with_reducible refine Ext.drewN ?_ _) | (with_reducible refine Ext.drew ?_) | (with_reducible refine Ext.setCell ?_ ?_ _) | (with_reducible exact Nat.le_refl _) | (with_reducible exact Nat.le_succ _) | (with_reducible refine Ext.trans ?_ (by assumption)) | (simp; done) | (simp; omega))))) hoQ.rows).mono ?_; rintro e w' ⟨rfl, hbR⟩))
      obtain ⟨w9, hwe⟩ : ∃ x, x = w' := ⟨_, rfl⟩
      subst hwe
      have hx : Ext w8 w9 := by (repeat' (first | (with_reducible exact Ext.refl _) | (with_reducible assumption) | (with_reducible refine Ext.alloc ?_ _) | (with_reducible refine Ext.drewN ?_ _) | (with_reducible refine Ext.drew ?_) | (with_reducible refine Ext.setCell ?_ ?_ _) | (with_reducible exact Nat.le_refl _) | (with_reducible exact Nat.le_succ _) | (with_reducible refine Ext.trans ?_ (by assumption)) | (simp; done) | (simp; omega)))
      clear hoQ hbQ hbR hS
      clear cX00 cX01 cA0 cA1
      have BX9 := Lib.hid (BX8.out.ext hx)
      have OX9 := Lib.hid (OX8.out.ext hx)
      have OY9 := Lib.hid (OY8.out.ext hx)
      have PA9 := Lib.hid (PA8.out.ext hx)
      have GA9 := Lib.hid (GA8.out.ext hx)
      have HW9 := Lib.hid (HW8.out.trans hx)
      have z9 := hx.size
      clear BX8 OX8 OY8 PA8 GA8 HW8 hx
      have cX10 : w9.cell? ⟨w5.heap.size, 0, none⟩ = some (.bool ub) := (BX9.out (w5.heap.size, 26, #[.bool ub, .slice (some a5) nb nb]) (by simp)).cell rfl
      have cX11 : w9.cell? ⟨w5.heap.size, 1, none⟩ = some (.slice (some a5) nb nb) := (BX9.out (w5.heap.size, 26, #[.bool ub, .slice (some a5) nb nb]) (by simp)).cell rfl
      have cB0 : w9.cell? ⟨w.heap.size + 1, 0, none⟩ = some (.bool ub) := (BX9.out (w.heap.size + 1, 45, #[.bool ub, .slice ab nb cb]) (by simp)).cell rfl
      have cB1 : w9.cell? ⟨w.heap.size + 1, 1, none⟩ = some (.slice ab nb cb) := (BX9.out (w.heap.size + 1, 45, #[.bool ub, .slice ab nb cb]) (by simp)).cell rfl
      have hS := Ext.refl w9
      go_wp2_with fail
      go_region_held3 (fun w' => Ext w9 w' ∧ w'.cell? ⟨w5.heap.size, 0, none⟩ = some (.bool ub) ∧ w'.cell? ⟨w5.heap.size, 1, none⟩ = some (.slice (some a5) nb nb) ∧ w'.cell? ⟨w.heap.size + 1, 0, none⟩ = some (.bool ub) ∧ w'.cell? ⟨w.heap.size + 1, 1, none⟩ = some (.slice ab nb cb))
        ((repeat' (refine And.intro ?_ ?_)) <;> (first | (exact Ext.cell (w := w9) (by (repeat' (first | (with_reducible exact Ext.refl _) | (with_reducible assumption) | (with_reducible refine Ext.alloc ?_ _) | (with_reducible refine Ext.drewN ?_ _) | (with_reducible refine Ext.drew ?_) | (with_reducible refine Ext.setCell ?_ ?_ _) | (with_reducible exact Nat.le_refl _) | (with_reducible exact Nat.le_succ _) | (with_reducible refine Ext.trans ?_ (by assumption)) | (simp; done) | (simp; omega)))) (by (with_reducible assumption))) | ((repeat' (first | (with_reducible exact Ext.refl _) | (with_reducible assumption) | (with_reducible refine Ext.alloc ?_ _) | (with_reducible refine Ext.drewN ?_ _) | (with_reducible refine Ext.drew ?_) | (with_reducible refine Ext.setCell ?_ ?_ _) | (with_reducible exact Nat.le_refl _) | (with_reducible exact Nat.le_succ _) | (with_reducible refine Ext.trans ?_ (by assumption)) | (simp; done) | (simp; omega))); done)))
        (first
          | (go_at_call 27; refine (toTrain_any _ _ _ _ rb _ HNB.out hnb2 HRB.out (HFB.out.ext (HW9.out.trans (by (repeat' (first | (with_reducible exact Ext.refl _) | (with_reducible assumption) | (with_reducible refine Ext.alloc ?_ _) | (with_reducible refine Ext.drewN ?_ _) | (with_reducible refine Ext.drew ?_) | (with_reducible refine Ext.setCell ?_ ?_ _) | (with_reducible exact Nat.le_refl _) | (with_reducible exact Nat.le_succ _) | (with_reducible refine Ext.trans ?_ (by assumption)) | (simp; done) | (simp; omega))))))).mono ?_; rintro e w' ⟨aQ, rfl, hoQ, hbQ⟩)
          | (go_at_call 29; refine (eqTrain_same _ _ _ _ _ _ rb _ HNB.out HMB.out (OY9.out.rows.ext (by (repeat' (first | (with_reducible exact Ext.refl _) | (with_reducible assumption) | (with_reducible refine Ext.alloc ?_ _) | (with_reducible refine Ext.drewN ?_ _) | (with_reducible refine Ext.drew ?_) | (with_reducible refine Ext.setCell ?_ ?_ _) | (with_reducible exact Nat.le_refl _) | (with_reducible exact Nat.le_succ _) | (with_reducible refine Ext.trans ?_ (by assumption)) | (simp; done) | (simp; omega))))) hoQ.rows).mono ?_; rintro e w' ⟨rfl, hbR⟩))
      obtain ⟨w10, hwe⟩ : ∃ x, x = w' := ⟨_, rfl⟩
      subst hwe
      have hx : Ext w9 w10 := by (repeat' (first | (with_reducible exact Ext.refl _) | (with_reducible assumption) | (with_reducible refine Ext.alloc ?_ _) | (with_reducible refine Ext.drewN ?_ _) | (with_reducible refine Ext.drew ?_) | (with_reducible refine Ext.setCell ?_ ?_ _) | (with_reducible exact Nat.le_refl _) | (with_reducible exact Nat.le_succ _) | (with_reducible refine Ext.trans ?_ (by assumption)) | (simp; done) | (simp; omega)))
      clear hoQ hbQ hbR hS
      clear cX10 cX11 cB0 cB1
      have BX10 := Lib.hid (BX9.out.ext hx)
      have OX10 := Lib.hid (OX9.out.ext hx)
      have OY10 := Lib.hid (OY9.out.ext hx)
      have PA10 := Lib.hid (PA9.out.ext hx)
      have GA10 := Lib.hid (GA9.out.ext hx)
      have HW10 := Lib.hid (HW9.out.trans hx)
      have z10 := hx.size
      clear BX9 OX9 OY9 PA9 GA9 HW9 hx
      have cX00 : w10.cell? ⟨w4.heap.size, 0, none⟩ = some (.bool ua) := (BX10.out (w4.heap.size, 26, #[.bool ua, .slice (some a4) na na]) (by simp)).cell rfl
      have cX01 : w10.cell? ⟨w4.heap.size, 1, none⟩ = some (.slice (some a4) na na) := (BX10.out (w4.heap.size, 26, #[.bool ua, .slice (some a4) na na]) (by simp)).cell rfl
      go_wp2_with fail
      with_reducible refine (markTrain_is TA _ _ _ _ (w3.heap.size) (w4.heap.size) ra 1 _ HNA.out hna2 HRA.out bA (by decide) (by decide) (by omega) OX10.out HVA.out).mono ?_
      rintro e w11 ⟨rfl, ho, hc⟩
      clear cX00 cX01
      have BX11 := Lib.hid (BX10.out.chg hc (by intro p hp; simp only [List.mem_cons, List.not_mem_nil, or_false] at hp; rcases hp with rfl | rfl | rfl | rfl | rfl | rfl <;> (dsimp only; omega)))
      have OX11 := Lib.hid ho
      have OY11 := Lib.hid (OY10.out.chg hc (by omega))
      have PA11 := Lib.hid (PA10.out.chg hc (by omega))
      have GA11 := Lib.hid (GA10.out.chg hc (by omega))
      have HW11 := Lib.hid (hc.ext HW10.out (by omega))
      have z11 := hc.size
      clear BX10 OX10 OY10 PA10 GA10 HW10 hc ho
      have cX10 : w11.cell? ⟨w5.heap.size, 0, none⟩ = some (.bool ub) := (BX11.out (w5.heap.size, 26, #[.bool ub, .slice (some a5) nb nb]) (by simp)).cell rfl
      have cX11 : w11.cell? ⟨w5.heap.size, 1, none⟩ = some (.slice (some a5) nb nb) := (BX11.out (w5.heap.size, 26, #[.bool ub, .slice (some a5) nb nb]) (by simp)).cell rfl
      go_wp2_with fail
      with_reducible refine (markTrain_is TB _ _ _ _ (w4.heap.size + 1) (w5.heap.size) rb _ _ HNB.out hnb2 HRB.out bB (by omega) (by omega) (by omega) OY11.out HVB.out).mono ?_
      rintro e w12 ⟨rfl, ho, hc⟩
      clear cX10 cX11
      have BX12 := Lib.hid (BX11.out.chg hc (by intro p hp; simp only [List.mem_cons, List.not_mem_nil, or_false] at hp; rcases hp with rfl | rfl | rfl | rfl | rfl | rfl <;> (dsimp only; omega)))
      have OX12 := Lib.hid (OX11.out.chg hc (by omega))
      have OY12 := Lib.hid ho
      have PA12 := Lib.hid (PA11.out.chg hc (by omega))
      have GA12 := Lib.hid (GA11.out.chg hc (by omega))
      have HW12 := Lib.hid (hc.ext HW11.out (by omega))
      have z12 := hc.size
      clear BX11 OX11 OY11 PA11 GA11 HW11 hc ho
      have cG00 : w12.cell? ⟨w6.heap.size, 0, none⟩ = some (.bool u1) := (BX12.out (w6.heap.size, 26, #[.bool u1, .slice p6 n1 c6]) (by simp)).cell rfl
      have cG01 : w12.cell? ⟨w6.heap.size, 1, none⟩ = some (.slice p6 n1 c6) := (BX12.out (w6.heap.size, 26, #[.bool u1, .slice p6 n1 c6]) (by simp)).cell rfl
      have cP00 : w12.cell? ⟨BP, 0, none⟩ = some (.bool u1) := (BX12.out (BP, 26, #[.bool u1, .slice pp' n1 pc']) (by simp)).cell rfl
      have cP01 : w12.cell? ⟨BP, 1, none⟩ = some (.slice pp' n1 pc') := (BX12.out (BP, 26, #[.bool u1, .slice pp' n1 pc']) (by simp)).cell rfl
      go_wp2_with fail
      with_reducible refine (eqTrain_same _ _ _ _ _ _ r1 _ HN1.out HM1.out GA12.out.rows PA12.out.rows).mono ?_
      rintro e w13 ⟨rfl, hb⟩
      clear cG00 cG01 cP00 cP01
      have BX13 := Lib.hid (BX12.out.ext hb)
      have OX13 := Lib.hid (OX12.out.ext hb)
      have OY13 := Lib.hid (OY12.out.ext hb)
      have PA13 := Lib.hid (PA12.out.ext hb)
      have GA13 := Lib.hid (GA12.out.ext hb)
      have HW13 := Lib.hid (HW12.out.trans hb)
      have z13 := hb.size
      clear BX12 OX12 OY12 PA12 GA12 HW12 hb
      have cG00 : w13.cell? ⟨w6.heap.size, 0, none⟩ = some (.bool u1) := (BX13.out (w6.heap.size, 26, #[.bool u1, .slice p6 n1 c6]) (by simp)).cell rfl
      have cG01 : w13.cell? ⟨w6.heap.size, 1, none⟩ = some (.slice p6 n1 c6) := (BX13.out (w6.heap.size, 26, #[.bool u1, .slice p6 n1 c6]) (by simp)).cell rfl
      go_wp2_with fail
      with_reducible refine (markTrain_is T1 _ _ _ _ (w5.heap.size + 1) (w6.heap.size) r1 1 _ HN1.out l1 HQ1.out t1 (by decide) (by decide) (by omega) GA13.out HV1.out).mono ?_
      rintro e w14 ⟨rfl, ho, hc⟩
      clear cG00 cG01
      have BX14 := Lib.hid (BX13.out.chg hc (by intro p hp; simp only [List.mem_cons, List.not_mem_nil, or_false] at hp; rcases hp with rfl | rfl | rfl | rfl | rfl | rfl <;> (dsimp only; omega)))
      have OX14 := Lib.hid (OX13.out.chg hc (by omega))
      have OY14 := Lib.hid (OY13.out.chg hc (by omega))
      have PA14 := Lib.hid (PA13.out.chg hc (by omega))
      have GA14 := Lib.hid ho
      have HW14 := Lib.hid (hc.ext HW13.out (by omega))
      have z14 := hc.size
      clear BX13 OX13 OY13 PA13 GA13 HW13 hc ho
      have cG00 : w14.cell? ⟨w6.heap.size, 0, none⟩ = some (.bool u1) := (BX14.out (w6.heap.size, 26, #[.bool u1, .slice p6 n1 c6]) (by simp)).cell rfl
      have cG01 : w14.cell? ⟨w6.heap.size, 1, none⟩ = some (.slice p6 n1 c6) := (BX14.out (w6.heap.size, 26, #[.bool u1, .slice p6 n1 c6]) (by simp)).cell rfl
      go_wp2_with fail
      with_reducible refine (heldTrain_is T1 _ _ _ _ r1 1 _ HN1.out l1 HQ1.out t1 (by decide) (by decide) GA14.out.rows HV1.out).mono ?_
      rintro e w15 ⟨rfl, hb⟩
      clear cG00 cG01
      have BX15 := Lib.hid (BX14.out.ext hb)
      have OX15 := Lib.hid (OX14.out.ext hb)
      have OY15 := Lib.hid (OY14.out.ext hb)
      have PA15 := Lib.hid (PA14.out.ext hb)
      have GA15 := Lib.hid (GA14.out.ext hb)
      have HW15 := Lib.hid (HW14.out.trans hb)
      have z15 := hb.size
      clear BX14 OX14 OY14 PA14 GA14 HW14 hb
      have HA15 := Lib.hid (BX15.out (w.heap.size, 45, #[.bool ua, .slice aa na ca]) (by simp))
      have HB15 := Lib.hid (BX15.out (w.heap.size + 1, 45, #[.bool ub, .slice ab nb cb]) (by simp))
      have HPP := Lib.hid PA15.out.rows
      have tA0 : w15.cell? ⟨w.heap.size, 0, none⟩ = some (.bool ua) := HA15.out.cell rfl
      have tA1 : w15.cell? ⟨w.heap.size, 1, none⟩ = some (.slice aa na ca) := HA15.out.cell rfl
      have tB0 : w15.cell? ⟨w.heap.size + 1, 0, none⟩ = some (.bool ub) := HB15.out.cell rfl
      have tB1 : w15.cell? ⟨w.heap.size + 1, 1, none⟩ = some (.slice ab nb cb) := HB15.out.cell rfl
      have HSK := Lib.hid (fun (w' : World) (h : Ext w15 w') => (⟨h, h.cell tA0, h.cell tA1, h.cell tB0, h.cell tB1⟩ : Ext w15 w' ∧ w'.cell? ⟨w.heap.size, 0, none⟩ = some (.bool ua) ∧ w'.cell? ⟨w.heap.size, 1, none⟩ = some (.slice aa na ca) ∧ w'.cell? ⟨w.heap.size + 1, 0, none⟩ = some (.bool ub) ∧ w'.cell? ⟨w.heap.size + 1, 1, none⟩ = some (.slice ab nb cb)))
      have hE := Ext.refl w15
      have hwk := HW15.out
      go_wp2_with fail
      refine wp_region_held_drew (S := (fun w' => Ext w15 w' ∧ w'.cell? ⟨w.heap.size, 0, none⟩ = some (.bool ua) ∧ w'.cell? ⟨w.heap.size, 1, none⟩ = some (.slice aa na ca) ∧ w'.cell? ⟨w.heap.size + 1, 0, none⟩ = some (.bool ub) ∧ w'.cell? ⟨w.heap.size + 1, 1, none⟩ = some (.slice ab nb cb))) (by kernel_rfl) ?_ (fun hH0 => ?_)
      · (try dsimp only)
        (exact HSK.out _ (by (repeat' (first | (with_reducible exact Ext.refl _) | (with_reducible assumption) | (with_reducible refine Ext.alloc ?_ _) | (with_reducible refine Ext.drewN ?_ _) | (with_reducible refine Ext.drew ?_) | (with_reducible refine Ext.setCell ?_ ?_ _) | (with_reducible exact Nat.le_refl _) | (with_reducible exact Nat.le_succ _) | (with_reducible refine Ext.trans ?_ (by assumption)) | (simp; done) | (simp; omega)))))
      refine take_l 0 (v := ?_) rfl (by kernel_rfl) (by kernel_rfl) (by kernel_rfl) (fun _ _ _ h => h) (by rfl) ?_ (by assumption) ?_
      rotate_left
      · (intro w hSw; (try dsimp only at hSw); go_simp; (try with_reducible rfl))
      (try simp only [Act.put, List.setIfInBounds_toArray, List.set_cons_zero, List.set_cons_succ])
      refine take_l 2 (v := ?_) rfl (by kernel_rfl) (by kernel_rfl) (by kernel_rfl) (fun _ _ _ h => h) (by rfl) ?_ (by assumption) ?_
      rotate_left
      · (intro w hSw; (try dsimp only at hSw); go_simp; (try with_reducible rfl))
      (try simp only [Act.put, List.setIfInBounds_toArray, List.set_cons_zero, List.set_cons_succ])
      refine wpAnyH_ready (rs := [1, 8]) (by kernel_rfl) (by simp) ?_
      refine cons_l (i := 1) rfl (fun K hK => ?_) ?_
      go_simp; (go_at_call 27; with_reducible refine (toTrain_any _ _ _ _ ra _ HNA.out hna2 HRA.out (HFA.out.ext (hwk.trans (by (repeat' (first | (with_reducible exact Ext.refl _) | (with_reducible assumption) | (with_reducible refine Ext.alloc ?_ _) | (with_reducible refine Ext.drewN ?_ _) | (with_reducible refine Ext.drew ?_) | (with_reducible refine Ext.setCell ?_ ?_ _) | (with_reducible exact Nat.le_refl _) | (with_reducible exact Nat.le_succ _) | (with_reducible refine Ext.trans ?_ (by assumption)) | (simp; done) | (simp; omega))))))).mono ?_); rintro e wa ⟨aA, rfl, hoA, hbA⟩; have xA : Ext w15 wa := Ext.trans (by (repeat' (first | (with_reducible exact Ext.refl _) | (with_reducible assumption) | (with_reducible refine Ext.alloc ?_ _) | (with_reducible refine Ext.drewN ?_ _) | (with_reducible refine Ext.drew ?_) | (with_reducible refine Ext.setCell ?_ ?_ _) | (with_reducible exact Nat.le_refl _) | (with_reducible exact Nat.le_succ _) | (with_reducible refine Ext.trans ?_ (by assumption)) | (simp; done) | (simp; omega)))) hbA; (first | (have RB := (RowAt.new w15 26 #[.bool false, .slice none 0 0]).ext ((Ext.refl _).drew.trans hbA)) | skip); have OA := Lib.hid hoA.rows; clear hoA hbA; have sA := xA.size
      refine hK.out _ _ ?_ (fun hH1 => ?_)
      · (try dsimp only)
        (exact HSK.out _ (by (repeat' (first | (with_reducible exact Ext.refl _) | (with_reducible assumption) | (with_reducible refine Ext.alloc ?_ _) | (with_reducible refine Ext.drewN ?_ _) | (with_reducible refine Ext.drew ?_) | (with_reducible refine Ext.setCell ?_ ?_ _) | (with_reducible exact Nat.le_refl _) | (with_reducible exact Nat.le_succ _) | (with_reducible refine Ext.trans ?_ (by assumption)) | (simp; done) | (simp; omega)))))
      clear hK K hH0
      (try simp only [Act.put, List.setIfInBounds_toArray, List.set_cons_zero, List.set_cons_succ])
      refine wpAnyH_ready (rs := [3, 8]) (by kernel_rfl) (by simp) ?_
      refine cons_l (i := 3) rfl (fun K hK => ?_) ?_
      go_simp; (go_at_call 27; with_reducible refine (toTrain_any _ _ _ _ rb _ HNB.out hnb2 HRB.out (HFB.out.ext (hwk.trans (xA.trans (by (repeat' (first | (with_reducible exact Ext.refl _) | (with_reducible assumption) | (with_reducible refine Ext.alloc ?_ _) | (with_reducible refine Ext.drewN ?_ _) | (with_reducible refine Ext.drew ?_) | (with_reducible refine Ext.setCell ?_ ?_ _) | (with_reducible exact Nat.le_refl _) | (with_reducible exact Nat.le_succ _) | (with_reducible refine Ext.trans ?_ (by assumption)) | (simp; done) | (simp; omega)))))))).mono ?_); rintro e wb ⟨aB, rfl, hoB, hbB⟩; have xB : Ext wa wb := Ext.trans (by (repeat' (first | (with_reducible exact Ext.refl _) | (with_reducible assumption) | (with_reducible refine Ext.alloc ?_ _) | (with_reducible refine Ext.drewN ?_ _) | (with_reducible refine Ext.drew ?_) | (with_reducible refine Ext.setCell ?_ ?_ _) | (with_reducible exact Nat.le_refl _) | (with_reducible exact Nat.le_succ _) | (with_reducible refine Ext.trans ?_ (by assumption)) | (simp; done) | (simp; omega)))) hbB; (first | (have RB := RB.ext hbB) | (have RB := (RowAt.new wa 26 #[.bool false, .slice none 0 0]).ext hbB) | skip); have OB := Lib.hid hoB.rows; clear hoB hbB; have sB := xB.size; have xAB := xA.trans xB
      refine hK.out _ _ ?_ (fun hH2 => ?_)
      · (try dsimp only)
        (exact HSK.out _ (by (repeat' (first | (with_reducible exact Ext.refl _) | (with_reducible assumption) | (with_reducible refine Ext.alloc ?_ _) | (with_reducible refine Ext.drewN ?_ _) | (with_reducible refine Ext.drew ?_) | (with_reducible refine Ext.setCell ?_ ?_ _) | (with_reducible exact Nat.le_refl _) | (with_reducible exact Nat.le_succ _) | (with_reducible refine Ext.trans ?_ (by assumption)) | (simp; done) | (simp; omega)))))
      clear hK K hH1
      (try simp only [Act.put, List.setIfInBounds_toArray, List.set_cons_zero, List.set_cons_succ])
      refine wpAnyH_ready (rs := [4, 8]) (by kernel_rfl) (by simp) ?_
      refine cons_l (i := 4) rfl (fun K hK => ?_) ?_
      go_simp; (go_at_call 36; with_reducible refine (implCouple_any u1 R r1 n1 _ _ _ _ _ _ _ _ ra rb _ HNA.out hna2 HRA.out HTA.out (OA.out.ext (xB.trans (by (repeat' (first | (with_reducible exact Ext.refl _) | (with_reducible assumption) | (with_reducible refine Ext.alloc ?_ _) | (with_reducible refine Ext.drewN ?_ _) | (with_reducible refine Ext.drew ?_) | (with_reducible refine Ext.setCell ?_ ?_ _) | (with_reducible exact Nat.le_refl _) | (with_reducible exact Nat.le_succ _) | (with_reducible refine Ext.trans ?_ (by assumption)) | (simp; done) | (simp; omega)))))) HNB.out hnb2 HRB.out HTB.out (OB.out.ext (by (repeat' (first | (with_reducible exact Ext.refl _) | (with_reducible assumption) | (with_reducible refine Ext.alloc ?_ _) | (with_reducible refine Ext.drewN ?_ _) | (with_reducible refine Ext.drew ?_) | (with_reducible refine Ext.setCell ?_ ?_ _) | (with_reducible exact Nat.le_refl _) | (with_reducible exact Nat.le_succ _) | (with_reducible refine Ext.trans ?_ (by assumption)) | (simp; done) | (simp; omega))))) HRR.out HN1.out).mono ?_); rintro e wc ⟨pp, pc, rfl, hpo, hbC⟩; have xC : Ext wb wc := Ext.trans (by (repeat' (first | (with_reducible exact Ext.refl _) | (with_reducible assumption) | (with_reducible refine Ext.alloc ?_ _) | (with_reducible refine Ext.drewN ?_ _) | (with_reducible refine Ext.drew ?_) | (with_reducible refine Ext.setCell ?_ ?_ _) | (with_reducible exact Nat.le_refl _) | (with_reducible exact Nat.le_succ _) | (with_reducible refine Ext.trans ?_ (by assumption)) | (simp; done) | (simp; omega)))) hbC; (first | (have RB := RB.ext hbC) | (have RB := (RowAt.new wb 26 #[.bool false, .slice none 0 0]).ext hbC) | skip); have HPO := Lib.hid hpo; clear hpo hbC; have sC := xC.size; have xAC := xAB.trans xC
      refine hK.out _ _ ?_ (fun hH3 => ?_)
      · (try dsimp only)
        (exact HSK.out _ (by (repeat' (first | (with_reducible exact Ext.refl _) | (with_reducible assumption) | (with_reducible refine Ext.alloc ?_ _) | (with_reducible refine Ext.drewN ?_ _) | (with_reducible refine Ext.drew ?_) | (with_reducible refine Ext.setCell ?_ ?_ _) | (with_reducible exact Nat.le_refl _) | (with_reducible exact Nat.le_succ _) | (with_reducible refine Ext.trans ?_ (by assumption)) | (simp; done) | (simp; omega)))))
      clear hK K hH2
      (try simp only [Act.put, List.setIfInBounds_toArray, List.set_cons_zero, List.set_cons_succ])
      refine take_l 5 (v := ?_) rfl (by kernel_rfl) (by kernel_rfl) (by kernel_rfl) (fun _ _ _ h => h) (by rfl) ?_ (by assumption) ?_
      rotate_left
      · (intro w hSw; (try dsimp only at hSw); go_simp; (try with_reducible rfl))
      (try simp only [Act.put, List.setIfInBounds_toArray, List.set_cons_zero, List.set_cons_succ])
      refine take_l 6 (v := ?_) rfl (by kernel_rfl) (by kernel_rfl) (by kernel_rfl) (fun _ _ _ h => h) (by rfl) ?_ (by assumption) ?_
      rotate_left
      · (intro w hSw; (try dsimp only at hSw); go_simp; (try with_reducible rfl))
      (try simp only [Act.put, List.setIfInBounds_toArray, List.set_cons_zero, List.set_cons_succ])
      refine take_l 7 (v := ?_) rfl (by kernel_rfl) (by kernel_rfl) (by kernel_rfl) (fun _ _ _ h => h) (by rfl) ?_ (by assumption) ?_
      rotate_left
      · (intro w hSw; (try dsimp only at hSw); go_simp; (try with_reducible rfl))
      (try simp only [Act.put, List.setIfInBounds_toArray, List.set_cons_zero, List.set_cons_succ])
      refine wpAnyH_ready (rs := [8]) (by kernel_rfl) (by simp) ?_
      refine cons_l (i := 8) rfl (fun K hK => ?_) ?_
      go_simp
      refine hK.out _ _ ?_ (fun hH4 => ?_)
      · (try dsimp only)
        (exact HSK.out _ (by (repeat' (first | (with_reducible exact Ext.refl _) | (with_reducible assumption) | (with_reducible refine Ext.alloc ?_ _) | (with_reducible refine Ext.drewN ?_ _) | (with_reducible refine Ext.drew ?_) | (with_reducible refine Ext.setCell ?_ ?_ _) | (with_reducible exact Nat.le_refl _) | (with_reducible exact Nat.le_succ _) | (with_reducible refine Ext.trans ?_ (by assumption)) | (simp; done) | (simp; omega)))))
      clear hK K hH3
      (try simp only [Act.put, List.setIfInBounds_toArray, List.set_cons_zero, List.set_cons_succ])
      refine wpAnyH_ready (rs := [9]) (by kernel_rfl) (by simp) ?_
      refine cons_l (i := 9) rfl (fun K hK => ?_) ?_
      (try (have k0 := RB.cell (j := 0) (v := .bool false) rfl; have k1 := RB.cell (j := 1) (v := .slice none 0 0) rfl; have k2 := RB.frozen 0; have k3 := RB.frozen 1; have zB := RB.lt)); go_simp
      refine hK.out _ _ ?_ (fun hH5 => ?_)
      · (try dsimp only)
        (exact HSK.out _ (by (repeat' (first | (with_reducible exact Ext.refl _) | (with_reducible assumption) | (with_reducible refine Ext.alloc ?_ _) | (with_reducible refine Ext.drewN ?_ _) | (with_reducible refine Ext.drew ?_) | (with_reducible refine Ext.setCell ?_ ?_ _) | (with_reducible exact Nat.le_refl _) | (with_reducible exact Nat.le_succ _) | (with_reducible refine Ext.trans ?_ (by assumption)) | (simp; done) | (simp; omega)))))
      clear hK K hH4
      (try simp only [Act.put, List.setIfInBounds_toArray, List.set_cons_zero, List.set_cons_succ])
      refine take_l 10 (v := ?_) rfl (by kernel_rfl) (by kernel_rfl) (by kernel_rfl) (fun _ _ _ h => h) (by rfl) ?_ (by assumption) ?_
      rotate_left
      · (intro w hSw; (try dsimp only at hSw); go_simp; (try with_reducible rfl))
      (try simp only [Act.put, List.setIfInBounds_toArray, List.set_cons_zero, List.set_cons_succ])
      refine wpAnyH_done (by kernel_rfl) ?_ _
      rotate_left
      exact AllReadyH.nil
      exact AllReadyH.nil
      refine cons_l (i := 8) rfl (fun K hK => ?_) ?_
      go_simp
      refine hK.out _ _ ?_ (fun hH3 => ?_)
      · (try dsimp only)
        (exact HSK.out _ (by (repeat' (first | (with_reducible exact Ext.refl _) | (with_reducible assumption) | (with_reducible refine Ext.alloc ?_ _) | (with_reducible refine Ext.drewN ?_ _) | (with_reducible refine Ext.drew ?_) | (with_reducible refine Ext.setCell ?_ ?_ _) | (with_reducible exact Nat.le_refl _) | (with_reducible exact Nat.le_succ _) | (with_reducible refine Ext.trans ?_ (by assumption)) | (simp; done) | (simp; omega)))))
      clear hK K hH2
      (try simp only [Act.put, List.setIfInBounds_toArray, List.set_cons_zero, List.set_cons_succ])
      refine wpAnyH_ready (rs := [4]) (by kernel_rfl) (by simp) ?_
      refine cons_l (i := 4) rfl (fun K hK => ?_) ?_
      go_simp; (go_at_call 36; with_reducible refine (implCouple_any u1 R r1 n1 _ _ _ _ _ _ _ _ ra rb _ HNA.out hna2 HRA.out HTA.out (OA.out.ext (xB.trans (by (repeat' (first | (with_reducible exact Ext.refl _) | (with_reducible assumption) | (with_reducible refine Ext.alloc ?_ _) | (with_reducible refine Ext.drewN ?_ _) | (with_reducible refine Ext.drew ?_) | (with_reducible refine Ext.setCell ?_ ?_ _) | (with_reducible exact Nat.le_refl _) | (with_reducible exact Nat.le_succ _) | (with_reducible refine Ext.trans ?_ (by assumption)) | (simp; done) | (simp; omega)))))) HNB.out hnb2 HRB.out HTB.out (OB.out.ext (by (repeat' (first | (with_reducible exact Ext.refl _) | (with_reducible assumption) | (with_reducible refine Ext.alloc ?_ _) | (with_reducible refine Ext.drewN ?_ _) | (with_reducible refine Ext.drew ?_) | (with_reducible refine Ext.setCell ?_ ?_ _) | (with_reducible exact Nat.le_refl _) | (with_reducible exact Nat.le_succ _) | (with_reducible refine Ext.trans ?_ (by assumption)) | (simp; done) | (simp; omega))))) HRR.out HN1.out).mono ?_); rintro e wc ⟨pp, pc, rfl, hpo, hbC⟩; have xC : Ext wb wc := Ext.trans (by (repeat' (first | (with_reducible exact Ext.refl _) | (with_reducible assumption) | (with_reducible refine Ext.alloc ?_ _) | (with_reducible refine Ext.drewN ?_ _) | (with_reducible refine Ext.drew ?_) | (with_reducible refine Ext.setCell ?_ ?_ _) | (with_reducible exact Nat.le_refl _) | (with_reducible exact Nat.le_succ _) | (with_reducible refine Ext.trans ?_ (by assumption)) | (simp; done) | (simp; omega)))) hbC; (first | (have RB := RB.ext hbC) | (have RB := (RowAt.new wb 26 #[.bool false, .slice none 0 0]).ext hbC) | skip); have HPO := Lib.hid hpo; clear hpo hbC; have sC := xC.size; have xAC := xAB.trans xC
      refine hK.out _ _ ?_ (fun hH4 => ?_)
      · (try dsimp only)
        (exact HSK.out _ (by (repeat' (first | (with_reducible exact Ext.refl _) | (with_reducible assumption) | (with_reducible refine Ext.alloc ?_ _) | (with_reducible refine Ext.drewN ?_ _) | (with_reducible refine Ext.drew ?_) | (with_reducible refine Ext.setCell ?_ ?_ _) | (with_reducible exact Nat.le_refl _) | (with_reducible exact Nat.le_succ _) | (with_reducible refine Ext.trans ?_ (by assumption)) | (simp; done) | (simp; omega)))))
      clear hK K hH3
      (try simp only [Act.put, List.setIfInBounds_toArray, List.set_cons_zero, List.set_cons_succ])
      refine take_l 5 (v := ?_) rfl (by kernel_rfl) (by kernel_rfl) (by kernel_rfl) (fun _ _ _ h => h) (by rfl) ?_ (by assumption) ?_
      rotate_left
      · (intro w hSw; (try dsimp only at hSw); go_simp; (try with_reducible rfl))
      (try simp only [Act.put, List.setIfInBounds_toArray, List.set_cons_zero, List.set_cons_succ])
      refine take_l 6 (v := ?_) rfl (by kernel_rfl) (by kernel_rfl) (by kernel_rfl) (fun _ _ _ h => h) (by rfl) ?_ (by assumption) ?_
      rotate_left
      · (intro w hSw; (try dsimp only at hSw); go_simp; (try with_reducible rfl))
      (try simp only [Act.put, List.setIfInBounds_toArray, List.set_cons_zero, List.set_cons_succ])
      refine take_l 7 (v := ?_) rfl (by kernel_rfl) (by kernel_rfl) (by kernel_rfl) (fun _ _ _ h => h) (by rfl) ?_ (by assumption) ?_
      rotate_left
      · (intro w hSw; (try dsimp only at hSw); go_simp; (try with_reducible rfl))
      (try simp only [Act.put, List.setIfInBounds_toArray, List.set_cons_zero, List.set_cons_succ])
      refine wpAnyH_ready (rs := [9]) (by kernel_rfl) (by simp) ?_
      refine cons_l (i := 9) rfl (fun K hK => ?_) ?_
      (try (have k0 := RB.cell (j := 0) (v := .bool false) rfl; have k1 := RB.cell (j := 1) (v := .slice none 0 0) rfl; have k2 := RB.frozen 0; have k3 := RB.frozen 1; have zB := RB.lt)); go_simp
      refine hK.out _ _ ?_ (fun hH5 => ?_)
      · (try dsimp only)
        (exact HSK.out _ (by (repeat' (first | (with_reducible exact Ext.refl _) | (with_reducible assumption) | (with_reducible refine Ext.alloc ?_ _) | (with_reducible refine Ext.drewN ?_ _) | (with_reducible refine Ext.drew ?_) | (with_reducible refine Ext.setCell ?_ ?_ _) | (with_reducible exact Nat.le_refl _) | (with_reducible exact Nat.le_succ _) | (with_reducible refine Ext.trans ?_ (by assumption)) | (simp; done) | (simp; omega)))))
      clear hK K hH4
      (try simp only [Act.put, List.setIfInBounds_toArray, List.set_cons_zero, List.set_cons_succ])
      refine take_l 10 (v := ?_) rfl (by kernel_rfl) (by kernel_rfl) (by kernel_rfl) (fun _ _ _ h => h) (by rfl) ?_ (by assumption) ?_
      rotate_left
      · (intro w hSw; (try dsimp only at hSw); go_simp; (try with_reducible rfl))
      (try simp only [Act.put, List.setIfInBounds_toArray, List.set_cons_zero, List.set_cons_succ])
      refine wpAnyH_done (by kernel_rfl) ?_ _
      rotate_left
      exact AllReadyH.nil
      exact AllReadyH.nil
      exact AllReadyH.nil
      refine cons_l (i := 8) rfl (fun K hK => ?_) ?_
      go_simp
      refine hK.out _ _ ?_ (fun hH2 => ?_)
      · (try dsimp only)
        (exact HSK.out _ (by (repeat' (first | (with_reducible exact Ext.refl _) | (with_reducible assumption) | (with_reducible refine Ext.alloc ?_ _) | (with_reducible refine Ext.drewN ?_ _) | (with_reducible refine Ext.drew ?_) | (with_reducible refine Ext.setCell ?_ ?_ _) | (with_reducible exact Nat.le_refl _) | (with_reducible exact Nat.le_succ _) | (with_reducible refine Ext.trans ?_ (by assumption)) | (simp; done) | (simp; omega)))))
      clear hK K hH1
      (try simp only [Act.put, List.setIfInBounds_toArray, List.set_cons_zero, List.set_cons_succ])
      refine wpAnyH_ready (rs := [3]) (by kernel_rfl) (by simp) ?_
      refine cons_l (i := 3) rfl (fun K hK => ?_) ?_
      go_simp; (go_at_call 27; with_reducible refine (toTrain_any _ _ _ _ rb _ HNB.out hnb2 HRB.out (HFB.out.ext (hwk.trans (xA.trans (by (repeat' (first | (with_reducible exact Ext.refl _) | (with_reducible assumption) | (with_reducible refine Ext.alloc ?_ _) | (with_reducible refine Ext.drewN ?_ _) | (with_reducible refine Ext.drew ?_) | (with_reducible refine Ext.setCell ?_ ?_ _) | (with_reducible exact Nat.le_refl _) | (with_reducible exact Nat.le_succ _) | (with_reducible refine Ext.trans ?_ (by assumption)) | (simp; done) | (simp; omega)))))))).mono ?_); rintro e wb ⟨aB, rfl, hoB, hbB⟩; have xB : Ext wa wb := Ext.trans (by (repeat' (first | (with_reducible exact Ext.refl _) | (with_reducible assumption) | (with_reducible refine Ext.alloc ?_ _) | (with_reducible refine Ext.drewN ?_ _) | (with_reducible refine Ext.drew ?_) | (with_reducible refine Ext.setCell ?_ ?_ _) | (with_reducible exact Nat.le_refl _) | (with_reducible exact Nat.le_succ _) | (with_reducible refine Ext.trans ?_ (by assumption)) | (simp; done) | (simp; omega)))) hbB; (first | (have RB := RB.ext hbB) | (have RB := (RowAt.new wa 26 #[.bool false, .slice none 0 0]).ext hbB) | skip); have OB := Lib.hid hoB.rows; clear hoB hbB; have sB := xB.size; have xAB := xA.trans xB
      refine hK.out _ _ ?_ (fun hH3 => ?_)
      · (try dsimp only)
        (exact HSK.out _ (by (repeat' (first | (with_reducible exact Ext.refl _) | (with_reducible assumption) | (with_reducible refine Ext.alloc ?_ _) | (with_reducible refine Ext.drewN ?_ _) | (with_reducible refine Ext.drew ?_) | (with_reducible refine Ext.setCell ?_ ?_ _) | (with_reducible exact Nat.le_refl _) | (with_reducible exact Nat.le_succ _) | (with_reducible refine Ext.trans ?_ (by assumption)) | (simp; done) | (simp; omega)))))
      clear hK K hH2
      (try simp only [Act.put, List.setIfInBounds_toArray, List.set_cons_zero, List.set_cons_succ])
      refine wpAnyH_ready (rs := [4]) (by kernel_rfl) (by simp) ?_
      refine cons_l (i := 4) rfl (fun K hK => ?_) ?_
      go_simp; (go_at_call 36; with_reducible refine (implCouple_any u1 R r1 n1 _ _ _ _ _ _ _ _ ra rb _ HNA.out hna2 HRA.out HTA.out (OA.out.ext (xB.trans (by (repeat' (first | (with_reducible exact Ext.refl _) | (with_reducible assumption) | (with_reducible refine Ext.alloc ?_ _) | (with_reducible refine Ext.drewN ?_ _) | (with_reducible refine Ext.drew ?_) | (with_reducible refine Ext.setCell ?_ ?_ _) | (with_reducible exact Nat.le_refl _) | (with_reducible exact Nat.le_succ _) | (with_reducible refine Ext.trans ?_ (by assumption)) | (simp; done) | (simp; omega)))))) HNB.out hnb2 HRB.out HTB.out (OB.out.ext (by (repeat' (first | (with_reducible exact Ext.refl _) | (with_reducible assumption) | (with_reducible refine Ext.alloc ?_ _) | (with_reducible refine Ext.drewN ?_ _) | (with_reducible refine Ext.drew ?_) | (with_reducible refine Ext.setCell ?_ ?_ _) | (with_reducible exact Nat.le_refl _) | (with_reducible exact Nat.le_succ _) | (with_reducible refine Ext.trans ?_ (by assumption)) | (simp; done) | (simp; omega))))) HRR.out HN1.out).mono ?_); rintro e wc ⟨pp, pc, rfl, hpo, hbC⟩; have xC : Ext wb wc := Ext.trans (by (repeat' (first | (with_reducible exact Ext.refl _) | (with_reducible assumption) | (with_reducible refine Ext.alloc ?_ _) | (with_reducible refine Ext.drewN ?_ _) | (with_reducible refine Ext.drew ?_) | (with_reducible refine Ext.setCell ?_ ?_ _) | (with_reducible exact Nat.le_refl _) | (with_reducible exact Nat.le_succ _) | (with_reducible refine Ext.trans ?_ (by assumption)) | (simp; done) | (simp; omega)))) hbC; (first | (have RB := RB.ext hbC) | (have RB := (RowAt.new wb 26 #[.bool false, .slice none 0 0]).ext hbC) | skip); have HPO := Lib.hid hpo; clear hpo hbC; have sC := xC.size; have xAC := xAB.trans xC
      refine hK.out _ _ ?_ (fun hH4 => ?_)
      · (try dsimp only)
        (exact HSK.out _ (by (repeat' (first | (with_reducible exact Ext.refl _) | (with_reducible assumption) | (with_reducible refine Ext.alloc ?_ _) | (with_reducible refine Ext.drewN ?_ _) | (with_reducible refine Ext.drew ?_) | (with_reducible refine Ext.setCell ?_ ?_ _) | (with_reducible exact Nat.le_refl _) | (with_reducible exact Nat.le_succ _) | (with_reducible refine Ext.trans ?_ (by assumption)) | (simp; done) | (simp; omega)))))
      clear hK K hH3
      (try simp only [Act.put, List.setIfInBounds_toArray, List.set_cons_zero, List.set_cons_succ])
      refine take_l 5 (v := ?_) rfl (by kernel_rfl) (by kernel_rfl) (by kernel_rfl) (fun _ _ _ h => h) (by rfl) ?_ (by assumption) ?_
      rotate_left
      · (intro w hSw; (try dsimp only at hSw); go_simp; (try with_reducible rfl))
      (try simp only [Act.put, List.setIfInBounds_toArray, List.set_cons_zero, List.set_cons_succ])
      refine take_l 6 (v := ?_) rfl (by kernel_rfl) (by kernel_rfl) (by kernel_rfl) (fun _ _ _ h => h) (by rfl) ?_ (by assumption) ?_
      rotate_left
      · (intro w hSw; (try dsimp only at hSw); go_simp; (try with_reducible rfl))
      (try simp only [Act.put, List.setIfInBounds_toArray, List.set_cons_zero, List.set_cons_succ])
      refine take_l 7 (v := ?_) rfl (by kernel_rfl) (by kernel_rfl) (by kernel_rfl) (fun _ _ _ h => h) (by rfl) ?_ (by assumption) ?_
      rotate_left
      · (intro w hSw; (try dsimp only at hSw); go_simp; (try with_reducible rfl))
      (try simp only [Act.put, List.setIfInBounds_toArray, List.set_cons_zero, List.set_cons_succ])
      refine wpAnyH_ready (rs := [9]) (by kernel_rfl) (by simp) ?_
      refine cons_l (i := 9) rfl (fun K hK => ?_) ?_
      (try (have k0 := RB.cell (j := 0) (v := .bool false) rfl; have k1 := RB.cell (j := 1) (v := .slice none 0 0) rfl; have k2 := RB.frozen 0; have k3 := RB.frozen 1; have zB := RB.lt)); go_simp
      refine hK.out _ _ ?_ (fun hH5 => ?_)
      · (try dsimp only)
        (exact HSK.out _ (by (repeat' (first | (with_reducible exact Ext.refl _) | (with_reducible assumption) | (with_reducible refine Ext.alloc ?_ _) | (with_reducible refine Ext.drewN ?_ _) | (with_reducible refine Ext.drew ?_) | (with_reducible refine Ext.setCell ?_ ?_ _) | (with_reducible exact Nat.le_refl _) | (with_reducible exact Nat.le_succ _) | (with_reducible refine Ext.trans ?_ (by assumption)) | (simp; done) | (simp; omega)))))
      clear hK K hH4
      (try simp only [Act.put, List.setIfInBounds_toArray, List.set_cons_zero, List.set_cons_succ])
      refine take_l 10 (v := ?_) rfl (by kernel_rfl) (by kernel_rfl) (by kernel_rfl) (fun _ _ _ h => h) (by rfl) ?_ (by assumption) ?_
      rotate_left
      · (intro w hSw; (try dsimp only at hSw); go_simp; (try with_reducible rfl))
      (try simp only [Act.put, List.setIfInBounds_toArray, List.set_cons_zero, List.set_cons_succ])
      refine wpAnyH_done (by kernel_rfl) ?_ _
      rotate_left
      exact AllReadyH.nil
      exact AllReadyH.nil
      exact AllReadyH.nil
      exact AllReadyH.nil
      refine cons_l (i := 8) rfl (fun K hK => ?_) ?_
      go_simp
      refine hK.out _ _ ?_ (fun hH1 => ?_)
      · (try dsimp only)
        (exact HSK.out _ (by (repeat' (first | (with_reducible exact Ext.refl _) | (with_reducible assumption) | (with_reducible refine Ext.alloc ?_ _) | (with_reducible refine Ext.drewN ?_ _) | (with_reducible refine Ext.drew ?_) | (with_reducible refine Ext.setCell ?_ ?_ _) | (with_reducible exact Nat.le_refl _) | (with_reducible exact Nat.le_succ _) | (with_reducible refine Ext.trans ?_ (by assumption)) | (simp; done) | (simp; omega)))))
      clear hK K hH0
      (try simp only [Act.put, List.setIfInBounds_toArray, List.set_cons_zero, List.set_cons_succ])
      refine wpAnyH_ready (rs := [1]) (by kernel_rfl) (by simp) ?_
      refine cons_l (i := 1) rfl (fun K hK => ?_) ?_
      go_simp; (go_at_call 27; with_reducible refine (toTrain_any _ _ _ _ ra _ HNA.out hna2 HRA.out (HFA.out.ext (hwk.trans (by (repeat' (first | (with_reducible exact Ext.refl _) | (with_reducible assumption) | (with_reducible refine Ext.alloc ?_ _) | (with_reducible refine Ext.drewN ?_ _) | (with_reducible refine Ext.drew ?_) | (with_reducible refine Ext.setCell ?_ ?_ _) | (with_reducible exact Nat.le_refl _) | (with_reducible exact Nat.le_succ _) | (with_reducible refine Ext.trans ?_ (by assumption)) | (simp; done) | (simp; omega))))))).mono ?_); rintro e wa ⟨aA, rfl, hoA, hbA⟩; have xA : Ext w15 wa := Ext.trans (by (repeat' (first | (with_reducible exact Ext.refl _) | (with_reducible assumption) | (with_reducible refine Ext.alloc ?_ _) | (with_reducible refine Ext.drewN ?_ _) | (with_reducible refine Ext.drew ?_) | (with_reducible refine Ext.setCell ?_ ?_ _) | (with_reducible exact Nat.le_refl _) | (with_reducible exact Nat.le_succ _) | (with_reducible refine Ext.trans ?_ (by assumption)) | (simp; done) | (simp; omega)))) hbA; (first | (have RB := (RowAt.new w15 26 #[.bool false, .slice none 0 0]).ext ((Ext.refl _).drew.trans hbA)) | skip); have OA := Lib.hid hoA.rows; clear hoA hbA; have sA := xA.size
      refine hK.out _ _ ?_ (fun hH2 => ?_)
      · (try dsimp only)
        (exact HSK.out _ (by (repeat' (first | (with_reducible exact Ext.refl _) | (with_reducible assumption) | (with_reducible refine Ext.alloc ?_ _) | (with_reducible refine Ext.drewN ?_ _) | (with_reducible refine Ext.drew ?_) | (with_reducible refine Ext.setCell ?_ ?_ _) | (with_reducible exact Nat.le_refl _) | (with_reducible exact Nat.le_succ _) | (with_reducible refine Ext.trans ?_ (by assumption)) | (simp; done) | (simp; omega)))))
      clear hK K hH1
      (try simp only [Act.put, List.setIfInBounds_toArray, List.set_cons_zero, List.set_cons_succ])
      refine wpAnyH_ready (rs := [3]) (by kernel_rfl) (by simp) ?_
      refine cons_l (i := 3) rfl (fun K hK => ?_) ?_
      go_simp; (go_at_call 27; with_reducible refine (toTrain_any _ _ _ _ rb _ HNB.out hnb2 HRB.out (HFB.out.ext (hwk.trans (xA.trans (by (repeat' (first | (with_reducible exact Ext.refl _) | (with_reducible assumption) | (with_reducible refine Ext.alloc ?_ _) | (with_reducible refine Ext.drewN ?_ _) | (with_reducible refine Ext.drew ?_) | (with_reducible refine Ext.setCell ?_ ?_ _) | (with_reducible exact Nat.le_refl _) | (with_reducible exact Nat.le_succ _) | (with_reducible refine Ext.trans ?_ (by assumption)) | (simp; done) | (simp; omega)))))))).mono ?_); rintro e wb ⟨aB, rfl, hoB, hbB⟩; have xB : Ext wa wb := Ext.trans (by (repeat' (first | (with_reducible exact Ext.refl _) | (with_reducible assumption) | (with_reducible refine Ext.alloc ?_ _) | (with_reducible refine Ext.drewN ?_ _) | (with_reducible refine Ext.drew ?_) | (with_reducible refine Ext.setCell ?_ ?_ _) | (with_reducible exact Nat.le_refl _) | (with_reducible exact Nat.le_succ _) | (with_reducible refine Ext.trans ?_ (by assumption)) | (simp; done) | (simp; omega)))) hbB; (first | (have RB := RB.ext hbB) | (have RB := (RowAt.new wa 26 #[.bool false, .slice none 0 0]).ext hbB) | skip); have OB := Lib.hid hoB.rows; clear hoB hbB; have sB := xB.size; have xAB := xA.trans xB
      refine hK.out _ _ ?_ (fun hH3 => ?_)
      · (try dsimp only)
        (exact HSK.out _ (by (repeat' (first | (with_reducible exact Ext.refl _) | (with_reducible assumption) | (with_reducible refine Ext.alloc ?_ _) | (with_reducible refine Ext.drewN ?_ _) | (with_reducible refine Ext.drew ?_) | (with_reducible refine Ext.setCell ?_ ?_ _) | (with_reducible exact Nat.le_refl _) | (with_reducible exact Nat.le_succ _) | (with_reducible refine Ext.trans ?_ (by assumption)) | (simp; done) | (simp; omega)))))
      clear hK K hH2
      (try simp only [Act.put, List.setIfInBounds_toArray, List.set_cons_zero, List.set_cons_succ])
      refine wpAnyH_ready (rs := [4]) (by kernel_rfl) (by simp) ?_
      refine cons_l (i := 4) rfl (fun K hK => ?_) ?_
      go_simp; (go_at_call 36; with_reducible refine (implCouple_any u1 R r1 n1 _ _ _ _ _ _ _ _ ra rb _ HNA.out hna2 HRA.out HTA.out (OA.out.ext (xB.trans (by (repeat' (first | (with_reducible exact Ext.refl _) | (with_reducible assumption) | (with_reducible refine Ext.alloc ?_ _) | (with_reducible refine Ext.drewN ?_ _) | (with_reducible refine Ext.drew ?_) | (with_reducible refine Ext.setCell ?_ ?_ _) | (with_reducible exact Nat.le_refl _) | (with_reducible exact Nat.le_succ _) | (with_reducible refine Ext.trans ?_ (by assumption)) | (simp; done) | (simp; omega)))))) HNB.out hnb2 HRB.out HTB.out (OB.out.ext (by (repeat' (first | (with_reducible exact Ext.refl _) | (with_reducible assumption) | (with_reducible refine Ext.alloc ?_ _) | (with_reducible refine Ext.drewN ?_ _) | (with_reducible refine Ext.drew ?_) | (with_reducible refine Ext.setCell ?_ ?_ _) | (with_reducible exact Nat.le_refl _) | (with_reducible exact Nat.le_succ _) | (with_reducible refine Ext.trans ?_ (by assumption)) | (simp; done) | (simp; omega))))) HRR.out HN1.out).mono ?_); rintro e wc ⟨pp, pc, rfl, hpo, hbC⟩; have xC : Ext wb wc := Ext.trans (by (repeat' (first | (with_reducible exact Ext.refl _) | (with_reducible assumption) | (with_reducible refine Ext.alloc ?_ _) | (with_reducible refine Ext.drewN ?_ _) | (with_reducible refine Ext.drew ?_) | (with_reducible refine Ext.setCell ?_ ?_ _) | (with_reducible exact Nat.le_refl _) | (with_reducible exact Nat.le_succ _) | (with_reducible refine Ext.trans ?_ (by assumption)) | (simp; done) | (simp; omega)))) hbC; (first | (have RB := RB.ext hbC) | (have RB := (RowAt.new wb 26 #[.bool false, .slice none 0 0]).ext hbC) | skip); have HPO := Lib.hid hpo; clear hpo hbC; have sC := xC.size; have xAC := xAB.trans xC
      refine hK.out _ _ ?_ (fun hH4 => ?_)
      · (try dsimp only)
        (exact HSK.out _ (by (repeat' (first | (with_reducible exact Ext.refl _) | (with_reducible assumption) | (with_reducible refine Ext.alloc ?_ _) | (with_reducible refine Ext.drewN ?_ _) | (with_reducible refine Ext.drew ?_) | (with_reducible refine Ext.setCell ?_ ?_ _) | (with_reducible exact Nat.le_refl _) | (with_reducible exact Nat.le_succ _) | (with_reducible refine Ext.trans ?_ (by assumption)) | (simp; done) | (simp; omega)))))
      clear hK K hH3
      (try simp only [Act.put, List.setIfInBounds_toArray, List.set_cons_zero, List.set_cons_succ])
      refine take_l 5 (v := ?_) rfl (by kernel_rfl) (by kernel_rfl) (by kernel_rfl) (fun _ _ _ h => h) (by rfl) ?_ (by assumption) ?_
      rotate_left
      · (intro w hSw; (try dsimp only at hSw); go_simp; (try with_reducible rfl))
      (try simp only [Act.put, List.setIfInBounds_toArray, List.set_cons_zero, List.set_cons_succ])
      refine take_l 6 (v := ?_) rfl (by kernel_rfl) (by kernel_rfl) (by kernel_rfl) (fun _ _ _ h => h) (by rfl) ?_ (by assumption) ?_
      rotate_left
      · (intro w hSw; (try dsimp only at hSw); go_simp; (try with_reducible rfl))
      (try simp only [Act.put, List.setIfInBounds_toArray, List.set_cons_zero, List.set_cons_succ])
      refine take_l 7 (v := ?_) rfl (by kernel_rfl) (by kernel_rfl) (by kernel_rfl) (fun _ _ _ h => h) (by rfl) ?_ (by assumption) ?_
      rotate_left
      · (intro w hSw; (try dsimp only at hSw); go_simp; (try with_reducible rfl))
      (try simp only [Act.put, List.setIfInBounds_toArray, List.set_cons_zero, List.set_cons_succ])
      refine wpAnyH_ready (rs := [9]) (by kernel_rfl) (by simp) ?_
      refine cons_l (i := 9) rfl (fun K hK => ?_) ?_
      (try (have k0 := RB.cell (j := 0) (v := .bool false) rfl; have k1 := RB.cell (j := 1) (v := .slice none 0 0) rfl; have k2 := RB.frozen 0; have k3 := RB.frozen 1; have zB := RB.lt)); go_simp
      refine hK.out _ _ ?_ (fun hH5 => ?_)
      · (try dsimp only)
        (exact HSK.out _ (by (repeat' (first | (with_reducible exact Ext.refl _) | (with_reducible assumption) | (with_reducible refine Ext.alloc ?_ _) | (with_reducible refine Ext.drewN ?_ _) | (with_reducible refine Ext.drew ?_) | (with_reducible refine Ext.setCell ?_ ?_ _) | (with_reducible exact Nat.le_refl _) | (with_reducible exact Nat.le_succ _) | (with_reducible refine Ext.trans ?_ (by assumption)) | (simp; done) | (simp; omega)))))
      clear hK K hH4
      (try simp only [Act.put, List.setIfInBounds_toArray, List.set_cons_zero, List.set_cons_succ])
      refine take_l 10 (v := ?_) rfl (by kernel_rfl) (by kernel_rfl) (by kernel_rfl) (fun _ _ _ h => h) (by rfl) ?_ (by assumption) ?_
      rotate_left
      · (intro w hSw; (try dsimp only at hSw); go_simp; (try with_reducible rfl))
      (try simp only [Act.put, List.setIfInBounds_toArray, List.set_cons_zero, List.set_cons_succ])
      refine wpAnyH_done (by kernel_rfl) ?_ _
      rotate_left
      exact AllReadyH.nil
      exact AllReadyH.nil
      exact AllReadyH.nil
      exact AllReadyH.nil
      exact AllReadyH.nil
      all_goals
        refine world_as ?_
        intro w16 hwe
        have hx : Ext w15 w16 := by rw [hwe]; exact hH5.1
        first
          | (have hr : RowAt w16 wc.heap.size 26 #[.bool u1, .slice pp n1 pc] := (by rw [hwe]; exact RowAt.new wc _ _); have ho : OwnRows w16 0 w16.heap.size pp r1 := (by rw [hwe]; exact OwnRows.wide (OwnRows.low (HPO.out.ext ((Ext.refl wc).alloc _))) (Nat.le_refl _) (by simp)); have hBl : w15.heap.size ≤ wc.heap.size := (by omega); clear hwe; generalize wc.heap.size = BH at hr hBl ⊢)
          | (have hr : RowAt w16 w15.heap.size 26 #[.bool u1, .slice pp n1 pc] := (by rw [hwe]; exact (RB.set 0 (.bool u1)).set 1 (.slice pp n1 pc)); have ho : OwnRows w16 0 w16.heap.size pp r1 := (by rw [hwe]; exact OwnRows.wide (OwnRows.low (OwnRows.setT (OwnRows.setT HPO.out RB (by decide) (by decide) 0 (.bool u1)) (RB.set 0 (.bool u1)) (by decide) (by decide) 1 (.slice pp n1 pc))) (Nat.le_refl _) (by simp [size_setCell'])); have hBl : w15.heap.size ≤ w15.heap.size := (by omega); clear hwe; generalize w15.heap.size = BH at hr hBl ⊢)
          | (have hr : RowAt w16 wa.heap.size 26 #[.bool u1, .slice pp n1 pc] := (by rw [hwe]; exact (RB.set 0 (.bool u1)).set 1 (.slice pp n1 pc)); have ho : OwnRows w16 0 w16.heap.size pp r1 := (by rw [hwe]; exact OwnRows.wide (OwnRows.low (OwnRows.setT (OwnRows.setT HPO.out RB (by decide) (by decide) 0 (.bool u1)) (RB.set 0 (.bool u1)) (by decide) (by decide) 1 (.slice pp n1 pc))) (Nat.le_refl _) (by simp [size_setCell'])); have hBl : w15.heap.size ≤ wa.heap.size := (by omega); clear hwe; generalize wa.heap.size = BH at hr hBl ⊢)
          | (have hr : RowAt w16 wb.heap.size 26 #[.bool u1, .slice pp n1 pc] := (by rw [hwe]; exact (RB.set 0 (.bool u1)).set 1 (.slice pp n1 pc)); have ho : OwnRows w16 0 w16.heap.size pp r1 := (by rw [hwe]; exact OwnRows.wide (OwnRows.low (OwnRows.setT (OwnRows.setT HPO.out RB (by decide) (by decide) 0 (.bool u1)) (RB.set 0 (.bool u1)) (by decide) (by decide) 1 (.slice pp n1 pc))) (Nat.le_refl _) (by simp [size_setCell'])); have hBl : w15.heap.size ≤ wb.heap.size := (by omega); clear hwe; generalize wb.heap.size = BH at hr hBl ⊢)
        (try clear k0 k1 k2 k3 zB); (try clear RB); clear hH5 HPO OA OB xA xB xC xAB xAC sA sB sC tA0 tA1 tB0 tB1 HSK hE hwk
        have RH16 := Lib.hid hr
        have HA16 := Lib.hid ho
        have zBH := hr.lt
        clear hr ho
        have HH16 := Lib.hid HA16.out.rows; clear HA15 HB15 HA16
        have BX16 := Lib.hid (BX15.out.ext hx)
        have OX16 := Lib.hid (OX15.out.ext hx)
        have OY16 := Lib.hid (OY15.out.ext hx)
        have PA16 := Lib.hid (PA15.out.ext hx)
        have GA16 := Lib.hid (GA15.out.ext hx)
        have HW16 := Lib.hid (HW15.out.trans hx)
        have z16 := hx.size
        clear BX15 OX15 OY15 PA15 GA15 HW15 hx
        have cP00 : w16.cell? ⟨BP, 0, none⟩ = some (.bool u1) := (BX16.out (BP, 26, #[.bool u1, .slice pp' n1 pc']) (by simp)).cell rfl
        have cP01 : w16.cell? ⟨BP, 1, none⟩ = some (.slice pp' n1 pc') := (BX16.out (BP, 26, #[.bool u1, .slice pp' n1 pc']) (by simp)).cell rfl
        have r0 : w16.cell? ⟨BH, 0, none⟩ = some (.bool u1) := RH16.out.cell rfl
        have r1' : w16.cell? ⟨BH, 1, none⟩ = some (.slice pp n1 pc) := RH16.out.cell rfl
        go_wp2_with fail
        with_reducible refine (eqTrain_same _ _ _ _ _ _ r1 _ HN1.out HM1.out HH16.out PA16.out.rows).mono ?_
        rintro e w17 ⟨rfl, hb⟩
        clear cP00 cP01
        clear r0 r1'
        have BX17 := Lib.hid (BX16.out.ext hb)
        have OX17 := Lib.hid (OX16.out.ext hb)
        have OY17 := Lib.hid (OY16.out.ext hb)
        have PA17 := Lib.hid (PA16.out.ext hb)
        have GA17 := Lib.hid (GA16.out.ext hb)
        have HW17 := Lib.hid (HW16.out.trans hb)
        have z17 := hb.size
        clear BX16 OX16 OY16 PA16 GA16 HW16 hb
        have cG00 : w17.cell? ⟨w6.heap.size, 0, none⟩ = some (.bool u1) := (BX17.out (w6.heap.size, 26, #[.bool u1, .slice p6 n1 c6]) (by simp)).cell rfl
        have cG01 : w17.cell? ⟨w6.heap.size, 1, none⟩ = some (.slice p6 n1 c6) := (BX17.out (w6.heap.size, 26, #[.bool u1, .slice p6 n1 c6]) (by simp)).cell rfl
        go_wp2_with fail
        with_reducible refine (heldTrain_is T1 _ _ _ _ r1 1 _ HN1.out l1 HQ1.out t1 (by decide) (by decide) GA17.out.rows HV1.out).mono ?_
        rintro e w18 ⟨rfl, hb⟩
        clear cG00 cG01
        have BX18 := Lib.hid (BX17.out.ext hb)
        have OX18 := Lib.hid (OX17.out.ext hb)
        have OY18 := Lib.hid (OY17.out.ext hb)
        have PA18 := Lib.hid (PA17.out.ext hb)
        have GA18 := Lib.hid (GA17.out.ext hb)
        have HW18 := Lib.hid (HW17.out.trans hb)
        have z18 := hb.size
        clear BX17 OX17 OY17 PA17 GA17 HW17 hb
        have hx := HW18.out
        go_wp2
        go_ret
        exact ⟨rfl, hx⟩

theorem own : ownKnob Try.prog.godebug = none := by kernel_rfl
theorem laidOut : laidOutB Try.prog = true := Head.laidOut

set_option maxRecDepth 100000 in
theorem contract (H : Type) (enc : TypeId × Value → H) (W : World) (base : Nat) (args : Array Value) (ds gs : List (DataW H)) (before : List MemPlace)
    (hval : ∀ (j : Nat) t v, Try.f8.params[j]? = some t → args[j]? = some v → Value.okWide Try.prog W .any base t v)
    (hW : DataW.Whole enc Try.prog Try.f8.params.toList Rows.fnExactCoupleTrainsSpec.vars false W args.toList ds gs before) :
    Calls Try.prog 8 args W fun e W' => ∃ v, e = .returned v ∧ Rows.fnExactCoupleTrainsSpec.post enc Try.prog Try.f8 false true false false W args v W' := by
  have hW' := hW
  obtain ⟨p, q, hA0, hV, rfl, hfz, hnd⟩ := hW
  have hA : DataW.TrodAll enc Try.prog W 0 (fun _ => true) true Try.f8.params.toList args.toList ds p := hA0
  rw [Try.params8] at hA hval
  obtain ⟨v0, vs0, d0, ds0, p0, q0, hargs, rfl, rfl, h0, r0⟩ := trodAll_cons hA
  obtain ⟨v1, vs1, d1, ds1, p1, q1, rfl, rfl, rfl, h1, r1⟩ := trodAll_cons r0
  obtain ⟨rfl, rfl, rfl⟩ := trodAll_nil r1
  obtain rfl : args = #[v0, v1] := by cases args; simp_all
  obtain ⟨rfl, rfl⟩ := trodVars_none hV
  have hv0 := hval 0 45 v0 rfl rfl
  have hv1 := hval 1 45 v1 rfl rfl
  clear hA0 hA
  obtain ⟨ua, ra, aa, ca, rfl, hmaxa, hrowsa⟩ := open_train hv0 h0
  obtain ⟨ub, rb, ab, cb, rfl, hmaxb, hrowsb⟩ := open_train hv1 h1
  refine (walk ua ub aa ab _ ca _ cb ra rb W rfl hmaxa hrowsa rfl hmaxb hrowsb).mono fun e W' ⟨he, hb⟩ => ?_
  subst he
  exact ⟨_, rfl, law_post laidOut rfl (by kernel_rfl) rfl Try.underlying4 hW' rfl rfl rfl hb.below⟩

set_option maxRecDepth 100000 in
theorem lifted (os : Os) (started : os.Started) (H : Type) (enc : TypeId × Value → H) :
    ReturnsInHanded {} Try.checked os 8 .any (Rows.fnExactCoupleTrainsSpec.pre6 enc Try.prog Try.f8 Rows.fnExactCoupleTrainsRow.domain false) (Rows.fnExactCoupleTrainsSpec.post enc Try.prog Try.f8 false true false false) := by
  refine returnsInHanded_of_change (C := Try.checked) own started (by kernel_rfl) Try.func8
    (ChangeSpec.witness6 (enc := enc) (C := Try.checked) false ⟨#[], #[.agg #[.bool false, .slice none 0 0], .agg #[.bool false, .slice none 0 0]], []⟩ 8 (by kernel_rfl) (by kernel_rfl) (by kernel_rfl) (by kernel_rfl)) ?_
  intro W base args ds gs before hval hW _ _
  exact contract H enc W base args ds gs before hval hW

theorem closed : joinedFacts Try.prog 8 Try.f8 Rows.fnExactCoupleTrainsSpec Rows.fnExactCoupleTrainsRow = true := by
  unfold joinedFacts
  rw [Head.laidOut, Head.mapsRowed, Head.stopsHeard, Head.mayEnter, Head.liftsFinal, Head.make, Head.plainKeys]
  kernel_rfl
theorem proved : Rows.FnExactCoupleTrainsSaid :=
  OpenClaim.holds_of_wide 8 Try.f8 rfl rfl rfl rfl rfl rfl rfl ⟨rfl, rfl, rfl, rfl, rfl⟩ rfl rfl rfl rfl rfl (by kernel_rfl) Try.func8 closed
    (of_decide_eq_true (by kernel_rfl)) (by unfold Func.isWrapper; first | (rw [if_pos (by decide +kernel)]; kernel_rfl) | (rw [if_neg (by decide +kernel)]; exact ⟨rfl, rfl⟩))
    (fun os started H enc _ => lifted os started H enc)
end Go.Proofs.Ytmcmialaofckkaa.lawCoupleTrains
