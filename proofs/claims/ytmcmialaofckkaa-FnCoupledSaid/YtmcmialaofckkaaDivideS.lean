/- DivideTrain, the reference. -/
import Derived.Test.YtmcmialaofckkaaProg
import Derived.Test.YtmcmialaofckkaaDivide
namespace Go.Proofs.Ytmcmialaofckkaa
open Go.RowKit
set_option linter.unusedSimpArgs false
set_option linter.unusedVariables false

set_option maxRecDepth 100000 in
set_option maxHeartbeats 4000000 in
theorem specDivide_any (u1 R : Bool) (r1 r2 : List (List Bt)) (n1 n2 : Nat) (u : Bool) (a : Option Addr) (n c : Nat) (rows : List (List Bt)) (k : Int) (w : World) (hn : n = rows.length) (hnc : n ≤ c) (hc2 : c ≤ 1048576) (hrs : ∀ r ∈ rows, r.length ≤ 1048576) (ht : rows.flatten.length ≤ 1048576) (hf : RowsAt w a rows)
    (hR : divRes u rows k = (u1, r1, r2, R)) (hn1 : n1 = r1.length) (hn2 : n2 = r2.length) :
    Calls Try.prog 33 #[.agg #[.bool u, .slice a n c], .int .i64 k] w fun e w' => Two w w' u1 R r1 r2 n1 n2 e := by
  have HS := Lib.hid (show n ≤ 1048576 by omega)
  have HT := Lib.hid ht; clear ht
  have HRS := Lib.hid hrs; clear hrs
  obtain ⟨t, htr⟩ : ∃ t, trainOk rows = t := ⟨_, rfl⟩
  have OK := Lib.hid htr
  have HF := Lib.hid hf; clear hf
  by_cases hgood : t = true ∧ 1 ≤ k ∧ k ≤ (n : Int) - 1
  · obtain ⟨rfl, hk1, hk2⟩ := hgood
    have e1 : divRes u rows k = (u, rows.take k.toNat, rows.drop k.toNat, true) := by unfold divRes; rw [if_pos ⟨htr, hk1, by rw [← hn]; exact hk2⟩]
    rw [e1] at hR
    clear e1
    injection hR with hu hR
    injection hR with hr1 hR
    injection hR with hr2 hR
    subst hu hR
    obtain ⟨q, rfl⟩ : ∃ q : Nat, k = q := ⟨k.toNat, by omega⟩
    rw [Int.toNat_natCast] at hr1 hr2
    have HN1 := Lib.hid (show n1 = q by rw [hn1, ← hr1, List.length_take]; omega)
    have HN2 := Lib.hid (show n2 = n - q by rw [hn2, ← hr2, List.length_drop]; omega)
    obtain ⟨b, off, rfl⟩ : ∃ b off, a = some ⟨b, off, none⟩ := by
      obtain ⟨b, off, _, _, e, _⟩ := HF.out 0 (by omega)
      exact ⟨b, off, e⟩
    have HF1 := Lib.hid (hr1 ▸ HF.out.take q)
    have HF2 := Lib.hid (hr2 ▸ HF.out.drop q)
    have HL1 := Lib.hid (show q = r1.length by rw [← hn1]; exact HN1.out.symm)
    have HL2 := Lib.hid (show n - q = r2.length by rw [← hn2]; exact HN2.out.symm)
    have HRS1 := Lib.hid (show ∀ r ∈ r1, r.length ≤ 1048576 from fun r hr => HRS.out r (by rw [← hr1] at hr; exact List.mem_of_mem_take hr))
    have HRS2 := Lib.hid (show ∀ r ∈ r2, r.length ≤ 1048576 from fun r hr => HRS.out r (by rw [← hr2] at hr; exact List.mem_of_mem_drop hr))
    clear hr1 hr2 hn1 hn2 htr
    have HN := Lib.hid hn; clear hn
    have i0 : (0 : Int) ≤ (q : Int) := by omega
    have i1 : (q : Int) ≤ (n : Int) := by omega
    have i2 : (q : Int) ≤ (c : Int) := by omega
    have i3 : (n : Int) ≤ (c : Int) := by omega
    have i6 : ¬ c = q := by omega
    have d1 : inR (q : Int) 1 ((n : Int) - 1) = true := by simp [inR]; omega
    go_enter Try.func33, Try.ntmps33
    go_wp2_with fail
    (with_reducible refine (OK.out ▸ specTrainOk_any _ _ _ _ rows _ HN.out HS.out HT.out (HF.out.ext (by (repeat' (first | (with_reducible exact Ext.refl _) | (with_reducible assumption) | (with_reducible refine Ext.alloc ?_ _) | (with_reducible refine Ext.drewN ?_ _) | (with_reducible refine Ext.drew ?_) | (with_reducible refine Ext.setCell ?_ ?_ _) | (with_reducible exact Nat.le_refl _) | (with_reducible exact Nat.le_succ _) | (with_reducible refine Ext.trans ?_ (by assumption)) | (simp; done) | (simp; omega)))))).mono ?_); rintro e w1 ⟨rfl, hb1⟩
    have x0_1 := hb1
    obtain ⟨hc0_1, hf0_1⟩ := bcell x0_1.below
    have z0_1_0 : w.heap.size < w1.heap.size := by have h := x0_1.size; simp at h; omega
    have z0_1_1 : w.heap.size + 1 < w1.heap.size := by have h := x0_1.size; simp at h; omega
    have z0_1_2 : w.heap.size + 1 + 1 < w1.heap.size := by have h := x0_1.size; simp at h; omega
    have b0 := (((RowAt.new w 26 #[.bool u, .slice (some ⟨b, off, none⟩) n c]).ext (((Ext.refl _).alloc _).alloc _)).ext x0_1)
    have t0 : w1.cell? ⟨w.heap.size, 0, none⟩ = some (.bool u) := b0.cell rfl
    have t1 : w1.cell? ⟨w.heap.size, 1, none⟩ = some (.slice (some ⟨b, off, none⟩) n c) := b0.cell rfl
    have hw1 : Ext w w1 := Ext.trans ((((Ext.refl w).alloc _).alloc _).alloc _) x0_1
    have b1 := (RowAt.new (w.alloc (.cells #[.bool u, .slice (some ⟨b, off, none⟩) n c] 26)) 26 #[.bool false, .slice none 0 0]).ext (((Ext.refl _).alloc (.cells #[.bool false, .slice none 0 0] 26)).trans x0_1)
    have b2 := (RowAt.new ((w.alloc (.cells #[.bool u, .slice (some ⟨b, off, none⟩) n c] 26)).alloc (.cells #[.bool false, .slice none 0 0] 26)) 26 #[.bool false, .slice none 0 0]).ext x0_1
    rw [World.size_alloc] at b1
    rw [World.size_alloc, World.size_alloc] at b2
    have z2 := b2.lt
    have HB1 := Lib.hid b1; clear b1
    have HB2 := Lib.hid b2; clear b2
    clear b0
    go_wp2_with (go_at_call 72; refine (l01In_any _ _ _ _).mono ?_; rintro e w' ⟨rfl, rfl⟩)
    refine wp_region_held_drew (S := (fun w' => Ext w w' ∧ w'.cell? ⟨w.heap.size, 0, none⟩ = some (.bool u) ∧ w'.cell? ⟨w.heap.size, 1, none⟩ = some (.slice (some ⟨b, off, none⟩) n c))) (by kernel_rfl) ?_ (fun hH0 => ?_)
    · (try dsimp only)
      (refine ⟨?_, ?_, ?_⟩; (focus ((repeat' (first | (with_reducible exact Ext.refl _) | (with_reducible assumption) | (with_reducible refine Ext.alloc ?_ _) | (with_reducible refine Ext.drewN ?_ _) | (with_reducible refine Ext.drew ?_) | (with_reducible refine Ext.setCell ?_ ?_ _) | (with_reducible exact Nat.le_refl _) | (with_reducible exact Nat.le_succ _) | (with_reducible refine Ext.trans ?_ (by assumption)) | (simp; done) | (simp; omega))))); (focus (repeat' (first | (with_reducible assumption) | (with_reducible refine cell_set ?_ ?_) | (with_reducible refine cell_drew ?_) | (dsimp only; omega)))); (focus (repeat' (first | (with_reducible assumption) | (with_reducible refine cell_set ?_ ?_) | (with_reducible refine cell_drew ?_) | (dsimp only; omega)))))
    refine take_l 0 (v := ?_) rfl (by kernel_rfl) (by kernel_rfl) (by kernel_rfl) (fun _ _ _ h => h) (by rfl) ?_ (by assumption) ?_
    rotate_left
    · (intro w hSw; (try dsimp only at hSw); go_simp; (try with_reducible rfl))
    (try simp only [Act.put, List.setIfInBounds_toArray, List.set_cons_zero, List.set_cons_succ])
    refine take_l 1 (v := ?_) rfl (by kernel_rfl) (by kernel_rfl) (by kernel_rfl) (fun _ _ _ h => h) (by rfl) ?_ (by assumption) ?_
    rotate_left
    · (intro w hSw; (try dsimp only at hSw); go_simp; (try with_reducible rfl))
    (try simp only [Act.put, List.setIfInBounds_toArray, List.set_cons_zero, List.set_cons_succ])
    refine take_l 2 (v := ?_) rfl (by kernel_rfl) (by kernel_rfl) (by kernel_rfl) (fun _ _ _ h => h) (by rfl) ?_ (by assumption) ?_
    rotate_left
    · (intro w hSw; (try dsimp only at hSw); go_simp; (try with_reducible rfl))
    (try simp only [Act.put, List.setIfInBounds_toArray, List.set_cons_zero, List.set_cons_succ])
    refine take_l 3 (v := ?_) rfl (by kernel_rfl) (by kernel_rfl) (by kernel_rfl) (fun _ _ _ h => h) (by rfl) ?_ (by assumption) ?_
    rotate_left
    · (intro w hSw; (try dsimp only at hSw); go_simp; (try with_reducible rfl))
    (try simp only [Act.put, List.setIfInBounds_toArray, List.set_cons_zero, List.set_cons_succ])
    refine take_l 4 (v := ?_) rfl (by kernel_rfl) (by kernel_rfl) (by kernel_rfl) (fun _ _ _ h => h) (by rfl) ?_ (by assumption) ?_
    rotate_left
    · (intro w hSw; (try dsimp only at hSw); go_simp; (try with_reducible rfl))
    (try simp only [Act.put, List.setIfInBounds_toArray, List.set_cons_zero, List.set_cons_succ])
    refine take_l 5 (v := ?_) rfl (by kernel_rfl) (by kernel_rfl) (by kernel_rfl) (fun _ _ _ h => h) (by rfl) ?_ (by assumption) ?_
    rotate_left
    · (intro w hSw; (try dsimp only at hSw); go_simp; (try with_reducible rfl))
    (try simp only [Act.put, List.setIfInBounds_toArray, List.set_cons_zero, List.set_cons_succ])
    refine take_l 6 (v := ?_) rfl (by kernel_rfl) (by kernel_rfl) (by kernel_rfl) (fun _ _ _ h => h) (by rfl) ?_ (by assumption) ?_
    rotate_left
    · (intro w hSw; (try dsimp only at hSw); go_simp; (try with_reducible rfl))
    (try simp only [Act.put, List.setIfInBounds_toArray, List.set_cons_zero, List.set_cons_succ])
    refine take_l 8 (v := ?_) rfl (by kernel_rfl) (by kernel_rfl) (by kernel_rfl) (fun _ _ _ h => h) (by rfl) ?_ (by assumption) ?_
    rotate_left
    · (intro w hSw; (try dsimp only at hSw); go_simp; (try with_reducible rfl))
    (try simp only [Act.put, List.setIfInBounds_toArray, List.set_cons_zero, List.set_cons_succ])
    refine take_l 9 (v := ?_) rfl (by kernel_rfl) (by kernel_rfl) (by kernel_rfl) (fun _ _ _ h => h) (by rfl) ?_ (by assumption) ?_
    rotate_left
    · (intro w hSw; (try dsimp only at hSw); go_simp; (try with_reducible rfl))
    (try simp only [Act.put, List.setIfInBounds_toArray, List.set_cons_zero, List.set_cons_succ])
    refine take_l 10 (v := ?_) rfl (by kernel_rfl) (by kernel_rfl) (by kernel_rfl) (fun _ _ _ h => h) (by rfl) ?_ (by assumption) ?_
    rotate_left
    · (intro w hSw; (try dsimp only at hSw); go_simp; (try with_reducible rfl))
    (try simp only [Act.put, List.setIfInBounds_toArray, List.set_cons_zero, List.set_cons_succ])
    refine take_l 11 (v := ?_) rfl (by kernel_rfl) (by kernel_rfl) (by kernel_rfl) (fun _ _ _ h => h) (by rfl) ?_ (by assumption) ?_
    rotate_left
    · (intro w hSw; (try dsimp only at hSw); go_simp; (try with_reducible rfl))
    (try simp only [Act.put, List.setIfInBounds_toArray, List.set_cons_zero, List.set_cons_succ])
    refine take_l 12 (v := ?_) rfl (by kernel_rfl) (by kernel_rfl) (by kernel_rfl) (fun _ _ _ h => h) (by rfl) ?_ (by assumption) ?_
    rotate_left
    · (intro w hSw; (try dsimp only at hSw); go_simp; (try with_reducible rfl))
    (try simp only [Act.put, List.setIfInBounds_toArray, List.set_cons_zero, List.set_cons_succ])
    refine take_l 13 (v := ?_) rfl (by kernel_rfl) (by kernel_rfl) (by kernel_rfl) (fun _ _ _ h => h) (by rfl) ?_ (by assumption) ?_
    rotate_left
    · (intro w hSw; (try dsimp only at hSw); go_simp; (try with_reducible rfl))
    (try simp only [Act.put, List.setIfInBounds_toArray, List.set_cons_zero, List.set_cons_succ])
    refine take_l 14 (v := ?_) rfl (by kernel_rfl) (by kernel_rfl) (by kernel_rfl) (fun _ _ _ h => h) (by rfl) ?_ (by assumption) ?_
    rotate_left
    · (intro w hSw; (try dsimp only at hSw); go_simp; (try with_reducible rfl))
    (try simp only [Act.put, List.setIfInBounds_toArray, List.set_cons_zero, List.set_cons_succ])
    refine wpAnyH_ready (rs := [7]) (by kernel_rfl) (by simp) ?_
    refine cons_l (i := 7) rfl (fun K hK => ?_) ?_
    go_simp; (go_at_call 73; with_reducible refine (l04Copy_any _ _ q c r1 _ HL1.out (by omega) HRS1.out (HF1.out.ext (hw1.trans (by (repeat' (first | (with_reducible exact Ext.refl _) | (with_reducible assumption) | (with_reducible refine Ext.alloc ?_ _) | (with_reducible refine Ext.drewN ?_ _) | (with_reducible refine Ext.drew ?_) | (with_reducible refine Ext.setCell ?_ ?_ _) | (with_reducible exact Nat.le_refl _) | (with_reducible exact Nat.le_succ _) | (with_reducible refine Ext.trans ?_ (by assumption)) | (simp; done) | (simp; omega))))))).mono ?_); rintro e w6 ⟨a6, c6, vs6, rfl, hg6, hb6⟩; have x6 : Ext w1 w6 := (Ext.refl w1).drew.trans hb6; have e60 := x6.cell t0; have e61 := x6.cell t1; have y6 := hw1.trans x6; have HG6 := Lib.hid hg6; clear hg6
    refine hK.out _ _ ?_ (fun hH1 => ?_)
    · (try dsimp only)
      (refine ⟨?_, ?_, ?_⟩; (focus ((repeat' (first | (with_reducible exact Ext.refl _) | (with_reducible assumption) | (with_reducible refine Ext.alloc ?_ _) | (with_reducible refine Ext.drewN ?_ _) | (with_reducible refine Ext.drew ?_) | (with_reducible refine Ext.setCell ?_ ?_ _) | (with_reducible exact Nat.le_refl _) | (with_reducible exact Nat.le_succ _) | (with_reducible refine Ext.trans ?_ (by assumption)) | (simp; done) | (simp; omega))))); (focus (repeat' (first | (with_reducible assumption) | (with_reducible refine cell_set ?_ ?_) | (with_reducible refine cell_drew ?_) | (dsimp only; omega)))); (focus (repeat' (first | (with_reducible assumption) | (with_reducible refine cell_set ?_ ?_) | (with_reducible refine cell_drew ?_) | (dsimp only; omega)))))
    clear hK K hH0
    (try simp only [Act.put, List.setIfInBounds_toArray, List.set_cons_zero, List.set_cons_succ])
    refine wpAnyH_ready (rs := [15]) (by kernel_rfl) (by simp) ?_
    refine cons_l (i := 15) rfl (fun K hK => ?_) ?_
    go_simp; (go_at_call 73; with_reducible refine (l04Copy_any _ _ (n - q) (c - q) r2 _ HL2.out (by omega) HRS2.out (HF2.out.ext y6)).mono ?_); rintro e w7 ⟨a7, c7, vs7, rfl, hg7, hb7⟩; have HG7 := Lib.hid hg7; clear hg7; have x7 := x6.trans hb7; have e70 := x7.cell t0; have e71 := x7.cell t1; have y7 := hw1.trans x7; have q1 := HB1.out.ext x7; have q2 := HB2.out.ext x7; have q10 : w7.cell? ⟨w.heap.size + 1, 0, none⟩ = some (.bool false) := q1.cell rfl; have q11 : w7.cell? ⟨w.heap.size + 1, 1, none⟩ = some (.slice none 0 0) := q1.cell rfl; have q20 : w7.cell? ⟨w.heap.size + 1 + 1, 0, none⟩ = some (.bool false) := q2.cell rfl; have q21 : w7.cell? ⟨w.heap.size + 1 + 1, 1, none⟩ = some (.slice none 0 0) := q2.cell rfl; have f10 := q1.frozen 0; have f11 := q1.frozen 1; have f20 := q2.frozen 0; have f21 := q2.frozen 1; have s6 := x6.size; have s7 := hb7.size; clear q1 q2
    refine hK.out _ _ ?_ (fun hH2 => ?_)
    · (try dsimp only)
      (refine ⟨?_, ?_, ?_⟩; (focus ((repeat' (first | (with_reducible exact Ext.refl _) | (with_reducible assumption) | (with_reducible refine Ext.alloc ?_ _) | (with_reducible refine Ext.drewN ?_ _) | (with_reducible refine Ext.drew ?_) | (with_reducible refine Ext.setCell ?_ ?_ _) | (with_reducible exact Nat.le_refl _) | (with_reducible exact Nat.le_succ _) | (with_reducible refine Ext.trans ?_ (by assumption)) | (simp; done) | (simp; omega))))); (focus (repeat' (first | (with_reducible assumption) | (with_reducible refine cell_set ?_ ?_) | (with_reducible refine cell_drew ?_) | (dsimp only; omega)))); (focus (repeat' (first | (with_reducible assumption) | (with_reducible refine cell_set ?_ ?_) | (with_reducible refine cell_drew ?_) | (dsimp only; omega)))))
    clear hK K hH1
    (try simp only [Act.put, List.setIfInBounds_toArray, List.set_cons_zero, List.set_cons_succ])
    refine wpAnyH_ready (rs := [16]) (by kernel_rfl) (by simp) ?_
    refine cons_l (i := 16) rfl (fun K hK => ?_) ?_
    go_simp
    refine hK.out _ _ ?_ (fun hH3 => ?_)
    · (try dsimp only)
      (refine ⟨?_, ?_, ?_⟩; (focus ((repeat' (first | (with_reducible exact Ext.refl _) | (with_reducible assumption) | (with_reducible refine Ext.alloc ?_ _) | (with_reducible refine Ext.drewN ?_ _) | (with_reducible refine Ext.drew ?_) | (with_reducible refine Ext.setCell ?_ ?_ _) | (with_reducible exact Nat.le_refl _) | (with_reducible exact Nat.le_succ _) | (with_reducible refine Ext.trans ?_ (by assumption)) | (simp; done) | (simp; omega))))); (focus (repeat' (first | (with_reducible assumption) | (with_reducible refine cell_set ?_ ?_) | (with_reducible refine cell_drew ?_) | (dsimp only; omega)))); (focus (repeat' (first | (with_reducible assumption) | (with_reducible refine cell_set ?_ ?_) | (with_reducible refine cell_drew ?_) | (dsimp only; omega)))))
    clear hK K hH2
    (try simp only [Act.put, List.setIfInBounds_toArray, List.set_cons_zero, List.set_cons_succ])
    refine wpAnyH_ready (rs := [17]) (by kernel_rfl) (by simp) ?_
    refine cons_l (i := 17) rfl (fun K hK => ?_) ?_
    go_simp
    refine hK.out _ _ ?_ (fun hH4 => ?_)
    · (try dsimp only)
      (refine ⟨?_, ?_, ?_⟩; (focus ((repeat' (first | (with_reducible exact Ext.refl _) | (with_reducible assumption) | (with_reducible refine Ext.alloc ?_ _) | (with_reducible refine Ext.drewN ?_ _) | (with_reducible refine Ext.drew ?_) | (with_reducible refine Ext.setCell ?_ ?_ _) | (with_reducible exact Nat.le_refl _) | (with_reducible exact Nat.le_succ _) | (with_reducible refine Ext.trans ?_ (by assumption)) | (simp; done) | (simp; omega))))); (focus (repeat' (first | (with_reducible assumption) | (with_reducible refine cell_set ?_ ?_) | (with_reducible refine cell_drew ?_) | (dsimp only; omega)))); (focus (repeat' (first | (with_reducible assumption) | (with_reducible refine cell_set ?_ ?_) | (with_reducible refine cell_drew ?_) | (dsimp only; omega)))))
    clear hK K hH3
    (try simp only [Act.put, List.setIfInBounds_toArray, List.set_cons_zero, List.set_cons_succ])
    refine take_l 18 (v := ?_) rfl (by kernel_rfl) (by kernel_rfl) (by kernel_rfl) (fun _ _ _ h => h) (by rfl) ?_ (by assumption) ?_
    rotate_left
    · (intro w hSw; (try dsimp only at hSw); go_simp; (try with_reducible rfl))
    (try simp only [Act.put, List.setIfInBounds_toArray, List.set_cons_zero, List.set_cons_succ])
    refine wpAnyH_done (by kernel_rfl) ?_ _
    rotate_left
    exact AllReadyH.nil
    exact AllReadyH.nil
    exact AllReadyH.nil
    exact AllReadyH.nil
    go_wp2
    refine bodyPost_ret (v := .tuple #[.agg #[.bool u, .slice a6 q c6], .agg #[.bool u, .slice a7 (n - q) c7], .bool true]) (by simp [results, Try.results33, go_sem, *]) rfl ?_
    refine ⟨a6, c6, a7, c7, w6.heap.size, by rw [HN1.out, HN2.out], ?_, ?_, ⟨y6.size, ?_⟩, ?_⟩
    · exact (((((HG6.out.ext hb7).set (p := ⟨w.heap.size + 1, 0, none⟩) (.inl (by simp; try omega)) _).set (p := ⟨w.heap.size + 1, 1, none⟩) (.inl (by simp; try omega)) _).set (p := ⟨w.heap.size + 1 + 1, 0, none⟩) (.inl (by simp; try omega)) _).set (p := ⟨w.heap.size + 1 + 1, 1, none⟩) (.inl (by simp; try omega)) _).ownAt.wide hw1.size (Nat.le_refl _)
    · exact (((((HG7.out.set (p := ⟨w.heap.size + 1, 0, none⟩) (.inl (by simp; try omega)) _).set (p := ⟨w.heap.size + 1, 1, none⟩) (.inl (by simp; try omega)) _).set (p := ⟨w.heap.size + 1 + 1, 0, none⟩) (.inl (by simp; try omega)) _).set (p := ⟨w.heap.size + 1 + 1, 1, none⟩) (.inl (by simp; try omega)) _).wide (Nat.le_refl _) (by simp [size_setCell'])).ownAt
    · simp [size_setCell']; omega
    · (repeat' (first | (with_reducible exact Ext.refl _) | (with_reducible assumption) | (with_reducible refine Ext.alloc ?_ _) | (with_reducible refine Ext.drewN ?_ _) | (with_reducible refine Ext.drew ?_) | (with_reducible refine Ext.setCell ?_ ?_ _) | (with_reducible exact Nat.le_refl _) | (with_reducible exact Nat.le_succ _) | (with_reducible refine Ext.trans ?_ (by assumption)) | (simp; done) | (simp; omega)))
  · have e1 : divRes u rows k = (false, [], [], false) := by unfold divRes; rw [if_neg (by rw [htr, ← hn]; exact hgood)]
    rw [e1] at hR
    injection hR with hu hR
    injection hR with hr1 hR
    injection hR with hr2 hR
    subst hu hR hr1 hr2
    clear e1 htr
    have HN1 := Lib.hid (show n1 = 0 from hn1)
    have HN2 := Lib.hid (show n2 = 0 from hn2)
    clear hn1 hn2
    have HN := Lib.hid hn; clear hn
    rcases (by cases t <;> simp at hgood ⊢ <;> omega : t = false ∨ (t = true ∧ ¬ (1 ≤ k ∧ k ≤ (n : Int) - 1))) with rfl | ⟨rfl, hk⟩
    all_goals
      clear hgood
      try (have d1 : inR k 1 ((n : Int) - 1) = false := by simp only [inR, decide_eq_false_iff_not]; exact hk)
      try clear hk
      go_enter Try.func33, Try.ntmps33
      go_wp2_with fail
      (with_reducible refine (OK.out ▸ specTrainOk_any _ _ _ _ rows _ HN.out HS.out HT.out (HF.out.ext (by (repeat' (first | (with_reducible exact Ext.refl _) | (with_reducible assumption) | (with_reducible refine Ext.alloc ?_ _) | (with_reducible refine Ext.drewN ?_ _) | (with_reducible refine Ext.drew ?_) | (with_reducible refine Ext.setCell ?_ ?_ _) | (with_reducible exact Nat.le_refl _) | (with_reducible exact Nat.le_succ _) | (with_reducible refine Ext.trans ?_ (by assumption)) | (simp; done) | (simp; omega)))))).mono ?_); rintro e w1 ⟨rfl, hb1⟩
      have x0_1 := hb1
      obtain ⟨hc0_1, hf0_1⟩ := bcell x0_1.below
      have z0_1_0 : w.heap.size < w1.heap.size := by have h := x0_1.size; simp at h; omega
      have z0_1_1 : w.heap.size + 1 < w1.heap.size := by have h := x0_1.size; simp at h; omega
      have z0_1_2 : w.heap.size + 1 + 1 < w1.heap.size := by have h := x0_1.size; simp at h; omega
      go_wp2_with (go_at_call 72; refine (l01In_any _ _ _ _).mono ?_; rintro e w' ⟨rfl, rfl⟩)
      refine bodyPost_ret (v := .tuple #[.agg #[.bool false, .slice none 0 0], .agg #[.bool false, .slice none 0 0], .bool false]) (by simp [results, Try.results33, go_sem, *]) rfl (Two.zero HN1.out HN2.out (by (repeat' (first | (with_reducible exact Ext.refl _) | (with_reducible assumption) | (with_reducible refine Ext.alloc ?_ _) | (with_reducible refine Ext.drewN ?_ _) | (with_reducible refine Ext.drew ?_) | (with_reducible refine Ext.setCell ?_ ?_ _) | (with_reducible exact Nat.le_refl _) | (with_reducible exact Nat.le_succ _) | (with_reducible refine Ext.trans ?_ (by assumption)) | (simp; done) | (simp; omega)))))
end Go.Proofs.Ytmcmialaofckkaa
