/- CoupleTrains, the reference. -/
import Derived.Test.YtmcmialaofckkaaProg
import Derived.Test.YtmcmialaofckkaaCouple
namespace Go.Proofs.Ytmcmialaofckkaa
open Go.RowKit
set_option linter.unusedSimpArgs false
set_option linter.unusedVariables false

set_option maxRecDepth 100000 in
set_option maxHeartbeats 8000000 in
theorem specCouple_any (u1 R : Bool) (r1 : List (List Bt)) (n1 : Nat) (ua ub : Bool) (aa ab : Option Addr) (na ca nb cb : Nat) (ra rb : List (List Bt)) (w : World) (hna : na = ra.length) (hsa : na ≤ 1048576) (hra : ∀ r ∈ ra, r.length ≤ 1048576) (hta : ra.flatten.length ≤ 1048576) (hfa : RowsAt w aa ra)
    (hnb : nb = rb.length) (hsb : nb ≤ 1048576) (hrb : ∀ r ∈ rb, r.length ≤ 1048576) (htb : rb.flatten.length ≤ 1048576) (hfb : RowsAt w ab rb) (hab : na + nb ≤ 1048576) (htab : ra.flatten.length + rb.flatten.length ≤ 1048576) (hR : couRes ua ub ra rb = (u1, r1, R)) (hn1 : n1 = r1.length) :
    Calls Try.prog 43 #[.agg #[.bool ua, .slice aa na ca], .agg #[.bool ub, .slice ab nb cb]] w fun e w' => One w w' u1 R r1 n1 e := by
  have HFA := Lib.hid hfa; clear hfa
  have HFB := Lib.hid hfb; clear hfb
  have HSA := Lib.hid hsa; clear hsa
  have HSB := Lib.hid hsb; clear hsb
  have HTA := Lib.hid hta; clear hta
  have HTB := Lib.hid htb; clear htb
  have HRA := Lib.hid hra; clear hra
  have HRB := Lib.hid hrb; clear hrb
  have HNN := Lib.hid (show na + nb = (ra ++ rb).length by rw [List.length_append, hna, hnb])
  have HFL := Lib.hid (show (ra ++ rb).flatten.length ≤ 1048576 by rw [List.flatten_append, List.length_append]; exact htab)
  clear htab
  have HNA := Lib.hid hna; clear hna
  have HNB := Lib.hid hnb; clear hnb
  obtain ⟨p, hp⟩ : ∃ p, trainOk ra = p := ⟨_, rfl⟩
  obtain ⟨q, hq⟩ : ∃ q, trainOk rb = q := ⟨_, rfl⟩
  obtain ⟨t, htt⟩ : ∃ t, trainOk (ra ++ rb) = t := ⟨_, rfl⟩
  have OKA := Lib.hid hp
  have OKB := Lib.hid hq
  have OKT := Lib.hid htt
  have HCR := Lib.hid (show couRes ua ub ra rb = if p = true ∧ q = true ∧ ua = ub ∧ t = true then (ua, ra ++ rb, true) else (false, [], false) by unfold couRes; rw [hp, hq, htt])
  rw [HCR.out] at hR
  have HR := Lib.hid hR
  have HN1 := Lib.hid hn1
  clear hp hq htt hR hn1
  have T0 := ((RowAt.new w 26 #[.bool ua, .slice aa na ca]).ext (((Ext.refl _).alloc (.cells #[.bool ub, .slice ab nb cb] 26)).alloc (.cells #[.bool false, .slice none 0 0] 26)))
  have T1 := (RowAt.new (w.alloc (.cells #[.bool ua, .slice aa na ca] 26)) 26 #[.bool ub, .slice ab nb cb]).ext ((Ext.refl _).alloc (.cells #[.bool false, .slice none 0 0] 26))
  have T2 := RowAt.new ((w.alloc (.cells #[.bool ua, .slice aa na ca] 26)).alloc (.cells #[.bool ub, .slice ab nb cb] 26)) 26 #[.bool false, .slice none 0 0]
  rw [World.size_alloc] at T1
  rw [World.size_alloc, World.size_alloc] at T2
  have hfd : ∀ (x : Bool) (a : Option Addr) (n c : Nat) (W : World), (Instr.field 26 (.agg #[.bool x, .slice a n c]) 1).run Try.prog W = .ok (.slice a n c) W := fun _ _ _ _ _ => rfl
  go_enter Try.func43, Try.ntmps43
  go_wp2_with fail
  (with_reducible refine (l04Copy_any _ _ na ca ra _ HNA.out HSA.out HRA.out (HFA.out.ext (by (repeat' (first | (with_reducible exact Ext.refl _) | (with_reducible assumption) | (with_reducible refine Ext.alloc ?_ _) | (with_reducible refine Ext.drewN ?_ _) | (with_reducible refine Ext.drew ?_) | (with_reducible refine Ext.setCell ?_ ?_ _) | (with_reducible exact Nat.le_refl _) | (with_reducible exact Nat.le_succ _) | (with_reducible refine Ext.trans ?_ (by assumption)) | (simp; done) | (simp; omega)))))).mono ?_); rintro e w1 ⟨a1, c1, vs1, rfl, hg1, hb1⟩
  have x0_1 := hb1
  obtain ⟨hc0_1, hf0_1⟩ := bcell x0_1.below
  have z0_1_0 : w.heap.size < w1.heap.size := by have h := x0_1.size; simp at h; omega
  have z0_1_1 : w.heap.size + 1 < w1.heap.size := by have h := x0_1.size; simp at h; omega
  have z0_1_2 : w.heap.size + 1 + 1 < w1.heap.size := by have h := x0_1.size; simp at h; omega
  simp only [World.size_alloc] at hg1
  have HT0 := Lib.hid (T0.ext x0_1)
  have HT1 := Lib.hid (T1.ext x0_1)
  have HT2 := Lib.hid (T2.ext x0_1)
  clear T0 T1 T2
  have hw1 : Ext w w1 := Ext.trans ((((Ext.refl w).alloc _).alloc _).alloc _) x0_1
  have HG1L := Lib.hid hg1.2.1
  have HG1 := Lib.hid (hg1.wide (lo' := w.heap.size) (by omega) (Nat.le_refl _)); clear hg1
  have t2 : w1.cell? ⟨w.heap.size + 1, 0, none⟩ = some (.bool ub) := HT1.out.cell rfl
  have t3 : w1.cell? ⟨w.heap.size + 1, 1, none⟩ = some (.slice ab nb cb) := HT1.out.cell rfl
  have z2 := HT2.out.lt
  have RBN := Lib.hid (RowAt.new w1 26 #[.bool ua, .slice a1 na c1])
  have rbn : (w1.alloc (.cells #[.bool ua, .slice a1 na c1] 26)).cell? ⟨w1.heap.size, 1, none⟩ = some (.slice a1 na c1) := RBN.out.cell rfl
  have v2 := ((Ext.refl w1).alloc (.cells #[.bool ua, .slice a1 na c1] 26)).cell t2
  have v3 := ((Ext.refl w1).alloc (.cells #[.bool ua, .slice a1 na c1] 26)).cell t3
  have hE1 := Ext.refl w1
  clear hb1 x0_1 hc0_1 hf0_1
  go_wp2_with fail
  refine wp_region_held_drew (S := (fun w' => Ext w w' ∧ w'.cell? ⟨w.heap.size + 1, 0, none⟩ = some (.bool ub) ∧ w'.cell? ⟨w.heap.size + 1, 1, none⟩ = some (.slice ab nb cb))) (by kernel_rfl) ?_ (fun hH0 => ?_)
  · (try dsimp only)
    (refine ⟨?_, ?_, ?_⟩; (focus ((repeat' (first | (with_reducible exact Ext.refl _) | (with_reducible assumption) | (with_reducible refine Ext.alloc ?_ _) | (with_reducible refine Ext.drewN ?_ _) | (with_reducible refine Ext.drew ?_) | (with_reducible refine Ext.setCell ?_ ?_ _) | (with_reducible exact Nat.le_refl _) | (with_reducible exact Nat.le_succ _) | (with_reducible refine Ext.trans ?_ (by assumption)) | (simp; done) | (simp; omega))); done)); (focus (repeat' (first | (with_reducible assumption) | (with_reducible refine cell_set ?_ ?_) | (with_reducible refine cell_drew ?_) | (dsimp only; omega)))); (focus (repeat' (first | (with_reducible assumption) | (with_reducible refine cell_set ?_ ?_) | (with_reducible refine cell_drew ?_) | (dsimp only; omega)))))
  refine take_l 0 (v := ?_) rfl (by kernel_rfl) (by kernel_rfl) (by kernel_rfl) (fun _ _ _ h => h) (by rfl) ?_ (by assumption) ?_
  rotate_left
  · (intro w hSw; (try dsimp only at hSw); go_simp; (try with_reducible rfl))
  (try simp only [Act.put, List.setIfInBounds_toArray, List.set_cons_zero, List.set_cons_succ])
  refine take_l 2 (v := ?_) rfl (by kernel_rfl) (by kernel_rfl) (by kernel_rfl) (fun _ _ _ h => h) (by rfl) ?_ (by assumption) ?_
  rotate_left
  · (intro w hSw; (try dsimp only at hSw); go_simp; (try with_reducible rfl))
  (try simp only [Act.put, List.setIfInBounds_toArray, List.set_cons_zero, List.set_cons_succ])
  refine wpAnyH_ready (rs := [1, 3]) (by kernel_rfl) (by simp) ?_
  refine cons_l (i := 1) rfl (fun K hK => ?_) ?_
  go_simp
  refine hK.out _ _ ?_ (fun hH1 => ?_)
  · (try dsimp only)
    (refine ⟨?_, ?_, ?_⟩; (focus ((repeat' (first | (with_reducible exact Ext.refl _) | (with_reducible assumption) | (with_reducible refine Ext.alloc ?_ _) | (with_reducible refine Ext.drewN ?_ _) | (with_reducible refine Ext.drew ?_) | (with_reducible refine Ext.setCell ?_ ?_ _) | (with_reducible exact Nat.le_refl _) | (with_reducible exact Nat.le_succ _) | (with_reducible refine Ext.trans ?_ (by assumption)) | (simp; done) | (simp; omega))); done)); (focus (repeat' (first | (with_reducible assumption) | (with_reducible refine cell_set ?_ ?_) | (with_reducible refine cell_drew ?_) | (dsimp only; omega)))); (focus (repeat' (first | (with_reducible assumption) | (with_reducible refine cell_set ?_ ?_) | (with_reducible refine cell_drew ?_) | (dsimp only; omega)))))
  clear hK K hH0
  (try simp only [Act.put, List.setIfInBounds_toArray, List.set_cons_zero, List.set_cons_succ])
  refine wpAnyH_ready (rs := [3]) (by kernel_rfl) (by simp) ?_
  refine cons_l (i := 3) rfl (fun K hK => ?_) ?_
  go_simp; (go_at_call 73; with_reducible refine (l04Copy_any _ _ nb cb rb _ HNB.out HSB.out HRB.out (HFB.out.ext (hw1.trans (by (repeat' (first | (with_reducible exact Ext.refl _) | (with_reducible assumption) | (with_reducible refine Ext.alloc ?_ _) | (with_reducible refine Ext.drewN ?_ _) | (with_reducible refine Ext.drew ?_) | (with_reducible refine Ext.setCell ?_ ?_ _) | (with_reducible exact Nat.le_refl _) | (with_reducible exact Nat.le_succ _) | (with_reducible refine Ext.trans ?_ (by assumption)) | (simp; done) | (simp; omega))))))).mono ?_); rintro e w3 ⟨a3, c3, vs3, rfl, hg3, hb3⟩; have hbb : Ext (w1.alloc (.cells #[.bool ua, .slice a1 na c1] 26)) w3 := (Ext.refl _).drew.trans hb3; have s3 := hbb.size; (try simp only [World.size_alloc] at s3); have x3 : Ext w1 w3 := Ext.trans ((Ext.refl w1).alloc _) hbb; have HG3 := Lib.hid (hg3.wide (lo' := w1.heap.size) (by simp) (Nat.le_refl _)); clear hg3 hb3; have RB := Lib.hid (RBN.out.ext hbb); have v2' := x3.cell t2; have v3' := x3.cell t3; have o1 : w3.cell? ⟨w1.heap.size, 1, none⟩ = some (.slice a1 na c1) := RB.out.cell rfl
  refine hK.out _ _ ?_ (fun hH2 => ?_)
  · (try dsimp only)
    (refine ⟨?_, ?_, ?_⟩; (focus ((repeat' (first | (with_reducible exact Ext.refl _) | (with_reducible assumption) | (with_reducible refine Ext.alloc ?_ _) | (with_reducible refine Ext.drewN ?_ _) | (with_reducible refine Ext.drew ?_) | (with_reducible refine Ext.setCell ?_ ?_ _) | (with_reducible exact Nat.le_refl _) | (with_reducible exact Nat.le_succ _) | (with_reducible refine Ext.trans ?_ (by assumption)) | (simp; done) | (simp; omega))); done)); (focus (repeat' (first | (with_reducible assumption) | (with_reducible refine cell_set ?_ ?_) | (with_reducible refine cell_drew ?_) | (dsimp only; omega)))); (focus (repeat' (first | (with_reducible assumption) | (with_reducible refine cell_set ?_ ?_) | (with_reducible refine cell_drew ?_) | (dsimp only; omega)))))
  clear hK K hH1
  (try simp only [Act.put, List.setIfInBounds_toArray, List.set_cons_zero, List.set_cons_succ])
  refine take_l 4 (v := ?_) rfl (by kernel_rfl) (by kernel_rfl) (by kernel_rfl) (fun _ _ _ h => h) (by rfl) ?_ (by assumption) ?_
  rotate_left
  · (intro w hSw; (try dsimp only at hSw); go_simp; (try with_reducible rfl))
  (try simp only [Act.put, List.setIfInBounds_toArray, List.set_cons_zero, List.set_cons_succ])
  refine wpAnyH_ready (rs := [5]) (by kernel_rfl) (by simp) ?_
  refine cons_l (i := 5) rfl (fun K hK => ?_) ?_
  have HOW := Lib.hid (ownsRow_ext HG1.out.2.1 x3); rw [← HNA.out] at HOW; refine step_of_wp _ rfl (wp_append_outer _ _ rfl w.heap.size _ na vs1 rfl HOW.out a3 nb c3 rfl vs3 (by rw [HG3.out.1]; exact HNB.out.symm) HG3.out.noneAt HG3.out.cellsAt HG3.out.ones hab (by have := hw1.size; omega) ?_); intro v8 w8 hown8 hg8 hat8; have HG8 := Lib.hid (GR.concat (HG1.out.ext x3) HG3.out hw1.size (Nat.le_refl _) (Nat.le_refl _) x3.size HNA.out HNB.out hown8 hg8 hat8); have x8 : Ext w w8 := Ext.own2 (hw1.trans x3) hg8 HOW.out (Nat.le_refl _); have hlt1 : ∀ g, (Value.slice a1 na c1).ownBlock = some g → g < w1.heap.size := HG1.out.2.2.1; have hge1 : ∀ g, (Value.slice a1 na c1).ownBlock = some g → w.heap.size + 1 + 1 + 1 ≤ g := fun g hg => (ownsRow_lt HG1L.out hg).1; have RB8 := Lib.hid (RB.out.own hg8 (fun g hg => by have := hlt1 g hg; omega)); have K0 := Lib.hid ((HT0.out.ext x3).own hg8 (fun g hg => by have := hge1 g hg; omega)); have K1 := Lib.hid ((HT1.out.ext x3).own hg8 (fun g hg => by have := hge1 g hg; omega)); have K2 := Lib.hid ((HT2.out.ext x3).own hg8 (fun g hg => by have := hge1 g hg; omega)); have zs8 := hg8.size; clear hown8 hg8 hat8 hlt1 hge1; obtain ⟨a8, c8, hv8, hm8, _⟩ := HG8.out.own; rw [← HNN.out] at hv8; subst hv8; have r2 : w8.cell? ⟨w.heap.size + 1, 0, none⟩ = some (.bool ub) := K1.out.cell rfl; have r3 : w8.cell? ⟨w.heap.size + 1, 1, none⟩ = some (.slice ab nb cb) := K1.out.cell rfl; have r4 : w8.cell? ⟨w1.heap.size, 1, none⟩ = some (.slice a1 na c1) := RB8.out.cell rfl; have r5 := RB8.out.frozen 1; have zb := RB8.out.lt
  refine hK.out _ _ ?_ (fun hH3 => ?_)
  · (try dsimp only)
    (refine ⟨?_, ?_, ?_⟩; (focus ((repeat' (first | (with_reducible exact Ext.refl _) | (with_reducible assumption) | (with_reducible refine Ext.alloc ?_ _) | (with_reducible refine Ext.drewN ?_ _) | (with_reducible refine Ext.drew ?_) | (with_reducible refine Ext.setCell ?_ ?_ _) | (with_reducible exact Nat.le_refl _) | (with_reducible exact Nat.le_succ _) | (with_reducible refine Ext.trans ?_ (by assumption)) | (simp; done) | (simp; omega))); done)); (focus (repeat' (first | (with_reducible assumption) | (with_reducible refine cell_set ?_ ?_) | (with_reducible refine cell_drew ?_) | (dsimp only; omega)))); (focus (repeat' (first | (with_reducible assumption) | (with_reducible refine cell_set ?_ ?_) | (with_reducible refine cell_drew ?_) | (dsimp only; omega)))))
  clear hK K hH2
  (try simp only [Act.put, List.setIfInBounds_toArray, List.set_cons_zero, List.set_cons_succ])
  refine take_l 6 (v := ?_) rfl (by kernel_rfl) (by kernel_rfl) (by kernel_rfl) (fun _ _ _ h => h) (by rfl) ?_ (by assumption) ?_
  rotate_left
  · (intro w hSw; (try dsimp only at hSw); go_simp; (try with_reducible rfl))
  (try simp only [Act.put, List.setIfInBounds_toArray, List.set_cons_zero, List.set_cons_succ])
  refine wpAnyH_ready (rs := [7]) (by kernel_rfl) (by simp) ?_
  refine cons_l (i := 7) rfl (fun K hK => ?_) ?_
  go_simp
  refine hK.out _ _ ?_ (fun hH4 => ?_)
  · (try dsimp only)
    (refine ⟨?_, ?_, ?_⟩; (focus ((repeat' (first | (with_reducible exact Ext.refl _) | (with_reducible assumption) | (with_reducible refine Ext.alloc ?_ _) | (with_reducible refine Ext.drewN ?_ _) | (with_reducible refine Ext.drew ?_) | (with_reducible refine Ext.setCell ?_ ?_ _) | (with_reducible exact Nat.le_refl _) | (with_reducible exact Nat.le_succ _) | (with_reducible refine Ext.trans ?_ (by assumption)) | (simp; done) | (simp; omega))); done)); (focus (repeat' (first | (with_reducible assumption) | (with_reducible refine cell_set ?_ ?_) | (with_reducible refine cell_drew ?_) | (dsimp only; omega)))); (focus (repeat' (first | (with_reducible assumption) | (with_reducible refine cell_set ?_ ?_) | (with_reducible refine cell_drew ?_) | (dsimp only; omega)))))
  clear hK K hH3
  (try simp only [Act.put, List.setIfInBounds_toArray, List.set_cons_zero, List.set_cons_succ])
  refine wpAnyH_done (by kernel_rfl) ?_ _
  rotate_left
  exact AllReadyH.nil
  exact AllReadyH.nil
  exact AllReadyH.nil
  refine cons_l (i := 3) rfl (fun K hK => ?_) ?_
  go_simp; (go_at_call 73; with_reducible refine (l04Copy_any _ _ nb cb rb _ HNB.out HSB.out HRB.out (HFB.out.ext (hw1.trans (by (repeat' (first | (with_reducible exact Ext.refl _) | (with_reducible assumption) | (with_reducible refine Ext.alloc ?_ _) | (with_reducible refine Ext.drewN ?_ _) | (with_reducible refine Ext.drew ?_) | (with_reducible refine Ext.setCell ?_ ?_ _) | (with_reducible exact Nat.le_refl _) | (with_reducible exact Nat.le_succ _) | (with_reducible refine Ext.trans ?_ (by assumption)) | (simp; done) | (simp; omega))))))).mono ?_); rintro e w3 ⟨a3, c3, vs3, rfl, hg3, hb3⟩; have hbb : Ext (w1.alloc (.cells #[.bool ua, .slice a1 na c1] 26)) w3 := (Ext.refl _).drew.trans hb3; have s3 := hbb.size; (try simp only [World.size_alloc] at s3); have x3 : Ext w1 w3 := Ext.trans ((Ext.refl w1).alloc _) hbb; have HG3 := Lib.hid (hg3.wide (lo' := w1.heap.size) (by simp) (Nat.le_refl _)); clear hg3 hb3; have RB := Lib.hid (RBN.out.ext hbb); have v2' := x3.cell t2; have v3' := x3.cell t3; have o1 : w3.cell? ⟨w1.heap.size, 1, none⟩ = some (.slice a1 na c1) := RB.out.cell rfl
  refine hK.out _ _ ?_ (fun hH1 => ?_)
  · (try dsimp only)
    (refine ⟨?_, ?_, ?_⟩; (focus ((repeat' (first | (with_reducible exact Ext.refl _) | (with_reducible assumption) | (with_reducible refine Ext.alloc ?_ _) | (with_reducible refine Ext.drewN ?_ _) | (with_reducible refine Ext.drew ?_) | (with_reducible refine Ext.setCell ?_ ?_ _) | (with_reducible exact Nat.le_refl _) | (with_reducible exact Nat.le_succ _) | (with_reducible refine Ext.trans ?_ (by assumption)) | (simp; done) | (simp; omega))); done)); (focus (repeat' (first | (with_reducible assumption) | (with_reducible refine cell_set ?_ ?_) | (with_reducible refine cell_drew ?_) | (dsimp only; omega)))); (focus (repeat' (first | (with_reducible assumption) | (with_reducible refine cell_set ?_ ?_) | (with_reducible refine cell_drew ?_) | (dsimp only; omega)))))
  clear hK K hH0
  (try simp only [Act.put, List.setIfInBounds_toArray, List.set_cons_zero, List.set_cons_succ])
  refine take_l 4 (v := ?_) rfl (by kernel_rfl) (by kernel_rfl) (by kernel_rfl) (fun _ _ _ h => h) (by rfl) ?_ (by assumption) ?_
  rotate_left
  · (intro w hSw; (try dsimp only at hSw); go_simp; (try with_reducible rfl))
  (try simp only [Act.put, List.setIfInBounds_toArray, List.set_cons_zero, List.set_cons_succ])
  refine wpAnyH_ready (rs := [1]) (by kernel_rfl) (by simp) ?_
  refine cons_l (i := 1) rfl (fun K hK => ?_) ?_
  go_simp
  refine hK.out _ _ ?_ (fun hH2 => ?_)
  · (try dsimp only)
    (refine ⟨?_, ?_, ?_⟩; (focus ((repeat' (first | (with_reducible exact Ext.refl _) | (with_reducible assumption) | (with_reducible refine Ext.alloc ?_ _) | (with_reducible refine Ext.drewN ?_ _) | (with_reducible refine Ext.drew ?_) | (with_reducible refine Ext.setCell ?_ ?_ _) | (with_reducible exact Nat.le_refl _) | (with_reducible exact Nat.le_succ _) | (with_reducible refine Ext.trans ?_ (by assumption)) | (simp; done) | (simp; omega))); done)); (focus (repeat' (first | (with_reducible assumption) | (with_reducible refine cell_set ?_ ?_) | (with_reducible refine cell_drew ?_) | (dsimp only; omega)))); (focus (repeat' (first | (with_reducible assumption) | (with_reducible refine cell_set ?_ ?_) | (with_reducible refine cell_drew ?_) | (dsimp only; omega)))))
  clear hK K hH1
  (try simp only [Act.put, List.setIfInBounds_toArray, List.set_cons_zero, List.set_cons_succ])
  refine wpAnyH_ready (rs := [5]) (by kernel_rfl) (by simp) ?_
  refine cons_l (i := 5) rfl (fun K hK => ?_) ?_
  have HOW := Lib.hid (ownsRow_ext HG1.out.2.1 x3); rw [← HNA.out] at HOW; refine step_of_wp _ rfl (wp_append_outer _ _ rfl w.heap.size _ na vs1 rfl HOW.out a3 nb c3 rfl vs3 (by rw [HG3.out.1]; exact HNB.out.symm) HG3.out.noneAt HG3.out.cellsAt HG3.out.ones hab (by have := hw1.size; omega) ?_); intro v8 w8 hown8 hg8 hat8; have HG8 := Lib.hid (GR.concat (HG1.out.ext x3) HG3.out hw1.size (Nat.le_refl _) (Nat.le_refl _) x3.size HNA.out HNB.out hown8 hg8 hat8); have x8 : Ext w w8 := Ext.own2 (hw1.trans x3) hg8 HOW.out (Nat.le_refl _); have hlt1 : ∀ g, (Value.slice a1 na c1).ownBlock = some g → g < w1.heap.size := HG1.out.2.2.1; have hge1 : ∀ g, (Value.slice a1 na c1).ownBlock = some g → w.heap.size + 1 + 1 + 1 ≤ g := fun g hg => (ownsRow_lt HG1L.out hg).1; have RB8 := Lib.hid (RB.out.own hg8 (fun g hg => by have := hlt1 g hg; omega)); have K0 := Lib.hid ((HT0.out.ext x3).own hg8 (fun g hg => by have := hge1 g hg; omega)); have K1 := Lib.hid ((HT1.out.ext x3).own hg8 (fun g hg => by have := hge1 g hg; omega)); have K2 := Lib.hid ((HT2.out.ext x3).own hg8 (fun g hg => by have := hge1 g hg; omega)); have zs8 := hg8.size; clear hown8 hg8 hat8 hlt1 hge1; obtain ⟨a8, c8, hv8, hm8, _⟩ := HG8.out.own; rw [← HNN.out] at hv8; subst hv8; have r2 : w8.cell? ⟨w.heap.size + 1, 0, none⟩ = some (.bool ub) := K1.out.cell rfl; have r3 : w8.cell? ⟨w.heap.size + 1, 1, none⟩ = some (.slice ab nb cb) := K1.out.cell rfl; have r4 : w8.cell? ⟨w1.heap.size, 1, none⟩ = some (.slice a1 na c1) := RB8.out.cell rfl; have r5 := RB8.out.frozen 1; have zb := RB8.out.lt
  refine hK.out _ _ ?_ (fun hH3 => ?_)
  · (try dsimp only)
    (refine ⟨?_, ?_, ?_⟩; (focus ((repeat' (first | (with_reducible exact Ext.refl _) | (with_reducible assumption) | (with_reducible refine Ext.alloc ?_ _) | (with_reducible refine Ext.drewN ?_ _) | (with_reducible refine Ext.drew ?_) | (with_reducible refine Ext.setCell ?_ ?_ _) | (with_reducible exact Nat.le_refl _) | (with_reducible exact Nat.le_succ _) | (with_reducible refine Ext.trans ?_ (by assumption)) | (simp; done) | (simp; omega))); done)); (focus (repeat' (first | (with_reducible assumption) | (with_reducible refine cell_set ?_ ?_) | (with_reducible refine cell_drew ?_) | (dsimp only; omega)))); (focus (repeat' (first | (with_reducible assumption) | (with_reducible refine cell_set ?_ ?_) | (with_reducible refine cell_drew ?_) | (dsimp only; omega)))))
  clear hK K hH2
  (try simp only [Act.put, List.setIfInBounds_toArray, List.set_cons_zero, List.set_cons_succ])
  refine take_l 6 (v := ?_) rfl (by kernel_rfl) (by kernel_rfl) (by kernel_rfl) (fun _ _ _ h => h) (by rfl) ?_ (by assumption) ?_
  rotate_left
  · (intro w hSw; (try dsimp only at hSw); go_simp; (try with_reducible rfl))
  (try simp only [Act.put, List.setIfInBounds_toArray, List.set_cons_zero, List.set_cons_succ])
  refine wpAnyH_ready (rs := [7]) (by kernel_rfl) (by simp) ?_
  refine cons_l (i := 7) rfl (fun K hK => ?_) ?_
  go_simp
  refine hK.out _ _ ?_ (fun hH4 => ?_)
  · (try dsimp only)
    (refine ⟨?_, ?_, ?_⟩; (focus ((repeat' (first | (with_reducible exact Ext.refl _) | (with_reducible assumption) | (with_reducible refine Ext.alloc ?_ _) | (with_reducible refine Ext.drewN ?_ _) | (with_reducible refine Ext.drew ?_) | (with_reducible refine Ext.setCell ?_ ?_ _) | (with_reducible exact Nat.le_refl _) | (with_reducible exact Nat.le_succ _) | (with_reducible refine Ext.trans ?_ (by assumption)) | (simp; done) | (simp; omega))); done)); (focus (repeat' (first | (with_reducible assumption) | (with_reducible refine cell_set ?_ ?_) | (with_reducible refine cell_drew ?_) | (dsimp only; omega)))); (focus (repeat' (first | (with_reducible assumption) | (with_reducible refine cell_set ?_ ?_) | (with_reducible refine cell_drew ?_) | (dsimp only; omega)))))
  clear hK K hH3
  (try simp only [Act.put, List.setIfInBounds_toArray, List.set_cons_zero, List.set_cons_succ])
  refine wpAnyH_done (by kernel_rfl) ?_ _
  rotate_left
  exact AllReadyH.nil
  exact AllReadyH.nil
  exact AllReadyH.nil
  exact AllReadyH.nil
  all_goals
    refine world_as ?_
    intro w9 hw9e
    have hx9 : Ext w w9 := by rw [hw9e]; exact hH4.1
    have Y0 := Lib.hid (show RowAt w9 w.heap.size 26 #[.bool ua, .slice aa na ca] by rw [hw9e]; exact K0.out.other (p := ⟨w1.heap.size, 1, none⟩) (by dsimp only; omega) _)
    have Y1 := Lib.hid (show RowAt w9 (w.heap.size + 1) 26 #[.bool ub, .slice ab nb cb] by rw [hw9e]; exact K1.out.other (p := ⟨w1.heap.size, 1, none⟩) (by dsimp only; omega) _)
    have Y2 := Lib.hid (show RowAt w9 (w.heap.size + 1 + 1) 26 #[.bool false, .slice none 0 0] by rw [hw9e]; exact K2.out.other (p := ⟨w1.heap.size, 1, none⟩) (by dsimp only; omega) _)
    have YB := Lib.hid (show RowAt w9 w1.heap.size 26 #[.bool ua, .slice a8 (na + nb) c8] by rw [hw9e]; exact RB8.out.set 1 _)
    have YG := Lib.hid (show GR w9 w.heap.size w9.heap.size (.slice a8 (na + nb) c8) (vs1 ++ vs3) (ra ++ rb) by rw [hw9e]; exact (HG8.out.setT RB8.out (by decide) (by decide) 1 _).wide (Nat.le_refl _) (by simp [size_setCell']))
    clear hw9e hH4 r2 r3 r4 r5 rbn t2 t3 v2 v3 v2' v3' o1 K0 K1 K2 RB8 HG8 hm8
    obtain ⟨a9, c9, hv9, hm9, hrw⟩ := YG.out.rows
    injection hv9 with hva hvn hvc
    have HRW := Lib.hid (hva ▸ hrw)
    clear hva hvn hvc hm9 hrw
    have m0 : w9.cell? ⟨w.heap.size, 0, none⟩ = some (.bool ua) := Y0.out.cell rfl
    have m1 : w9.cell? ⟨w.heap.size, 1, none⟩ = some (.slice aa na ca) := Y0.out.cell rfl
    have m2 : w9.cell? ⟨w.heap.size + 1, 0, none⟩ = some (.bool ub) := Y1.out.cell rfl
    have m3 : w9.cell? ⟨w.heap.size + 1, 1, none⟩ = some (.slice ab nb cb) := Y1.out.cell rfl
    have m4 : w9.cell? ⟨w1.heap.size, 0, none⟩ = some (.bool ua) := YB.out.cell rfl
    have m5 : w9.cell? ⟨w1.heap.size, 1, none⟩ = some (.slice a8 (na + nb) c8) := YB.out.cell rfl
    have q10 : w9.cell? ⟨w.heap.size + 1 + 1, 0, none⟩ = some (.bool false) := Y2.out.cell rfl
    have q11 : w9.cell? ⟨w.heap.size + 1 + 1, 1, none⟩ = some (.slice none 0 0) := Y2.out.cell rfl
    have f10 := Y2.out.frozen 0
    have f11 := Y2.out.frozen 1
    have zs9 := hx9.size
    have hE9 := Ext.refl w9
    clear hE1
    have HX9 := Lib.hid hx9
    rcases (by cases p <;> cases q <;> cases t <;> cases ua <;> cases ub <;> simp : p = false ∨ (p = true ∧ q = false) ∨ (p = true ∧ q = true ∧ t = false) ∨ (p = true ∧ q = true ∧ t = true ∧ ua = true ∧ ub = false) ∨ (p = true ∧ q = true ∧ t = true ∧ ua = false ∧ ub = true) ∨ (p = true ∧ q = true ∧ t = true ∧ ua = ub)) with rfl | ⟨rfl, rfl⟩ | ⟨rfl, rfl, rfl⟩ | ⟨rfl, rfl, rfl, rfl, rfl⟩ | ⟨rfl, rfl, rfl, rfl, rfl⟩ | ⟨rfl, rfl, rfl, rfl⟩
    · go_wp2_with fail
      refine (OKA.out ▸ specTrainOk_any _ _ _ _ ra _ HNA.out HSA.out HTA.out (HFA.out.ext HX9.out)).mono ?_
      rintro e w10 ⟨rfl, hb20⟩
      have g20 : Ext w9 w10 := (Ext.refl w9).trans hb20
      have m0 := hb20.cell m0
      have m1 := hb20.cell m1
      have m2 := hb20.cell m2
      have m3 := hb20.cell m3
      have m4 := hb20.cell m4
      have m5 := hb20.cell m5
      have q10 := hb20.cell q10
      have q11 := hb20.cell q11
      have f10 := (Y2.out.ext g20).frozen 0
      have f11 := (Y2.out.ext g20).frozen 1
      have zs20 := hb20.size
      have hxx := HX9.out.trans g20
      have hR := HR.out
      simp only [Bool.false_eq_true, false_and, and_false, true_and, and_true, if_false, reduceCtorEq] at hR
      injection hR with hu hR
      injection hR with hr1 hR
      subst hu hR hr1
      have hz := Lib.hid (show n1 = 0 from HN1.out)
      go_wp2
      refine bodyPost_ret (v := .tuple #[.agg #[.bool false, .slice none 0 0], .bool false]) (by simp [results, Try.results43, go_sem, *]) rfl (One.zero hz.out (by (repeat' (first | (with_reducible exact Ext.refl _) | (with_reducible assumption) | (with_reducible refine Ext.alloc ?_ _) | (with_reducible refine Ext.drewN ?_ _) | (with_reducible refine Ext.drew ?_) | (with_reducible refine Ext.setCell ?_ ?_ _) | (with_reducible exact Nat.le_refl _) | (with_reducible exact Nat.le_succ _) | (with_reducible refine Ext.trans ?_ (by assumption)) | (simp; done) | (simp; omega)))))
    · go_wp2_with fail
      refine (OKA.out ▸ specTrainOk_any _ _ _ _ ra _ HNA.out HSA.out HTA.out (HFA.out.ext HX9.out)).mono ?_
      rintro e w10 ⟨rfl, hb20⟩
      have g20 : Ext w9 w10 := (Ext.refl w9).trans hb20
      have m0 := hb20.cell m0
      have m1 := hb20.cell m1
      have m2 := hb20.cell m2
      have m3 := hb20.cell m3
      have m4 := hb20.cell m4
      have m5 := hb20.cell m5
      have q10 := hb20.cell q10
      have q11 := hb20.cell q11
      have f10 := (Y2.out.ext g20).frozen 0
      have f11 := (Y2.out.ext g20).frozen 1
      have zs20 := hb20.size
      go_wp2_with fail
      refine (OKB.out ▸ specTrainOk_any _ _ _ _ rb _ HNB.out HSB.out HTB.out (HFB.out.ext (HX9.out.trans g20))).mono ?_
      rintro e w11 ⟨rfl, hb21⟩
      have g21 : Ext w9 w11 := g20.trans hb21
      have m0 := hb21.cell m0
      have m1 := hb21.cell m1
      have m2 := hb21.cell m2
      have m3 := hb21.cell m3
      have m4 := hb21.cell m4
      have m5 := hb21.cell m5
      have q10 := hb21.cell q10
      have q11 := hb21.cell q11
      have f10 := (Y2.out.ext g21).frozen 0
      have f11 := (Y2.out.ext g21).frozen 1
      have zs21 := hb21.size
      have hxx := HX9.out.trans g21
      have hR := HR.out
      simp only [Bool.false_eq_true, false_and, and_false, true_and, and_true, if_false, reduceCtorEq] at hR
      injection hR with hu hR
      injection hR with hr1 hR
      subst hu hR hr1
      have hz := Lib.hid (show n1 = 0 from HN1.out)
      go_wp2
      refine bodyPost_ret (v := .tuple #[.agg #[.bool false, .slice none 0 0], .bool false]) (by simp [results, Try.results43, go_sem, *]) rfl (One.zero hz.out (by (repeat' (first | (with_reducible exact Ext.refl _) | (with_reducible assumption) | (with_reducible refine Ext.alloc ?_ _) | (with_reducible refine Ext.drewN ?_ _) | (with_reducible refine Ext.drew ?_) | (with_reducible refine Ext.setCell ?_ ?_ _) | (with_reducible exact Nat.le_refl _) | (with_reducible exact Nat.le_succ _) | (with_reducible refine Ext.trans ?_ (by assumption)) | (simp; done) | (simp; omega)))))
    · go_wp2_with fail
      refine (OKA.out ▸ specTrainOk_any _ _ _ _ ra _ HNA.out HSA.out HTA.out (HFA.out.ext HX9.out)).mono ?_
      rintro e w10 ⟨rfl, hb20⟩
      have g20 : Ext w9 w10 := (Ext.refl w9).trans hb20
      have m0 := hb20.cell m0
      have m1 := hb20.cell m1
      have m2 := hb20.cell m2
      have m3 := hb20.cell m3
      have m4 := hb20.cell m4
      have m5 := hb20.cell m5
      have q10 := hb20.cell q10
      have q11 := hb20.cell q11
      have f10 := (Y2.out.ext g20).frozen 0
      have f11 := (Y2.out.ext g20).frozen 1
      have zs20 := hb20.size
      go_wp2_with fail
      refine (OKB.out ▸ specTrainOk_any _ _ _ _ rb _ HNB.out HSB.out HTB.out (HFB.out.ext (HX9.out.trans g20))).mono ?_
      rintro e w11 ⟨rfl, hb21⟩
      have g21 : Ext w9 w11 := g20.trans hb21
      have m0 := hb21.cell m0
      have m1 := hb21.cell m1
      have m2 := hb21.cell m2
      have m3 := hb21.cell m3
      have m4 := hb21.cell m4
      have m5 := hb21.cell m5
      have q10 := hb21.cell q10
      have q11 := hb21.cell q11
      have f10 := (Y2.out.ext g21).frozen 0
      have f11 := (Y2.out.ext g21).frozen 1
      have zs21 := hb21.size
      go_wp2_with fail
      refine (OKT.out ▸ specTrainOk_any _ _ _ _ (ra ++ rb) _ HNN.out hab HFL.out (HRW.out.ext g21)).mono ?_
      rintro e w12 ⟨rfl, hb22⟩
      have g22 : Ext w9 w12 := g21.trans hb22
      have m0 := hb22.cell m0
      have m1 := hb22.cell m1
      have m2 := hb22.cell m2
      have m3 := hb22.cell m3
      have m4 := hb22.cell m4
      have m5 := hb22.cell m5
      have q10 := hb22.cell q10
      have q11 := hb22.cell q11
      have f10 := (Y2.out.ext g22).frozen 0
      have f11 := (Y2.out.ext g22).frozen 1
      have zs22 := hb22.size
      have hxx := HX9.out.trans g22
      have hR := HR.out
      simp only [Bool.false_eq_true, false_and, and_false, true_and, and_true, if_false, reduceCtorEq] at hR
      injection hR with hu hR
      injection hR with hr1 hR
      subst hu hR hr1
      have hz := Lib.hid (show n1 = 0 from HN1.out)
      go_wp2
      refine bodyPost_ret (v := .tuple #[.agg #[.bool false, .slice none 0 0], .bool false]) (by simp [results, Try.results43, go_sem, *]) rfl (One.zero hz.out (by (repeat' (first | (with_reducible exact Ext.refl _) | (with_reducible assumption) | (with_reducible refine Ext.alloc ?_ _) | (with_reducible refine Ext.drewN ?_ _) | (with_reducible refine Ext.drew ?_) | (with_reducible refine Ext.setCell ?_ ?_ _) | (with_reducible exact Nat.le_refl _) | (with_reducible exact Nat.le_succ _) | (with_reducible refine Ext.trans ?_ (by assumption)) | (simp; done) | (simp; omega)))))
    · go_wp2_with fail
      refine (OKA.out ▸ specTrainOk_any _ _ _ _ ra _ HNA.out HSA.out HTA.out (HFA.out.ext HX9.out)).mono ?_
      rintro e w10 ⟨rfl, hb20⟩
      have g20 : Ext w9 w10 := (Ext.refl w9).trans hb20
      have m0 := hb20.cell m0
      have m1 := hb20.cell m1
      have m2 := hb20.cell m2
      have m3 := hb20.cell m3
      have m4 := hb20.cell m4
      have m5 := hb20.cell m5
      have q10 := hb20.cell q10
      have q11 := hb20.cell q11
      have f10 := (Y2.out.ext g20).frozen 0
      have f11 := (Y2.out.ext g20).frozen 1
      have zs20 := hb20.size
      go_wp2_with fail
      refine (OKB.out ▸ specTrainOk_any _ _ _ _ rb _ HNB.out HSB.out HTB.out (HFB.out.ext (HX9.out.trans g20))).mono ?_
      rintro e w11 ⟨rfl, hb21⟩
      have g21 : Ext w9 w11 := g20.trans hb21
      have m0 := hb21.cell m0
      have m1 := hb21.cell m1
      have m2 := hb21.cell m2
      have m3 := hb21.cell m3
      have m4 := hb21.cell m4
      have m5 := hb21.cell m5
      have q10 := hb21.cell q10
      have q11 := hb21.cell q11
      have f10 := (Y2.out.ext g21).frozen 0
      have f11 := (Y2.out.ext g21).frozen 1
      have zs21 := hb21.size
      go_wp2_with fail
      refine (OKT.out ▸ specTrainOk_any _ _ _ _ (ra ++ rb) _ HNN.out hab HFL.out (HRW.out.ext g21)).mono ?_
      rintro e w12 ⟨rfl, hb22⟩
      have g22 : Ext w9 w12 := g21.trans hb22
      have m0 := hb22.cell m0
      have m1 := hb22.cell m1
      have m2 := hb22.cell m2
      have m3 := hb22.cell m3
      have m4 := hb22.cell m4
      have m5 := hb22.cell m5
      have q10 := hb22.cell q10
      have q11 := hb22.cell q11
      have f10 := (Y2.out.ext g22).frozen 0
      have f11 := (Y2.out.ext g22).frozen 1
      have zs22 := hb22.size
      have hxx := HX9.out.trans g22
      have hR := HR.out
      simp only [Bool.false_eq_true, false_and, and_false, true_and, and_true, if_false, reduceCtorEq] at hR
      injection hR with hu hR
      injection hR with hr1 hR
      subst hu hR hr1
      have hz := Lib.hid (show n1 = 0 from HN1.out)
      go_wp2
      refine bodyPost_ret (v := .tuple #[.agg #[.bool false, .slice none 0 0], .bool false]) (by simp [results, Try.results43, go_sem, *]) rfl (One.zero hz.out (by (repeat' (first | (with_reducible exact Ext.refl _) | (with_reducible assumption) | (with_reducible refine Ext.alloc ?_ _) | (with_reducible refine Ext.drewN ?_ _) | (with_reducible refine Ext.drew ?_) | (with_reducible refine Ext.setCell ?_ ?_ _) | (with_reducible exact Nat.le_refl _) | (with_reducible exact Nat.le_succ _) | (with_reducible refine Ext.trans ?_ (by assumption)) | (simp; done) | (simp; omega)))))
    · go_wp2_with fail
      refine (OKA.out ▸ specTrainOk_any _ _ _ _ ra _ HNA.out HSA.out HTA.out (HFA.out.ext HX9.out)).mono ?_
      rintro e w10 ⟨rfl, hb20⟩
      have g20 : Ext w9 w10 := (Ext.refl w9).trans hb20
      have m0 := hb20.cell m0
      have m1 := hb20.cell m1
      have m2 := hb20.cell m2
      have m3 := hb20.cell m3
      have m4 := hb20.cell m4
      have m5 := hb20.cell m5
      have q10 := hb20.cell q10
      have q11 := hb20.cell q11
      have f10 := (Y2.out.ext g20).frozen 0
      have f11 := (Y2.out.ext g20).frozen 1
      have zs20 := hb20.size
      go_wp2_with fail
      refine (OKB.out ▸ specTrainOk_any _ _ _ _ rb _ HNB.out HSB.out HTB.out (HFB.out.ext (HX9.out.trans g20))).mono ?_
      rintro e w11 ⟨rfl, hb21⟩
      have g21 : Ext w9 w11 := g20.trans hb21
      have m0 := hb21.cell m0
      have m1 := hb21.cell m1
      have m2 := hb21.cell m2
      have m3 := hb21.cell m3
      have m4 := hb21.cell m4
      have m5 := hb21.cell m5
      have q10 := hb21.cell q10
      have q11 := hb21.cell q11
      have f10 := (Y2.out.ext g21).frozen 0
      have f11 := (Y2.out.ext g21).frozen 1
      have zs21 := hb21.size
      go_wp2_with fail
      refine (OKT.out ▸ specTrainOk_any _ _ _ _ (ra ++ rb) _ HNN.out hab HFL.out (HRW.out.ext g21)).mono ?_
      rintro e w12 ⟨rfl, hb22⟩
      have g22 : Ext w9 w12 := g21.trans hb22
      have m0 := hb22.cell m0
      have m1 := hb22.cell m1
      have m2 := hb22.cell m2
      have m3 := hb22.cell m3
      have m4 := hb22.cell m4
      have m5 := hb22.cell m5
      have q10 := hb22.cell q10
      have q11 := hb22.cell q11
      have f10 := (Y2.out.ext g22).frozen 0
      have f11 := (Y2.out.ext g22).frozen 1
      have zs22 := hb22.size
      have hxx := HX9.out.trans g22
      have hR := HR.out
      simp only [Bool.false_eq_true, false_and, and_false, true_and, and_true, if_false, reduceCtorEq] at hR
      injection hR with hu hR
      injection hR with hr1 hR
      subst hu hR hr1
      have hz := Lib.hid (show n1 = 0 from HN1.out)
      go_wp2
      refine bodyPost_ret (v := .tuple #[.agg #[.bool false, .slice none 0 0], .bool false]) (by simp [results, Try.results43, go_sem, *]) rfl (One.zero hz.out (by (repeat' (first | (with_reducible exact Ext.refl _) | (with_reducible assumption) | (with_reducible refine Ext.alloc ?_ _) | (with_reducible refine Ext.drewN ?_ _) | (with_reducible refine Ext.drew ?_) | (with_reducible refine Ext.setCell ?_ ?_ _) | (with_reducible exact Nat.le_refl _) | (with_reducible exact Nat.le_succ _) | (with_reducible refine Ext.trans ?_ (by assumption)) | (simp; done) | (simp; omega)))))
    · go_wp2_with fail
      refine (OKA.out ▸ specTrainOk_any _ _ _ _ ra _ HNA.out HSA.out HTA.out (HFA.out.ext HX9.out)).mono ?_
      rintro e w10 ⟨rfl, hb20⟩
      have g20 : Ext w9 w10 := (Ext.refl w9).trans hb20
      have m0 := hb20.cell m0
      have m1 := hb20.cell m1
      have m2 := hb20.cell m2
      have m3 := hb20.cell m3
      have m4 := hb20.cell m4
      have m5 := hb20.cell m5
      have q10 := hb20.cell q10
      have q11 := hb20.cell q11
      have f10 := (Y2.out.ext g20).frozen 0
      have f11 := (Y2.out.ext g20).frozen 1
      have zs20 := hb20.size
      go_wp2_with fail
      refine (OKB.out ▸ specTrainOk_any _ _ _ _ rb _ HNB.out HSB.out HTB.out (HFB.out.ext (HX9.out.trans g20))).mono ?_
      rintro e w11 ⟨rfl, hb21⟩
      have g21 : Ext w9 w11 := g20.trans hb21
      have m0 := hb21.cell m0
      have m1 := hb21.cell m1
      have m2 := hb21.cell m2
      have m3 := hb21.cell m3
      have m4 := hb21.cell m4
      have m5 := hb21.cell m5
      have q10 := hb21.cell q10
      have q11 := hb21.cell q11
      have f10 := (Y2.out.ext g21).frozen 0
      have f11 := (Y2.out.ext g21).frozen 1
      have zs21 := hb21.size
      go_wp2_with fail
      refine (OKT.out ▸ specTrainOk_any _ _ _ _ (ra ++ rb) _ HNN.out hab HFL.out (HRW.out.ext g21)).mono ?_
      rintro e w12 ⟨rfl, hb22⟩
      have g22 : Ext w9 w12 := g21.trans hb22
      have m0 := hb22.cell m0
      have m1 := hb22.cell m1
      have m2 := hb22.cell m2
      have m3 := hb22.cell m3
      have m4 := hb22.cell m4
      have m5 := hb22.cell m5
      have q10 := hb22.cell q10
      have q11 := hb22.cell q11
      have f10 := (Y2.out.ext g22).frozen 0
      have f11 := (Y2.out.ext g22).frozen 1
      have zs22 := hb22.size
      have hxx := HX9.out.trans g22
      have hR := HR.out
      simp only [and_self, if_true] at hR
      injection hR with hu hR
      injection hR with hr1 hR
      subst hu hR
      have hz := Lib.hid (show n1 = na + nb by rw [HN1.out, ← hr1, HNN.out])
      have HE := Lib.hid hr1; clear hr1
      have HG10 := Lib.hid (YG.out.ext g22)
      go_wp2
      refine bodyPost_ret (v := .tuple #[.agg #[.bool ua, .slice a8 (na + nb) c8], .bool true]) (by simp [results, Try.results43, go_sem, *]) rfl ⟨_, _, by rw [hz.out], ?_, by (repeat' (first | (with_reducible exact Ext.refl _) | (with_reducible assumption) | (with_reducible refine Ext.alloc ?_ _) | (with_reducible refine Ext.drewN ?_ _) | (with_reducible refine Ext.drew ?_) | (with_reducible refine Ext.setCell ?_ ?_ _) | (with_reducible exact Nat.le_refl _) | (with_reducible exact Nat.le_succ _) | (with_reducible refine Ext.trans ?_ (by assumption)) | (simp; done) | (simp; omega)))⟩
      rw [← HE.out]
      exact ((HG10.out.setT (Y2.out.ext g22) (by decide) (by decide) 0 _).setT ((Y2.out.ext g22).set 0 _) (by decide) (by decide) 1 _).ownAt.wide (Nat.le_refl _) (by simp [size_setCell']; try omega)
end Go.Proofs.Ytmcmialaofckkaa
