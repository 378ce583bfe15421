/- NewReach of the reference, for a table that is one and a delay of 2 at the most. -/
import Derived.Test.YtmppoflgbmabpaaProg
import Derived.Test.YtmppoflgbmabpaaNewR
import Derived.Test.YtmppoflgbmabpaaM6
namespace Go.Proofs.Ytmppoflgbmabpaa
open Go.RowKit
set_option linter.unusedSimpArgs false
set_option linter.unusedVariables false

set_option maxRecDepth 100000 in
set_option maxHeartbeats 4000000 in
theorem specNewReach_any (d : Nat) (hd : d ≤ 2) (a : Option Addr) (n c : Nat) (ps : List Pt) (x : Int) (w : World) (hn : n = ps.length) (hs : n ≤ 1048576) (hc : a = none → c = 0 ∧ n = 0) (hf : FlatAt w ptCells 2 a ps) (hx : -9223372036854775808 ≤ x ∧ x ≤ 9223372036854775807) (ht : tableOk ps = true) :
    Calls Try.prog 16 #[.slice a n c, .int .i64 x, .int .i64 d] w fun e w' => ∃ ta tc pa pc, e = .returned (.tuple #[.agg #[.slice ta n tc, .int .i64 (valueAt ps x), .slice pa d pc], .bool true]) ∧ PtOwn w' w.heap.size w'.heap.size (.slice ta n tc) ps ∧ IntOwn w' w.heap.size w'.heap.size (.slice pa d pc) (List.replicate d 0) ∧ Ext w w' := by
  have hsm : n ≤ maxLen := by unfold maxLen; omega
  have hdm : d ≤ maxLen := by unfold maxLen; omega
  have HRK := Lib.hid (reach_new (d := d) hd x ht)
  obtain ⟨v, hv⟩ : ∃ v, valueAt ps x = v := ⟨_, rfl⟩
  have hvb := valueAt_b ps x
  rw [hv] at hvb HRK
  rw [hv]
  have HV := Lib.hid hv; clear hv
  have hvi : -9223372036854775808 ≤ v ∧ v ≤ 9223372036854775807 := by omega
  have HDL := Lib.hid (show d = (List.replicate d (0 : Int)).length by rw [List.length_replicate])
  obtain ⟨M, hM, qM⟩ := made_ints d hd
  have HM := Lib.hid hM; clear hM
  have hr0 : inR (d : Int) 0 12 = true := by unfold inR; simp; omega
  have HF := Lib.hid hf; clear hf
  have HN := Lib.hid hn; clear hn
  have HC := Lib.hid hc; clear hc
  have RES_I := Lib.hid (RowAt.new w 33 #[.slice none 0 0, .int .i64 0, .slice none 0 0])
  have HE0 := Lib.hid (show Ext w (w.alloc (.cells #[.slice none 0 0, .int .i64 0, .slice none 0 0] 33)) from (Ext.refl w).alloc _)
  go_enter Try.func16, Try.ntmps16
  go_wp2_with fail
  refine (l01In_any _ _ _ _).mono ?_
  rintro e w1 ⟨rfl, rfl⟩
  rw [hr0]
  go_wp2_with fail
  obtain ⟨W, hW⟩ : ∃ y, y = (w.alloc (.cells #[.slice none 0 0, .int .i64 0, .slice none 0 0] 33)) := ⟨_, rfl⟩
  have hWs : w.heap.size + 1 ≤ W.heap.size := by rw [hW]; simp
  rw [← hW] at RES_I HE0
  (try rw [← hW])
  clear hW
  have KRES := RES_I
  refine wp_region_held_drew (S := (fun _ => True)) (by kernel_rfl) ?_ (fun hH0 => ?_)
  · (try dsimp only)
    (try exact trivial)
  (obtain ⟨wc, hwc⟩ : ∃ x, x = W.drew := ⟨_, rfl⟩; have hdr : Ext W wc := (by rw [hwc]; exact (Ext.refl _).drew); (try rw [← hwc] at hH0); (try rw [← hwc]); have zdr : W.heap.size ≤ wc.heap.size := hdr.size; have HX := Lib.hid hdr; have KRES := Lib.hid (RES_I.out.ext hdr); clear hwc hdr)
  refine take_l 1 (v := ?_) rfl (by kernel_rfl) (by kernel_rfl) (by kernel_rfl) (fun _ _ _ h => h) (by rfl) ?_ (by assumption) ?_
  rotate_left
  · (intro w hSw; (try dsimp only at hSw); go_simp; (try with_reducible rfl))
  (try simp only [Act.put, List.setIfInBounds_toArray, List.set_cons_zero, List.set_cons_succ])
  refine take_l 3 (v := ?_) rfl (by kernel_rfl) (by kernel_rfl) (by kernel_rfl) (fun _ _ _ h => h) (by rfl) ?_ (by assumption) ?_
  rotate_left
  · (intro w hSw; (try dsimp only at hSw); go_simp; (try with_reducible rfl))
  (try simp only [Act.put, List.setIfInBounds_toArray, List.set_cons_zero, List.set_cons_succ])
  refine take_l 4 (v := ?_) rfl (by kernel_rfl) (by kernel_rfl) (by kernel_rfl) (fun _ _ _ h => h) (by rfl) ?_ (by assumption) ?_
  rotate_left
  · (intro w hSw; (try dsimp only at hSw); go_simp; (try with_reducible rfl))
  (try simp only [Act.put, List.setIfInBounds_toArray, List.set_cons_zero, List.set_cons_succ])
  refine take_l 6 (v := ?_) rfl (by kernel_rfl) (by kernel_rfl) (by kernel_rfl) (fun _ _ _ h => h) (by rfl) ?_ (by assumption) ?_
  rotate_left
  · (intro w hSw; (try dsimp only at hSw); go_simp; (try with_reducible rfl))
  (try simp only [Act.put, List.setIfInBounds_toArray, List.set_cons_zero, List.set_cons_succ])
  refine wpAnyH_ready (rs := [0, 7, 9]) (by kernel_rfl) (by simp) ?_
  refine cons_l (i := 0) rfl (fun K hK => ?_) ?_
  (go_simp; obtain ⟨bZ, hbZ⟩ : ∃ x, x = wc.heap.size := ⟨_, rfl⟩; have hzl := World.ownsRow_lit (base := bZ) (e := 37) (size := 2) wc #[] 0 (Nat.le_of_eq hbZ) (by unfold maxLen; omega) rfl; obtain ⟨wn, hwn⟩ : ∃ x, x = wc.alloc (.cells #[] 37) := ⟨_, rfl⟩; have hal : Ext wc wn := (by rw [hwn]; exact (Ext.refl wc).alloc _); rw [← hwn, ← hbZ] at hzl; (try rw [← hwn]); (try rw [← hbZ]); have zz0 := hal.size; have zb0 : bZ < wn.heap.size := (by rw [hwn, World.size_alloc]; omega); have mbZ : wc.heap.size ≤ bZ := Nat.le_of_eq hbZ.symm; have xwZ : W.heap.size ≤ bZ := Nat.le_trans HX.out.size mbZ; clear hbZ hwn; (try replace KRES := Lib.hid (KRES.out.ext hal)); (try replace KR := Lib.hid (KR.out.ext hal)); (try replace KP := Lib.hid (KP.out.ext hal)); (try replace OTT := Lib.hid (OTT.out.ext hal)); replace HX := Lib.hid (HX.out.trans hal); have OZ := Lib.hid (show wn.ownsRow bZ 37 2 (.slice (some ⟨bZ, 0, none⟩) 0 0) 0 [] by simpa using hzl); clear hzl hal; obtain ⟨wc, hq⟩ : ∃ x, x = wn := ⟨_, rfl⟩; subst hq)
  refine hK.out _ _ ?_ (fun hH1 => ?_)
  · (try dsimp only)
    (try exact trivial)
  clear hK K hH0
  (try simp only [Act.put, List.setIfInBounds_toArray, List.set_cons_zero, List.set_cons_succ])
  refine wpAnyH_ready (rs := [2, 7, 9]) (by kernel_rfl) (by simp) ?_
  refine cons_l (i := 2) rfl (fun K hK => ?_) ?_
  (have HFC := Lib.hid (flatPts_cells (HF.out.ext (HE0.out.trans HX.out))); refine step_of_wp _ rfl (wp_append_any _ _ _ _ 37 rfl bZ _ 2 16 Try.underlying30 info_point rfl (by decide) (.slice (some ⟨bZ, 0, none⟩) 0 0) 0 [] rfl OZ.out a n c rfl (ps.flatMap ptCells) HC.out (by rw [ptFlat_len, HN.out]) HFC.out (ptFlat_one ps) (by unfold maxLen; omega) (by omega) (by have := zb0; omega) ?_); intro v' wn hown5 hg5' _; have hg5 : wc.grownBy wn (some bZ) := hg5'; clear hg5' HFC; have hP := (PtOwn.of_row (n := n) HN.out (by simpa using hown5)); obtain ⟨aT, cT, hvv, _⟩ := id hP; rw [← HN.out] at hvv; subst hvv; have OTT := Lib.hid hP; clear hown5 hP; have zz2 := hg5.size; have HXn := Lib.hid (ext_grown HX.out hg5 xwZ); clear HX; have HX := HXn; clear HXn; (try replace KRES := Lib.hid (row_grown KRES.out hg5 (fun e => by have := Option.some.inj e; omega))); (try replace KR := Lib.hid (row_grown KR.out hg5 (fun e => by have := Option.some.inj e; omega))); (try replace KP := Lib.hid (row_grown KP.out hg5 (fun e => by have := Option.some.inj e; omega))); clear hg5 OZ; obtain ⟨wc, hq⟩ : ∃ x, x = wn := ⟨_, rfl⟩; subst hq)
  refine hK.out _ _ ?_ (fun hH2 => ?_)
  · (try dsimp only)
    (try exact trivial)
  clear hK K hH1
  (try simp only [Act.put, List.setIfInBounds_toArray, List.set_cons_zero, List.set_cons_succ])
  refine wpAnyH_ready (rs := [5, 7, 9]) (by kernel_rfl) (by simp) ?_
  refine cons_l (i := 5) rfl (fun K hK => ?_) ?_
  (go_simp; (go_at_call 37; with_reducible refine (specValueAt_is v _ _ _ ps _ _ HN.out hsm (HF.out.ext (HE0.out.trans HX.out)) hx HV.out).mono ?_); rintro e wc ⟨rfl, hb⟩; have zz5 := hb.size; (try replace KRES := Lib.hid (KRES.out.ext hb)); (try replace KR := Lib.hid (KR.out.ext hb)); (try replace KP := Lib.hid (KP.out.ext hb)); (try replace OTT := Lib.hid (OTT.out.ext hb)); replace HX := Lib.hid (HX.out.trans hb); (try replace OZ := Lib.hid (ownsRow_ext OZ.out hb)); clear hb)
  refine hK.out _ _ ?_ (fun hH3 => ?_)
  · (try dsimp only)
    (try exact trivial)
  clear hK K hH2
  (try simp only [Act.put, List.setIfInBounds_toArray, List.set_cons_zero, List.set_cons_succ])
  refine wpAnyH_ready (rs := [7, 9]) (by kernel_rfl) (by simp) ?_
  refine cons_l (i := 7) rfl (fun K hK => ?_) ?_
  (go_simp; obtain ⟨bP, hbP⟩ : ∃ x, x = wc.heap.size := ⟨_, rfl⟩; obtain ⟨wn, hwn⟩ : ∃ x, x = wc.alloc (.cells M 3) := ⟨_, rfl⟩; have hal : Ext wc wn := (by rw [hwn]; exact (Ext.refl wc).alloc _); have hk := RowAt.new wc 3 M; rw [← hwn, ← hbP] at hk; (try rw [← hwn]); (try rw [← hbP]); have zz7 := hal.size; have lbP := hk.lt; have mbP : wc.heap.size ≤ bP := Nat.le_of_eq hbP.symm; have nbP : bP ≤ wc.heap.size := Nat.le_of_eq hbP; have xwbP : W.heap.size ≤ bP := Nat.le_trans HX.out.size mbP; clear hbP hwn; (try replace KRES := Lib.hid (KRES.out.ext hal)); (try replace KR := Lib.hid (KR.out.ext hal)); (try replace KP := Lib.hid (KP.out.ext hal)); (try replace OTT := Lib.hid (OTT.out.ext hal)); replace HX := Lib.hid (HX.out.trans hal); (try replace OZ := Lib.hid (ownsRow_ext OZ.out hal)); have KP := Lib.hid hk; clear hk hal; obtain ⟨wc, hq⟩ : ∃ x, x = wn := ⟨_, rfl⟩; subst hq)
  refine hK.out _ _ ?_ (fun hH4 => ?_)
  · (try dsimp only)
    (try exact trivial)
  clear hK K hH3
  (try simp only [Act.put, List.setIfInBounds_toArray, List.set_cons_zero, List.set_cons_succ])
  refine take_l 8 (v := ?_) rfl (by kernel_rfl) (by kernel_rfl) (by kernel_rfl) (fun _ _ _ h => h) (by rfl) ?_ (by assumption) ?_
  rotate_left
  · (intro w hSw; (try dsimp only at hSw); go_simp; (try with_reducible rfl))
  (try simp only [Act.put, List.setIfInBounds_toArray, List.set_cons_zero, List.set_cons_succ])
  refine wpAnyH_ready (rs := [9]) (by kernel_rfl) (by simp) ?_
  refine cons_l (i := 9) rfl (fun K hK => ?_) ?_
  (go_simp; obtain ⟨bR, hbR⟩ : ∃ x, x = wc.heap.size := ⟨_, rfl⟩; obtain ⟨wn, hwn⟩ : ∃ x, x = wc.alloc (.cells #[.slice none 0 0, .int .i64 0, .slice none 0 0] 33) := ⟨_, rfl⟩; have hal : Ext wc wn := (by rw [hwn]; exact (Ext.refl wc).alloc _); have hk := RowAt.new wc 33 #[.slice none 0 0, .int .i64 0, .slice none 0 0]; rw [← hwn, ← hbR] at hk; rw [← hwn]; (try rw [← hbR]); have zz9 := hal.size; have lbR := hk.lt; have mbR : wc.heap.size ≤ bR := Nat.le_of_eq hbR.symm; have nbR : bR ≤ wc.heap.size := Nat.le_of_eq hbR; have xwbR : W.heap.size ≤ bR := Nat.le_trans HX.out.size mbR; clear hbR hwn; (try replace KRES := Lib.hid (KRES.out.ext hal)); (try replace KR := Lib.hid (KR.out.ext hal)); (try replace KP := Lib.hid (KP.out.ext hal)); (try replace OTT := Lib.hid (OTT.out.ext hal)); replace HX := Lib.hid (HX.out.trans hal); (try replace OZ := Lib.hid (ownsRow_ext OZ.out hal)); have KR := Lib.hid hk; clear hk hal; obtain ⟨wc, hq⟩ : ∃ x, x = wn := ⟨_, rfl⟩; subst hq)
  refine hK.out _ _ ?_ (fun hH5 => ?_)
  · (try dsimp only)
    (try exact trivial)
  clear hK K hH4
  (try simp only [Act.put, List.setIfInBounds_toArray, List.set_cons_zero, List.set_cons_succ])
  refine wpAnyH_ready (rs := [10]) (by kernel_rfl) (by simp) ?_
  refine cons_l (i := 10) rfl (fun K hK => ?_) ?_
  (have hs0 := KR.out.cell (j := 0) (v := .slice none 0 0) rfl; have hf0 := KR.out.frozen 0; have hs1 := KR.out.cell (j := 1) (v := .int .i64 0) rfl; have hf1 := KR.out.frozen 1; have hs2 := KR.out.cell (j := 2) (v := .slice none 0 0) rfl; have hf2 := KR.out.frozen 2; go_simp; clear hs0 hf0 hs1 hf1 hs2 hf2; obtain ⟨wn, hwn⟩ : ∃ x, x = putAt wc (bR) 0 [.slice aT n cT, .int .i64 v, .slice (some ⟨bP, 0, none⟩) d d] := ⟨_, rfl⟩; have en : (((wc.setCell ⟨bR, 0, none⟩ (.slice aT n cT)).setCell ⟨bR, 1, none⟩ (.int .i64 v)).setCell ⟨bR, 2, none⟩ (.slice (some ⟨bP, 0, none⟩) d d)) = wn := (by rw [hwn]; rfl); rw [en]; clear en; have zz10 : wc.heap.size ≤ wn.heap.size := (by rw [hwn, put_size]; exact Nat.le_refl _); (first | replace HX := Lib.hid (show Ext W wn by rw [hwn]; exact put_ext (by first | assumption | omega) _ _ _ HX.out) | skip); (try replace KRES := Lib.hid (show RowAt wn (w.heap.size) 33 _ by rw [hwn]; exact put_other (by omega) _ _ _ KRES.out)); (first | replace OTT := Lib.hid (show PtOwn wn _ _ _ _ by rw [hwn]; exact OTT.out.putT KR.out (by decide)) | skip); replace KR := Lib.hid (RowAt.cast (c' := #[.slice aT n cT, .int .i64 v, .slice (some ⟨bP, 0, none⟩) d d]) (show RowAt wn (bR) 33 (putArr #[.slice none 0 0, .int .i64 0, .slice none 0 0] 0 [.slice aT n cT, .int .i64 v, .slice (some ⟨bP, 0, none⟩) d d]) by rw [hwn]; exact put_at _ _ _ _ KR.out) (by simp [putArr])); (try replace KP := Lib.hid (show RowAt wn (bP) 3 _ by rw [hwn]; exact put_other (by omega) _ _ _ KP.out)); clear hwn; obtain ⟨wc, hq⟩ : ∃ x, x = wn := ⟨_, rfl⟩; subst hq)
  refine hK.out _ _ ?_ (fun hH6 => ?_)
  · (try dsimp only)
    (try exact trivial)
  clear hK K hH5
  (try simp only [Act.put, List.setIfInBounds_toArray, List.set_cons_zero, List.set_cons_succ])
  refine wpAnyH_done (by kernel_rfl) ?_ _
  rotate_left
  exact AllReadyH.nil
  exact AllReadyH.nil
  refine cons_l (i := 9) rfl (fun K hK => ?_) ?_
  (go_simp; obtain ⟨bR, hbR⟩ : ∃ x, x = wc.heap.size := ⟨_, rfl⟩; obtain ⟨wn, hwn⟩ : ∃ x, x = wc.alloc (.cells #[.slice none 0 0, .int .i64 0, .slice none 0 0] 33) := ⟨_, rfl⟩; have hal : Ext wc wn := (by rw [hwn]; exact (Ext.refl wc).alloc _); have hk := RowAt.new wc 33 #[.slice none 0 0, .int .i64 0, .slice none 0 0]; rw [← hwn, ← hbR] at hk; rw [← hwn]; (try rw [← hbR]); have zz9 := hal.size; have lbR := hk.lt; have mbR : wc.heap.size ≤ bR := Nat.le_of_eq hbR.symm; have nbR : bR ≤ wc.heap.size := Nat.le_of_eq hbR; have xwbR : W.heap.size ≤ bR := Nat.le_trans HX.out.size mbR; clear hbR hwn; (try replace KRES := Lib.hid (KRES.out.ext hal)); (try replace KR := Lib.hid (KR.out.ext hal)); (try replace KP := Lib.hid (KP.out.ext hal)); (try replace OTT := Lib.hid (OTT.out.ext hal)); replace HX := Lib.hid (HX.out.trans hal); (try replace OZ := Lib.hid (ownsRow_ext OZ.out hal)); have KR := Lib.hid hk; clear hk hal; obtain ⟨wc, hq⟩ : ∃ x, x = wn := ⟨_, rfl⟩; subst hq)
  refine hK.out _ _ ?_ (fun hH4 => ?_)
  · (try dsimp only)
    (try exact trivial)
  clear hK K hH3
  (try simp only [Act.put, List.setIfInBounds_toArray, List.set_cons_zero, List.set_cons_succ])
  refine wpAnyH_ready (rs := [7]) (by kernel_rfl) (by simp) ?_
  refine cons_l (i := 7) rfl (fun K hK => ?_) ?_
  (go_simp; obtain ⟨bP, hbP⟩ : ∃ x, x = wc.heap.size := ⟨_, rfl⟩; obtain ⟨wn, hwn⟩ : ∃ x, x = wc.alloc (.cells M 3) := ⟨_, rfl⟩; have hal : Ext wc wn := (by rw [hwn]; exact (Ext.refl wc).alloc _); have hk := RowAt.new wc 3 M; rw [← hwn, ← hbP] at hk; (try rw [← hwn]); (try rw [← hbP]); have zz7 := hal.size; have lbP := hk.lt; have mbP : wc.heap.size ≤ bP := Nat.le_of_eq hbP.symm; have nbP : bP ≤ wc.heap.size := Nat.le_of_eq hbP; have xwbP : W.heap.size ≤ bP := Nat.le_trans HX.out.size mbP; clear hbP hwn; (try replace KRES := Lib.hid (KRES.out.ext hal)); (try replace KR := Lib.hid (KR.out.ext hal)); (try replace KP := Lib.hid (KP.out.ext hal)); (try replace OTT := Lib.hid (OTT.out.ext hal)); replace HX := Lib.hid (HX.out.trans hal); (try replace OZ := Lib.hid (ownsRow_ext OZ.out hal)); have KP := Lib.hid hk; clear hk hal; obtain ⟨wc, hq⟩ : ∃ x, x = wn := ⟨_, rfl⟩; subst hq)
  refine hK.out _ _ ?_ (fun hH5 => ?_)
  · (try dsimp only)
    (try exact trivial)
  clear hK K hH4
  (try simp only [Act.put, List.setIfInBounds_toArray, List.set_cons_zero, List.set_cons_succ])
  refine take_l 8 (v := ?_) rfl (by kernel_rfl) (by kernel_rfl) (by kernel_rfl) (fun _ _ _ h => h) (by rfl) ?_ (by assumption) ?_
  rotate_left
  · (intro w hSw; (try dsimp only at hSw); go_simp; (try with_reducible rfl))
  (try simp only [Act.put, List.setIfInBounds_toArray, List.set_cons_zero, List.set_cons_succ])
  refine wpAnyH_ready (rs := [10]) (by kernel_rfl) (by simp) ?_
  refine cons_l (i := 10) rfl (fun K hK => ?_) ?_
  (have hs0 := KR.out.cell (j := 0) (v := .slice none 0 0) rfl; have hf0 := KR.out.frozen 0; have hs1 := KR.out.cell (j := 1) (v := .int .i64 0) rfl; have hf1 := KR.out.frozen 1; have hs2 := KR.out.cell (j := 2) (v := .slice none 0 0) rfl; have hf2 := KR.out.frozen 2; go_simp; clear hs0 hf0 hs1 hf1 hs2 hf2; obtain ⟨wn, hwn⟩ : ∃ x, x = putAt wc (bR) 0 [.slice aT n cT, .int .i64 v, .slice (some ⟨bP, 0, none⟩) d d] := ⟨_, rfl⟩; have en : (((wc.setCell ⟨bR, 0, none⟩ (.slice aT n cT)).setCell ⟨bR, 1, none⟩ (.int .i64 v)).setCell ⟨bR, 2, none⟩ (.slice (some ⟨bP, 0, none⟩) d d)) = wn := (by rw [hwn]; rfl); rw [en]; clear en; have zz10 : wc.heap.size ≤ wn.heap.size := (by rw [hwn, put_size]; exact Nat.le_refl _); (first | replace HX := Lib.hid (show Ext W wn by rw [hwn]; exact put_ext (by first | assumption | omega) _ _ _ HX.out) | skip); (try replace KRES := Lib.hid (show RowAt wn (w.heap.size) 33 _ by rw [hwn]; exact put_other (by omega) _ _ _ KRES.out)); (first | replace OTT := Lib.hid (show PtOwn wn _ _ _ _ by rw [hwn]; exact OTT.out.putT KR.out (by decide)) | skip); replace KR := Lib.hid (RowAt.cast (c' := #[.slice aT n cT, .int .i64 v, .slice (some ⟨bP, 0, none⟩) d d]) (show RowAt wn (bR) 33 (putArr #[.slice none 0 0, .int .i64 0, .slice none 0 0] 0 [.slice aT n cT, .int .i64 v, .slice (some ⟨bP, 0, none⟩) d d]) by rw [hwn]; exact put_at _ _ _ _ KR.out) (by simp [putArr])); (try replace KP := Lib.hid (show RowAt wn (bP) 3 _ by rw [hwn]; exact put_other (by omega) _ _ _ KP.out)); clear hwn; obtain ⟨wc, hq⟩ : ∃ x, x = wn := ⟨_, rfl⟩; subst hq)
  refine hK.out _ _ ?_ (fun hH6 => ?_)
  · (try dsimp only)
    (try exact trivial)
  clear hK K hH5
  (try simp only [Act.put, List.setIfInBounds_toArray, List.set_cons_zero, List.set_cons_succ])
  refine wpAnyH_done (by kernel_rfl) ?_ _
  rotate_left
  exact AllReadyH.nil
  exact AllReadyH.nil
  exact AllReadyH.nil
  refine cons_l (i := 7) rfl (fun K hK => ?_) ?_
  (go_simp; obtain ⟨bP, hbP⟩ : ∃ x, x = wc.heap.size := ⟨_, rfl⟩; obtain ⟨wn, hwn⟩ : ∃ x, x = wc.alloc (.cells M 3) := ⟨_, rfl⟩; have hal : Ext wc wn := (by rw [hwn]; exact (Ext.refl wc).alloc _); have hk := RowAt.new wc 3 M; rw [← hwn, ← hbP] at hk; (try rw [← hwn]); (try rw [← hbP]); have zz7 := hal.size; have lbP := hk.lt; have mbP : wc.heap.size ≤ bP := Nat.le_of_eq hbP.symm; have nbP : bP ≤ wc.heap.size := Nat.le_of_eq hbP; have xwbP : W.heap.size ≤ bP := Nat.le_trans HX.out.size mbP; clear hbP hwn; (try replace KRES := Lib.hid (KRES.out.ext hal)); (try replace KR := Lib.hid (KR.out.ext hal)); (try replace KP := Lib.hid (KP.out.ext hal)); (try replace OTT := Lib.hid (OTT.out.ext hal)); replace HX := Lib.hid (HX.out.trans hal); (try replace OZ := Lib.hid (ownsRow_ext OZ.out hal)); have KP := Lib.hid hk; clear hk hal; obtain ⟨wc, hq⟩ : ∃ x, x = wn := ⟨_, rfl⟩; subst hq)
  refine hK.out _ _ ?_ (fun hH3 => ?_)
  · (try dsimp only)
    (try exact trivial)
  clear hK K hH2
  (try simp only [Act.put, List.setIfInBounds_toArray, List.set_cons_zero, List.set_cons_succ])
  refine wpAnyH_ready (rs := [5, 9]) (by kernel_rfl) (by simp) ?_
  refine cons_l (i := 5) rfl (fun K hK => ?_) ?_
  (go_simp; (go_at_call 37; with_reducible refine (specValueAt_is v _ _ _ ps _ _ HN.out hsm (HF.out.ext (HE0.out.trans HX.out)) hx HV.out).mono ?_); rintro e wc ⟨rfl, hb⟩; have zz5 := hb.size; (try replace KRES := Lib.hid (KRES.out.ext hb)); (try replace KR := Lib.hid (KR.out.ext hb)); (try replace KP := Lib.hid (KP.out.ext hb)); (try replace OTT := Lib.hid (OTT.out.ext hb)); replace HX := Lib.hid (HX.out.trans hb); (try replace OZ := Lib.hid (ownsRow_ext OZ.out hb)); clear hb)
  refine hK.out _ _ ?_ (fun hH4 => ?_)
  · (try dsimp only)
    (try exact trivial)
  clear hK K hH3
  (try simp only [Act.put, List.setIfInBounds_toArray, List.set_cons_zero, List.set_cons_succ])
  refine take_l 8 (v := ?_) rfl (by kernel_rfl) (by kernel_rfl) (by kernel_rfl) (fun _ _ _ h => h) (by rfl) ?_ (by assumption) ?_
  rotate_left
  · (intro w hSw; (try dsimp only at hSw); go_simp; (try with_reducible rfl))
  (try simp only [Act.put, List.setIfInBounds_toArray, List.set_cons_zero, List.set_cons_succ])
  refine wpAnyH_ready (rs := [9]) (by kernel_rfl) (by simp) ?_
  refine cons_l (i := 9) rfl (fun K hK => ?_) ?_
  (go_simp; obtain ⟨bR, hbR⟩ : ∃ x, x = wc.heap.size := ⟨_, rfl⟩; obtain ⟨wn, hwn⟩ : ∃ x, x = wc.alloc (.cells #[.slice none 0 0, .int .i64 0, .slice none 0 0] 33) := ⟨_, rfl⟩; have hal : Ext wc wn := (by rw [hwn]; exact (Ext.refl wc).alloc _); have hk := RowAt.new wc 33 #[.slice none 0 0, .int .i64 0, .slice none 0 0]; rw [← hwn, ← hbR] at hk; rw [← hwn]; (try rw [← hbR]); have zz9 := hal.size; have lbR := hk.lt; have mbR : wc.heap.size ≤ bR := Nat.le_of_eq hbR.symm; have nbR : bR ≤ wc.heap.size := Nat.le_of_eq hbR; have xwbR : W.heap.size ≤ bR := Nat.le_trans HX.out.size mbR; clear hbR hwn; (try replace KRES := Lib.hid (KRES.out.ext hal)); (try replace KR := Lib.hid (KR.out.ext hal)); (try replace KP := Lib.hid (KP.out.ext hal)); (try replace OTT := Lib.hid (OTT.out.ext hal)); replace HX := Lib.hid (HX.out.trans hal); (try replace OZ := Lib.hid (ownsRow_ext OZ.out hal)); have KR := Lib.hid hk; clear hk hal; obtain ⟨wc, hq⟩ : ∃ x, x = wn := ⟨_, rfl⟩; subst hq)
  refine hK.out _ _ ?_ (fun hH5 => ?_)
  · (try dsimp only)
    (try exact trivial)
  clear hK K hH4
  (try simp only [Act.put, List.setIfInBounds_toArray, List.set_cons_zero, List.set_cons_succ])
  refine wpAnyH_ready (rs := [10]) (by kernel_rfl) (by simp) ?_
  refine cons_l (i := 10) rfl (fun K hK => ?_) ?_
  (have hs0 := KR.out.cell (j := 0) (v := .slice none 0 0) rfl; have hf0 := KR.out.frozen 0; have hs1 := KR.out.cell (j := 1) (v := .int .i64 0) rfl; have hf1 := KR.out.frozen 1; have hs2 := KR.out.cell (j := 2) (v := .slice none 0 0) rfl; have hf2 := KR.out.frozen 2; go_simp; clear hs0 hf0 hs1 hf1 hs2 hf2; obtain ⟨wn, hwn⟩ : ∃ x, x = putAt wc (bR) 0 [.slice aT n cT, .int .i64 v, .slice (some ⟨bP, 0, none⟩) d d] := ⟨_, rfl⟩; have en : (((wc.setCell ⟨bR, 0, none⟩ (.slice aT n cT)).setCell ⟨bR, 1, none⟩ (.int .i64 v)).setCell ⟨bR, 2, none⟩ (.slice (some ⟨bP, 0, none⟩) d d)) = wn := (by rw [hwn]; rfl); rw [en]; clear en; have zz10 : wc.heap.size ≤ wn.heap.size := (by rw [hwn, put_size]; exact Nat.le_refl _); (first | replace HX := Lib.hid (show Ext W wn by rw [hwn]; exact put_ext (by first | assumption | omega) _ _ _ HX.out) | skip); (try replace KRES := Lib.hid (show RowAt wn (w.heap.size) 33 _ by rw [hwn]; exact put_other (by omega) _ _ _ KRES.out)); (first | replace OTT := Lib.hid (show PtOwn wn _ _ _ _ by rw [hwn]; exact OTT.out.putT KR.out (by decide)) | skip); replace KR := Lib.hid (RowAt.cast (c' := #[.slice aT n cT, .int .i64 v, .slice (some ⟨bP, 0, none⟩) d d]) (show RowAt wn (bR) 33 (putArr #[.slice none 0 0, .int .i64 0, .slice none 0 0] 0 [.slice aT n cT, .int .i64 v, .slice (some ⟨bP, 0, none⟩) d d]) by rw [hwn]; exact put_at _ _ _ _ KR.out) (by simp [putArr])); (try replace KP := Lib.hid (show RowAt wn (bP) 3 _ by rw [hwn]; exact put_other (by omega) _ _ _ KP.out)); clear hwn; obtain ⟨wc, hq⟩ : ∃ x, x = wn := ⟨_, rfl⟩; subst hq)
  refine hK.out _ _ ?_ (fun hH6 => ?_)
  · (try dsimp only)
    (try exact trivial)
  clear hK K hH5
  (try simp only [Act.put, List.setIfInBounds_toArray, List.set_cons_zero, List.set_cons_succ])
  refine wpAnyH_done (by kernel_rfl) ?_ _
  rotate_left
  exact AllReadyH.nil
  exact AllReadyH.nil
  refine cons_l (i := 9) rfl (fun K hK => ?_) ?_
  (go_simp; obtain ⟨bR, hbR⟩ : ∃ x, x = wc.heap.size := ⟨_, rfl⟩; obtain ⟨wn, hwn⟩ : ∃ x, x = wc.alloc (.cells #[.slice none 0 0, .int .i64 0, .slice none 0 0] 33) := ⟨_, rfl⟩; have hal : Ext wc wn := (by rw [hwn]; exact (Ext.refl wc).alloc _); have hk := RowAt.new wc 33 #[.slice none 0 0, .int .i64 0, .slice none 0 0]; rw [← hwn, ← hbR] at hk; rw [← hwn]; (try rw [← hbR]); have zz9 := hal.size; have lbR := hk.lt; have mbR : wc.heap.size ≤ bR := Nat.le_of_eq hbR.symm; have nbR : bR ≤ wc.heap.size := Nat.le_of_eq hbR; have xwbR : W.heap.size ≤ bR := Nat.le_trans HX.out.size mbR; clear hbR hwn; (try replace KRES := Lib.hid (KRES.out.ext hal)); (try replace KR := Lib.hid (KR.out.ext hal)); (try replace KP := Lib.hid (KP.out.ext hal)); (try replace OTT := Lib.hid (OTT.out.ext hal)); replace HX := Lib.hid (HX.out.trans hal); (try replace OZ := Lib.hid (ownsRow_ext OZ.out hal)); have KR := Lib.hid hk; clear hk hal; obtain ⟨wc, hq⟩ : ∃ x, x = wn := ⟨_, rfl⟩; subst hq)
  refine hK.out _ _ ?_ (fun hH4 => ?_)
  · (try dsimp only)
    (try exact trivial)
  clear hK K hH3
  (try simp only [Act.put, List.setIfInBounds_toArray, List.set_cons_zero, List.set_cons_succ])
  refine wpAnyH_ready (rs := [5]) (by kernel_rfl) (by simp) ?_
  refine cons_l (i := 5) rfl (fun K hK => ?_) ?_
  (go_simp; (go_at_call 37; with_reducible refine (specValueAt_is v _ _ _ ps _ _ HN.out hsm (HF.out.ext (HE0.out.trans HX.out)) hx HV.out).mono ?_); rintro e wc ⟨rfl, hb⟩; have zz5 := hb.size; (try replace KRES := Lib.hid (KRES.out.ext hb)); (try replace KR := Lib.hid (KR.out.ext hb)); (try replace KP := Lib.hid (KP.out.ext hb)); (try replace OTT := Lib.hid (OTT.out.ext hb)); replace HX := Lib.hid (HX.out.trans hb); (try replace OZ := Lib.hid (ownsRow_ext OZ.out hb)); clear hb)
  refine hK.out _ _ ?_ (fun hH5 => ?_)
  · (try dsimp only)
    (try exact trivial)
  clear hK K hH4
  (try simp only [Act.put, List.setIfInBounds_toArray, List.set_cons_zero, List.set_cons_succ])
  refine take_l 8 (v := ?_) rfl (by kernel_rfl) (by kernel_rfl) (by kernel_rfl) (fun _ _ _ h => h) (by rfl) ?_ (by assumption) ?_
  rotate_left
  · (intro w hSw; (try dsimp only at hSw); go_simp; (try with_reducible rfl))
  (try simp only [Act.put, List.setIfInBounds_toArray, List.set_cons_zero, List.set_cons_succ])
  refine wpAnyH_ready (rs := [10]) (by kernel_rfl) (by simp) ?_
  refine cons_l (i := 10) rfl (fun K hK => ?_) ?_
  (have hs0 := KR.out.cell (j := 0) (v := .slice none 0 0) rfl; have hf0 := KR.out.frozen 0; have hs1 := KR.out.cell (j := 1) (v := .int .i64 0) rfl; have hf1 := KR.out.frozen 1; have hs2 := KR.out.cell (j := 2) (v := .slice none 0 0) rfl; have hf2 := KR.out.frozen 2; go_simp; clear hs0 hf0 hs1 hf1 hs2 hf2; obtain ⟨wn, hwn⟩ : ∃ x, x = putAt wc (bR) 0 [.slice aT n cT, .int .i64 v, .slice (some ⟨bP, 0, none⟩) d d] := ⟨_, rfl⟩; have en : (((wc.setCell ⟨bR, 0, none⟩ (.slice aT n cT)).setCell ⟨bR, 1, none⟩ (.int .i64 v)).setCell ⟨bR, 2, none⟩ (.slice (some ⟨bP, 0, none⟩) d d)) = wn := (by rw [hwn]; rfl); rw [en]; clear en; have zz10 : wc.heap.size ≤ wn.heap.size := (by rw [hwn, put_size]; exact Nat.le_refl _); (first | replace HX := Lib.hid (show Ext W wn by rw [hwn]; exact put_ext (by first | assumption | omega) _ _ _ HX.out) | skip); (try replace KRES := Lib.hid (show RowAt wn (w.heap.size) 33 _ by rw [hwn]; exact put_other (by omega) _ _ _ KRES.out)); (first | replace OTT := Lib.hid (show PtOwn wn _ _ _ _ by rw [hwn]; exact OTT.out.putT KR.out (by decide)) | skip); replace KR := Lib.hid (RowAt.cast (c' := #[.slice aT n cT, .int .i64 v, .slice (some ⟨bP, 0, none⟩) d d]) (show RowAt wn (bR) 33 (putArr #[.slice none 0 0, .int .i64 0, .slice none 0 0] 0 [.slice aT n cT, .int .i64 v, .slice (some ⟨bP, 0, none⟩) d d]) by rw [hwn]; exact put_at _ _ _ _ KR.out) (by simp [putArr])); (try replace KP := Lib.hid (show RowAt wn (bP) 3 _ by rw [hwn]; exact put_other (by omega) _ _ _ KP.out)); clear hwn; obtain ⟨wc, hq⟩ : ∃ x, x = wn := ⟨_, rfl⟩; subst hq)
  refine hK.out _ _ ?_ (fun hH6 => ?_)
  · (try dsimp only)
    (try exact trivial)
  clear hK K hH5
  (try simp only [Act.put, List.setIfInBounds_toArray, List.set_cons_zero, List.set_cons_succ])
  refine wpAnyH_done (by kernel_rfl) ?_ _
  rotate_left
  exact AllReadyH.nil
  exact AllReadyH.nil
  exact AllReadyH.nil
  refine cons_l (i := 9) rfl (fun K hK => ?_) ?_
  (go_simp; obtain ⟨bR, hbR⟩ : ∃ x, x = wc.heap.size := ⟨_, rfl⟩; obtain ⟨wn, hwn⟩ : ∃ x, x = wc.alloc (.cells #[.slice none 0 0, .int .i64 0, .slice none 0 0] 33) := ⟨_, rfl⟩; have hal : Ext wc wn := (by rw [hwn]; exact (Ext.refl wc).alloc _); have hk := RowAt.new wc 33 #[.slice none 0 0, .int .i64 0, .slice none 0 0]; rw [← hwn, ← hbR] at hk; rw [← hwn]; (try rw [← hbR]); have zz9 := hal.size; have lbR := hk.lt; have mbR : wc.heap.size ≤ bR := Nat.le_of_eq hbR.symm; have nbR : bR ≤ wc.heap.size := Nat.le_of_eq hbR; have xwbR : W.heap.size ≤ bR := Nat.le_trans HX.out.size mbR; clear hbR hwn; (try replace KRES := Lib.hid (KRES.out.ext hal)); (try replace KR := Lib.hid (KR.out.ext hal)); (try replace KP := Lib.hid (KP.out.ext hal)); (try replace OTT := Lib.hid (OTT.out.ext hal)); replace HX := Lib.hid (HX.out.trans hal); (try replace OZ := Lib.hid (ownsRow_ext OZ.out hal)); have KR := Lib.hid hk; clear hk hal; obtain ⟨wc, hq⟩ : ∃ x, x = wn := ⟨_, rfl⟩; subst hq)
  refine hK.out _ _ ?_ (fun hH3 => ?_)
  · (try dsimp only)
    (try exact trivial)
  clear hK K hH2
  (try simp only [Act.put, List.setIfInBounds_toArray, List.set_cons_zero, List.set_cons_succ])
  refine wpAnyH_ready (rs := [5, 7]) (by kernel_rfl) (by simp) ?_
  refine cons_l (i := 5) rfl (fun K hK => ?_) ?_
  (go_simp; (go_at_call 37; with_reducible refine (specValueAt_is v _ _ _ ps _ _ HN.out hsm (HF.out.ext (HE0.out.trans HX.out)) hx HV.out).mono ?_); rintro e wc ⟨rfl, hb⟩; have zz5 := hb.size; (try replace KRES := Lib.hid (KRES.out.ext hb)); (try replace KR := Lib.hid (KR.out.ext hb)); (try replace KP := Lib.hid (KP.out.ext hb)); (try replace OTT := Lib.hid (OTT.out.ext hb)); replace HX := Lib.hid (HX.out.trans hb); (try replace OZ := Lib.hid (ownsRow_ext OZ.out hb)); clear hb)
  refine hK.out _ _ ?_ (fun hH4 => ?_)
  · (try dsimp only)
    (try exact trivial)
  clear hK K hH3
  (try simp only [Act.put, List.setIfInBounds_toArray, List.set_cons_zero, List.set_cons_succ])
  refine wpAnyH_ready (rs := [7]) (by kernel_rfl) (by simp) ?_
  refine cons_l (i := 7) rfl (fun K hK => ?_) ?_
  (go_simp; obtain ⟨bP, hbP⟩ : ∃ x, x = wc.heap.size := ⟨_, rfl⟩; obtain ⟨wn, hwn⟩ : ∃ x, x = wc.alloc (.cells M 3) := ⟨_, rfl⟩; have hal : Ext wc wn := (by rw [hwn]; exact (Ext.refl wc).alloc _); have hk := RowAt.new wc 3 M; rw [← hwn, ← hbP] at hk; (try rw [← hwn]); (try rw [← hbP]); have zz7 := hal.size; have lbP := hk.lt; have mbP : wc.heap.size ≤ bP := Nat.le_of_eq hbP.symm; have nbP : bP ≤ wc.heap.size := Nat.le_of_eq hbP; have xwbP : W.heap.size ≤ bP := Nat.le_trans HX.out.size mbP; clear hbP hwn; (try replace KRES := Lib.hid (KRES.out.ext hal)); (try replace KR := Lib.hid (KR.out.ext hal)); (try replace KP := Lib.hid (KP.out.ext hal)); (try replace OTT := Lib.hid (OTT.out.ext hal)); replace HX := Lib.hid (HX.out.trans hal); (try replace OZ := Lib.hid (ownsRow_ext OZ.out hal)); have KP := Lib.hid hk; clear hk hal; obtain ⟨wc, hq⟩ : ∃ x, x = wn := ⟨_, rfl⟩; subst hq)
  refine hK.out _ _ ?_ (fun hH5 => ?_)
  · (try dsimp only)
    (try exact trivial)
  clear hK K hH4
  (try simp only [Act.put, List.setIfInBounds_toArray, List.set_cons_zero, List.set_cons_succ])
  refine take_l 8 (v := ?_) rfl (by kernel_rfl) (by kernel_rfl) (by kernel_rfl) (fun _ _ _ h => h) (by rfl) ?_ (by assumption) ?_
  rotate_left
  · (intro w hSw; (try dsimp only at hSw); go_simp; (try with_reducible rfl))
  (try simp only [Act.put, List.setIfInBounds_toArray, List.set_cons_zero, List.set_cons_succ])
  refine wpAnyH_ready (rs := [10]) (by kernel_rfl) (by simp) ?_
  refine cons_l (i := 10) rfl (fun K hK => ?_) ?_
  (have hs0 := KR.out.cell (j := 0) (v := .slice none 0 0) rfl; have hf0 := KR.out.frozen 0; have hs1 := KR.out.cell (j := 1) (v := .int .i64 0) rfl; have hf1 := KR.out.frozen 1; have hs2 := KR.out.cell (j := 2) (v := .slice none 0 0) rfl; have hf2 := KR.out.frozen 2; go_simp; clear hs0 hf0 hs1 hf1 hs2 hf2; obtain ⟨wn, hwn⟩ : ∃ x, x = putAt wc (bR) 0 [.slice aT n cT, .int .i64 v, .slice (some ⟨bP, 0, none⟩) d d] := ⟨_, rfl⟩; have en : (((wc.setCell ⟨bR, 0, none⟩ (.slice aT n cT)).setCell ⟨bR, 1, none⟩ (.int .i64 v)).setCell ⟨bR, 2, none⟩ (.slice (some ⟨bP, 0, none⟩) d d)) = wn := (by rw [hwn]; rfl); rw [en]; clear en; have zz10 : wc.heap.size ≤ wn.heap.size := (by rw [hwn, put_size]; exact Nat.le_refl _); (first | replace HX := Lib.hid (show Ext W wn by rw [hwn]; exact put_ext (by first | assumption | omega) _ _ _ HX.out) | skip); (try replace KRES := Lib.hid (show RowAt wn (w.heap.size) 33 _ by rw [hwn]; exact put_other (by omega) _ _ _ KRES.out)); (first | replace OTT := Lib.hid (show PtOwn wn _ _ _ _ by rw [hwn]; exact OTT.out.putT KR.out (by decide)) | skip); replace KR := Lib.hid (RowAt.cast (c' := #[.slice aT n cT, .int .i64 v, .slice (some ⟨bP, 0, none⟩) d d]) (show RowAt wn (bR) 33 (putArr #[.slice none 0 0, .int .i64 0, .slice none 0 0] 0 [.slice aT n cT, .int .i64 v, .slice (some ⟨bP, 0, none⟩) d d]) by rw [hwn]; exact put_at _ _ _ _ KR.out) (by simp [putArr])); (try replace KP := Lib.hid (show RowAt wn (bP) 3 _ by rw [hwn]; exact put_other (by omega) _ _ _ KP.out)); clear hwn; obtain ⟨wc, hq⟩ : ∃ x, x = wn := ⟨_, rfl⟩; subst hq)
  refine hK.out _ _ ?_ (fun hH6 => ?_)
  · (try dsimp only)
    (try exact trivial)
  clear hK K hH5
  (try simp only [Act.put, List.setIfInBounds_toArray, List.set_cons_zero, List.set_cons_succ])
  refine wpAnyH_done (by kernel_rfl) ?_ _
  rotate_left
  exact AllReadyH.nil
  exact AllReadyH.nil
  refine cons_l (i := 7) rfl (fun K hK => ?_) ?_
  (go_simp; obtain ⟨bP, hbP⟩ : ∃ x, x = wc.heap.size := ⟨_, rfl⟩; obtain ⟨wn, hwn⟩ : ∃ x, x = wc.alloc (.cells M 3) := ⟨_, rfl⟩; have hal : Ext wc wn := (by rw [hwn]; exact (Ext.refl wc).alloc _); have hk := RowAt.new wc 3 M; rw [← hwn, ← hbP] at hk; (try rw [← hwn]); (try rw [← hbP]); have zz7 := hal.size; have lbP := hk.lt; have mbP : wc.heap.size ≤ bP := Nat.le_of_eq hbP.symm; have nbP : bP ≤ wc.heap.size := Nat.le_of_eq hbP; have xwbP : W.heap.size ≤ bP := Nat.le_trans HX.out.size mbP; clear hbP hwn; (try replace KRES := Lib.hid (KRES.out.ext hal)); (try replace KR := Lib.hid (KR.out.ext hal)); (try replace KP := Lib.hid (KP.out.ext hal)); (try replace OTT := Lib.hid (OTT.out.ext hal)); replace HX := Lib.hid (HX.out.trans hal); (try replace OZ := Lib.hid (ownsRow_ext OZ.out hal)); have KP := Lib.hid hk; clear hk hal; obtain ⟨wc, hq⟩ : ∃ x, x = wn := ⟨_, rfl⟩; subst hq)
  refine hK.out _ _ ?_ (fun hH4 => ?_)
  · (try dsimp only)
    (try exact trivial)
  clear hK K hH3
  (try simp only [Act.put, List.setIfInBounds_toArray, List.set_cons_zero, List.set_cons_succ])
  refine wpAnyH_ready (rs := [5]) (by kernel_rfl) (by simp) ?_
  refine cons_l (i := 5) rfl (fun K hK => ?_) ?_
  (go_simp; (go_at_call 37; with_reducible refine (specValueAt_is v _ _ _ ps _ _ HN.out hsm (HF.out.ext (HE0.out.trans HX.out)) hx HV.out).mono ?_); rintro e wc ⟨rfl, hb⟩; have zz5 := hb.size; (try replace KRES := Lib.hid (KRES.out.ext hb)); (try replace KR := Lib.hid (KR.out.ext hb)); (try replace KP := Lib.hid (KP.out.ext hb)); (try replace OTT := Lib.hid (OTT.out.ext hb)); replace HX := Lib.hid (HX.out.trans hb); (try replace OZ := Lib.hid (ownsRow_ext OZ.out hb)); clear hb)
  refine hK.out _ _ ?_ (fun hH5 => ?_)
  · (try dsimp only)
    (try exact trivial)
  clear hK K hH4
  (try simp only [Act.put, List.setIfInBounds_toArray, List.set_cons_zero, List.set_cons_succ])
  refine take_l 8 (v := ?_) rfl (by kernel_rfl) (by kernel_rfl) (by kernel_rfl) (fun _ _ _ h => h) (by rfl) ?_ (by assumption) ?_
  rotate_left
  · (intro w hSw; (try dsimp only at hSw); go_simp; (try with_reducible rfl))
  (try simp only [Act.put, List.setIfInBounds_toArray, List.set_cons_zero, List.set_cons_succ])
  refine wpAnyH_ready (rs := [10]) (by kernel_rfl) (by simp) ?_
  refine cons_l (i := 10) rfl (fun K hK => ?_) ?_
  (have hs0 := KR.out.cell (j := 0) (v := .slice none 0 0) rfl; have hf0 := KR.out.frozen 0; have hs1 := KR.out.cell (j := 1) (v := .int .i64 0) rfl; have hf1 := KR.out.frozen 1; have hs2 := KR.out.cell (j := 2) (v := .slice none 0 0) rfl; have hf2 := KR.out.frozen 2; go_simp; clear hs0 hf0 hs1 hf1 hs2 hf2; obtain ⟨wn, hwn⟩ : ∃ x, x = putAt wc (bR) 0 [.slice aT n cT, .int .i64 v, .slice (some ⟨bP, 0, none⟩) d d] := ⟨_, rfl⟩; have en : (((wc.setCell ⟨bR, 0, none⟩ (.slice aT n cT)).setCell ⟨bR, 1, none⟩ (.int .i64 v)).setCell ⟨bR, 2, none⟩ (.slice (some ⟨bP, 0, none⟩) d d)) = wn := (by rw [hwn]; rfl); rw [en]; clear en; have zz10 : wc.heap.size ≤ wn.heap.size := (by rw [hwn, put_size]; exact Nat.le_refl _); (first | replace HX := Lib.hid (show Ext W wn by rw [hwn]; exact put_ext (by first | assumption | omega) _ _ _ HX.out) | skip); (try replace KRES := Lib.hid (show RowAt wn (w.heap.size) 33 _ by rw [hwn]; exact put_other (by omega) _ _ _ KRES.out)); (first | replace OTT := Lib.hid (show PtOwn wn _ _ _ _ by rw [hwn]; exact OTT.out.putT KR.out (by decide)) | skip); replace KR := Lib.hid (RowAt.cast (c' := #[.slice aT n cT, .int .i64 v, .slice (some ⟨bP, 0, none⟩) d d]) (show RowAt wn (bR) 33 (putArr #[.slice none 0 0, .int .i64 0, .slice none 0 0] 0 [.slice aT n cT, .int .i64 v, .slice (some ⟨bP, 0, none⟩) d d]) by rw [hwn]; exact put_at _ _ _ _ KR.out) (by simp [putArr])); (try replace KP := Lib.hid (show RowAt wn (bP) 3 _ by rw [hwn]; exact put_other (by omega) _ _ _ KP.out)); clear hwn; obtain ⟨wc, hq⟩ : ∃ x, x = wn := ⟨_, rfl⟩; subst hq)
  refine hK.out _ _ ?_ (fun hH6 => ?_)
  · (try dsimp only)
    (try exact trivial)
  clear hK K hH5
  (try simp only [Act.put, List.setIfInBounds_toArray, List.set_cons_zero, List.set_cons_succ])
  refine wpAnyH_done (by kernel_rfl) ?_ _
  rotate_left
  exact AllReadyH.nil
  exact AllReadyH.nil
  exact AllReadyH.nil
  exact AllReadyH.nil
  refine cons_l (i := 7) rfl (fun K hK => ?_) ?_
  (go_simp; obtain ⟨bP, hbP⟩ : ∃ x, x = wc.heap.size := ⟨_, rfl⟩; obtain ⟨wn, hwn⟩ : ∃ x, x = wc.alloc (.cells M 3) := ⟨_, rfl⟩; have hal : Ext wc wn := (by rw [hwn]; exact (Ext.refl wc).alloc _); have hk := RowAt.new wc 3 M; rw [← hwn, ← hbP] at hk; (try rw [← hwn]); (try rw [← hbP]); have zz7 := hal.size; have lbP := hk.lt; have mbP : wc.heap.size ≤ bP := Nat.le_of_eq hbP.symm; have nbP : bP ≤ wc.heap.size := Nat.le_of_eq hbP; have xwbP : W.heap.size ≤ bP := Nat.le_trans HX.out.size mbP; clear hbP hwn; (try replace KRES := Lib.hid (KRES.out.ext hal)); (try replace KR := Lib.hid (KR.out.ext hal)); (try replace KP := Lib.hid (KP.out.ext hal)); (try replace OTT := Lib.hid (OTT.out.ext hal)); replace HX := Lib.hid (HX.out.trans hal); (try replace OZ := Lib.hid (ownsRow_ext OZ.out hal)); have KP := Lib.hid hk; clear hk hal; obtain ⟨wc, hq⟩ : ∃ x, x = wn := ⟨_, rfl⟩; subst hq)
  refine hK.out _ _ ?_ (fun hH2 => ?_)
  · (try dsimp only)
    (try exact trivial)
  clear hK K hH1
  (try simp only [Act.put, List.setIfInBounds_toArray, List.set_cons_zero, List.set_cons_succ])
  refine wpAnyH_ready (rs := [2, 9]) (by kernel_rfl) (by simp) ?_
  refine cons_l (i := 2) rfl (fun K hK => ?_) ?_
  (have HFC := Lib.hid (flatPts_cells (HF.out.ext (HE0.out.trans HX.out))); refine step_of_wp _ rfl (wp_append_any _ _ _ _ 37 rfl bZ _ 2 16 Try.underlying30 info_point rfl (by decide) (.slice (some ⟨bZ, 0, none⟩) 0 0) 0 [] rfl OZ.out a n c rfl (ps.flatMap ptCells) HC.out (by rw [ptFlat_len, HN.out]) HFC.out (ptFlat_one ps) (by unfold maxLen; omega) (by omega) (by have := zb0; omega) ?_); intro v' wn hown5 hg5' _; have hg5 : wc.grownBy wn (some bZ) := hg5'; clear hg5' HFC; have hP := (PtOwn.of_row (n := n) HN.out (by simpa using hown5)); obtain ⟨aT, cT, hvv, _⟩ := id hP; rw [← HN.out] at hvv; subst hvv; have OTT := Lib.hid hP; clear hown5 hP; have zz2 := hg5.size; have HXn := Lib.hid (ext_grown HX.out hg5 xwZ); clear HX; have HX := HXn; clear HXn; (try replace KRES := Lib.hid (row_grown KRES.out hg5 (fun e => by have := Option.some.inj e; omega))); (try replace KR := Lib.hid (row_grown KR.out hg5 (fun e => by have := Option.some.inj e; omega))); (try replace KP := Lib.hid (row_grown KP.out hg5 (fun e => by have := Option.some.inj e; omega))); clear hg5 OZ; obtain ⟨wc, hq⟩ : ∃ x, x = wn := ⟨_, rfl⟩; subst hq)
  refine hK.out _ _ ?_ (fun hH3 => ?_)
  · (try dsimp only)
    (try exact trivial)
  clear hK K hH2
  (try simp only [Act.put, List.setIfInBounds_toArray, List.set_cons_zero, List.set_cons_succ])
  refine wpAnyH_ready (rs := [5, 9]) (by kernel_rfl) (by simp) ?_
  refine cons_l (i := 5) rfl (fun K hK => ?_) ?_
  (go_simp; (go_at_call 37; with_reducible refine (specValueAt_is v _ _ _ ps _ _ HN.out hsm (HF.out.ext (HE0.out.trans HX.out)) hx HV.out).mono ?_); rintro e wc ⟨rfl, hb⟩; have zz5 := hb.size; (try replace KRES := Lib.hid (KRES.out.ext hb)); (try replace KR := Lib.hid (KR.out.ext hb)); (try replace KP := Lib.hid (KP.out.ext hb)); (try replace OTT := Lib.hid (OTT.out.ext hb)); replace HX := Lib.hid (HX.out.trans hb); (try replace OZ := Lib.hid (ownsRow_ext OZ.out hb)); clear hb)
  refine hK.out _ _ ?_ (fun hH4 => ?_)
  · (try dsimp only)
    (try exact trivial)
  clear hK K hH3
  (try simp only [Act.put, List.setIfInBounds_toArray, List.set_cons_zero, List.set_cons_succ])
  refine take_l 8 (v := ?_) rfl (by kernel_rfl) (by kernel_rfl) (by kernel_rfl) (fun _ _ _ h => h) (by rfl) ?_ (by assumption) ?_
  rotate_left
  · (intro w hSw; (try dsimp only at hSw); go_simp; (try with_reducible rfl))
  (try simp only [Act.put, List.setIfInBounds_toArray, List.set_cons_zero, List.set_cons_succ])
  refine wpAnyH_ready (rs := [9]) (by kernel_rfl) (by simp) ?_
  refine cons_l (i := 9) rfl (fun K hK => ?_) ?_
  (go_simp; obtain ⟨bR, hbR⟩ : ∃ x, x = wc.heap.size := ⟨_, rfl⟩; obtain ⟨wn, hwn⟩ : ∃ x, x = wc.alloc (.cells #[.slice none 0 0, .int .i64 0, .slice none 0 0] 33) := ⟨_, rfl⟩; have hal : Ext wc wn := (by rw [hwn]; exact (Ext.refl wc).alloc _); have hk := RowAt.new wc 33 #[.slice none 0 0, .int .i64 0, .slice none 0 0]; rw [← hwn, ← hbR] at hk; rw [← hwn]; (try rw [← hbR]); have zz9 := hal.size; have lbR := hk.lt; have mbR : wc.heap.size ≤ bR := Nat.le_of_eq hbR.symm; have nbR : bR ≤ wc.heap.size := Nat.le_of_eq hbR; have xwbR : W.heap.size ≤ bR := Nat.le_trans HX.out.size mbR; clear hbR hwn; (try replace KRES := Lib.hid (KRES.out.ext hal)); (try replace KR := Lib.hid (KR.out.ext hal)); (try replace KP := Lib.hid (KP.out.ext hal)); (try replace OTT := Lib.hid (OTT.out.ext hal)); replace HX := Lib.hid (HX.out.trans hal); (try replace OZ := Lib.hid (ownsRow_ext OZ.out hal)); have KR := Lib.hid hk; clear hk hal; obtain ⟨wc, hq⟩ : ∃ x, x = wn := ⟨_, rfl⟩; subst hq)
  refine hK.out _ _ ?_ (fun hH5 => ?_)
  · (try dsimp only)
    (try exact trivial)
  clear hK K hH4
  (try simp only [Act.put, List.setIfInBounds_toArray, List.set_cons_zero, List.set_cons_succ])
  refine wpAnyH_ready (rs := [10]) (by kernel_rfl) (by simp) ?_
  refine cons_l (i := 10) rfl (fun K hK => ?_) ?_
  (have hs0 := KR.out.cell (j := 0) (v := .slice none 0 0) rfl; have hf0 := KR.out.frozen 0; have hs1 := KR.out.cell (j := 1) (v := .int .i64 0) rfl; have hf1 := KR.out.frozen 1; have hs2 := KR.out.cell (j := 2) (v := .slice none 0 0) rfl; have hf2 := KR.out.frozen 2; go_simp; clear hs0 hf0 hs1 hf1 hs2 hf2; obtain ⟨wn, hwn⟩ : ∃ x, x = putAt wc (bR) 0 [.slice aT n cT, .int .i64 v, .slice (some ⟨bP, 0, none⟩) d d] := ⟨_, rfl⟩; have en : (((wc.setCell ⟨bR, 0, none⟩ (.slice aT n cT)).setCell ⟨bR, 1, none⟩ (.int .i64 v)).setCell ⟨bR, 2, none⟩ (.slice (some ⟨bP, 0, none⟩) d d)) = wn := (by rw [hwn]; rfl); rw [en]; clear en; have zz10 : wc.heap.size ≤ wn.heap.size := (by rw [hwn, put_size]; exact Nat.le_refl _); (first | replace HX := Lib.hid (show Ext W wn by rw [hwn]; exact put_ext (by first | assumption | omega) _ _ _ HX.out) | skip); (try replace KRES := Lib.hid (show RowAt wn (w.heap.size) 33 _ by rw [hwn]; exact put_other (by omega) _ _ _ KRES.out)); (first | replace OTT := Lib.hid (show PtOwn wn _ _ _ _ by rw [hwn]; exact OTT.out.putT KR.out (by decide)) | skip); replace KR := Lib.hid (RowAt.cast (c' := #[.slice aT n cT, .int .i64 v, .slice (some ⟨bP, 0, none⟩) d d]) (show RowAt wn (bR) 33 (putArr #[.slice none 0 0, .int .i64 0, .slice none 0 0] 0 [.slice aT n cT, .int .i64 v, .slice (some ⟨bP, 0, none⟩) d d]) by rw [hwn]; exact put_at _ _ _ _ KR.out) (by simp [putArr])); (try replace KP := Lib.hid (show RowAt wn (bP) 3 _ by rw [hwn]; exact put_other (by omega) _ _ _ KP.out)); clear hwn; obtain ⟨wc, hq⟩ : ∃ x, x = wn := ⟨_, rfl⟩; subst hq)
  refine hK.out _ _ ?_ (fun hH6 => ?_)
  · (try dsimp only)
    (try exact trivial)
  clear hK K hH5
  (try simp only [Act.put, List.setIfInBounds_toArray, List.set_cons_zero, List.set_cons_succ])
  refine wpAnyH_done (by kernel_rfl) ?_ _
  rotate_left
  exact AllReadyH.nil
  exact AllReadyH.nil
  refine cons_l (i := 9) rfl (fun K hK => ?_) ?_
  (go_simp; obtain ⟨bR, hbR⟩ : ∃ x, x = wc.heap.size := ⟨_, rfl⟩; obtain ⟨wn, hwn⟩ : ∃ x, x = wc.alloc (.cells #[.slice none 0 0, .int .i64 0, .slice none 0 0] 33) := ⟨_, rfl⟩; have hal : Ext wc wn := (by rw [hwn]; exact (Ext.refl wc).alloc _); have hk := RowAt.new wc 33 #[.slice none 0 0, .int .i64 0, .slice none 0 0]; rw [← hwn, ← hbR] at hk; rw [← hwn]; (try rw [← hbR]); have zz9 := hal.size; have lbR := hk.lt; have mbR : wc.heap.size ≤ bR := Nat.le_of_eq hbR.symm; have nbR : bR ≤ wc.heap.size := Nat.le_of_eq hbR; have xwbR : W.heap.size ≤ bR := Nat.le_trans HX.out.size mbR; clear hbR hwn; (try replace KRES := Lib.hid (KRES.out.ext hal)); (try replace KR := Lib.hid (KR.out.ext hal)); (try replace KP := Lib.hid (KP.out.ext hal)); (try replace OTT := Lib.hid (OTT.out.ext hal)); replace HX := Lib.hid (HX.out.trans hal); (try replace OZ := Lib.hid (ownsRow_ext OZ.out hal)); have KR := Lib.hid hk; clear hk hal; obtain ⟨wc, hq⟩ : ∃ x, x = wn := ⟨_, rfl⟩; subst hq)
  refine hK.out _ _ ?_ (fun hH4 => ?_)
  · (try dsimp only)
    (try exact trivial)
  clear hK K hH3
  (try simp only [Act.put, List.setIfInBounds_toArray, List.set_cons_zero, List.set_cons_succ])
  refine wpAnyH_ready (rs := [5]) (by kernel_rfl) (by simp) ?_
  refine cons_l (i := 5) rfl (fun K hK => ?_) ?_
  (go_simp; (go_at_call 37; with_reducible refine (specValueAt_is v _ _ _ ps _ _ HN.out hsm (HF.out.ext (HE0.out.trans HX.out)) hx HV.out).mono ?_); rintro e wc ⟨rfl, hb⟩; have zz5 := hb.size; (try replace KRES := Lib.hid (KRES.out.ext hb)); (try replace KR := Lib.hid (KR.out.ext hb)); (try replace KP := Lib.hid (KP.out.ext hb)); (try replace OTT := Lib.hid (OTT.out.ext hb)); replace HX := Lib.hid (HX.out.trans hb); (try replace OZ := Lib.hid (ownsRow_ext OZ.out hb)); clear hb)
  refine hK.out _ _ ?_ (fun hH5 => ?_)
  · (try dsimp only)
    (try exact trivial)
  clear hK K hH4
  (try simp only [Act.put, List.setIfInBounds_toArray, List.set_cons_zero, List.set_cons_succ])
  refine take_l 8 (v := ?_) rfl (by kernel_rfl) (by kernel_rfl) (by kernel_rfl) (fun _ _ _ h => h) (by rfl) ?_ (by assumption) ?_
  rotate_left
  · (intro w hSw; (try dsimp only at hSw); go_simp; (try with_reducible rfl))
  (try simp only [Act.put, List.setIfInBounds_toArray, List.set_cons_zero, List.set_cons_succ])
  refine wpAnyH_ready (rs := [10]) (by kernel_rfl) (by simp) ?_
  refine cons_l (i := 10) rfl (fun K hK => ?_) ?_
  (have hs0 := KR.out.cell (j := 0) (v := .slice none 0 0) rfl; have hf0 := KR.out.frozen 0; have hs1 := KR.out.cell (j := 1) (v := .int .i64 0) rfl; have hf1 := KR.out.frozen 1; have hs2 := KR.out.cell (j := 2) (v := .slice none 0 0) rfl; have hf2 := KR.out.frozen 2; go_simp; clear hs0 hf0 hs1 hf1 hs2 hf2; obtain ⟨wn, hwn⟩ : ∃ x, x = putAt wc (bR) 0 [.slice aT n cT, .int .i64 v, .slice (some ⟨bP, 0, none⟩) d d] := ⟨_, rfl⟩; have en : (((wc.setCell ⟨bR, 0, none⟩ (.slice aT n cT)).setCell ⟨bR, 1, none⟩ (.int .i64 v)).setCell ⟨bR, 2, none⟩ (.slice (some ⟨bP, 0, none⟩) d d)) = wn := (by rw [hwn]; rfl); rw [en]; clear en; have zz10 : wc.heap.size ≤ wn.heap.size := (by rw [hwn, put_size]; exact Nat.le_refl _); (first | replace HX := Lib.hid (show Ext W wn by rw [hwn]; exact put_ext (by first | assumption | omega) _ _ _ HX.out) | skip); (try replace KRES := Lib.hid (show RowAt wn (w.heap.size) 33 _ by rw [hwn]; exact put_other (by omega) _ _ _ KRES.out)); (first | replace OTT := Lib.hid (show PtOwn wn _ _ _ _ by rw [hwn]; exact OTT.out.putT KR.out (by decide)) | skip); replace KR := Lib.hid (RowAt.cast (c' := #[.slice aT n cT, .int .i64 v, .slice (some ⟨bP, 0, none⟩) d d]) (show RowAt wn (bR) 33 (putArr #[.slice none 0 0, .int .i64 0, .slice none 0 0] 0 [.slice aT n cT, .int .i64 v, .slice (some ⟨bP, 0, none⟩) d d]) by rw [hwn]; exact put_at _ _ _ _ KR.out) (by simp [putArr])); (try replace KP := Lib.hid (show RowAt wn (bP) 3 _ by rw [hwn]; exact put_other (by omega) _ _ _ KP.out)); clear hwn; obtain ⟨wc, hq⟩ : ∃ x, x = wn := ⟨_, rfl⟩; subst hq)
  refine hK.out _ _ ?_ (fun hH6 => ?_)
  · (try dsimp only)
    (try exact trivial)
  clear hK K hH5
  (try simp only [Act.put, List.setIfInBounds_toArray, List.set_cons_zero, List.set_cons_succ])
  refine wpAnyH_done (by kernel_rfl) ?_ _
  rotate_left
  exact AllReadyH.nil
  exact AllReadyH.nil
  exact AllReadyH.nil
  refine cons_l (i := 9) rfl (fun K hK => ?_) ?_
  (go_simp; obtain ⟨bR, hbR⟩ : ∃ x, x = wc.heap.size := ⟨_, rfl⟩; obtain ⟨wn, hwn⟩ : ∃ x, x = wc.alloc (.cells #[.slice none 0 0, .int .i64 0, .slice none 0 0] 33) := ⟨_, rfl⟩; have hal : Ext wc wn := (by rw [hwn]; exact (Ext.refl wc).alloc _); have hk := RowAt.new wc 33 #[.slice none 0 0, .int .i64 0, .slice none 0 0]; rw [← hwn, ← hbR] at hk; rw [← hwn]; (try rw [← hbR]); have zz9 := hal.size; have lbR := hk.lt; have mbR : wc.heap.size ≤ bR := Nat.le_of_eq hbR.symm; have nbR : bR ≤ wc.heap.size := Nat.le_of_eq hbR; have xwbR : W.heap.size ≤ bR := Nat.le_trans HX.out.size mbR; clear hbR hwn; (try replace KRES := Lib.hid (KRES.out.ext hal)); (try replace KR := Lib.hid (KR.out.ext hal)); (try replace KP := Lib.hid (KP.out.ext hal)); (try replace OTT := Lib.hid (OTT.out.ext hal)); replace HX := Lib.hid (HX.out.trans hal); (try replace OZ := Lib.hid (ownsRow_ext OZ.out hal)); have KR := Lib.hid hk; clear hk hal; obtain ⟨wc, hq⟩ : ∃ x, x = wn := ⟨_, rfl⟩; subst hq)
  refine hK.out _ _ ?_ (fun hH3 => ?_)
  · (try dsimp only)
    (try exact trivial)
  clear hK K hH2
  (try simp only [Act.put, List.setIfInBounds_toArray, List.set_cons_zero, List.set_cons_succ])
  refine wpAnyH_ready (rs := [2]) (by kernel_rfl) (by simp) ?_
  refine cons_l (i := 2) rfl (fun K hK => ?_) ?_
  (have HFC := Lib.hid (flatPts_cells (HF.out.ext (HE0.out.trans HX.out))); refine step_of_wp _ rfl (wp_append_any _ _ _ _ 37 rfl bZ _ 2 16 Try.underlying30 info_point rfl (by decide) (.slice (some ⟨bZ, 0, none⟩) 0 0) 0 [] rfl OZ.out a n c rfl (ps.flatMap ptCells) HC.out (by rw [ptFlat_len, HN.out]) HFC.out (ptFlat_one ps) (by unfold maxLen; omega) (by omega) (by have := zb0; omega) ?_); intro v' wn hown5 hg5' _; have hg5 : wc.grownBy wn (some bZ) := hg5'; clear hg5' HFC; have hP := (PtOwn.of_row (n := n) HN.out (by simpa using hown5)); obtain ⟨aT, cT, hvv, _⟩ := id hP; rw [← HN.out] at hvv; subst hvv; have OTT := Lib.hid hP; clear hown5 hP; have zz2 := hg5.size; have HXn := Lib.hid (ext_grown HX.out hg5 xwZ); clear HX; have HX := HXn; clear HXn; (try replace KRES := Lib.hid (row_grown KRES.out hg5 (fun e => by have := Option.some.inj e; omega))); (try replace KR := Lib.hid (row_grown KR.out hg5 (fun e => by have := Option.some.inj e; omega))); (try replace KP := Lib.hid (row_grown KP.out hg5 (fun e => by have := Option.some.inj e; omega))); clear hg5 OZ; obtain ⟨wc, hq⟩ : ∃ x, x = wn := ⟨_, rfl⟩; subst hq)
  refine hK.out _ _ ?_ (fun hH4 => ?_)
  · (try dsimp only)
    (try exact trivial)
  clear hK K hH3
  (try simp only [Act.put, List.setIfInBounds_toArray, List.set_cons_zero, List.set_cons_succ])
  refine wpAnyH_ready (rs := [5]) (by kernel_rfl) (by simp) ?_
  refine cons_l (i := 5) rfl (fun K hK => ?_) ?_
  (go_simp; (go_at_call 37; with_reducible refine (specValueAt_is v _ _ _ ps _ _ HN.out hsm (HF.out.ext (HE0.out.trans HX.out)) hx HV.out).mono ?_); rintro e wc ⟨rfl, hb⟩; have zz5 := hb.size; (try replace KRES := Lib.hid (KRES.out.ext hb)); (try replace KR := Lib.hid (KR.out.ext hb)); (try replace KP := Lib.hid (KP.out.ext hb)); (try replace OTT := Lib.hid (OTT.out.ext hb)); replace HX := Lib.hid (HX.out.trans hb); (try replace OZ := Lib.hid (ownsRow_ext OZ.out hb)); clear hb)
  refine hK.out _ _ ?_ (fun hH5 => ?_)
  · (try dsimp only)
    (try exact trivial)
  clear hK K hH4
  (try simp only [Act.put, List.setIfInBounds_toArray, List.set_cons_zero, List.set_cons_succ])
  refine take_l 8 (v := ?_) rfl (by kernel_rfl) (by kernel_rfl) (by kernel_rfl) (fun _ _ _ h => h) (by rfl) ?_ (by assumption) ?_
  rotate_left
  · (intro w hSw; (try dsimp only at hSw); go_simp; (try with_reducible rfl))
  (try simp only [Act.put, List.setIfInBounds_toArray, List.set_cons_zero, List.set_cons_succ])
  refine wpAnyH_ready (rs := [10]) (by kernel_rfl) (by simp) ?_
  refine cons_l (i := 10) rfl (fun K hK => ?_) ?_
  (have hs0 := KR.out.cell (j := 0) (v := .slice none 0 0) rfl; have hf0 := KR.out.frozen 0; have hs1 := KR.out.cell (j := 1) (v := .int .i64 0) rfl; have hf1 := KR.out.frozen 1; have hs2 := KR.out.cell (j := 2) (v := .slice none 0 0) rfl; have hf2 := KR.out.frozen 2; go_simp; clear hs0 hf0 hs1 hf1 hs2 hf2; obtain ⟨wn, hwn⟩ : ∃ x, x = putAt wc (bR) 0 [.slice aT n cT, .int .i64 v, .slice (some ⟨bP, 0, none⟩) d d] := ⟨_, rfl⟩; have en : (((wc.setCell ⟨bR, 0, none⟩ (.slice aT n cT)).setCell ⟨bR, 1, none⟩ (.int .i64 v)).setCell ⟨bR, 2, none⟩ (.slice (some ⟨bP, 0, none⟩) d d)) = wn := (by rw [hwn]; rfl); rw [en]; clear en; have zz10 : wc.heap.size ≤ wn.heap.size := (by rw [hwn, put_size]; exact Nat.le_refl _); (first | replace HX := Lib.hid (show Ext W wn by rw [hwn]; exact put_ext (by first | assumption | omega) _ _ _ HX.out) | skip); (try replace KRES := Lib.hid (show RowAt wn (w.heap.size) 33 _ by rw [hwn]; exact put_other (by omega) _ _ _ KRES.out)); (first | replace OTT := Lib.hid (show PtOwn wn _ _ _ _ by rw [hwn]; exact OTT.out.putT KR.out (by decide)) | skip); replace KR := Lib.hid (RowAt.cast (c' := #[.slice aT n cT, .int .i64 v, .slice (some ⟨bP, 0, none⟩) d d]) (show RowAt wn (bR) 33 (putArr #[.slice none 0 0, .int .i64 0, .slice none 0 0] 0 [.slice aT n cT, .int .i64 v, .slice (some ⟨bP, 0, none⟩) d d]) by rw [hwn]; exact put_at _ _ _ _ KR.out) (by simp [putArr])); (try replace KP := Lib.hid (show RowAt wn (bP) 3 _ by rw [hwn]; exact put_other (by omega) _ _ _ KP.out)); clear hwn; obtain ⟨wc, hq⟩ : ∃ x, x = wn := ⟨_, rfl⟩; subst hq)
  refine hK.out _ _ ?_ (fun hH6 => ?_)
  · (try dsimp only)
    (try exact trivial)
  clear hK K hH5
  (try simp only [Act.put, List.setIfInBounds_toArray, List.set_cons_zero, List.set_cons_succ])
  refine wpAnyH_done (by kernel_rfl) ?_ _
  rotate_left
  exact AllReadyH.nil
  exact AllReadyH.nil
  exact AllReadyH.nil
  exact AllReadyH.nil
  refine cons_l (i := 9) rfl (fun K hK => ?_) ?_
  (go_simp; obtain ⟨bR, hbR⟩ : ∃ x, x = wc.heap.size := ⟨_, rfl⟩; obtain ⟨wn, hwn⟩ : ∃ x, x = wc.alloc (.cells #[.slice none 0 0, .int .i64 0, .slice none 0 0] 33) := ⟨_, rfl⟩; have hal : Ext wc wn := (by rw [hwn]; exact (Ext.refl wc).alloc _); have hk := RowAt.new wc 33 #[.slice none 0 0, .int .i64 0, .slice none 0 0]; rw [← hwn, ← hbR] at hk; rw [← hwn]; (try rw [← hbR]); have zz9 := hal.size; have lbR := hk.lt; have mbR : wc.heap.size ≤ bR := Nat.le_of_eq hbR.symm; have nbR : bR ≤ wc.heap.size := Nat.le_of_eq hbR; have xwbR : W.heap.size ≤ bR := Nat.le_trans HX.out.size mbR; clear hbR hwn; (try replace KRES := Lib.hid (KRES.out.ext hal)); (try replace KR := Lib.hid (KR.out.ext hal)); (try replace KP := Lib.hid (KP.out.ext hal)); (try replace OTT := Lib.hid (OTT.out.ext hal)); replace HX := Lib.hid (HX.out.trans hal); (try replace OZ := Lib.hid (ownsRow_ext OZ.out hal)); have KR := Lib.hid hk; clear hk hal; obtain ⟨wc, hq⟩ : ∃ x, x = wn := ⟨_, rfl⟩; subst hq)
  refine hK.out _ _ ?_ (fun hH2 => ?_)
  · (try dsimp only)
    (try exact trivial)
  clear hK K hH1
  (try simp only [Act.put, List.setIfInBounds_toArray, List.set_cons_zero, List.set_cons_succ])
  refine wpAnyH_ready (rs := [2, 7]) (by kernel_rfl) (by simp) ?_
  refine cons_l (i := 2) rfl (fun K hK => ?_) ?_
  (have HFC := Lib.hid (flatPts_cells (HF.out.ext (HE0.out.trans HX.out))); refine step_of_wp _ rfl (wp_append_any _ _ _ _ 37 rfl bZ _ 2 16 Try.underlying30 info_point rfl (by decide) (.slice (some ⟨bZ, 0, none⟩) 0 0) 0 [] rfl OZ.out a n c rfl (ps.flatMap ptCells) HC.out (by rw [ptFlat_len, HN.out]) HFC.out (ptFlat_one ps) (by unfold maxLen; omega) (by omega) (by have := zb0; omega) ?_); intro v' wn hown5 hg5' _; have hg5 : wc.grownBy wn (some bZ) := hg5'; clear hg5' HFC; have hP := (PtOwn.of_row (n := n) HN.out (by simpa using hown5)); obtain ⟨aT, cT, hvv, _⟩ := id hP; rw [← HN.out] at hvv; subst hvv; have OTT := Lib.hid hP; clear hown5 hP; have zz2 := hg5.size; have HXn := Lib.hid (ext_grown HX.out hg5 xwZ); clear HX; have HX := HXn; clear HXn; (try replace KRES := Lib.hid (row_grown KRES.out hg5 (fun e => by have := Option.some.inj e; omega))); (try replace KR := Lib.hid (row_grown KR.out hg5 (fun e => by have := Option.some.inj e; omega))); (try replace KP := Lib.hid (row_grown KP.out hg5 (fun e => by have := Option.some.inj e; omega))); clear hg5 OZ; obtain ⟨wc, hq⟩ : ∃ x, x = wn := ⟨_, rfl⟩; subst hq)
  refine hK.out _ _ ?_ (fun hH3 => ?_)
  · (try dsimp only)
    (try exact trivial)
  clear hK K hH2
  (try simp only [Act.put, List.setIfInBounds_toArray, List.set_cons_zero, List.set_cons_succ])
  refine wpAnyH_ready (rs := [5, 7]) (by kernel_rfl) (by simp) ?_
  refine cons_l (i := 5) rfl (fun K hK => ?_) ?_
  (go_simp; (go_at_call 37; with_reducible refine (specValueAt_is v _ _ _ ps _ _ HN.out hsm (HF.out.ext (HE0.out.trans HX.out)) hx HV.out).mono ?_); rintro e wc ⟨rfl, hb⟩; have zz5 := hb.size; (try replace KRES := Lib.hid (KRES.out.ext hb)); (try replace KR := Lib.hid (KR.out.ext hb)); (try replace KP := Lib.hid (KP.out.ext hb)); (try replace OTT := Lib.hid (OTT.out.ext hb)); replace HX := Lib.hid (HX.out.trans hb); (try replace OZ := Lib.hid (ownsRow_ext OZ.out hb)); clear hb)
  refine hK.out _ _ ?_ (fun hH4 => ?_)
  · (try dsimp only)
    (try exact trivial)
  clear hK K hH3
  (try simp only [Act.put, List.setIfInBounds_toArray, List.set_cons_zero, List.set_cons_succ])
  refine wpAnyH_ready (rs := [7]) (by kernel_rfl) (by simp) ?_
  refine cons_l (i := 7) rfl (fun K hK => ?_) ?_
  (go_simp; obtain ⟨bP, hbP⟩ : ∃ x, x = wc.heap.size := ⟨_, rfl⟩; obtain ⟨wn, hwn⟩ : ∃ x, x = wc.alloc (.cells M 3) := ⟨_, rfl⟩; have hal : Ext wc wn := (by rw [hwn]; exact (Ext.refl wc).alloc _); have hk := RowAt.new wc 3 M; rw [← hwn, ← hbP] at hk; (try rw [← hwn]); (try rw [← hbP]); have zz7 := hal.size; have lbP := hk.lt; have mbP : wc.heap.size ≤ bP := Nat.le_of_eq hbP.symm; have nbP : bP ≤ wc.heap.size := Nat.le_of_eq hbP; have xwbP : W.heap.size ≤ bP := Nat.le_trans HX.out.size mbP; clear hbP hwn; (try replace KRES := Lib.hid (KRES.out.ext hal)); (try replace KR := Lib.hid (KR.out.ext hal)); (try replace KP := Lib.hid (KP.out.ext hal)); (try replace OTT := Lib.hid (OTT.out.ext hal)); replace HX := Lib.hid (HX.out.trans hal); (try replace OZ := Lib.hid (ownsRow_ext OZ.out hal)); have KP := Lib.hid hk; clear hk hal; obtain ⟨wc, hq⟩ : ∃ x, x = wn := ⟨_, rfl⟩; subst hq)
  refine hK.out _ _ ?_ (fun hH5 => ?_)
  · (try dsimp only)
    (try exact trivial)
  clear hK K hH4
  (try simp only [Act.put, List.setIfInBounds_toArray, List.set_cons_zero, List.set_cons_succ])
  refine take_l 8 (v := ?_) rfl (by kernel_rfl) (by kernel_rfl) (by kernel_rfl) (fun _ _ _ h => h) (by rfl) ?_ (by assumption) ?_
  rotate_left
  · (intro w hSw; (try dsimp only at hSw); go_simp; (try with_reducible rfl))
  (try simp only [Act.put, List.setIfInBounds_toArray, List.set_cons_zero, List.set_cons_succ])
  refine wpAnyH_ready (rs := [10]) (by kernel_rfl) (by simp) ?_
  refine cons_l (i := 10) rfl (fun K hK => ?_) ?_
  (have hs0 := KR.out.cell (j := 0) (v := .slice none 0 0) rfl; have hf0 := KR.out.frozen 0; have hs1 := KR.out.cell (j := 1) (v := .int .i64 0) rfl; have hf1 := KR.out.frozen 1; have hs2 := KR.out.cell (j := 2) (v := .slice none 0 0) rfl; have hf2 := KR.out.frozen 2; go_simp; clear hs0 hf0 hs1 hf1 hs2 hf2; obtain ⟨wn, hwn⟩ : ∃ x, x = putAt wc (bR) 0 [.slice aT n cT, .int .i64 v, .slice (some ⟨bP, 0, none⟩) d d] := ⟨_, rfl⟩; have en : (((wc.setCell ⟨bR, 0, none⟩ (.slice aT n cT)).setCell ⟨bR, 1, none⟩ (.int .i64 v)).setCell ⟨bR, 2, none⟩ (.slice (some ⟨bP, 0, none⟩) d d)) = wn := (by rw [hwn]; rfl); rw [en]; clear en; have zz10 : wc.heap.size ≤ wn.heap.size := (by rw [hwn, put_size]; exact Nat.le_refl _); (first | replace HX := Lib.hid (show Ext W wn by rw [hwn]; exact put_ext (by first | assumption | omega) _ _ _ HX.out) | skip); (try replace KRES := Lib.hid (show RowAt wn (w.heap.size) 33 _ by rw [hwn]; exact put_other (by omega) _ _ _ KRES.out)); (first | replace OTT := Lib.hid (show PtOwn wn _ _ _ _ by rw [hwn]; exact OTT.out.putT KR.out (by decide)) | skip); replace KR := Lib.hid (RowAt.cast (c' := #[.slice aT n cT, .int .i64 v, .slice (some ⟨bP, 0, none⟩) d d]) (show RowAt wn (bR) 33 (putArr #[.slice none 0 0, .int .i64 0, .slice none 0 0] 0 [.slice aT n cT, .int .i64 v, .slice (some ⟨bP, 0, none⟩) d d]) by rw [hwn]; exact put_at _ _ _ _ KR.out) (by simp [putArr])); (try replace KP := Lib.hid (show RowAt wn (bP) 3 _ by rw [hwn]; exact put_other (by omega) _ _ _ KP.out)); clear hwn; obtain ⟨wc, hq⟩ : ∃ x, x = wn := ⟨_, rfl⟩; subst hq)
  refine hK.out _ _ ?_ (fun hH6 => ?_)
  · (try dsimp only)
    (try exact trivial)
  clear hK K hH5
  (try simp only [Act.put, List.setIfInBounds_toArray, List.set_cons_zero, List.set_cons_succ])
  refine wpAnyH_done (by kernel_rfl) ?_ _
  rotate_left
  exact AllReadyH.nil
  exact AllReadyH.nil
  refine cons_l (i := 7) rfl (fun K hK => ?_) ?_
  (go_simp; obtain ⟨bP, hbP⟩ : ∃ x, x = wc.heap.size := ⟨_, rfl⟩; obtain ⟨wn, hwn⟩ : ∃ x, x = wc.alloc (.cells M 3) := ⟨_, rfl⟩; have hal : Ext wc wn := (by rw [hwn]; exact (Ext.refl wc).alloc _); have hk := RowAt.new wc 3 M; rw [← hwn, ← hbP] at hk; (try rw [← hwn]); (try rw [← hbP]); have zz7 := hal.size; have lbP := hk.lt; have mbP : wc.heap.size ≤ bP := Nat.le_of_eq hbP.symm; have nbP : bP ≤ wc.heap.size := Nat.le_of_eq hbP; have xwbP : W.heap.size ≤ bP := Nat.le_trans HX.out.size mbP; clear hbP hwn; (try replace KRES := Lib.hid (KRES.out.ext hal)); (try replace KR := Lib.hid (KR.out.ext hal)); (try replace KP := Lib.hid (KP.out.ext hal)); (try replace OTT := Lib.hid (OTT.out.ext hal)); replace HX := Lib.hid (HX.out.trans hal); (try replace OZ := Lib.hid (ownsRow_ext OZ.out hal)); have KP := Lib.hid hk; clear hk hal; obtain ⟨wc, hq⟩ : ∃ x, x = wn := ⟨_, rfl⟩; subst hq)
  refine hK.out _ _ ?_ (fun hH4 => ?_)
  · (try dsimp only)
    (try exact trivial)
  clear hK K hH3
  (try simp only [Act.put, List.setIfInBounds_toArray, List.set_cons_zero, List.set_cons_succ])
  refine wpAnyH_ready (rs := [5]) (by kernel_rfl) (by simp) ?_
  refine cons_l (i := 5) rfl (fun K hK => ?_) ?_
  (go_simp; (go_at_call 37; with_reducible refine (specValueAt_is v _ _ _ ps _ _ HN.out hsm (HF.out.ext (HE0.out.trans HX.out)) hx HV.out).mono ?_); rintro e wc ⟨rfl, hb⟩; have zz5 := hb.size; (try replace KRES := Lib.hid (KRES.out.ext hb)); (try replace KR := Lib.hid (KR.out.ext hb)); (try replace KP := Lib.hid (KP.out.ext hb)); (try replace OTT := Lib.hid (OTT.out.ext hb)); replace HX := Lib.hid (HX.out.trans hb); (try replace OZ := Lib.hid (ownsRow_ext OZ.out hb)); clear hb)
  refine hK.out _ _ ?_ (fun hH5 => ?_)
  · (try dsimp only)
    (try exact trivial)
  clear hK K hH4
  (try simp only [Act.put, List.setIfInBounds_toArray, List.set_cons_zero, List.set_cons_succ])
  refine take_l 8 (v := ?_) rfl (by kernel_rfl) (by kernel_rfl) (by kernel_rfl) (fun _ _ _ h => h) (by rfl) ?_ (by assumption) ?_
  rotate_left
  · (intro w hSw; (try dsimp only at hSw); go_simp; (try with_reducible rfl))
  (try simp only [Act.put, List.setIfInBounds_toArray, List.set_cons_zero, List.set_cons_succ])
  refine wpAnyH_ready (rs := [10]) (by kernel_rfl) (by simp) ?_
  refine cons_l (i := 10) rfl (fun K hK => ?_) ?_
  (have hs0 := KR.out.cell (j := 0) (v := .slice none 0 0) rfl; have hf0 := KR.out.frozen 0; have hs1 := KR.out.cell (j := 1) (v := .int .i64 0) rfl; have hf1 := KR.out.frozen 1; have hs2 := KR.out.cell (j := 2) (v := .slice none 0 0) rfl; have hf2 := KR.out.frozen 2; go_simp; clear hs0 hf0 hs1 hf1 hs2 hf2; obtain ⟨wn, hwn⟩ : ∃ x, x = putAt wc (bR) 0 [.slice aT n cT, .int .i64 v, .slice (some ⟨bP, 0, none⟩) d d] := ⟨_, rfl⟩; have en : (((wc.setCell ⟨bR, 0, none⟩ (.slice aT n cT)).setCell ⟨bR, 1, none⟩ (.int .i64 v)).setCell ⟨bR, 2, none⟩ (.slice (some ⟨bP, 0, none⟩) d d)) = wn := (by rw [hwn]; rfl); rw [en]; clear en; have zz10 : wc.heap.size ≤ wn.heap.size := (by rw [hwn, put_size]; exact Nat.le_refl _); (first | replace HX := Lib.hid (show Ext W wn by rw [hwn]; exact put_ext (by first | assumption | omega) _ _ _ HX.out) | skip); (try replace KRES := Lib.hid (show RowAt wn (w.heap.size) 33 _ by rw [hwn]; exact put_other (by omega) _ _ _ KRES.out)); (first | replace OTT := Lib.hid (show PtOwn wn _ _ _ _ by rw [hwn]; exact OTT.out.putT KR.out (by decide)) | skip); replace KR := Lib.hid (RowAt.cast (c' := #[.slice aT n cT, .int .i64 v, .slice (some ⟨bP, 0, none⟩) d d]) (show RowAt wn (bR) 33 (putArr #[.slice none 0 0, .int .i64 0, .slice none 0 0] 0 [.slice aT n cT, .int .i64 v, .slice (some ⟨bP, 0, none⟩) d d]) by rw [hwn]; exact put_at _ _ _ _ KR.out) (by simp [putArr])); (try replace KP := Lib.hid (show RowAt wn (bP) 3 _ by rw [hwn]; exact put_other (by omega) _ _ _ KP.out)); clear hwn; obtain ⟨wc, hq⟩ : ∃ x, x = wn := ⟨_, rfl⟩; subst hq)
  refine hK.out _ _ ?_ (fun hH6 => ?_)
  · (try dsimp only)
    (try exact trivial)
  clear hK K hH5
  (try simp only [Act.put, List.setIfInBounds_toArray, List.set_cons_zero, List.set_cons_succ])
  refine wpAnyH_done (by kernel_rfl) ?_ _
  rotate_left
  exact AllReadyH.nil
  exact AllReadyH.nil
  exact AllReadyH.nil
  refine cons_l (i := 7) rfl (fun K hK => ?_) ?_
  (go_simp; obtain ⟨bP, hbP⟩ : ∃ x, x = wc.heap.size := ⟨_, rfl⟩; obtain ⟨wn, hwn⟩ : ∃ x, x = wc.alloc (.cells M 3) := ⟨_, rfl⟩; have hal : Ext wc wn := (by rw [hwn]; exact (Ext.refl wc).alloc _); have hk := RowAt.new wc 3 M; rw [← hwn, ← hbP] at hk; (try rw [← hwn]); (try rw [← hbP]); have zz7 := hal.size; have lbP := hk.lt; have mbP : wc.heap.size ≤ bP := Nat.le_of_eq hbP.symm; have nbP : bP ≤ wc.heap.size := Nat.le_of_eq hbP; have xwbP : W.heap.size ≤ bP := Nat.le_trans HX.out.size mbP; clear hbP hwn; (try replace KRES := Lib.hid (KRES.out.ext hal)); (try replace KR := Lib.hid (KR.out.ext hal)); (try replace KP := Lib.hid (KP.out.ext hal)); (try replace OTT := Lib.hid (OTT.out.ext hal)); replace HX := Lib.hid (HX.out.trans hal); (try replace OZ := Lib.hid (ownsRow_ext OZ.out hal)); have KP := Lib.hid hk; clear hk hal; obtain ⟨wc, hq⟩ : ∃ x, x = wn := ⟨_, rfl⟩; subst hq)
  refine hK.out _ _ ?_ (fun hH3 => ?_)
  · (try dsimp only)
    (try exact trivial)
  clear hK K hH2
  (try simp only [Act.put, List.setIfInBounds_toArray, List.set_cons_zero, List.set_cons_succ])
  refine wpAnyH_ready (rs := [2]) (by kernel_rfl) (by simp) ?_
  refine cons_l (i := 2) rfl (fun K hK => ?_) ?_
  (have HFC := Lib.hid (flatPts_cells (HF.out.ext (HE0.out.trans HX.out))); refine step_of_wp _ rfl (wp_append_any _ _ _ _ 37 rfl bZ _ 2 16 Try.underlying30 info_point rfl (by decide) (.slice (some ⟨bZ, 0, none⟩) 0 0) 0 [] rfl OZ.out a n c rfl (ps.flatMap ptCells) HC.out (by rw [ptFlat_len, HN.out]) HFC.out (ptFlat_one ps) (by unfold maxLen; omega) (by omega) (by have := zb0; omega) ?_); intro v' wn hown5 hg5' _; have hg5 : wc.grownBy wn (some bZ) := hg5'; clear hg5' HFC; have hP := (PtOwn.of_row (n := n) HN.out (by simpa using hown5)); obtain ⟨aT, cT, hvv, _⟩ := id hP; rw [← HN.out] at hvv; subst hvv; have OTT := Lib.hid hP; clear hown5 hP; have zz2 := hg5.size; have HXn := Lib.hid (ext_grown HX.out hg5 xwZ); clear HX; have HX := HXn; clear HXn; (try replace KRES := Lib.hid (row_grown KRES.out hg5 (fun e => by have := Option.some.inj e; omega))); (try replace KR := Lib.hid (row_grown KR.out hg5 (fun e => by have := Option.some.inj e; omega))); (try replace KP := Lib.hid (row_grown KP.out hg5 (fun e => by have := Option.some.inj e; omega))); clear hg5 OZ; obtain ⟨wc, hq⟩ : ∃ x, x = wn := ⟨_, rfl⟩; subst hq)
  refine hK.out _ _ ?_ (fun hH4 => ?_)
  · (try dsimp only)
    (try exact trivial)
  clear hK K hH3
  (try simp only [Act.put, List.setIfInBounds_toArray, List.set_cons_zero, List.set_cons_succ])
  refine wpAnyH_ready (rs := [5]) (by kernel_rfl) (by simp) ?_
  refine cons_l (i := 5) rfl (fun K hK => ?_) ?_
  (go_simp; (go_at_call 37; with_reducible refine (specValueAt_is v _ _ _ ps _ _ HN.out hsm (HF.out.ext (HE0.out.trans HX.out)) hx HV.out).mono ?_); rintro e wc ⟨rfl, hb⟩; have zz5 := hb.size; (try replace KRES := Lib.hid (KRES.out.ext hb)); (try replace KR := Lib.hid (KR.out.ext hb)); (try replace KP := Lib.hid (KP.out.ext hb)); (try replace OTT := Lib.hid (OTT.out.ext hb)); replace HX := Lib.hid (HX.out.trans hb); (try replace OZ := Lib.hid (ownsRow_ext OZ.out hb)); clear hb)
  refine hK.out _ _ ?_ (fun hH5 => ?_)
  · (try dsimp only)
    (try exact trivial)
  clear hK K hH4
  (try simp only [Act.put, List.setIfInBounds_toArray, List.set_cons_zero, List.set_cons_succ])
  refine take_l 8 (v := ?_) rfl (by kernel_rfl) (by kernel_rfl) (by kernel_rfl) (fun _ _ _ h => h) (by rfl) ?_ (by assumption) ?_
  rotate_left
  · (intro w hSw; (try dsimp only at hSw); go_simp; (try with_reducible rfl))
  (try simp only [Act.put, List.setIfInBounds_toArray, List.set_cons_zero, List.set_cons_succ])
  refine wpAnyH_ready (rs := [10]) (by kernel_rfl) (by simp) ?_
  refine cons_l (i := 10) rfl (fun K hK => ?_) ?_
  (have hs0 := KR.out.cell (j := 0) (v := .slice none 0 0) rfl; have hf0 := KR.out.frozen 0; have hs1 := KR.out.cell (j := 1) (v := .int .i64 0) rfl; have hf1 := KR.out.frozen 1; have hs2 := KR.out.cell (j := 2) (v := .slice none 0 0) rfl; have hf2 := KR.out.frozen 2; go_simp; clear hs0 hf0 hs1 hf1 hs2 hf2; obtain ⟨wn, hwn⟩ : ∃ x, x = putAt wc (bR) 0 [.slice aT n cT, .int .i64 v, .slice (some ⟨bP, 0, none⟩) d d] := ⟨_, rfl⟩; have en : (((wc.setCell ⟨bR, 0, none⟩ (.slice aT n cT)).setCell ⟨bR, 1, none⟩ (.int .i64 v)).setCell ⟨bR, 2, none⟩ (.slice (some ⟨bP, 0, none⟩) d d)) = wn := (by rw [hwn]; rfl); rw [en]; clear en; have zz10 : wc.heap.size ≤ wn.heap.size := (by rw [hwn, put_size]; exact Nat.le_refl _); (first | replace HX := Lib.hid (show Ext W wn by rw [hwn]; exact put_ext (by first | assumption | omega) _ _ _ HX.out) | skip); (try replace KRES := Lib.hid (show RowAt wn (w.heap.size) 33 _ by rw [hwn]; exact put_other (by omega) _ _ _ KRES.out)); (first | replace OTT := Lib.hid (show PtOwn wn _ _ _ _ by rw [hwn]; exact OTT.out.putT KR.out (by decide)) | skip); replace KR := Lib.hid (RowAt.cast (c' := #[.slice aT n cT, .int .i64 v, .slice (some ⟨bP, 0, none⟩) d d]) (show RowAt wn (bR) 33 (putArr #[.slice none 0 0, .int .i64 0, .slice none 0 0] 0 [.slice aT n cT, .int .i64 v, .slice (some ⟨bP, 0, none⟩) d d]) by rw [hwn]; exact put_at _ _ _ _ KR.out) (by simp [putArr])); (try replace KP := Lib.hid (show RowAt wn (bP) 3 _ by rw [hwn]; exact put_other (by omega) _ _ _ KP.out)); clear hwn; obtain ⟨wc, hq⟩ : ∃ x, x = wn := ⟨_, rfl⟩; subst hq)
  refine hK.out _ _ ?_ (fun hH6 => ?_)
  · (try dsimp only)
    (try exact trivial)
  clear hK K hH5
  (try simp only [Act.put, List.setIfInBounds_toArray, List.set_cons_zero, List.set_cons_succ])
  refine wpAnyH_done (by kernel_rfl) ?_ _
  rotate_left
  exact AllReadyH.nil
  exact AllReadyH.nil
  exact AllReadyH.nil
  exact AllReadyH.nil
  exact AllReadyH.nil
  refine cons_l (i := 7) rfl (fun K hK => ?_) ?_
  (go_simp; obtain ⟨bP, hbP⟩ : ∃ x, x = wc.heap.size := ⟨_, rfl⟩; obtain ⟨wn, hwn⟩ : ∃ x, x = wc.alloc (.cells M 3) := ⟨_, rfl⟩; have hal : Ext wc wn := (by rw [hwn]; exact (Ext.refl wc).alloc _); have hk := RowAt.new wc 3 M; rw [← hwn, ← hbP] at hk; (try rw [← hwn]); (try rw [← hbP]); have zz7 := hal.size; have lbP := hk.lt; have mbP : wc.heap.size ≤ bP := Nat.le_of_eq hbP.symm; have nbP : bP ≤ wc.heap.size := Nat.le_of_eq hbP; have xwbP : W.heap.size ≤ bP := Nat.le_trans HX.out.size mbP; clear hbP hwn; (try replace KRES := Lib.hid (KRES.out.ext hal)); (try replace KR := Lib.hid (KR.out.ext hal)); (try replace KP := Lib.hid (KP.out.ext hal)); (try replace OTT := Lib.hid (OTT.out.ext hal)); replace HX := Lib.hid (HX.out.trans hal); (try replace OZ := Lib.hid (ownsRow_ext OZ.out hal)); have KP := Lib.hid hk; clear hk hal; obtain ⟨wc, hq⟩ : ∃ x, x = wn := ⟨_, rfl⟩; subst hq)
  refine hK.out _ _ ?_ (fun hH1 => ?_)
  · (try dsimp only)
    (try exact trivial)
  clear hK K hH0
  (try simp only [Act.put, List.setIfInBounds_toArray, List.set_cons_zero, List.set_cons_succ])
  refine wpAnyH_ready (rs := [0, 9]) (by kernel_rfl) (by simp) ?_
  refine cons_l (i := 0) rfl (fun K hK => ?_) ?_
  (go_simp; obtain ⟨bZ, hbZ⟩ : ∃ x, x = wc.heap.size := ⟨_, rfl⟩; have hzl := World.ownsRow_lit (base := bZ) (e := 37) (size := 2) wc #[] 0 (Nat.le_of_eq hbZ) (by unfold maxLen; omega) rfl; obtain ⟨wn, hwn⟩ : ∃ x, x = wc.alloc (.cells #[] 37) := ⟨_, rfl⟩; have hal : Ext wc wn := (by rw [hwn]; exact (Ext.refl wc).alloc _); rw [← hwn, ← hbZ] at hzl; (try rw [← hwn]); (try rw [← hbZ]); have zz0 := hal.size; have zb0 : bZ < wn.heap.size := (by rw [hwn, World.size_alloc]; omega); have mbZ : wc.heap.size ≤ bZ := Nat.le_of_eq hbZ.symm; have xwZ : W.heap.size ≤ bZ := Nat.le_trans HX.out.size mbZ; clear hbZ hwn; (try replace KRES := Lib.hid (KRES.out.ext hal)); (try replace KR := Lib.hid (KR.out.ext hal)); (try replace KP := Lib.hid (KP.out.ext hal)); (try replace OTT := Lib.hid (OTT.out.ext hal)); replace HX := Lib.hid (HX.out.trans hal); have OZ := Lib.hid (show wn.ownsRow bZ 37 2 (.slice (some ⟨bZ, 0, none⟩) 0 0) 0 [] by simpa using hzl); clear hzl hal; obtain ⟨wc, hq⟩ : ∃ x, x = wn := ⟨_, rfl⟩; subst hq)
  refine hK.out _ _ ?_ (fun hH2 => ?_)
  · (try dsimp only)
    (try exact trivial)
  clear hK K hH1
  (try simp only [Act.put, List.setIfInBounds_toArray, List.set_cons_zero, List.set_cons_succ])
  refine wpAnyH_ready (rs := [2, 9]) (by kernel_rfl) (by simp) ?_
  refine cons_l (i := 2) rfl (fun K hK => ?_) ?_
  (have HFC := Lib.hid (flatPts_cells (HF.out.ext (HE0.out.trans HX.out))); refine step_of_wp _ rfl (wp_append_any _ _ _ _ 37 rfl bZ _ 2 16 Try.underlying30 info_point rfl (by decide) (.slice (some ⟨bZ, 0, none⟩) 0 0) 0 [] rfl OZ.out a n c rfl (ps.flatMap ptCells) HC.out (by rw [ptFlat_len, HN.out]) HFC.out (ptFlat_one ps) (by unfold maxLen; omega) (by omega) (by have := zb0; omega) ?_); intro v' wn hown5 hg5' _; have hg5 : wc.grownBy wn (some bZ) := hg5'; clear hg5' HFC; have hP := (PtOwn.of_row (n := n) HN.out (by simpa using hown5)); obtain ⟨aT, cT, hvv, _⟩ := id hP; rw [← HN.out] at hvv; subst hvv; have OTT := Lib.hid hP; clear hown5 hP; have zz2 := hg5.size; have HXn := Lib.hid (ext_grown HX.out hg5 xwZ); clear HX; have HX := HXn; clear HXn; (try replace KRES := Lib.hid (row_grown KRES.out hg5 (fun e => by have := Option.some.inj e; omega))); (try replace KR := Lib.hid (row_grown KR.out hg5 (fun e => by have := Option.some.inj e; omega))); (try replace KP := Lib.hid (row_grown KP.out hg5 (fun e => by have := Option.some.inj e; omega))); clear hg5 OZ; obtain ⟨wc, hq⟩ : ∃ x, x = wn := ⟨_, rfl⟩; subst hq)
  refine hK.out _ _ ?_ (fun hH3 => ?_)
  · (try dsimp only)
    (try exact trivial)
  clear hK K hH2
  (try simp only [Act.put, List.setIfInBounds_toArray, List.set_cons_zero, List.set_cons_succ])
  refine wpAnyH_ready (rs := [5, 9]) (by kernel_rfl) (by simp) ?_
  refine cons_l (i := 5) rfl (fun K hK => ?_) ?_
  (go_simp; (go_at_call 37; with_reducible refine (specValueAt_is v _ _ _ ps _ _ HN.out hsm (HF.out.ext (HE0.out.trans HX.out)) hx HV.out).mono ?_); rintro e wc ⟨rfl, hb⟩; have zz5 := hb.size; (try replace KRES := Lib.hid (KRES.out.ext hb)); (try replace KR := Lib.hid (KR.out.ext hb)); (try replace KP := Lib.hid (KP.out.ext hb)); (try replace OTT := Lib.hid (OTT.out.ext hb)); replace HX := Lib.hid (HX.out.trans hb); (try replace OZ := Lib.hid (ownsRow_ext OZ.out hb)); clear hb)
  refine hK.out _ _ ?_ (fun hH4 => ?_)
  · (try dsimp only)
    (try exact trivial)
  clear hK K hH3
  (try simp only [Act.put, List.setIfInBounds_toArray, List.set_cons_zero, List.set_cons_succ])
  refine take_l 8 (v := ?_) rfl (by kernel_rfl) (by kernel_rfl) (by kernel_rfl) (fun _ _ _ h => h) (by rfl) ?_ (by assumption) ?_
  rotate_left
  · (intro w hSw; (try dsimp only at hSw); go_simp; (try with_reducible rfl))
  (try simp only [Act.put, List.setIfInBounds_toArray, List.set_cons_zero, List.set_cons_succ])
  refine wpAnyH_ready (rs := [9]) (by kernel_rfl) (by simp) ?_
  refine cons_l (i := 9) rfl (fun K hK => ?_) ?_
  (go_simp; obtain ⟨bR, hbR⟩ : ∃ x, x = wc.heap.size := ⟨_, rfl⟩; obtain ⟨wn, hwn⟩ : ∃ x, x = wc.alloc (.cells #[.slice none 0 0, .int .i64 0, .slice none 0 0] 33) := ⟨_, rfl⟩; have hal : Ext wc wn := (by rw [hwn]; exact (Ext.refl wc).alloc _); have hk := RowAt.new wc 33 #[.slice none 0 0, .int .i64 0, .slice none 0 0]; rw [← hwn, ← hbR] at hk; rw [← hwn]; (try rw [← hbR]); have zz9 := hal.size; have lbR := hk.lt; have mbR : wc.heap.size ≤ bR := Nat.le_of_eq hbR.symm; have nbR : bR ≤ wc.heap.size := Nat.le_of_eq hbR; have xwbR : W.heap.size ≤ bR := Nat.le_trans HX.out.size mbR; clear hbR hwn; (try replace KRES := Lib.hid (KRES.out.ext hal)); (try replace KR := Lib.hid (KR.out.ext hal)); (try replace KP := Lib.hid (KP.out.ext hal)); (try replace OTT := Lib.hid (OTT.out.ext hal)); replace HX := Lib.hid (HX.out.trans hal); (try replace OZ := Lib.hid (ownsRow_ext OZ.out hal)); have KR := Lib.hid hk; clear hk hal; obtain ⟨wc, hq⟩ : ∃ x, x = wn := ⟨_, rfl⟩; subst hq)
  refine hK.out _ _ ?_ (fun hH5 => ?_)
  · (try dsimp only)
    (try exact trivial)
  clear hK K hH4
  (try simp only [Act.put, List.setIfInBounds_toArray, List.set_cons_zero, List.set_cons_succ])
  refine wpAnyH_ready (rs := [10]) (by kernel_rfl) (by simp) ?_
  refine cons_l (i := 10) rfl (fun K hK => ?_) ?_
  (have hs0 := KR.out.cell (j := 0) (v := .slice none 0 0) rfl; have hf0 := KR.out.frozen 0; have hs1 := KR.out.cell (j := 1) (v := .int .i64 0) rfl; have hf1 := KR.out.frozen 1; have hs2 := KR.out.cell (j := 2) (v := .slice none 0 0) rfl; have hf2 := KR.out.frozen 2; go_simp; clear hs0 hf0 hs1 hf1 hs2 hf2; obtain ⟨wn, hwn⟩ : ∃ x, x = putAt wc (bR) 0 [.slice aT n cT, .int .i64 v, .slice (some ⟨bP, 0, none⟩) d d] := ⟨_, rfl⟩; have en : (((wc.setCell ⟨bR, 0, none⟩ (.slice aT n cT)).setCell ⟨bR, 1, none⟩ (.int .i64 v)).setCell ⟨bR, 2, none⟩ (.slice (some ⟨bP, 0, none⟩) d d)) = wn := (by rw [hwn]; rfl); rw [en]; clear en; have zz10 : wc.heap.size ≤ wn.heap.size := (by rw [hwn, put_size]; exact Nat.le_refl _); (first | replace HX := Lib.hid (show Ext W wn by rw [hwn]; exact put_ext (by first | assumption | omega) _ _ _ HX.out) | skip); (try replace KRES := Lib.hid (show RowAt wn (w.heap.size) 33 _ by rw [hwn]; exact put_other (by omega) _ _ _ KRES.out)); (first | replace OTT := Lib.hid (show PtOwn wn _ _ _ _ by rw [hwn]; exact OTT.out.putT KR.out (by decide)) | skip); replace KR := Lib.hid (RowAt.cast (c' := #[.slice aT n cT, .int .i64 v, .slice (some ⟨bP, 0, none⟩) d d]) (show RowAt wn (bR) 33 (putArr #[.slice none 0 0, .int .i64 0, .slice none 0 0] 0 [.slice aT n cT, .int .i64 v, .slice (some ⟨bP, 0, none⟩) d d]) by rw [hwn]; exact put_at _ _ _ _ KR.out) (by simp [putArr])); (try replace KP := Lib.hid (show RowAt wn (bP) 3 _ by rw [hwn]; exact put_other (by omega) _ _ _ KP.out)); clear hwn; obtain ⟨wc, hq⟩ : ∃ x, x = wn := ⟨_, rfl⟩; subst hq)
  refine hK.out _ _ ?_ (fun hH6 => ?_)
  · (try dsimp only)
    (try exact trivial)
  clear hK K hH5
  (try simp only [Act.put, List.setIfInBounds_toArray, List.set_cons_zero, List.set_cons_succ])
  refine wpAnyH_done (by kernel_rfl) ?_ _
  rotate_left
  exact AllReadyH.nil
  exact AllReadyH.nil
  refine cons_l (i := 9) rfl (fun K hK => ?_) ?_
  (go_simp; obtain ⟨bR, hbR⟩ : ∃ x, x = wc.heap.size := ⟨_, rfl⟩; obtain ⟨wn, hwn⟩ : ∃ x, x = wc.alloc (.cells #[.slice none 0 0, .int .i64 0, .slice none 0 0] 33) := ⟨_, rfl⟩; have hal : Ext wc wn := (by rw [hwn]; exact (Ext.refl wc).alloc _); have hk := RowAt.new wc 33 #[.slice none 0 0, .int .i64 0, .slice none 0 0]; rw [← hwn, ← hbR] at hk; rw [← hwn]; (try rw [← hbR]); have zz9 := hal.size; have lbR := hk.lt; have mbR : wc.heap.size ≤ bR := Nat.le_of_eq hbR.symm; have nbR : bR ≤ wc.heap.size := Nat.le_of_eq hbR; have xwbR : W.heap.size ≤ bR := Nat.le_trans HX.out.size mbR; clear hbR hwn; (try replace KRES := Lib.hid (KRES.out.ext hal)); (try replace KR := Lib.hid (KR.out.ext hal)); (try replace KP := Lib.hid (KP.out.ext hal)); (try replace OTT := Lib.hid (OTT.out.ext hal)); replace HX := Lib.hid (HX.out.trans hal); (try replace OZ := Lib.hid (ownsRow_ext OZ.out hal)); have KR := Lib.hid hk; clear hk hal; obtain ⟨wc, hq⟩ : ∃ x, x = wn := ⟨_, rfl⟩; subst hq)
  refine hK.out _ _ ?_ (fun hH4 => ?_)
  · (try dsimp only)
    (try exact trivial)
  clear hK K hH3
  (try simp only [Act.put, List.setIfInBounds_toArray, List.set_cons_zero, List.set_cons_succ])
  refine wpAnyH_ready (rs := [5]) (by kernel_rfl) (by simp) ?_
  refine cons_l (i := 5) rfl (fun K hK => ?_) ?_
  (go_simp; (go_at_call 37; with_reducible refine (specValueAt_is v _ _ _ ps _ _ HN.out hsm (HF.out.ext (HE0.out.trans HX.out)) hx HV.out).mono ?_); rintro e wc ⟨rfl, hb⟩; have zz5 := hb.size; (try replace KRES := Lib.hid (KRES.out.ext hb)); (try replace KR := Lib.hid (KR.out.ext hb)); (try replace KP := Lib.hid (KP.out.ext hb)); (try replace OTT := Lib.hid (OTT.out.ext hb)); replace HX := Lib.hid (HX.out.trans hb); (try replace OZ := Lib.hid (ownsRow_ext OZ.out hb)); clear hb)
  refine hK.out _ _ ?_ (fun hH5 => ?_)
  · (try dsimp only)
    (try exact trivial)
  clear hK K hH4
  (try simp only [Act.put, List.setIfInBounds_toArray, List.set_cons_zero, List.set_cons_succ])
  refine take_l 8 (v := ?_) rfl (by kernel_rfl) (by kernel_rfl) (by kernel_rfl) (fun _ _ _ h => h) (by rfl) ?_ (by assumption) ?_
  rotate_left
  · (intro w hSw; (try dsimp only at hSw); go_simp; (try with_reducible rfl))
  (try simp only [Act.put, List.setIfInBounds_toArray, List.set_cons_zero, List.set_cons_succ])
  refine wpAnyH_ready (rs := [10]) (by kernel_rfl) (by simp) ?_
  refine cons_l (i := 10) rfl (fun K hK => ?_) ?_
  (have hs0 := KR.out.cell (j := 0) (v := .slice none 0 0) rfl; have hf0 := KR.out.frozen 0; have hs1 := KR.out.cell (j := 1) (v := .int .i64 0) rfl; have hf1 := KR.out.frozen 1; have hs2 := KR.out.cell (j := 2) (v := .slice none 0 0) rfl; have hf2 := KR.out.frozen 2; go_simp; clear hs0 hf0 hs1 hf1 hs2 hf2; obtain ⟨wn, hwn⟩ : ∃ x, x = putAt wc (bR) 0 [.slice aT n cT, .int .i64 v, .slice (some ⟨bP, 0, none⟩) d d] := ⟨_, rfl⟩; have en : (((wc.setCell ⟨bR, 0, none⟩ (.slice aT n cT)).setCell ⟨bR, 1, none⟩ (.int .i64 v)).setCell ⟨bR, 2, none⟩ (.slice (some ⟨bP, 0, none⟩) d d)) = wn := (by rw [hwn]; rfl); rw [en]; clear en; have zz10 : wc.heap.size ≤ wn.heap.size := (by rw [hwn, put_size]; exact Nat.le_refl _); (first | replace HX := Lib.hid (show Ext W wn by rw [hwn]; exact put_ext (by first | assumption | omega) _ _ _ HX.out) | skip); (try replace KRES := Lib.hid (show RowAt wn (w.heap.size) 33 _ by rw [hwn]; exact put_other (by omega) _ _ _ KRES.out)); (first | replace OTT := Lib.hid (show PtOwn wn _ _ _ _ by rw [hwn]; exact OTT.out.putT KR.out (by decide)) | skip); replace KR := Lib.hid (RowAt.cast (c' := #[.slice aT n cT, .int .i64 v, .slice (some ⟨bP, 0, none⟩) d d]) (show RowAt wn (bR) 33 (putArr #[.slice none 0 0, .int .i64 0, .slice none 0 0] 0 [.slice aT n cT, .int .i64 v, .slice (some ⟨bP, 0, none⟩) d d]) by rw [hwn]; exact put_at _ _ _ _ KR.out) (by simp [putArr])); (try replace KP := Lib.hid (show RowAt wn (bP) 3 _ by rw [hwn]; exact put_other (by omega) _ _ _ KP.out)); clear hwn; obtain ⟨wc, hq⟩ : ∃ x, x = wn := ⟨_, rfl⟩; subst hq)
  refine hK.out _ _ ?_ (fun hH6 => ?_)
  · (try dsimp only)
    (try exact trivial)
  clear hK K hH5
  (try simp only [Act.put, List.setIfInBounds_toArray, List.set_cons_zero, List.set_cons_succ])
  refine wpAnyH_done (by kernel_rfl) ?_ _
  rotate_left
  exact AllReadyH.nil
  exact AllReadyH.nil
  exact AllReadyH.nil
  refine cons_l (i := 9) rfl (fun K hK => ?_) ?_
  (go_simp; obtain ⟨bR, hbR⟩ : ∃ x, x = wc.heap.size := ⟨_, rfl⟩; obtain ⟨wn, hwn⟩ : ∃ x, x = wc.alloc (.cells #[.slice none 0 0, .int .i64 0, .slice none 0 0] 33) := ⟨_, rfl⟩; have hal : Ext wc wn := (by rw [hwn]; exact (Ext.refl wc).alloc _); have hk := RowAt.new wc 33 #[.slice none 0 0, .int .i64 0, .slice none 0 0]; rw [← hwn, ← hbR] at hk; rw [← hwn]; (try rw [← hbR]); have zz9 := hal.size; have lbR := hk.lt; have mbR : wc.heap.size ≤ bR := Nat.le_of_eq hbR.symm; have nbR : bR ≤ wc.heap.size := Nat.le_of_eq hbR; have xwbR : W.heap.size ≤ bR := Nat.le_trans HX.out.size mbR; clear hbR hwn; (try replace KRES := Lib.hid (KRES.out.ext hal)); (try replace KR := Lib.hid (KR.out.ext hal)); (try replace KP := Lib.hid (KP.out.ext hal)); (try replace OTT := Lib.hid (OTT.out.ext hal)); replace HX := Lib.hid (HX.out.trans hal); (try replace OZ := Lib.hid (ownsRow_ext OZ.out hal)); have KR := Lib.hid hk; clear hk hal; obtain ⟨wc, hq⟩ : ∃ x, x = wn := ⟨_, rfl⟩; subst hq)
  refine hK.out _ _ ?_ (fun hH3 => ?_)
  · (try dsimp only)
    (try exact trivial)
  clear hK K hH2
  (try simp only [Act.put, List.setIfInBounds_toArray, List.set_cons_zero, List.set_cons_succ])
  refine wpAnyH_ready (rs := [2]) (by kernel_rfl) (by simp) ?_
  refine cons_l (i := 2) rfl (fun K hK => ?_) ?_
  (have HFC := Lib.hid (flatPts_cells (HF.out.ext (HE0.out.trans HX.out))); refine step_of_wp _ rfl (wp_append_any _ _ _ _ 37 rfl bZ _ 2 16 Try.underlying30 info_point rfl (by decide) (.slice (some ⟨bZ, 0, none⟩) 0 0) 0 [] rfl OZ.out a n c rfl (ps.flatMap ptCells) HC.out (by rw [ptFlat_len, HN.out]) HFC.out (ptFlat_one ps) (by unfold maxLen; omega) (by omega) (by have := zb0; omega) ?_); intro v' wn hown5 hg5' _; have hg5 : wc.grownBy wn (some bZ) := hg5'; clear hg5' HFC; have hP := (PtOwn.of_row (n := n) HN.out (by simpa using hown5)); obtain ⟨aT, cT, hvv, _⟩ := id hP; rw [← HN.out] at hvv; subst hvv; have OTT := Lib.hid hP; clear hown5 hP; have zz2 := hg5.size; have HXn := Lib.hid (ext_grown HX.out hg5 xwZ); clear HX; have HX := HXn; clear HXn; (try replace KRES := Lib.hid (row_grown KRES.out hg5 (fun e => by have := Option.some.inj e; omega))); (try replace KR := Lib.hid (row_grown KR.out hg5 (fun e => by have := Option.some.inj e; omega))); (try replace KP := Lib.hid (row_grown KP.out hg5 (fun e => by have := Option.some.inj e; omega))); clear hg5 OZ; obtain ⟨wc, hq⟩ : ∃ x, x = wn := ⟨_, rfl⟩; subst hq)
  refine hK.out _ _ ?_ (fun hH4 => ?_)
  · (try dsimp only)
    (try exact trivial)
  clear hK K hH3
  (try simp only [Act.put, List.setIfInBounds_toArray, List.set_cons_zero, List.set_cons_succ])
  refine wpAnyH_ready (rs := [5]) (by kernel_rfl) (by simp) ?_
  refine cons_l (i := 5) rfl (fun K hK => ?_) ?_
  (go_simp; (go_at_call 37; with_reducible refine (specValueAt_is v _ _ _ ps _ _ HN.out hsm (HF.out.ext (HE0.out.trans HX.out)) hx HV.out).mono ?_); rintro e wc ⟨rfl, hb⟩; have zz5 := hb.size; (try replace KRES := Lib.hid (KRES.out.ext hb)); (try replace KR := Lib.hid (KR.out.ext hb)); (try replace KP := Lib.hid (KP.out.ext hb)); (try replace OTT := Lib.hid (OTT.out.ext hb)); replace HX := Lib.hid (HX.out.trans hb); (try replace OZ := Lib.hid (ownsRow_ext OZ.out hb)); clear hb)
  refine hK.out _ _ ?_ (fun hH5 => ?_)
  · (try dsimp only)
    (try exact trivial)
  clear hK K hH4
  (try simp only [Act.put, List.setIfInBounds_toArray, List.set_cons_zero, List.set_cons_succ])
  refine take_l 8 (v := ?_) rfl (by kernel_rfl) (by kernel_rfl) (by kernel_rfl) (fun _ _ _ h => h) (by rfl) ?_ (by assumption) ?_
  rotate_left
  · (intro w hSw; (try dsimp only at hSw); go_simp; (try with_reducible rfl))
  (try simp only [Act.put, List.setIfInBounds_toArray, List.set_cons_zero, List.set_cons_succ])
  refine wpAnyH_ready (rs := [10]) (by kernel_rfl) (by simp) ?_
  refine cons_l (i := 10) rfl (fun K hK => ?_) ?_
  (have hs0 := KR.out.cell (j := 0) (v := .slice none 0 0) rfl; have hf0 := KR.out.frozen 0; have hs1 := KR.out.cell (j := 1) (v := .int .i64 0) rfl; have hf1 := KR.out.frozen 1; have hs2 := KR.out.cell (j := 2) (v := .slice none 0 0) rfl; have hf2 := KR.out.frozen 2; go_simp; clear hs0 hf0 hs1 hf1 hs2 hf2; obtain ⟨wn, hwn⟩ : ∃ x, x = putAt wc (bR) 0 [.slice aT n cT, .int .i64 v, .slice (some ⟨bP, 0, none⟩) d d] := ⟨_, rfl⟩; have en : (((wc.setCell ⟨bR, 0, none⟩ (.slice aT n cT)).setCell ⟨bR, 1, none⟩ (.int .i64 v)).setCell ⟨bR, 2, none⟩ (.slice (some ⟨bP, 0, none⟩) d d)) = wn := (by rw [hwn]; rfl); rw [en]; clear en; have zz10 : wc.heap.size ≤ wn.heap.size := (by rw [hwn, put_size]; exact Nat.le_refl _); (first | replace HX := Lib.hid (show Ext W wn by rw [hwn]; exact put_ext (by first | assumption | omega) _ _ _ HX.out) | skip); (try replace KRES := Lib.hid (show RowAt wn (w.heap.size) 33 _ by rw [hwn]; exact put_other (by omega) _ _ _ KRES.out)); (first | replace OTT := Lib.hid (show PtOwn wn _ _ _ _ by rw [hwn]; exact OTT.out.putT KR.out (by decide)) | skip); replace KR := Lib.hid (RowAt.cast (c' := #[.slice aT n cT, .int .i64 v, .slice (some ⟨bP, 0, none⟩) d d]) (show RowAt wn (bR) 33 (putArr #[.slice none 0 0, .int .i64 0, .slice none 0 0] 0 [.slice aT n cT, .int .i64 v, .slice (some ⟨bP, 0, none⟩) d d]) by rw [hwn]; exact put_at _ _ _ _ KR.out) (by simp [putArr])); (try replace KP := Lib.hid (show RowAt wn (bP) 3 _ by rw [hwn]; exact put_other (by omega) _ _ _ KP.out)); clear hwn; obtain ⟨wc, hq⟩ : ∃ x, x = wn := ⟨_, rfl⟩; subst hq)
  refine hK.out _ _ ?_ (fun hH6 => ?_)
  · (try dsimp only)
    (try exact trivial)
  clear hK K hH5
  (try simp only [Act.put, List.setIfInBounds_toArray, List.set_cons_zero, List.set_cons_succ])
  refine wpAnyH_done (by kernel_rfl) ?_ _
  rotate_left
  exact AllReadyH.nil
  exact AllReadyH.nil
  exact AllReadyH.nil
  exact AllReadyH.nil
  refine cons_l (i := 9) rfl (fun K hK => ?_) ?_
  (go_simp; obtain ⟨bR, hbR⟩ : ∃ x, x = wc.heap.size := ⟨_, rfl⟩; obtain ⟨wn, hwn⟩ : ∃ x, x = wc.alloc (.cells #[.slice none 0 0, .int .i64 0, .slice none 0 0] 33) := ⟨_, rfl⟩; have hal : Ext wc wn := (by rw [hwn]; exact (Ext.refl wc).alloc _); have hk := RowAt.new wc 33 #[.slice none 0 0, .int .i64 0, .slice none 0 0]; rw [← hwn, ← hbR] at hk; rw [← hwn]; (try rw [← hbR]); have zz9 := hal.size; have lbR := hk.lt; have mbR : wc.heap.size ≤ bR := Nat.le_of_eq hbR.symm; have nbR : bR ≤ wc.heap.size := Nat.le_of_eq hbR; have xwbR : W.heap.size ≤ bR := Nat.le_trans HX.out.size mbR; clear hbR hwn; (try replace KRES := Lib.hid (KRES.out.ext hal)); (try replace KR := Lib.hid (KR.out.ext hal)); (try replace KP := Lib.hid (KP.out.ext hal)); (try replace OTT := Lib.hid (OTT.out.ext hal)); replace HX := Lib.hid (HX.out.trans hal); (try replace OZ := Lib.hid (ownsRow_ext OZ.out hal)); have KR := Lib.hid hk; clear hk hal; obtain ⟨wc, hq⟩ : ∃ x, x = wn := ⟨_, rfl⟩; subst hq)
  refine hK.out _ _ ?_ (fun hH2 => ?_)
  · (try dsimp only)
    (try exact trivial)
  clear hK K hH1
  (try simp only [Act.put, List.setIfInBounds_toArray, List.set_cons_zero, List.set_cons_succ])
  refine wpAnyH_ready (rs := [0]) (by kernel_rfl) (by simp) ?_
  refine cons_l (i := 0) rfl (fun K hK => ?_) ?_
  (go_simp; obtain ⟨bZ, hbZ⟩ : ∃ x, x = wc.heap.size := ⟨_, rfl⟩; have hzl := World.ownsRow_lit (base := bZ) (e := 37) (size := 2) wc #[] 0 (Nat.le_of_eq hbZ) (by unfold maxLen; omega) rfl; obtain ⟨wn, hwn⟩ : ∃ x, x = wc.alloc (.cells #[] 37) := ⟨_, rfl⟩; have hal : Ext wc wn := (by rw [hwn]; exact (Ext.refl wc).alloc _); rw [← hwn, ← hbZ] at hzl; (try rw [← hwn]); (try rw [← hbZ]); have zz0 := hal.size; have zb0 : bZ < wn.heap.size := (by rw [hwn, World.size_alloc]; omega); have mbZ : wc.heap.size ≤ bZ := Nat.le_of_eq hbZ.symm; have xwZ : W.heap.size ≤ bZ := Nat.le_trans HX.out.size mbZ; clear hbZ hwn; (try replace KRES := Lib.hid (KRES.out.ext hal)); (try replace KR := Lib.hid (KR.out.ext hal)); (try replace KP := Lib.hid (KP.out.ext hal)); (try replace OTT := Lib.hid (OTT.out.ext hal)); replace HX := Lib.hid (HX.out.trans hal); have OZ := Lib.hid (show wn.ownsRow bZ 37 2 (.slice (some ⟨bZ, 0, none⟩) 0 0) 0 [] by simpa using hzl); clear hzl hal; obtain ⟨wc, hq⟩ : ∃ x, x = wn := ⟨_, rfl⟩; subst hq)
  refine hK.out _ _ ?_ (fun hH3 => ?_)
  · (try dsimp only)
    (try exact trivial)
  clear hK K hH2
  (try simp only [Act.put, List.setIfInBounds_toArray, List.set_cons_zero, List.set_cons_succ])
  refine wpAnyH_ready (rs := [2]) (by kernel_rfl) (by simp) ?_
  refine cons_l (i := 2) rfl (fun K hK => ?_) ?_
  (have HFC := Lib.hid (flatPts_cells (HF.out.ext (HE0.out.trans HX.out))); refine step_of_wp _ rfl (wp_append_any _ _ _ _ 37 rfl bZ _ 2 16 Try.underlying30 info_point rfl (by decide) (.slice (some ⟨bZ, 0, none⟩) 0 0) 0 [] rfl OZ.out a n c rfl (ps.flatMap ptCells) HC.out (by rw [ptFlat_len, HN.out]) HFC.out (ptFlat_one ps) (by unfold maxLen; omega) (by omega) (by have := zb0; omega) ?_); intro v' wn hown5 hg5' _; have hg5 : wc.grownBy wn (some bZ) := hg5'; clear hg5' HFC; have hP := (PtOwn.of_row (n := n) HN.out (by simpa using hown5)); obtain ⟨aT, cT, hvv, _⟩ := id hP; rw [← HN.out] at hvv; subst hvv; have OTT := Lib.hid hP; clear hown5 hP; have zz2 := hg5.size; have HXn := Lib.hid (ext_grown HX.out hg5 xwZ); clear HX; have HX := HXn; clear HXn; (try replace KRES := Lib.hid (row_grown KRES.out hg5 (fun e => by have := Option.some.inj e; omega))); (try replace KR := Lib.hid (row_grown KR.out hg5 (fun e => by have := Option.some.inj e; omega))); (try replace KP := Lib.hid (row_grown KP.out hg5 (fun e => by have := Option.some.inj e; omega))); clear hg5 OZ; obtain ⟨wc, hq⟩ : ∃ x, x = wn := ⟨_, rfl⟩; subst hq)
  refine hK.out _ _ ?_ (fun hH4 => ?_)
  · (try dsimp only)
    (try exact trivial)
  clear hK K hH3
  (try simp only [Act.put, List.setIfInBounds_toArray, List.set_cons_zero, List.set_cons_succ])
  refine wpAnyH_ready (rs := [5]) (by kernel_rfl) (by simp) ?_
  refine cons_l (i := 5) rfl (fun K hK => ?_) ?_
  (go_simp; (go_at_call 37; with_reducible refine (specValueAt_is v _ _ _ ps _ _ HN.out hsm (HF.out.ext (HE0.out.trans HX.out)) hx HV.out).mono ?_); rintro e wc ⟨rfl, hb⟩; have zz5 := hb.size; (try replace KRES := Lib.hid (KRES.out.ext hb)); (try replace KR := Lib.hid (KR.out.ext hb)); (try replace KP := Lib.hid (KP.out.ext hb)); (try replace OTT := Lib.hid (OTT.out.ext hb)); replace HX := Lib.hid (HX.out.trans hb); (try replace OZ := Lib.hid (ownsRow_ext OZ.out hb)); clear hb)
  refine hK.out _ _ ?_ (fun hH5 => ?_)
  · (try dsimp only)
    (try exact trivial)
  clear hK K hH4
  (try simp only [Act.put, List.setIfInBounds_toArray, List.set_cons_zero, List.set_cons_succ])
  refine take_l 8 (v := ?_) rfl (by kernel_rfl) (by kernel_rfl) (by kernel_rfl) (fun _ _ _ h => h) (by rfl) ?_ (by assumption) ?_
  rotate_left
  · (intro w hSw; (try dsimp only at hSw); go_simp; (try with_reducible rfl))
  (try simp only [Act.put, List.setIfInBounds_toArray, List.set_cons_zero, List.set_cons_succ])
  refine wpAnyH_ready (rs := [10]) (by kernel_rfl) (by simp) ?_
  refine cons_l (i := 10) rfl (fun K hK => ?_) ?_
  (have hs0 := KR.out.cell (j := 0) (v := .slice none 0 0) rfl; have hf0 := KR.out.frozen 0; have hs1 := KR.out.cell (j := 1) (v := .int .i64 0) rfl; have hf1 := KR.out.frozen 1; have hs2 := KR.out.cell (j := 2) (v := .slice none 0 0) rfl; have hf2 := KR.out.frozen 2; go_simp; clear hs0 hf0 hs1 hf1 hs2 hf2; obtain ⟨wn, hwn⟩ : ∃ x, x = putAt wc (bR) 0 [.slice aT n cT, .int .i64 v, .slice (some ⟨bP, 0, none⟩) d d] := ⟨_, rfl⟩; have en : (((wc.setCell ⟨bR, 0, none⟩ (.slice aT n cT)).setCell ⟨bR, 1, none⟩ (.int .i64 v)).setCell ⟨bR, 2, none⟩ (.slice (some ⟨bP, 0, none⟩) d d)) = wn := (by rw [hwn]; rfl); rw [en]; clear en; have zz10 : wc.heap.size ≤ wn.heap.size := (by rw [hwn, put_size]; exact Nat.le_refl _); (first | replace HX := Lib.hid (show Ext W wn by rw [hwn]; exact put_ext (by first | assumption | omega) _ _ _ HX.out) | skip); (try replace KRES := Lib.hid (show RowAt wn (w.heap.size) 33 _ by rw [hwn]; exact put_other (by omega) _ _ _ KRES.out)); (first | replace OTT := Lib.hid (show PtOwn wn _ _ _ _ by rw [hwn]; exact OTT.out.putT KR.out (by decide)) | skip); replace KR := Lib.hid (RowAt.cast (c' := #[.slice aT n cT, .int .i64 v, .slice (some ⟨bP, 0, none⟩) d d]) (show RowAt wn (bR) 33 (putArr #[.slice none 0 0, .int .i64 0, .slice none 0 0] 0 [.slice aT n cT, .int .i64 v, .slice (some ⟨bP, 0, none⟩) d d]) by rw [hwn]; exact put_at _ _ _ _ KR.out) (by simp [putArr])); (try replace KP := Lib.hid (show RowAt wn (bP) 3 _ by rw [hwn]; exact put_other (by omega) _ _ _ KP.out)); clear hwn; obtain ⟨wc, hq⟩ : ∃ x, x = wn := ⟨_, rfl⟩; subst hq)
  refine hK.out _ _ ?_ (fun hH6 => ?_)
  · (try dsimp only)
    (try exact trivial)
  clear hK K hH5
  (try simp only [Act.put, List.setIfInBounds_toArray, List.set_cons_zero, List.set_cons_succ])
  refine wpAnyH_done (by kernel_rfl) ?_ _
  rotate_left
  exact AllReadyH.nil
  exact AllReadyH.nil
  exact AllReadyH.nil
  exact AllReadyH.nil
  exact AllReadyH.nil
  refine cons_l (i := 9) rfl (fun K hK => ?_) ?_
  (go_simp; obtain ⟨bR, hbR⟩ : ∃ x, x = wc.heap.size := ⟨_, rfl⟩; obtain ⟨wn, hwn⟩ : ∃ x, x = wc.alloc (.cells #[.slice none 0 0, .int .i64 0, .slice none 0 0] 33) := ⟨_, rfl⟩; have hal : Ext wc wn := (by rw [hwn]; exact (Ext.refl wc).alloc _); have hk := RowAt.new wc 33 #[.slice none 0 0, .int .i64 0, .slice none 0 0]; rw [← hwn, ← hbR] at hk; rw [← hwn]; (try rw [← hbR]); have zz9 := hal.size; have lbR := hk.lt; have mbR : wc.heap.size ≤ bR := Nat.le_of_eq hbR.symm; have nbR : bR ≤ wc.heap.size := Nat.le_of_eq hbR; have xwbR : W.heap.size ≤ bR := Nat.le_trans HX.out.size mbR; clear hbR hwn; (try replace KRES := Lib.hid (KRES.out.ext hal)); (try replace KR := Lib.hid (KR.out.ext hal)); (try replace KP := Lib.hid (KP.out.ext hal)); (try replace OTT := Lib.hid (OTT.out.ext hal)); replace HX := Lib.hid (HX.out.trans hal); (try replace OZ := Lib.hid (ownsRow_ext OZ.out hal)); have KR := Lib.hid hk; clear hk hal; obtain ⟨wc, hq⟩ : ∃ x, x = wn := ⟨_, rfl⟩; subst hq)
  refine hK.out _ _ ?_ (fun hH1 => ?_)
  · (try dsimp only)
    (try exact trivial)
  clear hK K hH0
  (try simp only [Act.put, List.setIfInBounds_toArray, List.set_cons_zero, List.set_cons_succ])
  refine wpAnyH_ready (rs := [0, 7]) (by kernel_rfl) (by simp) ?_
  refine cons_l (i := 0) rfl (fun K hK => ?_) ?_
  (go_simp; obtain ⟨bZ, hbZ⟩ : ∃ x, x = wc.heap.size := ⟨_, rfl⟩; have hzl := World.ownsRow_lit (base := bZ) (e := 37) (size := 2) wc #[] 0 (Nat.le_of_eq hbZ) (by unfold maxLen; omega) rfl; obtain ⟨wn, hwn⟩ : ∃ x, x = wc.alloc (.cells #[] 37) := ⟨_, rfl⟩; have hal : Ext wc wn := (by rw [hwn]; exact (Ext.refl wc).alloc _); rw [← hwn, ← hbZ] at hzl; (try rw [← hwn]); (try rw [← hbZ]); have zz0 := hal.size; have zb0 : bZ < wn.heap.size := (by rw [hwn, World.size_alloc]; omega); have mbZ : wc.heap.size ≤ bZ := Nat.le_of_eq hbZ.symm; have xwZ : W.heap.size ≤ bZ := Nat.le_trans HX.out.size mbZ; clear hbZ hwn; (try replace KRES := Lib.hid (KRES.out.ext hal)); (try replace KR := Lib.hid (KR.out.ext hal)); (try replace KP := Lib.hid (KP.out.ext hal)); (try replace OTT := Lib.hid (OTT.out.ext hal)); replace HX := Lib.hid (HX.out.trans hal); have OZ := Lib.hid (show wn.ownsRow bZ 37 2 (.slice (some ⟨bZ, 0, none⟩) 0 0) 0 [] by simpa using hzl); clear hzl hal; obtain ⟨wc, hq⟩ : ∃ x, x = wn := ⟨_, rfl⟩; subst hq)
  refine hK.out _ _ ?_ (fun hH2 => ?_)
  · (try dsimp only)
    (try exact trivial)
  clear hK K hH1
  (try simp only [Act.put, List.setIfInBounds_toArray, List.set_cons_zero, List.set_cons_succ])
  refine wpAnyH_ready (rs := [2, 7]) (by kernel_rfl) (by simp) ?_
  refine cons_l (i := 2) rfl (fun K hK => ?_) ?_
  (have HFC := Lib.hid (flatPts_cells (HF.out.ext (HE0.out.trans HX.out))); refine step_of_wp _ rfl (wp_append_any _ _ _ _ 37 rfl bZ _ 2 16 Try.underlying30 info_point rfl (by decide) (.slice (some ⟨bZ, 0, none⟩) 0 0) 0 [] rfl OZ.out a n c rfl (ps.flatMap ptCells) HC.out (by rw [ptFlat_len, HN.out]) HFC.out (ptFlat_one ps) (by unfold maxLen; omega) (by omega) (by have := zb0; omega) ?_); intro v' wn hown5 hg5' _; have hg5 : wc.grownBy wn (some bZ) := hg5'; clear hg5' HFC; have hP := (PtOwn.of_row (n := n) HN.out (by simpa using hown5)); obtain ⟨aT, cT, hvv, _⟩ := id hP; rw [← HN.out] at hvv; subst hvv; have OTT := Lib.hid hP; clear hown5 hP; have zz2 := hg5.size; have HXn := Lib.hid (ext_grown HX.out hg5 xwZ); clear HX; have HX := HXn; clear HXn; (try replace KRES := Lib.hid (row_grown KRES.out hg5 (fun e => by have := Option.some.inj e; omega))); (try replace KR := Lib.hid (row_grown KR.out hg5 (fun e => by have := Option.some.inj e; omega))); (try replace KP := Lib.hid (row_grown KP.out hg5 (fun e => by have := Option.some.inj e; omega))); clear hg5 OZ; obtain ⟨wc, hq⟩ : ∃ x, x = wn := ⟨_, rfl⟩; subst hq)
  refine hK.out _ _ ?_ (fun hH3 => ?_)
  · (try dsimp only)
    (try exact trivial)
  clear hK K hH2
  (try simp only [Act.put, List.setIfInBounds_toArray, List.set_cons_zero, List.set_cons_succ])
  refine wpAnyH_ready (rs := [5, 7]) (by kernel_rfl) (by simp) ?_
  refine cons_l (i := 5) rfl (fun K hK => ?_) ?_
  (go_simp; (go_at_call 37; with_reducible refine (specValueAt_is v _ _ _ ps _ _ HN.out hsm (HF.out.ext (HE0.out.trans HX.out)) hx HV.out).mono ?_); rintro e wc ⟨rfl, hb⟩; have zz5 := hb.size; (try replace KRES := Lib.hid (KRES.out.ext hb)); (try replace KR := Lib.hid (KR.out.ext hb)); (try replace KP := Lib.hid (KP.out.ext hb)); (try replace OTT := Lib.hid (OTT.out.ext hb)); replace HX := Lib.hid (HX.out.trans hb); (try replace OZ := Lib.hid (ownsRow_ext OZ.out hb)); clear hb)
  refine hK.out _ _ ?_ (fun hH4 => ?_)
  · (try dsimp only)
    (try exact trivial)
  clear hK K hH3
  (try simp only [Act.put, List.setIfInBounds_toArray, List.set_cons_zero, List.set_cons_succ])
  refine wpAnyH_ready (rs := [7]) (by kernel_rfl) (by simp) ?_
  refine cons_l (i := 7) rfl (fun K hK => ?_) ?_
  (go_simp; obtain ⟨bP, hbP⟩ : ∃ x, x = wc.heap.size := ⟨_, rfl⟩; obtain ⟨wn, hwn⟩ : ∃ x, x = wc.alloc (.cells M 3) := ⟨_, rfl⟩; have hal : Ext wc wn := (by rw [hwn]; exact (Ext.refl wc).alloc _); have hk := RowAt.new wc 3 M; rw [← hwn, ← hbP] at hk; (try rw [← hwn]); (try rw [← hbP]); have zz7 := hal.size; have lbP := hk.lt; have mbP : wc.heap.size ≤ bP := Nat.le_of_eq hbP.symm; have nbP : bP ≤ wc.heap.size := Nat.le_of_eq hbP; have xwbP : W.heap.size ≤ bP := Nat.le_trans HX.out.size mbP; clear hbP hwn; (try replace KRES := Lib.hid (KRES.out.ext hal)); (try replace KR := Lib.hid (KR.out.ext hal)); (try replace KP := Lib.hid (KP.out.ext hal)); (try replace OTT := Lib.hid (OTT.out.ext hal)); replace HX := Lib.hid (HX.out.trans hal); (try replace OZ := Lib.hid (ownsRow_ext OZ.out hal)); have KP := Lib.hid hk; clear hk hal; obtain ⟨wc, hq⟩ : ∃ x, x = wn := ⟨_, rfl⟩; subst hq)
  refine hK.out _ _ ?_ (fun hH5 => ?_)
  · (try dsimp only)
    (try exact trivial)
  clear hK K hH4
  (try simp only [Act.put, List.setIfInBounds_toArray, List.set_cons_zero, List.set_cons_succ])
  refine take_l 8 (v := ?_) rfl (by kernel_rfl) (by kernel_rfl) (by kernel_rfl) (fun _ _ _ h => h) (by rfl) ?_ (by assumption) ?_
  rotate_left
  · (intro w hSw; (try dsimp only at hSw); go_simp; (try with_reducible rfl))
  (try simp only [Act.put, List.setIfInBounds_toArray, List.set_cons_zero, List.set_cons_succ])
  refine wpAnyH_ready (rs := [10]) (by kernel_rfl) (by simp) ?_
  refine cons_l (i := 10) rfl (fun K hK => ?_) ?_
  (have hs0 := KR.out.cell (j := 0) (v := .slice none 0 0) rfl; have hf0 := KR.out.frozen 0; have hs1 := KR.out.cell (j := 1) (v := .int .i64 0) rfl; have hf1 := KR.out.frozen 1; have hs2 := KR.out.cell (j := 2) (v := .slice none 0 0) rfl; have hf2 := KR.out.frozen 2; go_simp; clear hs0 hf0 hs1 hf1 hs2 hf2; obtain ⟨wn, hwn⟩ : ∃ x, x = putAt wc (bR) 0 [.slice aT n cT, .int .i64 v, .slice (some ⟨bP, 0, none⟩) d d] := ⟨_, rfl⟩; have en : (((wc.setCell ⟨bR, 0, none⟩ (.slice aT n cT)).setCell ⟨bR, 1, none⟩ (.int .i64 v)).setCell ⟨bR, 2, none⟩ (.slice (some ⟨bP, 0, none⟩) d d)) = wn := (by rw [hwn]; rfl); rw [en]; clear en; have zz10 : wc.heap.size ≤ wn.heap.size := (by rw [hwn, put_size]; exact Nat.le_refl _); (first | replace HX := Lib.hid (show Ext W wn by rw [hwn]; exact put_ext (by first | assumption | omega) _ _ _ HX.out) | skip); (try replace KRES := Lib.hid (show RowAt wn (w.heap.size) 33 _ by rw [hwn]; exact put_other (by omega) _ _ _ KRES.out)); (first | replace OTT := Lib.hid (show PtOwn wn _ _ _ _ by rw [hwn]; exact OTT.out.putT KR.out (by decide)) | skip); replace KR := Lib.hid (RowAt.cast (c' := #[.slice aT n cT, .int .i64 v, .slice (some ⟨bP, 0, none⟩) d d]) (show RowAt wn (bR) 33 (putArr #[.slice none 0 0, .int .i64 0, .slice none 0 0] 0 [.slice aT n cT, .int .i64 v, .slice (some ⟨bP, 0, none⟩) d d]) by rw [hwn]; exact put_at _ _ _ _ KR.out) (by simp [putArr])); (try replace KP := Lib.hid (show RowAt wn (bP) 3 _ by rw [hwn]; exact put_other (by omega) _ _ _ KP.out)); clear hwn; obtain ⟨wc, hq⟩ : ∃ x, x = wn := ⟨_, rfl⟩; subst hq)
  refine hK.out _ _ ?_ (fun hH6 => ?_)
  · (try dsimp only)
    (try exact trivial)
  clear hK K hH5
  (try simp only [Act.put, List.setIfInBounds_toArray, List.set_cons_zero, List.set_cons_succ])
  refine wpAnyH_done (by kernel_rfl) ?_ _
  rotate_left
  exact AllReadyH.nil
  exact AllReadyH.nil
  refine cons_l (i := 7) rfl (fun K hK => ?_) ?_
  (go_simp; obtain ⟨bP, hbP⟩ : ∃ x, x = wc.heap.size := ⟨_, rfl⟩; obtain ⟨wn, hwn⟩ : ∃ x, x = wc.alloc (.cells M 3) := ⟨_, rfl⟩; have hal : Ext wc wn := (by rw [hwn]; exact (Ext.refl wc).alloc _); have hk := RowAt.new wc 3 M; rw [← hwn, ← hbP] at hk; (try rw [← hwn]); (try rw [← hbP]); have zz7 := hal.size; have lbP := hk.lt; have mbP : wc.heap.size ≤ bP := Nat.le_of_eq hbP.symm; have nbP : bP ≤ wc.heap.size := Nat.le_of_eq hbP; have xwbP : W.heap.size ≤ bP := Nat.le_trans HX.out.size mbP; clear hbP hwn; (try replace KRES := Lib.hid (KRES.out.ext hal)); (try replace KR := Lib.hid (KR.out.ext hal)); (try replace KP := Lib.hid (KP.out.ext hal)); (try replace OTT := Lib.hid (OTT.out.ext hal)); replace HX := Lib.hid (HX.out.trans hal); (try replace OZ := Lib.hid (ownsRow_ext OZ.out hal)); have KP := Lib.hid hk; clear hk hal; obtain ⟨wc, hq⟩ : ∃ x, x = wn := ⟨_, rfl⟩; subst hq)
  refine hK.out _ _ ?_ (fun hH4 => ?_)
  · (try dsimp only)
    (try exact trivial)
  clear hK K hH3
  (try simp only [Act.put, List.setIfInBounds_toArray, List.set_cons_zero, List.set_cons_succ])
  refine wpAnyH_ready (rs := [5]) (by kernel_rfl) (by simp) ?_
  refine cons_l (i := 5) rfl (fun K hK => ?_) ?_
  (go_simp; (go_at_call 37; with_reducible refine (specValueAt_is v _ _ _ ps _ _ HN.out hsm (HF.out.ext (HE0.out.trans HX.out)) hx HV.out).mono ?_); rintro e wc ⟨rfl, hb⟩; have zz5 := hb.size; (try replace KRES := Lib.hid (KRES.out.ext hb)); (try replace KR := Lib.hid (KR.out.ext hb)); (try replace KP := Lib.hid (KP.out.ext hb)); (try replace OTT := Lib.hid (OTT.out.ext hb)); replace HX := Lib.hid (HX.out.trans hb); (try replace OZ := Lib.hid (ownsRow_ext OZ.out hb)); clear hb)
  refine hK.out _ _ ?_ (fun hH5 => ?_)
  · (try dsimp only)
    (try exact trivial)
  clear hK K hH4
  (try simp only [Act.put, List.setIfInBounds_toArray, List.set_cons_zero, List.set_cons_succ])
  refine take_l 8 (v := ?_) rfl (by kernel_rfl) (by kernel_rfl) (by kernel_rfl) (fun _ _ _ h => h) (by rfl) ?_ (by assumption) ?_
  rotate_left
  · (intro w hSw; (try dsimp only at hSw); go_simp; (try with_reducible rfl))
  (try simp only [Act.put, List.setIfInBounds_toArray, List.set_cons_zero, List.set_cons_succ])
  refine wpAnyH_ready (rs := [10]) (by kernel_rfl) (by simp) ?_
  refine cons_l (i := 10) rfl (fun K hK => ?_) ?_
  (have hs0 := KR.out.cell (j := 0) (v := .slice none 0 0) rfl; have hf0 := KR.out.frozen 0; have hs1 := KR.out.cell (j := 1) (v := .int .i64 0) rfl; have hf1 := KR.out.frozen 1; have hs2 := KR.out.cell (j := 2) (v := .slice none 0 0) rfl; have hf2 := KR.out.frozen 2; go_simp; clear hs0 hf0 hs1 hf1 hs2 hf2; obtain ⟨wn, hwn⟩ : ∃ x, x = putAt wc (bR) 0 [.slice aT n cT, .int .i64 v, .slice (some ⟨bP, 0, none⟩) d d] := ⟨_, rfl⟩; have en : (((wc.setCell ⟨bR, 0, none⟩ (.slice aT n cT)).setCell ⟨bR, 1, none⟩ (.int .i64 v)).setCell ⟨bR, 2, none⟩ (.slice (some ⟨bP, 0, none⟩) d d)) = wn := (by rw [hwn]; rfl); rw [en]; clear en; have zz10 : wc.heap.size ≤ wn.heap.size := (by rw [hwn, put_size]; exact Nat.le_refl _); (first | replace HX := Lib.hid (show Ext W wn by rw [hwn]; exact put_ext (by first | assumption | omega) _ _ _ HX.out) | skip); (try replace KRES := Lib.hid (show RowAt wn (w.heap.size) 33 _ by rw [hwn]; exact put_other (by omega) _ _ _ KRES.out)); (first | replace OTT := Lib.hid (show PtOwn wn _ _ _ _ by rw [hwn]; exact OTT.out.putT KR.out (by decide)) | skip); replace KR := Lib.hid (RowAt.cast (c' := #[.slice aT n cT, .int .i64 v, .slice (some ⟨bP, 0, none⟩) d d]) (show RowAt wn (bR) 33 (putArr #[.slice none 0 0, .int .i64 0, .slice none 0 0] 0 [.slice aT n cT, .int .i64 v, .slice (some ⟨bP, 0, none⟩) d d]) by rw [hwn]; exact put_at _ _ _ _ KR.out) (by simp [putArr])); (try replace KP := Lib.hid (show RowAt wn (bP) 3 _ by rw [hwn]; exact put_other (by omega) _ _ _ KP.out)); clear hwn; obtain ⟨wc, hq⟩ : ∃ x, x = wn := ⟨_, rfl⟩; subst hq)
  refine hK.out _ _ ?_ (fun hH6 => ?_)
  · (try dsimp only)
    (try exact trivial)
  clear hK K hH5
  (try simp only [Act.put, List.setIfInBounds_toArray, List.set_cons_zero, List.set_cons_succ])
  refine wpAnyH_done (by kernel_rfl) ?_ _
  rotate_left
  exact AllReadyH.nil
  exact AllReadyH.nil
  exact AllReadyH.nil
  refine cons_l (i := 7) rfl (fun K hK => ?_) ?_
  (go_simp; obtain ⟨bP, hbP⟩ : ∃ x, x = wc.heap.size := ⟨_, rfl⟩; obtain ⟨wn, hwn⟩ : ∃ x, x = wc.alloc (.cells M 3) := ⟨_, rfl⟩; have hal : Ext wc wn := (by rw [hwn]; exact (Ext.refl wc).alloc _); have hk := RowAt.new wc 3 M; rw [← hwn, ← hbP] at hk; (try rw [← hwn]); (try rw [← hbP]); have zz7 := hal.size; have lbP := hk.lt; have mbP : wc.heap.size ≤ bP := Nat.le_of_eq hbP.symm; have nbP : bP ≤ wc.heap.size := Nat.le_of_eq hbP; have xwbP : W.heap.size ≤ bP := Nat.le_trans HX.out.size mbP; clear hbP hwn; (try replace KRES := Lib.hid (KRES.out.ext hal)); (try replace KR := Lib.hid (KR.out.ext hal)); (try replace KP := Lib.hid (KP.out.ext hal)); (try replace OTT := Lib.hid (OTT.out.ext hal)); replace HX := Lib.hid (HX.out.trans hal); (try replace OZ := Lib.hid (ownsRow_ext OZ.out hal)); have KP := Lib.hid hk; clear hk hal; obtain ⟨wc, hq⟩ : ∃ x, x = wn := ⟨_, rfl⟩; subst hq)
  refine hK.out _ _ ?_ (fun hH3 => ?_)
  · (try dsimp only)
    (try exact trivial)
  clear hK K hH2
  (try simp only [Act.put, List.setIfInBounds_toArray, List.set_cons_zero, List.set_cons_succ])
  refine wpAnyH_ready (rs := [2]) (by kernel_rfl) (by simp) ?_
  refine cons_l (i := 2) rfl (fun K hK => ?_) ?_
  (have HFC := Lib.hid (flatPts_cells (HF.out.ext (HE0.out.trans HX.out))); refine step_of_wp _ rfl (wp_append_any _ _ _ _ 37 rfl bZ _ 2 16 Try.underlying30 info_point rfl (by decide) (.slice (some ⟨bZ, 0, none⟩) 0 0) 0 [] rfl OZ.out a n c rfl (ps.flatMap ptCells) HC.out (by rw [ptFlat_len, HN.out]) HFC.out (ptFlat_one ps) (by unfold maxLen; omega) (by omega) (by have := zb0; omega) ?_); intro v' wn hown5 hg5' _; have hg5 : wc.grownBy wn (some bZ) := hg5'; clear hg5' HFC; have hP := (PtOwn.of_row (n := n) HN.out (by simpa using hown5)); obtain ⟨aT, cT, hvv, _⟩ := id hP; rw [← HN.out] at hvv; subst hvv; have OTT := Lib.hid hP; clear hown5 hP; have zz2 := hg5.size; have HXn := Lib.hid (ext_grown HX.out hg5 xwZ); clear HX; have HX := HXn; clear HXn; (try replace KRES := Lib.hid (row_grown KRES.out hg5 (fun e => by have := Option.some.inj e; omega))); (try replace KR := Lib.hid (row_grown KR.out hg5 (fun e => by have := Option.some.inj e; omega))); (try replace KP := Lib.hid (row_grown KP.out hg5 (fun e => by have := Option.some.inj e; omega))); clear hg5 OZ; obtain ⟨wc, hq⟩ : ∃ x, x = wn := ⟨_, rfl⟩; subst hq)
  refine hK.out _ _ ?_ (fun hH4 => ?_)
  · (try dsimp only)
    (try exact trivial)
  clear hK K hH3
  (try simp only [Act.put, List.setIfInBounds_toArray, List.set_cons_zero, List.set_cons_succ])
  refine wpAnyH_ready (rs := [5]) (by kernel_rfl) (by simp) ?_
  refine cons_l (i := 5) rfl (fun K hK => ?_) ?_
  (go_simp; (go_at_call 37; with_reducible refine (specValueAt_is v _ _ _ ps _ _ HN.out hsm (HF.out.ext (HE0.out.trans HX.out)) hx HV.out).mono ?_); rintro e wc ⟨rfl, hb⟩; have zz5 := hb.size; (try replace KRES := Lib.hid (KRES.out.ext hb)); (try replace KR := Lib.hid (KR.out.ext hb)); (try replace KP := Lib.hid (KP.out.ext hb)); (try replace OTT := Lib.hid (OTT.out.ext hb)); replace HX := Lib.hid (HX.out.trans hb); (try replace OZ := Lib.hid (ownsRow_ext OZ.out hb)); clear hb)
  refine hK.out _ _ ?_ (fun hH5 => ?_)
  · (try dsimp only)
    (try exact trivial)
  clear hK K hH4
  (try simp only [Act.put, List.setIfInBounds_toArray, List.set_cons_zero, List.set_cons_succ])
  refine take_l 8 (v := ?_) rfl (by kernel_rfl) (by kernel_rfl) (by kernel_rfl) (fun _ _ _ h => h) (by rfl) ?_ (by assumption) ?_
  rotate_left
  · (intro w hSw; (try dsimp only at hSw); go_simp; (try with_reducible rfl))
  (try simp only [Act.put, List.setIfInBounds_toArray, List.set_cons_zero, List.set_cons_succ])
  refine wpAnyH_ready (rs := [10]) (by kernel_rfl) (by simp) ?_
  refine cons_l (i := 10) rfl (fun K hK => ?_) ?_
  (have hs0 := KR.out.cell (j := 0) (v := .slice none 0 0) rfl; have hf0 := KR.out.frozen 0; have hs1 := KR.out.cell (j := 1) (v := .int .i64 0) rfl; have hf1 := KR.out.frozen 1; have hs2 := KR.out.cell (j := 2) (v := .slice none 0 0) rfl; have hf2 := KR.out.frozen 2; go_simp; clear hs0 hf0 hs1 hf1 hs2 hf2; obtain ⟨wn, hwn⟩ : ∃ x, x = putAt wc (bR) 0 [.slice aT n cT, .int .i64 v, .slice (some ⟨bP, 0, none⟩) d d] := ⟨_, rfl⟩; have en : (((wc.setCell ⟨bR, 0, none⟩ (.slice aT n cT)).setCell ⟨bR, 1, none⟩ (.int .i64 v)).setCell ⟨bR, 2, none⟩ (.slice (some ⟨bP, 0, none⟩) d d)) = wn := (by rw [hwn]; rfl); rw [en]; clear en; have zz10 : wc.heap.size ≤ wn.heap.size := (by rw [hwn, put_size]; exact Nat.le_refl _); (first | replace HX := Lib.hid (show Ext W wn by rw [hwn]; exact put_ext (by first | assumption | omega) _ _ _ HX.out) | skip); (try replace KRES := Lib.hid (show RowAt wn (w.heap.size) 33 _ by rw [hwn]; exact put_other (by omega) _ _ _ KRES.out)); (first | replace OTT := Lib.hid (show PtOwn wn _ _ _ _ by rw [hwn]; exact OTT.out.putT KR.out (by decide)) | skip); replace KR := Lib.hid (RowAt.cast (c' := #[.slice aT n cT, .int .i64 v, .slice (some ⟨bP, 0, none⟩) d d]) (show RowAt wn (bR) 33 (putArr #[.slice none 0 0, .int .i64 0, .slice none 0 0] 0 [.slice aT n cT, .int .i64 v, .slice (some ⟨bP, 0, none⟩) d d]) by rw [hwn]; exact put_at _ _ _ _ KR.out) (by simp [putArr])); (try replace KP := Lib.hid (show RowAt wn (bP) 3 _ by rw [hwn]; exact put_other (by omega) _ _ _ KP.out)); clear hwn; obtain ⟨wc, hq⟩ : ∃ x, x = wn := ⟨_, rfl⟩; subst hq)
  refine hK.out _ _ ?_ (fun hH6 => ?_)
  · (try dsimp only)
    (try exact trivial)
  clear hK K hH5
  (try simp only [Act.put, List.setIfInBounds_toArray, List.set_cons_zero, List.set_cons_succ])
  refine wpAnyH_done (by kernel_rfl) ?_ _
  rotate_left
  exact AllReadyH.nil
  exact AllReadyH.nil
  exact AllReadyH.nil
  exact AllReadyH.nil
  refine cons_l (i := 7) rfl (fun K hK => ?_) ?_
  (go_simp; obtain ⟨bP, hbP⟩ : ∃ x, x = wc.heap.size := ⟨_, rfl⟩; obtain ⟨wn, hwn⟩ : ∃ x, x = wc.alloc (.cells M 3) := ⟨_, rfl⟩; have hal : Ext wc wn := (by rw [hwn]; exact (Ext.refl wc).alloc _); have hk := RowAt.new wc 3 M; rw [← hwn, ← hbP] at hk; (try rw [← hwn]); (try rw [← hbP]); have zz7 := hal.size; have lbP := hk.lt; have mbP : wc.heap.size ≤ bP := Nat.le_of_eq hbP.symm; have nbP : bP ≤ wc.heap.size := Nat.le_of_eq hbP; have xwbP : W.heap.size ≤ bP := Nat.le_trans HX.out.size mbP; clear hbP hwn; (try replace KRES := Lib.hid (KRES.out.ext hal)); (try replace KR := Lib.hid (KR.out.ext hal)); (try replace KP := Lib.hid (KP.out.ext hal)); (try replace OTT := Lib.hid (OTT.out.ext hal)); replace HX := Lib.hid (HX.out.trans hal); (try replace OZ := Lib.hid (ownsRow_ext OZ.out hal)); have KP := Lib.hid hk; clear hk hal; obtain ⟨wc, hq⟩ : ∃ x, x = wn := ⟨_, rfl⟩; subst hq)
  refine hK.out _ _ ?_ (fun hH2 => ?_)
  · (try dsimp only)
    (try exact trivial)
  clear hK K hH1
  (try simp only [Act.put, List.setIfInBounds_toArray, List.set_cons_zero, List.set_cons_succ])
  refine wpAnyH_ready (rs := [0]) (by kernel_rfl) (by simp) ?_
  refine cons_l (i := 0) rfl (fun K hK => ?_) ?_
  (go_simp; obtain ⟨bZ, hbZ⟩ : ∃ x, x = wc.heap.size := ⟨_, rfl⟩; have hzl := World.ownsRow_lit (base := bZ) (e := 37) (size := 2) wc #[] 0 (Nat.le_of_eq hbZ) (by unfold maxLen; omega) rfl; obtain ⟨wn, hwn⟩ : ∃ x, x = wc.alloc (.cells #[] 37) := ⟨_, rfl⟩; have hal : Ext wc wn := (by rw [hwn]; exact (Ext.refl wc).alloc _); rw [← hwn, ← hbZ] at hzl; (try rw [← hwn]); (try rw [← hbZ]); have zz0 := hal.size; have zb0 : bZ < wn.heap.size := (by rw [hwn, World.size_alloc]; omega); have mbZ : wc.heap.size ≤ bZ := Nat.le_of_eq hbZ.symm; have xwZ : W.heap.size ≤ bZ := Nat.le_trans HX.out.size mbZ; clear hbZ hwn; (try replace KRES := Lib.hid (KRES.out.ext hal)); (try replace KR := Lib.hid (KR.out.ext hal)); (try replace KP := Lib.hid (KP.out.ext hal)); (try replace OTT := Lib.hid (OTT.out.ext hal)); replace HX := Lib.hid (HX.out.trans hal); have OZ := Lib.hid (show wn.ownsRow bZ 37 2 (.slice (some ⟨bZ, 0, none⟩) 0 0) 0 [] by simpa using hzl); clear hzl hal; obtain ⟨wc, hq⟩ : ∃ x, x = wn := ⟨_, rfl⟩; subst hq)
  refine hK.out _ _ ?_ (fun hH3 => ?_)
  · (try dsimp only)
    (try exact trivial)
  clear hK K hH2
  (try simp only [Act.put, List.setIfInBounds_toArray, List.set_cons_zero, List.set_cons_succ])
  refine wpAnyH_ready (rs := [2]) (by kernel_rfl) (by simp) ?_
  refine cons_l (i := 2) rfl (fun K hK => ?_) ?_
  (have HFC := Lib.hid (flatPts_cells (HF.out.ext (HE0.out.trans HX.out))); refine step_of_wp _ rfl (wp_append_any _ _ _ _ 37 rfl bZ _ 2 16 Try.underlying30 info_point rfl (by decide) (.slice (some ⟨bZ, 0, none⟩) 0 0) 0 [] rfl OZ.out a n c rfl (ps.flatMap ptCells) HC.out (by rw [ptFlat_len, HN.out]) HFC.out (ptFlat_one ps) (by unfold maxLen; omega) (by omega) (by have := zb0; omega) ?_); intro v' wn hown5 hg5' _; have hg5 : wc.grownBy wn (some bZ) := hg5'; clear hg5' HFC; have hP := (PtOwn.of_row (n := n) HN.out (by simpa using hown5)); obtain ⟨aT, cT, hvv, _⟩ := id hP; rw [← HN.out] at hvv; subst hvv; have OTT := Lib.hid hP; clear hown5 hP; have zz2 := hg5.size; have HXn := Lib.hid (ext_grown HX.out hg5 xwZ); clear HX; have HX := HXn; clear HXn; (try replace KRES := Lib.hid (row_grown KRES.out hg5 (fun e => by have := Option.some.inj e; omega))); (try replace KR := Lib.hid (row_grown KR.out hg5 (fun e => by have := Option.some.inj e; omega))); (try replace KP := Lib.hid (row_grown KP.out hg5 (fun e => by have := Option.some.inj e; omega))); clear hg5 OZ; obtain ⟨wc, hq⟩ : ∃ x, x = wn := ⟨_, rfl⟩; subst hq)
  refine hK.out _ _ ?_ (fun hH4 => ?_)
  · (try dsimp only)
    (try exact trivial)
  clear hK K hH3
  (try simp only [Act.put, List.setIfInBounds_toArray, List.set_cons_zero, List.set_cons_succ])
  refine wpAnyH_ready (rs := [5]) (by kernel_rfl) (by simp) ?_
  refine cons_l (i := 5) rfl (fun K hK => ?_) ?_
  (go_simp; (go_at_call 37; with_reducible refine (specValueAt_is v _ _ _ ps _ _ HN.out hsm (HF.out.ext (HE0.out.trans HX.out)) hx HV.out).mono ?_); rintro e wc ⟨rfl, hb⟩; have zz5 := hb.size; (try replace KRES := Lib.hid (KRES.out.ext hb)); (try replace KR := Lib.hid (KR.out.ext hb)); (try replace KP := Lib.hid (KP.out.ext hb)); (try replace OTT := Lib.hid (OTT.out.ext hb)); replace HX := Lib.hid (HX.out.trans hb); (try replace OZ := Lib.hid (ownsRow_ext OZ.out hb)); clear hb)
  refine hK.out _ _ ?_ (fun hH5 => ?_)
  · (try dsimp only)
    (try exact trivial)
  clear hK K hH4
  (try simp only [Act.put, List.setIfInBounds_toArray, List.set_cons_zero, List.set_cons_succ])
  refine take_l 8 (v := ?_) rfl (by kernel_rfl) (by kernel_rfl) (by kernel_rfl) (fun _ _ _ h => h) (by rfl) ?_ (by assumption) ?_
  rotate_left
  · (intro w hSw; (try dsimp only at hSw); go_simp; (try with_reducible rfl))
  (try simp only [Act.put, List.setIfInBounds_toArray, List.set_cons_zero, List.set_cons_succ])
  refine wpAnyH_ready (rs := [10]) (by kernel_rfl) (by simp) ?_
  refine cons_l (i := 10) rfl (fun K hK => ?_) ?_
  (have hs0 := KR.out.cell (j := 0) (v := .slice none 0 0) rfl; have hf0 := KR.out.frozen 0; have hs1 := KR.out.cell (j := 1) (v := .int .i64 0) rfl; have hf1 := KR.out.frozen 1; have hs2 := KR.out.cell (j := 2) (v := .slice none 0 0) rfl; have hf2 := KR.out.frozen 2; go_simp; clear hs0 hf0 hs1 hf1 hs2 hf2; obtain ⟨wn, hwn⟩ : ∃ x, x = putAt wc (bR) 0 [.slice aT n cT, .int .i64 v, .slice (some ⟨bP, 0, none⟩) d d] := ⟨_, rfl⟩; have en : (((wc.setCell ⟨bR, 0, none⟩ (.slice aT n cT)).setCell ⟨bR, 1, none⟩ (.int .i64 v)).setCell ⟨bR, 2, none⟩ (.slice (some ⟨bP, 0, none⟩) d d)) = wn := (by rw [hwn]; rfl); rw [en]; clear en; have zz10 : wc.heap.size ≤ wn.heap.size := (by rw [hwn, put_size]; exact Nat.le_refl _); (first | replace HX := Lib.hid (show Ext W wn by rw [hwn]; exact put_ext (by first | assumption | omega) _ _ _ HX.out) | skip); (try replace KRES := Lib.hid (show RowAt wn (w.heap.size) 33 _ by rw [hwn]; exact put_other (by omega) _ _ _ KRES.out)); (first | replace OTT := Lib.hid (show PtOwn wn _ _ _ _ by rw [hwn]; exact OTT.out.putT KR.out (by decide)) | skip); replace KR := Lib.hid (RowAt.cast (c' := #[.slice aT n cT, .int .i64 v, .slice (some ⟨bP, 0, none⟩) d d]) (show RowAt wn (bR) 33 (putArr #[.slice none 0 0, .int .i64 0, .slice none 0 0] 0 [.slice aT n cT, .int .i64 v, .slice (some ⟨bP, 0, none⟩) d d]) by rw [hwn]; exact put_at _ _ _ _ KR.out) (by simp [putArr])); (try replace KP := Lib.hid (show RowAt wn (bP) 3 _ by rw [hwn]; exact put_other (by omega) _ _ _ KP.out)); clear hwn; obtain ⟨wc, hq⟩ : ∃ x, x = wn := ⟨_, rfl⟩; subst hq)
  refine hK.out _ _ ?_ (fun hH6 => ?_)
  · (try dsimp only)
    (try exact trivial)
  clear hK K hH5
  (try simp only [Act.put, List.setIfInBounds_toArray, List.set_cons_zero, List.set_cons_succ])
  refine wpAnyH_done (by kernel_rfl) ?_ _
  rotate_left
  exact AllReadyH.nil
  exact AllReadyH.nil
  exact AllReadyH.nil
  exact AllReadyH.nil
  exact AllReadyH.nil
  exact AllReadyH.nil
  all_goals
    have hx2 := HE0.out.trans HX.out
    have HWC := Lib.hid hx2; clear hx2 HX
    have HFT := Lib.hid OTT.out.at; have HFI := Lib.hid (ints_at KP.out HM.out)
    have zR := KR.out.lt; have zS := KRES.out.lt
    have d0 := KR.out.cell (j := 0) (v := .slice aT n cT) rfl; have d1 := KR.out.cell (j := 1) (v := .int .i64 v) rfl; have d2 := KR.out.cell (j := 2) (v := .slice (some ⟨bP, 0, none⟩) d d) rfl
    go_wp2_with fail
    refine (specReachOk_is true _ _ _ _ _ _ _ ps (List.replicate d 0) _ HN.out hsm HDL.out hdm HFT.out HFI.out hvi HRK.out).mono ?_
    rintro e w5 ⟨rfl, hb⟩
    have zz := hb.size; have zP := KP.out.lt
    clear d0 d1 d2
    have d0 := (KR.out.ext hb).cell (j := 0) (v := .slice aT n cT) rfl; have d1 := (KR.out.ext hb).cell (j := 1) (v := .int .i64 v) rfl; have d2 := (KR.out.ext hb).cell (j := 2) (v := .slice (some ⟨bP, 0, none⟩) d d) rfl
    have KQ := KRES.out.ext hb
    have s0 := KQ.cell (j := 0) (v := .slice none 0 0) rfl; have f0 := KQ.frozen 0
    have s1 := KQ.cell (j := 1) (v := .int .i64 0) rfl; have f1 := KQ.frozen 1
    have s2 := KQ.cell (j := 2) (v := .slice none 0 0) rfl; have f2 := KQ.frozen 2
    go_wp2
    refine bodyPost_ret (v := .tuple #[.agg #[.slice aT n cT, .int .i64 v, .slice (some ⟨bP, 0, none⟩) d d], .bool true]) (by simp [results, Try.results16, go_sem, *]) rfl ⟨aT, cT, some ⟨bP, 0, none⟩, d, rfl, ?_, ?_, ?_⟩
    · exact PtOwn.wide (show PtOwn (putAt w5 w.heap.size 0 [_, _, _]) _ _ _ _ from (OTT.out.ext hb).putT KQ (by decide)) (by omega) (by rw [size_set, size_set, size_set]; omega)
    · have hkp := KP.out.ext hb
      exact ints_made (M := M) (by (repeat' (first | (with_reducible assumption) | (with_reducible refine RowAt.other ?_ ?_ _))) <;> (try dsimp only) <;> omega) HM.out (by omega) (by rw [size_set, size_set, size_set]; omega)
    · exact (((HWC.out.trans hb).setCell (p := ⟨w.heap.size, 0, none⟩) (by dsimp only; omega) _).setCell (p := ⟨w.heap.size, 1, none⟩) (by dsimp only; omega) _).setCell (p := ⟨w.heap.size, 2, none⟩) (by dsimp only; omega) _
end Go.Proofs.Ytmppoflgbmabpaa
