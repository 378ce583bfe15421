/- ReformTrain, the reference. -/
import Derived.Test.YtmcmialaofckkaaProg
import Derived.Test.YtmcmialaofckkaaReform
namespace Go.Proofs.Ytmcmialaofckkaa
open Go.RowKit
set_option linter.unusedSimpArgs false
set_option linter.unusedVariables false

set_option maxRecDepth 100000 in
set_option maxHeartbeats 8000000 in
theorem specReform_any (u1 R : Bool) (r1 : List (List Bt)) (n1 : Nat) (u : Bool) (a : Option Addr) (n c : Nat) (rows : List (List Bt)) (W : Int) (w : World) (hn : n = rows.length) (hs : n ≤ 1048576) (ht : rows.flatten.length ≤ 1048576) (hf : RowsAt w a rows) (hiW : I64 W)
    (hR : refRes u rows W = (u1, r1, R)) (hn1 : n1 = r1.length) :
    Calls Try.prog 46 #[.agg #[.bool u, .slice a n c], .int .i64 W] w fun e w' => One w w' u1 R r1 n1 e := by
  have HF := Lib.hid hf; clear hf
  have HS := Lib.hid hs
  have HSM := Lib.hid (show n ≤ maxLen by unfold maxLen; omega)
  have HT := Lib.hid ht; clear ht
  have HN := Lib.hid hn; clear hn
  unfold I64 at hiW
  obtain ⟨ok, hok⟩ : ∃ ok, trainOk rows = ok := ⟨_, rfl⟩
  have OK := Lib.hid hok
  obtain ⟨flat, hfl⟩ : ∃ flat, flat = rows.flatten := ⟨_, rfl⟩
  obtain ⟨m, hm⟩ : ∃ m, m = flat.length := ⟨_, rfl⟩
  obtain ⟨X, hX⟩ : ∃ X, refGo W [] 0 flat = X := ⟨_, rfl⟩
  have HRES := Lib.hid (show refRes u rows W = if ok = true then (match X with | some x => (u, x, true) | none => (false, [], false)) else (false, [], false) by unfold refRes; rw [hok, ← hfl, hX]; rfl)
  rw [HRES.out] at hR
  cases ok
  · simp only [Bool.false_eq_true, if_false] at hR
    injection hR with hu hR
    injection hR with hr1 hR
    subst hu hR hr1
    have hz := Lib.hid (show n1 = 0 from hn1)
    clear hn1 hok hX hm hfl
    go_enter Try.func46, Try.ntmps46
    go_wp2_with fail
    (with_reducible refine (OK.out ▸ specTrainOk_any _ _ _ _ rows _ HN.out HS.out HT.out (HF.out.ext (by (repeat' (first | (with_reducible exact Ext.refl _) | (with_reducible assumption) | (with_reducible refine Ext.alloc ?_ _) | (with_reducible refine Ext.drewN ?_ _) | (with_reducible refine Ext.drew ?_) | (with_reducible refine Ext.setCell ?_ ?_ _) | (with_reducible exact Nat.le_refl _) | (with_reducible exact Nat.le_succ _) | (with_reducible refine Ext.trans ?_ (by assumption)) | (simp; done) | (simp; omega)))))).mono ?_); rintro e w1 ⟨rfl, hb1⟩
    have x0_1 := hb1
    obtain ⟨hc0_1, hf0_1⟩ := bcell x0_1.below
    have z0_1_0 : w.heap.size < w1.heap.size := by have h := x0_1.size; simp at h; omega
    have z0_1_1 : w.heap.size + 1 < w1.heap.size := by have h := x0_1.size; simp at h; omega
    have z0_1_2 : w.heap.size + 1 + 1 < w1.heap.size := by have h := x0_1.size; simp at h; omega
    go_wp2
    refine bodyPost_ret (v := .tuple #[.agg #[.bool false, .slice none 0 0], .bool false]) (by simp [results, Try.results46, go_sem, *]) rfl (One.zero hz.out (by (repeat' (first | (with_reducible exact Ext.refl _) | (with_reducible assumption) | (with_reducible refine Ext.alloc ?_ _) | (with_reducible refine Ext.drewN ?_ _) | (with_reducible refine Ext.drew ?_) | (with_reducible refine Ext.setCell ?_ ?_ _) | (with_reducible exact Nat.le_refl _) | (with_reducible exact Nat.le_succ _) | (with_reducible refine Ext.trans ?_ (by assumption)) | (simp; done) | (simp; omega)))))
  · simp only [if_true] at hR
    have hm6 : m ≤ 6 := by rw [hm, hfl]; exact (trainOk_true hok).2.2.2.1
    have HWB := Lib.hid (show ∀ b ∈ flat, 1 ≤ b.wid ∧ b.wid ≤ 30 from fun b hb => (bOk_bounds (boatsGo_ok _ _ (trainOk_true hok).2.2.2.2.2 b (by rw [← hfl]; exact hb))).2.2.1)
    have HFLAT := Lib.hid hfl
    have HM := Lib.hid hm
    have HX := Lib.hid hX
    have HR := Lib.hid hR
    have HN1 := Lib.hid hn1
    clear hok hfl hm hX hR hn1
    have T1 := (RowAt.new (w.alloc (.cells #[.bool u, .slice a n c] 26)) 26 #[.bool false, .slice none 0 0]).ext ((Ext.refl _).alloc (.cells #[.bool u, .slice none 0 0] 26))
    have T2 := RowAt.new ((w.alloc (.cells #[.bool u, .slice a n c] 26)).alloc (.cells #[.bool false, .slice none 0 0] 26)) 26 #[.bool u, .slice none 0 0]
    rw [World.size_alloc] at T1
    rw [World.size_alloc, World.size_alloc] at T2
    go_enter Try.func46, Try.ntmps46
    go_wp2_with fail
    (with_reducible refine (OK.out ▸ specTrainOk_any _ _ _ _ rows _ HN.out HS.out HT.out (HF.out.ext (by (repeat' (first | (with_reducible exact Ext.refl _) | (with_reducible assumption) | (with_reducible refine Ext.alloc ?_ _) | (with_reducible refine Ext.drewN ?_ _) | (with_reducible refine Ext.drew ?_) | (with_reducible refine Ext.setCell ?_ ?_ _) | (with_reducible exact Nat.le_refl _) | (with_reducible exact Nat.le_succ _) | (with_reducible refine Ext.trans ?_ (by assumption)) | (simp; done) | (simp; omega)))))).mono ?_); rintro e w1 ⟨rfl, hb1⟩
    have x0_1 := hb1
    obtain ⟨hc0_1, hf0_1⟩ := bcell x0_1.below
    have z0_1_0 : w.heap.size < w1.heap.size := by have h := x0_1.size; simp at h; omega
    have z0_1_1 : w.heap.size + 1 < w1.heap.size := by have h := x0_1.size; simp at h; omega
    have z0_1_2 : w.heap.size + 1 + 1 < w1.heap.size := by have h := x0_1.size; simp at h; omega
    go_wp2_with fail
    (with_reducible refine (specBoats_is _ _ _ _ rows _ HN.out HSM.out HT.out (HF.out.ext (Ext.trans ((((Ext.refl w).alloc _).alloc _).alloc _) x0_1)) HFLAT.out HM.out).mono ?_); rintro e w2 ⟨a9, c9, rfl, ⟨hflat, hnew⟩, hb2⟩
    have x1_2 := hb2
    have x0_2 : Ext _ w2 := x0_1.trans (Ext.trans (b := _) (by (repeat' (first | (with_reducible exact Ext.refl _) | (with_reducible assumption) | (with_reducible refine Ext.alloc ?_ _) | (with_reducible refine Ext.drewN ?_ _) | (with_reducible refine Ext.drew ?_) | (with_reducible refine Ext.setCell ?_ ?_ _) | (with_reducible exact Nat.le_refl _) | (with_reducible exact Nat.le_succ _) | (with_reducible refine Ext.trans ?_ (by assumption)) | (simp; done) | (simp; omega)))) hb2)
    obtain ⟨hc0_2, hf0_2⟩ := bcell x0_2.below
    have z0_2_0 : w.heap.size < w2.heap.size := by have h := x0_2.size; simp at h; omega
    have z0_2_1 : w.heap.size + 1 < w2.heap.size := by have h := x0_2.size; simp at h; omega
    have z0_2_2 : w.heap.size + 1 + 1 < w2.heap.size := by have h := x0_2.size; simp at h; omega
    have HFL := Lib.hid hflat; clear hflat
    have HT1 := Lib.hid (T1.ext x0_2)
    have HT2 := Lib.hid (T2.ext x0_2)
    have hw2 : Ext w w2 := Ext.trans ((((Ext.refl w).alloc _).alloc _).alloc _) x0_2
    have zz := HT2.out.lt
    have zz1 : w.heap.size + 1 + 1 < w1.heap.size := by have h := (T2.ext x0_1).lt; exact h
    have HNEW := Lib.hid (show ∀ ad, a9 = some ad → ad.block ≠ w.heap.size + 1 + 1 from fun ad e => by have := hnew ad e; omega)
    clear T1 T2 hnew hb1 hb2 x0_1 x0_2 x1_2 hc0_1 hc0_2 hf0_1 hf0_2
    go_wp2
    go_loopw [8, 9] (fun s i wr => ∃ (k p : Nat) (av : Option Addr) (cv : Nat) (vs : List Value) (acc : List (List Bt)) (used : Int), k ≤ m ∧ i = .int .i64 k ∧ s = .int .i64 used ∧ (0 ≤ used ∧ used ≤ 30 * (k : Int)) ∧ RowAt wr (w.heap.size + 1 + 1) 26 #[.bool u, .slice av p cv] ∧ Hid (w2.grownBy wr (some (w.heap.size + 1 + 1))) ∧ p ≤ k ∧ Hid (p = acc.length) ∧ Hid (∀ r ∈ acc, r.length ≤ k) ∧ Hid (GR wr w2.heap.size wr.heap.size (.slice av p cv) vs acc) ∧ Hid (X = refGo W acc used (flat.drop k))) (fun _ i _ => m - (intOf i).toNat)
    case atStart => exact ⟨0, 0, none, 0, [], [], 0, Nat.zero_le _, rfl, rfl, by omega, HT2.out, ⟨rfl, rfl, rfl, Nat.le_refl _, fun _ _ _ => rfl⟩, Nat.zero_le _, rfl, (fun r h => by cases h), GR.nil _ _ _, HX.out.symm⟩
    case round =>
      obtain ⟨k, p, av, cv, vs, acc, used, hk, rfl, rfl, hus, hbox, hgw, hpk, hp, hrl, hgr, hgo⟩ := hrel
      have hwr : Ext w wr := ⟨hgw.out.os.trans hw2.below.os, hgw.out.tape.trans hw2.below.tape, hgw.out.output.trans hw2.below.output, Nat.le_trans hw2.size hgw.out.size, fun k hk => (hgw.out.block k (Nat.lt_of_lt_of_le hk hw2.size) (fun e => by have := Option.some.inj e; omega)).trans (hw2.below.block k hk)⟩
      have HR1 := Lib.hid (show RowAt wr (w.heap.size + 1) 26 #[.bool false, .slice none 0 0] from (hgw.out.block _ HT1.out.lt (fun e => by have := Option.some.inj e; omega)).trans HT1.out)
      have ob1 : wr.cell? ⟨w.heap.size + 1 + 1, 1, none⟩ = some (.slice av p cv) := hbox.cell rfl
      have ob0 : wr.cell? ⟨w.heap.size + 1 + 1, 0, none⟩ = some (.bool u) := hbox.cell rfl
      have zob := hbox.lt
      have HBX := Lib.hid hbox; clear hbox
      by_cases hlt : k < m
      · have hlt' : k < flat.length := by rw [← HM.out]; exact hlt
        obtain ⟨b2, off2, rfl, hcell⟩ := (HFL.out.grown hgw.out HNEW.out).get k hlt'
        obtain ⟨bt, hbt⟩ : ∃ bt, flat[k] = bt := ⟨_, rfl⟩
        have hwb := HWB.out flat[k] (List.getElem_mem _)
        rw [hbt] at hcell hwb
        obtain ⟨bi, bl, bw, bd, bs, bc⟩ := bt
        have HG := Lib.hid (show X = refGo W acc used (⟨bi, bl, bw, bd, bs, bc⟩ :: flat.drop (k + 1)) by rw [hgo.out, List.drop_eq_getElem_cons hlt', hbt])
        clear hbt hgo
        dsimp only at hwb
        have g0 : wr.cell? ⟨b2, off2 + k * 6, none⟩ = some (.int .i64 bi) := hcell 0 _ rfl _ (Ext.refl _)
        have g1 : wr.cell? ⟨b2, off2 + k * 6 + 1, none⟩ = some (.int .i64 bl) := hcell 1 _ rfl _ (Ext.refl _)
        have g2 : wr.cell? ⟨b2, off2 + k * 6 + 2, none⟩ = some (.int .i64 bw) := hcell 2 _ rfl _ (Ext.refl _)
        have g3 : wr.cell? ⟨b2, off2 + k * 6 + 3, none⟩ = some (.int .i64 bd) := hcell 3 _ rfl _ (Ext.refl _)
        have g4 : wr.cell? ⟨b2, off2 + k * 6 + 4, none⟩ = some (.int .i64 bs) := hcell 4 _ rfl _ (Ext.refl _)
        have g5 : wr.cell? ⟨b2, off2 + k * 6 + 5, none⟩ = some (.int .i64 bc) := hcell 5 _ rfl _ (Ext.refl _)
        clear hcell
        have HG2 := Lib.hid (show X = if W < bw then none else if 0 < acc.length ∧ used + bw ≤ W then refGo W (addLast acc ⟨bi, bl, bw, bd, bs, bc⟩) (used + bw) (flat.drop (k + 1)) else refGo W (acc ++ [[⟨bi, bl, bw, bd, bs, bc⟩]]) bw (flat.drop (k + 1)) by rw [HG.out, refGo])
        clear HG
        have HB0 := Lib.hid (RowAt.new wr 32 #[.int .i64 bi, .int .i64 bl, .int .i64 bw, .int .i64 bd, .int .i64 bs, .int .i64 bc])
        have hszr := hgw.out.size
        by_cases c1 : W < bw
        · have hX := Lib.hid (show X = none by rw [HG2.out, if_pos c1])
          have hR := HR.out
          rw [hX.out] at hR
          injection hR with hu hR
          injection hR with hr1 hR
          subst hu hR hr1
          have hz := Lib.hid (show n1 = 0 from HN1.out)
          have q1 := HR1.out.ext ((Ext.refl wr).alloc (.cells #[.int .i64 bi, .int .i64 bl, .int .i64 bw, .int .i64 bd, .int .i64 bs, .int .i64 bc] 32))
          have q10 : (wr.alloc (.cells #[.int .i64 bi, .int .i64 bl, .int .i64 bw, .int .i64 bd, .int .i64 bs, .int .i64 bc] 32)).cell? ⟨w.heap.size + 1, 0, none⟩ = some (.bool false) := q1.cell rfl
          have q11 : (wr.alloc (.cells #[.int .i64 bi, .int .i64 bl, .int .i64 bw, .int .i64 bd, .int .i64 bs, .int .i64 bc] 32)).cell? ⟨w.heap.size + 1, 1, none⟩ = some (.slice none 0 0) := q1.cell rfl
          have f10 := q1.frozen 0
          have f11 := q1.frozen 1
          have hxx := hwr.trans ((Ext.refl wr).alloc (.cells #[.int .i64 bi, .int .i64 bl, .int .i64 bw, .int .i64 bd, .int .i64 bs, .int .i64 bc] 32))
          clear q1
          go_wp2
          refine bodyPost_ret (v := .tuple #[.agg #[.bool false, .slice none 0 0], .bool false]) (by simp [results, Try.results46, go_sem, *]) rfl (One.zero hz.out (by (repeat' (first | (with_reducible exact Ext.refl _) | (with_reducible assumption) | (with_reducible refine Ext.alloc ?_ _) | (with_reducible refine Ext.drewN ?_ _) | (with_reducible refine Ext.drew ?_) | (with_reducible refine Ext.setCell ?_ ?_ _) | (with_reducible exact Nat.le_refl _) | (with_reducible exact Nat.le_succ _) | (with_reducible refine Ext.trans ?_ (by assumption)) | (simp; done) | (simp; omega)))))
        by_cases c2 : 0 < p ∧ used + bw ≤ W
        · have hXX := Lib.hid (show X = refGo W (addLast acc ⟨bi, bl, bw, bd, bs, bc⟩) (used + bw) (flat.drop (k + 1)) by rw [HG2.out, if_neg c1, if_pos (by rw [← hp.out]; exact c2)])
          obtain ⟨c3, c4⟩ := c2
          obtain ⟨pp, rfl⟩ : ∃ pp, p = pp + 1 := ⟨p - 1, by omega⟩
          obtain ⟨g, cap, hv, _, hglt⟩ := World.ownsRow.form hgr.out.2.1 (by rw [← hp.out]; omega)
          injection hv with hva hvn hvc
          subst hva hvc
          clear hvn
          have hpp : pp < acc.length := by rw [← hp.out]; omega
          obtain ⟨uu, huu, hou, hdu⟩ := hgr.out.2.2.2 pp hpp
          obtain ⟨au, cu, rfl⟩ := hou.form
          obtain ⟨row, hrow⟩ : ∃ row, acc[pp] = row := ⟨_, rfl⟩
          have hrlen : row.length ≤ k := by rw [← hrow]; exact hrl.out _ (List.getElem_mem _)
          have HROW := Lib.hid (show acc.getD pp [] = row by rw [← hrow]; simp [hpp])
          rw [hrow] at hou huu hdu
          clear hrow
          obtain ⟨q, hq⟩ : ∃ q, row.length = q := ⟨_, rfl⟩
          rw [hq] at huu hou hdu hrlen
          have HQ := Lib.hid hq; clear hq
          have HVS := Lib.hid huu
          have HOU := Lib.hid hou; clear hou
          have HUB := Lib.hid (show ∀ g2, (Value.slice au q cu).ownBlock = some g2 → g2 < wr.heap.size from fun g2 hg2 => (hdu g2 hg2).1)
          have HUV := Lib.hid (show ∀ g2, (Value.slice au q cu).ownBlock = some g2 → (Value.slice (some ⟨g, 0, none⟩) (pp + 1) cv).ownBlock ≠ some g2 from fun g2 hg2 => (hdu g2 hg2).2.1)
          have e9 : wr.cell? ⟨g, pp, none⟩ = some (.slice au q cu) := by
            have h := World.ownsRow.cells hgr.out.2.1 (g := g) rfl pp _ huu
            rw [add_plain rfl] at h
            simpa using h
          clear huu hdu
          have HSK := Lib.hid (fun (w' : World) (h2 : RowAt w' (w.heap.size + 1 + 1) 26 #[.bool u, .slice (some ⟨g, 0, none⟩) (pp + 1) cv]) (h : RowAt w' wr.heap.size 32 #[.int .i64 bi, .int .i64 bl, .int .i64 bw, .int .i64 bd, .int .i64 bs, .int .i64 bc]) => (⟨h2.cell rfl, h.cell rfl, h.cell rfl, h.cell rfl, h.cell rfl, h.cell rfl, h.cell rfl⟩ : w'.cell? ⟨w.heap.size + 1 + 1, 1, none⟩ = some (.slice (some ⟨g, 0, none⟩) (pp + 1) cv) ∧ w'.cell? ⟨wr.heap.size, 0, none⟩ = some (.int .i64 bi) ∧ w'.cell? ⟨wr.heap.size, 1, none⟩ = some (.int .i64 bl) ∧ w'.cell? ⟨wr.heap.size, 2, none⟩ = some (.int .i64 bw) ∧ w'.cell? ⟨wr.heap.size, 3, none⟩ = some (.int .i64 bd) ∧ w'.cell? ⟨wr.heap.size, 4, none⟩ = some (.int .i64 bs) ∧ w'.cell? ⟨wr.heap.size, 5, none⟩ = some (.int .i64 bc)))
          have hi0 : (0 : Int) ≤ (pp : Int) := by omega
          have hi1 : (pp : Int) < (pp : Int) + 1 := by omega
          have HFO := Lib.hid (show FlatAt ((wr.alloc (.cells #[.int .i64 bi, .int .i64 bl, .int .i64 bw, .int .i64 bd, .int .i64 bs, .int .i64 bc] 32)).alloc (.cells #[.int .i64 bi, .int .i64 bl, .int .i64 bw, .int .i64 bd, .int .i64 bs, .int .i64 bc] 32)) bCells 6 (some ⟨wr.heap.size + 1, 0, none⟩) [⟨bi, bl, bw, bd, bs, bc⟩] from by
            have h := flat_one (wr.alloc (.cells #[.int .i64 bi, .int .i64 bl, .int .i64 bw, .int .i64 bd, .int .i64 bs, .int .i64 bc] 32)) bi bl bw bd bs bc
            rw [World.size_alloc] at h
            exact h)
          have HLEN := Lib.hid (show row.length + [(⟨bi, bl, bw, bd, bs, bc⟩ : Bt)].length ≤ 1048576 by rw [HQ.out]; simp; omega)
          have HO0 := Lib.hid (HBX.out.ext ((Ext.refl wr).alloc (.cells #[.int .i64 bi, .int .i64 bl, .int .i64 bw, .int .i64 bd, .int .i64 bs, .int .i64 bc] 32)))
          have hgge : w2.heap.size ≤ g := (ownsRow_lt hgr.out.2.1 rfl).1
          have hwp := IntWalk.i64_in (pp : Int) (by omega)
          go_wp2_with fail
          refine wp_region_held_drew (S := (fun w' => w'.cell? ⟨w.heap.size + 1 + 1, 1, none⟩ = some (.slice (some ⟨g, 0, none⟩) (pp + 1) cv) ∧ w'.cell? ⟨wr.heap.size, 0, none⟩ = some (.int .i64 bi) ∧ w'.cell? ⟨wr.heap.size, 1, none⟩ = some (.int .i64 bl) ∧ w'.cell? ⟨wr.heap.size, 2, none⟩ = some (.int .i64 bw) ∧ w'.cell? ⟨wr.heap.size, 3, none⟩ = some (.int .i64 bd) ∧ w'.cell? ⟨wr.heap.size, 4, none⟩ = some (.int .i64 bs) ∧ w'.cell? ⟨wr.heap.size, 5, none⟩ = some (.int .i64 bc))) (by kernel_rfl) ?_ (fun hH0 => ?_)
          · (try dsimp only)
            (exact HSK.out _ (by first | exact HO0.out | exact (HO0.out.ext ((Ext.refl _).alloc _)) | exact (HO0.out.ext (((Ext.refl _).alloc _).drew)) | exact HO12.out | exact (HO12.out.other (p := ⟨g, pp, none⟩) (by dsimp only; omega) _)) (by first | exact HB0.out | exact (HB0.out.ext ((Ext.refl _).alloc _)) | exact (HB0.out.ext (((Ext.refl _).alloc _).drew)) | exact HB12.out | exact (HB12.out.other (p := ⟨g, pp, none⟩) (by dsimp only; omega) _)))
          refine take_l 0 (v := ?_) rfl (by kernel_rfl) (by kernel_rfl) (by kernel_rfl) (fun _ _ _ h => h) (by rfl) ?_ (by assumption) ?_
          rotate_left
          · (intro w hSw; (try dsimp only at hSw); go_simp; (try with_reducible rfl))
          (try simp only [Act.put, List.setIfInBounds_toArray, List.set_cons_zero, List.set_cons_succ])
          refine take_l 1 (v := ?_) rfl (by kernel_rfl) (by kernel_rfl) (by kernel_rfl) (fun _ _ _ h => h) (by rfl) ?_ (by assumption) ?_
          rotate_left
          · (intro w hSw; (try dsimp only at hSw); go_simp; (try with_reducible rfl))
          (try simp only [Act.put, List.setIfInBounds_toArray, List.set_cons_zero, List.set_cons_succ])
          refine take_l 2 (v := ?_) rfl (by kernel_rfl) (by kernel_rfl) (by kernel_rfl) (fun _ _ _ h => h) (by rfl) ?_ (by assumption) ?_
          rotate_left
          · (intro w hSw; (try dsimp only at hSw); go_simp; (try with_reducible rfl))
          (try simp only [Act.put, List.setIfInBounds_toArray, List.set_cons_zero, List.set_cons_succ])
          refine take_l 3 (v := ?_) rfl (by kernel_rfl) (by kernel_rfl) (by kernel_rfl) (fun _ _ _ h => h) (by rfl) ?_ (by assumption) ?_
          rotate_left
          · (intro w hSw; (try dsimp only at hSw); go_simp; (try with_reducible rfl))
          (try simp only [Act.put, List.setIfInBounds_toArray, List.set_cons_zero, List.set_cons_succ])
          refine take_l 4 (v := ?_) rfl (by kernel_rfl) (by kernel_rfl) (by kernel_rfl) (fun _ _ _ h => h) (by rfl) ?_ (by assumption) ?_
          rotate_left
          · (intro w hSw; (try dsimp only at hSw); go_simp; (try with_reducible rfl))
          (try simp only [Act.put, List.setIfInBounds_toArray, List.set_cons_zero, List.set_cons_succ])
          refine take_l 5 (v := ?_) rfl (by kernel_rfl) (by kernel_rfl) (by kernel_rfl) (fun _ _ _ h => h) (by rfl) ?_ (by assumption) ?_
          rotate_left
          · (intro w hSw; (try dsimp only at hSw); go_simp; (try with_reducible rfl))
          (try simp only [Act.put, List.setIfInBounds_toArray, List.set_cons_zero, List.set_cons_succ])
          refine take_l 6 (v := ?_) rfl (by kernel_rfl) (by kernel_rfl) (by kernel_rfl) (fun _ _ _ h => h) (by rfl) ?_ (by assumption) ?_
          rotate_left
          · (intro w hSw; (try dsimp only at hSw); go_simp; (try with_reducible rfl))
          (try simp only [Act.put, List.setIfInBounds_toArray, List.set_cons_zero, List.set_cons_succ])
          refine take_l 7 (v := ?_) rfl (by kernel_rfl) (by kernel_rfl) (by kernel_rfl) (fun _ _ _ h => h) (by rfl) ?_ (by assumption) ?_
          rotate_left
          · (intro w hSw; (try dsimp only at hSw); go_simp; (try with_reducible rfl))
          (try simp only [Act.put, List.setIfInBounds_toArray, List.set_cons_zero, List.set_cons_succ])
          refine take_l 8 (v := ?_) rfl (by kernel_rfl) (by kernel_rfl) (by kernel_rfl) (fun _ _ _ h => h) (by rfl) ?_ (by assumption) ?_
          rotate_left
          · (intro w hSw; (try dsimp only at hSw); go_simp; (try with_reducible rfl))
          (try simp only [Act.put, List.setIfInBounds_toArray, List.set_cons_zero, List.set_cons_succ])
          refine take_l 10 (v := ?_) rfl (by kernel_rfl) (by kernel_rfl) (by kernel_rfl) (fun _ _ _ h => h) (by rfl) ?_ (by assumption) ?_
          rotate_left
          · (intro w hSw; (try dsimp only at hSw); go_simp; (try with_reducible rfl))
          (try simp only [Act.put, List.setIfInBounds_toArray, List.set_cons_zero, List.set_cons_succ])
          refine wpAnyH_ready (rs := [9, 11]) (by kernel_rfl) (by simp) ?_
          refine cons_l (i := 9) rfl (fun K hK => ?_) ?_
          go_simp
          refine hK.out _ _ ?_ (fun hH1 => ?_)
          · (try dsimp only)
            (exact HSK.out _ (by first | exact HO0.out | exact (HO0.out.ext ((Ext.refl _).alloc _)) | exact (HO0.out.ext (((Ext.refl _).alloc _).drew)) | exact HO12.out | exact (HO12.out.other (p := ⟨g, pp, none⟩) (by dsimp only; omega) _)) (by first | exact HB0.out | exact (HB0.out.ext ((Ext.refl _).alloc _)) | exact (HB0.out.ext (((Ext.refl _).alloc _).drew)) | exact HB12.out | exact (HB12.out.other (p := ⟨g, pp, none⟩) (by dsimp only; omega) _)))
          clear hK K hH0
          (try simp only [Act.put, List.setIfInBounds_toArray, List.set_cons_zero, List.set_cons_succ])
          refine wpAnyH_ready (rs := [11]) (by kernel_rfl) (by simp) ?_
          refine cons_l (i := 11) rfl (fun K hK => ?_) ?_
          go_simp
          refine hK.out _ _ ?_ (fun hH2 => ?_)
          · (try dsimp only)
            (exact HSK.out _ (by first | exact HO0.out | exact (HO0.out.ext ((Ext.refl _).alloc _)) | exact (HO0.out.ext (((Ext.refl _).alloc _).drew)) | exact HO12.out | exact (HO12.out.other (p := ⟨g, pp, none⟩) (by dsimp only; omega) _)) (by first | exact HB0.out | exact (HB0.out.ext ((Ext.refl _).alloc _)) | exact (HB0.out.ext (((Ext.refl _).alloc _).drew)) | exact HB12.out | exact (HB12.out.other (p := ⟨g, pp, none⟩) (by dsimp only; omega) _)))
          clear hK K hH1
          (try simp only [Act.put, List.setIfInBounds_toArray, List.set_cons_zero, List.set_cons_succ])
          refine wpAnyH_ready (rs := [12]) (by kernel_rfl) (by simp) ?_
          refine cons_l (i := 12) rfl (fun K hK => ?_) ?_
          refine step_of_wp _ rfl (wp_append_row _ _ rfl w2.heap.size (.slice au q cu) row [⟨bi, bl, bw, bd, bs, bc⟩] (by rfl) (HOU.out.ext (((Ext.refl wr).alloc _).alloc _).drew) (some ⟨wr.heap.size + 1, 0, none⟩) 1 1 rfl (by rfl) (fun h => by cases h) (FlatAt.ext HFO.out ((Ext.refl _).drew)) HLEN.out (by simp; omega) ?_); intro u' w12 hown12 hg12 hat12; obtain ⟨g', cap', rfl, _, _⟩ := World.ownsRow.form hown12 (by simp); have hlen' : (row ++ [(⟨bi, bl, bw, bd, bs, bc⟩ : Bt)]).length = q + 1 := (by rw [List.length_append, HQ.out]; rfl); rw [hlen'] at hown12 hat12 ⊢; clear hlen'; have hg2w := Lib.hid (grown_step hgw.out (((Ext.refl wr).alloc _).alloc _).drew hg12 (fun g2 hg2 => .inr (ownsRow_lt HOU.out hg2).1)); have HO12 := Lib.hid (RowAt.own (show RowAt (World.drew ((wr.alloc (.cells #[.int .i64 bi, .int .i64 bl, .int .i64 bw, .int .i64 bd, .int .i64 bs, .int .i64 bc] 32)).alloc (.cells #[.int .i64 bi, .int .i64 bl, .int .i64 bw, .int .i64 bd, .int .i64 bs, .int .i64 bc] 32))) (w.heap.size + 1 + 1) 26 #[.bool u, .slice (some ⟨g, 0, none⟩) (pp + 1) cv] from HO0.out.ext (((Ext.refl _).alloc _).drew)) hg12 (fun g2 hg2 => by have := (ownsRow_lt HOU.out hg2).1; omega)); have HB12 := Lib.hid (RowAt.own (show RowAt (World.drew ((wr.alloc (.cells #[.int .i64 bi, .int .i64 bl, .int .i64 bw, .int .i64 bd, .int .i64 bs, .int .i64 bc] 32)).alloc (.cells #[.int .i64 bi, .int .i64 bl, .int .i64 bw, .int .i64 bd, .int .i64 bs, .int .i64 bc] 32))) wr.heap.size 32 #[.int .i64 bi, .int .i64 bl, .int .i64 bw, .int .i64 bd, .int .i64 bs, .int .i64 bc] from HB0.out.ext (((Ext.refl _).alloc _).drew)) hg12 (fun g2 hg2 => by have := HUB.out g2 hg2; omega)); have HGG := Lib.hid (ownsRow_kept (ownsRow_ext hgr.out.2.1 (((Ext.refl wr).alloc _).alloc _).drew) hg12 (fun g2 hg2 e => HUV.out g2 e hg2)); have HWO := Lib.hid hown12; have HGW := Lib.hid hg12; have HAT := Lib.hid hat12; clear hown12 hg12 hat12; obtain ⟨cur, hcur⟩ := ownsRow_type HGG.out rfl; have f14 := hcur.frozen pp; have e14 := World.ownsRow.cells HGG.out (g := g) rfl pp _ HVS.out; (try rw [add_plain rfl] at e14); (try simp only [Nat.zero_add] at e14); have zg12 := hcur.lt; clear hcur
          refine hK.out _ _ ?_ (fun hH3 => ?_)
          · (try dsimp only)
            (exact HSK.out _ (by first | exact HO0.out | exact (HO0.out.ext ((Ext.refl _).alloc _)) | exact (HO0.out.ext (((Ext.refl _).alloc _).drew)) | exact HO12.out | exact (HO12.out.other (p := ⟨g, pp, none⟩) (by dsimp only; omega) _)) (by first | exact HB0.out | exact (HB0.out.ext ((Ext.refl _).alloc _)) | exact (HB0.out.ext (((Ext.refl _).alloc _).drew)) | exact HB12.out | exact (HB12.out.other (p := ⟨g, pp, none⟩) (by dsimp only; omega) _)))
          clear hK K hH2
          (try simp only [Act.put, List.setIfInBounds_toArray, List.set_cons_zero, List.set_cons_succ])
          refine take_l 13 (v := ?_) rfl (by kernel_rfl) (by kernel_rfl) (by kernel_rfl) (fun _ _ _ h => h) (by rfl) ?_ (by assumption) ?_
          rotate_left
          · (intro w hSw; (try dsimp only at hSw); go_simp; (try with_reducible rfl))
          (try simp only [Act.put, List.setIfInBounds_toArray, List.set_cons_zero, List.set_cons_succ])
          refine wpAnyH_ready (rs := [14]) (by kernel_rfl) (by simp) ?_
          refine cons_l (i := 14) rfl (fun K hK => ?_) ?_
          go_simp
          refine hK.out _ _ ?_ (fun hH4 => ?_)
          · (try dsimp only)
            (exact HSK.out _ (by first | exact HO0.out | exact (HO0.out.ext ((Ext.refl _).alloc _)) | exact (HO0.out.ext (((Ext.refl _).alloc _).drew)) | exact HO12.out | exact (HO12.out.other (p := ⟨g, pp, none⟩) (by dsimp only; omega) _)) (by first | exact HB0.out | exact (HB0.out.ext ((Ext.refl _).alloc _)) | exact (HB0.out.ext (((Ext.refl _).alloc _).drew)) | exact HB12.out | exact (HB12.out.other (p := ⟨g, pp, none⟩) (by dsimp only; omega) _)))
          clear hK K hH3
          (try simp only [Act.put, List.setIfInBounds_toArray, List.set_cons_zero, List.set_cons_succ])
          refine wpAnyH_done (by kernel_rfl) ?_ _
          rotate_left
          exact AllReadyH.nil
          exact AllReadyH.nil
          exact AllReadyH.nil
          refine cons_l (i := 11) rfl (fun K hK => ?_) ?_
          go_simp
          refine hK.out _ _ ?_ (fun hH1 => ?_)
          · (try dsimp only)
            (exact HSK.out _ (by first | exact HO0.out | exact (HO0.out.ext ((Ext.refl _).alloc _)) | exact (HO0.out.ext (((Ext.refl _).alloc _).drew)) | exact HO12.out | exact (HO12.out.other (p := ⟨g, pp, none⟩) (by dsimp only; omega) _)) (by first | exact HB0.out | exact (HB0.out.ext ((Ext.refl _).alloc _)) | exact (HB0.out.ext (((Ext.refl _).alloc _).drew)) | exact HB12.out | exact (HB12.out.other (p := ⟨g, pp, none⟩) (by dsimp only; omega) _)))
          clear hK K hH0
          (try simp only [Act.put, List.setIfInBounds_toArray, List.set_cons_zero, List.set_cons_succ])
          refine wpAnyH_ready (rs := [9]) (by kernel_rfl) (by simp) ?_
          refine cons_l (i := 9) rfl (fun K hK => ?_) ?_
          go_simp
          refine hK.out _ _ ?_ (fun hH2 => ?_)
          · (try dsimp only)
            (exact HSK.out _ (by first | exact HO0.out | exact (HO0.out.ext ((Ext.refl _).alloc _)) | exact (HO0.out.ext (((Ext.refl _).alloc _).drew)) | exact HO12.out | exact (HO12.out.other (p := ⟨g, pp, none⟩) (by dsimp only; omega) _)) (by first | exact HB0.out | exact (HB0.out.ext ((Ext.refl _).alloc _)) | exact (HB0.out.ext (((Ext.refl _).alloc _).drew)) | exact HB12.out | exact (HB12.out.other (p := ⟨g, pp, none⟩) (by dsimp only; omega) _)))
          clear hK K hH1
          (try simp only [Act.put, List.setIfInBounds_toArray, List.set_cons_zero, List.set_cons_succ])
          refine wpAnyH_ready (rs := [12]) (by kernel_rfl) (by simp) ?_
          refine cons_l (i := 12) rfl (fun K hK => ?_) ?_
          refine step_of_wp _ rfl (wp_append_row _ _ rfl w2.heap.size (.slice au q cu) row [⟨bi, bl, bw, bd, bs, bc⟩] (by rfl) (HOU.out.ext (((Ext.refl wr).alloc _).alloc _).drew) (some ⟨wr.heap.size + 1, 0, none⟩) 1 1 rfl (by rfl) (fun h => by cases h) (FlatAt.ext HFO.out ((Ext.refl _).drew)) HLEN.out (by simp; omega) ?_); intro u' w12 hown12 hg12 hat12; obtain ⟨g', cap', rfl, _, _⟩ := World.ownsRow.form hown12 (by simp); have hlen' : (row ++ [(⟨bi, bl, bw, bd, bs, bc⟩ : Bt)]).length = q + 1 := (by rw [List.length_append, HQ.out]; rfl); rw [hlen'] at hown12 hat12 ⊢; clear hlen'; have hg2w := Lib.hid (grown_step hgw.out (((Ext.refl wr).alloc _).alloc _).drew hg12 (fun g2 hg2 => .inr (ownsRow_lt HOU.out hg2).1)); have HO12 := Lib.hid (RowAt.own (show RowAt (World.drew ((wr.alloc (.cells #[.int .i64 bi, .int .i64 bl, .int .i64 bw, .int .i64 bd, .int .i64 bs, .int .i64 bc] 32)).alloc (.cells #[.int .i64 bi, .int .i64 bl, .int .i64 bw, .int .i64 bd, .int .i64 bs, .int .i64 bc] 32))) (w.heap.size + 1 + 1) 26 #[.bool u, .slice (some ⟨g, 0, none⟩) (pp + 1) cv] from HO0.out.ext (((Ext.refl _).alloc _).drew)) hg12 (fun g2 hg2 => by have := (ownsRow_lt HOU.out hg2).1; omega)); have HB12 := Lib.hid (RowAt.own (show RowAt (World.drew ((wr.alloc (.cells #[.int .i64 bi, .int .i64 bl, .int .i64 bw, .int .i64 bd, .int .i64 bs, .int .i64 bc] 32)).alloc (.cells #[.int .i64 bi, .int .i64 bl, .int .i64 bw, .int .i64 bd, .int .i64 bs, .int .i64 bc] 32))) wr.heap.size 32 #[.int .i64 bi, .int .i64 bl, .int .i64 bw, .int .i64 bd, .int .i64 bs, .int .i64 bc] from HB0.out.ext (((Ext.refl _).alloc _).drew)) hg12 (fun g2 hg2 => by have := HUB.out g2 hg2; omega)); have HGG := Lib.hid (ownsRow_kept (ownsRow_ext hgr.out.2.1 (((Ext.refl wr).alloc _).alloc _).drew) hg12 (fun g2 hg2 e => HUV.out g2 e hg2)); have HWO := Lib.hid hown12; have HGW := Lib.hid hg12; have HAT := Lib.hid hat12; clear hown12 hg12 hat12; obtain ⟨cur, hcur⟩ := ownsRow_type HGG.out rfl; have f14 := hcur.frozen pp; have e14 := World.ownsRow.cells HGG.out (g := g) rfl pp _ HVS.out; (try rw [add_plain rfl] at e14); (try simp only [Nat.zero_add] at e14); have zg12 := hcur.lt; clear hcur
          refine hK.out _ _ ?_ (fun hH3 => ?_)
          · (try dsimp only)
            (exact HSK.out _ (by first | exact HO0.out | exact (HO0.out.ext ((Ext.refl _).alloc _)) | exact (HO0.out.ext (((Ext.refl _).alloc _).drew)) | exact HO12.out | exact (HO12.out.other (p := ⟨g, pp, none⟩) (by dsimp only; omega) _)) (by first | exact HB0.out | exact (HB0.out.ext ((Ext.refl _).alloc _)) | exact (HB0.out.ext (((Ext.refl _).alloc _).drew)) | exact HB12.out | exact (HB12.out.other (p := ⟨g, pp, none⟩) (by dsimp only; omega) _)))
          clear hK K hH2
          (try simp only [Act.put, List.setIfInBounds_toArray, List.set_cons_zero, List.set_cons_succ])
          refine take_l 13 (v := ?_) rfl (by kernel_rfl) (by kernel_rfl) (by kernel_rfl) (fun _ _ _ h => h) (by rfl) ?_ (by assumption) ?_
          rotate_left
          · (intro w hSw; (try dsimp only at hSw); go_simp; (try with_reducible rfl))
          (try simp only [Act.put, List.setIfInBounds_toArray, List.set_cons_zero, List.set_cons_succ])
          refine wpAnyH_ready (rs := [14]) (by kernel_rfl) (by simp) ?_
          refine cons_l (i := 14) rfl (fun K hK => ?_) ?_
          go_simp
          refine hK.out _ _ ?_ (fun hH4 => ?_)
          · (try dsimp only)
            (exact HSK.out _ (by first | exact HO0.out | exact (HO0.out.ext ((Ext.refl _).alloc _)) | exact (HO0.out.ext (((Ext.refl _).alloc _).drew)) | exact HO12.out | exact (HO12.out.other (p := ⟨g, pp, none⟩) (by dsimp only; omega) _)) (by first | exact HB0.out | exact (HB0.out.ext ((Ext.refl _).alloc _)) | exact (HB0.out.ext (((Ext.refl _).alloc _).drew)) | exact HB12.out | exact (HB12.out.other (p := ⟨g, pp, none⟩) (by dsimp only; omega) _)))
          clear hK K hH3
          (try simp only [Act.put, List.setIfInBounds_toArray, List.set_cons_zero, List.set_cons_succ])
          refine wpAnyH_done (by kernel_rfl) ?_ _
          rotate_left
          exact AllReadyH.nil
          exact AllReadyH.nil
          exact AllReadyH.nil
          exact AllReadyH.nil
          all_goals
            have YG := Lib.hid (GR.growLast (b := ⟨bi, bl, bw, bd, bs, bc⟩) hgr.out hp.out.symm rfl HVS.out (((Ext.refl wr).alloc (.cells #[.int .i64 bi, .int .i64 bl, .int .i64 bw, .int .i64 bd, .int .i64 bs, .int .i64 bc] 32)).alloc (.cells #[.int .i64 bi, .int .i64 bl, .int .i64 bw, .int .i64 bd, .int .i64 bs, .int .i64 bc] 32)).drew (Nat.le_refl _) (by rw [HROW.out]; exact HWO.out) HGW.out HAT.out)
            have YB := HB12.out.other (p := ⟨g, pp, none⟩) (by dsimp only; omega) (.slice (some ⟨g', 0, none⟩) (q + 1) cap')
            have y2 : (w12.setCell ⟨g, pp, none⟩ (.slice (some ⟨g', 0, none⟩) (q + 1) cap')).cell? ⟨wr.heap.size, 2, none⟩ = some (.int .i64 bw) := YB.cell rfl
            have YX := Lib.hid (grown_step hg2w.out (Ext.refl _) (grownBy_set w12 ⟨g, pp, none⟩ (.slice (some ⟨g', 0, none⟩) (q + 1) cap')) (fun g2 hg2 => by cases hg2; exact .inr hgge))
            have YO := Lib.hid (HO12.out.other (p := ⟨g, pp, none⟩) (by dsimp only; omega) (.slice (some ⟨g', 0, none⟩) (q + 1) cap'))
            have YR := Lib.hid (show ∀ r ∈ addLast acc ⟨bi, bl, bw, bd, bs, bc⟩, r.length ≤ k + 1 from fun r hr' => by
              rcases List.mem_or_eq_of_mem_set hr' with h | h
              · have := hrl.out r h
                omega
              · rw [h, show acc.length - 1 = pp by rw [← hp.out]; rfl, HROW.out, List.length_append, HQ.out]
                simp
                omega)
            clear YB
            go_wp2
            go_roundw
            case rel => exact ⟨k + 1, pp + 1, _, cv, _, _, used + bw, by omega, by go_num, rfl, by omega, YO.out, YX.out, by omega, by (show _ = _); rw [addLast_len]; exact hp.out, YR.out, YG.out, hXX.out⟩
            case measure => simp [intOf]; omega
        · have hXX := Lib.hid (show X = refGo W (acc ++ [[⟨bi, bl, bw, bd, bs, bc⟩]]) bw (flat.drop (k + 1)) by rw [HG2.out, if_neg c1, if_neg (by rw [← hp.out]; exact c2)])
          have c3 : p = 0 ∨ (0 < p ∧ W < used + bw) := by omega
          clear c2
          have HOW := Lib.hid (ownsRow_ext hgr.out.2.1 ((((Ext.refl wr).alloc (.cells #[.int .i64 bi, .int .i64 bl, .int .i64 bw, .int .i64 bd, .int .i64 bs, .int .i64 bc] 32)).alloc (.cells #[.int .i64 bi, .int .i64 bl, .int .i64 bw, .int .i64 bd, .int .i64 bs, .int .i64 bc] 32)).alloc (.cells #[(.slice (some ⟨wr.heap.size + 1, 0, none⟩) 1 1)] 33)))
          rw [← hp.out] at HOW
          have HON := Lib.hid (by
            have h := one_new ((wr.alloc (.cells #[.int .i64 bi, .int .i64 bl, .int .i64 bw, .int .i64 bd, .int .i64 bs, .int .i64 bc] 32)).alloc (.cells #[.int .i64 bi, .int .i64 bl, .int .i64 bw, .int .i64 bd, .int .i64 bs, .int .i64 bc] 32)) 33 (.slice (some ⟨wr.heap.size + 1, 0, none⟩) 1 1)
            rw [World.size_alloc, World.size_alloc] at h
            exact h)
          have HSG := Lib.hid (show OwnRow (((wr.alloc (.cells #[.int .i64 bi, .int .i64 bl, .int .i64 bw, .int .i64 bd, .int .i64 bs, .int .i64 bc] 32)).alloc (.cells #[.int .i64 bi, .int .i64 bl, .int .i64 bw, .int .i64 bd, .int .i64 bs, .int .i64 bc] 32)).alloc (.cells #[.slice (some ⟨wr.heap.size + 1, 0, none⟩) 1 1] 33)) w2.heap.size (.slice (some ⟨wr.heap.size + 1, 0, none⟩) 1 1) [⟨bi, bl, bw, bd, bs, bc⟩] from by
            have h := OwnRow.sing (wr.alloc (.cells #[.int .i64 bi, .int .i64 bl, .int .i64 bw, .int .i64 bd, .int .i64 bs, .int .i64 bc] 32)) ⟨bi, bl, bw, bd, bs, bc⟩
            rw [World.size_alloc] at h
            exact ownsRow_low (h.ext ((Ext.refl _).alloc _)) (by omega))
          have HXW := Lib.hid ((((Ext.refl wr).alloc (.cells #[.int .i64 bi, .int .i64 bl, .int .i64 bw, .int .i64 bd, .int .i64 bs, .int .i64 bc] 32)).alloc (.cells #[.int .i64 bi, .int .i64 bl, .int .i64 bw, .int .i64 bd, .int .i64 bs, .int .i64 bc] 32)).alloc (.cells #[(.slice (some ⟨wr.heap.size + 1, 0, none⟩) 1 1)] 33))
          have HVL := Lib.hid hgr.out.2.2.1
          rcases c3 with rfl | ⟨c3, c4⟩
          all_goals
            go_wp2_with (at_builtin; refine wpList_plain rfl fun K hK => wp_append_outer _ _ rfl w2.heap.size _ _ vs rfl HOW.out (some ⟨wr.heap.size + 1 + 1, 0, none⟩) 1 1 rfl [(.slice (some ⟨wr.heap.size + 1, 0, none⟩) 1 1)] rfl (fun h => by cases h) HON.out (fun x hx => by cases List.mem_singleton.1 hx; rfl) (by omega) (by simp; omega) ?_)
            intro v' w5 hown5 hg5 hat5
            have hform := World.ownsRow.form hown5 (by omega)
            obtain ⟨g', cap', hv', _, _⟩ := hform
            obtain ⟨NN, hNN, hv2⟩ : ∃ NN, NN = acc.length + 1 ∧ v' = .slice (some ⟨g', 0, none⟩) NN cap' := ⟨_, by rw [← hp.out], hv'⟩
            clear hv'
            subst hv2
            have HNN := Lib.hid hNN
            have hNk : NN ≤ k + 1 := by have := hp.out; omega
            clear hNN
            have YG0 := GR.push (row := [⟨bi, bl, bw, bd, bs, bc⟩]) hgr.out (Nat.le_refl _) HXW.out HSG.out (fun g hg => by cases hg; exact Nat.le_succ _) (by rw [← hp.out]; exact hown5) hg5 (by first | exact hat5 | (simp only [World.size_alloc]; exact hat5))
            have HVG : ∀ g, (Value.slice av _ cv).ownBlock = some g → w2.heap.size ≤ g := fun g hg => (ownsRow_lt hgr.out.2.1 hg).1
            have YB0 := Lib.hid (RowAt.own (HB0.out.ext (((Ext.refl _).alloc (.cells #[.int .i64 bi, .int .i64 bl, .int .i64 bw, .int .i64 bd, .int .i64 bs, .int .i64 bc] 32)).alloc (.cells #[(.slice (some ⟨wr.heap.size + 1, 0, none⟩) 1 1)] 33))) hg5 (fun g hg => by have := HVL.out g hg; omega))
            have YO0 := (HBX.out.ext HXW.out).own hg5 (fun g hg => by have := HVG g hg; omega)
            have o1 : w5.cell? ⟨w.heap.size + 1 + 1, 1, none⟩ = some (.slice av _ cv) := YO0.cell rfl
            have o2 := YO0.frozen 1
            have zo5 := YO0.lt
            have YW0 := Lib.hid (grown_step hgw.out HXW.out hg5 (fun g hg => .inr (HVG g hg)))
            have YO := Lib.hid (YO0.set 1 (.slice (some ⟨g', 0, none⟩) NN cap'))
            have YB := YB0.out.other (p := ⟨w.heap.size + 1 + 1, 1, none⟩) (by dsimp only; omega) (.slice (some ⟨g', 0, none⟩) NN cap')
            have YG := Lib.hid ((YG0.set (p := ⟨w.heap.size + 1 + 1, 1, none⟩) (.inl (by dsimp only; omega)) (.slice (some ⟨g', 0, none⟩) NN cap')).wide (hi' := (w5.setCell ⟨w.heap.size + 1 + 1, 1, none⟩ (.slice (some ⟨g', 0, none⟩) NN cap')).heap.size) (Nat.le_refl _) (by rw [size_setCell']; exact Nat.le_refl _))
            have YW := Lib.hid (grown_step YW0.out (Ext.refl _) (grownBy_set w5 ⟨w.heap.size + 1 + 1, 1, none⟩ (.slice (some ⟨g', 0, none⟩) NN cap')) (fun g2 hg2 => by cases hg2; exact .inl rfl))
            have y2 := YB.cell (j := 2) (v := .int .i64 bw) rfl
            have YR := Lib.hid (show ∀ r ∈ acc ++ [[⟨bi, bl, bw, bd, bs, bc⟩]], r.length ≤ k + 1 from fun r hr' => by
              rcases List.mem_append.1 hr' with h | h
              · have := hrl.out r h
                omega
              · rw [List.mem_singleton.1 h]
                simp)
            clear YB hown5 hg5 hat5 YG0 YO0 HVG
            refine hK _ _ ?_
            clear hK K
            go_wp2
            go_roundw
            case rel => exact ⟨k + 1, NN, _, cap', _, _, bw, by omega, by go_num, rfl, by omega, YO.out, YW.out, hNk, by (show _ = _); rw [List.length_append, HNN.out]; rfl, YR.out, YG.out, hXX.out⟩
            case measure => simp [intOf]; omega
      · have hX := Lib.hid (show X = some acc by rw [hgo.out, List.drop_eq_nil_of_le (by have := HM.out; omega)]; rfl)
        clear hgo
        have hR := HR.out
        rw [hX.out] at hR
        injection hR with hu hR
        injection hR with hr1 hR
        subst hu hR
        have hz := Lib.hid (show n1 = p by rw [HN1.out, ← hr1, hp.out])
        have HE := Lib.hid hr1; clear hr1
        have q1 := HR1.out
        have q10 : wr.cell? ⟨w.heap.size + 1, 0, none⟩ = some (.bool false) := q1.cell rfl
        have q11 : wr.cell? ⟨w.heap.size + 1, 1, none⟩ = some (.slice none 0 0) := q1.cell rfl
        have f10 := q1.frozen 0
        have f11 := q1.frozen 1
        have hxx := hwr
        have hsr := hgw.out.size
        have hs2 := hw2.size
        clear q1
        go_wp2
        refine bodyPost_ret (v := .tuple #[.agg #[.bool u, .slice av p cv], .bool true]) (by simp [results, Try.results46, go_sem, *]) rfl ⟨av, cv, by rw [hz.out], ?_, by (repeat' (first | (with_reducible exact Ext.refl _) | (with_reducible assumption) | (with_reducible refine Ext.alloc ?_ _) | (with_reducible refine Ext.drewN ?_ _) | (with_reducible refine Ext.drew ?_) | (with_reducible refine Ext.setCell ?_ ?_ _) | (with_reducible exact Nat.le_refl _) | (with_reducible exact Nat.le_succ _) | (with_reducible refine Ext.trans ?_ (by assumption)) | (simp; done) | (simp; omega)))⟩
        rw [← HE.out]
        exact (((hgr.out.set (p := ⟨w.heap.size + 1, 0, none⟩) (.inl (by simp; try omega)) _).set (p := ⟨w.heap.size + 1, 1, none⟩) (.inl (by simp; try omega)) _).wide (by omega) (by simp [size_setCell'])).ownAt
end Go.Proofs.Ytmcmialaofckkaa
