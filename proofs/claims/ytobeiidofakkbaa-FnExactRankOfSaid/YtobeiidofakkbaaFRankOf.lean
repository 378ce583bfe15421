/- For every call, the program and the reference agree on whether it is valid. -/
import Derived.Test.YtobeiidofakkbaaRows
import Derived.Test.YtobeiidofakkbaaHead
import Derived.Test.YtobeiidofakkbaaOpenC
import Derived.Test.YtobeiidofakkbaaRank
import Derived.Deep.RegionHeld3
namespace Go.Proofs.Ytobeiidofakkbaa.lawRankOf
open Go.ChangeShapes Go.WideShapes Go.ChangeAt Go.RowKit Go.Joins
set_option linter.unusedVariables false
set_option linter.unusedSimpArgs false

set_option maxHeartbeats 2000000 in
theorem walk (u : Bool) (a : Option Addr) (n c : Nat) (si bo now : Int) (rows : List (List Bt)) (w : World) (hn : n = rows.length) (hs : n ≤ maxLen) (hf : RowsAt w a rows) :
    Calls Try.prog 10 #[.agg #[.bool u, .slice a n c, .int .i64 si, .int .i64 bo], .int .i64 now] w fun e w' => e = .returned (.bool true) ∧ Ext w w' := by
  have HF := Lib.hid hf; clear hf
  by_cases hsz : szRows 1048576 rows < 0
  · have HN := Lib.hid hn; clear hn
    have HS := Lib.hid hs; clear hs
    have HSZ := Lib.hid hsz
    obtain ⟨z, hz⟩ : ∃ z, szRows 1048576 rows = z := ⟨_, rfl⟩
    rw [hz] at hsz
    have HZ := Lib.hid hz; clear hz
    have d0 : decide (z < 0) = true := by simpa using hsz
    go_enter Try.func10, Try.ntmps10
    go_wp2_with fail
    (with_reducible refine (szCall_any z _ _ _ _ _ _ rows _ HN.out HS.out (by decide) (by decide) _ (HF.out.ext (by (repeat' (first | (with_reducible exact Ext.refl _) | (with_reducible assumption) | (with_reducible refine Ext.alloc ?_ _) | (with_reducible refine Ext.drewN ?_ _) | (with_reducible refine Ext.drew ?_) | (with_reducible refine Ext.setCell ?_ ?_ _) | (with_reducible exact Nat.le_refl _) | (with_reducible exact Nat.le_succ _) | (with_reducible refine Ext.trans ?_ (by assumption)) | (simp; done) | (simp; omega))))) HZ.out).mono ?_); rintro e w1 ⟨rfl, hb1⟩
    have x0_1 := hb1
    obtain ⟨hc0_1, hf0_1⟩ := bcell x0_1.below
    have z0_1_0 : w.heap.size < w1.heap.size := by have h := x0_1.size; simp at h; omega
    rw [if_pos hsz]
    go_wp2
    go_ret
    exact ⟨rfl, by (repeat' (first | (with_reducible exact Ext.refl _) | (with_reducible assumption) | (with_reducible refine Ext.alloc ?_ _) | (with_reducible refine Ext.drewN ?_ _) | (with_reducible refine Ext.drew ?_) | (with_reducible refine Ext.setCell ?_ ?_ _) | (with_reducible exact Nat.le_refl _) | (with_reducible exact Nat.le_succ _) | (with_reducible refine Ext.trans ?_ (by assumption)) | (simp; done) | (simp; omega)))⟩
  · obtain ⟨hs2, hrs, ht⟩ := szRows_bounds (L := 1048576) (by decide) (by decide) hsz
    rw [← hn] at hs2
    have HN := Lib.hid hn; clear hn
    have HS := Lib.hid hs; clear hs
    have HR := Lib.hid hrs; clear hrs
    have HT := Lib.hid ht; clear ht
    obtain ⟨z, hz⟩ : ∃ z, szRows 1048576 rows = z := ⟨_, rfl⟩
    rw [hz] at hsz
    have HZ := Lib.hid hz; clear hz
    have d0 : decide (z < 0) = false := by simpa using hsz
    obtain ⟨R, hR⟩ : ∃ R, rankOf rows si bo now = R := ⟨_, rfl⟩
    have HRR := Lib.hid hR; clear hR
    go_enter Try.func10, Try.ntmps10
    go_wp2_with fail
    (with_reducible refine (szCall_is z (by omega) _ _ _ _ _ _ rows _ HN.out HS.out (by decide) (by decide) _ (HF.out.ext (by (repeat' (first | (with_reducible exact Ext.refl _) | (with_reducible assumption) | (with_reducible refine Ext.alloc ?_ _) | (with_reducible refine Ext.drewN ?_ _) | (with_reducible refine Ext.drew ?_) | (with_reducible refine Ext.setCell ?_ ?_ _) | (with_reducible exact Nat.le_refl _) | (with_reducible exact Nat.le_succ _) | (with_reducible refine Ext.trans ?_ (by assumption)) | (simp; done) | (simp; omega))))) HZ.out).mono ?_); rintro e w1 ⟨rfl, hb1⟩
    have x0_1 := hb1
    obtain ⟨hc0_1, hf0_1⟩ := bcell x0_1.below
    have z0_1_0 : w.heap.size < w1.heap.size := by have h := x0_1.size; simp at h; omega
    go_wp2_with fail
    (with_reducible refine (toCall_any _ _ _ _ _ _ rows _ HN.out hs2 HR.out (HF.out.ext (by (repeat' (first | (with_reducible exact Ext.refl _) | (with_reducible assumption) | (with_reducible refine Ext.alloc ?_ _) | (with_reducible refine Ext.drewN ?_ _) | (with_reducible refine Ext.drew ?_) | (with_reducible refine Ext.setCell ?_ ?_ _) | (with_reducible exact Nat.le_refl _) | (with_reducible exact Nat.le_succ _) | (with_reducible refine Ext.trans ?_ (by assumption)) | (simp; done) | (simp; omega)))))).mono ?_); rintro e w2 ⟨a2, rfl, ho2, hb2⟩
    have x1_2 := hb2
    have x0_2 : Ext _ w2 := x0_1.trans (Ext.trans (b := _) (by (repeat' (first | (with_reducible exact Ext.refl _) | (with_reducible assumption) | (with_reducible refine Ext.alloc ?_ _) | (with_reducible refine Ext.drewN ?_ _) | (with_reducible refine Ext.drew ?_) | (with_reducible refine Ext.setCell ?_ ?_ _) | (with_reducible exact Nat.le_refl _) | (with_reducible exact Nat.le_succ _) | (with_reducible refine Ext.trans ?_ (by assumption)) | (simp; done) | (simp; omega)))) hb2)
    obtain ⟨hc0_2, hf0_2⟩ := bcell x0_2.below
    have z0_2_0 : w.heap.size < w2.heap.size := by have h := x0_2.size; simp at h; omega
    go_wp2_with fail
    (with_reducible refine (HRR.out ▸ specRankOf_any _ _ _ _ _ _ _ rows _ HN.out hs2 HT.out ho2.rows).mono ?_); rintro e w3 ⟨rfl, hb3⟩
    have x2_3 := hb3
    have x0_3 : Ext _ w3 := x0_2.trans (Ext.trans (b := _) (by (repeat' (first | (with_reducible exact Ext.refl _) | (with_reducible assumption) | (with_reducible refine Ext.alloc ?_ _) | (with_reducible refine Ext.drewN ?_ _) | (with_reducible refine Ext.drew ?_) | (with_reducible refine Ext.setCell ?_ ?_ _) | (with_reducible exact Nat.le_refl _) | (with_reducible exact Nat.le_succ _) | (with_reducible refine Ext.trans ?_ (by assumption)) | (simp; done) | (simp; omega)))) hb3)
    obtain ⟨hc0_3, hf0_3⟩ := bcell x0_3.below
    have z0_3_0 : w.heap.size < w3.heap.size := by have h := x0_3.size; simp at h; omega
    go_wp2_with fail
    (with_reducible refine (toCall_any _ _ _ _ _ _ rows _ HN.out hs2 HR.out (HF.out.ext (by (repeat' (first | (with_reducible exact Ext.refl _) | (with_reducible assumption) | (with_reducible refine Ext.alloc ?_ _) | (with_reducible refine Ext.drewN ?_ _) | (with_reducible refine Ext.drew ?_) | (with_reducible refine Ext.setCell ?_ ?_ _) | (with_reducible exact Nat.le_refl _) | (with_reducible exact Nat.le_succ _) | (with_reducible refine Ext.trans ?_ (by assumption)) | (simp; done) | (simp; omega)))))).mono ?_); rintro e w4 ⟨a4, rfl, ho4, hb4⟩
    have x3_4 := hb4
    have x0_4 : Ext _ w4 := x0_3.trans (Ext.trans (b := _) (by (repeat' (first | (with_reducible exact Ext.refl _) | (with_reducible assumption) | (with_reducible refine Ext.alloc ?_ _) | (with_reducible refine Ext.drewN ?_ _) | (with_reducible refine Ext.drew ?_) | (with_reducible refine Ext.setCell ?_ ?_ _) | (with_reducible exact Nat.le_refl _) | (with_reducible exact Nat.le_succ _) | (with_reducible refine Ext.trans ?_ (by assumption)) | (simp; done) | (simp; omega)))) hb4)
    obtain ⟨hc0_4, hf0_4⟩ := bcell x0_4.below
    have z0_4_0 : w.heap.size < w4.heap.size := by have h := x0_4.size; simp at h; omega
    go_wp2_with fail
    (with_reducible refine (HRR.out ▸ implRankOf_any _ _ _ _ _ _ _ rows _ HN.out hs2 HT.out (ho4.rows.ext (by (repeat' (first | (with_reducible exact Ext.refl _) | (with_reducible assumption) | (with_reducible refine Ext.alloc ?_ _) | (with_reducible refine Ext.drewN ?_ _) | (with_reducible refine Ext.drew ?_) | (with_reducible refine Ext.setCell ?_ ?_ _) | (with_reducible exact Nat.le_refl _) | (with_reducible exact Nat.le_succ _) | (with_reducible refine Ext.trans ?_ (by assumption)) | (simp; done) | (simp; omega)))))).mono ?_); rintro e w5 ⟨rfl, hb5⟩
    have x4_5 := hb5
    have x0_5 : Ext _ w5 := x0_4.trans (Ext.trans (b := _) (by (repeat' (first | (with_reducible exact Ext.refl _) | (with_reducible assumption) | (with_reducible refine Ext.alloc ?_ _) | (with_reducible refine Ext.drewN ?_ _) | (with_reducible refine Ext.drew ?_) | (with_reducible refine Ext.setCell ?_ ?_ _) | (with_reducible exact Nat.le_refl _) | (with_reducible exact Nat.le_succ _) | (with_reducible refine Ext.trans ?_ (by assumption)) | (simp; done) | (simp; omega)))) hb5)
    obtain ⟨hc0_5, hf0_5⟩ := bcell x0_5.below
    have z0_5_0 : w.heap.size < w5.heap.size := by have h := x0_5.size; simp at h; omega
    obtain ⟨hc4_5, hf4_5⟩ := bcell x4_5.below
    have z4_5_0 : w4.heap.size < w5.heap.size := by have h := x4_5.size; simp at h; omega
    go_wp2_with fail
    have t1 := (RowAt.new w 35 #[.bool u, .slice a n c, .int .i64 si, .int .i64 bo]).ext x0_5
    have t5 := (RowAt.new w4 39 #[.bool u, .slice (some a4) n n, .int .i64 si, .int .i64 bo]).ext x4_5
    have t10 : w5.cell? ⟨w.heap.size, 0, none⟩ = some (.bool u) := t1.cell rfl
    have t11 : w5.cell? ⟨w.heap.size, 1, none⟩ = some (.slice a n c) := t1.cell rfl
    have t50 : w5.cell? ⟨w4.heap.size, 0, none⟩ = some (.bool u) := t5.cell rfl
    have t51 : w5.cell? ⟨w4.heap.size, 1, none⟩ = some (.slice (some a4) n n) := t5.cell rfl
    have t12 : w5.cell? ⟨w.heap.size, 2, none⟩ = some (.int .i64 si) := t1.cell rfl
    have t13 : w5.cell? ⟨w.heap.size, 3, none⟩ = some (.int .i64 bo) := t1.cell rfl
    have t52 : w5.cell? ⟨w4.heap.size, 2, none⟩ = some (.int .i64 si) := t5.cell rfl
    have t53 : w5.cell? ⟨w4.heap.size, 3, none⟩ = some (.int .i64 bo) := t5.cell rfl
    have hw5 : Ext w w5 := Ext.trans ((Ext.refl w).alloc _) x0_5
    have OK := Lib.hid (ho4.rows.ext (Ext.trans ((Ext.refl w4).alloc _) x4_5))
    have hS := Ext.refl w5
    clear ho2 ho4 hb1 hb2 hb3 hb4 hb5 x0_1 x0_2 x0_3 x0_4 x0_5 x1_2 x2_3 x3_4 x4_5 hc0_1 hc0_2 hc0_3 hc0_4 hc0_5 hc4_5 hf0_1 hf0_2 hf0_3 hf0_4 hf0_5 hf4_5 t1 t5
    go_region_held3 (fun w' => Ext w5 w' ∧ w'.cell? ⟨w.heap.size, 0, none⟩ = some (.bool u) ∧ w'.cell? ⟨w.heap.size, 1, none⟩ = some (.slice a n c) ∧ w'.cell? ⟨w4.heap.size, 0, none⟩ = some (.bool u) ∧ w'.cell? ⟨w4.heap.size, 1, none⟩ = some (.slice (some a4) n n) ∧ w'.cell? ⟨w.heap.size, 2, none⟩ = some (.int .i64 si) ∧ w'.cell? ⟨w.heap.size, 3, none⟩ = some (.int .i64 bo) ∧ w'.cell? ⟨w4.heap.size, 2, none⟩ = some (.int .i64 si) ∧ w'.cell? ⟨w4.heap.size, 3, none⟩ = some (.int .i64 bo))
      ((repeat' (refine And.intro ?_ ?_)) <;> (first | (exact Ext.cell (w := w5) (by (repeat' (first | (with_reducible exact Ext.refl _) | (with_reducible assumption) | (with_reducible refine Ext.alloc ?_ _) | (with_reducible refine Ext.drewN ?_ _) | (with_reducible refine Ext.drew ?_) | (with_reducible refine Ext.setCell ?_ ?_ _) | (with_reducible exact Nat.le_refl _) | (with_reducible exact Nat.le_succ _) | (with_reducible refine Ext.trans ?_ (by assumption)) | (simp; done) | (simp; omega)))) (by assumption)) | ((repeat' (first | (with_reducible exact Ext.refl _) | (with_reducible assumption) | (with_reducible refine Ext.alloc ?_ _) | (with_reducible refine Ext.drewN ?_ _) | (with_reducible refine Ext.drew ?_) | (with_reducible refine Ext.setCell ?_ ?_ _) | (with_reducible exact Nat.le_refl _) | (with_reducible exact Nat.le_succ _) | (with_reducible refine Ext.trans ?_ (by assumption)) | (simp; done) | (simp; omega))); done)))
      (first
        | (go_at_call 28; refine (toCall_any _ _ _ _ _ _ rows _ HN.out hs2 HR.out (HF.out.ext (hw5.trans (by (repeat' (first | (with_reducible exact Ext.refl _) | (with_reducible assumption) | (with_reducible refine Ext.alloc ?_ _) | (with_reducible refine Ext.drewN ?_ _) | (with_reducible refine Ext.drew ?_) | (with_reducible refine Ext.setCell ?_ ?_ _) | (with_reducible exact Nat.le_refl _) | (with_reducible exact Nat.le_succ _) | (with_reducible refine Ext.trans ?_ (by assumption)) | (simp; done) | (simp; omega))))))).mono ?_; rintro e w' ⟨a6, rfl, ho6, hb6⟩)
        | (go_at_call 30; refine (eqCall_same _ _ _ _ _ _ _ _ rows _ HN.out HS.out (OK.out.ext (by (repeat' (first | (with_reducible exact Ext.refl _) | (with_reducible assumption) | (with_reducible refine Ext.alloc ?_ _) | (with_reducible refine Ext.drewN ?_ _) | (with_reducible refine Ext.drew ?_) | (with_reducible refine Ext.setCell ?_ ?_ _) | (with_reducible exact Nat.le_refl _) | (with_reducible exact Nat.le_succ _) | (with_reducible refine Ext.trans ?_ (by assumption)) | (simp; done) | (simp; omega))))) ho6.rows).mono ?_; rintro e w' ⟨rfl, hb7⟩))
    go_wp2
    go_ret
    exact ⟨rfl, by (repeat' (first | (with_reducible exact Ext.refl _) | (with_reducible assumption) | (with_reducible refine Ext.alloc ?_ _) | (with_reducible refine Ext.drewN ?_ _) | (with_reducible refine Ext.drew ?_) | (with_reducible refine Ext.setCell ?_ ?_ _) | (with_reducible exact Nat.le_refl _) | (with_reducible exact Nat.le_succ _) | (with_reducible refine Ext.trans ?_ (by assumption)) | (simp; done) | (simp; omega)))⟩

theorem own : ownKnob Try.prog.godebug = none := by kernel_rfl
theorem laidOut : laidOutB Try.prog = true := Head.laidOut

set_option maxRecDepth 100000 in
theorem contract (H : Type) (enc : TypeId × Value → H) (W : World) (base : Nat) (args : Array Value) (ds gs : List (DataW H)) (before : List MemPlace)
    (hval : ∀ (j : Nat) t v, Try.f10.params[j]? = some t → args[j]? = some v → Value.okWide Try.prog W .any base t v)
    (hW : DataW.Whole enc Try.prog Try.f10.params.toList Rows.fnExactRankOfSpec.vars false W args.toList ds gs before) :
    Calls Try.prog 10 args W fun e W' => ∃ v, e = .returned v ∧ Rows.fnExactRankOfSpec.post enc Try.prog Try.f10 false true false false W args v W' := by
  have hW' := hW
  obtain ⟨p, q, hA0, hV, rfl, hfz, hnd⟩ := hW
  have hA : DataW.TrodAll enc Try.prog W 0 (fun _ => true) true Try.f10.params.toList args.toList ds p := hA0
  rw [Try.params10] at hA hval
  obtain ⟨v0, vs0, d0, ds0, p0, q0, hargs, rfl, rfl, h0, r0⟩ := trodAll_cons hA
  obtain ⟨v1, vs1, d1, ds1, p1, q1, rfl, rfl, rfl, h1, r1⟩ := trodAll_cons r0
  obtain ⟨rfl, rfl, rfl⟩ := trodAll_nil r1
  obtain rfl : args = #[v0, v1] := by cases args; simp_all
  obtain ⟨rfl, rfl⟩ := trodVars_none hV
  have hv0 := hval 0 35 v0 rfl rfl
  have hv1 := hval 1 3 v1 rfl rfl
  clear hA0 hA
  obtain ⟨u, rows, a, c, si, bo, rfl, hmax, hrows, _, _⟩ := open_call hv0 h0
  obtain ⟨now, rfl, rfl, rfl, wnow⟩ := open_int Try.underlying3 hv1 h1
  refine (walk u a _ c si bo now rows W rfl hmax hrows).mono fun e W' ⟨he, hb⟩ => ?_
  subst he
  exact ⟨_, rfl, law_post laidOut rfl (by kernel_rfl) rfl Try.underlying4 hW' rfl rfl rfl hb.below⟩

set_option maxRecDepth 100000 in
theorem lifted (os : Os) (started : os.Started) (H : Type) (enc : TypeId × Value → H) :
    ReturnsInHanded {} Try.checked os 10 .any (Rows.fnExactRankOfSpec.pre6 enc Try.prog Try.f10 Rows.fnExactRankOfRow.domain false) (Rows.fnExactRankOfSpec.post enc Try.prog Try.f10 false true false false) := by
  refine returnsInHanded_of_change (C := Try.checked) own started (by kernel_rfl) Try.func10
    (ChangeSpec.witness6 (enc := enc) (C := Try.checked) false ⟨#[], #[.agg #[.bool false, .slice none 0 0, .int .i64 0, .int .i64 0], .int .i64 0], []⟩ 8 (by kernel_rfl) (by kernel_rfl) (by kernel_rfl) (by kernel_rfl)) ?_
  intro W base args ds gs before hval hW _ _
  exact contract H enc W base args ds gs before hval hW

theorem closed : joinedFacts Try.prog 10 Try.f10 Rows.fnExactRankOfSpec Rows.fnExactRankOfRow = true := by
  unfold joinedFacts
  rw [Head.laidOut, Head.mapsRowed, Head.stopsHeard, Head.mayEnter, Head.liftsFinal, Head.make, Head.plainKeys]
  kernel_rfl
theorem proved : Rows.FnExactRankOfSaid :=
  OpenClaim.holds_of_wide 10 Try.f10 rfl rfl rfl rfl rfl rfl rfl ⟨rfl, rfl, rfl, rfl, rfl⟩ rfl rfl rfl rfl rfl (by kernel_rfl) Try.func10 closed
    (of_decide_eq_true (by kernel_rfl)) (by unfold Func.isWrapper; first | (rw [if_pos (by decide +kernel)]; kernel_rfl) | (rw [if_neg (by decide +kernel)]; exact ⟨rfl, rfl⟩))
    (fun os started H enc _ => lifted os started H enc)
end Go.Proofs.Ytobeiidofakkbaa.lawRankOf
