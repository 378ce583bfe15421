/- For every stretch and direction, the program and the reference agree on the stretch after a train has entered it. -/
import Derived.Test.YtpfofheligacfaaRows
import Derived.Test.YtpfofheligacfaaLib
import Derived.Test.YtpfofheligacfaaFlat
import Derived.Test.YtpfofheligacfaaStretch
namespace Go.Proofs.Ytpfofheligacfaa.lawEnterStretch
open Go.ChangeShapes Go.WideShapes Go.ChangeAt Go.RowKit Go.Joins
set_option linter.unusedVariables false

set_option maxHeartbeats 400000 in
theorem walk (u : Bool) (i r l : Int) (up : Bool) (w : World) :
    Calls Try.prog 11 #[.agg #[.bool u, .int .i64 i, .int .i64 r, .int .i64 l], .bool up] w fun e w' => e = .returned (.bool true) ∧ Ext w w' := by
  go_enter Try.func11, Try.ntmps11
  go_wp2_with fail
  (with_reducible refine (toStretch_any _ _ _ _ _).mono ?_); rintro e w1 ⟨rfl, hb1⟩
  have x0_1 := hb1
  obtain ⟨hc0_1, hf0_1⟩ := bcell x0_1.below
  have z0_1_0 : w.heap.size < w1.heap.size := by have h := x0_1.size; simp at h; omega
  go_wp2_with fail
  (with_reducible refine (specEnterStretch_any _ _ _ _ _ _).mono ?_); rintro e w2 ⟨rfl, hb2⟩
  have x1_2 := hb2
  have x0_2 : Ext _ w2 := x0_1.trans (Ext.trans (b := _) (by (repeat' (first | (with_reducible exact Ext.refl _) | (with_reducible assumption) | (with_reducible refine Ext.alloc ?_ _) | (with_reducible refine Ext.drewN ?_ _) | (with_reducible refine Ext.drew ?_) | (with_reducible refine Ext.setCell ?_ ?_ _) | (with_reducible exact Nat.le_refl _) | (with_reducible exact Nat.le_succ _) | (with_reducible refine Ext.trans ?_ (by assumption)) | (simp; done) | (simp; omega)))) hb2)
  obtain ⟨hc0_2, hf0_2⟩ := bcell x0_2.below
  have z0_2_0 : w.heap.size < w2.heap.size := by have h := x0_2.size; simp at h; omega
  go_wp2_with fail
  (with_reducible refine (toStretch_any _ _ _ _ _).mono ?_); rintro e w3 ⟨rfl, hb3⟩
  have x2_3 := hb3
  have x0_3 : Ext _ w3 := x0_2.trans (Ext.trans (b := _) (by (repeat' (first | (with_reducible exact Ext.refl _) | (with_reducible assumption) | (with_reducible refine Ext.alloc ?_ _) | (with_reducible refine Ext.drewN ?_ _) | (with_reducible refine Ext.drew ?_) | (with_reducible refine Ext.setCell ?_ ?_ _) | (with_reducible exact Nat.le_refl _) | (with_reducible exact Nat.le_succ _) | (with_reducible refine Ext.trans ?_ (by assumption)) | (simp; done) | (simp; omega)))) hb3)
  obtain ⟨hc0_3, hf0_3⟩ := bcell x0_3.below
  have z0_3_0 : w.heap.size < w3.heap.size := by have h := x0_3.size; simp at h; omega
  obtain ⟨hc2_3, hf2_3⟩ := bcell x2_3.below
  have z2_3_0 : w2.heap.size < w3.heap.size := by have h := x2_3.size; simp at h; omega
  go_wp2_with fail
  (with_reducible refine (implEnterStretch_any _ _ _ _ _ _).mono ?_); rintro e w4 ⟨rfl, hb4⟩
  have x3_4 := hb4
  have x0_4 : Ext _ w4 := x0_3.trans (Ext.trans (b := _) (by (repeat' (first | (with_reducible exact Ext.refl _) | (with_reducible assumption) | (with_reducible refine Ext.alloc ?_ _) | (with_reducible refine Ext.drewN ?_ _) | (with_reducible refine Ext.drew ?_) | (with_reducible refine Ext.setCell ?_ ?_ _) | (with_reducible exact Nat.le_refl _) | (with_reducible exact Nat.le_succ _) | (with_reducible refine Ext.trans ?_ (by assumption)) | (simp; done) | (simp; omega)))) hb4)
  obtain ⟨hc0_4, hf0_4⟩ := bcell x0_4.below
  have z0_4_0 : w.heap.size < w4.heap.size := by have h := x0_4.size; simp at h; omega
  have x2_4 : Ext _ w4 := x2_3.trans (Ext.trans (b := _) (by (repeat' (first | (with_reducible exact Ext.refl _) | (with_reducible assumption) | (with_reducible refine Ext.alloc ?_ _) | (with_reducible refine Ext.drewN ?_ _) | (with_reducible refine Ext.drew ?_) | (with_reducible refine Ext.setCell ?_ ?_ _) | (with_reducible exact Nat.le_refl _) | (with_reducible exact Nat.le_succ _) | (with_reducible refine Ext.trans ?_ (by assumption)) | (simp; done) | (simp; omega)))) hb4)
  obtain ⟨hc2_4, hf2_4⟩ := bcell x2_4.below
  have z2_4_0 : w2.heap.size < w4.heap.size := by have h := x2_4.size; simp at h; omega
  go_wp2_with fail
  (with_reducible refine (eqStretch_same _ _ _ _ _).mono ?_); rintro e w5 ⟨rfl, hb5⟩
  have x4_5 := hb5
  have x0_5 : Ext _ w5 := x0_4.trans (Ext.trans (b := _) (by (repeat' (first | (with_reducible exact Ext.refl _) | (with_reducible assumption) | (with_reducible refine Ext.alloc ?_ _) | (with_reducible refine Ext.drewN ?_ _) | (with_reducible refine Ext.drew ?_) | (with_reducible refine Ext.setCell ?_ ?_ _) | (with_reducible exact Nat.le_refl _) | (with_reducible exact Nat.le_succ _) | (with_reducible refine Ext.trans ?_ (by assumption)) | (simp; done) | (simp; omega)))) hb5)
  obtain ⟨hc0_5, hf0_5⟩ := bcell x0_5.below
  have z0_5_0 : w.heap.size < w5.heap.size := by have h := x0_5.size; simp at h; omega
  have x2_5 : Ext _ w5 := x2_4.trans (Ext.trans (b := _) (by (repeat' (first | (with_reducible exact Ext.refl _) | (with_reducible assumption) | (with_reducible refine Ext.alloc ?_ _) | (with_reducible refine Ext.drewN ?_ _) | (with_reducible refine Ext.drew ?_) | (with_reducible refine Ext.setCell ?_ ?_ _) | (with_reducible exact Nat.le_refl _) | (with_reducible exact Nat.le_succ _) | (with_reducible refine Ext.trans ?_ (by assumption)) | (simp; done) | (simp; omega)))) hb5)
  obtain ⟨hc2_5, hf2_5⟩ := bcell x2_5.below
  have z2_5_0 : w2.heap.size < w5.heap.size := by have h := x2_5.size; simp at h; omega
  obtain ⟨hc4_5, hf4_5⟩ := bcell x4_5.below
  have z4_5_0 : w4.heap.size < w5.heap.size := by have h := x4_5.size; simp at h; omega
  go_wp2
  go_ret
  exact ⟨rfl, by (repeat' (first | (with_reducible exact Ext.refl _) | (with_reducible assumption) | (with_reducible refine Ext.alloc ?_ _) | (with_reducible refine Ext.drewN ?_ _) | (with_reducible refine Ext.drew ?_) | (with_reducible refine Ext.setCell ?_ ?_ _) | (with_reducible exact Nat.le_refl _) | (with_reducible exact Nat.le_succ _) | (with_reducible refine Ext.trans ?_ (by assumption)) | (simp; done) | (simp; omega)))⟩

theorem own : ownKnob Try.prog.godebug = none := by kernel_rfl
theorem laidOut : laidOutB Try.prog = true := by kernel_rfl

theorem contract (H : Type) (enc : TypeId × Value → H) (W : World) (base : Nat) (args : Array Value) (ds gs : List (DataW H)) (before : List MemPlace)
    (hval : ∀ (j : Nat) t v, Try.f11.params[j]? = some t → args[j]? = some v → Value.okWide Try.prog W .any base t v)
    (hW : DataW.Whole enc Try.prog Try.f11.params.toList Rows.fnExactEnterStretchSpec.vars false W args.toList ds gs before) :
    Calls Try.prog 11 args W fun e W' => ∃ v, e = .returned v ∧ Rows.fnExactEnterStretchSpec.post enc Try.prog Try.f11 false true false false W args v W' := by
  have hW' := hW
  obtain ⟨p, q, hA0, hV, rfl, hfz, hnd⟩ := hW
  have hA : DataW.TrodAll enc Try.prog W 0 (fun _ => true) true Try.f11.params.toList args.toList ds p := hA0
  rw [Try.params11] at hA hval
  obtain ⟨v0, vs0, d0, ds0, p0, q0, hargs, rfl, rfl, h0, r0⟩ := trodAll_cons hA
  obtain ⟨v1, vs1, d1, ds1, p1, q1, rfl, rfl, rfl, h1, r1⟩ := trodAll_cons r0
  obtain ⟨rfl, rfl, rfl⟩ := trodAll_nil r1
  obtain rfl : args = #[v0, v1] := by cases args; simp_all
  obtain ⟨rfl, rfl⟩ := trodVars_none hV
  have hv0 := hval 0 29 v0 rfl rfl
  have hv1 := hval 1 4 v1 rfl rfl
  clear hA0 hA
  obtain ⟨c0, c1, c2, c3, y0, y1, y2, y3, n, rfl, rfl, rfl, k0, k1, k2, k3⟩ := open_agg4 Try.underlying29 (by kernel_rfl) (by kernel_rfl) hv0 h0
  obtain ⟨u, e0, rfl⟩ := DataW.trod_bool Try.underlying4 k0
  obtain ⟨z1, e1, rfl, wz1⟩ := DataW.trod_int Try.underlying3 k1
  obtain ⟨z2, e2, rfl, wz2⟩ := DataW.trod_int Try.underlying3 k2
  obtain ⟨z3, e3, rfl, wz3⟩ := DataW.trod_int Try.underlying3 k3
  simp only [List.cons.injEq, and_true] at e0 e1 e2 e3
  subst e0 e1 e2 e3
  obtain ⟨b1, rfl, rfl, rfl⟩ := open_bool Try.underlying4 hv1 h1
  refine (walk u z1 z2 z3 b1 W).mono fun e W' ⟨he, hb⟩ => ?_
  subst he
  exact ⟨_, rfl, law_post laidOut rfl (by kernel_rfl) rfl Try.underlying4 hW' rfl rfl rfl hb.below⟩

set_option maxRecDepth 100000 in
theorem lifted (os : Os) (started : os.Started) (H : Type) (enc : TypeId × Value → H) :
    ReturnsInHanded {} Try.checked os 11 .any (Rows.fnExactEnterStretchSpec.pre6 enc Try.prog Try.f11 Rows.fnExactEnterStretchRow.domain false) (Rows.fnExactEnterStretchSpec.post enc Try.prog Try.f11 false true false false) := by
  refine returnsInHanded_of_change (C := Try.checked) own started (by kernel_rfl) Try.func11
    (ChangeSpec.witness6 (enc := enc) (C := Try.checked) false ⟨#[], #[.agg #[.bool false, .int .i64 0, .int .i64 0, .int .i64 0], .bool false], []⟩ 8 (by kernel_rfl) (by kernel_rfl) (by kernel_rfl) (by kernel_rfl)) ?_
  intro W base args ds gs before hval hW _ _
  exact contract H enc W base args ds gs before hval hW

theorem proved : Rows.FnExactEnterStretchSaid :=
  OpenClaim.holds_of_wide 11 Try.f11 rfl rfl rfl rfl rfl rfl rfl ⟨rfl, rfl, rfl, rfl, rfl⟩ rfl rfl rfl rfl rfl (by kernel_rfl) Try.func11 (by kernel_rfl)
    (of_decide_eq_true (by kernel_rfl)) (by unfold Func.isWrapper; first | (rw [if_pos (by decide +kernel)]; kernel_rfl) | (rw [if_neg (by decide +kernel)]; exact ⟨rfl, rfl⟩))
    (fun os started H enc _ => lifted os started H enc)
end Go.Proofs.Ytpfofheligacfaa.lawEnterStretch
