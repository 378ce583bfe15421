/- For every boat, the program and the reference agree on whether it is valid. -/
import Derived.Test.YtpfofheligacfaaRows
import Derived.Test.YtpfofheligacfaaLib
import Derived.Test.YtpfofheligacfaaFlat
import Derived.Test.YtpfofheligacfaaStretch
namespace Go.Proofs.Ytpfofheligacfaa.lawBoatOk
open Go.ChangeShapes Go.WideShapes Go.ChangeAt Go.RowKit Go.Joins
set_option linter.unusedVariables false

set_option maxHeartbeats 400000 in
theorem walk (a b c d e f : Int) (w : World) :
    Calls Try.prog 5 #[.agg #[.int .i64 a, .int .i64 b, .int .i64 c, .int .i64 d, .int .i64 e, .int .i64 f]] w fun e w' => e = .returned (.bool true) ∧ Ext w w' := by
  go_enter Try.func5, Try.ntmps5
  go_wp2_with (first | (go_at_call 22; refine (toBoat_any _ _ _ _ _ _ _).mono ?_; rintro e w' ⟨rfl, hb⟩; obtain ⟨hc', hf'⟩ := bcell hb.below; (try have hl' : w.heap.size < w'.heap.size := (by have hs' := hb.below.size; (try simp at hs'); omega)); (try have hl' : w.heap.size + 1 < w'.heap.size := (by have hs' := hb.below.size; (try simp at hs'); omega)); (try have hl' : w.heap.size + 1 + 1 < w'.heap.size := (by have hs' := hb.below.size; (try simp at hs'); omega))) | (go_at_call 21; refine (specBoatOk_any _ _ _ _ _ _ _).mono ?_; rintro e w' ⟨rfl, hb⟩; obtain ⟨hc', hf'⟩ := bcell hb.below; (try have hl' : w.heap.size < w'.heap.size := (by have hs' := hb.below.size; (try simp at hs'); omega)); (try have hl' : w.heap.size + 1 < w'.heap.size := (by have hs' := hb.below.size; (try simp at hs'); omega)); (try have hl' : w.heap.size + 1 + 1 < w'.heap.size := (by have hs' := hb.below.size; (try simp at hs'); omega))) | (go_at_call 23; refine (implBoatOk_any _ _ _ _ _ _ _).mono ?_; rintro e w' ⟨rfl, hb⟩; obtain ⟨hc', hf'⟩ := bcell hb.below; (try have hl' : w.heap.size < w'.heap.size := (by have hs' := hb.below.size; (try simp at hs'); omega)); (try have hl' : w.heap.size + 1 < w'.heap.size := (by have hs' := hb.below.size; (try simp at hs'); omega)); (try have hl' : w.heap.size + 1 + 1 < w'.heap.size := (by have hs' := hb.below.size; (try simp at hs'); omega))))
  go_ret
  exact ⟨rfl, by (repeat' (first | (with_reducible exact Ext.refl _) | (with_reducible assumption) | (with_reducible refine Ext.alloc ?_ _) | (with_reducible refine Ext.drewN ?_ _) | (with_reducible refine Ext.drew ?_) | (with_reducible refine Ext.setCell ?_ ?_ _) | (with_reducible exact Nat.le_refl _) | (with_reducible exact Nat.le_succ _) | (with_reducible refine Ext.trans ?_ (by assumption)) | (simp; done) | (simp; omega)))⟩

theorem own : ownKnob Try.prog.godebug = none := by kernel_rfl
theorem laidOut : laidOutB Try.prog = true := by kernel_rfl

theorem contract (H : Type) (enc : TypeId × Value → H) (W : World) (base : Nat) (args : Array Value) (ds gs : List (DataW H)) (before : List MemPlace)
    (hval : ∀ (j : Nat) t v, Try.f5.params[j]? = some t → args[j]? = some v → Value.okWide Try.prog W .any base t v)
    (hW : DataW.Whole enc Try.prog Try.f5.params.toList Rows.fnExactBoatOkSpec.vars false W args.toList ds gs before) :
    Calls Try.prog 5 args W fun e W' => ∃ v, e = .returned v ∧ Rows.fnExactBoatOkSpec.post enc Try.prog Try.f5 false true false false W args v W' := by
  have hW' := hW
  obtain ⟨p, q, hA0, hV, rfl, hfz, hnd⟩ := hW
  have hA : DataW.TrodAll enc Try.prog W 0 (fun _ => true) true Try.f5.params.toList args.toList ds p := hA0
  rw [Try.params5] at hA hval
  obtain ⟨v0, vs0, d0, ds0, p0, q0, hargs, rfl, rfl, h0, r0⟩ := trodAll_cons hA
  obtain ⟨rfl, rfl, rfl⟩ := trodAll_nil r0
  obtain rfl : args = #[v0] := by cases args; simp_all
  obtain ⟨rfl, rfl⟩ := trodVars_none hV
  have hv0 := hval 0 35 v0 rfl rfl
  clear hA0 hA
  obtain ⟨c0, c1, c2, c3, c4, c5, y0, y1, y2, y3, y4, y5, n, rfl, rfl, rfl, k0, k1, k2, k3, k4, k5⟩ := open_agg6 Try.underlying35 (by kernel_rfl) (by kernel_rfl) hv0 h0
  obtain ⟨z0, e0, rfl, wz0⟩ := DataW.trod_int Try.underlying3 k0
  obtain ⟨z1, e1, rfl, wz1⟩ := DataW.trod_int Try.underlying3 k1
  obtain ⟨z2, e2, rfl, wz2⟩ := DataW.trod_int Try.underlying3 k2
  obtain ⟨z3, e3, rfl, wz3⟩ := DataW.trod_int Try.underlying3 k3
  obtain ⟨z4, e4, rfl, wz4⟩ := DataW.trod_int Try.underlying3 k4
  obtain ⟨z5, e5, rfl, wz5⟩ := DataW.trod_int Try.underlying3 k5
  simp only [List.cons.injEq, and_true] at e0 e1 e2 e3 e4 e5
  subst e0 e1 e2 e3 e4 e5
  refine (walk z0 z1 z2 z3 z4 z5 W).mono fun e W' ⟨he, hb⟩ => ?_
  subst he
  exact ⟨_, rfl, law_post laidOut rfl (by kernel_rfl) rfl Try.underlying4 hW' rfl rfl rfl hb.below⟩

set_option maxRecDepth 100000 in
theorem lifted (os : Os) (started : os.Started) (H : Type) (enc : TypeId × Value → H) :
    ReturnsInHanded {} Try.checked os 5 .any (Rows.fnExactBoatOkSpec.pre6 enc Try.prog Try.f5 Rows.fnExactBoatOkRow.domain false) (Rows.fnExactBoatOkSpec.post enc Try.prog Try.f5 false true false false) := by
  refine returnsInHanded_of_change (C := Try.checked) own started (by kernel_rfl) Try.func5
    (ChangeSpec.witness6 (enc := enc) (C := Try.checked) false ⟨#[], #[.agg #[.int .i64 0, .int .i64 0, .int .i64 0, .int .i64 0, .int .i64 0, .int .i64 0]], []⟩ 8 (by kernel_rfl) (by kernel_rfl) (by kernel_rfl) (by kernel_rfl)) ?_
  intro W base args ds gs before hval hW _ _
  exact contract H enc W base args ds gs before hval hW

theorem proved : Rows.FnExactBoatOkSaid :=
  OpenClaim.holds_of_wide 5 Try.f5 rfl rfl rfl rfl rfl rfl rfl ⟨rfl, rfl, rfl, rfl, rfl⟩ rfl rfl rfl rfl rfl (by kernel_rfl) Try.func5 (by kernel_rfl)
    (of_decide_eq_true (by kernel_rfl)) (by unfold Func.isWrapper; first | (rw [if_pos (by decide +kernel)]; kernel_rfl) | (rw [if_neg (by decide +kernel)]; exact ⟨rfl, rfl⟩))
    (fun os started H enc _ => lifted os started H enc)
end Go.Proofs.Ytpfofheligacfaa.lawBoatOk
