/- For every stretch and train, the program and the reference agree on whether it may pass. -/
import Derived.Test.YtpfofheligacfaaRows
import Derived.Test.YtpfofheligacfaaLib
import Derived.Test.YtpfofheligacfaaFlat
import Derived.Test.YtpfofheligacfaaStretch
namespace Go.Proofs.Ytpfofheligacfaa.lawMayPass
open Go.ChangeShapes Go.WideShapes Go.ChangeAt Go.RowKit Go.Joins
set_option linter.unusedVariables false

set_option maxHeartbeats 400000 in
theorem walk (u : Bool) (i r l : Int) (up others : Bool) (w : World) :
    Calls Try.prog 6 #[.agg #[.bool u, .int .i64 i, .int .i64 r, .int .i64 l], .bool up, .bool others] w fun e w' => e = .returned (.bool true) ∧ Ext w w' := by
  go_enter Try.func6, Try.ntmps6
  go_wp2_with (first | (go_at_call 19; refine (toStretch_any _ _ _ _ _).mono ?_; rintro e w' ⟨rfl, hb⟩; obtain ⟨hc', hf'⟩ := bcell hb.below; (try have hl' : w.heap.size < w'.heap.size := (by have hs' := hb.below.size; (try simp at hs'); omega)); (try have hl' : w.heap.size + 1 < w'.heap.size := (by have hs' := hb.below.size; (try simp at hs'); omega)); (try have hl' : w.heap.size + 1 + 1 < w'.heap.size := (by have hs' := hb.below.size; (try simp at hs'); omega))) | (go_at_call 24; refine (specMayPass_any _ _ _ _ _ _ _).mono ?_; rintro e w' ⟨rfl, hb⟩; obtain ⟨hc', hf'⟩ := bcell hb.below; (try have hl' : w.heap.size < w'.heap.size := (by have hs' := hb.below.size; (try simp at hs'); omega)); (try have hl' : w.heap.size + 1 < w'.heap.size := (by have hs' := hb.below.size; (try simp at hs'); omega)); (try have hl' : w.heap.size + 1 + 1 < w'.heap.size := (by have hs' := hb.below.size; (try simp at hs'); omega))) | (go_at_call 25; refine (implMayPass_any _ _ _ _ _ _ _).mono ?_; rintro e w' ⟨rfl, hb⟩; obtain ⟨hc', hf'⟩ := bcell hb.below; (try have hl' : w.heap.size < w'.heap.size := (by have hs' := hb.below.size; (try simp at hs'); omega)); (try have hl' : w.heap.size + 1 < w'.heap.size := (by have hs' := hb.below.size; (try simp at hs'); omega)); (try have hl' : w.heap.size + 1 + 1 < w'.heap.size := (by have hs' := hb.below.size; (try simp at hs'); omega))))
  go_ret
  exact ⟨rfl, by (repeat' (first | (with_reducible exact Ext.refl _) | (with_reducible assumption) | (with_reducible refine Ext.alloc ?_ _) | (with_reducible refine Ext.drewN ?_ _) | (with_reducible refine Ext.drew ?_) | (with_reducible refine Ext.setCell ?_ ?_ _) | (with_reducible exact Nat.le_refl _) | (with_reducible exact Nat.le_succ _) | (with_reducible refine Ext.trans ?_ (by assumption)) | (simp; done) | (simp; omega)))⟩

theorem own : ownKnob Try.prog.godebug = none := by kernel_rfl
theorem laidOut : laidOutB Try.prog = true := by kernel_rfl

theorem contract (H : Type) (enc : TypeId × Value → H) (W : World) (base : Nat) (args : Array Value) (ds gs : List (DataW H)) (before : List MemPlace)
    (hval : ∀ (j : Nat) t v, Try.f6.params[j]? = some t → args[j]? = some v → Value.okWide Try.prog W .any base t v)
    (hW : DataW.Whole enc Try.prog Try.f6.params.toList Rows.fnExactMayPassSpec.vars false W args.toList ds gs before) :
    Calls Try.prog 6 args W fun e W' => ∃ v, e = .returned v ∧ Rows.fnExactMayPassSpec.post enc Try.prog Try.f6 false true false false W args v W' := by
  have hW' := hW
  obtain ⟨p, q, hA0, hV, rfl, hfz, hnd⟩ := hW
  have hA : DataW.TrodAll enc Try.prog W 0 (fun _ => true) true Try.f6.params.toList args.toList ds p := hA0
  rw [Try.params6] at hA hval
  obtain ⟨v0, vs0, d0, ds0, p0, q0, hargs, rfl, rfl, h0, r0⟩ := trodAll_cons hA
  obtain ⟨v1, vs1, d1, ds1, p1, q1, rfl, rfl, rfl, h1, r1⟩ := trodAll_cons r0
  obtain ⟨v2, vs2, d2, ds2, p2, q2, rfl, rfl, rfl, h2, r2⟩ := trodAll_cons r1
  obtain ⟨rfl, rfl, rfl⟩ := trodAll_nil r2
  obtain rfl : args = #[v0, v1, v2] := by cases args; simp_all
  obtain ⟨rfl, rfl⟩ := trodVars_none hV
  have hv0 := hval 0 29 v0 rfl rfl
  have hv1 := hval 1 4 v1 rfl rfl
  have hv2 := hval 2 4 v2 rfl rfl
  clear hA0 hA
  obtain ⟨c0, c1, c2, c3, y0, y1, y2, y3, n, rfl, rfl, rfl, k0, k1, k2, k3⟩ := open_agg4 Try.underlying29 (by kernel_rfl) (by kernel_rfl) hv0 h0
  obtain ⟨u, e0, rfl⟩ := DataW.trod_bool Try.underlying4 k0
  obtain ⟨z1, e1, rfl, wz1⟩ := DataW.trod_int Try.underlying3 k1
  obtain ⟨z2, e2, rfl, wz2⟩ := DataW.trod_int Try.underlying3 k2
  obtain ⟨z3, e3, rfl, wz3⟩ := DataW.trod_int Try.underlying3 k3
  simp only [List.cons.injEq, and_true] at e0 e1 e2 e3
  subst e0 e1 e2 e3
  obtain ⟨b1, rfl, rfl, rfl⟩ := open_bool Try.underlying4 hv1 h1
  obtain ⟨b2, rfl, rfl, rfl⟩ := open_bool Try.underlying4 hv2 h2
  refine (walk u z1 z2 z3 b1 b2 W).mono fun e W' ⟨he, hb⟩ => ?_
  subst he
  exact ⟨_, rfl, law_post laidOut rfl (by kernel_rfl) rfl Try.underlying4 hW' rfl rfl rfl hb.below⟩

set_option maxRecDepth 100000 in
theorem lifted (os : Os) (started : os.Started) (H : Type) (enc : TypeId × Value → H) :
    ReturnsInHanded {} Try.checked os 6 .any (Rows.fnExactMayPassSpec.pre6 enc Try.prog Try.f6 Rows.fnExactMayPassRow.domain false) (Rows.fnExactMayPassSpec.post enc Try.prog Try.f6 false true false false) := by
  refine returnsInHanded_of_change (C := Try.checked) own started (by kernel_rfl) Try.func6
    (ChangeSpec.witness6 (enc := enc) (C := Try.checked) false ⟨#[], #[.agg #[.bool false, .int .i64 0, .int .i64 0, .int .i64 0], .bool false, .bool false], []⟩ 8 (by kernel_rfl) (by kernel_rfl) (by kernel_rfl) (by kernel_rfl)) ?_
  intro W base args ds gs before hval hW _ _
  exact contract H enc W base args ds gs before hval hW

theorem proved : Rows.FnExactMayPassSaid :=
  OpenClaim.holds_of_wide 6 Try.f6 rfl rfl rfl rfl rfl rfl rfl ⟨rfl, rfl, rfl, rfl, rfl⟩ rfl rfl rfl rfl rfl (by kernel_rfl) Try.func6 (by kernel_rfl)
    (of_decide_eq_true (by kernel_rfl)) (by unfold Func.isWrapper; first | (rw [if_pos (by decide +kernel)]; kernel_rfl) | (rw [if_neg (by decide +kernel)]; exact ⟨rfl, rfl⟩))
    (fun os started H enc _ => lifted os started H enc)
end Go.Proofs.Ytpfofheligacfaa.lawMayPass
