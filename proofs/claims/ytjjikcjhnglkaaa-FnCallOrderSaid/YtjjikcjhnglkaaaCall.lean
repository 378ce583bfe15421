/- Calls: sizes, conversion, comparison, CallOk on both sides. -/
import Derived.Test.YtjjikcjhnglkaaaProg
import Derived.Test.YtjjikcjhnglkaaaTrainMin
namespace Go.Proofs.Ytjjikcjhnglkaaa
open Go.RowKit
set_option linter.unusedSimpArgs false
set_option linter.unusedVariables false

def callOk (rows : List (List Bt)) (si bo : Int) : Bool := trainOk rows && inR si 0 1000000 && inR bo (-1) 1000000
theorem chain2 (a b : Bool) : a = false ∨ (a = true ∧ b = false) ∨ (a = true ∧ b = true) := by cases a <;> cases b <;> simp
set_option maxHeartbeats 1000000 in
theorem implCallOk_any (u : Bool) (a : Option Addr) (n c : Nat) (si bo : Int) (rows : List (List Bt)) (w : World) (hn : n = rows.length) (hs : n ≤ 1048576) (ht : rows.flatten.length ≤ 1048576) (hf : RowsAt w a rows) :
    Calls Try.prog 20 #[.agg #[.bool u, .slice a n c, .int .i64 si, .int .i64 bo]] w fun e w' => e = .returned (.bool (callOk rows si bo)) ∧ Ext w w' := by
  have HF := Lib.hid hf; clear hf
  have HS := Lib.hid hs; clear hs
  have HT := Lib.hid ht; clear ht
  have HN := Lib.hid hn; clear hn
  obtain ⟨t, ht⟩ : ∃ t, trainOk rows = t := ⟨_, rfl⟩
  have HR := Lib.hid (show callOk rows si bo = (t && inR si 0 1000000 && inR bo (-1) 1000000) by rw [callOk, ht])
  have OK := Lib.hid ht; clear ht
  rcases chain2 t (inR si 0 1000000) with c1 | ⟨c1, c2⟩ | ⟨c1, c2⟩
  all_goals
    rw [HR.out]
    go_enter Try.func20, Try.ntmps20
    go_wp2_with fail
    (with_reducible refine (OK.out ▸ implTrainOk_any _ _ _ _ rows _ HN.out HS.out HT.out (HF.out.ext (by (repeat' (first | (with_reducible exact Ext.refl _) | (with_reducible assumption) | (with_reducible refine Ext.alloc ?_ _) | (with_reducible refine Ext.drewN ?_ _) | (with_reducible refine Ext.drew ?_) | (with_reducible refine Ext.setCell ?_ ?_ _) | (with_reducible exact Nat.le_refl _) | (with_reducible exact Nat.le_succ _) | (with_reducible refine Ext.trans ?_ (by assumption)) | (simp; done) | (simp; omega)))))).mono ?_); rintro e w1 ⟨rfl, hb1⟩
    have x0_1 := hb1
    obtain ⟨hc0_1, hf0_1⟩ := bcell x0_1.below
    have z0_1_0 : w.heap.size < w1.heap.size := by have h := x0_1.size; simp at h; omega
    have hx := Ext.trans ((Ext.refl w).alloc _) hb1
    go_wp2_with (go_at_call 21; refine (inRange_any _ _ _ _).mono ?_; rintro e w' ⟨rfl, rfl⟩)
    go_ret
    exact ⟨ret_bool (by simp [*]), by (repeat' (first | (with_reducible exact Ext.refl _) | (with_reducible assumption) | (with_reducible refine Ext.alloc ?_ _) | (with_reducible refine Ext.drewN ?_ _) | (with_reducible refine Ext.drew ?_) | (with_reducible refine Ext.setCell ?_ ?_ _) | (with_reducible exact Nat.le_refl _) | (with_reducible exact Nat.le_succ _) | (with_reducible refine Ext.trans ?_ (by assumption)) | (simp; done) | (simp; omega)))⟩
end Go.Proofs.Ytjjikcjhnglkaaa
