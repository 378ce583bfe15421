/- May a train enter a lock: on both sides. -/
import Derived.Test.YtknpdhafafomaaaProg
import Derived.Test.YtknpdhafafomaaaReachW
import Derived.Test.YtknpdhafafomaaaLockOk
import Derived.Test.YtknpdhafafomaaaTrainMin
namespace Go.Proofs.Ytknpdhafafomaaa
open Go.RowKit
set_option linter.unusedSimpArgs false
set_option linter.unusedVariables false

theorem lockOk_sills {x0 x1 x2 x3 x4 x5 x6 x7 x8 : Int} {ts : List Tn} (h : lockOk x0 x1 x2 x3 x4 x5 x6 x7 x8 ts = true) : (0 ≤ x2 ∧ x2 ≤ 100000) ∧ (0 ≤ x3 ∧ x3 ≤ 100000) ∧ (0 ≤ x8 ∧ x8 ≤ 2) := by
  unfold lockOk at h
  simp only [Bool.and_eq_true] at h
  obtain ⟨⟨⟨⟨⟨⟨⟨⟨⟨h0, h1⟩, h2⟩, h3⟩, h4⟩, h5⟩, h6⟩, h7⟩, h8⟩, _⟩ := h
  exact ⟨inR_true h2, inR_true h3, inR_true h8⟩
/-- Enough water over the sill s. -/
noncomputable def deep (s : Int) (ps : List Pt) (vol : Int) (xs : List Int) (rows : List (List Bt)) : Bool := decide (draughtOf rows ≤ levelOf ps vol xs - s)
noncomputable def mayEnter (x0 x1 x2 x3 x4 x5 x6 x7 x8 : Int) (ts : List Tn) (ps : List Pt) (vol : Int) (xs : List Int) (u : Bool) (rows : List (List Bt)) : Bool :=
  if lockOk x0 x1 x2 x3 x4 x5 x6 x7 x8 ts && (reachOk ps vol xs && trainOk rows) then (if x8 = (if u then 2 else 1) then deep (if u then x3 else x2) ps vol xs rows else false) else false
theorem implTrainOk_is (R : Bool) (u : Bool) (a : Option Addr) (n c : Nat) (rows : List (List Bt)) (w : World) (hn : n = rows.length) (hs : n ≤ 1048576) (ht : rows.flatten.length ≤ 1048576) (hf : RowsAt w a rows) (hR : trainOk rows = R) :
    Calls Try.prog 84 #[.agg #[.bool u, .slice a n c]] w fun e w' => e = .returned (.bool R) ∧ Ext w w' := by
  subst hR
  exact implTrainOk_any u a n c rows w hn hs ht hf
theorem specTrainOk_is (R : Bool) (u : Bool) (a : Option Addr) (n c : Nat) (rows : List (List Bt)) (w : World) (hn : n = rows.length) (hs : n ≤ 1048576) (ht : rows.flatten.length ≤ 1048576) (hf : RowsAt w a rows) (hR : trainOk rows = R) :
    Calls Try.prog 62 #[.agg #[.bool u, .slice a n c]] w fun e w' => e = .returned (.bool R) ∧ Ext w w' := by
  subst hR
  exact specTrainOk_any u a n c rows w hn hs ht hf
theorem implLevel_is (v : Int) (ta pa : Option Addr) (tn tc pn pc : Nat) (vol : Int) (ps : List Pt) (xs : List Int) (w : World) (ht : tn = ps.length) (hts : tn ≤ maxLen) (hp : pn = xs.length) (hps : pn ≤ maxLen) (hft : FlatAt w ptCells 2 ta ps) (hfp : IntsAt w pa xs) (hvol : -9223372036854775808 ≤ vol ∧ vol ≤ 9223372036854775807) (hv : levelOf ps vol xs = v) :
    Calls Try.prog 22 #[.agg #[.slice ta tn tc, .int .i64 vol, .slice pa pn pc]] w fun e w' => e = .returned (.int .i64 v) ∧ Ext w w' := by
  subst hv
  exact implLevelOf_any ta pa tn tc pn pc vol ps xs w ht hts hp hps hft hfp hvol
theorem specLevel_is (v : Int) (ta pa : Option Addr) (tn tc pn pc : Nat) (vol : Int) (ps : List Pt) (xs : List Int) (w : World) (ht : tn = ps.length) (hts : tn ≤ maxLen) (hp : pn = xs.length) (hps : pn ≤ maxLen) (hft : FlatAt w ptCells 2 ta ps) (hfp : IntsAt w pa xs) (hvol : -9223372036854775808 ≤ vol ∧ vol ≤ 9223372036854775807) (hv : levelOf ps vol xs = v) :
    Calls Try.prog 95 #[.agg #[.slice ta tn tc, .int .i64 vol, .slice pa pn pc]] w fun e w' => e = .returned (.int .i64 v) ∧ Ext w w' := by
  subst hv
  exact specLevelOf_any ta pa tn tc pn pc vol ps xs w ht hts hp hps hft hfp hvol
theorem implDraught_is (v : Int) (u : Bool) (a : Option Addr) (n c : Nat) (rows : List (List Bt)) (w : World) (hn : n = rows.length) (hs : n ≤ 1048576) (ht : rows.flatten.length ≤ 1048576) (hf : RowsAt w a rows) (hv : draughtOf rows = v) :
    Calls Try.prog 28 #[.agg #[.bool u, .slice a n c]] w fun e w' => e = .returned (.int .i64 v) ∧ Ext w w' := by
  subst hv
  exact implDraughtOf_any u a n c rows w hn hs ht hf
theorem specDraught_is (v : Int) (u : Bool) (a : Option Addr) (n c : Nat) (rows : List (List Bt)) (w : World) (hn : n = rows.length) (hs : n ≤ 1048576) (ht : rows.flatten.length ≤ 1048576) (hf : RowsAt w a rows) (hv : draughtOf rows = v) :
    Calls Try.prog 131 #[.agg #[.bool u, .slice a n c]] w fun e w' => e = .returned (.int .i64 v) ∧ Ext w w' := by
  subst hv
  exact specDraughtOf_any u a n c rows w hn hs ht hf

set_option maxHeartbeats 1000000 in
theorem sillOf_any (x0 x1 x2 x3 x4 x5 x6 x7 x8 g s : Int) (a : Option Addr) (n c : Nat) (w : World) (hs : (if g = 1 then x2 else x3) = s) :
    Calls Try.prog 86 #[.agg #[.int .i64 x0, .int .i64 x1, .int .i64 x2, .int .i64 x3, .int .i64 x4, .int .i64 x5, .int .i64 x6, .int .i64 x7, .int .i64 x8, .slice a n c], .int .i64 g] w fun e w' => e = .returned (.int .i64 s) ∧ Ext w w' := by
  by_cases h : g = 1
  · rw [if_pos h] at hs
    subst hs h
    go_enter Try.func86, Try.ntmps86
    go_wp2
    go_ret
    exact ⟨rfl, by (repeat' (first | (with_reducible exact Ext.refl _) | (with_reducible assumption) | (with_reducible refine Ext.alloc ?_ _) | (with_reducible refine Ext.drewN ?_ _) | (with_reducible refine Ext.drew ?_) | (with_reducible refine Ext.setCell ?_ ?_ _) | (with_reducible exact Nat.le_refl _) | (with_reducible exact Nat.le_succ _) | (with_reducible refine Ext.trans ?_ (by assumption)) | (simp; done) | (simp; omega)))⟩
  · rw [if_neg h] at hs
    subst hs
    have h1 : (g == 1) = false := by simpa using h
    go_enter Try.func86, Try.ntmps86
    go_wp2
    go_ret
    exact ⟨rfl, by (repeat' (first | (with_reducible exact Ext.refl _) | (with_reducible assumption) | (with_reducible refine Ext.alloc ?_ _) | (with_reducible refine Ext.drewN ?_ _) | (with_reducible refine Ext.drew ?_) | (with_reducible refine Ext.setCell ?_ ?_ _) | (with_reducible exact Nat.le_refl _) | (with_reducible exact Nat.le_succ _) | (with_reducible refine Ext.trans ?_ (by assumption)) | (simp; done) | (simp; omega)))⟩


set_option maxRecDepth 100000 in
set_option maxHeartbeats 2000000 in
theorem l05Deep_any (R : Bool) (s lev dra : Int) (x0 x1 x2 x3 x4 x5 x6 x7 x8 : Int) (a : Option Addr) (n c : Nat) (ta pa : Option Addr) (tn tc pn pc : Nat) (vol : Int) (ps : List Pt) (xs : List Int) (u : Bool) (ra : Option Addr) (rn rc : Nat) (rows : List (List Bt)) (w : World) (ht : tn = ps.length) (htl : tn ≤ maxLen) (hp : pn = xs.length) (hpl : pn ≤ maxLen) (hft : FlatAt w ptCells 2 ta ps) (hfp : IntsAt w pa xs) (hvol : -9223372036854775808 ≤ vol ∧ vol ≤ 9223372036854775807) (hrn : rn = rows.length) (hrs : rn ≤ 1048576) (hrt : rows.flatten.length ≤ 1048576) (hfr : RowsAt w ra rows)
    (hb2 : 0 ≤ x2 ∧ x2 ≤ 100000) (hb3 : 0 ≤ x3 ∧ x3 ≤ 100000) (hsill : (if x8 = 2 then x3 else x2) = s) (hl : levelOf ps vol xs = lev) (hd : draughtOf rows = dra) (hR : decide (dra ≤ lev - s) = R) :
    Calls Try.prog 106 #[.agg #[.int .i64 x0, .int .i64 x1, .int .i64 x2, .int .i64 x3, .int .i64 x4, .int .i64 x5, .int .i64 x6, .int .i64 x7, .int .i64 x8, .slice a n c], .agg #[.slice ta tn tc, .int .i64 vol, .slice pa pn pc], .agg #[.bool u, .slice ra rn rc]] w fun e w' => e = .returned (.bool R) ∧ Ext w w' := by
  have hlb := levelOf_b ps vol xs
  rw [hl] at hlb
  have HLV := Lib.hid hl; clear hl
  have HDR := Lib.hid hd; clear hd
  have HRH := Lib.hid hR; clear hR
  have HT := Lib.hid ht; clear ht
  have HTL := Lib.hid htl; clear htl
  have HP := Lib.hid hp; clear hp
  have HPL := Lib.hid hpl; clear hpl
  have HFT := Lib.hid hft; clear hft
  have HFP := Lib.hid hfp; clear hfp
  have HRN := Lib.hid hrn; clear hrn
  have HRS := Lib.hid hrs; clear hrs
  have HRT := Lib.hid hrt; clear hrt
  have HFR := Lib.hid hfr; clear hfr
  have HBL := Lib.hid ((RowAt.new w 26 #[.int .i64 x0, .int .i64 x1, .int .i64 x2, .int .i64 x3, .int .i64 x4, .int .i64 x5, .int .i64 x6, .int .i64 x7, .int .i64 x8, .slice a n c]).ext (((Ext.refl _).alloc (.cells #[.slice ta tn tc, .int .i64 vol, .slice pa pn pc] 40)).alloc (.cells #[.bool u, .slice ra rn rc] 33)))
  have HBR := Lib.hid (show RowAt (((w.alloc (.cells #[.int .i64 x0, .int .i64 x1, .int .i64 x2, .int .i64 x3, .int .i64 x4, .int .i64 x5, .int .i64 x6, .int .i64 x7, .int .i64 x8, .slice a n c] 26)).alloc (.cells #[.slice ta tn tc, .int .i64 vol, .slice pa pn pc] 40)).alloc (.cells #[.bool u, .slice ra rn rc] 33)) (w.heap.size + 1) 40 #[.slice ta tn tc, .int .i64 vol, .slice pa pn pc] from by
    have h := (RowAt.new (w.alloc (.cells #[.int .i64 x0, .int .i64 x1, .int .i64 x2, .int .i64 x3, .int .i64 x4, .int .i64 x5, .int .i64 x6, .int .i64 x7, .int .i64 x8, .slice a n c] 26)) 40 #[.slice ta tn tc, .int .i64 vol, .slice pa pn pc]).ext ((Ext.refl _).alloc (.cells #[.bool u, .slice ra rn rc] 33))
    rw [World.size_alloc] at h
    exact h)
  have HBT := Lib.hid (show RowAt (((w.alloc (.cells #[.int .i64 x0, .int .i64 x1, .int .i64 x2, .int .i64 x3, .int .i64 x4, .int .i64 x5, .int .i64 x6, .int .i64 x7, .int .i64 x8, .slice a n c] 26)).alloc (.cells #[.slice ta tn tc, .int .i64 vol, .slice pa pn pc] 40)).alloc (.cells #[.bool u, .slice ra rn rc] 33)) (w.heap.size + 1 + 1) 33 #[.bool u, .slice ra rn rc] from by
    have h := RowAt.new ((w.alloc (.cells #[.int .i64 x0, .int .i64 x1, .int .i64 x2, .int .i64 x3, .int .i64 x4, .int .i64 x5, .int .i64 x6, .int .i64 x7, .int .i64 x8, .slice a n c] 26)).alloc (.cells #[.slice ta tn tc, .int .i64 vol, .slice pa pn pc] 40)) 33 #[.bool u, .slice ra rn rc]
    rw [World.size_alloc, World.size_alloc] at h
    exact h)
  have HE0 := Lib.hid (show Ext w (((w.alloc (.cells #[.int .i64 x0, .int .i64 x1, .int .i64 x2, .int .i64 x3, .int .i64 x4, .int .i64 x5, .int .i64 x6, .int .i64 x7, .int .i64 x8, .slice a n c] 26)).alloc (.cells #[.slice ta tn tc, .int .i64 vol, .slice pa pn pc] 40)).alloc (.cells #[.bool u, .slice ra rn rc] 33)) from (((Ext.refl w).alloc _).alloc _).alloc _)
  obtain ⟨c8, hc8⟩ : ∃ b, decide (x8 = 2) = b := ⟨_, rfl⟩
  have hc8' : (x8 == 2) = c8 := by rw [← hc8]; rfl
  have hsb : 0 ≤ s ∧ s ≤ 100000 := by rw [← hsill]; split <;> omega
  cases c8
  all_goals
    simp only [decide_eq_true_eq, decide_eq_false_iff_not] at hc8
    (first | rw [if_pos hc8] at hsill | rw [if_neg hc8] at hsill)
    subst hsill
    clear hc8
    go_enter Try.func106, Try.ntmps106
    go_wp2_with fail
    have HX := Lib.hid (Ext.refl (((w.alloc (.cells #[.int .i64 x0, .int .i64 x1, .int .i64 x2, .int .i64 x3, .int .i64 x4, .int .i64 x5, .int .i64 x6, .int .i64 x7, .int .i64 x8, .slice a n c] 26)).alloc (.cells #[.slice ta tn tc, .int .i64 vol, .slice pa pn pc] 40)).alloc (.cells #[.bool u, .slice ra rn rc] 33)))
    have l0 : ∀ y : Aft (((w.alloc (.cells #[.int .i64 x0, .int .i64 x1, .int .i64 x2, .int .i64 x3, .int .i64 x4, .int .i64 x5, .int .i64 x6, .int .i64 x7, .int .i64 x8, .slice a n c] 26)).alloc (.cells #[.slice ta tn tc, .int .i64 vol, .slice pa pn pc] 40)).alloc (.cells #[.bool u, .slice ra rn rc] 33)), y.1.cell? ⟨w.heap.size, 0, none⟩ = some (.int .i64 x0) := fun y => (HBL.out.ext (HX.out.trans y.2)).cell rfl
    have l1 : ∀ y : Aft (((w.alloc (.cells #[.int .i64 x0, .int .i64 x1, .int .i64 x2, .int .i64 x3, .int .i64 x4, .int .i64 x5, .int .i64 x6, .int .i64 x7, .int .i64 x8, .slice a n c] 26)).alloc (.cells #[.slice ta tn tc, .int .i64 vol, .slice pa pn pc] 40)).alloc (.cells #[.bool u, .slice ra rn rc] 33)), y.1.cell? ⟨w.heap.size, 1, none⟩ = some (.int .i64 x1) := fun y => (HBL.out.ext (HX.out.trans y.2)).cell rfl
    have l2 : ∀ y : Aft (((w.alloc (.cells #[.int .i64 x0, .int .i64 x1, .int .i64 x2, .int .i64 x3, .int .i64 x4, .int .i64 x5, .int .i64 x6, .int .i64 x7, .int .i64 x8, .slice a n c] 26)).alloc (.cells #[.slice ta tn tc, .int .i64 vol, .slice pa pn pc] 40)).alloc (.cells #[.bool u, .slice ra rn rc] 33)), y.1.cell? ⟨w.heap.size, 2, none⟩ = some (.int .i64 x2) := fun y => (HBL.out.ext (HX.out.trans y.2)).cell rfl
    have l3 : ∀ y : Aft (((w.alloc (.cells #[.int .i64 x0, .int .i64 x1, .int .i64 x2, .int .i64 x3, .int .i64 x4, .int .i64 x5, .int .i64 x6, .int .i64 x7, .int .i64 x8, .slice a n c] 26)).alloc (.cells #[.slice ta tn tc, .int .i64 vol, .slice pa pn pc] 40)).alloc (.cells #[.bool u, .slice ra rn rc] 33)), y.1.cell? ⟨w.heap.size, 3, none⟩ = some (.int .i64 x3) := fun y => (HBL.out.ext (HX.out.trans y.2)).cell rfl
    have l4 : ∀ y : Aft (((w.alloc (.cells #[.int .i64 x0, .int .i64 x1, .int .i64 x2, .int .i64 x3, .int .i64 x4, .int .i64 x5, .int .i64 x6, .int .i64 x7, .int .i64 x8, .slice a n c] 26)).alloc (.cells #[.slice ta tn tc, .int .i64 vol, .slice pa pn pc] 40)).alloc (.cells #[.bool u, .slice ra rn rc] 33)), y.1.cell? ⟨w.heap.size, 4, none⟩ = some (.int .i64 x4) := fun y => (HBL.out.ext (HX.out.trans y.2)).cell rfl
    have l5 : ∀ y : Aft (((w.alloc (.cells #[.int .i64 x0, .int .i64 x1, .int .i64 x2, .int .i64 x3, .int .i64 x4, .int .i64 x5, .int .i64 x6, .int .i64 x7, .int .i64 x8, .slice a n c] 26)).alloc (.cells #[.slice ta tn tc, .int .i64 vol, .slice pa pn pc] 40)).alloc (.cells #[.bool u, .slice ra rn rc] 33)), y.1.cell? ⟨w.heap.size, 5, none⟩ = some (.int .i64 x5) := fun y => (HBL.out.ext (HX.out.trans y.2)).cell rfl
    have l6 : ∀ y : Aft (((w.alloc (.cells #[.int .i64 x0, .int .i64 x1, .int .i64 x2, .int .i64 x3, .int .i64 x4, .int .i64 x5, .int .i64 x6, .int .i64 x7, .int .i64 x8, .slice a n c] 26)).alloc (.cells #[.slice ta tn tc, .int .i64 vol, .slice pa pn pc] 40)).alloc (.cells #[.bool u, .slice ra rn rc] 33)), y.1.cell? ⟨w.heap.size, 6, none⟩ = some (.int .i64 x6) := fun y => (HBL.out.ext (HX.out.trans y.2)).cell rfl
    have l7 : ∀ y : Aft (((w.alloc (.cells #[.int .i64 x0, .int .i64 x1, .int .i64 x2, .int .i64 x3, .int .i64 x4, .int .i64 x5, .int .i64 x6, .int .i64 x7, .int .i64 x8, .slice a n c] 26)).alloc (.cells #[.slice ta tn tc, .int .i64 vol, .slice pa pn pc] 40)).alloc (.cells #[.bool u, .slice ra rn rc] 33)), y.1.cell? ⟨w.heap.size, 7, none⟩ = some (.int .i64 x7) := fun y => (HBL.out.ext (HX.out.trans y.2)).cell rfl
    have l8 : ∀ y : Aft (((w.alloc (.cells #[.int .i64 x0, .int .i64 x1, .int .i64 x2, .int .i64 x3, .int .i64 x4, .int .i64 x5, .int .i64 x6, .int .i64 x7, .int .i64 x8, .slice a n c] 26)).alloc (.cells #[.slice ta tn tc, .int .i64 vol, .slice pa pn pc] 40)).alloc (.cells #[.bool u, .slice ra rn rc] 33)), y.1.cell? ⟨w.heap.size, 8, none⟩ = some (.int .i64 x8) := fun y => (HBL.out.ext (HX.out.trans y.2)).cell rfl
    have l9 : ∀ y : Aft (((w.alloc (.cells #[.int .i64 x0, .int .i64 x1, .int .i64 x2, .int .i64 x3, .int .i64 x4, .int .i64 x5, .int .i64 x6, .int .i64 x7, .int .i64 x8, .slice a n c] 26)).alloc (.cells #[.slice ta tn tc, .int .i64 vol, .slice pa pn pc] 40)).alloc (.cells #[.bool u, .slice ra rn rc] 33)), y.1.cell? ⟨w.heap.size, 9, none⟩ = some (.slice a n c) := fun y => (HBL.out.ext (HX.out.trans y.2)).cell rfl
    have r0 : ∀ y : Aft (((w.alloc (.cells #[.int .i64 x0, .int .i64 x1, .int .i64 x2, .int .i64 x3, .int .i64 x4, .int .i64 x5, .int .i64 x6, .int .i64 x7, .int .i64 x8, .slice a n c] 26)).alloc (.cells #[.slice ta tn tc, .int .i64 vol, .slice pa pn pc] 40)).alloc (.cells #[.bool u, .slice ra rn rc] 33)), y.1.cell? ⟨w.heap.size + 1, 0, none⟩ = some (.slice ta tn tc) := fun y => (HBR.out.ext (HX.out.trans y.2)).cell rfl
    have r1 : ∀ y : Aft (((w.alloc (.cells #[.int .i64 x0, .int .i64 x1, .int .i64 x2, .int .i64 x3, .int .i64 x4, .int .i64 x5, .int .i64 x6, .int .i64 x7, .int .i64 x8, .slice a n c] 26)).alloc (.cells #[.slice ta tn tc, .int .i64 vol, .slice pa pn pc] 40)).alloc (.cells #[.bool u, .slice ra rn rc] 33)), y.1.cell? ⟨w.heap.size + 1, 1, none⟩ = some (.int .i64 vol) := fun y => (HBR.out.ext (HX.out.trans y.2)).cell rfl
    have r2 : ∀ y : Aft (((w.alloc (.cells #[.int .i64 x0, .int .i64 x1, .int .i64 x2, .int .i64 x3, .int .i64 x4, .int .i64 x5, .int .i64 x6, .int .i64 x7, .int .i64 x8, .slice a n c] 26)).alloc (.cells #[.slice ta tn tc, .int .i64 vol, .slice pa pn pc] 40)).alloc (.cells #[.bool u, .slice ra rn rc] 33)), y.1.cell? ⟨w.heap.size + 1, 2, none⟩ = some (.slice pa pn pc) := fun y => (HBR.out.ext (HX.out.trans y.2)).cell rfl
    have t0 : ∀ y : Aft (((w.alloc (.cells #[.int .i64 x0, .int .i64 x1, .int .i64 x2, .int .i64 x3, .int .i64 x4, .int .i64 x5, .int .i64 x6, .int .i64 x7, .int .i64 x8, .slice a n c] 26)).alloc (.cells #[.slice ta tn tc, .int .i64 vol, .slice pa pn pc] 40)).alloc (.cells #[.bool u, .slice ra rn rc] 33)), y.1.cell? ⟨w.heap.size + 1 + 1, 0, none⟩ = some (.bool u) := fun y => (HBT.out.ext (HX.out.trans y.2)).cell rfl
    have t1 : ∀ y : Aft (((w.alloc (.cells #[.int .i64 x0, .int .i64 x1, .int .i64 x2, .int .i64 x3, .int .i64 x4, .int .i64 x5, .int .i64 x6, .int .i64 x7, .int .i64 x8, .slice a n c] 26)).alloc (.cells #[.slice ta tn tc, .int .i64 vol, .slice pa pn pc] 40)).alloc (.cells #[.bool u, .slice ra rn rc] 33)), y.1.cell? ⟨w.heap.size + 1 + 1, 1, none⟩ = some (.slice ra rn rc) := fun y => (HBT.out.ext (HX.out.trans y.2)).cell rfl
    (refine wp_region_aft (((w.alloc (.cells #[.int .i64 x0, .int .i64 x1, .int .i64 x2, .int .i64 x3, .int .i64 x4, .int .i64 x5, .int .i64 x6, .int .i64 x7, .int .i64 x8, .slice a n c] 26)).alloc (.cells #[.slice ta tn tc, .int .i64 vol, .slice pa pn pc] 40)).alloc (.cells #[.bool u, .slice ra rn rc] 33)) (Ext.refl _) (by kernel_rfl) (by kernel_rfl) ?_; (repeat (go_big_quiet_step ((first | (go_at_call 95; exact aft_call (specLevel_is lev _ _ _ _ _ _ _ ps xs _ HT.out HTL.out HP.out HPL.out (HFT.out.ext (HE0.out.trans (Subtype.property _))) (HFP.out.ext (HE0.out.trans (Subtype.property _))) hvol HLV.out)) | (go_at_call 131; exact aft_call (specDraught_is dra _ _ _ _ rows _ HRN.out HRS.out HRT.out (HFR.out.ext (HE0.out.trans (Subtype.property _))) HDR.out)))))); refine wpQuiet_nil ?_; intro w2 hx2)
    go_wp2
    go_ret
    exact ⟨ret_bool HRH.out, HE0.out.trans hx2⟩


set_option maxRecDepth 100000 in
set_option maxHeartbeats 1000000 in
theorem implMayEnter_any (R : Bool) (x0 x1 x2 x3 x4 x5 x6 x7 x8 : Int) (a : Option Addr) (n c : Nat) (ts : List Tn) (ta pa : Option Addr) (tn tc pn pc : Nat) (vol : Int) (ps : List Pt) (xs : List Int) (u : Bool) (ra : Option Addr) (rn rc : Nat) (rows : List (List Bt)) (w : World) (hn : n = ts.length) (hs : n ≤ 1048576) (hts : ∀ t ∈ ts, SmallT t) (hf : TrainsAt w a ts) (ht : tn = ps.length) (htl : tn ≤ maxLen) (hp : pn = xs.length) (hpl : pn ≤ maxLen) (hft : FlatAt w ptCells 2 ta ps) (hfp : IntsAt w pa xs) (hvol : -9223372036854775808 ≤ vol ∧ vol ≤ 9223372036854775807) (hrn : rn = rows.length) (hrs : rn ≤ 1048576) (hrt : rows.flatten.length ≤ 1048576) (hfr : RowsAt w ra rows) (hR : mayEnter x0 x1 x2 x3 x4 x5 x6 x7 x8 ts ps vol xs u rows = R) :
    Calls Try.prog 29 #[.agg #[.int .i64 x0, .int .i64 x1, .int .i64 x2, .int .i64 x3, .int .i64 x4, .int .i64 x5, .int .i64 x6, .int .i64 x7, .int .i64 x8, .slice a n c], .agg #[.slice ta tn tc, .int .i64 vol, .slice pa pn pc], .agg #[.bool u, .slice ra rn rc]] w fun e w' => e = .returned (.bool R) ∧ Ext w w' := by
  obtain ⟨k1, hk1⟩ : ∃ k, lockOk x0 x1 x2 x3 x4 x5 x6 x7 x8 ts = k := ⟨_, rfl⟩
  obtain ⟨k2, hk2⟩ : ∃ k, reachOk ps vol xs = k := ⟨_, rfl⟩
  obtain ⟨k3, hk3⟩ : ∃ k, trainOk rows = k := ⟨_, rfl⟩
  unfold mayEnter at hR
  rw [hk1, hk2, hk3] at hR
  have HK1 := Lib.hid hk1
  have HK2 := Lib.hid hk2; clear hk2
  have HK3 := Lib.hid hk3; clear hk3
  have HN := Lib.hid hn; clear hn
  have HS := Lib.hid hs; clear hs
  have HTS := Lib.hid hts; clear hts
  have HF := Lib.hid hf; clear hf
  have HT := Lib.hid ht; clear ht
  have HTL := Lib.hid htl; clear htl
  have HP := Lib.hid hp; clear hp
  have HPL := Lib.hid hpl; clear hpl
  have HFT := Lib.hid hft; clear hft
  have HFP := Lib.hid hfp; clear hfp
  have HRN := Lib.hid hrn; clear hrn
  have HRS := Lib.hid hrs; clear hrs
  have HRT := Lib.hid hrt; clear hrt
  have HFR := Lib.hid hfr; clear hfr
  have HBL := Lib.hid ((RowAt.new w 26 #[.int .i64 x0, .int .i64 x1, .int .i64 x2, .int .i64 x3, .int .i64 x4, .int .i64 x5, .int .i64 x6, .int .i64 x7, .int .i64 x8, .slice a n c]).ext (((Ext.refl _).alloc (.cells #[.slice ta tn tc, .int .i64 vol, .slice pa pn pc] 40)).alloc (.cells #[.bool u, .slice ra rn rc] 33)))
  have HBR := Lib.hid (show RowAt (((w.alloc (.cells #[.int .i64 x0, .int .i64 x1, .int .i64 x2, .int .i64 x3, .int .i64 x4, .int .i64 x5, .int .i64 x6, .int .i64 x7, .int .i64 x8, .slice a n c] 26)).alloc (.cells #[.slice ta tn tc, .int .i64 vol, .slice pa pn pc] 40)).alloc (.cells #[.bool u, .slice ra rn rc] 33)) (w.heap.size + 1) 40 #[.slice ta tn tc, .int .i64 vol, .slice pa pn pc] from by
    have h := (RowAt.new (w.alloc (.cells #[.int .i64 x0, .int .i64 x1, .int .i64 x2, .int .i64 x3, .int .i64 x4, .int .i64 x5, .int .i64 x6, .int .i64 x7, .int .i64 x8, .slice a n c] 26)) 40 #[.slice ta tn tc, .int .i64 vol, .slice pa pn pc]).ext ((Ext.refl _).alloc (.cells #[.bool u, .slice ra rn rc] 33))
    rw [World.size_alloc] at h
    exact h)
  have HBT := Lib.hid (show RowAt (((w.alloc (.cells #[.int .i64 x0, .int .i64 x1, .int .i64 x2, .int .i64 x3, .int .i64 x4, .int .i64 x5, .int .i64 x6, .int .i64 x7, .int .i64 x8, .slice a n c] 26)).alloc (.cells #[.slice ta tn tc, .int .i64 vol, .slice pa pn pc] 40)).alloc (.cells #[.bool u, .slice ra rn rc] 33)) (w.heap.size + 1 + 1) 33 #[.bool u, .slice ra rn rc] from by
    have h := RowAt.new ((w.alloc (.cells #[.int .i64 x0, .int .i64 x1, .int .i64 x2, .int .i64 x3, .int .i64 x4, .int .i64 x5, .int .i64 x6, .int .i64 x7, .int .i64 x8, .slice a n c] 26)).alloc (.cells #[.slice ta tn tc, .int .i64 vol, .slice pa pn pc] 40)) 33 #[.bool u, .slice ra rn rc]
    rw [World.size_alloc, World.size_alloc] at h
    exact h)
  have HE0 := Lib.hid (show Ext w (((w.alloc (.cells #[.int .i64 x0, .int .i64 x1, .int .i64 x2, .int .i64 x3, .int .i64 x4, .int .i64 x5, .int .i64 x6, .int .i64 x7, .int .i64 x8, .slice a n c] 26)).alloc (.cells #[.slice ta tn tc, .int .i64 vol, .slice pa pn pc] 40)).alloc (.cells #[.bool u, .slice ra rn rc] 33)) from (((Ext.refl w).alloc _).alloc _).alloc _)
  cases k1
  · have HRR := Lib.hid (show (false : Bool) = R by simpa using hR)
    clear hR hk1
    go_enter Try.func29, Try.ntmps29
    go_wp2_with fail
    with_reducible refine (implLockOk_any false _ _ _ _ _ _ _ _ _ _ _ _ ts _ HN.out HS.out HTS.out (HF.out.ext HE0.out) HK1.out).mono ?_
    rintro e w1 ⟨rfl, hx1⟩
    go_wp2
    go_ret
    exact ⟨ret_bool HRR.out, HE0.out.trans hx1⟩
  cases k2
  · have HRR := Lib.hid (show (false : Bool) = R by simpa using hR)
    clear hR hk1
    go_enter Try.func29, Try.ntmps29
    go_wp2_with fail
    with_reducible refine (implLockOk_any true _ _ _ _ _ _ _ _ _ _ _ _ ts _ HN.out HS.out HTS.out (HF.out.ext HE0.out) HK1.out).mono ?_
    rintro e w1 ⟨rfl, hx1⟩
    have r0 : w1.cell? ⟨w.heap.size + 1, 0, none⟩ = some (.slice ta tn tc) := (HBR.out.ext hx1).cell rfl
    have r1 : w1.cell? ⟨w.heap.size + 1, 1, none⟩ = some (.int .i64 vol) := (HBR.out.ext hx1).cell rfl
    have r2 : w1.cell? ⟨w.heap.size + 1, 2, none⟩ = some (.slice pa pn pc) := (HBR.out.ext hx1).cell rfl
    go_wp2_with fail
    with_reducible refine (implReachOk_is _ _ _ _ _ _ _ _ ps xs _ HT.out HTL.out HP.out HPL.out (HFT.out.ext (HE0.out.trans hx1)) (HFP.out.ext (HE0.out.trans hx1)) hvol HK2.out).mono ?_
    rintro e w2 ⟨rfl, hx2⟩
    go_wp2
    go_ret
    exact ⟨ret_bool HRR.out, HE0.out.trans (hx1.trans hx2)⟩
  cases k3
  · have HRR := Lib.hid (show (false : Bool) = R by simpa using hR)
    clear hR hk1
    go_enter Try.func29, Try.ntmps29
    go_wp2_with fail
    with_reducible refine (implLockOk_any true _ _ _ _ _ _ _ _ _ _ _ _ ts _ HN.out HS.out HTS.out (HF.out.ext HE0.out) HK1.out).mono ?_
    rintro e w1 ⟨rfl, hx1⟩
    have r0 : w1.cell? ⟨w.heap.size + 1, 0, none⟩ = some (.slice ta tn tc) := (HBR.out.ext hx1).cell rfl
    have r1 : w1.cell? ⟨w.heap.size + 1, 1, none⟩ = some (.int .i64 vol) := (HBR.out.ext hx1).cell rfl
    have r2 : w1.cell? ⟨w.heap.size + 1, 2, none⟩ = some (.slice pa pn pc) := (HBR.out.ext hx1).cell rfl
    go_wp2_with fail
    with_reducible refine (implReachOk_is _ _ _ _ _ _ _ _ ps xs _ HT.out HTL.out HP.out HPL.out (HFT.out.ext (HE0.out.trans hx1)) (HFP.out.ext (HE0.out.trans hx1)) hvol HK2.out).mono ?_
    rintro e w2 ⟨rfl, hx2⟩
    have hx12 := hx1.trans hx2
    have t0 : w2.cell? ⟨w.heap.size + 1 + 1, 0, none⟩ = some (.bool u) := (HBT.out.ext hx12).cell rfl
    have t1 : w2.cell? ⟨w.heap.size + 1 + 1, 1, none⟩ = some (.slice ra rn rc) := (HBT.out.ext hx12).cell rfl
    go_wp2_with fail
    with_reducible refine (implTrainOk_is _ _ _ _ _ rows _ HRN.out HRS.out HRT.out (HFR.out.ext (HE0.out.trans hx12)) HK3.out).mono ?_
    rintro e w3 ⟨rfl, hx3⟩
    go_wp2
    go_ret
    exact ⟨ret_bool HRR.out, HE0.out.trans (hx12.trans hx3)⟩
  obtain ⟨hb2, hb3, hb8⟩ := lockOk_sills hk1
  obtain ⟨lev, hlev⟩ : ∃ v, levelOf ps vol xs = v := ⟨_, rfl⟩
  obtain ⟨dra, hdra⟩ : ∃ v, draughtOf rows = v := ⟨_, rfl⟩
  have hlb := levelOf_b ps vol xs
  rw [hlev] at hlb
  simp only [Bool.and_self, if_true, deep, hlev, hdra] at hR
  have HLV := Lib.hid hlev; clear hlev
  have HDR := Lib.hid hdra; clear hdra
  clear hk1
  cases u
  all_goals
    simp only [Bool.false_eq_true, if_false, if_true] at hR
  · by_cases hg : x8 = 1
    · rw [if_pos hg] at hR
      have hg1 : (x8 == 1) = true := by simpa using hg
      have HG := Lib.hid hg; clear hg
      have HRR := Lib.hid hR; clear hR
      go_enter Try.func29, Try.ntmps29
      go_wp2_with fail
      with_reducible refine (implLockOk_any true _ _ _ _ _ _ _ _ _ _ _ _ ts _ HN.out HS.out HTS.out (HF.out.ext HE0.out) HK1.out).mono ?_
      rintro e w1 ⟨rfl, hx1⟩
      have r0 : w1.cell? ⟨w.heap.size + 1, 0, none⟩ = some (.slice ta tn tc) := (HBR.out.ext hx1).cell rfl
      have r1 : w1.cell? ⟨w.heap.size + 1, 1, none⟩ = some (.int .i64 vol) := (HBR.out.ext hx1).cell rfl
      have r2 : w1.cell? ⟨w.heap.size + 1, 2, none⟩ = some (.slice pa pn pc) := (HBR.out.ext hx1).cell rfl
      go_wp2_with fail
      with_reducible refine (implReachOk_is _ _ _ _ _ _ _ _ ps xs _ HT.out HTL.out HP.out HPL.out (HFT.out.ext (HE0.out.trans hx1)) (HFP.out.ext (HE0.out.trans hx1)) hvol HK2.out).mono ?_
      rintro e w2 ⟨rfl, hx2⟩
      have hx12 := hx1.trans hx2
      have t0 : w2.cell? ⟨w.heap.size + 1 + 1, 0, none⟩ = some (.bool false) := (HBT.out.ext hx12).cell rfl
      have t1 : w2.cell? ⟨w.heap.size + 1 + 1, 1, none⟩ = some (.slice ra rn rc) := (HBT.out.ext hx12).cell rfl
      go_wp2_with fail
      with_reducible refine (implTrainOk_is _ _ _ _ _ rows _ HRN.out HRS.out HRT.out (HFR.out.ext (HE0.out.trans hx12)) HK3.out).mono ?_
      rintro e w3 ⟨rfl, hx3⟩
      have HX := Lib.hid (hx12.trans hx3)
      have l0 : ∀ y : Aft w3, y.1.cell? ⟨w.heap.size, 0, none⟩ = some (.int .i64 x0) := fun y => (HBL.out.ext (HX.out.trans y.2)).cell rfl
      have l1 : ∀ y : Aft w3, y.1.cell? ⟨w.heap.size, 1, none⟩ = some (.int .i64 x1) := fun y => (HBL.out.ext (HX.out.trans y.2)).cell rfl
      have l2 : ∀ y : Aft w3, y.1.cell? ⟨w.heap.size, 2, none⟩ = some (.int .i64 x2) := fun y => (HBL.out.ext (HX.out.trans y.2)).cell rfl
      have l3 : ∀ y : Aft w3, y.1.cell? ⟨w.heap.size, 3, none⟩ = some (.int .i64 x3) := fun y => (HBL.out.ext (HX.out.trans y.2)).cell rfl
      have l4 : ∀ y : Aft w3, y.1.cell? ⟨w.heap.size, 4, none⟩ = some (.int .i64 x4) := fun y => (HBL.out.ext (HX.out.trans y.2)).cell rfl
      have l5 : ∀ y : Aft w3, y.1.cell? ⟨w.heap.size, 5, none⟩ = some (.int .i64 x5) := fun y => (HBL.out.ext (HX.out.trans y.2)).cell rfl
      have l6 : ∀ y : Aft w3, y.1.cell? ⟨w.heap.size, 6, none⟩ = some (.int .i64 x6) := fun y => (HBL.out.ext (HX.out.trans y.2)).cell rfl
      have l7 : ∀ y : Aft w3, y.1.cell? ⟨w.heap.size, 7, none⟩ = some (.int .i64 x7) := fun y => (HBL.out.ext (HX.out.trans y.2)).cell rfl
      have l8 : ∀ y : Aft w3, y.1.cell? ⟨w.heap.size, 8, none⟩ = some (.int .i64 x8) := fun y => (HBL.out.ext (HX.out.trans y.2)).cell rfl
      have l9 : ∀ y : Aft w3, y.1.cell? ⟨w.heap.size, 9, none⟩ = some (.slice a n c) := fun y => (HBL.out.ext (HX.out.trans y.2)).cell rfl
      have r0 : ∀ y : Aft w3, y.1.cell? ⟨w.heap.size + 1, 0, none⟩ = some (.slice ta tn tc) := fun y => (HBR.out.ext (HX.out.trans y.2)).cell rfl
      have r1 : ∀ y : Aft w3, y.1.cell? ⟨w.heap.size + 1, 1, none⟩ = some (.int .i64 vol) := fun y => (HBR.out.ext (HX.out.trans y.2)).cell rfl
      have r2 : ∀ y : Aft w3, y.1.cell? ⟨w.heap.size + 1, 2, none⟩ = some (.slice pa pn pc) := fun y => (HBR.out.ext (HX.out.trans y.2)).cell rfl
      have t0 : ∀ y : Aft w3, y.1.cell? ⟨w.heap.size + 1 + 1, 0, none⟩ = some (.bool false) := fun y => (HBT.out.ext (HX.out.trans y.2)).cell rfl
      have t1 : ∀ y : Aft w3, y.1.cell? ⟨w.heap.size + 1 + 1, 1, none⟩ = some (.slice ra rn rc) := fun y => (HBT.out.ext (HX.out.trans y.2)).cell rfl
      have tt0 : w3.cell? ⟨w.heap.size + 1 + 1, 0, none⟩ = some (.bool false) := (HBT.out.ext HX.out).cell rfl
      clear hx1 hx2 hx12 hx3
      go_wp2_with fail
      clear tt0
      (refine wp_region_aft w3 (Ext.refl _) (by kernel_rfl) (by kernel_rfl) ?_; (repeat (go_big_quiet_step ((first | (go_at_call 22; exact aft_call (implLevel_is lev _ _ _ _ _ _ _ ps xs _ HT.out HTL.out HP.out HPL.out (HFT.out.ext (HE0.out.trans (HX.out.trans (Subtype.property _)))) (HFP.out.ext (HE0.out.trans (HX.out.trans (Subtype.property _)))) hvol HLV.out)) | (go_at_call 86; exact aft_call (sillOf_any _ _ _ _ _ _ _ _ _ 1 x2 _ _ _ _ rfl)) | (go_at_call 28; exact aft_call (implDraught_is dra _ _ _ _ rows _ HRN.out HRS.out HRT.out (HFR.out.ext (HE0.out.trans (HX.out.trans (Subtype.property _)))) HDR.out)))))); refine wpQuiet_nil ?_; intro w2 hx2)
      go_wp2
      go_ret
      exact ⟨ret_bool HRR.out, HE0.out.trans (HX.out.trans hx2)⟩
    · rw [if_neg hg] at hR
      have hg1 : (x8 == 1) = false := by simpa using hg
      have HRR := Lib.hid hR; clear hR
      go_enter Try.func29, Try.ntmps29
      go_wp2_with fail
      with_reducible refine (implLockOk_any true _ _ _ _ _ _ _ _ _ _ _ _ ts _ HN.out HS.out HTS.out (HF.out.ext HE0.out) HK1.out).mono ?_
      rintro e w1 ⟨rfl, hx1⟩
      have r0 : w1.cell? ⟨w.heap.size + 1, 0, none⟩ = some (.slice ta tn tc) := (HBR.out.ext hx1).cell rfl
      have r1 : w1.cell? ⟨w.heap.size + 1, 1, none⟩ = some (.int .i64 vol) := (HBR.out.ext hx1).cell rfl
      have r2 : w1.cell? ⟨w.heap.size + 1, 2, none⟩ = some (.slice pa pn pc) := (HBR.out.ext hx1).cell rfl
      go_wp2_with fail
      with_reducible refine (implReachOk_is _ _ _ _ _ _ _ _ ps xs _ HT.out HTL.out HP.out HPL.out (HFT.out.ext (HE0.out.trans hx1)) (HFP.out.ext (HE0.out.trans hx1)) hvol HK2.out).mono ?_
      rintro e w2 ⟨rfl, hx2⟩
      have hx12 := hx1.trans hx2
      have t0 : w2.cell? ⟨w.heap.size + 1 + 1, 0, none⟩ = some (.bool false) := (HBT.out.ext hx12).cell rfl
      have t1 : w2.cell? ⟨w.heap.size + 1 + 1, 1, none⟩ = some (.slice ra rn rc) := (HBT.out.ext hx12).cell rfl
      go_wp2_with fail
      with_reducible refine (implTrainOk_is _ _ _ _ _ rows _ HRN.out HRS.out HRT.out (HFR.out.ext (HE0.out.trans hx12)) HK3.out).mono ?_
      rintro e w3 ⟨rfl, hx3⟩
      have HX := Lib.hid (hx12.trans hx3)
      have l0 : ∀ y : Aft w3, y.1.cell? ⟨w.heap.size, 0, none⟩ = some (.int .i64 x0) := fun y => (HBL.out.ext (HX.out.trans y.2)).cell rfl
      have l1 : ∀ y : Aft w3, y.1.cell? ⟨w.heap.size, 1, none⟩ = some (.int .i64 x1) := fun y => (HBL.out.ext (HX.out.trans y.2)).cell rfl
      have l2 : ∀ y : Aft w3, y.1.cell? ⟨w.heap.size, 2, none⟩ = some (.int .i64 x2) := fun y => (HBL.out.ext (HX.out.trans y.2)).cell rfl
      have l3 : ∀ y : Aft w3, y.1.cell? ⟨w.heap.size, 3, none⟩ = some (.int .i64 x3) := fun y => (HBL.out.ext (HX.out.trans y.2)).cell rfl
      have l4 : ∀ y : Aft w3, y.1.cell? ⟨w.heap.size, 4, none⟩ = some (.int .i64 x4) := fun y => (HBL.out.ext (HX.out.trans y.2)).cell rfl
      have l5 : ∀ y : Aft w3, y.1.cell? ⟨w.heap.size, 5, none⟩ = some (.int .i64 x5) := fun y => (HBL.out.ext (HX.out.trans y.2)).cell rfl
      have l6 : ∀ y : Aft w3, y.1.cell? ⟨w.heap.size, 6, none⟩ = some (.int .i64 x6) := fun y => (HBL.out.ext (HX.out.trans y.2)).cell rfl
      have l7 : ∀ y : Aft w3, y.1.cell? ⟨w.heap.size, 7, none⟩ = some (.int .i64 x7) := fun y => (HBL.out.ext (HX.out.trans y.2)).cell rfl
      have l8 : ∀ y : Aft w3, y.1.cell? ⟨w.heap.size, 8, none⟩ = some (.int .i64 x8) := fun y => (HBL.out.ext (HX.out.trans y.2)).cell rfl
      have l9 : ∀ y : Aft w3, y.1.cell? ⟨w.heap.size, 9, none⟩ = some (.slice a n c) := fun y => (HBL.out.ext (HX.out.trans y.2)).cell rfl
      have r0 : ∀ y : Aft w3, y.1.cell? ⟨w.heap.size + 1, 0, none⟩ = some (.slice ta tn tc) := fun y => (HBR.out.ext (HX.out.trans y.2)).cell rfl
      have r1 : ∀ y : Aft w3, y.1.cell? ⟨w.heap.size + 1, 1, none⟩ = some (.int .i64 vol) := fun y => (HBR.out.ext (HX.out.trans y.2)).cell rfl
      have r2 : ∀ y : Aft w3, y.1.cell? ⟨w.heap.size + 1, 2, none⟩ = some (.slice pa pn pc) := fun y => (HBR.out.ext (HX.out.trans y.2)).cell rfl
      have t0 : ∀ y : Aft w3, y.1.cell? ⟨w.heap.size + 1 + 1, 0, none⟩ = some (.bool false) := fun y => (HBT.out.ext (HX.out.trans y.2)).cell rfl
      have t1 : ∀ y : Aft w3, y.1.cell? ⟨w.heap.size + 1 + 1, 1, none⟩ = some (.slice ra rn rc) := fun y => (HBT.out.ext (HX.out.trans y.2)).cell rfl
      have tt0 : w3.cell? ⟨w.heap.size + 1 + 1, 0, none⟩ = some (.bool false) := (HBT.out.ext HX.out).cell rfl
      clear hx1 hx2 hx12 hx3
      go_wp2_with fail
      clear tt0
      (refine wp_region_aft w3 (Ext.refl _) (by kernel_rfl) (by kernel_rfl) ?_; (repeat (go_big_quiet_step ((first | (go_at_call 22; exact aft_call (implLevel_is lev _ _ _ _ _ _ _ ps xs _ HT.out HTL.out HP.out HPL.out (HFT.out.ext (HE0.out.trans (HX.out.trans (Subtype.property _)))) (HFP.out.ext (HE0.out.trans (HX.out.trans (Subtype.property _)))) hvol HLV.out)) | (go_at_call 86; exact aft_call (sillOf_any _ _ _ _ _ _ _ _ _ 1 x2 _ _ _ _ rfl)) | (go_at_call 28; exact aft_call (implDraught_is dra _ _ _ _ rows _ HRN.out HRS.out HRT.out (HFR.out.ext (HE0.out.trans (HX.out.trans (Subtype.property _)))) HDR.out)))))); refine wpQuiet_nil ?_; intro w2 hx2)
      go_wp2
      go_ret
      exact ⟨ret_bool HRR.out, HE0.out.trans (HX.out.trans hx2)⟩
  · by_cases hg : x8 = 2
    · rw [if_pos hg] at hR
      have hg1 : (x8 == 2) = true := by simpa using hg
      have HG := Lib.hid hg; clear hg
      have HRR := Lib.hid hR; clear hR
      go_enter Try.func29, Try.ntmps29
      go_wp2_with fail
      with_reducible refine (implLockOk_any true _ _ _ _ _ _ _ _ _ _ _ _ ts _ HN.out HS.out HTS.out (HF.out.ext HE0.out) HK1.out).mono ?_
      rintro e w1 ⟨rfl, hx1⟩
      have r0 : w1.cell? ⟨w.heap.size + 1, 0, none⟩ = some (.slice ta tn tc) := (HBR.out.ext hx1).cell rfl
      have r1 : w1.cell? ⟨w.heap.size + 1, 1, none⟩ = some (.int .i64 vol) := (HBR.out.ext hx1).cell rfl
      have r2 : w1.cell? ⟨w.heap.size + 1, 2, none⟩ = some (.slice pa pn pc) := (HBR.out.ext hx1).cell rfl
      go_wp2_with fail
      with_reducible refine (implReachOk_is _ _ _ _ _ _ _ _ ps xs _ HT.out HTL.out HP.out HPL.out (HFT.out.ext (HE0.out.trans hx1)) (HFP.out.ext (HE0.out.trans hx1)) hvol HK2.out).mono ?_
      rintro e w2 ⟨rfl, hx2⟩
      have hx12 := hx1.trans hx2
      have t0 : w2.cell? ⟨w.heap.size + 1 + 1, 0, none⟩ = some (.bool true) := (HBT.out.ext hx12).cell rfl
      have t1 : w2.cell? ⟨w.heap.size + 1 + 1, 1, none⟩ = some (.slice ra rn rc) := (HBT.out.ext hx12).cell rfl
      go_wp2_with fail
      with_reducible refine (implTrainOk_is _ _ _ _ _ rows _ HRN.out HRS.out HRT.out (HFR.out.ext (HE0.out.trans hx12)) HK3.out).mono ?_
      rintro e w3 ⟨rfl, hx3⟩
      have HX := Lib.hid (hx12.trans hx3)
      have l0 : ∀ y : Aft w3, y.1.cell? ⟨w.heap.size, 0, none⟩ = some (.int .i64 x0) := fun y => (HBL.out.ext (HX.out.trans y.2)).cell rfl
      have l1 : ∀ y : Aft w3, y.1.cell? ⟨w.heap.size, 1, none⟩ = some (.int .i64 x1) := fun y => (HBL.out.ext (HX.out.trans y.2)).cell rfl
      have l2 : ∀ y : Aft w3, y.1.cell? ⟨w.heap.size, 2, none⟩ = some (.int .i64 x2) := fun y => (HBL.out.ext (HX.out.trans y.2)).cell rfl
      have l3 : ∀ y : Aft w3, y.1.cell? ⟨w.heap.size, 3, none⟩ = some (.int .i64 x3) := fun y => (HBL.out.ext (HX.out.trans y.2)).cell rfl
      have l4 : ∀ y : Aft w3, y.1.cell? ⟨w.heap.size, 4, none⟩ = some (.int .i64 x4) := fun y => (HBL.out.ext (HX.out.trans y.2)).cell rfl
      have l5 : ∀ y : Aft w3, y.1.cell? ⟨w.heap.size, 5, none⟩ = some (.int .i64 x5) := fun y => (HBL.out.ext (HX.out.trans y.2)).cell rfl
      have l6 : ∀ y : Aft w3, y.1.cell? ⟨w.heap.size, 6, none⟩ = some (.int .i64 x6) := fun y => (HBL.out.ext (HX.out.trans y.2)).cell rfl
      have l7 : ∀ y : Aft w3, y.1.cell? ⟨w.heap.size, 7, none⟩ = some (.int .i64 x7) := fun y => (HBL.out.ext (HX.out.trans y.2)).cell rfl
      have l8 : ∀ y : Aft w3, y.1.cell? ⟨w.heap.size, 8, none⟩ = some (.int .i64 x8) := fun y => (HBL.out.ext (HX.out.trans y.2)).cell rfl
      have l9 : ∀ y : Aft w3, y.1.cell? ⟨w.heap.size, 9, none⟩ = some (.slice a n c) := fun y => (HBL.out.ext (HX.out.trans y.2)).cell rfl
      have r0 : ∀ y : Aft w3, y.1.cell? ⟨w.heap.size + 1, 0, none⟩ = some (.slice ta tn tc) := fun y => (HBR.out.ext (HX.out.trans y.2)).cell rfl
      have r1 : ∀ y : Aft w3, y.1.cell? ⟨w.heap.size + 1, 1, none⟩ = some (.int .i64 vol) := fun y => (HBR.out.ext (HX.out.trans y.2)).cell rfl
      have r2 : ∀ y : Aft w3, y.1.cell? ⟨w.heap.size + 1, 2, none⟩ = some (.slice pa pn pc) := fun y => (HBR.out.ext (HX.out.trans y.2)).cell rfl
      have t0 : ∀ y : Aft w3, y.1.cell? ⟨w.heap.size + 1 + 1, 0, none⟩ = some (.bool true) := fun y => (HBT.out.ext (HX.out.trans y.2)).cell rfl
      have t1 : ∀ y : Aft w3, y.1.cell? ⟨w.heap.size + 1 + 1, 1, none⟩ = some (.slice ra rn rc) := fun y => (HBT.out.ext (HX.out.trans y.2)).cell rfl
      have tt0 : w3.cell? ⟨w.heap.size + 1 + 1, 0, none⟩ = some (.bool true) := (HBT.out.ext HX.out).cell rfl
      clear hx1 hx2 hx12 hx3
      go_wp2_with fail
      clear tt0
      (refine wp_region_aft w3 (Ext.refl _) (by kernel_rfl) (by kernel_rfl) ?_; (repeat (go_big_quiet_step ((first | (go_at_call 22; exact aft_call (implLevel_is lev _ _ _ _ _ _ _ ps xs _ HT.out HTL.out HP.out HPL.out (HFT.out.ext (HE0.out.trans (HX.out.trans (Subtype.property _)))) (HFP.out.ext (HE0.out.trans (HX.out.trans (Subtype.property _)))) hvol HLV.out)) | (go_at_call 86; exact aft_call (sillOf_any _ _ _ _ _ _ _ _ _ 2 x3 _ _ _ _ rfl)) | (go_at_call 28; exact aft_call (implDraught_is dra _ _ _ _ rows _ HRN.out HRS.out HRT.out (HFR.out.ext (HE0.out.trans (HX.out.trans (Subtype.property _)))) HDR.out)))))); refine wpQuiet_nil ?_; intro w2 hx2)
      go_wp2
      go_ret
      exact ⟨ret_bool HRR.out, HE0.out.trans (HX.out.trans hx2)⟩
    · rw [if_neg hg] at hR
      have hg1 : (x8 == 2) = false := by simpa using hg
      have HRR := Lib.hid hR; clear hR
      go_enter Try.func29, Try.ntmps29
      go_wp2_with fail
      with_reducible refine (implLockOk_any true _ _ _ _ _ _ _ _ _ _ _ _ ts _ HN.out HS.out HTS.out (HF.out.ext HE0.out) HK1.out).mono ?_
      rintro e w1 ⟨rfl, hx1⟩
      have r0 : w1.cell? ⟨w.heap.size + 1, 0, none⟩ = some (.slice ta tn tc) := (HBR.out.ext hx1).cell rfl
      have r1 : w1.cell? ⟨w.heap.size + 1, 1, none⟩ = some (.int .i64 vol) := (HBR.out.ext hx1).cell rfl
      have r2 : w1.cell? ⟨w.heap.size + 1, 2, none⟩ = some (.slice pa pn pc) := (HBR.out.ext hx1).cell rfl
      go_wp2_with fail
      with_reducible refine (implReachOk_is _ _ _ _ _ _ _ _ ps xs _ HT.out HTL.out HP.out HPL.out (HFT.out.ext (HE0.out.trans hx1)) (HFP.out.ext (HE0.out.trans hx1)) hvol HK2.out).mono ?_
      rintro e w2 ⟨rfl, hx2⟩
      have hx12 := hx1.trans hx2
      have t0 : w2.cell? ⟨w.heap.size + 1 + 1, 0, none⟩ = some (.bool true) := (HBT.out.ext hx12).cell rfl
      have t1 : w2.cell? ⟨w.heap.size + 1 + 1, 1, none⟩ = some (.slice ra rn rc) := (HBT.out.ext hx12).cell rfl
      go_wp2_with fail
      with_reducible refine (implTrainOk_is _ _ _ _ _ rows _ HRN.out HRS.out HRT.out (HFR.out.ext (HE0.out.trans hx12)) HK3.out).mono ?_
      rintro e w3 ⟨rfl, hx3⟩
      have HX := Lib.hid (hx12.trans hx3)
      have l0 : ∀ y : Aft w3, y.1.cell? ⟨w.heap.size, 0, none⟩ = some (.int .i64 x0) := fun y => (HBL.out.ext (HX.out.trans y.2)).cell rfl
      have l1 : ∀ y : Aft w3, y.1.cell? ⟨w.heap.size, 1, none⟩ = some (.int .i64 x1) := fun y => (HBL.out.ext (HX.out.trans y.2)).cell rfl
      have l2 : ∀ y : Aft w3, y.1.cell? ⟨w.heap.size, 2, none⟩ = some (.int .i64 x2) := fun y => (HBL.out.ext (HX.out.trans y.2)).cell rfl
      have l3 : ∀ y : Aft w3, y.1.cell? ⟨w.heap.size, 3, none⟩ = some (.int .i64 x3) := fun y => (HBL.out.ext (HX.out.trans y.2)).cell rfl
      have l4 : ∀ y : Aft w3, y.1.cell? ⟨w.heap.size, 4, none⟩ = some (.int .i64 x4) := fun y => (HBL.out.ext (HX.out.trans y.2)).cell rfl
      have l5 : ∀ y : Aft w3, y.1.cell? ⟨w.heap.size, 5, none⟩ = some (.int .i64 x5) := fun y => (HBL.out.ext (HX.out.trans y.2)).cell rfl
      have l6 : ∀ y : Aft w3, y.1.cell? ⟨w.heap.size, 6, none⟩ = some (.int .i64 x6) := fun y => (HBL.out.ext (HX.out.trans y.2)).cell rfl
      have l7 : ∀ y : Aft w3, y.1.cell? ⟨w.heap.size, 7, none⟩ = some (.int .i64 x7) := fun y => (HBL.out.ext (HX.out.trans y.2)).cell rfl
      have l8 : ∀ y : Aft w3, y.1.cell? ⟨w.heap.size, 8, none⟩ = some (.int .i64 x8) := fun y => (HBL.out.ext (HX.out.trans y.2)).cell rfl
      have l9 : ∀ y : Aft w3, y.1.cell? ⟨w.heap.size, 9, none⟩ = some (.slice a n c) := fun y => (HBL.out.ext (HX.out.trans y.2)).cell rfl
      have r0 : ∀ y : Aft w3, y.1.cell? ⟨w.heap.size + 1, 0, none⟩ = some (.slice ta tn tc) := fun y => (HBR.out.ext (HX.out.trans y.2)).cell rfl
      have r1 : ∀ y : Aft w3, y.1.cell? ⟨w.heap.size + 1, 1, none⟩ = some (.int .i64 vol) := fun y => (HBR.out.ext (HX.out.trans y.2)).cell rfl
      have r2 : ∀ y : Aft w3, y.1.cell? ⟨w.heap.size + 1, 2, none⟩ = some (.slice pa pn pc) := fun y => (HBR.out.ext (HX.out.trans y.2)).cell rfl
      have t0 : ∀ y : Aft w3, y.1.cell? ⟨w.heap.size + 1 + 1, 0, none⟩ = some (.bool true) := fun y => (HBT.out.ext (HX.out.trans y.2)).cell rfl
      have t1 : ∀ y : Aft w3, y.1.cell? ⟨w.heap.size + 1 + 1, 1, none⟩ = some (.slice ra rn rc) := fun y => (HBT.out.ext (HX.out.trans y.2)).cell rfl
      have tt0 : w3.cell? ⟨w.heap.size + 1 + 1, 0, none⟩ = some (.bool true) := (HBT.out.ext HX.out).cell rfl
      clear hx1 hx2 hx12 hx3
      go_wp2_with fail
      clear tt0
      (refine wp_region_aft w3 (Ext.refl _) (by kernel_rfl) (by kernel_rfl) ?_; (repeat (go_big_quiet_step ((first | (go_at_call 22; exact aft_call (implLevel_is lev _ _ _ _ _ _ _ ps xs _ HT.out HTL.out HP.out HPL.out (HFT.out.ext (HE0.out.trans (HX.out.trans (Subtype.property _)))) (HFP.out.ext (HE0.out.trans (HX.out.trans (Subtype.property _)))) hvol HLV.out)) | (go_at_call 86; exact aft_call (sillOf_any _ _ _ _ _ _ _ _ _ 2 x3 _ _ _ _ rfl)) | (go_at_call 28; exact aft_call (implDraught_is dra _ _ _ _ rows _ HRN.out HRS.out HRT.out (HFR.out.ext (HE0.out.trans (HX.out.trans (Subtype.property _)))) HDR.out)))))); refine wpQuiet_nil ?_; intro w2 hx2)
      go_wp2
      go_ret
      exact ⟨ret_bool HRR.out, HE0.out.trans (HX.out.trans hx2)⟩


end Go.Proofs.Ytknpdhafafomaaa
