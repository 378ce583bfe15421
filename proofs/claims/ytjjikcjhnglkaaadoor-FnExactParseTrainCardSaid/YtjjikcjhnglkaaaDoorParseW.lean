/- FnExactParseTrain: the walk of the law. -/
import Derived.Test.YtjjikcjhnglkaaaDoorProg
import Derived.Test.YtjjikcjhnglkaaaDoorParseTS
import Derived.Test.YtjjikcjhnglkaaaDoorTrainTo
import Derived.Test.YtjjikcjhnglkaaaDoorMark
namespace Go.Proofs.YtjjikcjhnglkaaaDoor
open Go.RowKit
set_option linter.unusedSimpArgs false
set_option linter.unusedVariables false

theorem trainRes_small {s : List UInt8} {u R : Bool} {r : List (List Bt)} (h : trainRes s = (u, r, R)) : r.length ≤ 1048576 ∧ (∀ x ∈ r, x.length ≤ 1048576) ∧ total r ≤ 1048576 := by
  unfold trainRes at h
  cases h1 : readTrain s with
  | none =>
    rw [h1] at h
    cases h
    exact ⟨Nat.zero_le _, (fun r h => by cases h), Nat.zero_le _⟩
  | some p =>
    obtain ⟨u2, rows⟩ := p
    rw [h1] at h
    cases h
    have h6 := trainOk_true (readTrain_back h1).2
    have ht : total r ≤ 6 := by rw [total_flatten]; exact h6.2.2.2.1
    exact ⟨by have := h6.2.2.2.2.1; omega, fun x hx => by have := total_le hx; omega, by omega⟩

set_option maxRecDepth 100000 in
set_option maxHeartbeats 8000000 in
theorem parselaw_any (s : List UInt8) (w : World) (hmax : MaxW w) :
    Calls Tryd.prog 4 #[.string (S s)] w fun e w' => e = .returned (.bool true) ∧ Ext w w' := by
  have MW := Lib.hid hmax; clear hmax
  obtain ⟨t, ht⟩ : ∃ t, S s = t := ⟨_, rfl⟩
  obtain ⟨m, hm⟩ : ∃ m, s.length = m := ⟨_, rfl⟩
  have hsz : t.size = m := by rw [← ht, S_size, hm]
  have HST := Lib.hid ht
  rw [ht]
  clear ht
  by_cases hbig : 1048576 < m
  · have hd : decide ((1048576 : Int) < m) = true := by simp; omega
    clear hm
    go_enter Tryd.func4, Tryd.ntmps4
    go_wp2
    go_ret
    exact ⟨rfl, by (repeat' (first | (with_reducible exact Ext.refl _) | (with_reducible assumption) | (with_reducible refine Ext.alloc ?_ _) | (with_reducible refine Ext.drewN ?_ _) | (with_reducible refine Ext.drew ?_) | (with_reducible refine Ext.setCell ?_ ?_ _) | (with_reducible exact Nat.le_refl _) | (with_reducible exact Nat.le_succ _) | (with_reducible refine Ext.trans ?_ (by assumption)) | (simp; done) | (simp; omega)))⟩
  have hd : decide ((1048576 : Int) < m) = false := by simp; omega
  have hs : s.length ≤ 1048576 := by omega
  obtain ⟨u1, r1, R, hRR⟩ : ∃ u1 r1 R, trainRes s = (u1, r1, R) := ⟨_, _, _, rfl⟩
  obtain ⟨l1, q1, t1⟩ := trainRes_small hRR
  obtain ⟨n1, hn1⟩ : ∃ m, m = r1.length := ⟨_, rfl⟩
  obtain ⟨T1, hT1⟩ : ∃ T, total r1 = T := ⟨_, rfl⟩
  rw [hT1] at t1
  rw [← hn1] at l1
  have HN1 := Lib.hid hn1; have HT1 := Lib.hid hT1; have HQ1 := Lib.hid q1; have HRR := Lib.hid hRR
  have HM1 := Lib.hid (show n1 ≤ maxLen by unfold maxLen; omega)
  clear hn1 hT1 q1 hRR hm
  have d2 : decide (1 + 6 * (T1 : Int) < 0) = false := by simp; omega
  have HX := Lib.hid (Ext.refl w)
  go_enter Tryd.func4, Tryd.ntmps4
  go_wp2_with fail
  rw [← HST.out]
  with_reducible refine (specParseTrain_any u1 R r1 n1 s _ hs HRR.out HN1.out).mono ?_
  rintro e w1 ⟨p1, c1, rfl, hi1, hb⟩
  rw [HST.out]
  have PA := Lib.hid hi1; clear hi1
  replace HX := Lib.hid (HX.out.trans hb)
  have zz1 := hb.size
  clear hb
  go_wp2_with fail
  have QP := Lib.hid ((RowAt.new w1 29 #[.bool u1, .slice p1 n1 c1]).ext (Ext.refl _))
  have hal := ((Ext.refl w1).alloc (.cells #[.bool u1, .slice p1 n1 c1] 29))
  obtain ⟨bP, hbP⟩ : ∃ x, x = w1.heap.size := ⟨_, rfl⟩
  obtain ⟨w2, hw2⟩ : ∃ x, x = (w1.alloc (.cells #[.bool u1, .slice p1 n1 c1] 29)) := ⟨_, rfl⟩
  have sP : w2.heap.size = bP + 1 := by rw [hw2, hbP]; simp
  have mP : w1.heap.size ≤ bP := Nat.le_of_eq hbP.symm; have nP : bP ≤ w1.heap.size := Nat.le_of_eq hbP
  rw [← hbP] at QP
  rw [← hw2] at QP hal
  (try simp only [World.size_alloc])
  (try rw [← hw2])
  (try rw [← hbP])
  clear hw2 hbP
  replace HX := Lib.hid (HX.out.trans hal)
  replace PA := Lib.hid (PA.out.ext hal)
  have zz2 := hal.size
  clear hal
  have KP := QP; clear QP
  rw [← HST.out]
  with_reducible refine (implParseTrain_any u1 R r1 n1 s _ hs (MW.out.ext HX.out) HRR.out HN1.out).mono ?_
  rintro e w3 ⟨p2, c2, rfl, hi2, hb⟩
  rw [HST.out]
  have GA := Lib.hid hi2; clear hi2
  replace HX := Lib.hid (HX.out.trans hb)
  replace KP := Lib.hid (KP.out.ext hb)
  replace PA := Lib.hid (PA.out.ext hb)
  have zz3 := hb.size
  clear hb
  have e0_ : (w3.alloc (.cells #[.bool u1, .slice p2 n1 c2] 29)).cell? ⟨bP, 0, none⟩ = some (.bool u1) := (KP.out.ext ((Ext.refl w3).alloc _)).cell rfl
  have e1_ : (w3.alloc (.cells #[.bool u1, .slice p2 n1 c2] 29)).cell? ⟨bP, 1, none⟩ = some (.slice p1 n1 c1) := (KP.out.ext ((Ext.refl w3).alloc _)).cell rfl
  go_wp2_with fail
  clear e0_ e1_
  have QG := Lib.hid ((RowAt.new w3 29 #[.bool u1, .slice p2 n1 c2]).ext (Ext.refl _))
  have hal := ((Ext.refl w3).alloc (.cells #[.bool u1, .slice p2 n1 c2] 29))
  obtain ⟨bG, hbG⟩ : ∃ x, x = w3.heap.size := ⟨_, rfl⟩
  obtain ⟨w4, hw4⟩ : ∃ x, x = (w3.alloc (.cells #[.bool u1, .slice p2 n1 c2] 29)) := ⟨_, rfl⟩
  have sG : w4.heap.size = bG + 1 := by rw [hw4, hbG]; simp
  have mG : w3.heap.size ≤ bG := Nat.le_of_eq hbG.symm; have nG : bG ≤ w3.heap.size := Nat.le_of_eq hbG
  rw [← hbG] at QG
  rw [← hw4] at QG hal
  (try simp only [World.size_alloc])
  (try rw [← hw4])
  (try rw [← hbG])
  clear hw4 hbG
  replace HX := Lib.hid (HX.out.trans hal)
  replace KP := Lib.hid (KP.out.ext hal)
  replace PA := Lib.hid (PA.out.ext hal)
  replace GA := Lib.hid (GA.out.ext hal)
  have zz4 := hal.size
  clear hal
  have KG := QG; clear QG
  with_reducible refine (eqTrain_same _ _ _ _ _ _ r1 _ HN1.out HM1.out GA.out.rows PA.out.rows).mono ?_
  rintro e w5 ⟨rfl, hb⟩
  replace HX := Lib.hid (HX.out.trans hb)
  replace KP := Lib.hid (KP.out.ext hb)
  replace KG := Lib.hid (KG.out.ext hb)
  replace PA := Lib.hid (PA.out.ext hb)
  replace GA := Lib.hid (GA.out.ext hb)
  have zz5 := hb.size
  clear hb
  have cG0 : w5.cell? ⟨bG, 0, none⟩ = some (.bool u1) := KG.out.cell rfl
  have cG1 : w5.cell? ⟨bG, 1, none⟩ = some (.slice p2 n1 c2) := KG.out.cell rfl
  go_wp2_with fail
  with_reducible refine (markTrain_is T1 _ _ _ _ w2.heap.size w3.heap.size r1 1 _ HN1.out l1 HQ1.out t1 (by decide) (by decide) (by omega) GA.out HT1.out).mono ?_
  rintro e w6 ⟨rfl, ho, hc⟩
  clear cG0 cG1
  replace HX := Lib.hid (hc.ext HX.out (by omega))
  replace KP := Lib.hid (KP.out.chg hc (by omega))
  replace KG := Lib.hid (KG.out.chg hc (by omega))
  replace PA := Lib.hid (PA.out.chg hc (by omega))
  replace GA := Lib.hid ho
  have zc := hc.size; clear hc ho
  have cG0 : w6.cell? ⟨bG, 0, none⟩ = some (.bool u1) := KG.out.cell rfl
  have cG1 : w6.cell? ⟨bG, 1, none⟩ = some (.slice p2 n1 c2) := KG.out.cell rfl
  go_wp2_with fail
  with_reducible refine (heldTrain_is T1 _ _ _ _ r1 1 _ HN1.out l1 HQ1.out t1 (by decide) (by decide) GA.out.rows HT1.out).mono ?_
  rintro e w7 ⟨rfl, hb⟩
  clear cG0 cG1
  replace HX := Lib.hid (HX.out.trans hb)
  replace KP := Lib.hid (KP.out.ext hb)
  replace KG := Lib.hid (KG.out.ext hb)
  replace PA := Lib.hid (PA.out.ext hb)
  replace GA := Lib.hid (GA.out.ext hb)
  have zz7 := hb.size
  clear hb
  go_wp2_with fail
  rw [← HST.out]
  with_reducible refine (implParseTrain_any u1 R r1 n1 s _ hs (MW.out.ext HX.out) HRR.out HN1.out).mono ?_
  rintro e w8 ⟨p3, c3, rfl, hi3, hb⟩
  rw [HST.out]
  have HA := Lib.hid hi3; clear hi3
  replace HX := Lib.hid (HX.out.trans hb)
  replace KP := Lib.hid (KP.out.ext hb)
  replace KG := Lib.hid (KG.out.ext hb)
  replace PA := Lib.hid (PA.out.ext hb)
  replace GA := Lib.hid (GA.out.ext hb)
  have zz8 := hb.size
  clear hb
  have e0_ : (w8.alloc (.cells #[.bool u1, .slice p3 n1 c3] 29)).cell? ⟨bP, 0, none⟩ = some (.bool u1) := (KP.out.ext ((Ext.refl w8).alloc _)).cell rfl
  have e1_ : (w8.alloc (.cells #[.bool u1, .slice p3 n1 c3] 29)).cell? ⟨bP, 1, none⟩ = some (.slice p1 n1 c1) := (KP.out.ext ((Ext.refl w8).alloc _)).cell rfl
  go_wp2_with fail
  clear e0_ e1_
  have QH := Lib.hid ((RowAt.new w8 29 #[.bool u1, .slice p3 n1 c3]).ext (Ext.refl _))
  have hal := ((Ext.refl w8).alloc (.cells #[.bool u1, .slice p3 n1 c3] 29))
  obtain ⟨bH, hbH⟩ : ∃ x, x = w8.heap.size := ⟨_, rfl⟩
  obtain ⟨w9, hw9⟩ : ∃ x, x = (w8.alloc (.cells #[.bool u1, .slice p3 n1 c3] 29)) := ⟨_, rfl⟩
  have sH : w9.heap.size = bH + 1 := by rw [hw9, hbH]; simp
  have mH : w8.heap.size ≤ bH := Nat.le_of_eq hbH.symm; have nH : bH ≤ w8.heap.size := Nat.le_of_eq hbH
  rw [← hbH] at QH
  rw [← hw9] at QH hal
  (try simp only [World.size_alloc])
  (try rw [← hw9])
  (try rw [← hbH])
  clear hw9 hbH
  replace HX := Lib.hid (HX.out.trans hal)
  replace KP := Lib.hid (KP.out.ext hal)
  replace KG := Lib.hid (KG.out.ext hal)
  replace PA := Lib.hid (PA.out.ext hal)
  replace GA := Lib.hid (GA.out.ext hal)
  replace HA := Lib.hid (HA.out.ext hal)
  have zz9 := hal.size
  clear hal
  have KH := QH; clear QH
  with_reducible refine (eqTrain_same _ _ _ _ _ _ r1 _ HN1.out HM1.out HA.out.rows PA.out.rows).mono ?_
  rintro e w10 ⟨rfl, hb⟩
  replace HX := Lib.hid (HX.out.trans hb)
  replace KP := Lib.hid (KP.out.ext hb)
  replace KG := Lib.hid (KG.out.ext hb)
  replace KH := Lib.hid (KH.out.ext hb)
  replace PA := Lib.hid (PA.out.ext hb)
  replace GA := Lib.hid (GA.out.ext hb)
  replace HA := Lib.hid (HA.out.ext hb)
  have zz10 := hb.size
  clear hb
  have cG0 : w10.cell? ⟨bG, 0, none⟩ = some (.bool u1) := KG.out.cell rfl
  have cG1 : w10.cell? ⟨bG, 1, none⟩ = some (.slice p2 n1 c2) := KG.out.cell rfl
  go_wp2_with fail
  with_reducible refine (heldTrain_is T1 _ _ _ _ r1 1 _ HN1.out l1 HQ1.out t1 (by decide) (by decide) GA.out.rows HT1.out).mono ?_
  rintro e w11 ⟨rfl, hb⟩
  clear cG0 cG1
  replace HX := Lib.hid (HX.out.trans hb)
  replace KP := Lib.hid (KP.out.ext hb)
  replace KG := Lib.hid (KG.out.ext hb)
  replace KH := Lib.hid (KH.out.ext hb)
  replace PA := Lib.hid (PA.out.ext hb)
  replace GA := Lib.hid (GA.out.ext hb)
  replace HA := Lib.hid (HA.out.ext hb)
  have zz11 := hb.size
  clear hb
  go_wp2
  go_ret
  exact ⟨rfl, HX.out⟩
theorem parselaw_line (line : ByteArray) (w : World) (hmax : MaxW w) :
    Calls Tryd.prog 4 #[.string line] w fun e w' => e = .returned (.bool true) ∧ Ext w w' := by
  have h := parselaw_any line.data.toList w hmax
  rw [S_back] at h
  exact h
end Go.Proofs.YtjjikcjhnglkaaaDoor
