/- For every lock, reach and train, the program and the reference agree on whether the train may enter the lock. -/
import Derived.Test.YtphhjfcmglhlfaaRows
import Derived.Test.YtphhjfcmglhlfaaHead
import Derived.Test.YtphhjfcmglhlfaaEnter
import Derived.Test.YtphhjfcmglhlfaaOwnR
import Derived.Test.YtphhjfcmglhlfaaOpenL
import Derived.Deep.RegionHeld3
namespace Go.Proofs.Ytphhjfcmglhlfaa.lawMayEnter
open Go.ChangeShapes Go.WideShapes Go.ChangeAt Go.RowKit Go.Joins
set_option linter.unusedVariables false
set_option linter.unusedSimpArgs false

set_option maxRecDepth 100000 in
set_option maxHeartbeats 1000000 in
theorem walk (x0 x1 x2 x3 x4 x5 x6 x7 x8 : Int) (a : Option Addr) (n c : Nat) (ts : List Tn) (ta pa : Option Addr) (tn tc pn pc : Nat) (vol : Int) (ps : List Pt) (xs : List Int) (u : Bool) (ra : Option Addr) (rn rc : Nat) (rows : List (List Bt)) (w : World) (hn : n = ts.length) (hs : n ≤ maxLen) (hf : TrainsAt w a ts) (hi0 : I64 x0) (hi1 : I64 x1) (ht : tn = ps.length) (htl : tn ≤ maxLen) (hp : pn = xs.length) (hpl : pn ≤ maxLen) (hft : FlatAt w ptCells 2 ta ps) (hfp : IntsAt w pa xs) (hvol : -9223372036854775808 ≤ vol ∧ vol ≤ 9223372036854775807) (hrn : rn = rows.length) (hrs : rn ≤ maxLen) (hfr : RowsAt w ra rows) :
    Calls Try.prog 11 #[.agg #[.int .i64 x0, .int .i64 x1, .int .i64 x2, .int .i64 x3, .int .i64 x4, .int .i64 x5, .int .i64 x6, .int .i64 x7, .int .i64 x8, .slice a n c], .agg #[.slice ta tn tc, .int .i64 vol, .slice pa pn pc], .agg #[.bool u, .slice ra rn rc]] w fun e w' => e = .returned (.bool true) ∧ Ext w w' := by
  have HF := Lib.hid hf; clear hf
  have HI0 := Lib.hid hi0; clear hi0
  have HI1 := Lib.hid hi1; clear hi1
  have HFT := Lib.hid hft; clear hft
  have HFP := Lib.hid hfp; clear hfp
  have HVOL := Lib.hid hvol; clear hvol
  have HT := Lib.hid ht; clear ht
  have HP := Lib.hid hp; clear hp
  have HTL := Lib.hid htl
  have HPL := Lib.hid hpl
  have HFR := Lib.hid hfr; clear hfr
  have HRL := Lib.hid hrs
  have HN := Lib.hid hn
  have HS := Lib.hid hs
  have HRN := Lib.hid hrn
  obtain ⟨z0, hzz0⟩ : ∃ z, szTrains 1048576 ts = z := ⟨_, rfl⟩
  have HZ0 := Lib.hid hzz0
  have HN0 := HN
  by_cases hneg0 : z0 < 0
  · have d0 : decide (z0 < 0) = true := by simpa using hneg0
    clear hzz0 hn  hrn
    have BA0 := Lib.hid (show RowAt (((w.alloc (.cells #[.int .i64 x0, .int .i64 x1, .int .i64 x2, .int .i64 x3, .int .i64 x4, .int .i64 x5, .int .i64 x6, .int .i64 x7, .int .i64 x8, .slice a n c] 59)).alloc (.cells #[.slice ta tn tc, .int .i64 vol, .slice pa pn pc] 62)).alloc (.cells #[.bool u, .slice ra rn rc] 65)) (w.heap.size) 59 #[.int .i64 x0, .int .i64 x1, .int .i64 x2, .int .i64 x3, .int .i64 x4, .int .i64 x5, .int .i64 x6, .int .i64 x7, .int .i64 x8, .slice a n c] from by
      have h := (RowAt.new w 59 #[.int .i64 x0, .int .i64 x1, .int .i64 x2, .int .i64 x3, .int .i64 x4, .int .i64 x5, .int .i64 x6, .int .i64 x7, .int .i64 x8, .slice a n c]).ext (((Ext.refl _).alloc (.cells #[.slice ta tn tc, .int .i64 vol, .slice pa pn pc] 62)).alloc (.cells #[.bool u, .slice ra rn rc] 65))
      exact h)
    have BA1 := Lib.hid (show RowAt (((w.alloc (.cells #[.int .i64 x0, .int .i64 x1, .int .i64 x2, .int .i64 x3, .int .i64 x4, .int .i64 x5, .int .i64 x6, .int .i64 x7, .int .i64 x8, .slice a n c] 59)).alloc (.cells #[.slice ta tn tc, .int .i64 vol, .slice pa pn pc] 62)).alloc (.cells #[.bool u, .slice ra rn rc] 65)) (w.heap.size + 1) 62 #[.slice ta tn tc, .int .i64 vol, .slice pa pn pc] from by
      have h := (RowAt.new (w.alloc (.cells #[.int .i64 x0, .int .i64 x1, .int .i64 x2, .int .i64 x3, .int .i64 x4, .int .i64 x5, .int .i64 x6, .int .i64 x7, .int .i64 x8, .slice a n c] 59)) 62 #[.slice ta tn tc, .int .i64 vol, .slice pa pn pc]).ext ((Ext.refl _).alloc (.cells #[.bool u, .slice ra rn rc] 65))
      simp only [World.size_alloc] at h
      exact h)
    have BA2 := Lib.hid (show RowAt (((w.alloc (.cells #[.int .i64 x0, .int .i64 x1, .int .i64 x2, .int .i64 x3, .int .i64 x4, .int .i64 x5, .int .i64 x6, .int .i64 x7, .int .i64 x8, .slice a n c] 59)).alloc (.cells #[.slice ta tn tc, .int .i64 vol, .slice pa pn pc] 62)).alloc (.cells #[.bool u, .slice ra rn rc] 65)) (w.heap.size + 1 + 1) 65 #[.bool u, .slice ra rn rc] from by
      have h := (RowAt.new ((w.alloc (.cells #[.int .i64 x0, .int .i64 x1, .int .i64 x2, .int .i64 x3, .int .i64 x4, .int .i64 x5, .int .i64 x6, .int .i64 x7, .int .i64 x8, .slice a n c] 59)).alloc (.cells #[.slice ta tn tc, .int .i64 vol, .slice pa pn pc] 62)) 65 #[.bool u, .slice ra rn rc]).ext (Ext.refl _)
      simp only [World.size_alloc] at h
      exact h)
    have HE0 := Lib.hid (show Ext w (((w.alloc (.cells #[.int .i64 x0, .int .i64 x1, .int .i64 x2, .int .i64 x3, .int .i64 x4, .int .i64 x5, .int .i64 x6, .int .i64 x7, .int .i64 x8, .slice a n c] 59)).alloc (.cells #[.slice ta tn tc, .int .i64 vol, .slice pa pn pc] 62)).alloc (.cells #[.bool u, .slice ra rn rc] 65)) from ((((Ext.refl w).alloc _).alloc _).alloc _))
    go_enter Try.func11, Try.ntmps11
    go_wp2_with fail
    with_reducible refine (szLock_any z0 _ _ _ _ _ _ _ _ _ _ _ _ ts _ HN.out HS.out (by decide) (by decide) _ (HF.out.ext (HE0.out)) HZ0.out).mono ?_
    rintro e s0 ⟨rfl, hb⟩
    have XS0 := Lib.hid (show Ext (((w.alloc (.cells #[.int .i64 x0, .int .i64 x1, .int .i64 x2, .int .i64 x3, .int .i64 x4, .int .i64 x5, .int .i64 x6, .int .i64 x7, .int .i64 x8, .slice a n c] 59)).alloc (.cells #[.slice ta tn tc, .int .i64 vol, .slice pa pn pc] 62)).alloc (.cells #[.bool u, .slice ra rn rc] 65)) s0 from hb)
    clear hb
    go_wp2
    go_ret
    exact ⟨rfl, HE0.out.trans XS0.out⟩
  obtain ⟨hs2, hts, hy0'⟩ := szTrains_bounds (l := 1048576) (by decide) (by decide) (by rw [hzz0]; exact hneg0)
  rw [← hn] at hs2
  rw [hzz0] at hy0'
  have HTS := Lib.hid hts
  have hz0 : 0 ≤ z0 := by omega
  have hy0 : z0 ≤ 1048576 := by omega
  have d0 : decide (z0 < 0) = false := by simpa using hneg0
  obtain ⟨z1, hzz1⟩ : ∃ z, (if szRow z0 tn < 0 then -1 else szRow (szRow z0 tn) pn) = z := ⟨_, rfl⟩
  have HZ1 := Lib.hid hzz1
  by_cases hneg1 : z1 < 0
  · have d1 : decide (z1 < 0) = true := by simpa using hneg1
    clear hzz0 hzz1 hn  hrn
    have BA0 := Lib.hid (show RowAt (((w.alloc (.cells #[.int .i64 x0, .int .i64 x1, .int .i64 x2, .int .i64 x3, .int .i64 x4, .int .i64 x5, .int .i64 x6, .int .i64 x7, .int .i64 x8, .slice a n c] 59)).alloc (.cells #[.slice ta tn tc, .int .i64 vol, .slice pa pn pc] 62)).alloc (.cells #[.bool u, .slice ra rn rc] 65)) (w.heap.size) 59 #[.int .i64 x0, .int .i64 x1, .int .i64 x2, .int .i64 x3, .int .i64 x4, .int .i64 x5, .int .i64 x6, .int .i64 x7, .int .i64 x8, .slice a n c] from by
      have h := (RowAt.new w 59 #[.int .i64 x0, .int .i64 x1, .int .i64 x2, .int .i64 x3, .int .i64 x4, .int .i64 x5, .int .i64 x6, .int .i64 x7, .int .i64 x8, .slice a n c]).ext (((Ext.refl _).alloc (.cells #[.slice ta tn tc, .int .i64 vol, .slice pa pn pc] 62)).alloc (.cells #[.bool u, .slice ra rn rc] 65))
      exact h)
    have BA1 := Lib.hid (show RowAt (((w.alloc (.cells #[.int .i64 x0, .int .i64 x1, .int .i64 x2, .int .i64 x3, .int .i64 x4, .int .i64 x5, .int .i64 x6, .int .i64 x7, .int .i64 x8, .slice a n c] 59)).alloc (.cells #[.slice ta tn tc, .int .i64 vol, .slice pa pn pc] 62)).alloc (.cells #[.bool u, .slice ra rn rc] 65)) (w.heap.size + 1) 62 #[.slice ta tn tc, .int .i64 vol, .slice pa pn pc] from by
      have h := (RowAt.new (w.alloc (.cells #[.int .i64 x0, .int .i64 x1, .int .i64 x2, .int .i64 x3, .int .i64 x4, .int .i64 x5, .int .i64 x6, .int .i64 x7, .int .i64 x8, .slice a n c] 59)) 62 #[.slice ta tn tc, .int .i64 vol, .slice pa pn pc]).ext ((Ext.refl _).alloc (.cells #[.bool u, .slice ra rn rc] 65))
      simp only [World.size_alloc] at h
      exact h)
    have BA2 := Lib.hid (show RowAt (((w.alloc (.cells #[.int .i64 x0, .int .i64 x1, .int .i64 x2, .int .i64 x3, .int .i64 x4, .int .i64 x5, .int .i64 x6, .int .i64 x7, .int .i64 x8, .slice a n c] 59)).alloc (.cells #[.slice ta tn tc, .int .i64 vol, .slice pa pn pc] 62)).alloc (.cells #[.bool u, .slice ra rn rc] 65)) (w.heap.size + 1 + 1) 65 #[.bool u, .slice ra rn rc] from by
      have h := (RowAt.new ((w.alloc (.cells #[.int .i64 x0, .int .i64 x1, .int .i64 x2, .int .i64 x3, .int .i64 x4, .int .i64 x5, .int .i64 x6, .int .i64 x7, .int .i64 x8, .slice a n c] 59)).alloc (.cells #[.slice ta tn tc, .int .i64 vol, .slice pa pn pc] 62)) 65 #[.bool u, .slice ra rn rc]).ext (Ext.refl _)
      simp only [World.size_alloc] at h
      exact h)
    have HE0 := Lib.hid (show Ext w (((w.alloc (.cells #[.int .i64 x0, .int .i64 x1, .int .i64 x2, .int .i64 x3, .int .i64 x4, .int .i64 x5, .int .i64 x6, .int .i64 x7, .int .i64 x8, .slice a n c] 59)).alloc (.cells #[.slice ta tn tc, .int .i64 vol, .slice pa pn pc] 62)).alloc (.cells #[.bool u, .slice ra rn rc] 65)) from ((((Ext.refl w).alloc _).alloc _).alloc _))
    go_enter Try.func11, Try.ntmps11
    go_wp2_with fail
    with_reducible refine (szLock_any z0 _ _ _ _ _ _ _ _ _ _ _ _ ts _ HN.out HS.out (by decide) (by decide) _ (HF.out.ext (HE0.out)) HZ0.out).mono ?_
    rintro e s0 ⟨rfl, hb⟩
    have XS0 := Lib.hid (show Ext (((w.alloc (.cells #[.int .i64 x0, .int .i64 x1, .int .i64 x2, .int .i64 x3, .int .i64 x4, .int .i64 x5, .int .i64 x6, .int .i64 x7, .int .i64 x8, .slice a n c] 59)).alloc (.cells #[.slice ta tn tc, .int .i64 vol, .slice pa pn pc] 62)).alloc (.cells #[.bool u, .slice ra rn rc] 65)) s0 from hb)
    clear hb
    have s1_0 : s0.cell? ⟨w.heap.size + 1, 0, none⟩ = some (.slice ta tn tc) := (BA1.out.ext XS0.out).cell rfl
    have s1_1 : s0.cell? ⟨w.heap.size + 1, 1, none⟩ = some (.int .i64 vol) := (BA1.out.ext XS0.out).cell rfl
    have s1_2 : s0.cell? ⟨w.heap.size + 1, 2, none⟩ = some (.slice pa pn pc) := (BA1.out.ext XS0.out).cell rfl
    go_wp2_with fail
    with_reducible refine (szReach_any z1 _ _ _ _ _ _ _ _ HTL.out HPL.out hz0 hy0 _ HZ1.out).mono ?_
    rintro e s1 ⟨rfl, hb⟩
    have XS1 := Lib.hid (show Ext (((w.alloc (.cells #[.int .i64 x0, .int .i64 x1, .int .i64 x2, .int .i64 x3, .int .i64 x4, .int .i64 x5, .int .i64 x6, .int .i64 x7, .int .i64 x8, .slice a n c] 59)).alloc (.cells #[.slice ta tn tc, .int .i64 vol, .slice pa pn pc] 62)).alloc (.cells #[.bool u, .slice ra rn rc] 65)) s1 from XS0.out.trans hb)
    clear hb s1_0 s1_1 s1_2
    go_wp2
    go_ret
    exact ⟨rfl, HE0.out.trans XS1.out⟩
  obtain ⟨htl2, hpl2, hy1'⟩ := szReach_bounds hz0 hy0 (by rw [hzz1]; exact hneg1)
  rw [hzz1] at hy1'
  have hz1 : 0 ≤ z1 := by omega
  have hy1 : z1 ≤ 1048576 := by omega
  have d1 : decide (z1 < 0) = false := by simpa using hneg1
  obtain ⟨z2, hzz2⟩ : ∃ z, szRows z1 rows = z := ⟨_, rfl⟩
  have HZ2 := Lib.hid hzz2
  by_cases hneg2 : z2 < 0
  · have d2 : decide (z2 < 0) = true := by simpa using hneg2
    clear hzz0 hzz1 hzz2 hn  hrn
    have BA0 := Lib.hid (show RowAt (((w.alloc (.cells #[.int .i64 x0, .int .i64 x1, .int .i64 x2, .int .i64 x3, .int .i64 x4, .int .i64 x5, .int .i64 x6, .int .i64 x7, .int .i64 x8, .slice a n c] 59)).alloc (.cells #[.slice ta tn tc, .int .i64 vol, .slice pa pn pc] 62)).alloc (.cells #[.bool u, .slice ra rn rc] 65)) (w.heap.size) 59 #[.int .i64 x0, .int .i64 x1, .int .i64 x2, .int .i64 x3, .int .i64 x4, .int .i64 x5, .int .i64 x6, .int .i64 x7, .int .i64 x8, .slice a n c] from by
      have h := (RowAt.new w 59 #[.int .i64 x0, .int .i64 x1, .int .i64 x2, .int .i64 x3, .int .i64 x4, .int .i64 x5, .int .i64 x6, .int .i64 x7, .int .i64 x8, .slice a n c]).ext (((Ext.refl _).alloc (.cells #[.slice ta tn tc, .int .i64 vol, .slice pa pn pc] 62)).alloc (.cells #[.bool u, .slice ra rn rc] 65))
      exact h)
    have BA1 := Lib.hid (show RowAt (((w.alloc (.cells #[.int .i64 x0, .int .i64 x1, .int .i64 x2, .int .i64 x3, .int .i64 x4, .int .i64 x5, .int .i64 x6, .int .i64 x7, .int .i64 x8, .slice a n c] 59)).alloc (.cells #[.slice ta tn tc, .int .i64 vol, .slice pa pn pc] 62)).alloc (.cells #[.bool u, .slice ra rn rc] 65)) (w.heap.size + 1) 62 #[.slice ta tn tc, .int .i64 vol, .slice pa pn pc] from by
      have h := (RowAt.new (w.alloc (.cells #[.int .i64 x0, .int .i64 x1, .int .i64 x2, .int .i64 x3, .int .i64 x4, .int .i64 x5, .int .i64 x6, .int .i64 x7, .int .i64 x8, .slice a n c] 59)) 62 #[.slice ta tn tc, .int .i64 vol, .slice pa pn pc]).ext ((Ext.refl _).alloc (.cells #[.bool u, .slice ra rn rc] 65))
      simp only [World.size_alloc] at h
      exact h)
    have BA2 := Lib.hid (show RowAt (((w.alloc (.cells #[.int .i64 x0, .int .i64 x1, .int .i64 x2, .int .i64 x3, .int .i64 x4, .int .i64 x5, .int .i64 x6, .int .i64 x7, .int .i64 x8, .slice a n c] 59)).alloc (.cells #[.slice ta tn tc, .int .i64 vol, .slice pa pn pc] 62)).alloc (.cells #[.bool u, .slice ra rn rc] 65)) (w.heap.size + 1 + 1) 65 #[.bool u, .slice ra rn rc] from by
      have h := (RowAt.new ((w.alloc (.cells #[.int .i64 x0, .int .i64 x1, .int .i64 x2, .int .i64 x3, .int .i64 x4, .int .i64 x5, .int .i64 x6, .int .i64 x7, .int .i64 x8, .slice a n c] 59)).alloc (.cells #[.slice ta tn tc, .int .i64 vol, .slice pa pn pc] 62)) 65 #[.bool u, .slice ra rn rc]).ext (Ext.refl _)
      simp only [World.size_alloc] at h
      exact h)
    have HE0 := Lib.hid (show Ext w (((w.alloc (.cells #[.int .i64 x0, .int .i64 x1, .int .i64 x2, .int .i64 x3, .int .i64 x4, .int .i64 x5, .int .i64 x6, .int .i64 x7, .int .i64 x8, .slice a n c] 59)).alloc (.cells #[.slice ta tn tc, .int .i64 vol, .slice pa pn pc] 62)).alloc (.cells #[.bool u, .slice ra rn rc] 65)) from ((((Ext.refl w).alloc _).alloc _).alloc _))
    go_enter Try.func11, Try.ntmps11
    go_wp2_with fail
    with_reducible refine (szLock_any z0 _ _ _ _ _ _ _ _ _ _ _ _ ts _ HN.out HS.out (by decide) (by decide) _ (HF.out.ext (HE0.out)) HZ0.out).mono ?_
    rintro e s0 ⟨rfl, hb⟩
    have XS0 := Lib.hid (show Ext (((w.alloc (.cells #[.int .i64 x0, .int .i64 x1, .int .i64 x2, .int .i64 x3, .int .i64 x4, .int .i64 x5, .int .i64 x6, .int .i64 x7, .int .i64 x8, .slice a n c] 59)).alloc (.cells #[.slice ta tn tc, .int .i64 vol, .slice pa pn pc] 62)).alloc (.cells #[.bool u, .slice ra rn rc] 65)) s0 from hb)
    clear hb
    have s1_0 : s0.cell? ⟨w.heap.size + 1, 0, none⟩ = some (.slice ta tn tc) := (BA1.out.ext XS0.out).cell rfl
    have s1_1 : s0.cell? ⟨w.heap.size + 1, 1, none⟩ = some (.int .i64 vol) := (BA1.out.ext XS0.out).cell rfl
    have s1_2 : s0.cell? ⟨w.heap.size + 1, 2, none⟩ = some (.slice pa pn pc) := (BA1.out.ext XS0.out).cell rfl
    go_wp2_with fail
    with_reducible refine (szReach_any z1 _ _ _ _ _ _ _ _ HTL.out HPL.out hz0 hy0 _ HZ1.out).mono ?_
    rintro e s1 ⟨rfl, hb⟩
    have XS1 := Lib.hid (show Ext (((w.alloc (.cells #[.int .i64 x0, .int .i64 x1, .int .i64 x2, .int .i64 x3, .int .i64 x4, .int .i64 x5, .int .i64 x6, .int .i64 x7, .int .i64 x8, .slice a n c] 59)).alloc (.cells #[.slice ta tn tc, .int .i64 vol, .slice pa pn pc] 62)).alloc (.cells #[.bool u, .slice ra rn rc] 65)) s1 from XS0.out.trans hb)
    clear hb s1_0 s1_1 s1_2
    have s2_0 : s1.cell? ⟨w.heap.size + 1 + 1, 0, none⟩ = some (.bool u) := (BA2.out.ext XS1.out).cell rfl
    have s2_1 : s1.cell? ⟨w.heap.size + 1 + 1, 1, none⟩ = some (.slice ra rn rc) := (BA2.out.ext XS1.out).cell rfl
    go_wp2_with fail
    with_reducible refine (szTrain_is z2 _ _ _ _ rows _ HRN.out HRL.out hz1 hy1 _ (HFR.out.ext (HE0.out.trans XS1.out)) HZ2.out).mono ?_
    rintro e s2 ⟨rfl, hb⟩
    have XS2 := Lib.hid (show Ext (((w.alloc (.cells #[.int .i64 x0, .int .i64 x1, .int .i64 x2, .int .i64 x3, .int .i64 x4, .int .i64 x5, .int .i64 x6, .int .i64 x7, .int .i64 x8, .slice a n c] 59)).alloc (.cells #[.slice ta tn tc, .int .i64 vol, .slice pa pn pc] 62)).alloc (.cells #[.bool u, .slice ra rn rc] 65)) s2 from XS1.out.trans hb)
    clear hb s2_0 s2_1
    go_wp2
    go_ret
    exact ⟨rfl, HE0.out.trans XS2.out⟩
  obtain ⟨hrs2, hrr, hrt⟩ := szRows_bounds (L := z1) hz1 hy1 (by rw [hzz2]; exact hneg2)
  rw [← hrn] at hrs2
  have HRR := Lib.hid hrr
  have HRT := Lib.hid hrt
  have d2 : decide (z2 < 0) = false := by simpa using hneg2
  clear hzz0 hzz1 hzz2 hn  hrn
  have BA0 := Lib.hid (show RowAt (((w.alloc (.cells #[.int .i64 x0, .int .i64 x1, .int .i64 x2, .int .i64 x3, .int .i64 x4, .int .i64 x5, .int .i64 x6, .int .i64 x7, .int .i64 x8, .slice a n c] 59)).alloc (.cells #[.slice ta tn tc, .int .i64 vol, .slice pa pn pc] 62)).alloc (.cells #[.bool u, .slice ra rn rc] 65)) (w.heap.size) 59 #[.int .i64 x0, .int .i64 x1, .int .i64 x2, .int .i64 x3, .int .i64 x4, .int .i64 x5, .int .i64 x6, .int .i64 x7, .int .i64 x8, .slice a n c] from by
    have h := (RowAt.new w 59 #[.int .i64 x0, .int .i64 x1, .int .i64 x2, .int .i64 x3, .int .i64 x4, .int .i64 x5, .int .i64 x6, .int .i64 x7, .int .i64 x8, .slice a n c]).ext (((Ext.refl _).alloc (.cells #[.slice ta tn tc, .int .i64 vol, .slice pa pn pc] 62)).alloc (.cells #[.bool u, .slice ra rn rc] 65))
    exact h)
  have BA1 := Lib.hid (show RowAt (((w.alloc (.cells #[.int .i64 x0, .int .i64 x1, .int .i64 x2, .int .i64 x3, .int .i64 x4, .int .i64 x5, .int .i64 x6, .int .i64 x7, .int .i64 x8, .slice a n c] 59)).alloc (.cells #[.slice ta tn tc, .int .i64 vol, .slice pa pn pc] 62)).alloc (.cells #[.bool u, .slice ra rn rc] 65)) (w.heap.size + 1) 62 #[.slice ta tn tc, .int .i64 vol, .slice pa pn pc] from by
    have h := (RowAt.new (w.alloc (.cells #[.int .i64 x0, .int .i64 x1, .int .i64 x2, .int .i64 x3, .int .i64 x4, .int .i64 x5, .int .i64 x6, .int .i64 x7, .int .i64 x8, .slice a n c] 59)) 62 #[.slice ta tn tc, .int .i64 vol, .slice pa pn pc]).ext ((Ext.refl _).alloc (.cells #[.bool u, .slice ra rn rc] 65))
    simp only [World.size_alloc] at h
    exact h)
  have BA2 := Lib.hid (show RowAt (((w.alloc (.cells #[.int .i64 x0, .int .i64 x1, .int .i64 x2, .int .i64 x3, .int .i64 x4, .int .i64 x5, .int .i64 x6, .int .i64 x7, .int .i64 x8, .slice a n c] 59)).alloc (.cells #[.slice ta tn tc, .int .i64 vol, .slice pa pn pc] 62)).alloc (.cells #[.bool u, .slice ra rn rc] 65)) (w.heap.size + 1 + 1) 65 #[.bool u, .slice ra rn rc] from by
    have h := (RowAt.new ((w.alloc (.cells #[.int .i64 x0, .int .i64 x1, .int .i64 x2, .int .i64 x3, .int .i64 x4, .int .i64 x5, .int .i64 x6, .int .i64 x7, .int .i64 x8, .slice a n c] 59)).alloc (.cells #[.slice ta tn tc, .int .i64 vol, .slice pa pn pc] 62)) 65 #[.bool u, .slice ra rn rc]).ext (Ext.refl _)
    simp only [World.size_alloc] at h
    exact h)
  have HE0 := Lib.hid (show Ext w (((w.alloc (.cells #[.int .i64 x0, .int .i64 x1, .int .i64 x2, .int .i64 x3, .int .i64 x4, .int .i64 x5, .int .i64 x6, .int .i64 x7, .int .i64 x8, .slice a n c] 59)).alloc (.cells #[.slice ta tn tc, .int .i64 vol, .slice pa pn pc] 62)).alloc (.cells #[.bool u, .slice ra rn rc] 65)) from ((((Ext.refl w).alloc _).alloc _).alloc _))
  obtain ⟨R, hRes⟩ : ∃ R, mayEnter x0 x1 x2 x3 x4 x5 x6 x7 x8 ts ps vol xs u rows = R := ⟨_, rfl⟩
  have HRES := Lib.hid hRes; clear hRes
  go_enter Try.func11, Try.ntmps11
  go_wp2_with fail
  with_reducible refine (szLock_any z0 _ _ _ _ _ _ _ _ _ _ _ _ ts _ HN.out HS.out (by decide) (by decide) _ (HF.out.ext (HE0.out)) HZ0.out).mono ?_
  rintro e s0 ⟨rfl, hb⟩
  have XS0 := Lib.hid (show Ext (((w.alloc (.cells #[.int .i64 x0, .int .i64 x1, .int .i64 x2, .int .i64 x3, .int .i64 x4, .int .i64 x5, .int .i64 x6, .int .i64 x7, .int .i64 x8, .slice a n c] 59)).alloc (.cells #[.slice ta tn tc, .int .i64 vol, .slice pa pn pc] 62)).alloc (.cells #[.bool u, .slice ra rn rc] 65)) s0 from hb)
  clear hb
  have s1_0 : s0.cell? ⟨w.heap.size + 1, 0, none⟩ = some (.slice ta tn tc) := (BA1.out.ext XS0.out).cell rfl
  have s1_1 : s0.cell? ⟨w.heap.size + 1, 1, none⟩ = some (.int .i64 vol) := (BA1.out.ext XS0.out).cell rfl
  have s1_2 : s0.cell? ⟨w.heap.size + 1, 2, none⟩ = some (.slice pa pn pc) := (BA1.out.ext XS0.out).cell rfl
  go_wp2_with fail
  with_reducible refine (szReach_any z1 _ _ _ _ _ _ _ _ HTL.out HPL.out hz0 hy0 _ HZ1.out).mono ?_
  rintro e s1 ⟨rfl, hb⟩
  have XS1 := Lib.hid (show Ext (((w.alloc (.cells #[.int .i64 x0, .int .i64 x1, .int .i64 x2, .int .i64 x3, .int .i64 x4, .int .i64 x5, .int .i64 x6, .int .i64 x7, .int .i64 x8, .slice a n c] 59)).alloc (.cells #[.slice ta tn tc, .int .i64 vol, .slice pa pn pc] 62)).alloc (.cells #[.bool u, .slice ra rn rc] 65)) s1 from XS0.out.trans hb)
  clear hb s1_0 s1_1 s1_2
  have s2_0 : s1.cell? ⟨w.heap.size + 1 + 1, 0, none⟩ = some (.bool u) := (BA2.out.ext XS1.out).cell rfl
  have s2_1 : s1.cell? ⟨w.heap.size + 1 + 1, 1, none⟩ = some (.slice ra rn rc) := (BA2.out.ext XS1.out).cell rfl
  go_wp2_with fail
  with_reducible refine (szTrain_is z2 _ _ _ _ rows _ HRN.out HRL.out hz1 hy1 _ (HFR.out.ext (HE0.out.trans XS1.out)) HZ2.out).mono ?_
  rintro e s2 ⟨rfl, hb⟩
  have XS2 := Lib.hid (show Ext (((w.alloc (.cells #[.int .i64 x0, .int .i64 x1, .int .i64 x2, .int .i64 x3, .int .i64 x4, .int .i64 x5, .int .i64 x6, .int .i64 x7, .int .i64 x8, .slice a n c] 59)).alloc (.cells #[.slice ta tn tc, .int .i64 vol, .slice pa pn pc] 62)).alloc (.cells #[.bool u, .slice ra rn rc] 65)) s2 from XS1.out.trans hb)
  clear hb s2_0 s2_1
  have HW0 := Lib.hid (HE0.out.trans XS2.out)
  have BX0_0 := Lib.hid (BA0.out.ext XS2.out)
  have BX1_0 := Lib.hid (BA1.out.ext XS2.out)
  have BX2_0 := Lib.hid (BA2.out.ext XS2.out)
  clear XS0 XS1 XS2
  have cBX00 : s2.cell? ⟨w.heap.size, 0, none⟩ = some (.int .i64 x0) := BX0_0.out.cell rfl
  have cBX01 : s2.cell? ⟨w.heap.size, 1, none⟩ = some (.int .i64 x1) := BX0_0.out.cell rfl
  have cBX02 : s2.cell? ⟨w.heap.size, 2, none⟩ = some (.int .i64 x2) := BX0_0.out.cell rfl
  have cBX03 : s2.cell? ⟨w.heap.size, 3, none⟩ = some (.int .i64 x3) := BX0_0.out.cell rfl
  have cBX04 : s2.cell? ⟨w.heap.size, 4, none⟩ = some (.int .i64 x4) := BX0_0.out.cell rfl
  have cBX05 : s2.cell? ⟨w.heap.size, 5, none⟩ = some (.int .i64 x5) := BX0_0.out.cell rfl
  have cBX06 : s2.cell? ⟨w.heap.size, 6, none⟩ = some (.int .i64 x6) := BX0_0.out.cell rfl
  have cBX07 : s2.cell? ⟨w.heap.size, 7, none⟩ = some (.int .i64 x7) := BX0_0.out.cell rfl
  have cBX08 : s2.cell? ⟨w.heap.size, 8, none⟩ = some (.int .i64 x8) := BX0_0.out.cell rfl
  have cBX09 : s2.cell? ⟨w.heap.size, 9, none⟩ = some (.slice a n c) := BX0_0.out.cell rfl
  have cBX10 : s2.cell? ⟨w.heap.size + 1, 0, none⟩ = some (.slice ta tn tc) := BX1_0.out.cell rfl
  have cBX11 : s2.cell? ⟨w.heap.size + 1, 1, none⟩ = some (.int .i64 vol) := BX1_0.out.cell rfl
  have cBX12 : s2.cell? ⟨w.heap.size + 1, 2, none⟩ = some (.slice pa pn pc) := BX1_0.out.cell rfl
  have cBX20 : s2.cell? ⟨w.heap.size + 1 + 1, 0, none⟩ = some (.bool u) := BX2_0.out.cell rfl
  have cBX21 : s2.cell? ⟨w.heap.size + 1 + 1, 1, none⟩ = some (.slice ra rn rc) := BX2_0.out.cell rfl
  have hS := Ext.refl s2
  go_wp2_with fail
  go_region_held3 (fun w' => Ext s2 w' ∧ w'.cell? ⟨w.heap.size, 0, none⟩ = some (.int .i64 x0) ∧ w'.cell? ⟨w.heap.size, 1, none⟩ = some (.int .i64 x1) ∧ w'.cell? ⟨w.heap.size, 2, none⟩ = some (.int .i64 x2) ∧ w'.cell? ⟨w.heap.size, 3, none⟩ = some (.int .i64 x3) ∧ w'.cell? ⟨w.heap.size, 4, none⟩ = some (.int .i64 x4) ∧ w'.cell? ⟨w.heap.size, 5, none⟩ = some (.int .i64 x5) ∧ w'.cell? ⟨w.heap.size, 6, none⟩ = some (.int .i64 x6) ∧ w'.cell? ⟨w.heap.size, 7, none⟩ = some (.int .i64 x7) ∧ w'.cell? ⟨w.heap.size, 8, none⟩ = some (.int .i64 x8) ∧ w'.cell? ⟨w.heap.size, 9, none⟩ = some (.slice a n c) ∧ w'.cell? ⟨w.heap.size + 1, 0, none⟩ = some (.slice ta tn tc) ∧ w'.cell? ⟨w.heap.size + 1, 1, none⟩ = some (.int .i64 vol) ∧ w'.cell? ⟨w.heap.size + 1, 2, none⟩ = some (.slice pa pn pc) ∧ w'.cell? ⟨w.heap.size + 1 + 1, 0, none⟩ = some (.bool u) ∧ w'.cell? ⟨w.heap.size + 1 + 1, 1, none⟩ = some (.slice ra rn rc))
    ((repeat' (refine And.intro ?_ ?_)) <;> (first | (exact Ext.cell (w := s2) (by (repeat' (first | (with_reducible exact Ext.refl _) | (with_reducible assumption) | (with_reducible refine Ext.alloc ?_ _) | (with_reducible refine Ext.drewN ?_ _) | (with_reducible refine Ext.drew ?_) | (with_reducible refine Ext.setCell ?_ ?_ _) | (with_reducible exact Nat.le_refl _) | (with_reducible exact Nat.le_succ _) | (with_reducible refine Ext.trans ?_ (by assumption)) | (simp; done) | (simp; omega)))) (by (with_reducible assumption))) | ((repeat' (first | (with_reducible exact Ext.refl _) | (with_reducible assumption) | (with_reducible refine Ext.alloc ?_ _) | (with_reducible refine Ext.drewN ?_ _) | (with_reducible refine Ext.drew ?_) | (with_reducible refine Ext.setCell ?_ ?_ _) | (with_reducible exact Nat.le_refl _) | (with_reducible exact Nat.le_succ _) | (with_reducible refine Ext.trans ?_ (by assumption)) | (simp; done) | (simp; omega))); done)))
    (first
      | (go_at_call 40; with_reducible refine (toLock_any _ _ _ _ _ _ _ _ _ _ _ _ ts _ HN.out hs2 HTS.out (HF.out.ext (HW0.out.trans (by (repeat' (first | (with_reducible exact Ext.refl _) | (with_reducible assumption) | (with_reducible refine Ext.alloc ?_ _) | (with_reducible refine Ext.drewN ?_ _) | (with_reducible refine Ext.drew ?_) | (with_reducible refine Ext.setCell ?_ ?_ _) | (with_reducible exact Nat.le_refl _) | (with_reducible exact Nat.le_succ _) | (with_reducible refine Ext.trans ?_ (by assumption)) | (simp; done) | (simp; omega))))))).mono ?_; rintro e w' ⟨aS0, rfl, ho0, hb0⟩)
      | (go_at_call 41; with_reducible refine (toReach_any _ _ _ _ _ _ _ ps xs _ HT.out htl2 HP.out hpl2 (HFT.out.ext (HW0.out.trans (by (repeat' (first | (with_reducible exact Ext.refl _) | (with_reducible assumption) | (with_reducible refine Ext.alloc ?_ _) | (with_reducible refine Ext.drewN ?_ _) | (with_reducible refine Ext.drew ?_) | (with_reducible refine Ext.setCell ?_ ?_ _) | (with_reducible exact Nat.le_refl _) | (with_reducible exact Nat.le_succ _) | (with_reducible refine Ext.trans ?_ (by assumption)) | (simp; done) | (simp; omega)))))) (HFP.out.ext (HW0.out.trans (by (repeat' (first | (with_reducible exact Ext.refl _) | (with_reducible assumption) | (with_reducible refine Ext.alloc ?_ _) | (with_reducible refine Ext.drewN ?_ _) | (with_reducible refine Ext.drew ?_) | (with_reducible refine Ext.setCell ?_ ?_ _) | (with_reducible exact Nat.le_refl _) | (with_reducible exact Nat.le_succ _) | (with_reducible refine Ext.trans ?_ (by assumption)) | (simp; done) | (simp; omega))))))).mono ?_; rintro e w' ⟨fS1, gS1, midS1, rfl, hmS1, ho1, hoi1, hb1⟩)
      | (go_at_call 42; with_reducible refine (toTrain_any _ _ _ _ rows _ HRN.out hrs2 HRR.out (HFR.out.ext (HW0.out.trans (by (repeat' (first | (with_reducible exact Ext.refl _) | (with_reducible assumption) | (with_reducible refine Ext.alloc ?_ _) | (with_reducible refine Ext.drewN ?_ _) | (with_reducible refine Ext.drew ?_) | (with_reducible refine Ext.setCell ?_ ?_ _) | (with_reducible exact Nat.le_refl _) | (with_reducible exact Nat.le_succ _) | (with_reducible refine Ext.trans ?_ (by assumption)) | (simp; done) | (simp; omega))))))).mono ?_; rintro e w' ⟨rS2, rfl, ho2, hb2⟩)
      | (go_at_call 56; with_reducible refine (specMayEnter_any R _ _ _ _ _ _ _ _ _ _ _ _ ts _ _ _ _ _ _ _ ps xs _ _ _ _ rows _ HN.out hs2 HTS.out (ho0.trains.ext (by (repeat' (first | (with_reducible exact Ext.refl _) | (with_reducible assumption) | (with_reducible refine Ext.alloc ?_ _) | (with_reducible refine Ext.drewN ?_ _) | (with_reducible refine Ext.drew ?_) | (with_reducible refine Ext.setCell ?_ ?_ _) | (with_reducible exact Nat.le_refl _) | (with_reducible exact Nat.le_succ _) | (with_reducible refine Ext.trans ?_ (by assumption)) | (simp; done) | (simp; omega))))) HT.out HTL.out HP.out HPL.out (ho1.at.ext (by (repeat' (first | (with_reducible exact Ext.refl _) | (with_reducible assumption) | (with_reducible refine Ext.alloc ?_ _) | (with_reducible refine Ext.drewN ?_ _) | (with_reducible refine Ext.drew ?_) | (with_reducible refine Ext.setCell ?_ ?_ _) | (with_reducible exact Nat.le_refl _) | (with_reducible exact Nat.le_succ _) | (with_reducible refine Ext.trans ?_ (by assumption)) | (simp; done) | (simp; omega))))) (hoi1.at.ext (by (repeat' (first | (with_reducible exact Ext.refl _) | (with_reducible assumption) | (with_reducible refine Ext.alloc ?_ _) | (with_reducible refine Ext.drewN ?_ _) | (with_reducible refine Ext.drew ?_) | (with_reducible refine Ext.setCell ?_ ?_ _) | (with_reducible exact Nat.le_refl _) | (with_reducible exact Nat.le_succ _) | (with_reducible refine Ext.trans ?_ (by assumption)) | (simp; done) | (simp; omega))))) HVOL.out HRN.out hrs2 HRT.out (ho2.rows.ext (by (repeat' (first | (with_reducible exact Ext.refl _) | (with_reducible assumption) | (with_reducible refine Ext.alloc ?_ _) | (with_reducible refine Ext.drewN ?_ _) | (with_reducible refine Ext.drew ?_) | (with_reducible refine Ext.setCell ?_ ?_ _) | (with_reducible exact Nat.le_refl _) | (with_reducible exact Nat.le_succ _) | (with_reducible refine Ext.trans ?_ (by assumption)) | (simp; done) | (simp; omega))))) HRES.out).mono ?_; rintro e w' ⟨rfl, hbs⟩))
  obtain ⟨w1, hwe⟩ : ∃ x, x = w' := ⟨_, rfl⟩
  subst hwe
  have hxx : Ext s2 w1 := by (repeat' (first | (with_reducible exact Ext.refl _) | (with_reducible assumption) | (with_reducible refine Ext.alloc ?_ _) | (with_reducible refine Ext.drewN ?_ _) | (with_reducible refine Ext.drew ?_) | (with_reducible refine Ext.setCell ?_ ?_ _) | (with_reducible exact Nat.le_refl _) | (with_reducible exact Nat.le_succ _) | (with_reducible refine Ext.trans ?_ (by assumption)) | (simp; done) | (simp; omega)))
  clear cBX00 cBX01 cBX02 cBX03 cBX04 cBX05 cBX06 cBX07 cBX08 cBX09
  clear cBX10 cBX11 cBX12
  clear cBX20 cBX21
  clear hbs hS ho0 hb0 ho1 hb1 hoi1 ho2 hb2
  have HW1 := Lib.hid (HW0.out.trans hxx)
  have BX0_1 := Lib.hid (BX0_0.out.ext hxx)
  have BX1_1 := Lib.hid (BX1_0.out.ext hxx)
  have BX2_1 := Lib.hid (BX2_0.out.ext hxx)
  have zz1 := hxx.size
  clear HW0 BX0_0 BX1_0 BX2_0 hxx
  have cBX00 : w1.cell? ⟨w.heap.size, 0, none⟩ = some (.int .i64 x0) := BX0_1.out.cell rfl
  have cBX01 : w1.cell? ⟨w.heap.size, 1, none⟩ = some (.int .i64 x1) := BX0_1.out.cell rfl
  have cBX02 : w1.cell? ⟨w.heap.size, 2, none⟩ = some (.int .i64 x2) := BX0_1.out.cell rfl
  have cBX03 : w1.cell? ⟨w.heap.size, 3, none⟩ = some (.int .i64 x3) := BX0_1.out.cell rfl
  have cBX04 : w1.cell? ⟨w.heap.size, 4, none⟩ = some (.int .i64 x4) := BX0_1.out.cell rfl
  have cBX05 : w1.cell? ⟨w.heap.size, 5, none⟩ = some (.int .i64 x5) := BX0_1.out.cell rfl
  have cBX06 : w1.cell? ⟨w.heap.size, 6, none⟩ = some (.int .i64 x6) := BX0_1.out.cell rfl
  have cBX07 : w1.cell? ⟨w.heap.size, 7, none⟩ = some (.int .i64 x7) := BX0_1.out.cell rfl
  have cBX08 : w1.cell? ⟨w.heap.size, 8, none⟩ = some (.int .i64 x8) := BX0_1.out.cell rfl
  have cBX09 : w1.cell? ⟨w.heap.size, 9, none⟩ = some (.slice a n c) := BX0_1.out.cell rfl
  go_wp2_with fail
  with_reducible refine (toLock_any _ _ _ _ _ _ _ _ _ _ _ _ ts _ HN.out hs2 HTS.out (HF.out.ext HW1.out)).mono ?_
  rintro e w2 ⟨aX0, rfl, ho, hb⟩
  clear cBX00 cBX01 cBX02 cBX03 cBX04 cBX05 cBX06 cBX07 cBX08 cBX09
  have hown := Lib.hid ho; clear ho
  have HW2 := Lib.hid (HW1.out.trans hb)
  have BX0_2 := Lib.hid (BX0_1.out.ext hb)
  have BX1_2 := Lib.hid (BX1_1.out.ext hb)
  have BX2_2 := Lib.hid (BX2_1.out.ext hb)
  have zz2 := hb.size
  clear HW1 BX0_1 BX1_1 BX2_1 hb
  have OX0_2 := hown; clear hown
  obtain ⟨bX0, hbX0⟩ : ∃ x, x = w2.heap.size := ⟨_, rfl⟩
  obtain ⟨w3, hw3⟩ : ∃ x, x = w2.alloc (.cells #[.int .i64 x0, .int .i64 x1, .int .i64 x2, .int .i64 x3, .int .i64 x4, .int .i64 x5, .int .i64 x6, .int .i64 x7, .int .i64 x8, .slice (some aX0) n n] 26) := ⟨_, rfl⟩
  have hal := (Ext.refl w2).alloc (.cells #[.int .i64 x0, .int .i64 x1, .int .i64 x2, .int .i64 x3, .int .i64 x4, .int .i64 x5, .int .i64 x6, .int .i64 x7, .int .i64 x8, .slice (some aX0) n n] 26)
  have X0q := Lib.hid (RowAt.new w2 26 #[.int .i64 x0, .int .i64 x1, .int .i64 x2, .int .i64 x3, .int .i64 x4, .int .i64 x5, .int .i64 x6, .int .i64 x7, .int .i64 x8, .slice (some aX0) n n])
  rw [← hw3] at hal X0q
  rw [← hbX0] at X0q
  have lX0 := X0q.out.lt
  have mX0 : w2.heap.size ≤ bX0 := Nat.le_of_eq hbX0.symm
  have nX0 : bX0 ≤ w2.heap.size := Nat.le_of_eq hbX0
  have e0 : (w2.alloc (.cells #[.int .i64 x0, .int .i64 x1, .int .i64 x2, .int .i64 x3, .int .i64 x4, .int .i64 x5, .int .i64 x6, .int .i64 x7, .int .i64 x8, .slice (some aX0) n n] 26)).cell? ⟨w.heap.size + 1, 0, none⟩ = some (.slice ta tn tc) := (BX1_2.out.ext ((Ext.refl _).alloc _)).cell rfl
  have e1 : (w2.alloc (.cells #[.int .i64 x0, .int .i64 x1, .int .i64 x2, .int .i64 x3, .int .i64 x4, .int .i64 x5, .int .i64 x6, .int .i64 x7, .int .i64 x8, .slice (some aX0) n n] 26)).cell? ⟨w.heap.size + 1, 1, none⟩ = some (.int .i64 vol) := (BX1_2.out.ext ((Ext.refl _).alloc _)).cell rfl
  have e2 : (w2.alloc (.cells #[.int .i64 x0, .int .i64 x1, .int .i64 x2, .int .i64 x3, .int .i64 x4, .int .i64 x5, .int .i64 x6, .int .i64 x7, .int .i64 x8, .slice (some aX0) n n] 26)).cell? ⟨w.heap.size + 1, 2, none⟩ = some (.slice pa pn pc) := (BX1_2.out.ext ((Ext.refl _).alloc _)).cell rfl
  go_wp2_with fail
  clear e0 e1 e2
  (try rw [← hw3])
  (try rw [← hbX0])
  clear hw3 hbX0
  have HW3 := Lib.hid (HW2.out.trans hal)
  have BX0_3 := Lib.hid (BX0_2.out.ext hal)
  have BX1_3 := Lib.hid (BX1_2.out.ext hal)
  have BX2_3 := Lib.hid (BX2_2.out.ext hal)
  have OX0_3 := Lib.hid (OX0_2.out.ext hal)
  have zz3 := hal.size
  clear HW2 BX0_2 BX1_2 BX2_2 OX0_2 hal
  have X0_3 := X0q; clear X0q
  with_reducible refine (toReach_any _ _ _ _ _ _ _ ps xs _ HT.out htl2 HP.out hpl2 (HFT.out.ext HW3.out) (HFP.out.ext HW3.out)).mono ?_
  rintro e w4 ⟨fX1, gX1, midX1, rfl, hmX1, ho, hoi, hb⟩
  have hown := Lib.hid (OwnReach.mk hmX1 ho hoi)
  clear ho hoi
  have HW4 := Lib.hid (HW3.out.trans hb)
  have BX0_4 := Lib.hid (BX0_3.out.ext hb)
  have BX1_4 := Lib.hid (BX1_3.out.ext hb)
  have BX2_4 := Lib.hid (BX2_3.out.ext hb)
  have X0_4 := Lib.hid (X0_3.out.ext hb)
  have OX0_4 := Lib.hid (OX0_3.out.ext hb)
  have zz4 := hb.size
  clear HW3 BX0_3 BX1_3 BX2_3 X0_3 OX0_3 hb
  have OX1_4 := hown; clear hown
  obtain ⟨bX1, hbX1⟩ : ∃ x, x = w4.heap.size := ⟨_, rfl⟩
  obtain ⟨w5, hw5⟩ : ∃ x, x = w4.alloc (.cells #[.slice (some fX1) tn tn, .int .i64 vol, .slice (some gX1) pn pn] 33) := ⟨_, rfl⟩
  have hal := (Ext.refl w4).alloc (.cells #[.slice (some fX1) tn tn, .int .i64 vol, .slice (some gX1) pn pn] 33)
  have X1q := Lib.hid (RowAt.new w4 33 #[.slice (some fX1) tn tn, .int .i64 vol, .slice (some gX1) pn pn])
  rw [← hw5] at hal X1q
  rw [← hbX1] at X1q
  have lX1 := X1q.out.lt
  have mX1 : w4.heap.size ≤ bX1 := Nat.le_of_eq hbX1.symm
  have nX1 : bX1 ≤ w4.heap.size := Nat.le_of_eq hbX1
  have e0 : (w4.alloc (.cells #[.slice (some fX1) tn tn, .int .i64 vol, .slice (some gX1) pn pn] 33)).cell? ⟨w.heap.size + 1 + 1, 0, none⟩ = some (.bool u) := (BX2_4.out.ext ((Ext.refl _).alloc _)).cell rfl
  have e1 : (w4.alloc (.cells #[.slice (some fX1) tn tn, .int .i64 vol, .slice (some gX1) pn pn] 33)).cell? ⟨w.heap.size + 1 + 1, 1, none⟩ = some (.slice ra rn rc) := (BX2_4.out.ext ((Ext.refl _).alloc _)).cell rfl
  go_wp2_with fail
  clear e0 e1
  (try rw [← hw5])
  (try rw [← hbX1])
  clear hw5 hbX1
  have HW5 := Lib.hid (HW4.out.trans hal)
  have BX0_5 := Lib.hid (BX0_4.out.ext hal)
  have BX1_5 := Lib.hid (BX1_4.out.ext hal)
  have BX2_5 := Lib.hid (BX2_4.out.ext hal)
  have X0_5 := Lib.hid (X0_4.out.ext hal)
  have OX0_5 := Lib.hid (OX0_4.out.ext hal)
  have OX1_5 := Lib.hid (OX1_4.out.ext hal)
  have zz5 := hal.size
  clear HW4 BX0_4 BX1_4 BX2_4 X0_4 OX0_4 OX1_4 hal
  have X1_5 := X1q; clear X1q
  with_reducible refine (toTrain_any _ _ _ _ rows _ HRN.out hrs2 HRR.out (HFR.out.ext HW5.out)).mono ?_
  rintro e w6 ⟨rX2, rfl, ho, hb⟩
  have hown := Lib.hid ho; clear ho
  have HW6 := Lib.hid (HW5.out.trans hb)
  have BX0_6 := Lib.hid (BX0_5.out.ext hb)
  have BX1_6 := Lib.hid (BX1_5.out.ext hb)
  have BX2_6 := Lib.hid (BX2_5.out.ext hb)
  have X0_6 := Lib.hid (X0_5.out.ext hb)
  have X1_6 := Lib.hid (X1_5.out.ext hb)
  have OX0_6 := Lib.hid (OX0_5.out.ext hb)
  have OX1_6 := Lib.hid (OX1_5.out.ext hb)
  have zz6 := hb.size
  clear HW5 BX0_5 BX1_5 BX2_5 X0_5 X1_5 OX0_5 OX1_5 hb
  have OX2_6 := hown; clear hown
  obtain ⟨bX2, hbX2⟩ : ∃ x, x = w6.heap.size := ⟨_, rfl⟩
  obtain ⟨w7, hw7⟩ : ∃ x, x = w6.alloc (.cells #[.bool u, .slice (some rX2) rn rn] 47) := ⟨_, rfl⟩
  have hal := (Ext.refl w6).alloc (.cells #[.bool u, .slice (some rX2) rn rn] 47)
  have X2q := Lib.hid (RowAt.new w6 47 #[.bool u, .slice (some rX2) rn rn])
  rw [← hw7] at hal X2q
  rw [← hbX2] at X2q
  have lX2 := X2q.out.lt
  have mX2 : w6.heap.size ≤ bX2 := Nat.le_of_eq hbX2.symm
  have nX2 : bX2 ≤ w6.heap.size := Nat.le_of_eq hbX2
  have e0 : (w6.alloc (.cells #[.bool u, .slice (some rX2) rn rn] 47)).cell? ⟨bX0, 0, none⟩ = some (.int .i64 x0) := (X0_6.out.ext ((Ext.refl _).alloc _)).cell rfl
  have e1 : (w6.alloc (.cells #[.bool u, .slice (some rX2) rn rn] 47)).cell? ⟨bX0, 1, none⟩ = some (.int .i64 x1) := (X0_6.out.ext ((Ext.refl _).alloc _)).cell rfl
  have e2 : (w6.alloc (.cells #[.bool u, .slice (some rX2) rn rn] 47)).cell? ⟨bX0, 2, none⟩ = some (.int .i64 x2) := (X0_6.out.ext ((Ext.refl _).alloc _)).cell rfl
  have e3 : (w6.alloc (.cells #[.bool u, .slice (some rX2) rn rn] 47)).cell? ⟨bX0, 3, none⟩ = some (.int .i64 x3) := (X0_6.out.ext ((Ext.refl _).alloc _)).cell rfl
  have e4 : (w6.alloc (.cells #[.bool u, .slice (some rX2) rn rn] 47)).cell? ⟨bX0, 4, none⟩ = some (.int .i64 x4) := (X0_6.out.ext ((Ext.refl _).alloc _)).cell rfl
  have e5 : (w6.alloc (.cells #[.bool u, .slice (some rX2) rn rn] 47)).cell? ⟨bX0, 5, none⟩ = some (.int .i64 x5) := (X0_6.out.ext ((Ext.refl _).alloc _)).cell rfl
  have e6 : (w6.alloc (.cells #[.bool u, .slice (some rX2) rn rn] 47)).cell? ⟨bX0, 6, none⟩ = some (.int .i64 x6) := (X0_6.out.ext ((Ext.refl _).alloc _)).cell rfl
  have e7 : (w6.alloc (.cells #[.bool u, .slice (some rX2) rn rn] 47)).cell? ⟨bX0, 7, none⟩ = some (.int .i64 x7) := (X0_6.out.ext ((Ext.refl _).alloc _)).cell rfl
  have e8 : (w6.alloc (.cells #[.bool u, .slice (some rX2) rn rn] 47)).cell? ⟨bX0, 8, none⟩ = some (.int .i64 x8) := (X0_6.out.ext ((Ext.refl _).alloc _)).cell rfl
  have e9 : (w6.alloc (.cells #[.bool u, .slice (some rX2) rn rn] 47)).cell? ⟨bX0, 9, none⟩ = some (.slice (some aX0) n n) := (X0_6.out.ext ((Ext.refl _).alloc _)).cell rfl
  have e10 : (w6.alloc (.cells #[.bool u, .slice (some rX2) rn rn] 47)).cell? ⟨bX1, 0, none⟩ = some (.slice (some fX1) tn tn) := (X1_6.out.ext ((Ext.refl _).alloc _)).cell rfl
  have e11 : (w6.alloc (.cells #[.bool u, .slice (some rX2) rn rn] 47)).cell? ⟨bX1, 1, none⟩ = some (.int .i64 vol) := (X1_6.out.ext ((Ext.refl _).alloc _)).cell rfl
  have e12 : (w6.alloc (.cells #[.bool u, .slice (some rX2) rn rn] 47)).cell? ⟨bX1, 2, none⟩ = some (.slice (some gX1) pn pn) := (X1_6.out.ext ((Ext.refl _).alloc _)).cell rfl
  have e13 : (w6.alloc (.cells #[.bool u, .slice (some rX2) rn rn] 47)).cell? ⟨w6.heap.size, 0, none⟩ = some (.bool u) := (RowAt.new w6 47 #[.bool u, .slice (some rX2) rn rn]).cell rfl
  have e14 : (w6.alloc (.cells #[.bool u, .slice (some rX2) rn rn] 47)).cell? ⟨w6.heap.size, 1, none⟩ = some (.slice (some rX2) rn rn) := (RowAt.new w6 47 #[.bool u, .slice (some rX2) rn rn]).cell rfl
  go_wp2_with fail
  clear e0 e1 e2 e3 e4 e5 e6 e7 e8 e9 e10 e11 e12 e13 e14
  (try rw [← hw7])
  (try rw [← hbX2])
  clear hw7 hbX2
  have HW7 := Lib.hid (HW6.out.trans hal)
  have BX0_7 := Lib.hid (BX0_6.out.ext hal)
  have BX1_7 := Lib.hid (BX1_6.out.ext hal)
  have BX2_7 := Lib.hid (BX2_6.out.ext hal)
  have X0_7 := Lib.hid (X0_6.out.ext hal)
  have X1_7 := Lib.hid (X1_6.out.ext hal)
  have OX0_7 := Lib.hid (OX0_6.out.ext hal)
  have OX1_7 := Lib.hid (OX1_6.out.ext hal)
  have OX2_7 := Lib.hid (OX2_6.out.ext hal)
  have zz7 := hal.size
  clear HW6 BX0_6 BX1_6 BX2_6 X0_6 X1_6 OX0_6 OX1_6 OX2_6 hal
  have X2_7 := X2q; clear X2q
  with_reducible refine (implMayEnter_any R _ _ _ _ _ _ _ _ _ _ _ _ ts _ _ _ _ _ _ _ ps xs _ _ _ _ rows _ HN.out hs2 HTS.out OX0_7.out.trains HT.out HTL.out HP.out HPL.out OX1_7.out.pts OX1_7.out.ints HVOL.out HRN.out hrs2 HRT.out OX2_7.out.rows HRES.out).mono ?_
  rintro e w8 ⟨rfl, hb⟩
  have HW8 := Lib.hid (HW7.out.trans hb)
  have BX0_8 := Lib.hid (BX0_7.out.ext hb)
  have BX1_8 := Lib.hid (BX1_7.out.ext hb)
  have BX2_8 := Lib.hid (BX2_7.out.ext hb)
  have X0_8 := Lib.hid (X0_7.out.ext hb)
  have X1_8 := Lib.hid (X1_7.out.ext hb)
  have X2_8 := Lib.hid (X2_7.out.ext hb)
  have OX0_8 := Lib.hid (OX0_7.out.ext hb)
  have OX1_8 := Lib.hid (OX1_7.out.ext hb)
  have OX2_8 := Lib.hid (OX2_7.out.ext hb)
  have zz8 := hb.size
  clear HW7 BX0_7 BX1_7 BX2_7 X0_7 X1_7 X2_7 OX0_7 OX1_7 OX2_7 hb
  go_wp2_with fail
  have cX00 : w8.cell? ⟨bX0, 0, none⟩ = some (.int .i64 x0) := X0_8.out.cell rfl
  have cX01 : w8.cell? ⟨bX0, 1, none⟩ = some (.int .i64 x1) := X0_8.out.cell rfl
  have cX02 : w8.cell? ⟨bX0, 2, none⟩ = some (.int .i64 x2) := X0_8.out.cell rfl
  have cX03 : w8.cell? ⟨bX0, 3, none⟩ = some (.int .i64 x3) := X0_8.out.cell rfl
  have cX04 : w8.cell? ⟨bX0, 4, none⟩ = some (.int .i64 x4) := X0_8.out.cell rfl
  have cX05 : w8.cell? ⟨bX0, 5, none⟩ = some (.int .i64 x5) := X0_8.out.cell rfl
  have cX06 : w8.cell? ⟨bX0, 6, none⟩ = some (.int .i64 x6) := X0_8.out.cell rfl
  have cX07 : w8.cell? ⟨bX0, 7, none⟩ = some (.int .i64 x7) := X0_8.out.cell rfl
  have cX08 : w8.cell? ⟨bX0, 8, none⟩ = some (.int .i64 x8) := X0_8.out.cell rfl
  have cX09 : w8.cell? ⟨bX0, 9, none⟩ = some (.slice (some aX0) n n) := X0_8.out.cell rfl
  have cBX00 : w8.cell? ⟨w.heap.size, 0, none⟩ = some (.int .i64 x0) := BX0_8.out.cell rfl
  have cBX01 : w8.cell? ⟨w.heap.size, 1, none⟩ = some (.int .i64 x1) := BX0_8.out.cell rfl
  have cBX02 : w8.cell? ⟨w.heap.size, 2, none⟩ = some (.int .i64 x2) := BX0_8.out.cell rfl
  have cBX03 : w8.cell? ⟨w.heap.size, 3, none⟩ = some (.int .i64 x3) := BX0_8.out.cell rfl
  have cBX04 : w8.cell? ⟨w.heap.size, 4, none⟩ = some (.int .i64 x4) := BX0_8.out.cell rfl
  have cBX05 : w8.cell? ⟨w.heap.size, 5, none⟩ = some (.int .i64 x5) := BX0_8.out.cell rfl
  have cBX06 : w8.cell? ⟨w.heap.size, 6, none⟩ = some (.int .i64 x6) := BX0_8.out.cell rfl
  have cBX07 : w8.cell? ⟨w.heap.size, 7, none⟩ = some (.int .i64 x7) := BX0_8.out.cell rfl
  have cBX08 : w8.cell? ⟨w.heap.size, 8, none⟩ = some (.int .i64 x8) := BX0_8.out.cell rfl
  have cBX09 : w8.cell? ⟨w.heap.size, 9, none⟩ = some (.slice a n c) := BX0_8.out.cell rfl
  have hS := Ext.refl w8
  go_wp2_with fail
  go_region_held3 (fun w' => Ext w8 w' ∧ w'.cell? ⟨bX0, 0, none⟩ = some (.int .i64 x0) ∧ w'.cell? ⟨bX0, 1, none⟩ = some (.int .i64 x1) ∧ w'.cell? ⟨bX0, 2, none⟩ = some (.int .i64 x2) ∧ w'.cell? ⟨bX0, 3, none⟩ = some (.int .i64 x3) ∧ w'.cell? ⟨bX0, 4, none⟩ = some (.int .i64 x4) ∧ w'.cell? ⟨bX0, 5, none⟩ = some (.int .i64 x5) ∧ w'.cell? ⟨bX0, 6, none⟩ = some (.int .i64 x6) ∧ w'.cell? ⟨bX0, 7, none⟩ = some (.int .i64 x7) ∧ w'.cell? ⟨bX0, 8, none⟩ = some (.int .i64 x8) ∧ w'.cell? ⟨bX0, 9, none⟩ = some (.slice (some aX0) n n) ∧ w'.cell? ⟨w.heap.size, 0, none⟩ = some (.int .i64 x0) ∧ w'.cell? ⟨w.heap.size, 1, none⟩ = some (.int .i64 x1) ∧ w'.cell? ⟨w.heap.size, 2, none⟩ = some (.int .i64 x2) ∧ w'.cell? ⟨w.heap.size, 3, none⟩ = some (.int .i64 x3) ∧ w'.cell? ⟨w.heap.size, 4, none⟩ = some (.int .i64 x4) ∧ w'.cell? ⟨w.heap.size, 5, none⟩ = some (.int .i64 x5) ∧ w'.cell? ⟨w.heap.size, 6, none⟩ = some (.int .i64 x6) ∧ w'.cell? ⟨w.heap.size, 7, none⟩ = some (.int .i64 x7) ∧ w'.cell? ⟨w.heap.size, 8, none⟩ = some (.int .i64 x8) ∧ w'.cell? ⟨w.heap.size, 9, none⟩ = some (.slice a n c))
    ((repeat' (refine And.intro ?_ ?_)) <;> (first | (exact Ext.cell (w := w8) (by (repeat' (first | (with_reducible exact Ext.refl _) | (with_reducible assumption) | (with_reducible refine Ext.alloc ?_ _) | (with_reducible refine Ext.drewN ?_ _) | (with_reducible refine Ext.drew ?_) | (with_reducible refine Ext.setCell ?_ ?_ _) | (with_reducible exact Nat.le_refl _) | (with_reducible exact Nat.le_succ _) | (with_reducible refine Ext.trans ?_ (by assumption)) | (simp; done) | (simp; omega)))) (by (with_reducible assumption))) | ((repeat' (first | (with_reducible exact Ext.refl _) | (with_reducible assumption) | (with_reducible refine Ext.alloc ?_ _) | (with_reducible refine Ext.drewN ?_ _) | (with_reducible refine Ext.drew ?_) | (with_reducible refine Ext.setCell ?_ ?_ _) | (with_reducible exact Nat.le_refl _) | (with_reducible exact Nat.le_succ _) | (with_reducible refine Ext.trans ?_ (by assumption)) | (simp; done) | (simp; omega))); done)))
    (first
      | (go_at_call 40; with_reducible refine (toLock_any _ _ _ _ _ _ _ _ _ _ _ _ ts _ HN.out hs2 HTS.out (HF.out.ext (HW8.out.trans (by (repeat' (first | (with_reducible exact Ext.refl _) | (with_reducible assumption) | (with_reducible refine Ext.alloc ?_ _) | (with_reducible refine Ext.drewN ?_ _) | (with_reducible refine Ext.drew ?_) | (with_reducible refine Ext.setCell ?_ ?_ _) | (with_reducible exact Nat.le_refl _) | (with_reducible exact Nat.le_succ _) | (with_reducible refine Ext.trans ?_ (by assumption)) | (simp; done) | (simp; omega))))))).mono ?_; rintro e w' ⟨aE0, rfl, ho, hb⟩)
      | (go_at_call 43; with_reducible refine (eqLock_same _ _ _ _ _ _ _ _ _ _ _ _ _ _ ts _ HN.out HS.out (OX0_8.out.trains.ext (by (repeat' (first | (with_reducible exact Ext.refl _) | (with_reducible assumption) | (with_reducible refine Ext.alloc ?_ _) | (with_reducible refine Ext.drewN ?_ _) | (with_reducible refine Ext.drew ?_) | (with_reducible refine Ext.setCell ?_ ?_ _) | (with_reducible exact Nat.le_refl _) | (with_reducible exact Nat.le_succ _) | (with_reducible refine Ext.trans ?_ (by assumption)) | (simp; done) | (simp; omega))))) ho.trains).mono ?_; rintro e w' ⟨rfl, hb'⟩))
  obtain ⟨w9, hwe⟩ : ∃ x, x = w' := ⟨_, rfl⟩
  subst hwe
  have hxx : Ext w8 w9 := by (repeat' (first | (with_reducible exact Ext.refl _) | (with_reducible assumption) | (with_reducible refine Ext.alloc ?_ _) | (with_reducible refine Ext.drewN ?_ _) | (with_reducible refine Ext.drew ?_) | (with_reducible refine Ext.setCell ?_ ?_ _) | (with_reducible exact Nat.le_refl _) | (with_reducible exact Nat.le_succ _) | (with_reducible refine Ext.trans ?_ (by assumption)) | (simp; done) | (simp; omega)))
  clear ho hb hb' hS
  clear cX00 cX01 cX02 cX03 cX04 cX05 cX06 cX07 cX08 cX09 cBX00 cBX01 cBX02 cBX03 cBX04 cBX05 cBX06 cBX07 cBX08 cBX09
  have HW9 := Lib.hid (HW8.out.trans hxx)
  have BX0_9 := Lib.hid (BX0_8.out.ext hxx)
  have BX1_9 := Lib.hid (BX1_8.out.ext hxx)
  have BX2_9 := Lib.hid (BX2_8.out.ext hxx)
  have X0_9 := Lib.hid (X0_8.out.ext hxx)
  have X1_9 := Lib.hid (X1_8.out.ext hxx)
  have X2_9 := Lib.hid (X2_8.out.ext hxx)
  have OX0_9 := Lib.hid (OX0_8.out.ext hxx)
  have OX1_9 := Lib.hid (OX1_8.out.ext hxx)
  have OX2_9 := Lib.hid (OX2_8.out.ext hxx)
  have zz9 := hxx.size
  clear HW8 BX0_8 BX1_8 BX2_8 X0_8 X1_8 X2_8 OX0_8 OX1_8 OX2_8 hxx
  have cX10 : w9.cell? ⟨bX1, 0, none⟩ = some (.slice (some fX1) tn tn) := X1_9.out.cell rfl
  have cX11 : w9.cell? ⟨bX1, 1, none⟩ = some (.int .i64 vol) := X1_9.out.cell rfl
  have cX12 : w9.cell? ⟨bX1, 2, none⟩ = some (.slice (some gX1) pn pn) := X1_9.out.cell rfl
  have cBX10 : w9.cell? ⟨w.heap.size + 1, 0, none⟩ = some (.slice ta tn tc) := BX1_9.out.cell rfl
  have cBX11 : w9.cell? ⟨w.heap.size + 1, 1, none⟩ = some (.int .i64 vol) := BX1_9.out.cell rfl
  have cBX12 : w9.cell? ⟨w.heap.size + 1, 2, none⟩ = some (.slice pa pn pc) := BX1_9.out.cell rfl
  have hS := Ext.refl w9
  go_wp2_with fail
  go_region_held3 (fun w' => Ext w9 w' ∧ w'.cell? ⟨bX1, 0, none⟩ = some (.slice (some fX1) tn tn) ∧ w'.cell? ⟨bX1, 1, none⟩ = some (.int .i64 vol) ∧ w'.cell? ⟨bX1, 2, none⟩ = some (.slice (some gX1) pn pn) ∧ w'.cell? ⟨w.heap.size + 1, 0, none⟩ = some (.slice ta tn tc) ∧ w'.cell? ⟨w.heap.size + 1, 1, none⟩ = some (.int .i64 vol) ∧ w'.cell? ⟨w.heap.size + 1, 2, none⟩ = some (.slice pa pn pc))
    ((repeat' (refine And.intro ?_ ?_)) <;> (first | (exact Ext.cell (w := w9) (by (repeat' (first | (with_reducible exact Ext.refl _) | (with_reducible assumption) | (with_reducible refine Ext.alloc ?_ _) | (with_reducible refine Ext.drewN ?_ _) | (with_reducible refine Ext.drew ?_) | (with_reducible refine Ext.setCell ?_ ?_ _) | (with_reducible exact Nat.le_refl _) | (with_reducible exact Nat.le_succ _) | (with_reducible refine Ext.trans ?_ (by assumption)) | (simp; done) | (simp; omega)))) (by (with_reducible assumption))) | ((repeat' (first | (with_reducible exact Ext.refl _) | (with_reducible assumption) | (with_reducible refine Ext.alloc ?_ _) | (with_reducible refine Ext.drewN ?_ _) | (with_reducible refine Ext.drew ?_) | (with_reducible refine Ext.setCell ?_ ?_ _) | (with_reducible exact Nat.le_refl _) | (with_reducible exact Nat.le_succ _) | (with_reducible refine Ext.trans ?_ (by assumption)) | (simp; done) | (simp; omega))); done)))
    (first
      | (go_at_call 41; with_reducible refine (toReach_any _ _ _ _ _ _ _ ps xs _ HT.out htl2 HP.out hpl2 (HFT.out.ext (HW9.out.trans (by (repeat' (first | (with_reducible exact Ext.refl _) | (with_reducible assumption) | (with_reducible refine Ext.alloc ?_ _) | (with_reducible refine Ext.drewN ?_ _) | (with_reducible refine Ext.drew ?_) | (with_reducible refine Ext.setCell ?_ ?_ _) | (with_reducible exact Nat.le_refl _) | (with_reducible exact Nat.le_succ _) | (with_reducible refine Ext.trans ?_ (by assumption)) | (simp; done) | (simp; omega)))))) (HFP.out.ext (HW9.out.trans (by (repeat' (first | (with_reducible exact Ext.refl _) | (with_reducible assumption) | (with_reducible refine Ext.alloc ?_ _) | (with_reducible refine Ext.drewN ?_ _) | (with_reducible refine Ext.drew ?_) | (with_reducible refine Ext.setCell ?_ ?_ _) | (with_reducible exact Nat.le_refl _) | (with_reducible exact Nat.le_succ _) | (with_reducible refine Ext.trans ?_ (by assumption)) | (simp; done) | (simp; omega))))))).mono ?_; rintro e w' ⟨fE1, gE1, midE1, rfl, hmE1, ho, hoi, hb⟩)
      | (go_at_call 44; with_reducible refine (eqReach_same _ _ _ _ _ _ _ _ _ _ _ ps xs _ HT.out HTL.out HP.out HPL.out (OX1_9.out.pts.ext (by (repeat' (first | (with_reducible exact Ext.refl _) | (with_reducible assumption) | (with_reducible refine Ext.alloc ?_ _) | (with_reducible refine Ext.drewN ?_ _) | (with_reducible refine Ext.drew ?_) | (with_reducible refine Ext.setCell ?_ ?_ _) | (with_reducible exact Nat.le_refl _) | (with_reducible exact Nat.le_succ _) | (with_reducible refine Ext.trans ?_ (by assumption)) | (simp; done) | (simp; omega))))) (OX1_9.out.ints.ext (by (repeat' (first | (with_reducible exact Ext.refl _) | (with_reducible assumption) | (with_reducible refine Ext.alloc ?_ _) | (with_reducible refine Ext.drewN ?_ _) | (with_reducible refine Ext.drew ?_) | (with_reducible refine Ext.setCell ?_ ?_ _) | (with_reducible exact Nat.le_refl _) | (with_reducible exact Nat.le_succ _) | (with_reducible refine Ext.trans ?_ (by assumption)) | (simp; done) | (simp; omega))))) ho.at hoi.at).mono ?_; rintro e w' ⟨rfl, hb'⟩))
  obtain ⟨w10, hwe⟩ : ∃ x, x = w' := ⟨_, rfl⟩
  subst hwe
  have hxx : Ext w9 w10 := by (repeat' (first | (with_reducible exact Ext.refl _) | (with_reducible assumption) | (with_reducible refine Ext.alloc ?_ _) | (with_reducible refine Ext.drewN ?_ _) | (with_reducible refine Ext.drew ?_) | (with_reducible refine Ext.setCell ?_ ?_ _) | (with_reducible exact Nat.le_refl _) | (with_reducible exact Nat.le_succ _) | (with_reducible refine Ext.trans ?_ (by assumption)) | (simp; done) | (simp; omega)))
  clear ho hb hb' hS hoi
  clear cX10 cX11 cX12 cBX10 cBX11 cBX12
  have HW10 := Lib.hid (HW9.out.trans hxx)
  have BX0_10 := Lib.hid (BX0_9.out.ext hxx)
  have BX1_10 := Lib.hid (BX1_9.out.ext hxx)
  have BX2_10 := Lib.hid (BX2_9.out.ext hxx)
  have X0_10 := Lib.hid (X0_9.out.ext hxx)
  have X1_10 := Lib.hid (X1_9.out.ext hxx)
  have X2_10 := Lib.hid (X2_9.out.ext hxx)
  have OX0_10 := Lib.hid (OX0_9.out.ext hxx)
  have OX1_10 := Lib.hid (OX1_9.out.ext hxx)
  have OX2_10 := Lib.hid (OX2_9.out.ext hxx)
  have zz10 := hxx.size
  clear HW9 BX0_9 BX1_9 BX2_9 X0_9 X1_9 X2_9 OX0_9 OX1_9 OX2_9 hxx
  have cX20 : w10.cell? ⟨bX2, 0, none⟩ = some (.bool u) := X2_10.out.cell rfl
  have cX21 : w10.cell? ⟨bX2, 1, none⟩ = some (.slice (some rX2) rn rn) := X2_10.out.cell rfl
  have cBX20 : w10.cell? ⟨w.heap.size + 1 + 1, 0, none⟩ = some (.bool u) := BX2_10.out.cell rfl
  have cBX21 : w10.cell? ⟨w.heap.size + 1 + 1, 1, none⟩ = some (.slice ra rn rc) := BX2_10.out.cell rfl
  have hS := Ext.refl w10
  go_wp2_with fail
  go_region_held3 (fun w' => Ext w10 w' ∧ w'.cell? ⟨bX2, 0, none⟩ = some (.bool u) ∧ w'.cell? ⟨bX2, 1, none⟩ = some (.slice (some rX2) rn rn) ∧ w'.cell? ⟨w.heap.size + 1 + 1, 0, none⟩ = some (.bool u) ∧ w'.cell? ⟨w.heap.size + 1 + 1, 1, none⟩ = some (.slice ra rn rc))
    ((repeat' (refine And.intro ?_ ?_)) <;> (first | (exact Ext.cell (w := w10) (by (repeat' (first | (with_reducible exact Ext.refl _) | (with_reducible assumption) | (with_reducible refine Ext.alloc ?_ _) | (with_reducible refine Ext.drewN ?_ _) | (with_reducible refine Ext.drew ?_) | (with_reducible refine Ext.setCell ?_ ?_ _) | (with_reducible exact Nat.le_refl _) | (with_reducible exact Nat.le_succ _) | (with_reducible refine Ext.trans ?_ (by assumption)) | (simp; done) | (simp; omega)))) (by (with_reducible assumption))) | ((repeat' (first | (with_reducible exact Ext.refl _) | (with_reducible assumption) | (with_reducible refine Ext.alloc ?_ _) | (with_reducible refine Ext.drewN ?_ _) | (with_reducible refine Ext.drew ?_) | (with_reducible refine Ext.setCell ?_ ?_ _) | (with_reducible exact Nat.le_refl _) | (with_reducible exact Nat.le_succ _) | (with_reducible refine Ext.trans ?_ (by assumption)) | (simp; done) | (simp; omega))); done)))
    (first
      | (go_at_call 42; with_reducible refine (toTrain_any _ _ _ _ rows _ HRN.out hrs2 HRR.out (HFR.out.ext (HW10.out.trans (by (repeat' (first | (with_reducible exact Ext.refl _) | (with_reducible assumption) | (with_reducible refine Ext.alloc ?_ _) | (with_reducible refine Ext.drewN ?_ _) | (with_reducible refine Ext.drew ?_) | (with_reducible refine Ext.setCell ?_ ?_ _) | (with_reducible exact Nat.le_refl _) | (with_reducible exact Nat.le_succ _) | (with_reducible refine Ext.trans ?_ (by assumption)) | (simp; done) | (simp; omega))))))).mono ?_; rintro e w' ⟨rE2, rfl, ho, hb⟩)
      | (go_at_call 45; with_reducible refine (eqTrain_same _ _ _ _ _ _ rows _ HRN.out HRL.out (OX2_10.out.rows.ext (by (repeat' (first | (with_reducible exact Ext.refl _) | (with_reducible assumption) | (with_reducible refine Ext.alloc ?_ _) | (with_reducible refine Ext.drewN ?_ _) | (with_reducible refine Ext.drew ?_) | (with_reducible refine Ext.setCell ?_ ?_ _) | (with_reducible exact Nat.le_refl _) | (with_reducible exact Nat.le_succ _) | (with_reducible refine Ext.trans ?_ (by assumption)) | (simp; done) | (simp; omega))))) ho.rows).mono ?_; rintro e w' ⟨rfl, hb'⟩))
  obtain ⟨w11, hwe⟩ : ∃ x, x = w' := ⟨_, rfl⟩
  subst hwe
  have hxx : Ext w10 w11 := by (repeat' (first | (with_reducible exact Ext.refl _) | (with_reducible assumption) | (with_reducible refine Ext.alloc ?_ _) | (with_reducible refine Ext.drewN ?_ _) | (with_reducible refine Ext.drew ?_) | (with_reducible refine Ext.setCell ?_ ?_ _) | (with_reducible exact Nat.le_refl _) | (with_reducible exact Nat.le_succ _) | (with_reducible refine Ext.trans ?_ (by assumption)) | (simp; done) | (simp; omega)))
  clear ho hb hb' hS
  clear cX20 cX21 cBX20 cBX21
  have HW11 := Lib.hid (HW10.out.trans hxx)
  have BX0_11 := Lib.hid (BX0_10.out.ext hxx)
  have BX1_11 := Lib.hid (BX1_10.out.ext hxx)
  have BX2_11 := Lib.hid (BX2_10.out.ext hxx)
  have X0_11 := Lib.hid (X0_10.out.ext hxx)
  have X1_11 := Lib.hid (X1_10.out.ext hxx)
  have X2_11 := Lib.hid (X2_10.out.ext hxx)
  have OX0_11 := Lib.hid (OX0_10.out.ext hxx)
  have OX1_11 := Lib.hid (OX1_10.out.ext hxx)
  have OX2_11 := Lib.hid (OX2_10.out.ext hxx)
  have zz11 := hxx.size
  clear HW10 BX0_10 BX1_10 BX2_10 X0_10 X1_10 X2_10 OX0_10 OX1_10 OX2_10 hxx
  have hx := HW11.out
  go_wp2
  go_ret
  exact ⟨rfl, hx⟩

theorem own : ownKnob Try.prog.godebug = none := by kernel_rfl
theorem laidOut : laidOutB Try.prog = true := Head.laidOut

set_option maxRecDepth 100000 in
theorem contract (H : Type) (enc : TypeId × Value → H) (W : World) (base : Nat) (args : Array Value) (ds gs : List (DataW H)) (before : List MemPlace)
    (hval : ∀ (j : Nat) t v, Try.f11.params[j]? = some t → args[j]? = some v → Value.okWide Try.prog W .any base t v)
    (hW : DataW.Whole enc Try.prog Try.f11.params.toList Rows.fnExactMayEnterSpec.vars false W args.toList ds gs before) :
    Calls Try.prog 11 args W fun e W' => ∃ v, e = .returned v ∧ Rows.fnExactMayEnterSpec.post enc Try.prog Try.f11 false true false false W args v W' := by
  have hW' := hW
  obtain ⟨p, q, hA0, hV, rfl, hfz, hnd⟩ := hW
  have hA : DataW.TrodAll enc Try.prog W 0 (fun _ => true) true Try.f11.params.toList args.toList ds p := hA0
  rw [Try.params11] at hA hval
  obtain ⟨v0, vs0, d0, ds0, p0, q0, hargs, rfl, rfl, h0, r0⟩ := trodAll_cons hA
  obtain ⟨v1, vs1, d1, ds1, p1, q1, rfl, rfl, rfl, h1, r1⟩ := trodAll_cons r0
  obtain ⟨v2, vs2, d2, ds2, p2, q2, rfl, rfl, rfl, h2, r2⟩ := trodAll_cons r1
  obtain ⟨rfl, rfl, rfl⟩ := trodAll_nil r2
  obtain rfl : args = #[v0, v1, v2] := by cases args; simp_all
  obtain ⟨rfl, rfl⟩ := trodVars_none hV
  have hv0 := hval 0 59 v0 rfl rfl
  have hv1 := hval 1 62 v1 rfl rfl
  have hv2 := hval 2 65 v2 rfl rfl
  clear hA0 hA
  obtain ⟨x0, x1, x2, x3, x4, x5, x6, x7, x8, ts, a, c, rfl, hmax, hts, wi0, wi1⟩ := open_lock hv0 h0
  obtain ⟨ps, vol, xs, ta, pa, tc, pc, rfl, htl, hpl, hft, hfp, hvol, _, _⟩ := open_reach hv1 h1
  obtain ⟨u, rows, ra, rc, rfl, hrs, hfr⟩ := open_train hv2 h2
  refine (walk x0 x1 x2 x3 x4 x5 x6 x7 x8 a _ c ts ta pa _ tc _ pc vol ps xs u ra _ rc rows W rfl hmax hts wi0 wi1 rfl htl rfl hpl hft hfp hvol rfl hrs hfr).mono fun e W' ⟨he, hb⟩ => ?_
  subst he
  exact ⟨_, rfl, law_post laidOut rfl (by kernel_rfl) rfl Try.underlying4 hW' rfl rfl rfl hb.below⟩

set_option maxRecDepth 100000 in
theorem lifted (os : Os) (started : os.Started) (H : Type) (enc : TypeId × Value → H) :
    ReturnsInHanded {} Try.checked os 11 .any (Rows.fnExactMayEnterSpec.pre6 enc Try.prog Try.f11 Rows.fnExactMayEnterRow.domain false) (Rows.fnExactMayEnterSpec.post enc Try.prog Try.f11 false true false false) := by
  refine returnsInHanded_of_change (C := Try.checked) own started (by kernel_rfl) Try.func11
    (ChangeSpec.witness6 (enc := enc) (C := Try.checked) false ⟨#[], #[.agg #[.int .i64 0, .int .i64 0, .int .i64 0, .int .i64 0, .int .i64 0, .int .i64 0, .int .i64 0, .int .i64 0, .int .i64 0, .slice none 0 0], .agg #[.slice none 0 0, .int .i64 0, .slice none 0 0], .agg #[.bool false, .slice none 0 0]], []⟩ 8 (by kernel_rfl) (by kernel_rfl) (by kernel_rfl) (by kernel_rfl)) ?_
  intro W base args ds gs before hval hW _ _
  exact contract H enc W base args ds gs before hval hW

theorem closed : joinedFacts Try.prog 11 Try.f11 Rows.fnExactMayEnterSpec Rows.fnExactMayEnterRow = true := by
  unfold joinedFacts
  rw [Head.laidOut, Head.mapsRowed, Head.stopsHeard, Head.mayEnter, Head.liftsFinal, Head.make, Head.plainKeys]
  kernel_rfl
theorem proved : Rows.FnExactMayEnterSaid :=
  OpenClaim.holds_of_wide 11 Try.f11 rfl rfl rfl rfl rfl rfl rfl ⟨rfl, rfl, rfl, rfl, rfl⟩ rfl rfl rfl rfl rfl (by kernel_rfl) Try.func11 closed
    (of_decide_eq_true (by kernel_rfl)) (by unfold Func.isWrapper; first | (rw [if_pos (by decide +kernel)]; kernel_rfl) | (rw [if_neg (by decide +kernel)]; exact ⟨rfl, rfl⟩))
    (fun os started H enc _ => lifted os started H enc)
end Go.Proofs.Ytphhjfcmglhlfaa.lawMayEnter
