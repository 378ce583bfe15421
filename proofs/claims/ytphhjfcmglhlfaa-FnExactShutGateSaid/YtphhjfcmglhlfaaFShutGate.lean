/- For every lock, the program and the reference agree on the lock that ShutGate returns, and it shares no memory with others. -/
import Derived.Test.YtphhjfcmglhlfaaRows
import Derived.Test.YtphhjfcmglhlfaaHead
import Derived.Test.YtphhjfcmglhlfaaShut
import Derived.Test.YtphhjfcmglhlfaaOwnR
import Derived.Test.YtphhjfcmglhlfaaMarkT
import Derived.Test.YtphhjfcmglhlfaaOpenL
import Derived.Deep.RegionHeld3
namespace Go.Proofs.Ytphhjfcmglhlfaa.lawShutGate
open Go.ChangeShapes Go.WideShapes Go.ChangeAt Go.RowKit Go.Joins
set_option linter.unusedVariables false
set_option linter.unusedSimpArgs false

set_option maxRecDepth 100000 in
set_option maxHeartbeats 2000000 in
theorem walk (x0 x1 x2 x3 x4 x5 x6 x7 x8 : Int) (a : Option Addr) (n c : Nat) (ts : List Tn) (w : World) (hn : n = ts.length) (hs : n ≤ maxLen) (hf : TrainsAt w a ts) (hi0 : I64 x0) (hi1 : I64 x1) :
    Calls Try.prog 13 #[.agg #[.int .i64 x0, .int .i64 x1, .int .i64 x2, .int .i64 x3, .int .i64 x4, .int .i64 x5, .int .i64 x6, .int .i64 x7, .int .i64 x8, .slice a n c]] w fun e w' => e = .returned (.bool true) ∧ Ext w w' := by
  have HF := Lib.hid hf; clear hf
  have HI0 := Lib.hid hi0; clear hi0
  have HI1 := Lib.hid hi1; clear hi1
  have HN := Lib.hid hn
  have HS := Lib.hid hs
  obtain ⟨z0, hzz0⟩ : ∃ z, szTrains 1048576 ts = z := ⟨_, rfl⟩
  have HZ0 := Lib.hid hzz0
  have HN0 := HN
  by_cases hneg0 : z0 < 0
  · have d0 : decide (z0 < 0) = true := by simpa using hneg0
    clear hzz0 hn
    have BA0 := Lib.hid (show RowAt (w.alloc (.cells #[.int .i64 x0, .int .i64 x1, .int .i64 x2, .int .i64 x3, .int .i64 x4, .int .i64 x5, .int .i64 x6, .int .i64 x7, .int .i64 x8, .slice a n c] 59)) (w.heap.size) 59 #[.int .i64 x0, .int .i64 x1, .int .i64 x2, .int .i64 x3, .int .i64 x4, .int .i64 x5, .int .i64 x6, .int .i64 x7, .int .i64 x8, .slice a n c] from by
      have h := (RowAt.new w 59 #[.int .i64 x0, .int .i64 x1, .int .i64 x2, .int .i64 x3, .int .i64 x4, .int .i64 x5, .int .i64 x6, .int .i64 x7, .int .i64 x8, .slice a n c]).ext (Ext.refl _)
      exact h)
    have HE0 := Lib.hid (show Ext w (w.alloc (.cells #[.int .i64 x0, .int .i64 x1, .int .i64 x2, .int .i64 x3, .int .i64 x4, .int .i64 x5, .int .i64 x6, .int .i64 x7, .int .i64 x8, .slice a n c] 59)) from ((Ext.refl w).alloc _))
    go_enter Try.func13, Try.ntmps13
    go_wp2_with fail
    with_reducible refine (szLock_any z0 _ _ _ _ _ _ _ _ _ _ _ _ ts _ HN.out HS.out (by decide) (by decide) _ (HF.out.ext (HE0.out)) HZ0.out).mono ?_
    rintro e s0 ⟨rfl, hb⟩
    have XS0 := Lib.hid (show Ext (w.alloc (.cells #[.int .i64 x0, .int .i64 x1, .int .i64 x2, .int .i64 x3, .int .i64 x4, .int .i64 x5, .int .i64 x6, .int .i64 x7, .int .i64 x8, .slice a n c] 59)) s0 from hb)
    clear hb
    go_wp2
    go_ret
    exact ⟨rfl, HE0.out.trans XS0.out⟩
  obtain ⟨hs2, hts, hy0'⟩ := szTrains_bounds (l := 1048576) (by decide) (by decide) (by rw [hzz0]; exact hneg0)
  rw [← hn] at hs2
  rw [hzz0] at hy0'
  have HTS := Lib.hid hts
  have hTb := szTrains_mlen (l := 1048576) (by decide) (by decide) (by rw [hzz0]; exact hneg0)
  have hz0 : 0 ≤ z0 := by omega
  have hy0 : z0 ≤ 1048576 := by omega
  have d0 : decide (z0 < 0) = false := by simpa using hneg0
  clear hzz0 hn
  have BA0 := Lib.hid (show RowAt (w.alloc (.cells #[.int .i64 x0, .int .i64 x1, .int .i64 x2, .int .i64 x3, .int .i64 x4, .int .i64 x5, .int .i64 x6, .int .i64 x7, .int .i64 x8, .slice a n c] 59)) (w.heap.size) 59 #[.int .i64 x0, .int .i64 x1, .int .i64 x2, .int .i64 x3, .int .i64 x4, .int .i64 x5, .int .i64 x6, .int .i64 x7, .int .i64 x8, .slice a n c] from by
    have h := (RowAt.new w 59 #[.int .i64 x0, .int .i64 x1, .int .i64 x2, .int .i64 x3, .int .i64 x4, .int .i64 x5, .int .i64 x6, .int .i64 x7, .int .i64 x8, .slice a n c]).ext (Ext.refl _)
    exact h)
  have HE0 := Lib.hid (show Ext w (w.alloc (.cells #[.int .i64 x0, .int .i64 x1, .int .i64 x2, .int .i64 x3, .int .i64 x4, .int .i64 x5, .int .i64 x6, .int .i64 x7, .int .i64 x8, .slice a n c] 59)) from ((Ext.refl w).alloc _))
  obtain ⟨g, hRes⟩ : ∃ g, (if lockOk x0 x1 x2 x3 x4 x5 x6 x7 x8 ts then 0 else x8) = g := ⟨_, rfl⟩
  have HRES := Lib.hid hRes; clear hRes
  obtain ⟨T0, hT0⟩ : ∃ T, mLen ts = T := ⟨_, rfl⟩
  have hT0b : T0 ≤ 1073741824 := by rw [← hT0]; exact hTb
  have HT0 := Lib.hid hT0; clear hT0
  have hd1 : decide (1 + (T0 : Int) < 0) = false := by simp; omega
  go_enter Try.func13, Try.ntmps13
  go_wp2_with fail
  with_reducible refine (szLock_any z0 _ _ _ _ _ _ _ _ _ _ _ _ ts _ HN.out HS.out (by decide) (by decide) _ (HF.out.ext (HE0.out)) HZ0.out).mono ?_
  rintro e s0 ⟨rfl, hb⟩
  have XS0 := Lib.hid (show Ext (w.alloc (.cells #[.int .i64 x0, .int .i64 x1, .int .i64 x2, .int .i64 x3, .int .i64 x4, .int .i64 x5, .int .i64 x6, .int .i64 x7, .int .i64 x8, .slice a n c] 59)) s0 from hb)
  clear hb
  have HW0 := Lib.hid (HE0.out.trans XS0.out)
  have zz0 := XS0.out.size
  simp only [World.size_alloc] at zz0
  have BX0_0 := Lib.hid (BA0.out.ext XS0.out)
  clear XS0
  have cBX00 : s0.cell? ⟨w.heap.size, 0, none⟩ = some (.int .i64 x0) := BX0_0.out.cell rfl
  have cBX01 : s0.cell? ⟨w.heap.size, 1, none⟩ = some (.int .i64 x1) := BX0_0.out.cell rfl
  have cBX02 : s0.cell? ⟨w.heap.size, 2, none⟩ = some (.int .i64 x2) := BX0_0.out.cell rfl
  have cBX03 : s0.cell? ⟨w.heap.size, 3, none⟩ = some (.int .i64 x3) := BX0_0.out.cell rfl
  have cBX04 : s0.cell? ⟨w.heap.size, 4, none⟩ = some (.int .i64 x4) := BX0_0.out.cell rfl
  have cBX05 : s0.cell? ⟨w.heap.size, 5, none⟩ = some (.int .i64 x5) := BX0_0.out.cell rfl
  have cBX06 : s0.cell? ⟨w.heap.size, 6, none⟩ = some (.int .i64 x6) := BX0_0.out.cell rfl
  have cBX07 : s0.cell? ⟨w.heap.size, 7, none⟩ = some (.int .i64 x7) := BX0_0.out.cell rfl
  have cBX08 : s0.cell? ⟨w.heap.size, 8, none⟩ = some (.int .i64 x8) := BX0_0.out.cell rfl
  have cBX09 : s0.cell? ⟨w.heap.size, 9, none⟩ = some (.slice a n c) := BX0_0.out.cell rfl
  go_wp2_with fail
  with_reducible refine (toLock_any _ _ _ _ _ _ _ _ _ _ _ _ ts _ HN.out hs2 HTS.out (HF.out.ext HW0.out)).mono ?_
  rintro e w1 ⟨aS0, rfl, ho, hb⟩
  clear cBX00 cBX01 cBX02 cBX03 cBX04 cBX05 cBX06 cBX07 cBX08 cBX09
  have hown := Lib.hid ho.trains; clear ho
  have HW1 := Lib.hid (HW0.out.trans hb)
  have BX0_1 := Lib.hid (BX0_0.out.ext hb)
  have zz1 := hb.size
  clear HW0 BX0_0 hb
  go_wp2_with fail
  with_reducible refine (specShut_any g _ _ _ _ _ _ _ _ _ _ _ _ ts _ HN.out hs2 HTS.out hown.out HRES.out).mono ?_
  rintro e w2 ⟨pP, pc, rfl, ho, hb⟩
  have hop := Lib.hid ho; clear ho hown
  have HW2 := Lib.hid (HW1.out.trans hb)
  have BX0_2 := Lib.hid (BX0_1.out.ext hb)
  have zz2 := hb.size
  clear HW1 BX0_1 hb
  have OP_2 := hop; clear hop
  obtain ⟨bP0, hbP0⟩ : ∃ x, x = w2.heap.size := ⟨_, rfl⟩
  obtain ⟨w3, hw3⟩ : ∃ x, x = w2.alloc (.cells #[.int .i64 x0, .int .i64 x1, .int .i64 x2, .int .i64 x3, .int .i64 x4, .int .i64 x5, .int .i64 x6, .int .i64 x7, .int .i64 g, .slice pP n pc] 26) := ⟨_, rfl⟩
  have hal := (Ext.refl w2).alloc (.cells #[.int .i64 x0, .int .i64 x1, .int .i64 x2, .int .i64 x3, .int .i64 x4, .int .i64 x5, .int .i64 x6, .int .i64 x7, .int .i64 g, .slice pP n pc] 26)
  have P0q := Lib.hid (RowAt.new w2 26 #[.int .i64 x0, .int .i64 x1, .int .i64 x2, .int .i64 x3, .int .i64 x4, .int .i64 x5, .int .i64 x6, .int .i64 x7, .int .i64 g, .slice pP n pc])
  rw [← hw3] at hal P0q
  rw [← hbP0] at P0q
  have lP0 := P0q.out.lt
  have mP0 : w2.heap.size ≤ bP0 := Nat.le_of_eq hbP0.symm
  have nP0 : bP0 ≤ w2.heap.size := Nat.le_of_eq hbP0
  have e0 : (w2.alloc (.cells #[.int .i64 x0, .int .i64 x1, .int .i64 x2, .int .i64 x3, .int .i64 x4, .int .i64 x5, .int .i64 x6, .int .i64 x7, .int .i64 g, .slice pP n pc] 26)).cell? ⟨w.heap.size, 0, none⟩ = some (.int .i64 x0) := (BX0_2.out.ext ((Ext.refl _).alloc _)).cell rfl
  have e1 : (w2.alloc (.cells #[.int .i64 x0, .int .i64 x1, .int .i64 x2, .int .i64 x3, .int .i64 x4, .int .i64 x5, .int .i64 x6, .int .i64 x7, .int .i64 g, .slice pP n pc] 26)).cell? ⟨w.heap.size, 1, none⟩ = some (.int .i64 x1) := (BX0_2.out.ext ((Ext.refl _).alloc _)).cell rfl
  have e2 : (w2.alloc (.cells #[.int .i64 x0, .int .i64 x1, .int .i64 x2, .int .i64 x3, .int .i64 x4, .int .i64 x5, .int .i64 x6, .int .i64 x7, .int .i64 g, .slice pP n pc] 26)).cell? ⟨w.heap.size, 2, none⟩ = some (.int .i64 x2) := (BX0_2.out.ext ((Ext.refl _).alloc _)).cell rfl
  have e3 : (w2.alloc (.cells #[.int .i64 x0, .int .i64 x1, .int .i64 x2, .int .i64 x3, .int .i64 x4, .int .i64 x5, .int .i64 x6, .int .i64 x7, .int .i64 g, .slice pP n pc] 26)).cell? ⟨w.heap.size, 3, none⟩ = some (.int .i64 x3) := (BX0_2.out.ext ((Ext.refl _).alloc _)).cell rfl
  have e4 : (w2.alloc (.cells #[.int .i64 x0, .int .i64 x1, .int .i64 x2, .int .i64 x3, .int .i64 x4, .int .i64 x5, .int .i64 x6, .int .i64 x7, .int .i64 g, .slice pP n pc] 26)).cell? ⟨w.heap.size, 4, none⟩ = some (.int .i64 x4) := (BX0_2.out.ext ((Ext.refl _).alloc _)).cell rfl
  have e5 : (w2.alloc (.cells #[.int .i64 x0, .int .i64 x1, .int .i64 x2, .int .i64 x3, .int .i64 x4, .int .i64 x5, .int .i64 x6, .int .i64 x7, .int .i64 g, .slice pP n pc] 26)).cell? ⟨w.heap.size, 5, none⟩ = some (.int .i64 x5) := (BX0_2.out.ext ((Ext.refl _).alloc _)).cell rfl
  have e6 : (w2.alloc (.cells #[.int .i64 x0, .int .i64 x1, .int .i64 x2, .int .i64 x3, .int .i64 x4, .int .i64 x5, .int .i64 x6, .int .i64 x7, .int .i64 g, .slice pP n pc] 26)).cell? ⟨w.heap.size, 6, none⟩ = some (.int .i64 x6) := (BX0_2.out.ext ((Ext.refl _).alloc _)).cell rfl
  have e7 : (w2.alloc (.cells #[.int .i64 x0, .int .i64 x1, .int .i64 x2, .int .i64 x3, .int .i64 x4, .int .i64 x5, .int .i64 x6, .int .i64 x7, .int .i64 g, .slice pP n pc] 26)).cell? ⟨w.heap.size, 7, none⟩ = some (.int .i64 x7) := (BX0_2.out.ext ((Ext.refl _).alloc _)).cell rfl
  have e8 : (w2.alloc (.cells #[.int .i64 x0, .int .i64 x1, .int .i64 x2, .int .i64 x3, .int .i64 x4, .int .i64 x5, .int .i64 x6, .int .i64 x7, .int .i64 g, .slice pP n pc] 26)).cell? ⟨w.heap.size, 8, none⟩ = some (.int .i64 x8) := (BX0_2.out.ext ((Ext.refl _).alloc _)).cell rfl
  have e9 : (w2.alloc (.cells #[.int .i64 x0, .int .i64 x1, .int .i64 x2, .int .i64 x3, .int .i64 x4, .int .i64 x5, .int .i64 x6, .int .i64 x7, .int .i64 g, .slice pP n pc] 26)).cell? ⟨w.heap.size, 9, none⟩ = some (.slice a n c) := (BX0_2.out.ext ((Ext.refl _).alloc _)).cell rfl
  go_wp2_with fail
  clear e0 e1 e2 e3 e4 e5 e6 e7 e8 e9
  (try rw [← hw3])
  (try rw [← hbP0])
  clear hw3 hbP0
  have HW3 := Lib.hid (HW2.out.trans hal)
  have BX0_3 := Lib.hid (BX0_2.out.ext hal)
  have OP_3 := Lib.hid (OP_2.out.ext hal)
  have zz3 := hal.size
  clear HW2 BX0_2 OP_2 hal
  have P0_3 := P0q; clear P0q
  with_reducible refine (toLock_any _ _ _ _ _ _ _ _ _ _ _ _ ts _ HN.out hs2 HTS.out (HF.out.ext HW3.out)).mono ?_
  rintro e w4 ⟨aX0, rfl, ho, hb⟩
  have hown := Lib.hid ho; clear ho
  have HW4 := Lib.hid (HW3.out.trans hb)
  have BX0_4 := Lib.hid (BX0_3.out.ext hb)
  have P0_4 := Lib.hid (P0_3.out.ext hb)
  have OP_4 := Lib.hid (OP_3.out.ext hb)
  have zz4 := hb.size
  clear HW3 BX0_3 P0_3 OP_3 hb
  have OX0_4 := hown; clear hown
  obtain ⟨bX0, hbX0⟩ : ∃ x, x = w4.heap.size := ⟨_, rfl⟩
  obtain ⟨w5, hw5⟩ : ∃ x, x = w4.alloc (.cells #[.int .i64 x0, .int .i64 x1, .int .i64 x2, .int .i64 x3, .int .i64 x4, .int .i64 x5, .int .i64 x6, .int .i64 x7, .int .i64 x8, .slice (some aX0) n n] 26) := ⟨_, rfl⟩
  have hal := (Ext.refl w4).alloc (.cells #[.int .i64 x0, .int .i64 x1, .int .i64 x2, .int .i64 x3, .int .i64 x4, .int .i64 x5, .int .i64 x6, .int .i64 x7, .int .i64 x8, .slice (some aX0) n n] 26)
  have X0q := Lib.hid (RowAt.new w4 26 #[.int .i64 x0, .int .i64 x1, .int .i64 x2, .int .i64 x3, .int .i64 x4, .int .i64 x5, .int .i64 x6, .int .i64 x7, .int .i64 x8, .slice (some aX0) n n])
  rw [← hw5] at hal X0q
  rw [← hbX0] at X0q
  have lX0 := X0q.out.lt
  have mX0 : w4.heap.size ≤ bX0 := Nat.le_of_eq hbX0.symm
  have nX0 : bX0 ≤ w4.heap.size := Nat.le_of_eq hbX0
  have e0 : (w4.alloc (.cells #[.int .i64 x0, .int .i64 x1, .int .i64 x2, .int .i64 x3, .int .i64 x4, .int .i64 x5, .int .i64 x6, .int .i64 x7, .int .i64 x8, .slice (some aX0) n n] 26)).cell? ⟨w4.heap.size, 0, none⟩ = some (.int .i64 x0) := (RowAt.new w4 26 #[.int .i64 x0, .int .i64 x1, .int .i64 x2, .int .i64 x3, .int .i64 x4, .int .i64 x5, .int .i64 x6, .int .i64 x7, .int .i64 x8, .slice (some aX0) n n]).cell rfl
  have e1 : (w4.alloc (.cells #[.int .i64 x0, .int .i64 x1, .int .i64 x2, .int .i64 x3, .int .i64 x4, .int .i64 x5, .int .i64 x6, .int .i64 x7, .int .i64 x8, .slice (some aX0) n n] 26)).cell? ⟨w4.heap.size, 1, none⟩ = some (.int .i64 x1) := (RowAt.new w4 26 #[.int .i64 x0, .int .i64 x1, .int .i64 x2, .int .i64 x3, .int .i64 x4, .int .i64 x5, .int .i64 x6, .int .i64 x7, .int .i64 x8, .slice (some aX0) n n]).cell rfl
  have e2 : (w4.alloc (.cells #[.int .i64 x0, .int .i64 x1, .int .i64 x2, .int .i64 x3, .int .i64 x4, .int .i64 x5, .int .i64 x6, .int .i64 x7, .int .i64 x8, .slice (some aX0) n n] 26)).cell? ⟨w4.heap.size, 2, none⟩ = some (.int .i64 x2) := (RowAt.new w4 26 #[.int .i64 x0, .int .i64 x1, .int .i64 x2, .int .i64 x3, .int .i64 x4, .int .i64 x5, .int .i64 x6, .int .i64 x7, .int .i64 x8, .slice (some aX0) n n]).cell rfl
  have e3 : (w4.alloc (.cells #[.int .i64 x0, .int .i64 x1, .int .i64 x2, .int .i64 x3, .int .i64 x4, .int .i64 x5, .int .i64 x6, .int .i64 x7, .int .i64 x8, .slice (some aX0) n n] 26)).cell? ⟨w4.heap.size, 3, none⟩ = some (.int .i64 x3) := (RowAt.new w4 26 #[.int .i64 x0, .int .i64 x1, .int .i64 x2, .int .i64 x3, .int .i64 x4, .int .i64 x5, .int .i64 x6, .int .i64 x7, .int .i64 x8, .slice (some aX0) n n]).cell rfl
  have e4 : (w4.alloc (.cells #[.int .i64 x0, .int .i64 x1, .int .i64 x2, .int .i64 x3, .int .i64 x4, .int .i64 x5, .int .i64 x6, .int .i64 x7, .int .i64 x8, .slice (some aX0) n n] 26)).cell? ⟨w4.heap.size, 4, none⟩ = some (.int .i64 x4) := (RowAt.new w4 26 #[.int .i64 x0, .int .i64 x1, .int .i64 x2, .int .i64 x3, .int .i64 x4, .int .i64 x5, .int .i64 x6, .int .i64 x7, .int .i64 x8, .slice (some aX0) n n]).cell rfl
  have e5 : (w4.alloc (.cells #[.int .i64 x0, .int .i64 x1, .int .i64 x2, .int .i64 x3, .int .i64 x4, .int .i64 x5, .int .i64 x6, .int .i64 x7, .int .i64 x8, .slice (some aX0) n n] 26)).cell? ⟨w4.heap.size, 5, none⟩ = some (.int .i64 x5) := (RowAt.new w4 26 #[.int .i64 x0, .int .i64 x1, .int .i64 x2, .int .i64 x3, .int .i64 x4, .int .i64 x5, .int .i64 x6, .int .i64 x7, .int .i64 x8, .slice (some aX0) n n]).cell rfl
  have e6 : (w4.alloc (.cells #[.int .i64 x0, .int .i64 x1, .int .i64 x2, .int .i64 x3, .int .i64 x4, .int .i64 x5, .int .i64 x6, .int .i64 x7, .int .i64 x8, .slice (some aX0) n n] 26)).cell? ⟨w4.heap.size, 6, none⟩ = some (.int .i64 x6) := (RowAt.new w4 26 #[.int .i64 x0, .int .i64 x1, .int .i64 x2, .int .i64 x3, .int .i64 x4, .int .i64 x5, .int .i64 x6, .int .i64 x7, .int .i64 x8, .slice (some aX0) n n]).cell rfl
  have e7 : (w4.alloc (.cells #[.int .i64 x0, .int .i64 x1, .int .i64 x2, .int .i64 x3, .int .i64 x4, .int .i64 x5, .int .i64 x6, .int .i64 x7, .int .i64 x8, .slice (some aX0) n n] 26)).cell? ⟨w4.heap.size, 7, none⟩ = some (.int .i64 x7) := (RowAt.new w4 26 #[.int .i64 x0, .int .i64 x1, .int .i64 x2, .int .i64 x3, .int .i64 x4, .int .i64 x5, .int .i64 x6, .int .i64 x7, .int .i64 x8, .slice (some aX0) n n]).cell rfl
  have e8 : (w4.alloc (.cells #[.int .i64 x0, .int .i64 x1, .int .i64 x2, .int .i64 x3, .int .i64 x4, .int .i64 x5, .int .i64 x6, .int .i64 x7, .int .i64 x8, .slice (some aX0) n n] 26)).cell? ⟨w4.heap.size, 8, none⟩ = some (.int .i64 x8) := (RowAt.new w4 26 #[.int .i64 x0, .int .i64 x1, .int .i64 x2, .int .i64 x3, .int .i64 x4, .int .i64 x5, .int .i64 x6, .int .i64 x7, .int .i64 x8, .slice (some aX0) n n]).cell rfl
  have e9 : (w4.alloc (.cells #[.int .i64 x0, .int .i64 x1, .int .i64 x2, .int .i64 x3, .int .i64 x4, .int .i64 x5, .int .i64 x6, .int .i64 x7, .int .i64 x8, .slice (some aX0) n n] 26)).cell? ⟨w4.heap.size, 9, none⟩ = some (.slice (some aX0) n n) := (RowAt.new w4 26 #[.int .i64 x0, .int .i64 x1, .int .i64 x2, .int .i64 x3, .int .i64 x4, .int .i64 x5, .int .i64 x6, .int .i64 x7, .int .i64 x8, .slice (some aX0) n n]).cell rfl
  go_wp2_with fail
  clear e0 e1 e2 e3 e4 e5 e6 e7 e8 e9
  (try rw [← hw5])
  (try rw [← hbX0])
  clear hw5 hbX0
  have HW5 := Lib.hid (HW4.out.trans hal)
  have BX0_5 := Lib.hid (BX0_4.out.ext hal)
  have P0_5 := Lib.hid (P0_4.out.ext hal)
  have OP_5 := Lib.hid (OP_4.out.ext hal)
  have OX0_5 := Lib.hid (OX0_4.out.ext hal)
  have zz5 := hal.size
  clear HW4 BX0_4 P0_4 OP_4 OX0_4 hal
  have X0_5 := X0q; clear X0q
  with_reducible refine (implShut_any g _ _ _ _ _ _ _ _ _ _ _ _ ts _ HN.out hs2 HTS.out OX0_5.out.trains HRES.out).mono ?_
  rintro e w6 ⟨pG, gc, rfl, ho, hb⟩
  have hop := Lib.hid ho; clear ho
  have HW6 := Lib.hid (HW5.out.trans hb)
  have BX0_6 := Lib.hid (BX0_5.out.ext hb)
  have P0_6 := Lib.hid (P0_5.out.ext hb)
  have X0_6 := Lib.hid (X0_5.out.ext hb)
  have OP_6 := Lib.hid (OP_5.out.ext hb)
  have OX0_6 := Lib.hid (OX0_5.out.ext hb)
  have zz6 := hb.size
  clear HW5 BX0_5 P0_5 X0_5 OP_5 OX0_5 hb
  have OG_6 := hop; clear hop
  obtain ⟨bG0, hbG0⟩ : ∃ x, x = w6.heap.size := ⟨_, rfl⟩
  obtain ⟨w7, hw7⟩ : ∃ x, x = w6.alloc (.cells #[.int .i64 x0, .int .i64 x1, .int .i64 x2, .int .i64 x3, .int .i64 x4, .int .i64 x5, .int .i64 x6, .int .i64 x7, .int .i64 g, .slice pG n gc] 26) := ⟨_, rfl⟩
  have hal := (Ext.refl w6).alloc (.cells #[.int .i64 x0, .int .i64 x1, .int .i64 x2, .int .i64 x3, .int .i64 x4, .int .i64 x5, .int .i64 x6, .int .i64 x7, .int .i64 g, .slice pG n gc] 26)
  have G0q := Lib.hid (RowAt.new w6 26 #[.int .i64 x0, .int .i64 x1, .int .i64 x2, .int .i64 x3, .int .i64 x4, .int .i64 x5, .int .i64 x6, .int .i64 x7, .int .i64 g, .slice pG n gc])
  rw [← hw7] at hal G0q
  rw [← hbG0] at G0q
  have lG0 := G0q.out.lt
  have mG0 : w6.heap.size ≤ bG0 := Nat.le_of_eq hbG0.symm
  have nG0 : bG0 ≤ w6.heap.size := Nat.le_of_eq hbG0
  have e0 : (w6.alloc (.cells #[.int .i64 x0, .int .i64 x1, .int .i64 x2, .int .i64 x3, .int .i64 x4, .int .i64 x5, .int .i64 x6, .int .i64 x7, .int .i64 g, .slice pG n gc] 26)).cell? ⟨w6.heap.size, 0, none⟩ = some (.int .i64 x0) := (RowAt.new w6 26 #[.int .i64 x0, .int .i64 x1, .int .i64 x2, .int .i64 x3, .int .i64 x4, .int .i64 x5, .int .i64 x6, .int .i64 x7, .int .i64 g, .slice pG n gc]).cell rfl
  have e1 : (w6.alloc (.cells #[.int .i64 x0, .int .i64 x1, .int .i64 x2, .int .i64 x3, .int .i64 x4, .int .i64 x5, .int .i64 x6, .int .i64 x7, .int .i64 g, .slice pG n gc] 26)).cell? ⟨w6.heap.size, 1, none⟩ = some (.int .i64 x1) := (RowAt.new w6 26 #[.int .i64 x0, .int .i64 x1, .int .i64 x2, .int .i64 x3, .int .i64 x4, .int .i64 x5, .int .i64 x6, .int .i64 x7, .int .i64 g, .slice pG n gc]).cell rfl
  have e2 : (w6.alloc (.cells #[.int .i64 x0, .int .i64 x1, .int .i64 x2, .int .i64 x3, .int .i64 x4, .int .i64 x5, .int .i64 x6, .int .i64 x7, .int .i64 g, .slice pG n gc] 26)).cell? ⟨w6.heap.size, 2, none⟩ = some (.int .i64 x2) := (RowAt.new w6 26 #[.int .i64 x0, .int .i64 x1, .int .i64 x2, .int .i64 x3, .int .i64 x4, .int .i64 x5, .int .i64 x6, .int .i64 x7, .int .i64 g, .slice pG n gc]).cell rfl
  have e3 : (w6.alloc (.cells #[.int .i64 x0, .int .i64 x1, .int .i64 x2, .int .i64 x3, .int .i64 x4, .int .i64 x5, .int .i64 x6, .int .i64 x7, .int .i64 g, .slice pG n gc] 26)).cell? ⟨w6.heap.size, 3, none⟩ = some (.int .i64 x3) := (RowAt.new w6 26 #[.int .i64 x0, .int .i64 x1, .int .i64 x2, .int .i64 x3, .int .i64 x4, .int .i64 x5, .int .i64 x6, .int .i64 x7, .int .i64 g, .slice pG n gc]).cell rfl
  have e4 : (w6.alloc (.cells #[.int .i64 x0, .int .i64 x1, .int .i64 x2, .int .i64 x3, .int .i64 x4, .int .i64 x5, .int .i64 x6, .int .i64 x7, .int .i64 g, .slice pG n gc] 26)).cell? ⟨w6.heap.size, 4, none⟩ = some (.int .i64 x4) := (RowAt.new w6 26 #[.int .i64 x0, .int .i64 x1, .int .i64 x2, .int .i64 x3, .int .i64 x4, .int .i64 x5, .int .i64 x6, .int .i64 x7, .int .i64 g, .slice pG n gc]).cell rfl
  have e5 : (w6.alloc (.cells #[.int .i64 x0, .int .i64 x1, .int .i64 x2, .int .i64 x3, .int .i64 x4, .int .i64 x5, .int .i64 x6, .int .i64 x7, .int .i64 g, .slice pG n gc] 26)).cell? ⟨w6.heap.size, 5, none⟩ = some (.int .i64 x5) := (RowAt.new w6 26 #[.int .i64 x0, .int .i64 x1, .int .i64 x2, .int .i64 x3, .int .i64 x4, .int .i64 x5, .int .i64 x6, .int .i64 x7, .int .i64 g, .slice pG n gc]).cell rfl
  have e6 : (w6.alloc (.cells #[.int .i64 x0, .int .i64 x1, .int .i64 x2, .int .i64 x3, .int .i64 x4, .int .i64 x5, .int .i64 x6, .int .i64 x7, .int .i64 g, .slice pG n gc] 26)).cell? ⟨w6.heap.size, 6, none⟩ = some (.int .i64 x6) := (RowAt.new w6 26 #[.int .i64 x0, .int .i64 x1, .int .i64 x2, .int .i64 x3, .int .i64 x4, .int .i64 x5, .int .i64 x6, .int .i64 x7, .int .i64 g, .slice pG n gc]).cell rfl
  have e7 : (w6.alloc (.cells #[.int .i64 x0, .int .i64 x1, .int .i64 x2, .int .i64 x3, .int .i64 x4, .int .i64 x5, .int .i64 x6, .int .i64 x7, .int .i64 g, .slice pG n gc] 26)).cell? ⟨w6.heap.size, 7, none⟩ = some (.int .i64 x7) := (RowAt.new w6 26 #[.int .i64 x0, .int .i64 x1, .int .i64 x2, .int .i64 x3, .int .i64 x4, .int .i64 x5, .int .i64 x6, .int .i64 x7, .int .i64 g, .slice pG n gc]).cell rfl
  have e8 : (w6.alloc (.cells #[.int .i64 x0, .int .i64 x1, .int .i64 x2, .int .i64 x3, .int .i64 x4, .int .i64 x5, .int .i64 x6, .int .i64 x7, .int .i64 g, .slice pG n gc] 26)).cell? ⟨w6.heap.size, 8, none⟩ = some (.int .i64 g) := (RowAt.new w6 26 #[.int .i64 x0, .int .i64 x1, .int .i64 x2, .int .i64 x3, .int .i64 x4, .int .i64 x5, .int .i64 x6, .int .i64 x7, .int .i64 g, .slice pG n gc]).cell rfl
  have e9 : (w6.alloc (.cells #[.int .i64 x0, .int .i64 x1, .int .i64 x2, .int .i64 x3, .int .i64 x4, .int .i64 x5, .int .i64 x6, .int .i64 x7, .int .i64 g, .slice pG n gc] 26)).cell? ⟨w6.heap.size, 9, none⟩ = some (.slice pG n gc) := (RowAt.new w6 26 #[.int .i64 x0, .int .i64 x1, .int .i64 x2, .int .i64 x3, .int .i64 x4, .int .i64 x5, .int .i64 x6, .int .i64 x7, .int .i64 g, .slice pG n gc]).cell rfl
  have e10 : (w6.alloc (.cells #[.int .i64 x0, .int .i64 x1, .int .i64 x2, .int .i64 x3, .int .i64 x4, .int .i64 x5, .int .i64 x6, .int .i64 x7, .int .i64 g, .slice pG n gc] 26)).cell? ⟨bP0, 0, none⟩ = some (.int .i64 x0) := (P0_6.out.ext ((Ext.refl _).alloc _)).cell rfl
  have e11 : (w6.alloc (.cells #[.int .i64 x0, .int .i64 x1, .int .i64 x2, .int .i64 x3, .int .i64 x4, .int .i64 x5, .int .i64 x6, .int .i64 x7, .int .i64 g, .slice pG n gc] 26)).cell? ⟨bP0, 1, none⟩ = some (.int .i64 x1) := (P0_6.out.ext ((Ext.refl _).alloc _)).cell rfl
  have e12 : (w6.alloc (.cells #[.int .i64 x0, .int .i64 x1, .int .i64 x2, .int .i64 x3, .int .i64 x4, .int .i64 x5, .int .i64 x6, .int .i64 x7, .int .i64 g, .slice pG n gc] 26)).cell? ⟨bP0, 2, none⟩ = some (.int .i64 x2) := (P0_6.out.ext ((Ext.refl _).alloc _)).cell rfl
  have e13 : (w6.alloc (.cells #[.int .i64 x0, .int .i64 x1, .int .i64 x2, .int .i64 x3, .int .i64 x4, .int .i64 x5, .int .i64 x6, .int .i64 x7, .int .i64 g, .slice pG n gc] 26)).cell? ⟨bP0, 3, none⟩ = some (.int .i64 x3) := (P0_6.out.ext ((Ext.refl _).alloc _)).cell rfl
  have e14 : (w6.alloc (.cells #[.int .i64 x0, .int .i64 x1, .int .i64 x2, .int .i64 x3, .int .i64 x4, .int .i64 x5, .int .i64 x6, .int .i64 x7, .int .i64 g, .slice pG n gc] 26)).cell? ⟨bP0, 4, none⟩ = some (.int .i64 x4) := (P0_6.out.ext ((Ext.refl _).alloc _)).cell rfl
  have e15 : (w6.alloc (.cells #[.int .i64 x0, .int .i64 x1, .int .i64 x2, .int .i64 x3, .int .i64 x4, .int .i64 x5, .int .i64 x6, .int .i64 x7, .int .i64 g, .slice pG n gc] 26)).cell? ⟨bP0, 5, none⟩ = some (.int .i64 x5) := (P0_6.out.ext ((Ext.refl _).alloc _)).cell rfl
  have e16 : (w6.alloc (.cells #[.int .i64 x0, .int .i64 x1, .int .i64 x2, .int .i64 x3, .int .i64 x4, .int .i64 x5, .int .i64 x6, .int .i64 x7, .int .i64 g, .slice pG n gc] 26)).cell? ⟨bP0, 6, none⟩ = some (.int .i64 x6) := (P0_6.out.ext ((Ext.refl _).alloc _)).cell rfl
  have e17 : (w6.alloc (.cells #[.int .i64 x0, .int .i64 x1, .int .i64 x2, .int .i64 x3, .int .i64 x4, .int .i64 x5, .int .i64 x6, .int .i64 x7, .int .i64 g, .slice pG n gc] 26)).cell? ⟨bP0, 7, none⟩ = some (.int .i64 x7) := (P0_6.out.ext ((Ext.refl _).alloc _)).cell rfl
  have e18 : (w6.alloc (.cells #[.int .i64 x0, .int .i64 x1, .int .i64 x2, .int .i64 x3, .int .i64 x4, .int .i64 x5, .int .i64 x6, .int .i64 x7, .int .i64 g, .slice pG n gc] 26)).cell? ⟨bP0, 8, none⟩ = some (.int .i64 g) := (P0_6.out.ext ((Ext.refl _).alloc _)).cell rfl
  have e19 : (w6.alloc (.cells #[.int .i64 x0, .int .i64 x1, .int .i64 x2, .int .i64 x3, .int .i64 x4, .int .i64 x5, .int .i64 x6, .int .i64 x7, .int .i64 g, .slice pG n gc] 26)).cell? ⟨bP0, 9, none⟩ = some (.slice pP n pc) := (P0_6.out.ext ((Ext.refl _).alloc _)).cell rfl
  go_wp2_with fail
  clear e0 e1 e2 e3 e4 e5 e6 e7 e8 e9 e10 e11 e12 e13 e14 e15 e16 e17 e18 e19
  (try rw [← hw7])
  (try rw [← hbG0])
  clear hw7 hbG0
  have HW7 := Lib.hid (HW6.out.trans hal)
  have BX0_7 := Lib.hid (BX0_6.out.ext hal)
  have P0_7 := Lib.hid (P0_6.out.ext hal)
  have X0_7 := Lib.hid (X0_6.out.ext hal)
  have OP_7 := Lib.hid (OP_6.out.ext hal)
  have OX0_7 := Lib.hid (OX0_6.out.ext hal)
  have OG_7 := Lib.hid (OG_6.out.ext hal)
  have zz7 := hal.size
  clear HW6 BX0_6 P0_6 X0_6 OP_6 OX0_6 OG_6 hal
  have G0_7 := G0q; clear G0q
  with_reducible refine (eqLock_same _ _ _ _ _ _ _ _ _ _ _ _ _ _ ts _ HN.out HS.out OG_7.out.trains OP_7.out.trains).mono ?_
  rintro e w8 ⟨rfl, hb⟩
  have HW8 := Lib.hid (HW7.out.trans hb)
  have BX0_8 := Lib.hid (BX0_7.out.ext hb)
  have P0_8 := Lib.hid (P0_7.out.ext hb)
  have X0_8 := Lib.hid (X0_7.out.ext hb)
  have G0_8 := Lib.hid (G0_7.out.ext hb)
  have OP_8 := Lib.hid (OP_7.out.ext hb)
  have OX0_8 := Lib.hid (OX0_7.out.ext hb)
  have OG_8 := Lib.hid (OG_7.out.ext hb)
  have zz8 := hb.size
  clear HW7 BX0_7 P0_7 X0_7 G0_7 OP_7 OX0_7 OG_7 hb
  have cX00 : w8.cell? ⟨bX0, 0, none⟩ = some (.int .i64 x0) := X0_8.out.cell rfl
  have cX01 : w8.cell? ⟨bX0, 1, none⟩ = some (.int .i64 x1) := X0_8.out.cell rfl
  have cX02 : w8.cell? ⟨bX0, 2, none⟩ = some (.int .i64 x2) := X0_8.out.cell rfl
  have cX03 : w8.cell? ⟨bX0, 3, none⟩ = some (.int .i64 x3) := X0_8.out.cell rfl
  have cX04 : w8.cell? ⟨bX0, 4, none⟩ = some (.int .i64 x4) := X0_8.out.cell rfl
  have cX05 : w8.cell? ⟨bX0, 5, none⟩ = some (.int .i64 x5) := X0_8.out.cell rfl
  have cX06 : w8.cell? ⟨bX0, 6, none⟩ = some (.int .i64 x6) := X0_8.out.cell rfl
  have cX07 : w8.cell? ⟨bX0, 7, none⟩ = some (.int .i64 x7) := X0_8.out.cell rfl
  have cX08 : w8.cell? ⟨bX0, 8, none⟩ = some (.int .i64 x8) := X0_8.out.cell rfl
  have cX09 : w8.cell? ⟨bX0, 9, none⟩ = some (.slice (some aX0) n n) := X0_8.out.cell rfl
  have cBX00 : w8.cell? ⟨w.heap.size, 0, none⟩ = some (.int .i64 x0) := BX0_8.out.cell rfl
  have cBX01 : w8.cell? ⟨w.heap.size, 1, none⟩ = some (.int .i64 x1) := BX0_8.out.cell rfl
  have cBX02 : w8.cell? ⟨w.heap.size, 2, none⟩ = some (.int .i64 x2) := BX0_8.out.cell rfl
  have cBX03 : w8.cell? ⟨w.heap.size, 3, none⟩ = some (.int .i64 x3) := BX0_8.out.cell rfl
  have cBX04 : w8.cell? ⟨w.heap.size, 4, none⟩ = some (.int .i64 x4) := BX0_8.out.cell rfl
  have cBX05 : w8.cell? ⟨w.heap.size, 5, none⟩ = some (.int .i64 x5) := BX0_8.out.cell rfl
  have cBX06 : w8.cell? ⟨w.heap.size, 6, none⟩ = some (.int .i64 x6) := BX0_8.out.cell rfl
  have cBX07 : w8.cell? ⟨w.heap.size, 7, none⟩ = some (.int .i64 x7) := BX0_8.out.cell rfl
  have cBX08 : w8.cell? ⟨w.heap.size, 8, none⟩ = some (.int .i64 x8) := BX0_8.out.cell rfl
  have cBX09 : w8.cell? ⟨w.heap.size, 9, none⟩ = some (.slice a n c) := BX0_8.out.cell rfl
  have hS := Ext.refl w8
  go_wp2_with fail
  go_region_held3 (fun w' => Ext w8 w' ∧ w'.cell? ⟨bX0, 0, none⟩ = some (.int .i64 x0) ∧ w'.cell? ⟨bX0, 1, none⟩ = some (.int .i64 x1) ∧ w'.cell? ⟨bX0, 2, none⟩ = some (.int .i64 x2) ∧ w'.cell? ⟨bX0, 3, none⟩ = some (.int .i64 x3) ∧ w'.cell? ⟨bX0, 4, none⟩ = some (.int .i64 x4) ∧ w'.cell? ⟨bX0, 5, none⟩ = some (.int .i64 x5) ∧ w'.cell? ⟨bX0, 6, none⟩ = some (.int .i64 x6) ∧ w'.cell? ⟨bX0, 7, none⟩ = some (.int .i64 x7) ∧ w'.cell? ⟨bX0, 8, none⟩ = some (.int .i64 x8) ∧ w'.cell? ⟨bX0, 9, none⟩ = some (.slice (some aX0) n n) ∧ w'.cell? ⟨w.heap.size, 0, none⟩ = some (.int .i64 x0) ∧ w'.cell? ⟨w.heap.size, 1, none⟩ = some (.int .i64 x1) ∧ w'.cell? ⟨w.heap.size, 2, none⟩ = some (.int .i64 x2) ∧ w'.cell? ⟨w.heap.size, 3, none⟩ = some (.int .i64 x3) ∧ w'.cell? ⟨w.heap.size, 4, none⟩ = some (.int .i64 x4) ∧ w'.cell? ⟨w.heap.size, 5, none⟩ = some (.int .i64 x5) ∧ w'.cell? ⟨w.heap.size, 6, none⟩ = some (.int .i64 x6) ∧ w'.cell? ⟨w.heap.size, 7, none⟩ = some (.int .i64 x7) ∧ w'.cell? ⟨w.heap.size, 8, none⟩ = some (.int .i64 x8) ∧ w'.cell? ⟨w.heap.size, 9, none⟩ = some (.slice a n c))
    ((repeat' (refine And.intro ?_ ?_)) <;> (first | (exact Ext.cell (w := w8) (by (repeat' (first | (with_reducible exact Ext.refl _) | (with_reducible assumption) | (with_reducible refine Ext.alloc ?_ _) | (with_reducible refine Ext.drewN ?_ _) | (with_reducible refine Ext.drew ?_) | (with_reducible refine Ext.setCell ?_ ?_ _) | (with_reducible exact Nat.le_refl _) | (with_reducible exact Nat.le_succ _) | (with_reducible refine Ext.trans ?_ (by assumption)) | (simp; done) | (simp; omega)))) (by (with_reducible assumption))) | ((repeat' (first | (with_reducible exact Ext.refl _) | (with_reducible assumption) | (with_reducible refine Ext.alloc ?_ _) | (with_reducible refine Ext.drewN ?_ _) | (with_reducible refine Ext.drew ?_) | (with_reducible refine Ext.setCell ?_ ?_ _) | (with_reducible exact Nat.le_refl _) | (with_reducible exact Nat.le_succ _) | (with_reducible refine Ext.trans ?_ (by assumption)) | (simp; done) | (simp; omega))); done)))
    (first
      | (go_at_call 40; with_reducible refine (toLock_any _ _ _ _ _ _ _ _ _ _ _ _ ts _ HN.out hs2 HTS.out (HF.out.ext (HW8.out.trans (by (repeat' (first | (with_reducible exact Ext.refl _) | (with_reducible assumption) | (with_reducible refine Ext.alloc ?_ _) | (with_reducible refine Ext.drewN ?_ _) | (with_reducible refine Ext.drew ?_) | (with_reducible refine Ext.setCell ?_ ?_ _) | (with_reducible exact Nat.le_refl _) | (with_reducible exact Nat.le_succ _) | (with_reducible refine Ext.trans ?_ (by assumption)) | (simp; done) | (simp; omega))))))).mono ?_; rintro e w' ⟨aE0, rfl, ho, hb⟩)
      | (go_at_call 43; with_reducible refine (eqLock_same _ _ _ _ _ _ _ _ _ _ _ _ _ _ ts _ HN.out HS.out (OX0_8.out.trains.ext (by (repeat' (first | (with_reducible exact Ext.refl _) | (with_reducible assumption) | (with_reducible refine Ext.alloc ?_ _) | (with_reducible refine Ext.drewN ?_ _) | (with_reducible refine Ext.drew ?_) | (with_reducible refine Ext.setCell ?_ ?_ _) | (with_reducible exact Nat.le_refl _) | (with_reducible exact Nat.le_succ _) | (with_reducible refine Ext.trans ?_ (by assumption)) | (simp; done) | (simp; omega))))) ho.trains).mono ?_; rintro e w' ⟨rfl, hb'⟩))
  obtain ⟨w9, hwe⟩ : ∃ x, x = w' := ⟨_, rfl⟩
  subst hwe
  have hxx : Ext w8 w9 := by (repeat' (first | (with_reducible exact Ext.refl _) | (with_reducible assumption) | (with_reducible refine Ext.alloc ?_ _) | (with_reducible refine Ext.drewN ?_ _) | (with_reducible refine Ext.drew ?_) | (with_reducible refine Ext.setCell ?_ ?_ _) | (with_reducible exact Nat.le_refl _) | (with_reducible exact Nat.le_succ _) | (with_reducible refine Ext.trans ?_ (by assumption)) | (simp; done) | (simp; omega)))
  clear ho hb hb' hS
  clear cX00 cX01 cX02 cX03 cX04 cX05 cX06 cX07 cX08 cX09 cBX00 cBX01 cBX02 cBX03 cBX04 cBX05 cBX06 cBX07 cBX08 cBX09
  have HW9 := Lib.hid (HW8.out.trans hxx)
  have BX0_9 := Lib.hid (BX0_8.out.ext hxx)
  have P0_9 := Lib.hid (P0_8.out.ext hxx)
  have X0_9 := Lib.hid (X0_8.out.ext hxx)
  have G0_9 := Lib.hid (G0_8.out.ext hxx)
  have OP_9 := Lib.hid (OP_8.out.ext hxx)
  have OX0_9 := Lib.hid (OX0_8.out.ext hxx)
  have OG_9 := Lib.hid (OG_8.out.ext hxx)
  have zz9 := hxx.size
  clear HW8 BX0_8 P0_8 X0_8 G0_8 OP_8 OX0_8 OG_8 hxx
  have cX00 : w9.cell? ⟨bX0, 0, none⟩ = some (.int .i64 x0) := X0_9.out.cell rfl
  have cX01 : w9.cell? ⟨bX0, 1, none⟩ = some (.int .i64 x1) := X0_9.out.cell rfl
  have cX02 : w9.cell? ⟨bX0, 2, none⟩ = some (.int .i64 x2) := X0_9.out.cell rfl
  have cX03 : w9.cell? ⟨bX0, 3, none⟩ = some (.int .i64 x3) := X0_9.out.cell rfl
  have cX04 : w9.cell? ⟨bX0, 4, none⟩ = some (.int .i64 x4) := X0_9.out.cell rfl
  have cX05 : w9.cell? ⟨bX0, 5, none⟩ = some (.int .i64 x5) := X0_9.out.cell rfl
  have cX06 : w9.cell? ⟨bX0, 6, none⟩ = some (.int .i64 x6) := X0_9.out.cell rfl
  have cX07 : w9.cell? ⟨bX0, 7, none⟩ = some (.int .i64 x7) := X0_9.out.cell rfl
  have cX08 : w9.cell? ⟨bX0, 8, none⟩ = some (.int .i64 x8) := X0_9.out.cell rfl
  have cX09 : w9.cell? ⟨bX0, 9, none⟩ = some (.slice (some aX0) n n) := X0_9.out.cell rfl
  go_wp2_with fail
  with_reducible refine (markLock_is T0 _ _ _ _ _ _ _ _ _ _ _ _ (w3.heap.size) (w4.heap.size) ts 1 _ HN.out hs2 HTS.out hT0b (by decide) (by decide) (by omega) OX0_9.out HT0.out).mono ?_
  rintro e w10 ⟨rfl, ho, hc⟩
  clear cX00 cX01 cX02 cX03 cX04 cX05 cX06 cX07 cX08 cX09
  have HW10 := Lib.hid (hc.ext HW9.out (by omega))
  have BX0_10 := Lib.hid (BX0_9.out.chg hc (by omega))
  have P0_10 := Lib.hid (P0_9.out.chg hc (by omega))
  have X0_10 := Lib.hid (X0_9.out.chg hc (by omega))
  have G0_10 := Lib.hid (G0_9.out.chg hc (by omega))
  have OP_10 := Lib.hid (OP_9.out.chg hc (by omega))
  have OX0_10 := Lib.hid ho
  have OG_10 := Lib.hid (OG_9.out.chg hc (by omega))
  have zz10 := hc.size
  clear HW9 BX0_9 P0_9 X0_9 G0_9 OP_9 OX0_9 OG_9 hc ho
  have cG00 : w10.cell? ⟨bG0, 0, none⟩ = some (.int .i64 x0) := G0_10.out.cell rfl
  have cG01 : w10.cell? ⟨bG0, 1, none⟩ = some (.int .i64 x1) := G0_10.out.cell rfl
  have cG02 : w10.cell? ⟨bG0, 2, none⟩ = some (.int .i64 x2) := G0_10.out.cell rfl
  have cG03 : w10.cell? ⟨bG0, 3, none⟩ = some (.int .i64 x3) := G0_10.out.cell rfl
  have cG04 : w10.cell? ⟨bG0, 4, none⟩ = some (.int .i64 x4) := G0_10.out.cell rfl
  have cG05 : w10.cell? ⟨bG0, 5, none⟩ = some (.int .i64 x5) := G0_10.out.cell rfl
  have cG06 : w10.cell? ⟨bG0, 6, none⟩ = some (.int .i64 x6) := G0_10.out.cell rfl
  have cG07 : w10.cell? ⟨bG0, 7, none⟩ = some (.int .i64 x7) := G0_10.out.cell rfl
  have cG08 : w10.cell? ⟨bG0, 8, none⟩ = some (.int .i64 g) := G0_10.out.cell rfl
  have cG09 : w10.cell? ⟨bG0, 9, none⟩ = some (.slice pG n gc) := G0_10.out.cell rfl
  have cP00 : w10.cell? ⟨bP0, 0, none⟩ = some (.int .i64 x0) := P0_10.out.cell rfl
  have cP01 : w10.cell? ⟨bP0, 1, none⟩ = some (.int .i64 x1) := P0_10.out.cell rfl
  have cP02 : w10.cell? ⟨bP0, 2, none⟩ = some (.int .i64 x2) := P0_10.out.cell rfl
  have cP03 : w10.cell? ⟨bP0, 3, none⟩ = some (.int .i64 x3) := P0_10.out.cell rfl
  have cP04 : w10.cell? ⟨bP0, 4, none⟩ = some (.int .i64 x4) := P0_10.out.cell rfl
  have cP05 : w10.cell? ⟨bP0, 5, none⟩ = some (.int .i64 x5) := P0_10.out.cell rfl
  have cP06 : w10.cell? ⟨bP0, 6, none⟩ = some (.int .i64 x6) := P0_10.out.cell rfl
  have cP07 : w10.cell? ⟨bP0, 7, none⟩ = some (.int .i64 x7) := P0_10.out.cell rfl
  have cP08 : w10.cell? ⟨bP0, 8, none⟩ = some (.int .i64 g) := P0_10.out.cell rfl
  have cP09 : w10.cell? ⟨bP0, 9, none⟩ = some (.slice pP n pc) := P0_10.out.cell rfl
  go_wp2_with fail
  with_reducible refine (eqLock_same _ _ _ _ _ _ _ _ _ _ _ _ _ _ ts _ HN.out HS.out OG_10.out.trains OP_10.out.trains).mono ?_
  rintro e w11 ⟨rfl, hb⟩
  clear cG00 cG01 cG02 cG03 cG04 cG05 cG06 cG07 cG08 cG09 cP00 cP01 cP02 cP03 cP04 cP05 cP06 cP07 cP08 cP09
  have HW11 := Lib.hid (HW10.out.trans hb)
  have BX0_11 := Lib.hid (BX0_10.out.ext hb)
  have P0_11 := Lib.hid (P0_10.out.ext hb)
  have X0_11 := Lib.hid (X0_10.out.ext hb)
  have G0_11 := Lib.hid (G0_10.out.ext hb)
  have OP_11 := Lib.hid (OP_10.out.ext hb)
  have OX0_11 := Lib.hid (OX0_10.out.ext hb)
  have OG_11 := Lib.hid (OG_10.out.ext hb)
  have zz11 := hb.size
  clear HW10 BX0_10 P0_10 X0_10 G0_10 OP_10 OX0_10 OG_10 hb
  have cG00 : w11.cell? ⟨bG0, 0, none⟩ = some (.int .i64 x0) := G0_11.out.cell rfl
  have cG01 : w11.cell? ⟨bG0, 1, none⟩ = some (.int .i64 x1) := G0_11.out.cell rfl
  have cG02 : w11.cell? ⟨bG0, 2, none⟩ = some (.int .i64 x2) := G0_11.out.cell rfl
  have cG03 : w11.cell? ⟨bG0, 3, none⟩ = some (.int .i64 x3) := G0_11.out.cell rfl
  have cG04 : w11.cell? ⟨bG0, 4, none⟩ = some (.int .i64 x4) := G0_11.out.cell rfl
  have cG05 : w11.cell? ⟨bG0, 5, none⟩ = some (.int .i64 x5) := G0_11.out.cell rfl
  have cG06 : w11.cell? ⟨bG0, 6, none⟩ = some (.int .i64 x6) := G0_11.out.cell rfl
  have cG07 : w11.cell? ⟨bG0, 7, none⟩ = some (.int .i64 x7) := G0_11.out.cell rfl
  have cG08 : w11.cell? ⟨bG0, 8, none⟩ = some (.int .i64 g) := G0_11.out.cell rfl
  have cG09 : w11.cell? ⟨bG0, 9, none⟩ = some (.slice pG n gc) := G0_11.out.cell rfl
  go_wp2_with fail
  with_reducible refine (markLock_is T0 _ _ _ _ _ _ _ _ _ _ _ _ (w5.heap.size) (w6.heap.size) ts 1 _ HN.out hs2 HTS.out hT0b (by decide) (by decide) (by omega) OG_11.out HT0.out).mono ?_
  rintro e w12 ⟨rfl, ho, hc⟩
  clear cG00 cG01 cG02 cG03 cG04 cG05 cG06 cG07 cG08 cG09
  have HW12 := Lib.hid (hc.ext HW11.out (by omega))
  have BX0_12 := Lib.hid (BX0_11.out.chg hc (by omega))
  have P0_12 := Lib.hid (P0_11.out.chg hc (by omega))
  have X0_12 := Lib.hid (X0_11.out.chg hc (by omega))
  have G0_12 := Lib.hid (G0_11.out.chg hc (by omega))
  have OP_12 := Lib.hid (OP_11.out.chg hc (by omega))
  have OX0_12 := Lib.hid (OX0_11.out.chg hc (by omega))
  have OG_12 := Lib.hid ho
  have zz12 := hc.size
  clear HW11 BX0_11 P0_11 X0_11 G0_11 OP_11 OX0_11 OG_11 hc ho
  have cG00 : w12.cell? ⟨bG0, 0, none⟩ = some (.int .i64 x0) := G0_12.out.cell rfl
  have cG01 : w12.cell? ⟨bG0, 1, none⟩ = some (.int .i64 x1) := G0_12.out.cell rfl
  have cG02 : w12.cell? ⟨bG0, 2, none⟩ = some (.int .i64 x2) := G0_12.out.cell rfl
  have cG03 : w12.cell? ⟨bG0, 3, none⟩ = some (.int .i64 x3) := G0_12.out.cell rfl
  have cG04 : w12.cell? ⟨bG0, 4, none⟩ = some (.int .i64 x4) := G0_12.out.cell rfl
  have cG05 : w12.cell? ⟨bG0, 5, none⟩ = some (.int .i64 x5) := G0_12.out.cell rfl
  have cG06 : w12.cell? ⟨bG0, 6, none⟩ = some (.int .i64 x6) := G0_12.out.cell rfl
  have cG07 : w12.cell? ⟨bG0, 7, none⟩ = some (.int .i64 x7) := G0_12.out.cell rfl
  have cG08 : w12.cell? ⟨bG0, 8, none⟩ = some (.int .i64 g) := G0_12.out.cell rfl
  have cG09 : w12.cell? ⟨bG0, 9, none⟩ = some (.slice pG n gc) := G0_12.out.cell rfl
  go_wp2_with fail
  with_reducible refine (heldLock_is T0 _ _ _ _ _ _ _ _ _ _ _ _ ts 1 _ HN.out hs2 HTS.out hT0b (by decide) (by decide) OG_12.out.trains HT0.out).mono ?_
  rintro e w13 ⟨rfl, hb⟩
  clear cG00 cG01 cG02 cG03 cG04 cG05 cG06 cG07 cG08 cG09
  have HW13 := Lib.hid (HW12.out.trans hb)
  have BX0_13 := Lib.hid (BX0_12.out.ext hb)
  have P0_13 := Lib.hid (P0_12.out.ext hb)
  have X0_13 := Lib.hid (X0_12.out.ext hb)
  have G0_13 := Lib.hid (G0_12.out.ext hb)
  have OP_13 := Lib.hid (OP_12.out.ext hb)
  have OX0_13 := Lib.hid (OX0_12.out.ext hb)
  have OG_13 := Lib.hid (OG_12.out.ext hb)
  have zz13 := hb.size
  clear HW12 BX0_12 P0_12 X0_12 G0_12 OP_12 OX0_12 OG_12 hb
  have cBX00 : w13.cell? ⟨w.heap.size, 0, none⟩ = some (.int .i64 x0) := BX0_13.out.cell rfl
  have cBX01 : w13.cell? ⟨w.heap.size, 1, none⟩ = some (.int .i64 x1) := BX0_13.out.cell rfl
  have cBX02 : w13.cell? ⟨w.heap.size, 2, none⟩ = some (.int .i64 x2) := BX0_13.out.cell rfl
  have cBX03 : w13.cell? ⟨w.heap.size, 3, none⟩ = some (.int .i64 x3) := BX0_13.out.cell rfl
  have cBX04 : w13.cell? ⟨w.heap.size, 4, none⟩ = some (.int .i64 x4) := BX0_13.out.cell rfl
  have cBX05 : w13.cell? ⟨w.heap.size, 5, none⟩ = some (.int .i64 x5) := BX0_13.out.cell rfl
  have cBX06 : w13.cell? ⟨w.heap.size, 6, none⟩ = some (.int .i64 x6) := BX0_13.out.cell rfl
  have cBX07 : w13.cell? ⟨w.heap.size, 7, none⟩ = some (.int .i64 x7) := BX0_13.out.cell rfl
  have cBX08 : w13.cell? ⟨w.heap.size, 8, none⟩ = some (.int .i64 x8) := BX0_13.out.cell rfl
  have cBX09 : w13.cell? ⟨w.heap.size, 9, none⟩ = some (.slice a n c) := BX0_13.out.cell rfl
  go_wp2_with fail
  with_reducible refine (toLock_any _ _ _ _ _ _ _ _ _ _ _ _ ts _ HN.out hs2 HTS.out (HF.out.ext HW13.out)).mono ?_
  rintro e w14 ⟨aH0, rfl, ho, hb⟩
  clear cBX00 cBX01 cBX02 cBX03 cBX04 cBX05 cBX06 cBX07 cBX08 cBX09
  have hown := Lib.hid ho.trains; clear ho
  have HW14 := Lib.hid (HW13.out.trans hb)
  have BX0_14 := Lib.hid (BX0_13.out.ext hb)
  have P0_14 := Lib.hid (P0_13.out.ext hb)
  have X0_14 := Lib.hid (X0_13.out.ext hb)
  have G0_14 := Lib.hid (G0_13.out.ext hb)
  have OP_14 := Lib.hid (OP_13.out.ext hb)
  have OX0_14 := Lib.hid (OX0_13.out.ext hb)
  have OG_14 := Lib.hid (OG_13.out.ext hb)
  have zz14 := hb.size
  clear HW13 BX0_13 P0_13 X0_13 G0_13 OP_13 OX0_13 OG_13 hb
  go_wp2_with fail
  with_reducible refine (implShut_any g _ _ _ _ _ _ _ _ _ _ _ _ ts _ HN.out hs2 HTS.out hown.out HRES.out).mono ?_
  rintro e w15 ⟨pH, hc0, rfl, ho, hb⟩
  have hop := Lib.hid ho; clear ho hown
  have HW15 := Lib.hid (HW14.out.trans hb)
  have BX0_15 := Lib.hid (BX0_14.out.ext hb)
  have P0_15 := Lib.hid (P0_14.out.ext hb)
  have X0_15 := Lib.hid (X0_14.out.ext hb)
  have G0_15 := Lib.hid (G0_14.out.ext hb)
  have OP_15 := Lib.hid (OP_14.out.ext hb)
  have OX0_15 := Lib.hid (OX0_14.out.ext hb)
  have OG_15 := Lib.hid (OG_14.out.ext hb)
  have zz15 := hb.size
  clear HW14 BX0_14 P0_14 X0_14 G0_14 OP_14 OX0_14 OG_14 hb
  have OH_15 := hop; clear hop
  obtain ⟨bH0, hbH0⟩ : ∃ x, x = w15.heap.size := ⟨_, rfl⟩
  obtain ⟨w16, hw16⟩ : ∃ x, x = w15.alloc (.cells #[.int .i64 x0, .int .i64 x1, .int .i64 x2, .int .i64 x3, .int .i64 x4, .int .i64 x5, .int .i64 x6, .int .i64 x7, .int .i64 g, .slice pH n hc0] 26) := ⟨_, rfl⟩
  have hal := (Ext.refl w15).alloc (.cells #[.int .i64 x0, .int .i64 x1, .int .i64 x2, .int .i64 x3, .int .i64 x4, .int .i64 x5, .int .i64 x6, .int .i64 x7, .int .i64 g, .slice pH n hc0] 26)
  have H0q := Lib.hid (RowAt.new w15 26 #[.int .i64 x0, .int .i64 x1, .int .i64 x2, .int .i64 x3, .int .i64 x4, .int .i64 x5, .int .i64 x6, .int .i64 x7, .int .i64 g, .slice pH n hc0])
  rw [← hw16] at hal H0q
  rw [← hbH0] at H0q
  have lH0 := H0q.out.lt
  have mH0 : w15.heap.size ≤ bH0 := Nat.le_of_eq hbH0.symm
  have nH0 : bH0 ≤ w15.heap.size := Nat.le_of_eq hbH0
  have e0 : (w15.alloc (.cells #[.int .i64 x0, .int .i64 x1, .int .i64 x2, .int .i64 x3, .int .i64 x4, .int .i64 x5, .int .i64 x6, .int .i64 x7, .int .i64 g, .slice pH n hc0] 26)).cell? ⟨w15.heap.size, 0, none⟩ = some (.int .i64 x0) := (RowAt.new w15 26 #[.int .i64 x0, .int .i64 x1, .int .i64 x2, .int .i64 x3, .int .i64 x4, .int .i64 x5, .int .i64 x6, .int .i64 x7, .int .i64 g, .slice pH n hc0]).cell rfl
  have e1 : (w15.alloc (.cells #[.int .i64 x0, .int .i64 x1, .int .i64 x2, .int .i64 x3, .int .i64 x4, .int .i64 x5, .int .i64 x6, .int .i64 x7, .int .i64 g, .slice pH n hc0] 26)).cell? ⟨w15.heap.size, 1, none⟩ = some (.int .i64 x1) := (RowAt.new w15 26 #[.int .i64 x0, .int .i64 x1, .int .i64 x2, .int .i64 x3, .int .i64 x4, .int .i64 x5, .int .i64 x6, .int .i64 x7, .int .i64 g, .slice pH n hc0]).cell rfl
  have e2 : (w15.alloc (.cells #[.int .i64 x0, .int .i64 x1, .int .i64 x2, .int .i64 x3, .int .i64 x4, .int .i64 x5, .int .i64 x6, .int .i64 x7, .int .i64 g, .slice pH n hc0] 26)).cell? ⟨w15.heap.size, 2, none⟩ = some (.int .i64 x2) := (RowAt.new w15 26 #[.int .i64 x0, .int .i64 x1, .int .i64 x2, .int .i64 x3, .int .i64 x4, .int .i64 x5, .int .i64 x6, .int .i64 x7, .int .i64 g, .slice pH n hc0]).cell rfl
  have e3 : (w15.alloc (.cells #[.int .i64 x0, .int .i64 x1, .int .i64 x2, .int .i64 x3, .int .i64 x4, .int .i64 x5, .int .i64 x6, .int .i64 x7, .int .i64 g, .slice pH n hc0] 26)).cell? ⟨w15.heap.size, 3, none⟩ = some (.int .i64 x3) := (RowAt.new w15 26 #[.int .i64 x0, .int .i64 x1, .int .i64 x2, .int .i64 x3, .int .i64 x4, .int .i64 x5, .int .i64 x6, .int .i64 x7, .int .i64 g, .slice pH n hc0]).cell rfl
  have e4 : (w15.alloc (.cells #[.int .i64 x0, .int .i64 x1, .int .i64 x2, .int .i64 x3, .int .i64 x4, .int .i64 x5, .int .i64 x6, .int .i64 x7, .int .i64 g, .slice pH n hc0] 26)).cell? ⟨w15.heap.size, 4, none⟩ = some (.int .i64 x4) := (RowAt.new w15 26 #[.int .i64 x0, .int .i64 x1, .int .i64 x2, .int .i64 x3, .int .i64 x4, .int .i64 x5, .int .i64 x6, .int .i64 x7, .int .i64 g, .slice pH n hc0]).cell rfl
  have e5 : (w15.alloc (.cells #[.int .i64 x0, .int .i64 x1, .int .i64 x2, .int .i64 x3, .int .i64 x4, .int .i64 x5, .int .i64 x6, .int .i64 x7, .int .i64 g, .slice pH n hc0] 26)).cell? ⟨w15.heap.size, 5, none⟩ = some (.int .i64 x5) := (RowAt.new w15 26 #[.int .i64 x0, .int .i64 x1, .int .i64 x2, .int .i64 x3, .int .i64 x4, .int .i64 x5, .int .i64 x6, .int .i64 x7, .int .i64 g, .slice pH n hc0]).cell rfl
  have e6 : (w15.alloc (.cells #[.int .i64 x0, .int .i64 x1, .int .i64 x2, .int .i64 x3, .int .i64 x4, .int .i64 x5, .int .i64 x6, .int .i64 x7, .int .i64 g, .slice pH n hc0] 26)).cell? ⟨w15.heap.size, 6, none⟩ = some (.int .i64 x6) := (RowAt.new w15 26 #[.int .i64 x0, .int .i64 x1, .int .i64 x2, .int .i64 x3, .int .i64 x4, .int .i64 x5, .int .i64 x6, .int .i64 x7, .int .i64 g, .slice pH n hc0]).cell rfl
  have e7 : (w15.alloc (.cells #[.int .i64 x0, .int .i64 x1, .int .i64 x2, .int .i64 x3, .int .i64 x4, .int .i64 x5, .int .i64 x6, .int .i64 x7, .int .i64 g, .slice pH n hc0] 26)).cell? ⟨w15.heap.size, 7, none⟩ = some (.int .i64 x7) := (RowAt.new w15 26 #[.int .i64 x0, .int .i64 x1, .int .i64 x2, .int .i64 x3, .int .i64 x4, .int .i64 x5, .int .i64 x6, .int .i64 x7, .int .i64 g, .slice pH n hc0]).cell rfl
  have e8 : (w15.alloc (.cells #[.int .i64 x0, .int .i64 x1, .int .i64 x2, .int .i64 x3, .int .i64 x4, .int .i64 x5, .int .i64 x6, .int .i64 x7, .int .i64 g, .slice pH n hc0] 26)).cell? ⟨w15.heap.size, 8, none⟩ = some (.int .i64 g) := (RowAt.new w15 26 #[.int .i64 x0, .int .i64 x1, .int .i64 x2, .int .i64 x3, .int .i64 x4, .int .i64 x5, .int .i64 x6, .int .i64 x7, .int .i64 g, .slice pH n hc0]).cell rfl
  have e9 : (w15.alloc (.cells #[.int .i64 x0, .int .i64 x1, .int .i64 x2, .int .i64 x3, .int .i64 x4, .int .i64 x5, .int .i64 x6, .int .i64 x7, .int .i64 g, .slice pH n hc0] 26)).cell? ⟨w15.heap.size, 9, none⟩ = some (.slice pH n hc0) := (RowAt.new w15 26 #[.int .i64 x0, .int .i64 x1, .int .i64 x2, .int .i64 x3, .int .i64 x4, .int .i64 x5, .int .i64 x6, .int .i64 x7, .int .i64 g, .slice pH n hc0]).cell rfl
  have e10 : (w15.alloc (.cells #[.int .i64 x0, .int .i64 x1, .int .i64 x2, .int .i64 x3, .int .i64 x4, .int .i64 x5, .int .i64 x6, .int .i64 x7, .int .i64 g, .slice pH n hc0] 26)).cell? ⟨bP0, 0, none⟩ = some (.int .i64 x0) := (P0_15.out.ext ((Ext.refl _).alloc _)).cell rfl
  have e11 : (w15.alloc (.cells #[.int .i64 x0, .int .i64 x1, .int .i64 x2, .int .i64 x3, .int .i64 x4, .int .i64 x5, .int .i64 x6, .int .i64 x7, .int .i64 g, .slice pH n hc0] 26)).cell? ⟨bP0, 1, none⟩ = some (.int .i64 x1) := (P0_15.out.ext ((Ext.refl _).alloc _)).cell rfl
  have e12 : (w15.alloc (.cells #[.int .i64 x0, .int .i64 x1, .int .i64 x2, .int .i64 x3, .int .i64 x4, .int .i64 x5, .int .i64 x6, .int .i64 x7, .int .i64 g, .slice pH n hc0] 26)).cell? ⟨bP0, 2, none⟩ = some (.int .i64 x2) := (P0_15.out.ext ((Ext.refl _).alloc _)).cell rfl
  have e13 : (w15.alloc (.cells #[.int .i64 x0, .int .i64 x1, .int .i64 x2, .int .i64 x3, .int .i64 x4, .int .i64 x5, .int .i64 x6, .int .i64 x7, .int .i64 g, .slice pH n hc0] 26)).cell? ⟨bP0, 3, none⟩ = some (.int .i64 x3) := (P0_15.out.ext ((Ext.refl _).alloc _)).cell rfl
  have e14 : (w15.alloc (.cells #[.int .i64 x0, .int .i64 x1, .int .i64 x2, .int .i64 x3, .int .i64 x4, .int .i64 x5, .int .i64 x6, .int .i64 x7, .int .i64 g, .slice pH n hc0] 26)).cell? ⟨bP0, 4, none⟩ = some (.int .i64 x4) := (P0_15.out.ext ((Ext.refl _).alloc _)).cell rfl
  have e15 : (w15.alloc (.cells #[.int .i64 x0, .int .i64 x1, .int .i64 x2, .int .i64 x3, .int .i64 x4, .int .i64 x5, .int .i64 x6, .int .i64 x7, .int .i64 g, .slice pH n hc0] 26)).cell? ⟨bP0, 5, none⟩ = some (.int .i64 x5) := (P0_15.out.ext ((Ext.refl _).alloc _)).cell rfl
  have e16 : (w15.alloc (.cells #[.int .i64 x0, .int .i64 x1, .int .i64 x2, .int .i64 x3, .int .i64 x4, .int .i64 x5, .int .i64 x6, .int .i64 x7, .int .i64 g, .slice pH n hc0] 26)).cell? ⟨bP0, 6, none⟩ = some (.int .i64 x6) := (P0_15.out.ext ((Ext.refl _).alloc _)).cell rfl
  have e17 : (w15.alloc (.cells #[.int .i64 x0, .int .i64 x1, .int .i64 x2, .int .i64 x3, .int .i64 x4, .int .i64 x5, .int .i64 x6, .int .i64 x7, .int .i64 g, .slice pH n hc0] 26)).cell? ⟨bP0, 7, none⟩ = some (.int .i64 x7) := (P0_15.out.ext ((Ext.refl _).alloc _)).cell rfl
  have e18 : (w15.alloc (.cells #[.int .i64 x0, .int .i64 x1, .int .i64 x2, .int .i64 x3, .int .i64 x4, .int .i64 x5, .int .i64 x6, .int .i64 x7, .int .i64 g, .slice pH n hc0] 26)).cell? ⟨bP0, 8, none⟩ = some (.int .i64 g) := (P0_15.out.ext ((Ext.refl _).alloc _)).cell rfl
  have e19 : (w15.alloc (.cells #[.int .i64 x0, .int .i64 x1, .int .i64 x2, .int .i64 x3, .int .i64 x4, .int .i64 x5, .int .i64 x6, .int .i64 x7, .int .i64 g, .slice pH n hc0] 26)).cell? ⟨bP0, 9, none⟩ = some (.slice pP n pc) := (P0_15.out.ext ((Ext.refl _).alloc _)).cell rfl
  go_wp2_with fail
  clear e0 e1 e2 e3 e4 e5 e6 e7 e8 e9 e10 e11 e12 e13 e14 e15 e16 e17 e18 e19
  (try rw [← hw16])
  (try rw [← hbH0])
  clear hw16 hbH0
  have HW16 := Lib.hid (HW15.out.trans hal)
  have BX0_16 := Lib.hid (BX0_15.out.ext hal)
  have P0_16 := Lib.hid (P0_15.out.ext hal)
  have X0_16 := Lib.hid (X0_15.out.ext hal)
  have G0_16 := Lib.hid (G0_15.out.ext hal)
  have OP_16 := Lib.hid (OP_15.out.ext hal)
  have OX0_16 := Lib.hid (OX0_15.out.ext hal)
  have OG_16 := Lib.hid (OG_15.out.ext hal)
  have OH_16 := Lib.hid (OH_15.out.ext hal)
  have zz16 := hal.size
  clear HW15 BX0_15 P0_15 X0_15 G0_15 OP_15 OX0_15 OG_15 OH_15 hal
  have H0_16 := H0q; clear H0q
  with_reducible refine (eqLock_same _ _ _ _ _ _ _ _ _ _ _ _ _ _ ts _ HN.out HS.out OH_16.out.trains OP_16.out.trains).mono ?_
  rintro e w17 ⟨rfl, hb⟩
  have HW17 := Lib.hid (HW16.out.trans hb)
  have BX0_17 := Lib.hid (BX0_16.out.ext hb)
  have P0_17 := Lib.hid (P0_16.out.ext hb)
  have X0_17 := Lib.hid (X0_16.out.ext hb)
  have G0_17 := Lib.hid (G0_16.out.ext hb)
  have H0_17 := Lib.hid (H0_16.out.ext hb)
  have OP_17 := Lib.hid (OP_16.out.ext hb)
  have OX0_17 := Lib.hid (OX0_16.out.ext hb)
  have OG_17 := Lib.hid (OG_16.out.ext hb)
  have OH_17 := Lib.hid (OH_16.out.ext hb)
  have zz17 := hb.size
  clear HW16 BX0_16 P0_16 X0_16 G0_16 H0_16 OP_16 OX0_16 OG_16 OH_16 hb
  have cG00 : w17.cell? ⟨bG0, 0, none⟩ = some (.int .i64 x0) := G0_17.out.cell rfl
  have cG01 : w17.cell? ⟨bG0, 1, none⟩ = some (.int .i64 x1) := G0_17.out.cell rfl
  have cG02 : w17.cell? ⟨bG0, 2, none⟩ = some (.int .i64 x2) := G0_17.out.cell rfl
  have cG03 : w17.cell? ⟨bG0, 3, none⟩ = some (.int .i64 x3) := G0_17.out.cell rfl
  have cG04 : w17.cell? ⟨bG0, 4, none⟩ = some (.int .i64 x4) := G0_17.out.cell rfl
  have cG05 : w17.cell? ⟨bG0, 5, none⟩ = some (.int .i64 x5) := G0_17.out.cell rfl
  have cG06 : w17.cell? ⟨bG0, 6, none⟩ = some (.int .i64 x6) := G0_17.out.cell rfl
  have cG07 : w17.cell? ⟨bG0, 7, none⟩ = some (.int .i64 x7) := G0_17.out.cell rfl
  have cG08 : w17.cell? ⟨bG0, 8, none⟩ = some (.int .i64 g) := G0_17.out.cell rfl
  have cG09 : w17.cell? ⟨bG0, 9, none⟩ = some (.slice pG n gc) := G0_17.out.cell rfl
  go_wp2_with fail
  with_reducible refine (heldLock_is T0 _ _ _ _ _ _ _ _ _ _ _ _ ts 1 _ HN.out hs2 HTS.out hT0b (by decide) (by decide) OG_17.out.trains HT0.out).mono ?_
  rintro e w18 ⟨rfl, hb⟩
  clear cG00 cG01 cG02 cG03 cG04 cG05 cG06 cG07 cG08 cG09
  have HW18 := Lib.hid (HW17.out.trans hb)
  have BX0_18 := Lib.hid (BX0_17.out.ext hb)
  have P0_18 := Lib.hid (P0_17.out.ext hb)
  have X0_18 := Lib.hid (X0_17.out.ext hb)
  have G0_18 := Lib.hid (G0_17.out.ext hb)
  have H0_18 := Lib.hid (H0_17.out.ext hb)
  have OP_18 := Lib.hid (OP_17.out.ext hb)
  have OX0_18 := Lib.hid (OX0_17.out.ext hb)
  have OG_18 := Lib.hid (OG_17.out.ext hb)
  have OH_18 := Lib.hid (OH_17.out.ext hb)
  have zz18 := hb.size
  clear HW17 BX0_17 P0_17 X0_17 G0_17 H0_17 OP_17 OX0_17 OG_17 OH_17 hb
  have hx := HW18.out
  go_wp2
  go_ret
  exact ⟨rfl, hx⟩

theorem own : ownKnob Try.prog.godebug = none := by kernel_rfl
theorem laidOut : laidOutB Try.prog = true := Head.laidOut

set_option maxRecDepth 100000 in
theorem contract (H : Type) (enc : TypeId × Value → H) (W : World) (base : Nat) (args : Array Value) (ds gs : List (DataW H)) (before : List MemPlace)
    (hval : ∀ (j : Nat) t v, Try.f13.params[j]? = some t → args[j]? = some v → Value.okWide Try.prog W .any base t v)
    (hW : DataW.Whole enc Try.prog Try.f13.params.toList Rows.fnExactShutGateSpec.vars false W args.toList ds gs before) :
    Calls Try.prog 13 args W fun e W' => ∃ v, e = .returned v ∧ Rows.fnExactShutGateSpec.post enc Try.prog Try.f13 false true false false W args v W' := by
  have hW' := hW
  obtain ⟨p, q, hA0, hV, rfl, hfz, hnd⟩ := hW
  have hA : DataW.TrodAll enc Try.prog W 0 (fun _ => true) true Try.f13.params.toList args.toList ds p := hA0
  rw [Try.params13] at hA hval
  obtain ⟨v0, vs0, d0, ds0, p0, q0, hargs, rfl, rfl, h0, r0⟩ := trodAll_cons hA
  obtain ⟨rfl, rfl, rfl⟩ := trodAll_nil r0
  obtain rfl : args = #[v0] := by cases args; simp_all
  obtain ⟨rfl, rfl⟩ := trodVars_none hV
  have hv0 := hval 0 59 v0 rfl rfl
  clear hA0 hA
  obtain ⟨x0, x1, x2, x3, x4, x5, x6, x7, x8, ts, a, c, rfl, hmax, hts, wi0, wi1⟩ := open_lock hv0 h0
  refine (walk x0 x1 x2 x3 x4 x5 x6 x7 x8 a _ c ts W rfl hmax hts wi0 wi1).mono fun e W' ⟨he, hb⟩ => ?_
  subst he
  exact ⟨_, rfl, law_post laidOut rfl (by kernel_rfl) rfl Try.underlying4 hW' rfl rfl rfl hb.below⟩

set_option maxRecDepth 100000 in
theorem lifted (os : Os) (started : os.Started) (H : Type) (enc : TypeId × Value → H) :
    ReturnsInHanded {} Try.checked os 13 .any (Rows.fnExactShutGateSpec.pre6 enc Try.prog Try.f13 Rows.fnExactShutGateRow.domain false) (Rows.fnExactShutGateSpec.post enc Try.prog Try.f13 false true false false) := by
  refine returnsInHanded_of_change (C := Try.checked) own started (by kernel_rfl) Try.func13
    (ChangeSpec.witness6 (enc := enc) (C := Try.checked) false ⟨#[], #[.agg #[.int .i64 0, .int .i64 0, .int .i64 0, .int .i64 0, .int .i64 0, .int .i64 0, .int .i64 0, .int .i64 0, .int .i64 0, .slice none 0 0]], []⟩ 8 (by kernel_rfl) (by kernel_rfl) (by kernel_rfl) (by kernel_rfl)) ?_
  intro W base args ds gs before hval hW _ _
  exact contract H enc W base args ds gs before hval hW

theorem closed : joinedFacts Try.prog 13 Try.f13 Rows.fnExactShutGateSpec Rows.fnExactShutGateRow = true := by
  unfold joinedFacts
  rw [Head.laidOut, Head.mapsRowed, Head.stopsHeard, Head.mayEnter, Head.liftsFinal, Head.make, Head.plainKeys]
  kernel_rfl
theorem proved : Rows.FnExactShutGateSaid :=
  OpenClaim.holds_of_wide 13 Try.f13 rfl rfl rfl rfl rfl rfl rfl ⟨rfl, rfl, rfl, rfl, rfl⟩ rfl rfl rfl rfl rfl (by kernel_rfl) Try.func13 closed
    (of_decide_eq_true (by kernel_rfl)) (by unfold Func.isWrapper; first | (rw [if_pos (by decide +kernel)]; kernel_rfl) | (rw [if_neg (by decide +kernel)]; exact ⟨rfl, rfl⟩))
    (fun os started H enc _ => lifted os started H enc)
end Go.Proofs.Ytphhjfcmglhlfaa.lawShutGate
