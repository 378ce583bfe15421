/- DrainLock of the reference. -/
import Derived.Test.YtknpdhafafomaaaProg
import Derived.Test.YtknpdhafafomaaaDrain
import Derived.Test.YtknpdhafafomaaaTakeS
namespace Go.Proofs.Ytknpdhafafomaaa
open Go.RowKit
set_option linter.unusedSimpArgs false
set_option linter.unusedVariables false

set_option maxRecDepth 100000 in
set_option maxHeartbeats 4000000 in
theorem specDrain_any (wa vo : Int) (xo : List Int) (x0 x1 x2 x3 x4 x5 x6 x7 x8 : Int) (a : Option Addr) (n c : Nat) (ts : List Tn) (ta pa : Option Addr) (tn tc pn pc : Nat) (vol : Int) (ps : List Pt) (xs : List Int) (w : World) (hn : n = ts.length) (hs : n ≤ 1048576) (hts : ∀ t ∈ ts, SmallT t) (hf : TrainsAt w a ts) (ht : tn = ps.length) (htl : tn ≤ 1048576) (hp : pn = xs.length) (hpl : pn ≤ 1048576) (hft : FlatAt w ptCells 2 ta ps) (hfp : IntsAt w pa xs) (hvol : -9223372036854775808 ≤ vol ∧ vol ≤ 9223372036854775807) (hct : ta = none → tc = 0) (hcp : pa = none → pc = 0) (hres : drainRes x0 x1 x2 x3 x4 x5 x6 x7 x8 ts ps vol xs = (wa, vo, xo)) :
    Calls Try.prog 44 #[.agg #[.int .i64 x0, .int .i64 x1, .int .i64 x2, .int .i64 x3, .int .i64 x4, .int .i64 x5, .int .i64 x6, .int .i64 x7, .int .i64 x8, .slice a n c], .agg #[.slice ta tn tc, .int .i64 vol, .slice pa pn pc]] w fun e w' => ∃ a' c' a1 c1 a2 c2, e = .returned (.tuple #[.agg #[.int .i64 x0, .int .i64 x1, .int .i64 x2, .int .i64 x3, .int .i64 x4, .int .i64 x5, .int .i64 x6, .int .i64 wa, .int .i64 x8, .slice a' n c'], .agg #[.slice a1 tn c1, .int .i64 vo, .slice a2 pn c2]]) ∧ LockReach w w' ts ps xo a' a1 tn c1 a2 pn c2 ∧ Ext w w' := by
  obtain ⟨k1, hk1⟩ : ∃ k, lockOk x0 x1 x2 x3 x4 x5 x6 x7 x8 ts = k := ⟨_, rfl⟩
  obtain ⟨k2, hk2⟩ : ∃ k, reachOk ps vol xs = k := ⟨_, rfl⟩
  obtain ⟨k4, hk4⟩ : ∃ k, decide (x8 = 0) = k := ⟨_, rfl⟩
  obtain ⟨ch, hch⟩ : ∃ v, chamber x0 x1 x2 x3 x4 x5 x6 x7 x8 ts = v := ⟨_, rfl⟩
  obtain ⟨lev, hlev⟩ : ∃ v, levelOf ps vol xs = v := ⟨_, rfl⟩
  have hchb := chamber_b x0 x1 x2 x3 x4 x5 x6 x7 x8 ts
  rw [hch] at hchb
  have hlb := levelOf_b ps vol xs
  rw [hlev] at hlb
  obtain ⟨T, hT⟩ : ∃ T, sumFrom vol xs = T := ⟨_, rfl⟩
  unfold drainRes at hres
  rw [hk1, hk2, hk4, hch, hlev, hT] at hres
  have HTT := Lib.hid hT; clear hT
  have h8 : (x8 == 0) = k4 := by rw [← hk4]; rfl
  have h8n : (x8 != 0) = !k4 := by rw [← h8]; rfl
  have hkb : k1 = true → ((1 ≤ x5 ∧ x5 ≤ 10000) ∧ (0 ≤ x7 ∧ x7 ≤ 1000000000)) ∧ (1 ≤ x6 ∧ x6 ≤ 100000) := fun h => by rw [h] at hk1; exact ⟨⟨(lockOk_bounds hk1).2.1, (lockOk_bounds hk1).2.2⟩, lockOk_rate hk1⟩
  have hvb : k2 = true → 0 ≤ vol ∧ vol ≤ 1000000000 := fun h => by rw [h] at hk2; exact (reachOk_parts hk2).2.1
  have HK1 := Lib.hid hk1; clear hk1
  have HK2 := Lib.hid hk2; clear hk2
  have HCH := Lib.hid hch; clear hch
  have HLV := Lib.hid hlev; clear hlev
  clear hk4
  have HCT := Lib.hid hct; clear hct
  have HCP := Lib.hid hcp; clear hcp
  have HN := Lib.hid hn; clear hn
  have HS := Lib.hid hs; clear hs
  have HTS := Lib.hid hts; clear hts
  have HF := Lib.hid hf; clear hf
  have HT := Lib.hid ht; clear ht
  have HP := Lib.hid hp; clear hp
  have HFT := Lib.hid hft; clear hft
  have HFP := Lib.hid hfp; clear hfp
  have HTL := Lib.hid (show tn ≤ maxLen by unfold maxLen; omega)
  have HPL := Lib.hid (show pn ≤ maxLen by unfold maxLen; omega)
  have B0I := Lib.hid (show RowAt ((((w.alloc (.cells #[.int .i64 x0, .int .i64 x1, .int .i64 x2, .int .i64 x3, .int .i64 x4, .int .i64 x5, .int .i64 x6, .int .i64 x7, .int .i64 x8, .slice a n c] 26)).alloc (.cells #[.slice ta tn tc, .int .i64 vol, .slice pa pn pc] 40)).alloc (.cells #[.int .i64 0, .int .i64 0, .int .i64 0, .int .i64 0, .int .i64 0, .int .i64 0, .int .i64 0, .int .i64 0, .int .i64 0, .slice none 0 0] 26)).alloc (.cells #[.slice none 0 0, .int .i64 0, .slice none 0 0] 40)) (w.heap.size) 26 #[.int .i64 x0, .int .i64 x1, .int .i64 x2, .int .i64 x3, .int .i64 x4, .int .i64 x5, .int .i64 x6, .int .i64 x7, .int .i64 x8, .slice a n c] from by
    have h := (RowAt.new w 26 #[.int .i64 x0, .int .i64 x1, .int .i64 x2, .int .i64 x3, .int .i64 x4, .int .i64 x5, .int .i64 x6, .int .i64 x7, .int .i64 x8, .slice a n c]).ext ((((Ext.refl _).alloc (.cells #[.slice ta tn tc, .int .i64 vol, .slice pa pn pc] 40)).alloc (.cells #[.int .i64 0, .int .i64 0, .int .i64 0, .int .i64 0, .int .i64 0, .int .i64 0, .int .i64 0, .int .i64 0, .int .i64 0, .slice none 0 0] 26)).alloc (.cells #[.slice none 0 0, .int .i64 0, .slice none 0 0] 40))
    exact h)
  have B1I := Lib.hid (show RowAt ((((w.alloc (.cells #[.int .i64 x0, .int .i64 x1, .int .i64 x2, .int .i64 x3, .int .i64 x4, .int .i64 x5, .int .i64 x6, .int .i64 x7, .int .i64 x8, .slice a n c] 26)).alloc (.cells #[.slice ta tn tc, .int .i64 vol, .slice pa pn pc] 40)).alloc (.cells #[.int .i64 0, .int .i64 0, .int .i64 0, .int .i64 0, .int .i64 0, .int .i64 0, .int .i64 0, .int .i64 0, .int .i64 0, .slice none 0 0] 26)).alloc (.cells #[.slice none 0 0, .int .i64 0, .slice none 0 0] 40)) (w.heap.size + 1) 40 #[.slice ta tn tc, .int .i64 vol, .slice pa pn pc] from by
    have h := (RowAt.new (w.alloc (.cells #[.int .i64 x0, .int .i64 x1, .int .i64 x2, .int .i64 x3, .int .i64 x4, .int .i64 x5, .int .i64 x6, .int .i64 x7, .int .i64 x8, .slice a n c] 26)) 40 #[.slice ta tn tc, .int .i64 vol, .slice pa pn pc]).ext (((Ext.refl _).alloc (.cells #[.int .i64 0, .int .i64 0, .int .i64 0, .int .i64 0, .int .i64 0, .int .i64 0, .int .i64 0, .int .i64 0, .int .i64 0, .slice none 0 0] 26)).alloc (.cells #[.slice none 0 0, .int .i64 0, .slice none 0 0] 40))
    simp only [World.size_alloc] at h
    exact h)
  have RES0I := Lib.hid (show RowAt ((((w.alloc (.cells #[.int .i64 x0, .int .i64 x1, .int .i64 x2, .int .i64 x3, .int .i64 x4, .int .i64 x5, .int .i64 x6, .int .i64 x7, .int .i64 x8, .slice a n c] 26)).alloc (.cells #[.slice ta tn tc, .int .i64 vol, .slice pa pn pc] 40)).alloc (.cells #[.int .i64 0, .int .i64 0, .int .i64 0, .int .i64 0, .int .i64 0, .int .i64 0, .int .i64 0, .int .i64 0, .int .i64 0, .slice none 0 0] 26)).alloc (.cells #[.slice none 0 0, .int .i64 0, .slice none 0 0] 40)) (w.heap.size + 1 + 1) 26 #[.int .i64 0, .int .i64 0, .int .i64 0, .int .i64 0, .int .i64 0, .int .i64 0, .int .i64 0, .int .i64 0, .int .i64 0, .slice none 0 0] from by
    have h := (RowAt.new ((w.alloc (.cells #[.int .i64 x0, .int .i64 x1, .int .i64 x2, .int .i64 x3, .int .i64 x4, .int .i64 x5, .int .i64 x6, .int .i64 x7, .int .i64 x8, .slice a n c] 26)).alloc (.cells #[.slice ta tn tc, .int .i64 vol, .slice pa pn pc] 40)) 26 #[.int .i64 0, .int .i64 0, .int .i64 0, .int .i64 0, .int .i64 0, .int .i64 0, .int .i64 0, .int .i64 0, .int .i64 0, .slice none 0 0]).ext ((Ext.refl _).alloc (.cells #[.slice none 0 0, .int .i64 0, .slice none 0 0] 40))
    simp only [World.size_alloc] at h
    exact h)
  have RES1I := Lib.hid (show RowAt ((((w.alloc (.cells #[.int .i64 x0, .int .i64 x1, .int .i64 x2, .int .i64 x3, .int .i64 x4, .int .i64 x5, .int .i64 x6, .int .i64 x7, .int .i64 x8, .slice a n c] 26)).alloc (.cells #[.slice ta tn tc, .int .i64 vol, .slice pa pn pc] 40)).alloc (.cells #[.int .i64 0, .int .i64 0, .int .i64 0, .int .i64 0, .int .i64 0, .int .i64 0, .int .i64 0, .int .i64 0, .int .i64 0, .slice none 0 0] 26)).alloc (.cells #[.slice none 0 0, .int .i64 0, .slice none 0 0] 40)) (w.heap.size + 1 + 1 + 1) 40 #[.slice none 0 0, .int .i64 0, .slice none 0 0] from by
    have h := (RowAt.new (((w.alloc (.cells #[.int .i64 x0, .int .i64 x1, .int .i64 x2, .int .i64 x3, .int .i64 x4, .int .i64 x5, .int .i64 x6, .int .i64 x7, .int .i64 x8, .slice a n c] 26)).alloc (.cells #[.slice ta tn tc, .int .i64 vol, .slice pa pn pc] 40)).alloc (.cells #[.int .i64 0, .int .i64 0, .int .i64 0, .int .i64 0, .int .i64 0, .int .i64 0, .int .i64 0, .int .i64 0, .int .i64 0, .slice none 0 0] 26)) 40 #[.slice none 0 0, .int .i64 0, .slice none 0 0]).ext (Ext.refl _)
    simp only [World.size_alloc] at h
    exact h)
  have HE0 := Lib.hid (show Ext w ((((w.alloc (.cells #[.int .i64 x0, .int .i64 x1, .int .i64 x2, .int .i64 x3, .int .i64 x4, .int .i64 x5, .int .i64 x6, .int .i64 x7, .int .i64 x8, .slice a n c] 26)).alloc (.cells #[.slice ta tn tc, .int .i64 vol, .slice pa pn pc] 40)).alloc (.cells #[.int .i64 0, .int .i64 0, .int .i64 0, .int .i64 0, .int .i64 0, .int .i64 0, .int .i64 0, .int .i64 0, .int .i64 0, .slice none 0 0] 26)).alloc (.cells #[.slice none 0 0, .int .i64 0, .slice none 0 0] 40)) from (((((Ext.refl w).alloc _).alloc _).alloc _).alloc _))
  go_enter Try.func44, Try.ntmps44
  have B0_0 := B0I
  have B1_0 := B1I
  have RES0_0 := RES0I
  have RES1_0 := RES1I
  have HW0 := HE0
  go_wp2_with fail
  with_reducible refine (l05Copy_any _ _ _ _ _ _ _ _ _ _ _ _ ts _ HN.out HS.out HTS.out (HF.out.ext HE0.out)).mono ?_
  rintro e w1 ⟨p, q, es, rfl, hg1, hb⟩
  have hown := Lib.hid (hg1.ownAt); clear hg1
  have HW1 := Lib.hid (HW0.out.trans hb)
  have B0_1 := Lib.hid (B0_0.out.ext hb)
  have B1_1 := Lib.hid (B1_0.out.ext hb)
  have RES0_1 := Lib.hid (RES0_0.out.ext hb)
  have RES1_1 := Lib.hid (RES1_0.out.ext hb)
  have zz1 := hb.size
  simp only [World.size_alloc] at zz1
  clear HW0 B0_0 B1_0 RES0_0 RES1_0 hb
  have OT_1 := hown; clear hown
  obtain ⟨bX, hbX⟩ : ∃ x, x = w1.heap.size := ⟨_, rfl⟩
  obtain ⟨w2, hw2⟩ : ∃ x, x = w1.alloc (.cells #[.int .i64 x0, .int .i64 x1, .int .i64 x2, .int .i64 x3, .int .i64 x4, .int .i64 x5, .int .i64 x6, .int .i64 x7, .int .i64 x8, .slice p n q] 26) := ⟨_, rfl⟩
  have hal := (Ext.refl w1).alloc (.cells #[.int .i64 x0, .int .i64 x1, .int .i64 x2, .int .i64 x3, .int .i64 x4, .int .i64 x5, .int .i64 x6, .int .i64 x7, .int .i64 x8, .slice p n q] 26)
  have Xq := Lib.hid (RowAt.new w1 26 #[.int .i64 x0, .int .i64 x1, .int .i64 x2, .int .i64 x3, .int .i64 x4, .int .i64 x5, .int .i64 x6, .int .i64 x7, .int .i64 x8, .slice p n q])
  rw [← hw2] at hal Xq
  rw [← hbX] at Xq
  have lX := Xq.out.lt
  have mX : w1.heap.size ≤ bX := Nat.le_of_eq hbX.symm
  have nX : bX ≤ w1.heap.size := Nat.le_of_eq hbX
  have e0 : (w1.alloc (.cells #[.int .i64 x0, .int .i64 x1, .int .i64 x2, .int .i64 x3, .int .i64 x4, .int .i64 x5, .int .i64 x6, .int .i64 x7, .int .i64 x8, .slice p n q] 26)).cell? ⟨w.heap.size, 0, none⟩ = some (.int .i64 x0) := (B0_1.out.ext ((Ext.refl _).alloc _)).cell rfl
  have e1 : (w1.alloc (.cells #[.int .i64 x0, .int .i64 x1, .int .i64 x2, .int .i64 x3, .int .i64 x4, .int .i64 x5, .int .i64 x6, .int .i64 x7, .int .i64 x8, .slice p n q] 26)).cell? ⟨w.heap.size, 1, none⟩ = some (.int .i64 x1) := (B0_1.out.ext ((Ext.refl _).alloc _)).cell rfl
  have e2 : (w1.alloc (.cells #[.int .i64 x0, .int .i64 x1, .int .i64 x2, .int .i64 x3, .int .i64 x4, .int .i64 x5, .int .i64 x6, .int .i64 x7, .int .i64 x8, .slice p n q] 26)).cell? ⟨w.heap.size, 2, none⟩ = some (.int .i64 x2) := (B0_1.out.ext ((Ext.refl _).alloc _)).cell rfl
  have e3 : (w1.alloc (.cells #[.int .i64 x0, .int .i64 x1, .int .i64 x2, .int .i64 x3, .int .i64 x4, .int .i64 x5, .int .i64 x6, .int .i64 x7, .int .i64 x8, .slice p n q] 26)).cell? ⟨w.heap.size, 3, none⟩ = some (.int .i64 x3) := (B0_1.out.ext ((Ext.refl _).alloc _)).cell rfl
  have e4 : (w1.alloc (.cells #[.int .i64 x0, .int .i64 x1, .int .i64 x2, .int .i64 x3, .int .i64 x4, .int .i64 x5, .int .i64 x6, .int .i64 x7, .int .i64 x8, .slice p n q] 26)).cell? ⟨w.heap.size, 4, none⟩ = some (.int .i64 x4) := (B0_1.out.ext ((Ext.refl _).alloc _)).cell rfl
  have e5 : (w1.alloc (.cells #[.int .i64 x0, .int .i64 x1, .int .i64 x2, .int .i64 x3, .int .i64 x4, .int .i64 x5, .int .i64 x6, .int .i64 x7, .int .i64 x8, .slice p n q] 26)).cell? ⟨w.heap.size, 5, none⟩ = some (.int .i64 x5) := (B0_1.out.ext ((Ext.refl _).alloc _)).cell rfl
  have e6 : (w1.alloc (.cells #[.int .i64 x0, .int .i64 x1, .int .i64 x2, .int .i64 x3, .int .i64 x4, .int .i64 x5, .int .i64 x6, .int .i64 x7, .int .i64 x8, .slice p n q] 26)).cell? ⟨w.heap.size, 6, none⟩ = some (.int .i64 x6) := (B0_1.out.ext ((Ext.refl _).alloc _)).cell rfl
  have e7 : (w1.alloc (.cells #[.int .i64 x0, .int .i64 x1, .int .i64 x2, .int .i64 x3, .int .i64 x4, .int .i64 x5, .int .i64 x6, .int .i64 x7, .int .i64 x8, .slice p n q] 26)).cell? ⟨w.heap.size, 7, none⟩ = some (.int .i64 x7) := (B0_1.out.ext ((Ext.refl _).alloc _)).cell rfl
  have e8 : (w1.alloc (.cells #[.int .i64 x0, .int .i64 x1, .int .i64 x2, .int .i64 x3, .int .i64 x4, .int .i64 x5, .int .i64 x6, .int .i64 x7, .int .i64 x8, .slice p n q] 26)).cell? ⟨w.heap.size, 8, none⟩ = some (.int .i64 x8) := (B0_1.out.ext ((Ext.refl _).alloc _)).cell rfl
  have e9 : (w1.alloc (.cells #[.int .i64 x0, .int .i64 x1, .int .i64 x2, .int .i64 x3, .int .i64 x4, .int .i64 x5, .int .i64 x6, .int .i64 x7, .int .i64 x8, .slice p n q] 26)).cell? ⟨w.heap.size, 9, none⟩ = some (.slice a n c) := (B0_1.out.ext ((Ext.refl _).alloc _)).cell rfl
  go_wp2_with fail
  clear e0 e1 e2 e3 e4 e5 e6 e7 e8 e9
  (try rw [← hw2])
  (try rw [← hbX])
  clear hw2 hbX
  have HW2 := Lib.hid (HW1.out.trans hal)
  have B0_2 := Lib.hid (B0_1.out.ext hal)
  have B1_2 := Lib.hid (B1_1.out.ext hal)
  have RES0_2 := Lib.hid (RES0_1.out.ext hal)
  have RES1_2 := Lib.hid (RES1_1.out.ext hal)
  have OT_2 := Lib.hid (OT_1.out.ext hal)
  have zz2 := hal.size
  clear HW1 B0_1 B1_1 RES0_1 RES1_1 OT_1 hal
  have X_2 := Xq; clear Xq
  have zw : ((((w.alloc (.cells #[.int .i64 x0, .int .i64 x1, .int .i64 x2, .int .i64 x3, .int .i64 x4, .int .i64 x5, .int .i64 x6, .int .i64 x7, .int .i64 x8, .slice a n c] 26)).alloc (.cells #[.slice ta tn tc, .int .i64 vol, .slice pa pn pc] 40)).alloc (.cells #[.int .i64 0, .int .i64 0, .int .i64 0, .int .i64 0, .int .i64 0, .int .i64 0, .int .i64 0, .int .i64 0, .int .i64 0, .slice none 0 0] 26)).alloc (.cells #[.slice none 0 0, .int .i64 0, .slice none 0 0] 40)).heap.size = w.heap.size + 1 + 1 + 1 + 1 := by simp only [World.size_alloc]
  cases k1
  · obtain ⟨rfl, rfl, rfl⟩ : x7 = wa ∧ vol = vo ∧ xs = xo := by simpa using hres
    clear hres
    have cB00 : ∀ y : Aft w2, y.1.cell? ⟨w.heap.size, 0, none⟩ = some (.int .i64 x0) := fun y => (B0_2.out.ext y.2).cell rfl
    have cB01 : ∀ y : Aft w2, y.1.cell? ⟨w.heap.size, 1, none⟩ = some (.int .i64 x1) := fun y => (B0_2.out.ext y.2).cell rfl
    have cB02 : ∀ y : Aft w2, y.1.cell? ⟨w.heap.size, 2, none⟩ = some (.int .i64 x2) := fun y => (B0_2.out.ext y.2).cell rfl
    have cB03 : ∀ y : Aft w2, y.1.cell? ⟨w.heap.size, 3, none⟩ = some (.int .i64 x3) := fun y => (B0_2.out.ext y.2).cell rfl
    have cB04 : ∀ y : Aft w2, y.1.cell? ⟨w.heap.size, 4, none⟩ = some (.int .i64 x4) := fun y => (B0_2.out.ext y.2).cell rfl
    have cB05 : ∀ y : Aft w2, y.1.cell? ⟨w.heap.size, 5, none⟩ = some (.int .i64 x5) := fun y => (B0_2.out.ext y.2).cell rfl
    have cB06 : ∀ y : Aft w2, y.1.cell? ⟨w.heap.size, 6, none⟩ = some (.int .i64 x6) := fun y => (B0_2.out.ext y.2).cell rfl
    have cB07 : ∀ y : Aft w2, y.1.cell? ⟨w.heap.size, 7, none⟩ = some (.int .i64 x7) := fun y => (B0_2.out.ext y.2).cell rfl
    have cB08 : ∀ y : Aft w2, y.1.cell? ⟨w.heap.size, 8, none⟩ = some (.int .i64 x8) := fun y => (B0_2.out.ext y.2).cell rfl
    have cB09 : ∀ y : Aft w2, y.1.cell? ⟨w.heap.size, 9, none⟩ = some (.slice a n c) := fun y => (B0_2.out.ext y.2).cell rfl
    have cB10 : ∀ y : Aft w2, y.1.cell? ⟨w.heap.size + 1, 0, none⟩ = some (.slice ta tn tc) := fun y => (B1_2.out.ext y.2).cell rfl
    have cB11 : ∀ y : Aft w2, y.1.cell? ⟨w.heap.size + 1, 1, none⟩ = some (.int .i64 vol) := fun y => (B1_2.out.ext y.2).cell rfl
    have cB12 : ∀ y : Aft w2, y.1.cell? ⟨w.heap.size + 1, 2, none⟩ = some (.slice pa pn pc) := fun y => (B1_2.out.ext y.2).cell rfl
    go_wp2_with fail
    (refine wp_region_aft w2 (Ext.refl _) (by kernel_rfl) (by kernel_rfl) ?_; (repeat (go_big_quiet_step ((first | (go_at_call 88; exact aft_call (specLockOk_any false _ _ _ _ _ _ _ _ _ _ _ _ ts _ HN.out HS.out HTS.out (HF.out.ext (HW2.out.trans (Subtype.property _))) HK1.out)))))); refine wpQuiet_nil ?_; intro w2 hx2)
    clear cB00 cB01 cB02 cB03 cB04 cB05 cB06 cB07 cB08 cB09 cB10 cB11 cB12
    obtain ⟨w3, hq⟩ : ∃ x, x = w2 := ⟨_, rfl⟩; subst hq
    have HW3 := Lib.hid (HW2.out.trans hx2)
    have B0_3 := Lib.hid (B0_2.out.ext hx2)
    have B1_3 := Lib.hid (B1_2.out.ext hx2)
    have RES0_3 := Lib.hid (RES0_2.out.ext hx2)
    have RES1_3 := Lib.hid (RES1_2.out.ext hx2)
    have X_3 := Lib.hid (X_2.out.ext hx2)
    have OT_3 := Lib.hid (OT_2.out.ext hx2)
    have zz3 := hx2.size
    clear HW2 B0_2 B1_2 RES0_2 RES1_2 X_2 OT_2 hx2
    go_wp2_with fail
    have KX := X_3
    have KB1 := B1_3
    have KRES0 := RES0_3
    have KRES1 := RES1_3
    have OOT := OT_3
    have HWX := HW3
    refine wp_region_held_drew (S := (fun w' => w'.cell? ⟨bX, 0, none⟩ = some (.int .i64 x0) ∧ w'.cell? ⟨bX, 1, none⟩ = some (.int .i64 x1) ∧ w'.cell? ⟨bX, 2, none⟩ = some (.int .i64 x2) ∧ w'.cell? ⟨bX, 3, none⟩ = some (.int .i64 x3) ∧ w'.cell? ⟨bX, 4, none⟩ = some (.int .i64 x4) ∧ w'.cell? ⟨bX, 5, none⟩ = some (.int .i64 x5) ∧ w'.cell? ⟨bX, 6, none⟩ = some (.int .i64 x6) ∧ w'.cell? ⟨bX, 7, none⟩ = some (.int .i64 x7) ∧ w'.cell? ⟨bX, 8, none⟩ = some (.int .i64 x8) ∧ w'.cell? ⟨bX, 9, none⟩ = some (.slice p n q) ∧ w'.cell? ⟨w.heap.size + 1, 0, none⟩ = some (.slice ta tn tc) ∧ w'.cell? ⟨w.heap.size + 1, 1, none⟩ = some (.int .i64 vol) ∧ w'.cell? ⟨w.heap.size + 1, 2, none⟩ = some (.slice pa pn pc))) (by kernel_rfl) ?_ (fun hH0 => ?_)
    · (try dsimp only)
      (exact ⟨KX.out.cell rfl, KX.out.cell rfl, KX.out.cell rfl, KX.out.cell rfl, KX.out.cell rfl, KX.out.cell rfl, KX.out.cell rfl, KX.out.cell rfl, KX.out.cell rfl, KX.out.cell rfl, KB1.out.cell rfl, KB1.out.cell rfl, KB1.out.cell rfl⟩)
    (obtain ⟨wc, hwc⟩ : ∃ x, x = w3.drew := ⟨_, rfl⟩; have hdr : Ext w3 wc := (by rw [hwc]; exact (Ext.refl _).drew); (try rw [← hwc] at hH0); (try rw [← hwc]); have zdr : w3.heap.size ≤ wc.heap.size := hdr.size; have HX := Lib.hid hdr; have KX := Lib.hid (X_3.out.ext hdr); have KB1 := Lib.hid (B1_3.out.ext hdr); have KRES0 := Lib.hid (RES0_3.out.ext hdr); have KRES1 := Lib.hid (RES1_3.out.ext hdr); have OOT := Lib.hid (OT_3.out.ext hdr); clear hwc hdr; replace HWX := Lib.hid (HWX.out.trans HX.out))
    refine take_l 0 (v := ?_) rfl (by kernel_rfl) (by kernel_rfl) (by kernel_rfl) (fun _ _ _ h => h) (by rfl) ?_ (by assumption) ?_
    rotate_left
    · (intro w hSw; (try dsimp only at hSw); go_simp; (try with_reducible rfl))
    (try simp only [Act.put, List.setIfInBounds_toArray, List.set_cons_zero, List.set_cons_succ])
    refine take_l 1 (v := ?_) rfl (by kernel_rfl) (by kernel_rfl) (by kernel_rfl) (fun _ _ _ h => h) (by rfl) ?_ (by assumption) ?_
    rotate_left
    · (intro w hSw; (try dsimp only at hSw); go_simp; (try with_reducible rfl))
    (try simp only [Act.put, List.setIfInBounds_toArray, List.set_cons_zero, List.set_cons_succ])
    refine wpAnyH_ready (rs := [2]) (by kernel_rfl) (by simp) ?_
    refine cons_l (i := 2) rfl (fun K hK => ?_) ?_
    (go_simp; obtain ⟨lo2, hlo2⟩ : ∃ n, n = wc.heap.size := ⟨_, rfl⟩; have mlo2 : lo2 ≤ wc.heap.size := Nat.le_of_eq hlo2; have nlo2 : wc.heap.size ≤ lo2 := Nat.le_of_eq hlo2.symm; have xwlo2 : w3.heap.size ≤ lo2 := Nat.le_trans HX.out.size nlo2; (go_at_call 96; with_reducible refine (l02Copy_any _ _ _ _ _ _ _ ps xs _ HT.out htl HP.out hpl (HFT.out.ext HWX.out) (HFP.out.ext HWX.out) HCT.out HCP.out).mono ?_); rintro e wc ⟨a1, c1, a2, c2, rfl, hg2, hb⟩; have zz2 := hb.size; obtain ⟨hi2, hhi2⟩ : ∃ n, n = wc.heap.size := ⟨_, rfl⟩; have mhi2 : hi2 ≤ wc.heap.size := Nat.le_of_eq hhi2; have nhi2 : wc.heap.size ≤ hi2 := Nat.le_of_eq hhi2.symm; (try rw [← hlo2] at hg2); (try rw [← hhi2] at hg2); clear hlo2; clear hhi2; (try replace KX := Lib.hid (KX.out.ext hb)); (try replace KB1 := Lib.hid (KB1.out.ext hb)); (try replace KRES0 := Lib.hid (KRES0.out.ext hb)); (try replace KRES1 := Lib.hid (KRES1.out.ext hb)); (try replace OOT := Lib.hid (OOT.out.ext hb)); (try replace OR := Lib.hid (OR.out.ext hb)); (try replace HWX := Lib.hid (HWX.out.trans hb)); replace HX := Lib.hid (HX.out.trans hb); have OR := Lib.hid hg2; clear hg2; clear hb)
    refine hK.out _ _ ?_ (fun hH1 => ?_)
    · (try dsimp only)
      (exact ⟨KX.out.cell rfl, KX.out.cell rfl, KX.out.cell rfl, KX.out.cell rfl, KX.out.cell rfl, KX.out.cell rfl, KX.out.cell rfl, KX.out.cell rfl, KX.out.cell rfl, KX.out.cell rfl, KB1.out.cell rfl, KB1.out.cell rfl, KB1.out.cell rfl⟩)
    clear hK K hH0
    (try simp only [Act.put, List.setIfInBounds_toArray, List.set_cons_zero, List.set_cons_succ])
    refine wpAnyH_ready (rs := [3]) (by kernel_rfl) (by simp) ?_
    refine cons_l (i := 3) rfl (fun K hK => ?_) ?_
    (have hs0 := KRES0.out.cell (j := 0) (v := .int .i64 0) rfl; have hf0 := KRES0.out.frozen 0; have hs1 := KRES0.out.cell (j := 1) (v := .int .i64 0) rfl; have hf1 := KRES0.out.frozen 1; have hs2 := KRES0.out.cell (j := 2) (v := .int .i64 0) rfl; have hf2 := KRES0.out.frozen 2; have hs3 := KRES0.out.cell (j := 3) (v := .int .i64 0) rfl; have hf3 := KRES0.out.frozen 3; have hs4 := KRES0.out.cell (j := 4) (v := .int .i64 0) rfl; have hf4 := KRES0.out.frozen 4; have hs5 := KRES0.out.cell (j := 5) (v := .int .i64 0) rfl; have hf5 := KRES0.out.frozen 5; have hs6 := KRES0.out.cell (j := 6) (v := .int .i64 0) rfl; have hf6 := KRES0.out.frozen 6; have hs7 := KRES0.out.cell (j := 7) (v := .int .i64 0) rfl; have hf7 := KRES0.out.frozen 7; have hs8 := KRES0.out.cell (j := 8) (v := .int .i64 0) rfl; have hf8 := KRES0.out.frozen 8; have hs9 := KRES0.out.cell (j := 9) (v := .slice none 0 0) rfl; have hf9 := KRES0.out.frozen 9; go_simp; clear hs0 hf0 hs1 hf1 hs2 hf2 hs3 hf3 hs4 hf4 hs5 hf5 hs6 hf6 hs7 hf7 hs8 hf8 hs9 hf9; obtain ⟨wn, hwn⟩ : ∃ x, x = putAt wc (w.heap.size + 1 + 1) 0 [.int .i64 x0, .int .i64 x1, .int .i64 x2, .int .i64 x3, .int .i64 x4, .int .i64 x5, .int .i64 x6, .int .i64 x7, .int .i64 x8, .slice p n q] := ⟨_, rfl⟩; have en : ((((((((((wc.setCell ⟨w.heap.size + 1 + 1, 0, none⟩ (.int .i64 x0)).setCell ⟨w.heap.size + 1 + 1, 1, none⟩ (.int .i64 x1)).setCell ⟨w.heap.size + 1 + 1, 2, none⟩ (.int .i64 x2)).setCell ⟨w.heap.size + 1 + 1, 3, none⟩ (.int .i64 x3)).setCell ⟨w.heap.size + 1 + 1, 4, none⟩ (.int .i64 x4)).setCell ⟨w.heap.size + 1 + 1, 5, none⟩ (.int .i64 x5)).setCell ⟨w.heap.size + 1 + 1, 6, none⟩ (.int .i64 x6)).setCell ⟨w.heap.size + 1 + 1, 7, none⟩ (.int .i64 x7)).setCell ⟨w.heap.size + 1 + 1, 8, none⟩ (.int .i64 x8)).setCell ⟨w.heap.size + 1 + 1, 9, none⟩ (.slice p n q)) = wn := (by rw [hwn]; rfl); rw [en]; clear en; have zz3 : wc.heap.size ≤ wn.heap.size := (by rw [hwn, put_size]; exact Nat.le_refl _); (first | replace HX := Lib.hid (show Ext w3 wn by rw [hwn]; exact put_ext (by first | assumption | omega) _ _ _ HX.out) | skip); (try replace KX := Lib.hid (show RowAt wn (bX) 26 _ by rw [hwn]; exact put_other (by omega) _ _ _ KX.out)); (try replace KB1 := Lib.hid (show RowAt wn (w.heap.size + 1) 40 _ by rw [hwn]; exact put_other (by omega) _ _ _ KB1.out)); replace KRES0 := Lib.hid (RowAt.cast (c' := #[.int .i64 x0, .int .i64 x1, .int .i64 x2, .int .i64 x3, .int .i64 x4, .int .i64 x5, .int .i64 x6, .int .i64 x7, .int .i64 x8, .slice p n q]) (show RowAt wn (w.heap.size + 1 + 1) 26 (putArr #[.int .i64 0, .int .i64 0, .int .i64 0, .int .i64 0, .int .i64 0, .int .i64 0, .int .i64 0, .int .i64 0, .int .i64 0, .slice none 0 0] 0 [.int .i64 x0, .int .i64 x1, .int .i64 x2, .int .i64 x3, .int .i64 x4, .int .i64 x5, .int .i64 x6, .int .i64 x7, .int .i64 x8, .slice p n q]) by rw [hwn]; exact put_at _ _ _ _ KRES0.out) (by simp [putArr])); (try replace KRES1 := Lib.hid (show RowAt wn (w.heap.size + 1 + 1 + 1) 40 _ by rw [hwn]; exact put_other (by omega) _ _ _ KRES1.out)); (try replace OOT := Lib.hid (OOT.out.keep (w' := wn) (Nat.le_refl _) (Nat.le_refl _) (by rw [hwn]; exact put_kept (by omega)))); (try replace OR := Lib.hid (OR.out.keep (w' := wn) (Nat.le_refl _) (Nat.le_refl _) (by rw [hwn]; exact put_kept (by omega)))); (try replace HWX := Lib.hid (show Ext _ wn by rw [hwn]; exact put_ext (by omega) _ _ _ HWX.out)); clear hwn; obtain ⟨wc, hq⟩ : ∃ x, x = wn := ⟨_, rfl⟩; subst hq)
    refine hK.out _ _ ?_ (fun hH2 => ?_)
    · (try dsimp only)
      (exact ⟨KX.out.cell rfl, KX.out.cell rfl, KX.out.cell rfl, KX.out.cell rfl, KX.out.cell rfl, KX.out.cell rfl, KX.out.cell rfl, KX.out.cell rfl, KX.out.cell rfl, KX.out.cell rfl, KB1.out.cell rfl, KB1.out.cell rfl, KB1.out.cell rfl⟩)
    clear hK K hH1
    (try simp only [Act.put, List.setIfInBounds_toArray, List.set_cons_zero, List.set_cons_succ])
    refine wpAnyH_ready (rs := [4]) (by kernel_rfl) (by simp) ?_
    refine cons_l (i := 4) rfl (fun K hK => ?_) ?_
    (have hs0 := KRES1.out.cell (j := 0) (v := .slice none 0 0) rfl; have hf0 := KRES1.out.frozen 0; have hs1 := KRES1.out.cell (j := 1) (v := .int .i64 0) rfl; have hf1 := KRES1.out.frozen 1; have hs2 := KRES1.out.cell (j := 2) (v := .slice none 0 0) rfl; have hf2 := KRES1.out.frozen 2; go_simp; clear hs0 hf0 hs1 hf1 hs2 hf2; obtain ⟨wn, hwn⟩ : ∃ x, x = putAt wc (w.heap.size + 1 + 1 + 1) 0 [.slice a1 tn c1, .int .i64 vol, .slice a2 pn c2] := ⟨_, rfl⟩; have en : (((wc.setCell ⟨w.heap.size + 1 + 1 + 1, 0, none⟩ (.slice a1 tn c1)).setCell ⟨w.heap.size + 1 + 1 + 1, 1, none⟩ (.int .i64 vol)).setCell ⟨w.heap.size + 1 + 1 + 1, 2, none⟩ (.slice a2 pn c2)) = wn := (by rw [hwn]; rfl); rw [en]; clear en; have zz4 : wc.heap.size ≤ wn.heap.size := (by rw [hwn, put_size]; exact Nat.le_refl _); (first | replace HX := Lib.hid (show Ext w3 wn by rw [hwn]; exact put_ext (by first | assumption | omega) _ _ _ HX.out) | skip); (try replace KX := Lib.hid (show RowAt wn (bX) 26 _ by rw [hwn]; exact put_other (by omega) _ _ _ KX.out)); (try replace KB1 := Lib.hid (show RowAt wn (w.heap.size + 1) 40 _ by rw [hwn]; exact put_other (by omega) _ _ _ KB1.out)); (try replace KRES0 := Lib.hid (show RowAt wn (w.heap.size + 1 + 1) 26 _ by rw [hwn]; exact put_other (by omega) _ _ _ KRES0.out)); replace KRES1 := Lib.hid (RowAt.cast (c' := #[.slice a1 tn c1, .int .i64 vol, .slice a2 pn c2]) (show RowAt wn (w.heap.size + 1 + 1 + 1) 40 (putArr #[.slice none 0 0, .int .i64 0, .slice none 0 0] 0 [.slice a1 tn c1, .int .i64 vol, .slice a2 pn c2]) by rw [hwn]; exact put_at _ _ _ _ KRES1.out) (by simp [putArr])); (try replace OOT := Lib.hid (OOT.out.keep (w' := wn) (Nat.le_refl _) (Nat.le_refl _) (by rw [hwn]; exact put_kept (by omega)))); (try replace OR := Lib.hid (OR.out.keep (w' := wn) (Nat.le_refl _) (Nat.le_refl _) (by rw [hwn]; exact put_kept (by omega)))); (try replace HWX := Lib.hid (show Ext _ wn by rw [hwn]; exact put_ext (by omega) _ _ _ HWX.out)); clear hwn; obtain ⟨wc, hq⟩ : ∃ x, x = wn := ⟨_, rfl⟩; subst hq)
    refine hK.out _ _ ?_ (fun hH3 => ?_)
    · (try dsimp only)
      (exact ⟨KX.out.cell rfl, KX.out.cell rfl, KX.out.cell rfl, KX.out.cell rfl, KX.out.cell rfl, KX.out.cell rfl, KX.out.cell rfl, KX.out.cell rfl, KX.out.cell rfl, KX.out.cell rfl, KB1.out.cell rfl, KB1.out.cell rfl, KB1.out.cell rfl⟩)
    clear hK K hH2
    (try simp only [Act.put, List.setIfInBounds_toArray, List.set_cons_zero, List.set_cons_succ])
    refine wpAnyH_done (by kernel_rfl) ?_ _
    rotate_left
    exact AllReadyH.nil
    exact AllReadyH.nil
    exact AllReadyH.nil
    go_wp2
    have q0_0 : wc.cell? ⟨w.heap.size + 1 + 1, 0, none⟩ = some (.int .i64 x0) := KRES0.out.cell rfl
    have q0_1 : wc.cell? ⟨w.heap.size + 1 + 1, 1, none⟩ = some (.int .i64 x1) := KRES0.out.cell rfl
    have q0_2 : wc.cell? ⟨w.heap.size + 1 + 1, 2, none⟩ = some (.int .i64 x2) := KRES0.out.cell rfl
    have q0_3 : wc.cell? ⟨w.heap.size + 1 + 1, 3, none⟩ = some (.int .i64 x3) := KRES0.out.cell rfl
    have q0_4 : wc.cell? ⟨w.heap.size + 1 + 1, 4, none⟩ = some (.int .i64 x4) := KRES0.out.cell rfl
    have q0_5 : wc.cell? ⟨w.heap.size + 1 + 1, 5, none⟩ = some (.int .i64 x5) := KRES0.out.cell rfl
    have q0_6 : wc.cell? ⟨w.heap.size + 1 + 1, 6, none⟩ = some (.int .i64 x6) := KRES0.out.cell rfl
    have q0_7 : wc.cell? ⟨w.heap.size + 1 + 1, 7, none⟩ = some (.int .i64 x7) := KRES0.out.cell rfl
    have q0_8 : wc.cell? ⟨w.heap.size + 1 + 1, 8, none⟩ = some (.int .i64 x8) := KRES0.out.cell rfl
    have q0_9 : wc.cell? ⟨w.heap.size + 1 + 1, 9, none⟩ = some (.slice p n q) := KRES0.out.cell rfl
    have q1_0 : wc.cell? ⟨w.heap.size + 1 + 1 + 1, 0, none⟩ = some (.slice a1 tn c1) := KRES1.out.cell rfl
    have q1_1 : wc.cell? ⟨w.heap.size + 1 + 1 + 1, 1, none⟩ = some (.int .i64 vol) := KRES1.out.cell rfl
    have q1_2 : wc.cell? ⟨w.heap.size + 1 + 1 + 1, 2, none⟩ = some (.slice a2 pn c2) := KRES1.out.cell rfl
    refine bodyPost_ret (v := .tuple #[.agg #[.int .i64 x0, .int .i64 x1, .int .i64 x2, .int .i64 x3, .int .i64 x4, .int .i64 x5, .int .i64 x6, .int .i64 x7, .int .i64 x8, .slice p n q], .agg #[.slice a1 tn c1, .int .i64 vol, .slice a2 pn c2]]) (by simp [results, Try.results44, go_sem, *]) rfl ⟨p, q, _, _, _, _, rfl, LockReach.mk (lo1 := ((((w.alloc (.cells #[.int .i64 x0, .int .i64 x1, .int .i64 x2, .int .i64 x3, .int .i64 x4, .int .i64 x5, .int .i64 x6, .int .i64 x7, .int .i64 x8, .slice a n c] 26)).alloc (.cells #[.slice ta tn tc, .int .i64 vol, .slice pa pn pc] 40)).alloc (.cells #[.int .i64 0, .int .i64 0, .int .i64 0, .int .i64 0, .int .i64 0, .int .i64 0, .int .i64 0, .int .i64 0, .int .i64 0, .slice none 0 0] 26)).alloc (.cells #[.slice none 0 0, .int .i64 0, .slice none 0 0] 40)).heap.size) (hi1 := w1.heap.size) (lo2 := lo2) (hi2 := hi2) (by omega) (by omega) (by omega) (by omega) (by omega) OOT.out OR.out, HWX.out⟩
  cases k2
  · obtain ⟨rfl, rfl, rfl⟩ : x7 = wa ∧ vol = vo ∧ xs = xo := by simpa using hres
    clear hres
    have cB00 : ∀ y : Aft w2, y.1.cell? ⟨w.heap.size, 0, none⟩ = some (.int .i64 x0) := fun y => (B0_2.out.ext y.2).cell rfl
    have cB01 : ∀ y : Aft w2, y.1.cell? ⟨w.heap.size, 1, none⟩ = some (.int .i64 x1) := fun y => (B0_2.out.ext y.2).cell rfl
    have cB02 : ∀ y : Aft w2, y.1.cell? ⟨w.heap.size, 2, none⟩ = some (.int .i64 x2) := fun y => (B0_2.out.ext y.2).cell rfl
    have cB03 : ∀ y : Aft w2, y.1.cell? ⟨w.heap.size, 3, none⟩ = some (.int .i64 x3) := fun y => (B0_2.out.ext y.2).cell rfl
    have cB04 : ∀ y : Aft w2, y.1.cell? ⟨w.heap.size, 4, none⟩ = some (.int .i64 x4) := fun y => (B0_2.out.ext y.2).cell rfl
    have cB05 : ∀ y : Aft w2, y.1.cell? ⟨w.heap.size, 5, none⟩ = some (.int .i64 x5) := fun y => (B0_2.out.ext y.2).cell rfl
    have cB06 : ∀ y : Aft w2, y.1.cell? ⟨w.heap.size, 6, none⟩ = some (.int .i64 x6) := fun y => (B0_2.out.ext y.2).cell rfl
    have cB07 : ∀ y : Aft w2, y.1.cell? ⟨w.heap.size, 7, none⟩ = some (.int .i64 x7) := fun y => (B0_2.out.ext y.2).cell rfl
    have cB08 : ∀ y : Aft w2, y.1.cell? ⟨w.heap.size, 8, none⟩ = some (.int .i64 x8) := fun y => (B0_2.out.ext y.2).cell rfl
    have cB09 : ∀ y : Aft w2, y.1.cell? ⟨w.heap.size, 9, none⟩ = some (.slice a n c) := fun y => (B0_2.out.ext y.2).cell rfl
    have cB10 : ∀ y : Aft w2, y.1.cell? ⟨w.heap.size + 1, 0, none⟩ = some (.slice ta tn tc) := fun y => (B1_2.out.ext y.2).cell rfl
    have cB11 : ∀ y : Aft w2, y.1.cell? ⟨w.heap.size + 1, 1, none⟩ = some (.int .i64 vol) := fun y => (B1_2.out.ext y.2).cell rfl
    have cB12 : ∀ y : Aft w2, y.1.cell? ⟨w.heap.size + 1, 2, none⟩ = some (.slice pa pn pc) := fun y => (B1_2.out.ext y.2).cell rfl
    go_wp2_with fail
    (refine wp_region_aft w2 (Ext.refl _) (by kernel_rfl) (by kernel_rfl) ?_; (repeat (go_big_quiet_step ((first | (go_at_call 88; exact aft_call (specLockOk_any true _ _ _ _ _ _ _ _ _ _ _ _ ts _ HN.out HS.out HTS.out (HF.out.ext (HW2.out.trans (Subtype.property _))) HK1.out)) | (go_at_call 81; exact aft_call (specReachOk_is false _ _ _ _ _ _ _ ps xs _ HT.out HTL.out HP.out HPL.out (HFT.out.ext (HW2.out.trans (Subtype.property _))) (HFP.out.ext (HW2.out.trans (Subtype.property _))) hvol HK2.out)))))); refine wpQuiet_nil ?_; intro w2 hx2)
    clear cB00 cB01 cB02 cB03 cB04 cB05 cB06 cB07 cB08 cB09 cB10 cB11 cB12
    obtain ⟨w3, hq⟩ : ∃ x, x = w2 := ⟨_, rfl⟩; subst hq
    have HW3 := Lib.hid (HW2.out.trans hx2)
    have B0_3 := Lib.hid (B0_2.out.ext hx2)
    have B1_3 := Lib.hid (B1_2.out.ext hx2)
    have RES0_3 := Lib.hid (RES0_2.out.ext hx2)
    have RES1_3 := Lib.hid (RES1_2.out.ext hx2)
    have X_3 := Lib.hid (X_2.out.ext hx2)
    have OT_3 := Lib.hid (OT_2.out.ext hx2)
    have zz3 := hx2.size
    clear HW2 B0_2 B1_2 RES0_2 RES1_2 X_2 OT_2 hx2
    go_wp2_with fail
    have KX := X_3
    have KB1 := B1_3
    have KRES0 := RES0_3
    have KRES1 := RES1_3
    have OOT := OT_3
    have HWX := HW3
    refine wp_region_held_drew (S := (fun w' => w'.cell? ⟨bX, 0, none⟩ = some (.int .i64 x0) ∧ w'.cell? ⟨bX, 1, none⟩ = some (.int .i64 x1) ∧ w'.cell? ⟨bX, 2, none⟩ = some (.int .i64 x2) ∧ w'.cell? ⟨bX, 3, none⟩ = some (.int .i64 x3) ∧ w'.cell? ⟨bX, 4, none⟩ = some (.int .i64 x4) ∧ w'.cell? ⟨bX, 5, none⟩ = some (.int .i64 x5) ∧ w'.cell? ⟨bX, 6, none⟩ = some (.int .i64 x6) ∧ w'.cell? ⟨bX, 7, none⟩ = some (.int .i64 x7) ∧ w'.cell? ⟨bX, 8, none⟩ = some (.int .i64 x8) ∧ w'.cell? ⟨bX, 9, none⟩ = some (.slice p n q) ∧ w'.cell? ⟨w.heap.size + 1, 0, none⟩ = some (.slice ta tn tc) ∧ w'.cell? ⟨w.heap.size + 1, 1, none⟩ = some (.int .i64 vol) ∧ w'.cell? ⟨w.heap.size + 1, 2, none⟩ = some (.slice pa pn pc))) (by kernel_rfl) ?_ (fun hH0 => ?_)
    · (try dsimp only)
      (exact ⟨KX.out.cell rfl, KX.out.cell rfl, KX.out.cell rfl, KX.out.cell rfl, KX.out.cell rfl, KX.out.cell rfl, KX.out.cell rfl, KX.out.cell rfl, KX.out.cell rfl, KX.out.cell rfl, KB1.out.cell rfl, KB1.out.cell rfl, KB1.out.cell rfl⟩)
    (obtain ⟨wc, hwc⟩ : ∃ x, x = w3.drew := ⟨_, rfl⟩; have hdr : Ext w3 wc := (by rw [hwc]; exact (Ext.refl _).drew); (try rw [← hwc] at hH0); (try rw [← hwc]); have zdr : w3.heap.size ≤ wc.heap.size := hdr.size; have HX := Lib.hid hdr; have KX := Lib.hid (X_3.out.ext hdr); have KB1 := Lib.hid (B1_3.out.ext hdr); have KRES0 := Lib.hid (RES0_3.out.ext hdr); have KRES1 := Lib.hid (RES1_3.out.ext hdr); have OOT := Lib.hid (OT_3.out.ext hdr); clear hwc hdr; replace HWX := Lib.hid (HWX.out.trans HX.out))
    refine take_l 0 (v := ?_) rfl (by kernel_rfl) (by kernel_rfl) (by kernel_rfl) (fun _ _ _ h => h) (by rfl) ?_ (by assumption) ?_
    rotate_left
    · (intro w hSw; (try dsimp only at hSw); go_simp; (try with_reducible rfl))
    (try simp only [Act.put, List.setIfInBounds_toArray, List.set_cons_zero, List.set_cons_succ])
    refine take_l 1 (v := ?_) rfl (by kernel_rfl) (by kernel_rfl) (by kernel_rfl) (fun _ _ _ h => h) (by rfl) ?_ (by assumption) ?_
    rotate_left
    · (intro w hSw; (try dsimp only at hSw); go_simp; (try with_reducible rfl))
    (try simp only [Act.put, List.setIfInBounds_toArray, List.set_cons_zero, List.set_cons_succ])
    refine wpAnyH_ready (rs := [2]) (by kernel_rfl) (by simp) ?_
    refine cons_l (i := 2) rfl (fun K hK => ?_) ?_
    (go_simp; obtain ⟨lo2, hlo2⟩ : ∃ n, n = wc.heap.size := ⟨_, rfl⟩; have mlo2 : lo2 ≤ wc.heap.size := Nat.le_of_eq hlo2; have nlo2 : wc.heap.size ≤ lo2 := Nat.le_of_eq hlo2.symm; have xwlo2 : w3.heap.size ≤ lo2 := Nat.le_trans HX.out.size nlo2; (go_at_call 96; with_reducible refine (l02Copy_any _ _ _ _ _ _ _ ps xs _ HT.out htl HP.out hpl (HFT.out.ext HWX.out) (HFP.out.ext HWX.out) HCT.out HCP.out).mono ?_); rintro e wc ⟨a1, c1, a2, c2, rfl, hg2, hb⟩; have zz2 := hb.size; obtain ⟨hi2, hhi2⟩ : ∃ n, n = wc.heap.size := ⟨_, rfl⟩; have mhi2 : hi2 ≤ wc.heap.size := Nat.le_of_eq hhi2; have nhi2 : wc.heap.size ≤ hi2 := Nat.le_of_eq hhi2.symm; (try rw [← hlo2] at hg2); (try rw [← hhi2] at hg2); clear hlo2; clear hhi2; (try replace KX := Lib.hid (KX.out.ext hb)); (try replace KB1 := Lib.hid (KB1.out.ext hb)); (try replace KRES0 := Lib.hid (KRES0.out.ext hb)); (try replace KRES1 := Lib.hid (KRES1.out.ext hb)); (try replace OOT := Lib.hid (OOT.out.ext hb)); (try replace OR := Lib.hid (OR.out.ext hb)); (try replace HWX := Lib.hid (HWX.out.trans hb)); replace HX := Lib.hid (HX.out.trans hb); have OR := Lib.hid hg2; clear hg2; clear hb)
    refine hK.out _ _ ?_ (fun hH1 => ?_)
    · (try dsimp only)
      (exact ⟨KX.out.cell rfl, KX.out.cell rfl, KX.out.cell rfl, KX.out.cell rfl, KX.out.cell rfl, KX.out.cell rfl, KX.out.cell rfl, KX.out.cell rfl, KX.out.cell rfl, KX.out.cell rfl, KB1.out.cell rfl, KB1.out.cell rfl, KB1.out.cell rfl⟩)
    clear hK K hH0
    (try simp only [Act.put, List.setIfInBounds_toArray, List.set_cons_zero, List.set_cons_succ])
    refine wpAnyH_ready (rs := [3]) (by kernel_rfl) (by simp) ?_
    refine cons_l (i := 3) rfl (fun K hK => ?_) ?_
    (have hs0 := KRES0.out.cell (j := 0) (v := .int .i64 0) rfl; have hf0 := KRES0.out.frozen 0; have hs1 := KRES0.out.cell (j := 1) (v := .int .i64 0) rfl; have hf1 := KRES0.out.frozen 1; have hs2 := KRES0.out.cell (j := 2) (v := .int .i64 0) rfl; have hf2 := KRES0.out.frozen 2; have hs3 := KRES0.out.cell (j := 3) (v := .int .i64 0) rfl; have hf3 := KRES0.out.frozen 3; have hs4 := KRES0.out.cell (j := 4) (v := .int .i64 0) rfl; have hf4 := KRES0.out.frozen 4; have hs5 := KRES0.out.cell (j := 5) (v := .int .i64 0) rfl; have hf5 := KRES0.out.frozen 5; have hs6 := KRES0.out.cell (j := 6) (v := .int .i64 0) rfl; have hf6 := KRES0.out.frozen 6; have hs7 := KRES0.out.cell (j := 7) (v := .int .i64 0) rfl; have hf7 := KRES0.out.frozen 7; have hs8 := KRES0.out.cell (j := 8) (v := .int .i64 0) rfl; have hf8 := KRES0.out.frozen 8; have hs9 := KRES0.out.cell (j := 9) (v := .slice none 0 0) rfl; have hf9 := KRES0.out.frozen 9; go_simp; clear hs0 hf0 hs1 hf1 hs2 hf2 hs3 hf3 hs4 hf4 hs5 hf5 hs6 hf6 hs7 hf7 hs8 hf8 hs9 hf9; obtain ⟨wn, hwn⟩ : ∃ x, x = putAt wc (w.heap.size + 1 + 1) 0 [.int .i64 x0, .int .i64 x1, .int .i64 x2, .int .i64 x3, .int .i64 x4, .int .i64 x5, .int .i64 x6, .int .i64 x7, .int .i64 x8, .slice p n q] := ⟨_, rfl⟩; have en : ((((((((((wc.setCell ⟨w.heap.size + 1 + 1, 0, none⟩ (.int .i64 x0)).setCell ⟨w.heap.size + 1 + 1, 1, none⟩ (.int .i64 x1)).setCell ⟨w.heap.size + 1 + 1, 2, none⟩ (.int .i64 x2)).setCell ⟨w.heap.size + 1 + 1, 3, none⟩ (.int .i64 x3)).setCell ⟨w.heap.size + 1 + 1, 4, none⟩ (.int .i64 x4)).setCell ⟨w.heap.size + 1 + 1, 5, none⟩ (.int .i64 x5)).setCell ⟨w.heap.size + 1 + 1, 6, none⟩ (.int .i64 x6)).setCell ⟨w.heap.size + 1 + 1, 7, none⟩ (.int .i64 x7)).setCell ⟨w.heap.size + 1 + 1, 8, none⟩ (.int .i64 x8)).setCell ⟨w.heap.size + 1 + 1, 9, none⟩ (.slice p n q)) = wn := (by rw [hwn]; rfl); rw [en]; clear en; have zz3 : wc.heap.size ≤ wn.heap.size := (by rw [hwn, put_size]; exact Nat.le_refl _); (first | replace HX := Lib.hid (show Ext w3 wn by rw [hwn]; exact put_ext (by first | assumption | omega) _ _ _ HX.out) | skip); (try replace KX := Lib.hid (show RowAt wn (bX) 26 _ by rw [hwn]; exact put_other (by omega) _ _ _ KX.out)); (try replace KB1 := Lib.hid (show RowAt wn (w.heap.size + 1) 40 _ by rw [hwn]; exact put_other (by omega) _ _ _ KB1.out)); replace KRES0 := Lib.hid (RowAt.cast (c' := #[.int .i64 x0, .int .i64 x1, .int .i64 x2, .int .i64 x3, .int .i64 x4, .int .i64 x5, .int .i64 x6, .int .i64 x7, .int .i64 x8, .slice p n q]) (show RowAt wn (w.heap.size + 1 + 1) 26 (putArr #[.int .i64 0, .int .i64 0, .int .i64 0, .int .i64 0, .int .i64 0, .int .i64 0, .int .i64 0, .int .i64 0, .int .i64 0, .slice none 0 0] 0 [.int .i64 x0, .int .i64 x1, .int .i64 x2, .int .i64 x3, .int .i64 x4, .int .i64 x5, .int .i64 x6, .int .i64 x7, .int .i64 x8, .slice p n q]) by rw [hwn]; exact put_at _ _ _ _ KRES0.out) (by simp [putArr])); (try replace KRES1 := Lib.hid (show RowAt wn (w.heap.size + 1 + 1 + 1) 40 _ by rw [hwn]; exact put_other (by omega) _ _ _ KRES1.out)); (try replace OOT := Lib.hid (OOT.out.keep (w' := wn) (Nat.le_refl _) (Nat.le_refl _) (by rw [hwn]; exact put_kept (by omega)))); (try replace OR := Lib.hid (OR.out.keep (w' := wn) (Nat.le_refl _) (Nat.le_refl _) (by rw [hwn]; exact put_kept (by omega)))); (try replace HWX := Lib.hid (show Ext _ wn by rw [hwn]; exact put_ext (by omega) _ _ _ HWX.out)); clear hwn; obtain ⟨wc, hq⟩ : ∃ x, x = wn := ⟨_, rfl⟩; subst hq)
    refine hK.out _ _ ?_ (fun hH2 => ?_)
    · (try dsimp only)
      (exact ⟨KX.out.cell rfl, KX.out.cell rfl, KX.out.cell rfl, KX.out.cell rfl, KX.out.cell rfl, KX.out.cell rfl, KX.out.cell rfl, KX.out.cell rfl, KX.out.cell rfl, KX.out.cell rfl, KB1.out.cell rfl, KB1.out.cell rfl, KB1.out.cell rfl⟩)
    clear hK K hH1
    (try simp only [Act.put, List.setIfInBounds_toArray, List.set_cons_zero, List.set_cons_succ])
    refine wpAnyH_ready (rs := [4]) (by kernel_rfl) (by simp) ?_
    refine cons_l (i := 4) rfl (fun K hK => ?_) ?_
    (have hs0 := KRES1.out.cell (j := 0) (v := .slice none 0 0) rfl; have hf0 := KRES1.out.frozen 0; have hs1 := KRES1.out.cell (j := 1) (v := .int .i64 0) rfl; have hf1 := KRES1.out.frozen 1; have hs2 := KRES1.out.cell (j := 2) (v := .slice none 0 0) rfl; have hf2 := KRES1.out.frozen 2; go_simp; clear hs0 hf0 hs1 hf1 hs2 hf2; obtain ⟨wn, hwn⟩ : ∃ x, x = putAt wc (w.heap.size + 1 + 1 + 1) 0 [.slice a1 tn c1, .int .i64 vol, .slice a2 pn c2] := ⟨_, rfl⟩; have en : (((wc.setCell ⟨w.heap.size + 1 + 1 + 1, 0, none⟩ (.slice a1 tn c1)).setCell ⟨w.heap.size + 1 + 1 + 1, 1, none⟩ (.int .i64 vol)).setCell ⟨w.heap.size + 1 + 1 + 1, 2, none⟩ (.slice a2 pn c2)) = wn := (by rw [hwn]; rfl); rw [en]; clear en; have zz4 : wc.heap.size ≤ wn.heap.size := (by rw [hwn, put_size]; exact Nat.le_refl _); (first | replace HX := Lib.hid (show Ext w3 wn by rw [hwn]; exact put_ext (by first | assumption | omega) _ _ _ HX.out) | skip); (try replace KX := Lib.hid (show RowAt wn (bX) 26 _ by rw [hwn]; exact put_other (by omega) _ _ _ KX.out)); (try replace KB1 := Lib.hid (show RowAt wn (w.heap.size + 1) 40 _ by rw [hwn]; exact put_other (by omega) _ _ _ KB1.out)); (try replace KRES0 := Lib.hid (show RowAt wn (w.heap.size + 1 + 1) 26 _ by rw [hwn]; exact put_other (by omega) _ _ _ KRES0.out)); replace KRES1 := Lib.hid (RowAt.cast (c' := #[.slice a1 tn c1, .int .i64 vol, .slice a2 pn c2]) (show RowAt wn (w.heap.size + 1 + 1 + 1) 40 (putArr #[.slice none 0 0, .int .i64 0, .slice none 0 0] 0 [.slice a1 tn c1, .int .i64 vol, .slice a2 pn c2]) by rw [hwn]; exact put_at _ _ _ _ KRES1.out) (by simp [putArr])); (try replace OOT := Lib.hid (OOT.out.keep (w' := wn) (Nat.le_refl _) (Nat.le_refl _) (by rw [hwn]; exact put_kept (by omega)))); (try replace OR := Lib.hid (OR.out.keep (w' := wn) (Nat.le_refl _) (Nat.le_refl _) (by rw [hwn]; exact put_kept (by omega)))); (try replace HWX := Lib.hid (show Ext _ wn by rw [hwn]; exact put_ext (by omega) _ _ _ HWX.out)); clear hwn; obtain ⟨wc, hq⟩ : ∃ x, x = wn := ⟨_, rfl⟩; subst hq)
    refine hK.out _ _ ?_ (fun hH3 => ?_)
    · (try dsimp only)
      (exact ⟨KX.out.cell rfl, KX.out.cell rfl, KX.out.cell rfl, KX.out.cell rfl, KX.out.cell rfl, KX.out.cell rfl, KX.out.cell rfl, KX.out.cell rfl, KX.out.cell rfl, KX.out.cell rfl, KB1.out.cell rfl, KB1.out.cell rfl, KB1.out.cell rfl⟩)
    clear hK K hH2
    (try simp only [Act.put, List.setIfInBounds_toArray, List.set_cons_zero, List.set_cons_succ])
    refine wpAnyH_done (by kernel_rfl) ?_ _
    rotate_left
    exact AllReadyH.nil
    exact AllReadyH.nil
    exact AllReadyH.nil
    go_wp2
    have q0_0 : wc.cell? ⟨w.heap.size + 1 + 1, 0, none⟩ = some (.int .i64 x0) := KRES0.out.cell rfl
    have q0_1 : wc.cell? ⟨w.heap.size + 1 + 1, 1, none⟩ = some (.int .i64 x1) := KRES0.out.cell rfl
    have q0_2 : wc.cell? ⟨w.heap.size + 1 + 1, 2, none⟩ = some (.int .i64 x2) := KRES0.out.cell rfl
    have q0_3 : wc.cell? ⟨w.heap.size + 1 + 1, 3, none⟩ = some (.int .i64 x3) := KRES0.out.cell rfl
    have q0_4 : wc.cell? ⟨w.heap.size + 1 + 1, 4, none⟩ = some (.int .i64 x4) := KRES0.out.cell rfl
    have q0_5 : wc.cell? ⟨w.heap.size + 1 + 1, 5, none⟩ = some (.int .i64 x5) := KRES0.out.cell rfl
    have q0_6 : wc.cell? ⟨w.heap.size + 1 + 1, 6, none⟩ = some (.int .i64 x6) := KRES0.out.cell rfl
    have q0_7 : wc.cell? ⟨w.heap.size + 1 + 1, 7, none⟩ = some (.int .i64 x7) := KRES0.out.cell rfl
    have q0_8 : wc.cell? ⟨w.heap.size + 1 + 1, 8, none⟩ = some (.int .i64 x8) := KRES0.out.cell rfl
    have q0_9 : wc.cell? ⟨w.heap.size + 1 + 1, 9, none⟩ = some (.slice p n q) := KRES0.out.cell rfl
    have q1_0 : wc.cell? ⟨w.heap.size + 1 + 1 + 1, 0, none⟩ = some (.slice a1 tn c1) := KRES1.out.cell rfl
    have q1_1 : wc.cell? ⟨w.heap.size + 1 + 1 + 1, 1, none⟩ = some (.int .i64 vol) := KRES1.out.cell rfl
    have q1_2 : wc.cell? ⟨w.heap.size + 1 + 1 + 1, 2, none⟩ = some (.slice a2 pn c2) := KRES1.out.cell rfl
    refine bodyPost_ret (v := .tuple #[.agg #[.int .i64 x0, .int .i64 x1, .int .i64 x2, .int .i64 x3, .int .i64 x4, .int .i64 x5, .int .i64 x6, .int .i64 x7, .int .i64 x8, .slice p n q], .agg #[.slice a1 tn c1, .int .i64 vol, .slice a2 pn c2]]) (by simp [results, Try.results44, go_sem, *]) rfl ⟨p, q, _, _, _, _, rfl, LockReach.mk (lo1 := ((((w.alloc (.cells #[.int .i64 x0, .int .i64 x1, .int .i64 x2, .int .i64 x3, .int .i64 x4, .int .i64 x5, .int .i64 x6, .int .i64 x7, .int .i64 x8, .slice a n c] 26)).alloc (.cells #[.slice ta tn tc, .int .i64 vol, .slice pa pn pc] 40)).alloc (.cells #[.int .i64 0, .int .i64 0, .int .i64 0, .int .i64 0, .int .i64 0, .int .i64 0, .int .i64 0, .int .i64 0, .int .i64 0, .slice none 0 0] 26)).alloc (.cells #[.slice none 0 0, .int .i64 0, .slice none 0 0] 40)).heap.size) (hi1 := w1.heap.size) (lo2 := lo2) (hi2 := hi2) (by omega) (by omega) (by omega) (by omega) (by omega) OOT.out OR.out, HWX.out⟩
  cases k4
  · obtain ⟨rfl, rfl, rfl⟩ : x7 = wa ∧ vol = vo ∧ xs = xo := by simpa using hres
    clear hres
    have cB00 : ∀ y : Aft w2, y.1.cell? ⟨w.heap.size, 0, none⟩ = some (.int .i64 x0) := fun y => (B0_2.out.ext y.2).cell rfl
    have cB01 : ∀ y : Aft w2, y.1.cell? ⟨w.heap.size, 1, none⟩ = some (.int .i64 x1) := fun y => (B0_2.out.ext y.2).cell rfl
    have cB02 : ∀ y : Aft w2, y.1.cell? ⟨w.heap.size, 2, none⟩ = some (.int .i64 x2) := fun y => (B0_2.out.ext y.2).cell rfl
    have cB03 : ∀ y : Aft w2, y.1.cell? ⟨w.heap.size, 3, none⟩ = some (.int .i64 x3) := fun y => (B0_2.out.ext y.2).cell rfl
    have cB04 : ∀ y : Aft w2, y.1.cell? ⟨w.heap.size, 4, none⟩ = some (.int .i64 x4) := fun y => (B0_2.out.ext y.2).cell rfl
    have cB05 : ∀ y : Aft w2, y.1.cell? ⟨w.heap.size, 5, none⟩ = some (.int .i64 x5) := fun y => (B0_2.out.ext y.2).cell rfl
    have cB06 : ∀ y : Aft w2, y.1.cell? ⟨w.heap.size, 6, none⟩ = some (.int .i64 x6) := fun y => (B0_2.out.ext y.2).cell rfl
    have cB07 : ∀ y : Aft w2, y.1.cell? ⟨w.heap.size, 7, none⟩ = some (.int .i64 x7) := fun y => (B0_2.out.ext y.2).cell rfl
    have cB08 : ∀ y : Aft w2, y.1.cell? ⟨w.heap.size, 8, none⟩ = some (.int .i64 x8) := fun y => (B0_2.out.ext y.2).cell rfl
    have cB09 : ∀ y : Aft w2, y.1.cell? ⟨w.heap.size, 9, none⟩ = some (.slice a n c) := fun y => (B0_2.out.ext y.2).cell rfl
    have cB10 : ∀ y : Aft w2, y.1.cell? ⟨w.heap.size + 1, 0, none⟩ = some (.slice ta tn tc) := fun y => (B1_2.out.ext y.2).cell rfl
    have cB11 : ∀ y : Aft w2, y.1.cell? ⟨w.heap.size + 1, 1, none⟩ = some (.int .i64 vol) := fun y => (B1_2.out.ext y.2).cell rfl
    have cB12 : ∀ y : Aft w2, y.1.cell? ⟨w.heap.size + 1, 2, none⟩ = some (.slice pa pn pc) := fun y => (B1_2.out.ext y.2).cell rfl
    go_wp2_with fail
    (refine wp_region_aft w2 (Ext.refl _) (by kernel_rfl) (by kernel_rfl) ?_; (repeat (go_big_quiet_step ((first | (go_at_call 88; exact aft_call (specLockOk_any true _ _ _ _ _ _ _ _ _ _ _ _ ts _ HN.out HS.out HTS.out (HF.out.ext (HW2.out.trans (Subtype.property _))) HK1.out)) | (go_at_call 81; exact aft_call (specReachOk_is true _ _ _ _ _ _ _ ps xs _ HT.out HTL.out HP.out HPL.out (HFT.out.ext (HW2.out.trans (Subtype.property _))) (HFP.out.ext (HW2.out.trans (Subtype.property _))) hvol HK2.out)))))); refine wpQuiet_nil ?_; intro w2 hx2)
    clear cB00 cB01 cB02 cB03 cB04 cB05 cB06 cB07 cB08 cB09 cB10 cB11 cB12
    obtain ⟨w3, hq⟩ : ∃ x, x = w2 := ⟨_, rfl⟩; subst hq
    have HW3 := Lib.hid (HW2.out.trans hx2)
    have B0_3 := Lib.hid (B0_2.out.ext hx2)
    have B1_3 := Lib.hid (B1_2.out.ext hx2)
    have RES0_3 := Lib.hid (RES0_2.out.ext hx2)
    have RES1_3 := Lib.hid (RES1_2.out.ext hx2)
    have X_3 := Lib.hid (X_2.out.ext hx2)
    have OT_3 := Lib.hid (OT_2.out.ext hx2)
    have zz3 := hx2.size
    clear HW2 B0_2 B1_2 RES0_2 RES1_2 X_2 OT_2 hx2
    go_wp2_with fail
    have KX := X_3
    have KB1 := B1_3
    have KRES0 := RES0_3
    have KRES1 := RES1_3
    have OOT := OT_3
    have HWX := HW3
    refine wp_region_held_drew (S := (fun w' => w'.cell? ⟨bX, 0, none⟩ = some (.int .i64 x0) ∧ w'.cell? ⟨bX, 1, none⟩ = some (.int .i64 x1) ∧ w'.cell? ⟨bX, 2, none⟩ = some (.int .i64 x2) ∧ w'.cell? ⟨bX, 3, none⟩ = some (.int .i64 x3) ∧ w'.cell? ⟨bX, 4, none⟩ = some (.int .i64 x4) ∧ w'.cell? ⟨bX, 5, none⟩ = some (.int .i64 x5) ∧ w'.cell? ⟨bX, 6, none⟩ = some (.int .i64 x6) ∧ w'.cell? ⟨bX, 7, none⟩ = some (.int .i64 x7) ∧ w'.cell? ⟨bX, 8, none⟩ = some (.int .i64 x8) ∧ w'.cell? ⟨bX, 9, none⟩ = some (.slice p n q) ∧ w'.cell? ⟨w.heap.size + 1, 0, none⟩ = some (.slice ta tn tc) ∧ w'.cell? ⟨w.heap.size + 1, 1, none⟩ = some (.int .i64 vol) ∧ w'.cell? ⟨w.heap.size + 1, 2, none⟩ = some (.slice pa pn pc))) (by kernel_rfl) ?_ (fun hH0 => ?_)
    · (try dsimp only)
      (exact ⟨KX.out.cell rfl, KX.out.cell rfl, KX.out.cell rfl, KX.out.cell rfl, KX.out.cell rfl, KX.out.cell rfl, KX.out.cell rfl, KX.out.cell rfl, KX.out.cell rfl, KX.out.cell rfl, KB1.out.cell rfl, KB1.out.cell rfl, KB1.out.cell rfl⟩)
    (obtain ⟨wc, hwc⟩ : ∃ x, x = w3.drew := ⟨_, rfl⟩; have hdr : Ext w3 wc := (by rw [hwc]; exact (Ext.refl _).drew); (try rw [← hwc] at hH0); (try rw [← hwc]); have zdr : w3.heap.size ≤ wc.heap.size := hdr.size; have HX := Lib.hid hdr; have KX := Lib.hid (X_3.out.ext hdr); have KB1 := Lib.hid (B1_3.out.ext hdr); have KRES0 := Lib.hid (RES0_3.out.ext hdr); have KRES1 := Lib.hid (RES1_3.out.ext hdr); have OOT := Lib.hid (OT_3.out.ext hdr); clear hwc hdr; replace HWX := Lib.hid (HWX.out.trans HX.out))
    refine take_l 0 (v := ?_) rfl (by kernel_rfl) (by kernel_rfl) (by kernel_rfl) (fun _ _ _ h => h) (by rfl) ?_ (by assumption) ?_
    rotate_left
    · (intro w hSw; (try dsimp only at hSw); go_simp; (try with_reducible rfl))
    (try simp only [Act.put, List.setIfInBounds_toArray, List.set_cons_zero, List.set_cons_succ])
    refine take_l 1 (v := ?_) rfl (by kernel_rfl) (by kernel_rfl) (by kernel_rfl) (fun _ _ _ h => h) (by rfl) ?_ (by assumption) ?_
    rotate_left
    · (intro w hSw; (try dsimp only at hSw); go_simp; (try with_reducible rfl))
    (try simp only [Act.put, List.setIfInBounds_toArray, List.set_cons_zero, List.set_cons_succ])
    refine wpAnyH_ready (rs := [2]) (by kernel_rfl) (by simp) ?_
    refine cons_l (i := 2) rfl (fun K hK => ?_) ?_
    (go_simp; obtain ⟨lo2, hlo2⟩ : ∃ n, n = wc.heap.size := ⟨_, rfl⟩; have mlo2 : lo2 ≤ wc.heap.size := Nat.le_of_eq hlo2; have nlo2 : wc.heap.size ≤ lo2 := Nat.le_of_eq hlo2.symm; have xwlo2 : w3.heap.size ≤ lo2 := Nat.le_trans HX.out.size nlo2; (go_at_call 96; with_reducible refine (l02Copy_any _ _ _ _ _ _ _ ps xs _ HT.out htl HP.out hpl (HFT.out.ext HWX.out) (HFP.out.ext HWX.out) HCT.out HCP.out).mono ?_); rintro e wc ⟨a1, c1, a2, c2, rfl, hg2, hb⟩; have zz2 := hb.size; obtain ⟨hi2, hhi2⟩ : ∃ n, n = wc.heap.size := ⟨_, rfl⟩; have mhi2 : hi2 ≤ wc.heap.size := Nat.le_of_eq hhi2; have nhi2 : wc.heap.size ≤ hi2 := Nat.le_of_eq hhi2.symm; (try rw [← hlo2] at hg2); (try rw [← hhi2] at hg2); clear hlo2; clear hhi2; (try replace KX := Lib.hid (KX.out.ext hb)); (try replace KB1 := Lib.hid (KB1.out.ext hb)); (try replace KRES0 := Lib.hid (KRES0.out.ext hb)); (try replace KRES1 := Lib.hid (KRES1.out.ext hb)); (try replace OOT := Lib.hid (OOT.out.ext hb)); (try replace OR := Lib.hid (OR.out.ext hb)); (try replace HWX := Lib.hid (HWX.out.trans hb)); replace HX := Lib.hid (HX.out.trans hb); have OR := Lib.hid hg2; clear hg2; clear hb)
    refine hK.out _ _ ?_ (fun hH1 => ?_)
    · (try dsimp only)
      (exact ⟨KX.out.cell rfl, KX.out.cell rfl, KX.out.cell rfl, KX.out.cell rfl, KX.out.cell rfl, KX.out.cell rfl, KX.out.cell rfl, KX.out.cell rfl, KX.out.cell rfl, KX.out.cell rfl, KB1.out.cell rfl, KB1.out.cell rfl, KB1.out.cell rfl⟩)
    clear hK K hH0
    (try simp only [Act.put, List.setIfInBounds_toArray, List.set_cons_zero, List.set_cons_succ])
    refine wpAnyH_ready (rs := [3]) (by kernel_rfl) (by simp) ?_
    refine cons_l (i := 3) rfl (fun K hK => ?_) ?_
    (have hs0 := KRES0.out.cell (j := 0) (v := .int .i64 0) rfl; have hf0 := KRES0.out.frozen 0; have hs1 := KRES0.out.cell (j := 1) (v := .int .i64 0) rfl; have hf1 := KRES0.out.frozen 1; have hs2 := KRES0.out.cell (j := 2) (v := .int .i64 0) rfl; have hf2 := KRES0.out.frozen 2; have hs3 := KRES0.out.cell (j := 3) (v := .int .i64 0) rfl; have hf3 := KRES0.out.frozen 3; have hs4 := KRES0.out.cell (j := 4) (v := .int .i64 0) rfl; have hf4 := KRES0.out.frozen 4; have hs5 := KRES0.out.cell (j := 5) (v := .int .i64 0) rfl; have hf5 := KRES0.out.frozen 5; have hs6 := KRES0.out.cell (j := 6) (v := .int .i64 0) rfl; have hf6 := KRES0.out.frozen 6; have hs7 := KRES0.out.cell (j := 7) (v := .int .i64 0) rfl; have hf7 := KRES0.out.frozen 7; have hs8 := KRES0.out.cell (j := 8) (v := .int .i64 0) rfl; have hf8 := KRES0.out.frozen 8; have hs9 := KRES0.out.cell (j := 9) (v := .slice none 0 0) rfl; have hf9 := KRES0.out.frozen 9; go_simp; clear hs0 hf0 hs1 hf1 hs2 hf2 hs3 hf3 hs4 hf4 hs5 hf5 hs6 hf6 hs7 hf7 hs8 hf8 hs9 hf9; obtain ⟨wn, hwn⟩ : ∃ x, x = putAt wc (w.heap.size + 1 + 1) 0 [.int .i64 x0, .int .i64 x1, .int .i64 x2, .int .i64 x3, .int .i64 x4, .int .i64 x5, .int .i64 x6, .int .i64 x7, .int .i64 x8, .slice p n q] := ⟨_, rfl⟩; have en : ((((((((((wc.setCell ⟨w.heap.size + 1 + 1, 0, none⟩ (.int .i64 x0)).setCell ⟨w.heap.size + 1 + 1, 1, none⟩ (.int .i64 x1)).setCell ⟨w.heap.size + 1 + 1, 2, none⟩ (.int .i64 x2)).setCell ⟨w.heap.size + 1 + 1, 3, none⟩ (.int .i64 x3)).setCell ⟨w.heap.size + 1 + 1, 4, none⟩ (.int .i64 x4)).setCell ⟨w.heap.size + 1 + 1, 5, none⟩ (.int .i64 x5)).setCell ⟨w.heap.size + 1 + 1, 6, none⟩ (.int .i64 x6)).setCell ⟨w.heap.size + 1 + 1, 7, none⟩ (.int .i64 x7)).setCell ⟨w.heap.size + 1 + 1, 8, none⟩ (.int .i64 x8)).setCell ⟨w.heap.size + 1 + 1, 9, none⟩ (.slice p n q)) = wn := (by rw [hwn]; rfl); rw [en]; clear en; have zz3 : wc.heap.size ≤ wn.heap.size := (by rw [hwn, put_size]; exact Nat.le_refl _); (first | replace HX := Lib.hid (show Ext w3 wn by rw [hwn]; exact put_ext (by first | assumption | omega) _ _ _ HX.out) | skip); (try replace KX := Lib.hid (show RowAt wn (bX) 26 _ by rw [hwn]; exact put_other (by omega) _ _ _ KX.out)); (try replace KB1 := Lib.hid (show RowAt wn (w.heap.size + 1) 40 _ by rw [hwn]; exact put_other (by omega) _ _ _ KB1.out)); replace KRES0 := Lib.hid (RowAt.cast (c' := #[.int .i64 x0, .int .i64 x1, .int .i64 x2, .int .i64 x3, .int .i64 x4, .int .i64 x5, .int .i64 x6, .int .i64 x7, .int .i64 x8, .slice p n q]) (show RowAt wn (w.heap.size + 1 + 1) 26 (putArr #[.int .i64 0, .int .i64 0, .int .i64 0, .int .i64 0, .int .i64 0, .int .i64 0, .int .i64 0, .int .i64 0, .int .i64 0, .slice none 0 0] 0 [.int .i64 x0, .int .i64 x1, .int .i64 x2, .int .i64 x3, .int .i64 x4, .int .i64 x5, .int .i64 x6, .int .i64 x7, .int .i64 x8, .slice p n q]) by rw [hwn]; exact put_at _ _ _ _ KRES0.out) (by simp [putArr])); (try replace KRES1 := Lib.hid (show RowAt wn (w.heap.size + 1 + 1 + 1) 40 _ by rw [hwn]; exact put_other (by omega) _ _ _ KRES1.out)); (try replace OOT := Lib.hid (OOT.out.keep (w' := wn) (Nat.le_refl _) (Nat.le_refl _) (by rw [hwn]; exact put_kept (by omega)))); (try replace OR := Lib.hid (OR.out.keep (w' := wn) (Nat.le_refl _) (Nat.le_refl _) (by rw [hwn]; exact put_kept (by omega)))); (try replace HWX := Lib.hid (show Ext _ wn by rw [hwn]; exact put_ext (by omega) _ _ _ HWX.out)); clear hwn; obtain ⟨wc, hq⟩ : ∃ x, x = wn := ⟨_, rfl⟩; subst hq)
    refine hK.out _ _ ?_ (fun hH2 => ?_)
    · (try dsimp only)
      (exact ⟨KX.out.cell rfl, KX.out.cell rfl, KX.out.cell rfl, KX.out.cell rfl, KX.out.cell rfl, KX.out.cell rfl, KX.out.cell rfl, KX.out.cell rfl, KX.out.cell rfl, KX.out.cell rfl, KB1.out.cell rfl, KB1.out.cell rfl, KB1.out.cell rfl⟩)
    clear hK K hH1
    (try simp only [Act.put, List.setIfInBounds_toArray, List.set_cons_zero, List.set_cons_succ])
    refine wpAnyH_ready (rs := [4]) (by kernel_rfl) (by simp) ?_
    refine cons_l (i := 4) rfl (fun K hK => ?_) ?_
    (have hs0 := KRES1.out.cell (j := 0) (v := .slice none 0 0) rfl; have hf0 := KRES1.out.frozen 0; have hs1 := KRES1.out.cell (j := 1) (v := .int .i64 0) rfl; have hf1 := KRES1.out.frozen 1; have hs2 := KRES1.out.cell (j := 2) (v := .slice none 0 0) rfl; have hf2 := KRES1.out.frozen 2; go_simp; clear hs0 hf0 hs1 hf1 hs2 hf2; obtain ⟨wn, hwn⟩ : ∃ x, x = putAt wc (w.heap.size + 1 + 1 + 1) 0 [.slice a1 tn c1, .int .i64 vol, .slice a2 pn c2] := ⟨_, rfl⟩; have en : (((wc.setCell ⟨w.heap.size + 1 + 1 + 1, 0, none⟩ (.slice a1 tn c1)).setCell ⟨w.heap.size + 1 + 1 + 1, 1, none⟩ (.int .i64 vol)).setCell ⟨w.heap.size + 1 + 1 + 1, 2, none⟩ (.slice a2 pn c2)) = wn := (by rw [hwn]; rfl); rw [en]; clear en; have zz4 : wc.heap.size ≤ wn.heap.size := (by rw [hwn, put_size]; exact Nat.le_refl _); (first | replace HX := Lib.hid (show Ext w3 wn by rw [hwn]; exact put_ext (by first | assumption | omega) _ _ _ HX.out) | skip); (try replace KX := Lib.hid (show RowAt wn (bX) 26 _ by rw [hwn]; exact put_other (by omega) _ _ _ KX.out)); (try replace KB1 := Lib.hid (show RowAt wn (w.heap.size + 1) 40 _ by rw [hwn]; exact put_other (by omega) _ _ _ KB1.out)); (try replace KRES0 := Lib.hid (show RowAt wn (w.heap.size + 1 + 1) 26 _ by rw [hwn]; exact put_other (by omega) _ _ _ KRES0.out)); replace KRES1 := Lib.hid (RowAt.cast (c' := #[.slice a1 tn c1, .int .i64 vol, .slice a2 pn c2]) (show RowAt wn (w.heap.size + 1 + 1 + 1) 40 (putArr #[.slice none 0 0, .int .i64 0, .slice none 0 0] 0 [.slice a1 tn c1, .int .i64 vol, .slice a2 pn c2]) by rw [hwn]; exact put_at _ _ _ _ KRES1.out) (by simp [putArr])); (try replace OOT := Lib.hid (OOT.out.keep (w' := wn) (Nat.le_refl _) (Nat.le_refl _) (by rw [hwn]; exact put_kept (by omega)))); (try replace OR := Lib.hid (OR.out.keep (w' := wn) (Nat.le_refl _) (Nat.le_refl _) (by rw [hwn]; exact put_kept (by omega)))); (try replace HWX := Lib.hid (show Ext _ wn by rw [hwn]; exact put_ext (by omega) _ _ _ HWX.out)); clear hwn; obtain ⟨wc, hq⟩ : ∃ x, x = wn := ⟨_, rfl⟩; subst hq)
    refine hK.out _ _ ?_ (fun hH3 => ?_)
    · (try dsimp only)
      (exact ⟨KX.out.cell rfl, KX.out.cell rfl, KX.out.cell rfl, KX.out.cell rfl, KX.out.cell rfl, KX.out.cell rfl, KX.out.cell rfl, KX.out.cell rfl, KX.out.cell rfl, KX.out.cell rfl, KB1.out.cell rfl, KB1.out.cell rfl, KB1.out.cell rfl⟩)
    clear hK K hH2
    (try simp only [Act.put, List.setIfInBounds_toArray, List.set_cons_zero, List.set_cons_succ])
    refine wpAnyH_done (by kernel_rfl) ?_ _
    rotate_left
    exact AllReadyH.nil
    exact AllReadyH.nil
    exact AllReadyH.nil
    go_wp2
    have q0_0 : wc.cell? ⟨w.heap.size + 1 + 1, 0, none⟩ = some (.int .i64 x0) := KRES0.out.cell rfl
    have q0_1 : wc.cell? ⟨w.heap.size + 1 + 1, 1, none⟩ = some (.int .i64 x1) := KRES0.out.cell rfl
    have q0_2 : wc.cell? ⟨w.heap.size + 1 + 1, 2, none⟩ = some (.int .i64 x2) := KRES0.out.cell rfl
    have q0_3 : wc.cell? ⟨w.heap.size + 1 + 1, 3, none⟩ = some (.int .i64 x3) := KRES0.out.cell rfl
    have q0_4 : wc.cell? ⟨w.heap.size + 1 + 1, 4, none⟩ = some (.int .i64 x4) := KRES0.out.cell rfl
    have q0_5 : wc.cell? ⟨w.heap.size + 1 + 1, 5, none⟩ = some (.int .i64 x5) := KRES0.out.cell rfl
    have q0_6 : wc.cell? ⟨w.heap.size + 1 + 1, 6, none⟩ = some (.int .i64 x6) := KRES0.out.cell rfl
    have q0_7 : wc.cell? ⟨w.heap.size + 1 + 1, 7, none⟩ = some (.int .i64 x7) := KRES0.out.cell rfl
    have q0_8 : wc.cell? ⟨w.heap.size + 1 + 1, 8, none⟩ = some (.int .i64 x8) := KRES0.out.cell rfl
    have q0_9 : wc.cell? ⟨w.heap.size + 1 + 1, 9, none⟩ = some (.slice p n q) := KRES0.out.cell rfl
    have q1_0 : wc.cell? ⟨w.heap.size + 1 + 1 + 1, 0, none⟩ = some (.slice a1 tn c1) := KRES1.out.cell rfl
    have q1_1 : wc.cell? ⟨w.heap.size + 1 + 1 + 1, 1, none⟩ = some (.int .i64 vol) := KRES1.out.cell rfl
    have q1_2 : wc.cell? ⟨w.heap.size + 1 + 1 + 1, 2, none⟩ = some (.slice a2 pn c2) := KRES1.out.cell rfl
    refine bodyPost_ret (v := .tuple #[.agg #[.int .i64 x0, .int .i64 x1, .int .i64 x2, .int .i64 x3, .int .i64 x4, .int .i64 x5, .int .i64 x6, .int .i64 x7, .int .i64 x8, .slice p n q], .agg #[.slice a1 tn c1, .int .i64 vol, .slice a2 pn c2]]) (by simp [results, Try.results44, go_sem, *]) rfl ⟨p, q, _, _, _, _, rfl, LockReach.mk (lo1 := ((((w.alloc (.cells #[.int .i64 x0, .int .i64 x1, .int .i64 x2, .int .i64 x3, .int .i64 x4, .int .i64 x5, .int .i64 x6, .int .i64 x7, .int .i64 x8, .slice a n c] 26)).alloc (.cells #[.slice ta tn tc, .int .i64 vol, .slice pa pn pc] 40)).alloc (.cells #[.int .i64 0, .int .i64 0, .int .i64 0, .int .i64 0, .int .i64 0, .int .i64 0, .int .i64 0, .int .i64 0, .int .i64 0, .slice none 0 0] 26)).alloc (.cells #[.slice none 0 0, .int .i64 0, .slice none 0 0] 40)).heap.size) (hi1 := w1.heap.size) (lo2 := lo2) (hi2 := hi2) (by omega) (by omega) (by omega) (by omega) (by omega) OOT.out OR.out, HWX.out⟩
  simp only [Bool.and_self, if_true] at hres
  obtain ⟨⟨h5, h7⟩, h6⟩ := hkb rfl
  have hvb' := hvb rfl
  clear hkb hvb
  by_cases hcl : ch ≤ lev
  · rw [if_pos hcl] at hres
    obtain ⟨rfl, rfl, rfl⟩ := inj3 hres
    clear hres
    have e1 : decide (ch ≤ lev) = true := by simpa using hcl
    have cB00 : ∀ y : Aft w2, y.1.cell? ⟨w.heap.size, 0, none⟩ = some (.int .i64 x0) := fun y => (B0_2.out.ext y.2).cell rfl
    have cB01 : ∀ y : Aft w2, y.1.cell? ⟨w.heap.size, 1, none⟩ = some (.int .i64 x1) := fun y => (B0_2.out.ext y.2).cell rfl
    have cB02 : ∀ y : Aft w2, y.1.cell? ⟨w.heap.size, 2, none⟩ = some (.int .i64 x2) := fun y => (B0_2.out.ext y.2).cell rfl
    have cB03 : ∀ y : Aft w2, y.1.cell? ⟨w.heap.size, 3, none⟩ = some (.int .i64 x3) := fun y => (B0_2.out.ext y.2).cell rfl
    have cB04 : ∀ y : Aft w2, y.1.cell? ⟨w.heap.size, 4, none⟩ = some (.int .i64 x4) := fun y => (B0_2.out.ext y.2).cell rfl
    have cB05 : ∀ y : Aft w2, y.1.cell? ⟨w.heap.size, 5, none⟩ = some (.int .i64 x5) := fun y => (B0_2.out.ext y.2).cell rfl
    have cB06 : ∀ y : Aft w2, y.1.cell? ⟨w.heap.size, 6, none⟩ = some (.int .i64 x6) := fun y => (B0_2.out.ext y.2).cell rfl
    have cB07 : ∀ y : Aft w2, y.1.cell? ⟨w.heap.size, 7, none⟩ = some (.int .i64 x7) := fun y => (B0_2.out.ext y.2).cell rfl
    have cB08 : ∀ y : Aft w2, y.1.cell? ⟨w.heap.size, 8, none⟩ = some (.int .i64 x8) := fun y => (B0_2.out.ext y.2).cell rfl
    have cB09 : ∀ y : Aft w2, y.1.cell? ⟨w.heap.size, 9, none⟩ = some (.slice a n c) := fun y => (B0_2.out.ext y.2).cell rfl
    have cB10 : ∀ y : Aft w2, y.1.cell? ⟨w.heap.size + 1, 0, none⟩ = some (.slice ta tn tc) := fun y => (B1_2.out.ext y.2).cell rfl
    have cB11 : ∀ y : Aft w2, y.1.cell? ⟨w.heap.size + 1, 1, none⟩ = some (.int .i64 vol) := fun y => (B1_2.out.ext y.2).cell rfl
    have cB12 : ∀ y : Aft w2, y.1.cell? ⟨w.heap.size + 1, 2, none⟩ = some (.slice pa pn pc) := fun y => (B1_2.out.ext y.2).cell rfl
    go_wp2_with fail
    (refine wp_region_aft w2 (Ext.refl _) (by kernel_rfl) (by kernel_rfl) ?_; (repeat (go_big_quiet_step ((first | (go_at_call 88; exact aft_call (specLockOk_any true _ _ _ _ _ _ _ _ _ _ _ _ ts _ HN.out HS.out HTS.out (HF.out.ext (HW2.out.trans (Subtype.property _))) HK1.out)) | (go_at_call 81; exact aft_call (specReachOk_is true _ _ _ _ _ _ _ ps xs _ HT.out HTL.out HP.out HPL.out (HFT.out.ext (HW2.out.trans (Subtype.property _))) (HFP.out.ext (HW2.out.trans (Subtype.property _))) hvol HK2.out)) | (go_at_call 94; exact aft_call (specChamber_any ch _ _ _ _ _ _ _ _ _ _ _ _ ts _ HN.out HS.out HTS.out (HF.out.ext (HW2.out.trans (Subtype.property _))) HCH.out)) | (go_at_call 95; exact aft_call (specLevel_is lev _ _ _ _ _ _ _ ps xs _ HT.out HTL.out HP.out HPL.out (HFT.out.ext (HW2.out.trans (Subtype.property _))) (HFP.out.ext (HW2.out.trans (Subtype.property _))) hvol HLV.out)))))); refine wpQuiet_nil ?_; intro w2 hx2)
    clear cB00 cB01 cB02 cB03 cB04 cB05 cB06 cB07 cB08 cB09 cB10 cB11 cB12
    obtain ⟨w3, hq⟩ : ∃ x, x = w2 := ⟨_, rfl⟩; subst hq
    have HW3 := Lib.hid (HW2.out.trans hx2)
    have B0_3 := Lib.hid (B0_2.out.ext hx2)
    have B1_3 := Lib.hid (B1_2.out.ext hx2)
    have RES0_3 := Lib.hid (RES0_2.out.ext hx2)
    have RES1_3 := Lib.hid (RES1_2.out.ext hx2)
    have X_3 := Lib.hid (X_2.out.ext hx2)
    have OT_3 := Lib.hid (OT_2.out.ext hx2)
    have zz3 := hx2.size
    clear HW2 B0_2 B1_2 RES0_2 RES1_2 X_2 OT_2 hx2
    go_wp2_with fail
    have KX := X_3
    have KB1 := B1_3
    have KRES0 := RES0_3
    have KRES1 := RES1_3
    have OOT := OT_3
    have HWX := HW3
    refine wp_region_held_drew (S := (fun w' => w'.cell? ⟨bX, 0, none⟩ = some (.int .i64 x0) ∧ w'.cell? ⟨bX, 1, none⟩ = some (.int .i64 x1) ∧ w'.cell? ⟨bX, 2, none⟩ = some (.int .i64 x2) ∧ w'.cell? ⟨bX, 3, none⟩ = some (.int .i64 x3) ∧ w'.cell? ⟨bX, 4, none⟩ = some (.int .i64 x4) ∧ w'.cell? ⟨bX, 5, none⟩ = some (.int .i64 x5) ∧ w'.cell? ⟨bX, 6, none⟩ = some (.int .i64 x6) ∧ w'.cell? ⟨bX, 7, none⟩ = some (.int .i64 x7) ∧ w'.cell? ⟨bX, 8, none⟩ = some (.int .i64 x8) ∧ w'.cell? ⟨bX, 9, none⟩ = some (.slice p n q) ∧ w'.cell? ⟨w.heap.size + 1, 0, none⟩ = some (.slice ta tn tc) ∧ w'.cell? ⟨w.heap.size + 1, 1, none⟩ = some (.int .i64 vol) ∧ w'.cell? ⟨w.heap.size + 1, 2, none⟩ = some (.slice pa pn pc))) (by kernel_rfl) ?_ (fun hH0 => ?_)
    · (try dsimp only)
      (exact ⟨KX.out.cell rfl, KX.out.cell rfl, KX.out.cell rfl, KX.out.cell rfl, KX.out.cell rfl, KX.out.cell rfl, KX.out.cell rfl, KX.out.cell rfl, KX.out.cell rfl, KX.out.cell rfl, KB1.out.cell rfl, KB1.out.cell rfl, KB1.out.cell rfl⟩)
    (obtain ⟨wc, hwc⟩ : ∃ x, x = w3.drew := ⟨_, rfl⟩; have hdr : Ext w3 wc := (by rw [hwc]; exact (Ext.refl _).drew); (try rw [← hwc] at hH0); (try rw [← hwc]); have zdr : w3.heap.size ≤ wc.heap.size := hdr.size; have HX := Lib.hid hdr; have KX := Lib.hid (X_3.out.ext hdr); have KB1 := Lib.hid (B1_3.out.ext hdr); have KRES0 := Lib.hid (RES0_3.out.ext hdr); have KRES1 := Lib.hid (RES1_3.out.ext hdr); have OOT := Lib.hid (OT_3.out.ext hdr); clear hwc hdr; replace HWX := Lib.hid (HWX.out.trans HX.out))
    refine take_l 0 (v := ?_) rfl (by kernel_rfl) (by kernel_rfl) (by kernel_rfl) (fun _ _ _ h => h) (by rfl) ?_ (by assumption) ?_
    rotate_left
    · (intro w hSw; (try dsimp only at hSw); go_simp; (try with_reducible rfl))
    (try simp only [Act.put, List.setIfInBounds_toArray, List.set_cons_zero, List.set_cons_succ])
    refine take_l 1 (v := ?_) rfl (by kernel_rfl) (by kernel_rfl) (by kernel_rfl) (fun _ _ _ h => h) (by rfl) ?_ (by assumption) ?_
    rotate_left
    · (intro w hSw; (try dsimp only at hSw); go_simp; (try with_reducible rfl))
    (try simp only [Act.put, List.setIfInBounds_toArray, List.set_cons_zero, List.set_cons_succ])
    refine wpAnyH_ready (rs := [2]) (by kernel_rfl) (by simp) ?_
    refine cons_l (i := 2) rfl (fun K hK => ?_) ?_
    (go_simp; obtain ⟨lo2, hlo2⟩ : ∃ n, n = wc.heap.size := ⟨_, rfl⟩; have mlo2 : lo2 ≤ wc.heap.size := Nat.le_of_eq hlo2; have nlo2 : wc.heap.size ≤ lo2 := Nat.le_of_eq hlo2.symm; have xwlo2 : w3.heap.size ≤ lo2 := Nat.le_trans HX.out.size nlo2; (go_at_call 96; with_reducible refine (l02Copy_any _ _ _ _ _ _ _ ps xs _ HT.out htl HP.out hpl (HFT.out.ext HWX.out) (HFP.out.ext HWX.out) HCT.out HCP.out).mono ?_); rintro e wc ⟨a1, c1, a2, c2, rfl, hg2, hb⟩; have zz2 := hb.size; obtain ⟨hi2, hhi2⟩ : ∃ n, n = wc.heap.size := ⟨_, rfl⟩; have mhi2 : hi2 ≤ wc.heap.size := Nat.le_of_eq hhi2; have nhi2 : wc.heap.size ≤ hi2 := Nat.le_of_eq hhi2.symm; (try rw [← hlo2] at hg2); (try rw [← hhi2] at hg2); clear hlo2; clear hhi2; (try replace KX := Lib.hid (KX.out.ext hb)); (try replace KB1 := Lib.hid (KB1.out.ext hb)); (try replace KRES0 := Lib.hid (KRES0.out.ext hb)); (try replace KRES1 := Lib.hid (KRES1.out.ext hb)); (try replace OOT := Lib.hid (OOT.out.ext hb)); (try replace OR := Lib.hid (OR.out.ext hb)); (try replace HWX := Lib.hid (HWX.out.trans hb)); replace HX := Lib.hid (HX.out.trans hb); have OR := Lib.hid hg2; clear hg2; clear hb)
    refine hK.out _ _ ?_ (fun hH1 => ?_)
    · (try dsimp only)
      (exact ⟨KX.out.cell rfl, KX.out.cell rfl, KX.out.cell rfl, KX.out.cell rfl, KX.out.cell rfl, KX.out.cell rfl, KX.out.cell rfl, KX.out.cell rfl, KX.out.cell rfl, KX.out.cell rfl, KB1.out.cell rfl, KB1.out.cell rfl, KB1.out.cell rfl⟩)
    clear hK K hH0
    (try simp only [Act.put, List.setIfInBounds_toArray, List.set_cons_zero, List.set_cons_succ])
    refine wpAnyH_ready (rs := [3]) (by kernel_rfl) (by simp) ?_
    refine cons_l (i := 3) rfl (fun K hK => ?_) ?_
    (have hs0 := KRES0.out.cell (j := 0) (v := .int .i64 0) rfl; have hf0 := KRES0.out.frozen 0; have hs1 := KRES0.out.cell (j := 1) (v := .int .i64 0) rfl; have hf1 := KRES0.out.frozen 1; have hs2 := KRES0.out.cell (j := 2) (v := .int .i64 0) rfl; have hf2 := KRES0.out.frozen 2; have hs3 := KRES0.out.cell (j := 3) (v := .int .i64 0) rfl; have hf3 := KRES0.out.frozen 3; have hs4 := KRES0.out.cell (j := 4) (v := .int .i64 0) rfl; have hf4 := KRES0.out.frozen 4; have hs5 := KRES0.out.cell (j := 5) (v := .int .i64 0) rfl; have hf5 := KRES0.out.frozen 5; have hs6 := KRES0.out.cell (j := 6) (v := .int .i64 0) rfl; have hf6 := KRES0.out.frozen 6; have hs7 := KRES0.out.cell (j := 7) (v := .int .i64 0) rfl; have hf7 := KRES0.out.frozen 7; have hs8 := KRES0.out.cell (j := 8) (v := .int .i64 0) rfl; have hf8 := KRES0.out.frozen 8; have hs9 := KRES0.out.cell (j := 9) (v := .slice none 0 0) rfl; have hf9 := KRES0.out.frozen 9; go_simp; clear hs0 hf0 hs1 hf1 hs2 hf2 hs3 hf3 hs4 hf4 hs5 hf5 hs6 hf6 hs7 hf7 hs8 hf8 hs9 hf9; obtain ⟨wn, hwn⟩ : ∃ x, x = putAt wc (w.heap.size + 1 + 1) 0 [.int .i64 x0, .int .i64 x1, .int .i64 x2, .int .i64 x3, .int .i64 x4, .int .i64 x5, .int .i64 x6, .int .i64 x7, .int .i64 x8, .slice p n q] := ⟨_, rfl⟩; have en : ((((((((((wc.setCell ⟨w.heap.size + 1 + 1, 0, none⟩ (.int .i64 x0)).setCell ⟨w.heap.size + 1 + 1, 1, none⟩ (.int .i64 x1)).setCell ⟨w.heap.size + 1 + 1, 2, none⟩ (.int .i64 x2)).setCell ⟨w.heap.size + 1 + 1, 3, none⟩ (.int .i64 x3)).setCell ⟨w.heap.size + 1 + 1, 4, none⟩ (.int .i64 x4)).setCell ⟨w.heap.size + 1 + 1, 5, none⟩ (.int .i64 x5)).setCell ⟨w.heap.size + 1 + 1, 6, none⟩ (.int .i64 x6)).setCell ⟨w.heap.size + 1 + 1, 7, none⟩ (.int .i64 x7)).setCell ⟨w.heap.size + 1 + 1, 8, none⟩ (.int .i64 x8)).setCell ⟨w.heap.size + 1 + 1, 9, none⟩ (.slice p n q)) = wn := (by rw [hwn]; rfl); rw [en]; clear en; have zz3 : wc.heap.size ≤ wn.heap.size := (by rw [hwn, put_size]; exact Nat.le_refl _); (first | replace HX := Lib.hid (show Ext w3 wn by rw [hwn]; exact put_ext (by first | assumption | omega) _ _ _ HX.out) | skip); (try replace KX := Lib.hid (show RowAt wn (bX) 26 _ by rw [hwn]; exact put_other (by omega) _ _ _ KX.out)); (try replace KB1 := Lib.hid (show RowAt wn (w.heap.size + 1) 40 _ by rw [hwn]; exact put_other (by omega) _ _ _ KB1.out)); replace KRES0 := Lib.hid (RowAt.cast (c' := #[.int .i64 x0, .int .i64 x1, .int .i64 x2, .int .i64 x3, .int .i64 x4, .int .i64 x5, .int .i64 x6, .int .i64 x7, .int .i64 x8, .slice p n q]) (show RowAt wn (w.heap.size + 1 + 1) 26 (putArr #[.int .i64 0, .int .i64 0, .int .i64 0, .int .i64 0, .int .i64 0, .int .i64 0, .int .i64 0, .int .i64 0, .int .i64 0, .slice none 0 0] 0 [.int .i64 x0, .int .i64 x1, .int .i64 x2, .int .i64 x3, .int .i64 x4, .int .i64 x5, .int .i64 x6, .int .i64 x7, .int .i64 x8, .slice p n q]) by rw [hwn]; exact put_at _ _ _ _ KRES0.out) (by simp [putArr])); (try replace KRES1 := Lib.hid (show RowAt wn (w.heap.size + 1 + 1 + 1) 40 _ by rw [hwn]; exact put_other (by omega) _ _ _ KRES1.out)); (try replace OOT := Lib.hid (OOT.out.keep (w' := wn) (Nat.le_refl _) (Nat.le_refl _) (by rw [hwn]; exact put_kept (by omega)))); (try replace OR := Lib.hid (OR.out.keep (w' := wn) (Nat.le_refl _) (Nat.le_refl _) (by rw [hwn]; exact put_kept (by omega)))); (try replace HWX := Lib.hid (show Ext _ wn by rw [hwn]; exact put_ext (by omega) _ _ _ HWX.out)); clear hwn; obtain ⟨wc, hq⟩ : ∃ x, x = wn := ⟨_, rfl⟩; subst hq)
    refine hK.out _ _ ?_ (fun hH2 => ?_)
    · (try dsimp only)
      (exact ⟨KX.out.cell rfl, KX.out.cell rfl, KX.out.cell rfl, KX.out.cell rfl, KX.out.cell rfl, KX.out.cell rfl, KX.out.cell rfl, KX.out.cell rfl, KX.out.cell rfl, KX.out.cell rfl, KB1.out.cell rfl, KB1.out.cell rfl, KB1.out.cell rfl⟩)
    clear hK K hH1
    (try simp only [Act.put, List.setIfInBounds_toArray, List.set_cons_zero, List.set_cons_succ])
    refine wpAnyH_ready (rs := [4]) (by kernel_rfl) (by simp) ?_
    refine cons_l (i := 4) rfl (fun K hK => ?_) ?_
    (have hs0 := KRES1.out.cell (j := 0) (v := .slice none 0 0) rfl; have hf0 := KRES1.out.frozen 0; have hs1 := KRES1.out.cell (j := 1) (v := .int .i64 0) rfl; have hf1 := KRES1.out.frozen 1; have hs2 := KRES1.out.cell (j := 2) (v := .slice none 0 0) rfl; have hf2 := KRES1.out.frozen 2; go_simp; clear hs0 hf0 hs1 hf1 hs2 hf2; obtain ⟨wn, hwn⟩ : ∃ x, x = putAt wc (w.heap.size + 1 + 1 + 1) 0 [.slice a1 tn c1, .int .i64 vol, .slice a2 pn c2] := ⟨_, rfl⟩; have en : (((wc.setCell ⟨w.heap.size + 1 + 1 + 1, 0, none⟩ (.slice a1 tn c1)).setCell ⟨w.heap.size + 1 + 1 + 1, 1, none⟩ (.int .i64 vol)).setCell ⟨w.heap.size + 1 + 1 + 1, 2, none⟩ (.slice a2 pn c2)) = wn := (by rw [hwn]; rfl); rw [en]; clear en; have zz4 : wc.heap.size ≤ wn.heap.size := (by rw [hwn, put_size]; exact Nat.le_refl _); (first | replace HX := Lib.hid (show Ext w3 wn by rw [hwn]; exact put_ext (by first | assumption | omega) _ _ _ HX.out) | skip); (try replace KX := Lib.hid (show RowAt wn (bX) 26 _ by rw [hwn]; exact put_other (by omega) _ _ _ KX.out)); (try replace KB1 := Lib.hid (show RowAt wn (w.heap.size + 1) 40 _ by rw [hwn]; exact put_other (by omega) _ _ _ KB1.out)); (try replace KRES0 := Lib.hid (show RowAt wn (w.heap.size + 1 + 1) 26 _ by rw [hwn]; exact put_other (by omega) _ _ _ KRES0.out)); replace KRES1 := Lib.hid (RowAt.cast (c' := #[.slice a1 tn c1, .int .i64 vol, .slice a2 pn c2]) (show RowAt wn (w.heap.size + 1 + 1 + 1) 40 (putArr #[.slice none 0 0, .int .i64 0, .slice none 0 0] 0 [.slice a1 tn c1, .int .i64 vol, .slice a2 pn c2]) by rw [hwn]; exact put_at _ _ _ _ KRES1.out) (by simp [putArr])); (try replace OOT := Lib.hid (OOT.out.keep (w' := wn) (Nat.le_refl _) (Nat.le_refl _) (by rw [hwn]; exact put_kept (by omega)))); (try replace OR := Lib.hid (OR.out.keep (w' := wn) (Nat.le_refl _) (Nat.le_refl _) (by rw [hwn]; exact put_kept (by omega)))); (try replace HWX := Lib.hid (show Ext _ wn by rw [hwn]; exact put_ext (by omega) _ _ _ HWX.out)); clear hwn; obtain ⟨wc, hq⟩ : ∃ x, x = wn := ⟨_, rfl⟩; subst hq)
    refine hK.out _ _ ?_ (fun hH3 => ?_)
    · (try dsimp only)
      (exact ⟨KX.out.cell rfl, KX.out.cell rfl, KX.out.cell rfl, KX.out.cell rfl, KX.out.cell rfl, KX.out.cell rfl, KX.out.cell rfl, KX.out.cell rfl, KX.out.cell rfl, KX.out.cell rfl, KB1.out.cell rfl, KB1.out.cell rfl, KB1.out.cell rfl⟩)
    clear hK K hH2
    (try simp only [Act.put, List.setIfInBounds_toArray, List.set_cons_zero, List.set_cons_succ])
    refine wpAnyH_done (by kernel_rfl) ?_ _
    rotate_left
    exact AllReadyH.nil
    exact AllReadyH.nil
    exact AllReadyH.nil
    go_wp2
    have q0_0 : wc.cell? ⟨w.heap.size + 1 + 1, 0, none⟩ = some (.int .i64 x0) := KRES0.out.cell rfl
    have q0_1 : wc.cell? ⟨w.heap.size + 1 + 1, 1, none⟩ = some (.int .i64 x1) := KRES0.out.cell rfl
    have q0_2 : wc.cell? ⟨w.heap.size + 1 + 1, 2, none⟩ = some (.int .i64 x2) := KRES0.out.cell rfl
    have q0_3 : wc.cell? ⟨w.heap.size + 1 + 1, 3, none⟩ = some (.int .i64 x3) := KRES0.out.cell rfl
    have q0_4 : wc.cell? ⟨w.heap.size + 1 + 1, 4, none⟩ = some (.int .i64 x4) := KRES0.out.cell rfl
    have q0_5 : wc.cell? ⟨w.heap.size + 1 + 1, 5, none⟩ = some (.int .i64 x5) := KRES0.out.cell rfl
    have q0_6 : wc.cell? ⟨w.heap.size + 1 + 1, 6, none⟩ = some (.int .i64 x6) := KRES0.out.cell rfl
    have q0_7 : wc.cell? ⟨w.heap.size + 1 + 1, 7, none⟩ = some (.int .i64 x7) := KRES0.out.cell rfl
    have q0_8 : wc.cell? ⟨w.heap.size + 1 + 1, 8, none⟩ = some (.int .i64 x8) := KRES0.out.cell rfl
    have q0_9 : wc.cell? ⟨w.heap.size + 1 + 1, 9, none⟩ = some (.slice p n q) := KRES0.out.cell rfl
    have q1_0 : wc.cell? ⟨w.heap.size + 1 + 1 + 1, 0, none⟩ = some (.slice a1 tn c1) := KRES1.out.cell rfl
    have q1_1 : wc.cell? ⟨w.heap.size + 1 + 1 + 1, 1, none⟩ = some (.int .i64 vol) := KRES1.out.cell rfl
    have q1_2 : wc.cell? ⟨w.heap.size + 1 + 1 + 1, 2, none⟩ = some (.slice a2 pn c2) := KRES1.out.cell rfl
    refine bodyPost_ret (v := .tuple #[.agg #[.int .i64 x0, .int .i64 x1, .int .i64 x2, .int .i64 x3, .int .i64 x4, .int .i64 x5, .int .i64 x6, .int .i64 x7, .int .i64 x8, .slice p n q], .agg #[.slice a1 tn c1, .int .i64 vol, .slice a2 pn c2]]) (by simp [results, Try.results44, go_sem, *]) rfl ⟨p, q, _, _, _, _, rfl, LockReach.mk (lo1 := ((((w.alloc (.cells #[.int .i64 x0, .int .i64 x1, .int .i64 x2, .int .i64 x3, .int .i64 x4, .int .i64 x5, .int .i64 x6, .int .i64 x7, .int .i64 x8, .slice a n c] 26)).alloc (.cells #[.slice ta tn tc, .int .i64 vol, .slice pa pn pc] 40)).alloc (.cells #[.int .i64 0, .int .i64 0, .int .i64 0, .int .i64 0, .int .i64 0, .int .i64 0, .int .i64 0, .int .i64 0, .int .i64 0, .slice none 0 0] 26)).alloc (.cells #[.slice none 0 0, .int .i64 0, .slice none 0 0] 40)).heap.size) (hi1 := w1.heap.size) (lo2 := lo2) (hi2 := hi2) (by omega) (by omega) (by omega) (by omega) (by omega) OOT.out OR.out, HWX.out⟩
  rw [if_neg hcl] at hres
  have e1 : decide (ch ≤ lev) = false := by simpa using hcl
  obtain ⟨P, hP⟩ : ∃ P, x5 * (ch - lev) = P := ⟨_, rfl⟩
  have hPb : 0 ≤ P ∧ P ≤ 10000000000000 := by
    have p1 := Int.mul_nonneg (show (0 : Int) ≤ x5 by omega) (show (0 : Int) ≤ ch - lev by omega)
    have p2 := Int.mul_le_mul h5.2 (show ch - lev ≤ 1000000000 by omega) (by omega) (by omega)
    omega
  rw [hP] at hres
  obtain ⟨am1, hAM1⟩ : ∃ am, (if P < x7 then P else x7) = am := ⟨_, rfl⟩
  obtain ⟨am, hAM⟩ : ∃ am, (if am1 < x6 then am1 else x6) = am := ⟨_, rfl⟩
  have hamb : 0 ≤ am ∧ am ≤ 100000 ∧ am ≤ x7 := by rw [← hAM, ← hAM1]; (repeat' split) <;> omega
  have hm1 : min (min P x6) x7 = am := by rw [← hAM, ← hAM1]; (repeat' split) <;> omega
  rw [hm1] at hres
  clear hm1
  have wv1 : IntKind.i64.wrap (ch - lev) = ch - lev := IntWalk.i64_in _ (by omega)
  have wv2 : IntKind.i64.wrap P = P := IntWalk.i64_in _ (by omega)
  have wv3 : IntKind.i64.wrap (x7 - am) = x7 - am := IntWalk.i64_in _ (by omega)
  have cB00 : ∀ y : Aft w2, y.1.cell? ⟨w.heap.size, 0, none⟩ = some (.int .i64 x0) := fun y => (B0_2.out.ext y.2).cell rfl
  have cB01 : ∀ y : Aft w2, y.1.cell? ⟨w.heap.size, 1, none⟩ = some (.int .i64 x1) := fun y => (B0_2.out.ext y.2).cell rfl
  have cB02 : ∀ y : Aft w2, y.1.cell? ⟨w.heap.size, 2, none⟩ = some (.int .i64 x2) := fun y => (B0_2.out.ext y.2).cell rfl
  have cB03 : ∀ y : Aft w2, y.1.cell? ⟨w.heap.size, 3, none⟩ = some (.int .i64 x3) := fun y => (B0_2.out.ext y.2).cell rfl
  have cB04 : ∀ y : Aft w2, y.1.cell? ⟨w.heap.size, 4, none⟩ = some (.int .i64 x4) := fun y => (B0_2.out.ext y.2).cell rfl
  have cB05 : ∀ y : Aft w2, y.1.cell? ⟨w.heap.size, 5, none⟩ = some (.int .i64 x5) := fun y => (B0_2.out.ext y.2).cell rfl
  have cB06 : ∀ y : Aft w2, y.1.cell? ⟨w.heap.size, 6, none⟩ = some (.int .i64 x6) := fun y => (B0_2.out.ext y.2).cell rfl
  have cB07 : ∀ y : Aft w2, y.1.cell? ⟨w.heap.size, 7, none⟩ = some (.int .i64 x7) := fun y => (B0_2.out.ext y.2).cell rfl
  have cB08 : ∀ y : Aft w2, y.1.cell? ⟨w.heap.size, 8, none⟩ = some (.int .i64 x8) := fun y => (B0_2.out.ext y.2).cell rfl
  have cB09 : ∀ y : Aft w2, y.1.cell? ⟨w.heap.size, 9, none⟩ = some (.slice a n c) := fun y => (B0_2.out.ext y.2).cell rfl
  have cB10 : ∀ y : Aft w2, y.1.cell? ⟨w.heap.size + 1, 0, none⟩ = some (.slice ta tn tc) := fun y => (B1_2.out.ext y.2).cell rfl
  have cB11 : ∀ y : Aft w2, y.1.cell? ⟨w.heap.size + 1, 1, none⟩ = some (.int .i64 vol) := fun y => (B1_2.out.ext y.2).cell rfl
  have cB12 : ∀ y : Aft w2, y.1.cell? ⟨w.heap.size + 1, 2, none⟩ = some (.slice pa pn pc) := fun y => (B1_2.out.ext y.2).cell rfl
  go_wp2_with fail
  (refine wp_region_aft w2 (Ext.refl _) (by kernel_rfl) (by kernel_rfl) ?_; (repeat (go_big_quiet_step ((first | (go_at_call 88; exact aft_call (specLockOk_any true _ _ _ _ _ _ _ _ _ _ _ _ ts _ HN.out HS.out HTS.out (HF.out.ext (HW2.out.trans (Subtype.property _))) HK1.out)) | (go_at_call 81; exact aft_call (specReachOk_is true _ _ _ _ _ _ _ ps xs _ HT.out HTL.out HP.out HPL.out (HFT.out.ext (HW2.out.trans (Subtype.property _))) (HFP.out.ext (HW2.out.trans (Subtype.property _))) hvol HK2.out)) | (go_at_call 94; exact aft_call (specChamber_any ch _ _ _ _ _ _ _ _ _ _ _ _ ts _ HN.out HS.out HTS.out (HF.out.ext (HW2.out.trans (Subtype.property _))) HCH.out)) | (go_at_call 95; exact aft_call (specLevel_is lev _ _ _ _ _ _ _ ps xs _ HT.out HTL.out HP.out HPL.out (HFT.out.ext (HW2.out.trans (Subtype.property _))) (HFP.out.ext (HW2.out.trans (Subtype.property _))) hvol HLV.out)))))); refine wpQuiet_nil ?_; intro w2 hx2)
  clear cB00 cB01 cB02 cB03 cB04 cB05 cB06 cB07 cB08 cB09 cB10 cB11 cB12
  obtain ⟨w3, hq⟩ : ∃ x, x = w2 := ⟨_, rfl⟩; subst hq
  have HW3 := Lib.hid (HW2.out.trans hx2)
  have B0_3 := Lib.hid (B0_2.out.ext hx2)
  have B1_3 := Lib.hid (B1_2.out.ext hx2)
  have RES0_3 := Lib.hid (RES0_2.out.ext hx2)
  have RES1_3 := Lib.hid (RES1_2.out.ext hx2)
  have X_3 := Lib.hid (X_2.out.ext hx2)
  have OT_3 := Lib.hid (OT_2.out.ext hx2)
  have zz3 := hx2.size
  clear HW2 B0_2 B1_2 RES0_2 RES1_2 X_2 OT_2 hx2
  have cB00 : ∀ y : Aft w3, y.1.cell? ⟨w.heap.size, 0, none⟩ = some (.int .i64 x0) := fun y => (B0_3.out.ext y.2).cell rfl
  have cB01 : ∀ y : Aft w3, y.1.cell? ⟨w.heap.size, 1, none⟩ = some (.int .i64 x1) := fun y => (B0_3.out.ext y.2).cell rfl
  have cB02 : ∀ y : Aft w3, y.1.cell? ⟨w.heap.size, 2, none⟩ = some (.int .i64 x2) := fun y => (B0_3.out.ext y.2).cell rfl
  have cB03 : ∀ y : Aft w3, y.1.cell? ⟨w.heap.size, 3, none⟩ = some (.int .i64 x3) := fun y => (B0_3.out.ext y.2).cell rfl
  have cB04 : ∀ y : Aft w3, y.1.cell? ⟨w.heap.size, 4, none⟩ = some (.int .i64 x4) := fun y => (B0_3.out.ext y.2).cell rfl
  have cB05 : ∀ y : Aft w3, y.1.cell? ⟨w.heap.size, 5, none⟩ = some (.int .i64 x5) := fun y => (B0_3.out.ext y.2).cell rfl
  have cB06 : ∀ y : Aft w3, y.1.cell? ⟨w.heap.size, 6, none⟩ = some (.int .i64 x6) := fun y => (B0_3.out.ext y.2).cell rfl
  have cB07 : ∀ y : Aft w3, y.1.cell? ⟨w.heap.size, 7, none⟩ = some (.int .i64 x7) := fun y => (B0_3.out.ext y.2).cell rfl
  have cB08 : ∀ y : Aft w3, y.1.cell? ⟨w.heap.size, 8, none⟩ = some (.int .i64 x8) := fun y => (B0_3.out.ext y.2).cell rfl
  have cB09 : ∀ y : Aft w3, y.1.cell? ⟨w.heap.size, 9, none⟩ = some (.slice a n c) := fun y => (B0_3.out.ext y.2).cell rfl
  have cB10 : ∀ y : Aft w3, y.1.cell? ⟨w.heap.size + 1, 0, none⟩ = some (.slice ta tn tc) := fun y => (B1_3.out.ext y.2).cell rfl
  have cB11 : ∀ y : Aft w3, y.1.cell? ⟨w.heap.size + 1, 1, none⟩ = some (.int .i64 vol) := fun y => (B1_3.out.ext y.2).cell rfl
  have cB12 : ∀ y : Aft w3, y.1.cell? ⟨w.heap.size + 1, 2, none⟩ = some (.slice pa pn pc) := fun y => (B1_3.out.ext y.2).cell rfl
  go_wp2_with fail
  (refine wp_region_aft w3 (Ext.refl _) (by kernel_rfl) (by kernel_rfl) ?_; (repeat (go_big_quiet_step ((first | (go_at_call 94; exact aft_call (specChamber_any ch _ _ _ _ _ _ _ _ _ _ _ _ ts _ HN.out HS.out HTS.out (HF.out.ext (HW3.out.trans (Subtype.property _))) HCH.out)) | (go_at_call 95; exact aft_call (specLevel_is lev _ _ _ _ _ _ _ ps xs _ HT.out HTL.out HP.out HPL.out (HFT.out.ext (HW3.out.trans (Subtype.property _))) (HFP.out.ext (HW3.out.trans (Subtype.property _))) hvol HLV.out)))))); refine wpQuiet_nil ?_; intro w2 hx2)
  clear cB00 cB01 cB02 cB03 cB04 cB05 cB06 cB07 cB08 cB09 cB10 cB11 cB12
  obtain ⟨w4, hq⟩ : ∃ x, x = w2 := ⟨_, rfl⟩; subst hq
  have HW4 := Lib.hid (HW3.out.trans hx2)
  have B0_4 := Lib.hid (B0_3.out.ext hx2)
  have B1_4 := Lib.hid (B1_3.out.ext hx2)
  have RES0_4 := Lib.hid (RES0_3.out.ext hx2)
  have RES1_4 := Lib.hid (RES1_3.out.ext hx2)
  have X_4 := Lib.hid (X_3.out.ext hx2)
  have OT_4 := Lib.hid (OT_3.out.ext hx2)
  have zz4 := hx2.size
  clear HW3 B0_3 B1_3 RES0_3 RES1_3 X_3 OT_3 hx2
  have cB10 : w4.cell? ⟨w.heap.size + 1, 0, none⟩ = some (.slice ta tn tc) := B1_4.out.cell rfl
  have cB11 : w4.cell? ⟨w.heap.size + 1, 1, none⟩ = some (.int .i64 vol) := B1_4.out.cell rfl
  have cB12 : w4.cell? ⟨w.heap.size + 1, 2, none⟩ = some (.slice pa pn pc) := B1_4.out.cell rfl
  go_wp2_with fail
  with_reducible refine (specSpace_any T _ _ _ _ _ _ _ ps xs _ HT.out htl HP.out hpl (HFT.out.ext HW4.out) (HFP.out.ext HW4.out) hvol HK2.out HTT.out).mono ?_
  rintro e w5 ⟨rfl, hb⟩
  clear cB10 cB11 cB12
  have HW5 := Lib.hid (HW4.out.trans hb)
  have B0_5 := Lib.hid (B0_4.out.ext hb)
  have B1_5 := Lib.hid (B1_4.out.ext hb)
  have RES0_5 := Lib.hid (RES0_4.out.ext hb)
  have RES1_5 := Lib.hid (RES1_4.out.ext hb)
  have X_5 := Lib.hid (X_4.out.ext hb)
  have OT_5 := Lib.hid (OT_4.out.ext hb)
  have zz5 := hb.size
  clear HW4 B0_4 B1_4 RES0_4 RES1_4 X_4 OT_4 hb
  by_cases hov : 1000000000 - T < am
  · rw [if_pos hov] at hres
    obtain ⟨rfl, rfl, rfl⟩ := inj3 hres
    clear hres
    have e2 : decide (1000000000 - T < am) = true := by simpa using hov
    go_wp2_with fail
    have KX := X_5
    have KB1 := B1_5
    have KRES0 := RES0_5
    have KRES1 := RES1_5
    have OOT := OT_5
    have HWX := HW5
    refine wp_region_held_drew (S := (fun w' => w'.cell? ⟨bX, 0, none⟩ = some (.int .i64 x0) ∧ w'.cell? ⟨bX, 1, none⟩ = some (.int .i64 x1) ∧ w'.cell? ⟨bX, 2, none⟩ = some (.int .i64 x2) ∧ w'.cell? ⟨bX, 3, none⟩ = some (.int .i64 x3) ∧ w'.cell? ⟨bX, 4, none⟩ = some (.int .i64 x4) ∧ w'.cell? ⟨bX, 5, none⟩ = some (.int .i64 x5) ∧ w'.cell? ⟨bX, 6, none⟩ = some (.int .i64 x6) ∧ w'.cell? ⟨bX, 7, none⟩ = some (.int .i64 x7) ∧ w'.cell? ⟨bX, 8, none⟩ = some (.int .i64 x8) ∧ w'.cell? ⟨bX, 9, none⟩ = some (.slice p n q) ∧ w'.cell? ⟨w.heap.size + 1, 0, none⟩ = some (.slice ta tn tc) ∧ w'.cell? ⟨w.heap.size + 1, 1, none⟩ = some (.int .i64 vol) ∧ w'.cell? ⟨w.heap.size + 1, 2, none⟩ = some (.slice pa pn pc))) (by kernel_rfl) ?_ (fun hH0 => ?_)
    · (try dsimp only)
      (exact ⟨KX.out.cell rfl, KX.out.cell rfl, KX.out.cell rfl, KX.out.cell rfl, KX.out.cell rfl, KX.out.cell rfl, KX.out.cell rfl, KX.out.cell rfl, KX.out.cell rfl, KX.out.cell rfl, KB1.out.cell rfl, KB1.out.cell rfl, KB1.out.cell rfl⟩)
    (obtain ⟨wc, hwc⟩ : ∃ x, x = w5.drew := ⟨_, rfl⟩; have hdr : Ext w5 wc := (by rw [hwc]; exact (Ext.refl _).drew); (try rw [← hwc] at hH0); (try rw [← hwc]); have zdr : w5.heap.size ≤ wc.heap.size := hdr.size; have HX := Lib.hid hdr; have KX := Lib.hid (X_5.out.ext hdr); have KB1 := Lib.hid (B1_5.out.ext hdr); have KRES0 := Lib.hid (RES0_5.out.ext hdr); have KRES1 := Lib.hid (RES1_5.out.ext hdr); have OOT := Lib.hid (OT_5.out.ext hdr); clear hwc hdr; replace HWX := Lib.hid (HWX.out.trans HX.out))
    refine take_l 0 (v := ?_) rfl (by kernel_rfl) (by kernel_rfl) (by kernel_rfl) (fun _ _ _ h => h) (by rfl) ?_ (by assumption) ?_
    rotate_left
    · (intro w hSw; (try dsimp only at hSw); go_simp; (try with_reducible rfl))
    (try simp only [Act.put, List.setIfInBounds_toArray, List.set_cons_zero, List.set_cons_succ])
    refine take_l 1 (v := ?_) rfl (by kernel_rfl) (by kernel_rfl) (by kernel_rfl) (fun _ _ _ h => h) (by rfl) ?_ (by assumption) ?_
    rotate_left
    · (intro w hSw; (try dsimp only at hSw); go_simp; (try with_reducible rfl))
    (try simp only [Act.put, List.setIfInBounds_toArray, List.set_cons_zero, List.set_cons_succ])
    refine wpAnyH_ready (rs := [2]) (by kernel_rfl) (by simp) ?_
    refine cons_l (i := 2) rfl (fun K hK => ?_) ?_
    (go_simp; obtain ⟨lo2, hlo2⟩ : ∃ n, n = wc.heap.size := ⟨_, rfl⟩; have mlo2 : lo2 ≤ wc.heap.size := Nat.le_of_eq hlo2; have nlo2 : wc.heap.size ≤ lo2 := Nat.le_of_eq hlo2.symm; have xwlo2 : w5.heap.size ≤ lo2 := Nat.le_trans HX.out.size nlo2; (go_at_call 96; with_reducible refine (l02Copy_any _ _ _ _ _ _ _ ps xs _ HT.out htl HP.out hpl (HFT.out.ext HWX.out) (HFP.out.ext HWX.out) HCT.out HCP.out).mono ?_); rintro e wc ⟨a1, c1, a2, c2, rfl, hg2, hb⟩; have zz2 := hb.size; obtain ⟨hi2, hhi2⟩ : ∃ n, n = wc.heap.size := ⟨_, rfl⟩; have mhi2 : hi2 ≤ wc.heap.size := Nat.le_of_eq hhi2; have nhi2 : wc.heap.size ≤ hi2 := Nat.le_of_eq hhi2.symm; (try rw [← hlo2] at hg2); (try rw [← hhi2] at hg2); clear hlo2; clear hhi2; (try replace KX := Lib.hid (KX.out.ext hb)); (try replace KB1 := Lib.hid (KB1.out.ext hb)); (try replace KRES0 := Lib.hid (KRES0.out.ext hb)); (try replace KRES1 := Lib.hid (KRES1.out.ext hb)); (try replace OOT := Lib.hid (OOT.out.ext hb)); (try replace OR := Lib.hid (OR.out.ext hb)); (try replace HWX := Lib.hid (HWX.out.trans hb)); replace HX := Lib.hid (HX.out.trans hb); have OR := Lib.hid hg2; clear hg2; clear hb)
    refine hK.out _ _ ?_ (fun hH1 => ?_)
    · (try dsimp only)
      (exact ⟨KX.out.cell rfl, KX.out.cell rfl, KX.out.cell rfl, KX.out.cell rfl, KX.out.cell rfl, KX.out.cell rfl, KX.out.cell rfl, KX.out.cell rfl, KX.out.cell rfl, KX.out.cell rfl, KB1.out.cell rfl, KB1.out.cell rfl, KB1.out.cell rfl⟩)
    clear hK K hH0
    (try simp only [Act.put, List.setIfInBounds_toArray, List.set_cons_zero, List.set_cons_succ])
    refine wpAnyH_ready (rs := [3]) (by kernel_rfl) (by simp) ?_
    refine cons_l (i := 3) rfl (fun K hK => ?_) ?_
    (have hs0 := KRES0.out.cell (j := 0) (v := .int .i64 0) rfl; have hf0 := KRES0.out.frozen 0; have hs1 := KRES0.out.cell (j := 1) (v := .int .i64 0) rfl; have hf1 := KRES0.out.frozen 1; have hs2 := KRES0.out.cell (j := 2) (v := .int .i64 0) rfl; have hf2 := KRES0.out.frozen 2; have hs3 := KRES0.out.cell (j := 3) (v := .int .i64 0) rfl; have hf3 := KRES0.out.frozen 3; have hs4 := KRES0.out.cell (j := 4) (v := .int .i64 0) rfl; have hf4 := KRES0.out.frozen 4; have hs5 := KRES0.out.cell (j := 5) (v := .int .i64 0) rfl; have hf5 := KRES0.out.frozen 5; have hs6 := KRES0.out.cell (j := 6) (v := .int .i64 0) rfl; have hf6 := KRES0.out.frozen 6; have hs7 := KRES0.out.cell (j := 7) (v := .int .i64 0) rfl; have hf7 := KRES0.out.frozen 7; have hs8 := KRES0.out.cell (j := 8) (v := .int .i64 0) rfl; have hf8 := KRES0.out.frozen 8; have hs9 := KRES0.out.cell (j := 9) (v := .slice none 0 0) rfl; have hf9 := KRES0.out.frozen 9; go_simp; clear hs0 hf0 hs1 hf1 hs2 hf2 hs3 hf3 hs4 hf4 hs5 hf5 hs6 hf6 hs7 hf7 hs8 hf8 hs9 hf9; obtain ⟨wn, hwn⟩ : ∃ x, x = putAt wc (w.heap.size + 1 + 1) 0 [.int .i64 x0, .int .i64 x1, .int .i64 x2, .int .i64 x3, .int .i64 x4, .int .i64 x5, .int .i64 x6, .int .i64 x7, .int .i64 x8, .slice p n q] := ⟨_, rfl⟩; have en : ((((((((((wc.setCell ⟨w.heap.size + 1 + 1, 0, none⟩ (.int .i64 x0)).setCell ⟨w.heap.size + 1 + 1, 1, none⟩ (.int .i64 x1)).setCell ⟨w.heap.size + 1 + 1, 2, none⟩ (.int .i64 x2)).setCell ⟨w.heap.size + 1 + 1, 3, none⟩ (.int .i64 x3)).setCell ⟨w.heap.size + 1 + 1, 4, none⟩ (.int .i64 x4)).setCell ⟨w.heap.size + 1 + 1, 5, none⟩ (.int .i64 x5)).setCell ⟨w.heap.size + 1 + 1, 6, none⟩ (.int .i64 x6)).setCell ⟨w.heap.size + 1 + 1, 7, none⟩ (.int .i64 x7)).setCell ⟨w.heap.size + 1 + 1, 8, none⟩ (.int .i64 x8)).setCell ⟨w.heap.size + 1 + 1, 9, none⟩ (.slice p n q)) = wn := (by rw [hwn]; rfl); rw [en]; clear en; have zz3 : wc.heap.size ≤ wn.heap.size := (by rw [hwn, put_size]; exact Nat.le_refl _); (first | replace HX := Lib.hid (show Ext w5 wn by rw [hwn]; exact put_ext (by first | assumption | omega) _ _ _ HX.out) | skip); (try replace KX := Lib.hid (show RowAt wn (bX) 26 _ by rw [hwn]; exact put_other (by omega) _ _ _ KX.out)); (try replace KB1 := Lib.hid (show RowAt wn (w.heap.size + 1) 40 _ by rw [hwn]; exact put_other (by omega) _ _ _ KB1.out)); replace KRES0 := Lib.hid (RowAt.cast (c' := #[.int .i64 x0, .int .i64 x1, .int .i64 x2, .int .i64 x3, .int .i64 x4, .int .i64 x5, .int .i64 x6, .int .i64 x7, .int .i64 x8, .slice p n q]) (show RowAt wn (w.heap.size + 1 + 1) 26 (putArr #[.int .i64 0, .int .i64 0, .int .i64 0, .int .i64 0, .int .i64 0, .int .i64 0, .int .i64 0, .int .i64 0, .int .i64 0, .slice none 0 0] 0 [.int .i64 x0, .int .i64 x1, .int .i64 x2, .int .i64 x3, .int .i64 x4, .int .i64 x5, .int .i64 x6, .int .i64 x7, .int .i64 x8, .slice p n q]) by rw [hwn]; exact put_at _ _ _ _ KRES0.out) (by simp [putArr])); (try replace KRES1 := Lib.hid (show RowAt wn (w.heap.size + 1 + 1 + 1) 40 _ by rw [hwn]; exact put_other (by omega) _ _ _ KRES1.out)); (try replace OOT := Lib.hid (OOT.out.keep (w' := wn) (Nat.le_refl _) (Nat.le_refl _) (by rw [hwn]; exact put_kept (by omega)))); (try replace OR := Lib.hid (OR.out.keep (w' := wn) (Nat.le_refl _) (Nat.le_refl _) (by rw [hwn]; exact put_kept (by omega)))); (try replace HWX := Lib.hid (show Ext _ wn by rw [hwn]; exact put_ext (by omega) _ _ _ HWX.out)); clear hwn; obtain ⟨wc, hq⟩ : ∃ x, x = wn := ⟨_, rfl⟩; subst hq)
    refine hK.out _ _ ?_ (fun hH2 => ?_)
    · (try dsimp only)
      (exact ⟨KX.out.cell rfl, KX.out.cell rfl, KX.out.cell rfl, KX.out.cell rfl, KX.out.cell rfl, KX.out.cell rfl, KX.out.cell rfl, KX.out.cell rfl, KX.out.cell rfl, KX.out.cell rfl, KB1.out.cell rfl, KB1.out.cell rfl, KB1.out.cell rfl⟩)
    clear hK K hH1
    (try simp only [Act.put, List.setIfInBounds_toArray, List.set_cons_zero, List.set_cons_succ])
    refine wpAnyH_ready (rs := [4]) (by kernel_rfl) (by simp) ?_
    refine cons_l (i := 4) rfl (fun K hK => ?_) ?_
    (have hs0 := KRES1.out.cell (j := 0) (v := .slice none 0 0) rfl; have hf0 := KRES1.out.frozen 0; have hs1 := KRES1.out.cell (j := 1) (v := .int .i64 0) rfl; have hf1 := KRES1.out.frozen 1; have hs2 := KRES1.out.cell (j := 2) (v := .slice none 0 0) rfl; have hf2 := KRES1.out.frozen 2; go_simp; clear hs0 hf0 hs1 hf1 hs2 hf2; obtain ⟨wn, hwn⟩ : ∃ x, x = putAt wc (w.heap.size + 1 + 1 + 1) 0 [.slice a1 tn c1, .int .i64 vol, .slice a2 pn c2] := ⟨_, rfl⟩; have en : (((wc.setCell ⟨w.heap.size + 1 + 1 + 1, 0, none⟩ (.slice a1 tn c1)).setCell ⟨w.heap.size + 1 + 1 + 1, 1, none⟩ (.int .i64 vol)).setCell ⟨w.heap.size + 1 + 1 + 1, 2, none⟩ (.slice a2 pn c2)) = wn := (by rw [hwn]; rfl); rw [en]; clear en; have zz4 : wc.heap.size ≤ wn.heap.size := (by rw [hwn, put_size]; exact Nat.le_refl _); (first | replace HX := Lib.hid (show Ext w5 wn by rw [hwn]; exact put_ext (by first | assumption | omega) _ _ _ HX.out) | skip); (try replace KX := Lib.hid (show RowAt wn (bX) 26 _ by rw [hwn]; exact put_other (by omega) _ _ _ KX.out)); (try replace KB1 := Lib.hid (show RowAt wn (w.heap.size + 1) 40 _ by rw [hwn]; exact put_other (by omega) _ _ _ KB1.out)); (try replace KRES0 := Lib.hid (show RowAt wn (w.heap.size + 1 + 1) 26 _ by rw [hwn]; exact put_other (by omega) _ _ _ KRES0.out)); replace KRES1 := Lib.hid (RowAt.cast (c' := #[.slice a1 tn c1, .int .i64 vol, .slice a2 pn c2]) (show RowAt wn (w.heap.size + 1 + 1 + 1) 40 (putArr #[.slice none 0 0, .int .i64 0, .slice none 0 0] 0 [.slice a1 tn c1, .int .i64 vol, .slice a2 pn c2]) by rw [hwn]; exact put_at _ _ _ _ KRES1.out) (by simp [putArr])); (try replace OOT := Lib.hid (OOT.out.keep (w' := wn) (Nat.le_refl _) (Nat.le_refl _) (by rw [hwn]; exact put_kept (by omega)))); (try replace OR := Lib.hid (OR.out.keep (w' := wn) (Nat.le_refl _) (Nat.le_refl _) (by rw [hwn]; exact put_kept (by omega)))); (try replace HWX := Lib.hid (show Ext _ wn by rw [hwn]; exact put_ext (by omega) _ _ _ HWX.out)); clear hwn; obtain ⟨wc, hq⟩ : ∃ x, x = wn := ⟨_, rfl⟩; subst hq)
    refine hK.out _ _ ?_ (fun hH3 => ?_)
    · (try dsimp only)
      (exact ⟨KX.out.cell rfl, KX.out.cell rfl, KX.out.cell rfl, KX.out.cell rfl, KX.out.cell rfl, KX.out.cell rfl, KX.out.cell rfl, KX.out.cell rfl, KX.out.cell rfl, KX.out.cell rfl, KB1.out.cell rfl, KB1.out.cell rfl, KB1.out.cell rfl⟩)
    clear hK K hH2
    (try simp only [Act.put, List.setIfInBounds_toArray, List.set_cons_zero, List.set_cons_succ])
    refine wpAnyH_done (by kernel_rfl) ?_ _
    rotate_left
    exact AllReadyH.nil
    exact AllReadyH.nil
    exact AllReadyH.nil
    go_wp2
    have q0_0 : wc.cell? ⟨w.heap.size + 1 + 1, 0, none⟩ = some (.int .i64 x0) := KRES0.out.cell rfl
    have q0_1 : wc.cell? ⟨w.heap.size + 1 + 1, 1, none⟩ = some (.int .i64 x1) := KRES0.out.cell rfl
    have q0_2 : wc.cell? ⟨w.heap.size + 1 + 1, 2, none⟩ = some (.int .i64 x2) := KRES0.out.cell rfl
    have q0_3 : wc.cell? ⟨w.heap.size + 1 + 1, 3, none⟩ = some (.int .i64 x3) := KRES0.out.cell rfl
    have q0_4 : wc.cell? ⟨w.heap.size + 1 + 1, 4, none⟩ = some (.int .i64 x4) := KRES0.out.cell rfl
    have q0_5 : wc.cell? ⟨w.heap.size + 1 + 1, 5, none⟩ = some (.int .i64 x5) := KRES0.out.cell rfl
    have q0_6 : wc.cell? ⟨w.heap.size + 1 + 1, 6, none⟩ = some (.int .i64 x6) := KRES0.out.cell rfl
    have q0_7 : wc.cell? ⟨w.heap.size + 1 + 1, 7, none⟩ = some (.int .i64 x7) := KRES0.out.cell rfl
    have q0_8 : wc.cell? ⟨w.heap.size + 1 + 1, 8, none⟩ = some (.int .i64 x8) := KRES0.out.cell rfl
    have q0_9 : wc.cell? ⟨w.heap.size + 1 + 1, 9, none⟩ = some (.slice p n q) := KRES0.out.cell rfl
    have q1_0 : wc.cell? ⟨w.heap.size + 1 + 1 + 1, 0, none⟩ = some (.slice a1 tn c1) := KRES1.out.cell rfl
    have q1_1 : wc.cell? ⟨w.heap.size + 1 + 1 + 1, 1, none⟩ = some (.int .i64 vol) := KRES1.out.cell rfl
    have q1_2 : wc.cell? ⟨w.heap.size + 1 + 1 + 1, 2, none⟩ = some (.slice a2 pn c2) := KRES1.out.cell rfl
    refine bodyPost_ret (v := .tuple #[.agg #[.int .i64 x0, .int .i64 x1, .int .i64 x2, .int .i64 x3, .int .i64 x4, .int .i64 x5, .int .i64 x6, .int .i64 x7, .int .i64 x8, .slice p n q], .agg #[.slice a1 tn c1, .int .i64 vol, .slice a2 pn c2]]) (by simp [results, Try.results44, go_sem, *]) rfl ⟨p, q, _, _, _, _, rfl, LockReach.mk (lo1 := ((((w.alloc (.cells #[.int .i64 x0, .int .i64 x1, .int .i64 x2, .int .i64 x3, .int .i64 x4, .int .i64 x5, .int .i64 x6, .int .i64 x7, .int .i64 x8, .slice a n c] 26)).alloc (.cells #[.slice ta tn tc, .int .i64 vol, .slice pa pn pc] 40)).alloc (.cells #[.int .i64 0, .int .i64 0, .int .i64 0, .int .i64 0, .int .i64 0, .int .i64 0, .int .i64 0, .int .i64 0, .int .i64 0, .slice none 0 0] 26)).alloc (.cells #[.slice none 0 0, .int .i64 0, .slice none 0 0] 40)).heap.size) (hi1 := w1.heap.size) (lo2 := lo2) (hi2 := hi2) (by omega) (by omega) (by omega) (by omega) (by omega) OOT.out OR.out, HWX.out⟩
  rw [if_neg hov] at hres
  obtain ⟨rfl, rfl, rfl⟩ := inj3 hres
  clear hres
  have e2 : decide (1000000000 - T < am) = false := by simpa using hov
  have cB00 : w5.cell? ⟨w.heap.size, 0, none⟩ = some (.int .i64 x0) := B0_5.out.cell rfl
  have cB01 : w5.cell? ⟨w.heap.size, 1, none⟩ = some (.int .i64 x1) := B0_5.out.cell rfl
  have cB02 : w5.cell? ⟨w.heap.size, 2, none⟩ = some (.int .i64 x2) := B0_5.out.cell rfl
  have cB03 : w5.cell? ⟨w.heap.size, 3, none⟩ = some (.int .i64 x3) := B0_5.out.cell rfl
  have cB04 : w5.cell? ⟨w.heap.size, 4, none⟩ = some (.int .i64 x4) := B0_5.out.cell rfl
  have cB05 : w5.cell? ⟨w.heap.size, 5, none⟩ = some (.int .i64 x5) := B0_5.out.cell rfl
  have cB06 : w5.cell? ⟨w.heap.size, 6, none⟩ = some (.int .i64 x6) := B0_5.out.cell rfl
  have cB07 : w5.cell? ⟨w.heap.size, 7, none⟩ = some (.int .i64 x7) := B0_5.out.cell rfl
  have cB08 : w5.cell? ⟨w.heap.size, 8, none⟩ = some (.int .i64 x8) := B0_5.out.cell rfl
  have cB09 : w5.cell? ⟨w.heap.size, 9, none⟩ = some (.slice a n c) := B0_5.out.cell rfl
  have e0 : w5.cell? ⟨bX, 0, none⟩ = some (.int .i64 x0) := X_5.out.cell rfl
  have e1 : w5.cell? ⟨bX, 1, none⟩ = some (.int .i64 x1) := X_5.out.cell rfl
  have e2 : w5.cell? ⟨bX, 2, none⟩ = some (.int .i64 x2) := X_5.out.cell rfl
  have e3 : w5.cell? ⟨bX, 3, none⟩ = some (.int .i64 x3) := X_5.out.cell rfl
  have e4 : w5.cell? ⟨bX, 4, none⟩ = some (.int .i64 x4) := X_5.out.cell rfl
  have e5 : w5.cell? ⟨bX, 5, none⟩ = some (.int .i64 x5) := X_5.out.cell rfl
  have e6 : w5.cell? ⟨bX, 6, none⟩ = some (.int .i64 x6) := X_5.out.cell rfl
  have e7 : w5.cell? ⟨bX, 7, none⟩ = some (.int .i64 x7) := X_5.out.cell rfl
  have e8 : w5.cell? ⟨bX, 8, none⟩ = some (.int .i64 x8) := X_5.out.cell rfl
  have e9 : w5.cell? ⟨bX, 9, none⟩ = some (.slice p n q) := X_5.out.cell rfl
  have ef := X_5.out.frozen 7
  go_wp2_with fail
  clear ef e0 e1 e2 e3 e4 e5 e6 e7 e8 e9
  obtain ⟨w6, hwn⟩ : ∃ x, x = putAt w5 bX 7 [.int .i64 (x7 - am)] := ⟨_, rfl⟩
  have en : w5.setCell ⟨bX, 7, none⟩ (.int .i64 (x7 - am)) = w6 := (by rw [hwn]; rfl)
  rw [en]; clear en
  have zz6 : w5.heap.size ≤ w6.heap.size := (by rw [hwn, put_size]; exact Nat.le_refl _)
  have HW6 := Lib.hid (show Ext w w6 by rw [hwn]; exact put_ext (by omega) _ _ _ HW5.out)
  have B0_6 := Lib.hid (show RowAt w6 (w.heap.size) 26 #[.int .i64 x0, .int .i64 x1, .int .i64 x2, .int .i64 x3, .int .i64 x4, .int .i64 x5, .int .i64 x6, .int .i64 x7, .int .i64 x8, .slice a n c] by rw [hwn]; exact put_other (by omega) _ _ _ B0_5.out)
  have B1_6 := Lib.hid (show RowAt w6 (w.heap.size + 1) 40 #[.slice ta tn tc, .int .i64 vol, .slice pa pn pc] by rw [hwn]; exact put_other (by omega) _ _ _ B1_5.out)
  have RES0_6 := Lib.hid (show RowAt w6 (w.heap.size + 1 + 1) 26 #[.int .i64 0, .int .i64 0, .int .i64 0, .int .i64 0, .int .i64 0, .int .i64 0, .int .i64 0, .int .i64 0, .int .i64 0, .slice none 0 0] by rw [hwn]; exact put_other (by omega) _ _ _ RES0_5.out)
  have RES1_6 := Lib.hid (show RowAt w6 (w.heap.size + 1 + 1 + 1) 40 #[.slice none 0 0, .int .i64 0, .slice none 0 0] by rw [hwn]; exact put_other (by omega) _ _ _ RES1_5.out)
  have X_6 := Lib.hid (RowAt.cast (c' := #[.int .i64 x0, .int .i64 x1, .int .i64 x2, .int .i64 x3, .int .i64 x4, .int .i64 x5, .int .i64 x6, .int .i64 (x7 - am), .int .i64 x8, .slice p n q]) (show RowAt w6 bX 26 (putArr #[.int .i64 x0, .int .i64 x1, .int .i64 x2, .int .i64 x3, .int .i64 x4, .int .i64 x5, .int .i64 x6, .int .i64 x7, .int .i64 x8, .slice p n q] 7 [.int .i64 (x7 - am)]) by rw [hwn]; exact put_at _ _ _ _ X_5.out) (by simp [putArr]))
  have OT_6 := Lib.hid (OT_5.out.keep (w' := w6) (Nat.le_refl _) (Nat.le_refl _) (by rw [hwn]; exact put_kept (by omega)))
  clear hwn HW5 B0_5 B1_5 RES0_5 RES1_5 X_5 OT_5
  have KX := X_6
  have KB1 := B1_6
  have KRES0 := RES0_6
  have KRES1 := RES1_6
  have OOT := OT_6
  have HWX := HW6
  refine wp_region_held_drew (S := (fun w' => w'.cell? ⟨bX, 0, none⟩ = some (.int .i64 x0) ∧ w'.cell? ⟨bX, 1, none⟩ = some (.int .i64 x1) ∧ w'.cell? ⟨bX, 2, none⟩ = some (.int .i64 x2) ∧ w'.cell? ⟨bX, 3, none⟩ = some (.int .i64 x3) ∧ w'.cell? ⟨bX, 4, none⟩ = some (.int .i64 x4) ∧ w'.cell? ⟨bX, 5, none⟩ = some (.int .i64 x5) ∧ w'.cell? ⟨bX, 6, none⟩ = some (.int .i64 x6) ∧ w'.cell? ⟨bX, 7, none⟩ = some (.int .i64 (x7 - am)) ∧ w'.cell? ⟨bX, 8, none⟩ = some (.int .i64 x8) ∧ w'.cell? ⟨bX, 9, none⟩ = some (.slice p n q) ∧ w'.cell? ⟨w.heap.size + 1, 0, none⟩ = some (.slice ta tn tc) ∧ w'.cell? ⟨w.heap.size + 1, 1, none⟩ = some (.int .i64 vol) ∧ w'.cell? ⟨w.heap.size + 1, 2, none⟩ = some (.slice pa pn pc))) (by kernel_rfl) ?_ (fun hH0 => ?_)
  · (try dsimp only)
    (exact ⟨KX.out.cell rfl, KX.out.cell rfl, KX.out.cell rfl, KX.out.cell rfl, KX.out.cell rfl, KX.out.cell rfl, KX.out.cell rfl, KX.out.cell rfl, KX.out.cell rfl, KX.out.cell rfl, KB1.out.cell rfl, KB1.out.cell rfl, KB1.out.cell rfl⟩)
  (obtain ⟨wc, hwc⟩ : ∃ x, x = w6.drew := ⟨_, rfl⟩; have hdr : Ext w6 wc := (by rw [hwc]; exact (Ext.refl _).drew); (try rw [← hwc] at hH0); (try rw [← hwc]); have zdr : w6.heap.size ≤ wc.heap.size := hdr.size; have HX := Lib.hid hdr; have KX := Lib.hid (X_6.out.ext hdr); have KB1 := Lib.hid (B1_6.out.ext hdr); have KRES0 := Lib.hid (RES0_6.out.ext hdr); have KRES1 := Lib.hid (RES1_6.out.ext hdr); have OOT := Lib.hid (OT_6.out.ext hdr); clear hwc hdr; replace HWX := Lib.hid (HWX.out.trans HX.out))
  refine take_l 0 (v := ?_) rfl (by kernel_rfl) (by kernel_rfl) (by kernel_rfl) (fun _ _ _ h => h) (by rfl) ?_ (by assumption) ?_
  rotate_left
  · (intro w hSw; (try dsimp only at hSw); go_simp; (try with_reducible rfl))
  (try simp only [Act.put, List.setIfInBounds_toArray, List.set_cons_zero, List.set_cons_succ])
  refine take_l 1 (v := ?_) rfl (by kernel_rfl) (by kernel_rfl) (by kernel_rfl) (fun _ _ _ h => h) (by rfl) ?_ (by assumption) ?_
  rotate_left
  · (intro w hSw; (try dsimp only at hSw); go_simp; (try with_reducible rfl))
  (try simp only [Act.put, List.setIfInBounds_toArray, List.set_cons_zero, List.set_cons_succ])
  refine take_l 2 (v := ?_) rfl (by kernel_rfl) (by kernel_rfl) (by kernel_rfl) (fun _ _ _ h => h) (by rfl) ?_ (by assumption) ?_
  rotate_left
  · (intro w hSw; (try dsimp only at hSw); go_simp; (try with_reducible rfl))
  (try simp only [Act.put, List.setIfInBounds_toArray, List.set_cons_zero, List.set_cons_succ])
  refine wpAnyH_ready (rs := [3]) (by kernel_rfl) (by simp) ?_
  refine cons_l (i := 3) rfl (fun K hK => ?_) ?_
  (go_simp; obtain ⟨lo9, hlo9⟩ : ∃ n, n = wc.heap.size := ⟨_, rfl⟩; have mlo9 : lo9 ≤ wc.heap.size := Nat.le_of_eq hlo9; have nlo9 : wc.heap.size ≤ lo9 := Nat.le_of_eq hlo9.symm; have xwlo9 : w6.heap.size ≤ lo9 := Nat.le_trans HX.out.size nlo9; (go_at_call 98; with_reducible refine (specSend_any am _ _ _ _ _ _ _ ps xs _ HT.out htl HP.out hpl (HFT.out.ext HWX.out) (HFP.out.ext HWX.out) hvol HCT.out HCP.out HK2.out ⟨by omega, by rw [HTT.out]; omega⟩).mono ?_); rintro e wc ⟨a1, c1, a2, c2, rfl, hg2, hb⟩; have zz3 := hb.size; obtain ⟨hi9, hhi9⟩ : ∃ n, n = wc.heap.size := ⟨_, rfl⟩; have mhi9 : hi9 ≤ wc.heap.size := Nat.le_of_eq hhi9; have nhi9 : wc.heap.size ≤ hi9 := Nat.le_of_eq hhi9.symm; (try rw [← hlo9] at hg2); (try rw [← hhi9] at hg2); clear hlo9; clear hhi9; (try replace KX := Lib.hid (KX.out.ext hb)); (try replace KB1 := Lib.hid (KB1.out.ext hb)); (try replace KRES0 := Lib.hid (KRES0.out.ext hb)); (try replace KRES1 := Lib.hid (KRES1.out.ext hb)); (try replace OOT := Lib.hid (OOT.out.ext hb)); (try replace OZ := Lib.hid (OZ.out.ext hb)); (try replace HWX := Lib.hid (HWX.out.trans hb)); replace HX := Lib.hid (HX.out.trans hb); have OZ := Lib.hid hg2; clear hg2; clear hb)
  refine hK.out _ _ ?_ (fun hH1 => ?_)
  · (try dsimp only)
    (exact ⟨KX.out.cell rfl, KX.out.cell rfl, KX.out.cell rfl, KX.out.cell rfl, KX.out.cell rfl, KX.out.cell rfl, KX.out.cell rfl, KX.out.cell rfl, KX.out.cell rfl, KX.out.cell rfl, KB1.out.cell rfl, KB1.out.cell rfl, KB1.out.cell rfl⟩)
  clear hK K hH0
  (try simp only [Act.put, List.setIfInBounds_toArray, List.set_cons_zero, List.set_cons_succ])
  refine wpAnyH_ready (rs := [4]) (by kernel_rfl) (by simp) ?_
  refine cons_l (i := 4) rfl (fun K hK => ?_) ?_
  (have hs0 := KRES0.out.cell (j := 0) (v := .int .i64 0) rfl; have hf0 := KRES0.out.frozen 0; have hs1 := KRES0.out.cell (j := 1) (v := .int .i64 0) rfl; have hf1 := KRES0.out.frozen 1; have hs2 := KRES0.out.cell (j := 2) (v := .int .i64 0) rfl; have hf2 := KRES0.out.frozen 2; have hs3 := KRES0.out.cell (j := 3) (v := .int .i64 0) rfl; have hf3 := KRES0.out.frozen 3; have hs4 := KRES0.out.cell (j := 4) (v := .int .i64 0) rfl; have hf4 := KRES0.out.frozen 4; have hs5 := KRES0.out.cell (j := 5) (v := .int .i64 0) rfl; have hf5 := KRES0.out.frozen 5; have hs6 := KRES0.out.cell (j := 6) (v := .int .i64 0) rfl; have hf6 := KRES0.out.frozen 6; have hs7 := KRES0.out.cell (j := 7) (v := .int .i64 0) rfl; have hf7 := KRES0.out.frozen 7; have hs8 := KRES0.out.cell (j := 8) (v := .int .i64 0) rfl; have hf8 := KRES0.out.frozen 8; have hs9 := KRES0.out.cell (j := 9) (v := .slice none 0 0) rfl; have hf9 := KRES0.out.frozen 9; go_simp; clear hs0 hf0 hs1 hf1 hs2 hf2 hs3 hf3 hs4 hf4 hs5 hf5 hs6 hf6 hs7 hf7 hs8 hf8 hs9 hf9; obtain ⟨wn, hwn⟩ : ∃ x, x = putAt wc (w.heap.size + 1 + 1) 0 [.int .i64 x0, .int .i64 x1, .int .i64 x2, .int .i64 x3, .int .i64 x4, .int .i64 x5, .int .i64 x6, .int .i64 (x7 - am), .int .i64 x8, .slice p n q] := ⟨_, rfl⟩; have en : ((((((((((wc.setCell ⟨w.heap.size + 1 + 1, 0, none⟩ (.int .i64 x0)).setCell ⟨w.heap.size + 1 + 1, 1, none⟩ (.int .i64 x1)).setCell ⟨w.heap.size + 1 + 1, 2, none⟩ (.int .i64 x2)).setCell ⟨w.heap.size + 1 + 1, 3, none⟩ (.int .i64 x3)).setCell ⟨w.heap.size + 1 + 1, 4, none⟩ (.int .i64 x4)).setCell ⟨w.heap.size + 1 + 1, 5, none⟩ (.int .i64 x5)).setCell ⟨w.heap.size + 1 + 1, 6, none⟩ (.int .i64 x6)).setCell ⟨w.heap.size + 1 + 1, 7, none⟩ (.int .i64 (x7 - am))).setCell ⟨w.heap.size + 1 + 1, 8, none⟩ (.int .i64 x8)).setCell ⟨w.heap.size + 1 + 1, 9, none⟩ (.slice p n q)) = wn := (by rw [hwn]; rfl); rw [en]; clear en; have zz4 : wc.heap.size ≤ wn.heap.size := (by rw [hwn, put_size]; exact Nat.le_refl _); (first | replace HX := Lib.hid (show Ext w6 wn by rw [hwn]; exact put_ext (by first | assumption | omega) _ _ _ HX.out) | skip); (try replace KX := Lib.hid (show RowAt wn (bX) 26 _ by rw [hwn]; exact put_other (by omega) _ _ _ KX.out)); (try replace KB1 := Lib.hid (show RowAt wn (w.heap.size + 1) 40 _ by rw [hwn]; exact put_other (by omega) _ _ _ KB1.out)); replace KRES0 := Lib.hid (RowAt.cast (c' := #[.int .i64 x0, .int .i64 x1, .int .i64 x2, .int .i64 x3, .int .i64 x4, .int .i64 x5, .int .i64 x6, .int .i64 (x7 - am), .int .i64 x8, .slice p n q]) (show RowAt wn (w.heap.size + 1 + 1) 26 (putArr #[.int .i64 0, .int .i64 0, .int .i64 0, .int .i64 0, .int .i64 0, .int .i64 0, .int .i64 0, .int .i64 0, .int .i64 0, .slice none 0 0] 0 [.int .i64 x0, .int .i64 x1, .int .i64 x2, .int .i64 x3, .int .i64 x4, .int .i64 x5, .int .i64 x6, .int .i64 (x7 - am), .int .i64 x8, .slice p n q]) by rw [hwn]; exact put_at _ _ _ _ KRES0.out) (by simp [putArr])); (try replace KRES1 := Lib.hid (show RowAt wn (w.heap.size + 1 + 1 + 1) 40 _ by rw [hwn]; exact put_other (by omega) _ _ _ KRES1.out)); (try replace OOT := Lib.hid (OOT.out.keep (w' := wn) (Nat.le_refl _) (Nat.le_refl _) (by rw [hwn]; exact put_kept (by omega)))); (try replace OZ := Lib.hid (OZ.out.keep (w' := wn) (Nat.le_refl _) (Nat.le_refl _) (by rw [hwn]; exact put_kept (by omega)))); (try replace HWX := Lib.hid (show Ext _ wn by rw [hwn]; exact put_ext (by omega) _ _ _ HWX.out)); clear hwn; obtain ⟨wc, hq⟩ : ∃ x, x = wn := ⟨_, rfl⟩; subst hq)
  refine hK.out _ _ ?_ (fun hH2 => ?_)
  · (try dsimp only)
    (exact ⟨KX.out.cell rfl, KX.out.cell rfl, KX.out.cell rfl, KX.out.cell rfl, KX.out.cell rfl, KX.out.cell rfl, KX.out.cell rfl, KX.out.cell rfl, KX.out.cell rfl, KX.out.cell rfl, KB1.out.cell rfl, KB1.out.cell rfl, KB1.out.cell rfl⟩)
  clear hK K hH1
  (try simp only [Act.put, List.setIfInBounds_toArray, List.set_cons_zero, List.set_cons_succ])
  refine wpAnyH_ready (rs := [5]) (by kernel_rfl) (by simp) ?_
  refine cons_l (i := 5) rfl (fun K hK => ?_) ?_
  (have hs0 := KRES1.out.cell (j := 0) (v := .slice none 0 0) rfl; have hf0 := KRES1.out.frozen 0; have hs1 := KRES1.out.cell (j := 1) (v := .int .i64 0) rfl; have hf1 := KRES1.out.frozen 1; have hs2 := KRES1.out.cell (j := 2) (v := .slice none 0 0) rfl; have hf2 := KRES1.out.frozen 2; go_simp; clear hs0 hf0 hs1 hf1 hs2 hf2; obtain ⟨wn, hwn⟩ : ∃ x, x = putAt wc (w.heap.size + 1 + 1 + 1) 0 [.slice a1 tn c1, .int .i64 (sendVol vol xs am), .slice a2 pn c2] := ⟨_, rfl⟩; have en : (((wc.setCell ⟨w.heap.size + 1 + 1 + 1, 0, none⟩ (.slice a1 tn c1)).setCell ⟨w.heap.size + 1 + 1 + 1, 1, none⟩ (.int .i64 (sendVol vol xs am))).setCell ⟨w.heap.size + 1 + 1 + 1, 2, none⟩ (.slice a2 pn c2)) = wn := (by rw [hwn]; rfl); rw [en]; clear en; have zz5 : wc.heap.size ≤ wn.heap.size := (by rw [hwn, put_size]; exact Nat.le_refl _); (first | replace HX := Lib.hid (show Ext w6 wn by rw [hwn]; exact put_ext (by first | assumption | omega) _ _ _ HX.out) | skip); (try replace KX := Lib.hid (show RowAt wn (bX) 26 _ by rw [hwn]; exact put_other (by omega) _ _ _ KX.out)); (try replace KB1 := Lib.hid (show RowAt wn (w.heap.size + 1) 40 _ by rw [hwn]; exact put_other (by omega) _ _ _ KB1.out)); (try replace KRES0 := Lib.hid (show RowAt wn (w.heap.size + 1 + 1) 26 _ by rw [hwn]; exact put_other (by omega) _ _ _ KRES0.out)); replace KRES1 := Lib.hid (RowAt.cast (c' := #[.slice a1 tn c1, .int .i64 (sendVol vol xs am), .slice a2 pn c2]) (show RowAt wn (w.heap.size + 1 + 1 + 1) 40 (putArr #[.slice none 0 0, .int .i64 0, .slice none 0 0] 0 [.slice a1 tn c1, .int .i64 (sendVol vol xs am), .slice a2 pn c2]) by rw [hwn]; exact put_at _ _ _ _ KRES1.out) (by simp [putArr])); (try replace OOT := Lib.hid (OOT.out.keep (w' := wn) (Nat.le_refl _) (Nat.le_refl _) (by rw [hwn]; exact put_kept (by omega)))); (try replace OZ := Lib.hid (OZ.out.keep (w' := wn) (Nat.le_refl _) (Nat.le_refl _) (by rw [hwn]; exact put_kept (by omega)))); (try replace HWX := Lib.hid (show Ext _ wn by rw [hwn]; exact put_ext (by omega) _ _ _ HWX.out)); clear hwn; obtain ⟨wc, hq⟩ : ∃ x, x = wn := ⟨_, rfl⟩; subst hq)
  refine hK.out _ _ ?_ (fun hH3 => ?_)
  · (try dsimp only)
    (exact ⟨KX.out.cell rfl, KX.out.cell rfl, KX.out.cell rfl, KX.out.cell rfl, KX.out.cell rfl, KX.out.cell rfl, KX.out.cell rfl, KX.out.cell rfl, KX.out.cell rfl, KX.out.cell rfl, KB1.out.cell rfl, KB1.out.cell rfl, KB1.out.cell rfl⟩)
  clear hK K hH2
  (try simp only [Act.put, List.setIfInBounds_toArray, List.set_cons_zero, List.set_cons_succ])
  refine wpAnyH_done (by kernel_rfl) ?_ _
  rotate_left
  exact AllReadyH.nil
  exact AllReadyH.nil
  exact AllReadyH.nil
  go_wp2
  have q0_0 : wc.cell? ⟨w.heap.size + 1 + 1, 0, none⟩ = some (.int .i64 x0) := KRES0.out.cell rfl
  have q0_1 : wc.cell? ⟨w.heap.size + 1 + 1, 1, none⟩ = some (.int .i64 x1) := KRES0.out.cell rfl
  have q0_2 : wc.cell? ⟨w.heap.size + 1 + 1, 2, none⟩ = some (.int .i64 x2) := KRES0.out.cell rfl
  have q0_3 : wc.cell? ⟨w.heap.size + 1 + 1, 3, none⟩ = some (.int .i64 x3) := KRES0.out.cell rfl
  have q0_4 : wc.cell? ⟨w.heap.size + 1 + 1, 4, none⟩ = some (.int .i64 x4) := KRES0.out.cell rfl
  have q0_5 : wc.cell? ⟨w.heap.size + 1 + 1, 5, none⟩ = some (.int .i64 x5) := KRES0.out.cell rfl
  have q0_6 : wc.cell? ⟨w.heap.size + 1 + 1, 6, none⟩ = some (.int .i64 x6) := KRES0.out.cell rfl
  have q0_7 : wc.cell? ⟨w.heap.size + 1 + 1, 7, none⟩ = some (.int .i64 (x7 - am)) := KRES0.out.cell rfl
  have q0_8 : wc.cell? ⟨w.heap.size + 1 + 1, 8, none⟩ = some (.int .i64 x8) := KRES0.out.cell rfl
  have q0_9 : wc.cell? ⟨w.heap.size + 1 + 1, 9, none⟩ = some (.slice p n q) := KRES0.out.cell rfl
  have q1_0 : wc.cell? ⟨w.heap.size + 1 + 1 + 1, 0, none⟩ = some (.slice a1 tn c1) := KRES1.out.cell rfl
  have q1_1 : wc.cell? ⟨w.heap.size + 1 + 1 + 1, 1, none⟩ = some (.int .i64 (sendVol vol xs am)) := KRES1.out.cell rfl
  have q1_2 : wc.cell? ⟨w.heap.size + 1 + 1 + 1, 2, none⟩ = some (.slice a2 pn c2) := KRES1.out.cell rfl
  refine bodyPost_ret (v := .tuple #[.agg #[.int .i64 x0, .int .i64 x1, .int .i64 x2, .int .i64 x3, .int .i64 x4, .int .i64 x5, .int .i64 x6, .int .i64 (x7 - am), .int .i64 x8, .slice p n q], .agg #[.slice a1 tn c1, .int .i64 (sendVol vol xs am), .slice a2 pn c2]]) (by simp [results, Try.results44, go_sem, *]) rfl ⟨p, q, _, _, _, _, rfl, LockReach.mk (lo1 := ((((w.alloc (.cells #[.int .i64 x0, .int .i64 x1, .int .i64 x2, .int .i64 x3, .int .i64 x4, .int .i64 x5, .int .i64 x6, .int .i64 x7, .int .i64 x8, .slice a n c] 26)).alloc (.cells #[.slice ta tn tc, .int .i64 vol, .slice pa pn pc] 40)).alloc (.cells #[.int .i64 0, .int .i64 0, .int .i64 0, .int .i64 0, .int .i64 0, .int .i64 0, .int .i64 0, .int .i64 0, .int .i64 0, .slice none 0 0] 26)).alloc (.cells #[.slice none 0 0, .int .i64 0, .slice none 0 0] 40)).heap.size) (hi1 := w1.heap.size) (lo2 := lo9) (hi2 := hi9) (by omega) (by omega) (by omega) (by omega) (by omega) OOT.out OZ.out, HWX.out⟩
end Go.Proofs.Ytknpdhafafomaaa
