/- OpenGate on both sides. -/
import Derived.Test.YtmppoflgbmabpaaProg
import Derived.Test.YtmppoflgbmabpaaM5
namespace Go.Proofs.Ytmppoflgbmabpaa
open Go.RowKit
set_option linter.unusedSimpArgs false
set_option linter.unusedVariables false

/-- What OpenGate answers: the gate, and whether it was opened. -/
noncomputable def openRes (x0 x1 x2 x3 x4 x5 x6 x7 x8 : Int) (ts : List Tn) (ps0 : List Pt) (vol0 : Int) (xs0 : List Int) (ps1 : List Pt) (vol1 : Int) (xs1 : List Int) (gate : Int) : Int × Bool :=
  if lockOk x0 x1 x2 x3 x4 x5 x6 x7 x8 ts && (reachOk ps0 vol0 xs0 && (reachOk ps1 vol1 xs1 && decide (x8 = 0))) then
    (if gate = 1 then (if inR (chamber x0 x1 x2 x3 x4 x5 x6 x7 x8 ts) (levelOf ps0 vol0 xs0 - 1) (levelOf ps0 vol0 xs0 + 1) then (gate, true) else (x8, false))
      else if gate = 2 then (if inR (chamber x0 x1 x2 x3 x4 x5 x6 x7 x8 ts) (levelOf ps1 vol1 xs1 - 1) (levelOf ps1 vol1 xs1 + 1) then (gate, true) else (x8, false)) else (x8, false)) else (x8, false)
theorem near_eq (c l : Int) : inR (c - l) (-1) 1 = inR c (l - 1) (l + 1) := decide_eq_decide.2 (by omega)

set_option maxRecDepth 100000 in
set_option maxHeartbeats 1000000 in
theorem implOpen_any (g : Int) (ok : Bool) (x0 x1 x2 x3 x4 x5 x6 x7 x8 : Int) (a : Option Addr) (n c : Nat) (ts : List Tn) (ta0 pa0 : Option Addr) (tn0 tc0 pn0 pc0 : Nat) (vol0 : Int) (ps0 : List Pt) (xs0 : List Int) (ta1 pa1 : Option Addr) (tn1 tc1 pn1 pc1 : Nat) (vol1 : Int) (ps1 : List Pt) (xs1 : List Int) (gate : Int) (w : World) (hn : n = ts.length) (hs : n ≤ 1048576) (hts : ∀ t ∈ ts, SmallT t) (hf : TrainsAt w a ts) (ht0 : tn0 = ps0.length) (htl0 : tn0 ≤ 1048576) (hp0 : pn0 = xs0.length) (hpl0 : pn0 ≤ 1048576) (hft0 : FlatAt w ptCells 2 ta0 ps0) (hfp0 : IntsAt w pa0 xs0) (hvol0 : -9223372036854775808 ≤ vol0 ∧ vol0 ≤ 9223372036854775807) (ht1 : tn1 = ps1.length) (htl1 : tn1 ≤ 1048576) (hp1 : pn1 = xs1.length) (hpl1 : pn1 ≤ 1048576) (hft1 : FlatAt w ptCells 2 ta1 ps1) (hfp1 : IntsAt w pa1 xs1) (hvol1 : -9223372036854775808 ≤ vol1 ∧ vol1 ≤ 9223372036854775807) (hgate : I64 gate) (hres : openRes x0 x1 x2 x3 x4 x5 x6 x7 x8 ts ps0 vol0 xs0 ps1 vol1 xs1 gate = (g, ok)) :
    Calls Try.prog 14 #[.agg #[.int .i64 x0, .int .i64 x1, .int .i64 x2, .int .i64 x3, .int .i64 x4, .int .i64 x5, .int .i64 x6, .int .i64 x7, .int .i64 x8, .slice a n c], .agg #[.slice ta0 tn0 tc0, .int .i64 vol0, .slice pa0 pn0 pc0], .agg #[.slice ta1 tn1 tc1, .int .i64 vol1, .slice pa1 pn1 pc1], .int .i64 gate] w fun e w' => ∃ a' c', e = .returned (.tuple #[.agg #[.int .i64 x0, .int .i64 x1, .int .i64 x2, .int .i64 x3, .int .i64 x4, .int .i64 x5, .int .i64 x6, .int .i64 x7, .int .i64 g, .slice a' n c'], .bool ok]) ∧ OwnTrains w' w.heap.size w'.heap.size a' ts ∧ Ext w w' := by
  obtain ⟨k1, hk1⟩ : ∃ k, lockOk x0 x1 x2 x3 x4 x5 x6 x7 x8 ts = k := ⟨_, rfl⟩
  obtain ⟨k2, hk2⟩ : ∃ k, reachOk ps0 vol0 xs0 = k := ⟨_, rfl⟩
  obtain ⟨k3, hk3⟩ : ∃ k, reachOk ps1 vol1 xs1 = k := ⟨_, rfl⟩
  obtain ⟨k4, hk4⟩ : ∃ k, decide (x8 = 0) = k := ⟨_, rfl⟩
  obtain ⟨ch, hch⟩ : ∃ v, chamber x0 x1 x2 x3 x4 x5 x6 x7 x8 ts = v := ⟨_, rfl⟩
  obtain ⟨lev0, hlev0⟩ : ∃ v, levelOf ps0 vol0 xs0 = v := ⟨_, rfl⟩
  obtain ⟨lev1, hlev1⟩ : ∃ v, levelOf ps1 vol1 xs1 = v := ⟨_, rfl⟩
  have hchb := chamber_b x0 x1 x2 x3 x4 x5 x6 x7 x8 ts
  rw [hch] at hchb
  have hlb0 := levelOf_b ps0 vol0 xs0
  rw [hlev0] at hlb0
  have hlb1 := levelOf_b ps1 vol1 xs1
  rw [hlev1] at hlb1
  unfold openRes at hres
  rw [hk1, hk2, hk3, hk4, hch, hlev0, hlev1] at hres
  have h8 : (x8 == 0) = k4 := by rw [← hk4]; rfl
  have h8n : (x8 != 0) = !k4 := by rw [← h8]; rfl
  have HK1 := Lib.hid hk1; clear hk1
  have HK2 := Lib.hid hk2; clear hk2
  have HK3 := Lib.hid hk3; clear hk3
  have HCH := Lib.hid hch; clear hch
  have HLV0 := Lib.hid hlev0; clear hlev0
  have HLV1 := Lib.hid hlev1; clear hlev1
  unfold I64 at hgate
  have HN := Lib.hid hn; clear hn
  have HS := Lib.hid hs; clear hs
  have HTS := Lib.hid hts; clear hts
  have HF := Lib.hid hf; clear hf
  have HT0 := Lib.hid ht0; clear ht0
  have HP0 := Lib.hid hp0; clear hp0
  have HFT0 := Lib.hid hft0; clear hft0
  have HFP0 := Lib.hid hfp0; clear hfp0
  have HTL0 := Lib.hid (show tn0 ≤ maxLen by unfold maxLen; omega)
  have HPL0 := Lib.hid (show pn0 ≤ maxLen by unfold maxLen; omega)
  have HT1 := Lib.hid ht1; clear ht1
  have HP1 := Lib.hid hp1; clear hp1
  have HFT1 := Lib.hid hft1; clear hft1
  have HFP1 := Lib.hid hfp1; clear hfp1
  have HTL1 := Lib.hid (show tn1 ≤ maxLen by unfold maxLen; omega)
  have HPL1 := Lib.hid (show pn1 ≤ maxLen by unfold maxLen; omega)
  have B0I := Lib.hid (show RowAt ((((w.alloc (.cells #[.int .i64 x0, .int .i64 x1, .int .i64 x2, .int .i64 x3, .int .i64 x4, .int .i64 x5, .int .i64 x6, .int .i64 x7, .int .i64 x8, .slice a n c] 26)).alloc (.cells #[.slice ta0 tn0 tc0, .int .i64 vol0, .slice pa0 pn0 pc0] 33)).alloc (.cells #[.slice ta1 tn1 tc1, .int .i64 vol1, .slice pa1 pn1 pc1] 33)).alloc (.cells #[.int .i64 0, .int .i64 0, .int .i64 0, .int .i64 0, .int .i64 0, .int .i64 0, .int .i64 0, .int .i64 0, .int .i64 0, .slice none 0 0] 26)) (w.heap.size) 26 #[.int .i64 x0, .int .i64 x1, .int .i64 x2, .int .i64 x3, .int .i64 x4, .int .i64 x5, .int .i64 x6, .int .i64 x7, .int .i64 x8, .slice a n c] from by
    have h := (RowAt.new w 26 #[.int .i64 x0, .int .i64 x1, .int .i64 x2, .int .i64 x3, .int .i64 x4, .int .i64 x5, .int .i64 x6, .int .i64 x7, .int .i64 x8, .slice a n c]).ext ((((Ext.refl _).alloc (.cells #[.slice ta0 tn0 tc0, .int .i64 vol0, .slice pa0 pn0 pc0] 33)).alloc (.cells #[.slice ta1 tn1 tc1, .int .i64 vol1, .slice pa1 pn1 pc1] 33)).alloc (.cells #[.int .i64 0, .int .i64 0, .int .i64 0, .int .i64 0, .int .i64 0, .int .i64 0, .int .i64 0, .int .i64 0, .int .i64 0, .slice none 0 0] 26))
    exact h)
  have B1I := Lib.hid (show RowAt ((((w.alloc (.cells #[.int .i64 x0, .int .i64 x1, .int .i64 x2, .int .i64 x3, .int .i64 x4, .int .i64 x5, .int .i64 x6, .int .i64 x7, .int .i64 x8, .slice a n c] 26)).alloc (.cells #[.slice ta0 tn0 tc0, .int .i64 vol0, .slice pa0 pn0 pc0] 33)).alloc (.cells #[.slice ta1 tn1 tc1, .int .i64 vol1, .slice pa1 pn1 pc1] 33)).alloc (.cells #[.int .i64 0, .int .i64 0, .int .i64 0, .int .i64 0, .int .i64 0, .int .i64 0, .int .i64 0, .int .i64 0, .int .i64 0, .slice none 0 0] 26)) (w.heap.size + 1) 33 #[.slice ta0 tn0 tc0, .int .i64 vol0, .slice pa0 pn0 pc0] from by
    have h := (RowAt.new (w.alloc (.cells #[.int .i64 x0, .int .i64 x1, .int .i64 x2, .int .i64 x3, .int .i64 x4, .int .i64 x5, .int .i64 x6, .int .i64 x7, .int .i64 x8, .slice a n c] 26)) 33 #[.slice ta0 tn0 tc0, .int .i64 vol0, .slice pa0 pn0 pc0]).ext (((Ext.refl _).alloc (.cells #[.slice ta1 tn1 tc1, .int .i64 vol1, .slice pa1 pn1 pc1] 33)).alloc (.cells #[.int .i64 0, .int .i64 0, .int .i64 0, .int .i64 0, .int .i64 0, .int .i64 0, .int .i64 0, .int .i64 0, .int .i64 0, .slice none 0 0] 26))
    simp only [World.size_alloc] at h
    exact h)
  have B2I := Lib.hid (show RowAt ((((w.alloc (.cells #[.int .i64 x0, .int .i64 x1, .int .i64 x2, .int .i64 x3, .int .i64 x4, .int .i64 x5, .int .i64 x6, .int .i64 x7, .int .i64 x8, .slice a n c] 26)).alloc (.cells #[.slice ta0 tn0 tc0, .int .i64 vol0, .slice pa0 pn0 pc0] 33)).alloc (.cells #[.slice ta1 tn1 tc1, .int .i64 vol1, .slice pa1 pn1 pc1] 33)).alloc (.cells #[.int .i64 0, .int .i64 0, .int .i64 0, .int .i64 0, .int .i64 0, .int .i64 0, .int .i64 0, .int .i64 0, .int .i64 0, .slice none 0 0] 26)) (w.heap.size + 1 + 1) 33 #[.slice ta1 tn1 tc1, .int .i64 vol1, .slice pa1 pn1 pc1] from by
    have h := (RowAt.new ((w.alloc (.cells #[.int .i64 x0, .int .i64 x1, .int .i64 x2, .int .i64 x3, .int .i64 x4, .int .i64 x5, .int .i64 x6, .int .i64 x7, .int .i64 x8, .slice a n c] 26)).alloc (.cells #[.slice ta0 tn0 tc0, .int .i64 vol0, .slice pa0 pn0 pc0] 33)) 33 #[.slice ta1 tn1 tc1, .int .i64 vol1, .slice pa1 pn1 pc1]).ext ((Ext.refl _).alloc (.cells #[.int .i64 0, .int .i64 0, .int .i64 0, .int .i64 0, .int .i64 0, .int .i64 0, .int .i64 0, .int .i64 0, .int .i64 0, .slice none 0 0] 26))
    simp only [World.size_alloc] at h
    exact h)
  have RES0I := Lib.hid (show RowAt ((((w.alloc (.cells #[.int .i64 x0, .int .i64 x1, .int .i64 x2, .int .i64 x3, .int .i64 x4, .int .i64 x5, .int .i64 x6, .int .i64 x7, .int .i64 x8, .slice a n c] 26)).alloc (.cells #[.slice ta0 tn0 tc0, .int .i64 vol0, .slice pa0 pn0 pc0] 33)).alloc (.cells #[.slice ta1 tn1 tc1, .int .i64 vol1, .slice pa1 pn1 pc1] 33)).alloc (.cells #[.int .i64 0, .int .i64 0, .int .i64 0, .int .i64 0, .int .i64 0, .int .i64 0, .int .i64 0, .int .i64 0, .int .i64 0, .slice none 0 0] 26)) (w.heap.size + 1 + 1 + 1) 26 #[.int .i64 0, .int .i64 0, .int .i64 0, .int .i64 0, .int .i64 0, .int .i64 0, .int .i64 0, .int .i64 0, .int .i64 0, .slice none 0 0] from by
    have h := (RowAt.new (((w.alloc (.cells #[.int .i64 x0, .int .i64 x1, .int .i64 x2, .int .i64 x3, .int .i64 x4, .int .i64 x5, .int .i64 x6, .int .i64 x7, .int .i64 x8, .slice a n c] 26)).alloc (.cells #[.slice ta0 tn0 tc0, .int .i64 vol0, .slice pa0 pn0 pc0] 33)).alloc (.cells #[.slice ta1 tn1 tc1, .int .i64 vol1, .slice pa1 pn1 pc1] 33)) 26 #[.int .i64 0, .int .i64 0, .int .i64 0, .int .i64 0, .int .i64 0, .int .i64 0, .int .i64 0, .int .i64 0, .int .i64 0, .slice none 0 0]).ext (Ext.refl _)
    simp only [World.size_alloc] at h
    exact h)
  have HE0 := Lib.hid (show Ext w ((((w.alloc (.cells #[.int .i64 x0, .int .i64 x1, .int .i64 x2, .int .i64 x3, .int .i64 x4, .int .i64 x5, .int .i64 x6, .int .i64 x7, .int .i64 x8, .slice a n c] 26)).alloc (.cells #[.slice ta0 tn0 tc0, .int .i64 vol0, .slice pa0 pn0 pc0] 33)).alloc (.cells #[.slice ta1 tn1 tc1, .int .i64 vol1, .slice pa1 pn1 pc1] 33)).alloc (.cells #[.int .i64 0, .int .i64 0, .int .i64 0, .int .i64 0, .int .i64 0, .int .i64 0, .int .i64 0, .int .i64 0, .int .i64 0, .slice none 0 0] 26)) from (((((Ext.refl w).alloc _).alloc _).alloc _).alloc _))
  clear hk4
  cases k1
  · have hgg : (x8, false) = (g, ok) := by simpa using hres
    clear hres
    obtain ⟨rfl, rfl⟩ := Prod.mk.inj hgg
    go_enter Try.func14, Try.ntmps14
    have B0_0 := B0I
    have B1_0 := B1I
    have B2_0 := B2I
    have RES0_0 := RES0I
    have HW0 := HE0
    go_wp2_with fail
    with_reducible refine (copyLock_any _ _ _ _ _ _ _ _ _ _ _ _ ts _ HN.out HS.out HTS.out (HF.out.ext HE0.out)).mono ?_
    rintro e w1 ⟨a1, c1, es, rfl, hg1, hb⟩
    have hown := Lib.hid (hg1.ownAt); clear hg1
    have HW1 := Lib.hid (HW0.out.trans hb)
    have B0_1 := Lib.hid (B0_0.out.ext hb)
    have B1_1 := Lib.hid (B1_0.out.ext hb)
    have B2_1 := Lib.hid (B2_0.out.ext hb)
    have RES0_1 := Lib.hid (RES0_0.out.ext hb)
    have zz1 := hb.size
    simp only [World.size_alloc] at zz1
    clear HW0 B0_0 B1_0 B2_0 RES0_0 hb
    have OT_1 := hown; clear hown
    obtain ⟨bO, hbO⟩ : ∃ x, x = w1.heap.size := ⟨_, rfl⟩
    obtain ⟨w2, hw2⟩ : ∃ x, x = w1.alloc (.cells #[.int .i64 x0, .int .i64 x1, .int .i64 x2, .int .i64 x3, .int .i64 x4, .int .i64 x5, .int .i64 x6, .int .i64 x7, .int .i64 x8, .slice a1 n c1] 26) := ⟨_, rfl⟩
    have hal := (Ext.refl w1).alloc (.cells #[.int .i64 x0, .int .i64 x1, .int .i64 x2, .int .i64 x3, .int .i64 x4, .int .i64 x5, .int .i64 x6, .int .i64 x7, .int .i64 x8, .slice a1 n c1] 26)
    have Oq := Lib.hid (RowAt.new w1 26 #[.int .i64 x0, .int .i64 x1, .int .i64 x2, .int .i64 x3, .int .i64 x4, .int .i64 x5, .int .i64 x6, .int .i64 x7, .int .i64 x8, .slice a1 n c1])
    rw [← hw2] at hal Oq
    rw [← hbO] at Oq
    have lO := Oq.out.lt
    have mO : w1.heap.size ≤ bO := Nat.le_of_eq hbO.symm
    have nO : bO ≤ w1.heap.size := Nat.le_of_eq hbO
    have e0 : (w1.alloc (.cells #[.int .i64 x0, .int .i64 x1, .int .i64 x2, .int .i64 x3, .int .i64 x4, .int .i64 x5, .int .i64 x6, .int .i64 x7, .int .i64 x8, .slice a1 n c1] 26)).cell? ⟨w.heap.size, 0, none⟩ = some (.int .i64 x0) := (B0_1.out.ext ((Ext.refl _).alloc _)).cell rfl
    have e1 : (w1.alloc (.cells #[.int .i64 x0, .int .i64 x1, .int .i64 x2, .int .i64 x3, .int .i64 x4, .int .i64 x5, .int .i64 x6, .int .i64 x7, .int .i64 x8, .slice a1 n c1] 26)).cell? ⟨w.heap.size, 1, none⟩ = some (.int .i64 x1) := (B0_1.out.ext ((Ext.refl _).alloc _)).cell rfl
    have e2 : (w1.alloc (.cells #[.int .i64 x0, .int .i64 x1, .int .i64 x2, .int .i64 x3, .int .i64 x4, .int .i64 x5, .int .i64 x6, .int .i64 x7, .int .i64 x8, .slice a1 n c1] 26)).cell? ⟨w.heap.size, 2, none⟩ = some (.int .i64 x2) := (B0_1.out.ext ((Ext.refl _).alloc _)).cell rfl
    have e3 : (w1.alloc (.cells #[.int .i64 x0, .int .i64 x1, .int .i64 x2, .int .i64 x3, .int .i64 x4, .int .i64 x5, .int .i64 x6, .int .i64 x7, .int .i64 x8, .slice a1 n c1] 26)).cell? ⟨w.heap.size, 3, none⟩ = some (.int .i64 x3) := (B0_1.out.ext ((Ext.refl _).alloc _)).cell rfl
    have e4 : (w1.alloc (.cells #[.int .i64 x0, .int .i64 x1, .int .i64 x2, .int .i64 x3, .int .i64 x4, .int .i64 x5, .int .i64 x6, .int .i64 x7, .int .i64 x8, .slice a1 n c1] 26)).cell? ⟨w.heap.size, 4, none⟩ = some (.int .i64 x4) := (B0_1.out.ext ((Ext.refl _).alloc _)).cell rfl
    have e5 : (w1.alloc (.cells #[.int .i64 x0, .int .i64 x1, .int .i64 x2, .int .i64 x3, .int .i64 x4, .int .i64 x5, .int .i64 x6, .int .i64 x7, .int .i64 x8, .slice a1 n c1] 26)).cell? ⟨w.heap.size, 5, none⟩ = some (.int .i64 x5) := (B0_1.out.ext ((Ext.refl _).alloc _)).cell rfl
    have e6 : (w1.alloc (.cells #[.int .i64 x0, .int .i64 x1, .int .i64 x2, .int .i64 x3, .int .i64 x4, .int .i64 x5, .int .i64 x6, .int .i64 x7, .int .i64 x8, .slice a1 n c1] 26)).cell? ⟨w.heap.size, 6, none⟩ = some (.int .i64 x6) := (B0_1.out.ext ((Ext.refl _).alloc _)).cell rfl
    have e7 : (w1.alloc (.cells #[.int .i64 x0, .int .i64 x1, .int .i64 x2, .int .i64 x3, .int .i64 x4, .int .i64 x5, .int .i64 x6, .int .i64 x7, .int .i64 x8, .slice a1 n c1] 26)).cell? ⟨w.heap.size, 7, none⟩ = some (.int .i64 x7) := (B0_1.out.ext ((Ext.refl _).alloc _)).cell rfl
    have e8 : (w1.alloc (.cells #[.int .i64 x0, .int .i64 x1, .int .i64 x2, .int .i64 x3, .int .i64 x4, .int .i64 x5, .int .i64 x6, .int .i64 x7, .int .i64 x8, .slice a1 n c1] 26)).cell? ⟨w.heap.size, 8, none⟩ = some (.int .i64 x8) := (B0_1.out.ext ((Ext.refl _).alloc _)).cell rfl
    have e9 : (w1.alloc (.cells #[.int .i64 x0, .int .i64 x1, .int .i64 x2, .int .i64 x3, .int .i64 x4, .int .i64 x5, .int .i64 x6, .int .i64 x7, .int .i64 x8, .slice a1 n c1] 26)).cell? ⟨w.heap.size, 9, none⟩ = some (.slice a n c) := (B0_1.out.ext ((Ext.refl _).alloc _)).cell rfl
    go_wp2_with fail
    clear e0 e1 e2 e3 e4 e5 e6 e7 e8 e9
    (try rw [← hw2])
    (try rw [← hbO])
    clear hw2 hbO
    have HW2 := Lib.hid (HW1.out.trans hal)
    have B0_2 := Lib.hid (B0_1.out.ext hal)
    have B1_2 := Lib.hid (B1_1.out.ext hal)
    have B2_2 := Lib.hid (B2_1.out.ext hal)
    have RES0_2 := Lib.hid (RES0_1.out.ext hal)
    have OT_2 := Lib.hid (OT_1.out.ext hal)
    have zz2 := hal.size
    clear HW1 B0_1 B1_1 B2_1 RES0_1 OT_1 hal
    have O_2 := Oq; clear Oq
    with_reducible refine (implLockOk_any false _ _ _ _ _ _ _ _ _ _ _ _ ts _ HN.out HS.out HTS.out (HF.out.ext HW2.out) HK1.out).mono ?_
    rintro e w3 ⟨rfl, hb⟩
    have HW3 := Lib.hid (HW2.out.trans hb)
    have B0_3 := Lib.hid (B0_2.out.ext hb)
    have B1_3 := Lib.hid (B1_2.out.ext hb)
    have B2_3 := Lib.hid (B2_2.out.ext hb)
    have RES0_3 := Lib.hid (RES0_2.out.ext hb)
    have O_3 := Lib.hid (O_2.out.ext hb)
    have OT_3 := Lib.hid (OT_2.out.ext hb)
    have zz3 := hb.size
    clear HW2 B0_2 B1_2 B2_2 RES0_2 O_2 OT_2 hb
    have TO2 := O_3; have T12 := RES0_3; have HG4 := OT_3; have HE4 := HW3
    have q0 : w3.cell? ⟨bO, 0, none⟩ = some (.int .i64 x0) := TO2.out.cell rfl
    have q1 : w3.cell? ⟨bO, 1, none⟩ = some (.int .i64 x1) := TO2.out.cell rfl
    have q2 : w3.cell? ⟨bO, 2, none⟩ = some (.int .i64 x2) := TO2.out.cell rfl
    have q3 : w3.cell? ⟨bO, 3, none⟩ = some (.int .i64 x3) := TO2.out.cell rfl
    have q4 : w3.cell? ⟨bO, 4, none⟩ = some (.int .i64 x4) := TO2.out.cell rfl
    have q5 : w3.cell? ⟨bO, 5, none⟩ = some (.int .i64 x5) := TO2.out.cell rfl
    have q6 : w3.cell? ⟨bO, 6, none⟩ = some (.int .i64 x6) := TO2.out.cell rfl
    have q7 : w3.cell? ⟨bO, 7, none⟩ = some (.int .i64 x7) := TO2.out.cell rfl
    have q8 : w3.cell? ⟨bO, 8, none⟩ = some (.int .i64 x8) := TO2.out.cell rfl
    have q9 : w3.cell? ⟨bO, 9, none⟩ = some (.slice a1 n c1) := TO2.out.cell rfl
    have r0 : w3.cell? ⟨w.heap.size + 1 + 1 + 1, 0, none⟩ = some (.int .i64 0) := T12.out.cell rfl
    have g0 := T12.out.frozen 0
    have r1 : w3.cell? ⟨w.heap.size + 1 + 1 + 1, 1, none⟩ = some (.int .i64 0) := T12.out.cell rfl
    have g1 := T12.out.frozen 1
    have r2 : w3.cell? ⟨w.heap.size + 1 + 1 + 1, 2, none⟩ = some (.int .i64 0) := T12.out.cell rfl
    have g2 := T12.out.frozen 2
    have r3 : w3.cell? ⟨w.heap.size + 1 + 1 + 1, 3, none⟩ = some (.int .i64 0) := T12.out.cell rfl
    have g3 := T12.out.frozen 3
    have r4 : w3.cell? ⟨w.heap.size + 1 + 1 + 1, 4, none⟩ = some (.int .i64 0) := T12.out.cell rfl
    have g4 := T12.out.frozen 4
    have r5 : w3.cell? ⟨w.heap.size + 1 + 1 + 1, 5, none⟩ = some (.int .i64 0) := T12.out.cell rfl
    have g5 := T12.out.frozen 5
    have r6 : w3.cell? ⟨w.heap.size + 1 + 1 + 1, 6, none⟩ = some (.int .i64 0) := T12.out.cell rfl
    have g6 := T12.out.frozen 6
    have r7 : w3.cell? ⟨w.heap.size + 1 + 1 + 1, 7, none⟩ = some (.int .i64 0) := T12.out.cell rfl
    have g7 := T12.out.frozen 7
    have r8 : w3.cell? ⟨w.heap.size + 1 + 1 + 1, 8, none⟩ = some (.int .i64 0) := T12.out.cell rfl
    have g8 := T12.out.frozen 8
    have r9 : w3.cell? ⟨w.heap.size + 1 + 1 + 1, 9, none⟩ = some (.slice none 0 0) := T12.out.cell rfl
    have g9 := T12.out.frozen 9
    go_wp2
    refine bodyPost_ret (v := .tuple #[.agg #[.int .i64 x0, .int .i64 x1, .int .i64 x2, .int .i64 x3, .int .i64 x4, .int .i64 x5, .int .i64 x6, .int .i64 x7, .int .i64 x8, .slice a1 n c1], .bool false]) (by simp [results, Try.results14, go_sem, *]) rfl ⟨a1, c1, rfl, ?_, ?_⟩
    · exact HG4.out.keep (by simp only [World.size_alloc]; omega) (by simp only [size_setCell']; omega) (fun B t c h1 h2 hr => by
        simp only [World.size_alloc] at h1
        (repeat' (first | (with_reducible assumption) | (with_reducible refine RowAt.other ?_ ?_ _))) <;> dsimp only <;> omega)
    · exact ((((((((((HE4.out.setCell (p := ⟨w.heap.size + 1 + 1 + 1, 0, none⟩) (by dsimp only; omega) _).setCell (p := ⟨w.heap.size + 1 + 1 + 1, 1, none⟩) (by dsimp only; omega) _).setCell (p := ⟨w.heap.size + 1 + 1 + 1, 2, none⟩) (by dsimp only; omega) _).setCell (p := ⟨w.heap.size + 1 + 1 + 1, 3, none⟩) (by dsimp only; omega) _).setCell (p := ⟨w.heap.size + 1 + 1 + 1, 4, none⟩) (by dsimp only; omega) _).setCell (p := ⟨w.heap.size + 1 + 1 + 1, 5, none⟩) (by dsimp only; omega) _).setCell (p := ⟨w.heap.size + 1 + 1 + 1, 6, none⟩) (by dsimp only; omega) _).setCell (p := ⟨w.heap.size + 1 + 1 + 1, 7, none⟩) (by dsimp only; omega) _).setCell (p := ⟨w.heap.size + 1 + 1 + 1, 8, none⟩) (by dsimp only; omega) _).setCell (p := ⟨w.heap.size + 1 + 1 + 1, 9, none⟩) (by dsimp only; omega) _)
  cases k2
  · have hgg : (x8, false) = (g, ok) := by simpa using hres
    clear hres
    obtain ⟨rfl, rfl⟩ := Prod.mk.inj hgg
    go_enter Try.func14, Try.ntmps14
    have B0_0 := B0I
    have B1_0 := B1I
    have B2_0 := B2I
    have RES0_0 := RES0I
    have HW0 := HE0
    go_wp2_with fail
    with_reducible refine (copyLock_any _ _ _ _ _ _ _ _ _ _ _ _ ts _ HN.out HS.out HTS.out (HF.out.ext HE0.out)).mono ?_
    rintro e w1 ⟨a1, c1, es, rfl, hg1, hb⟩
    have hown := Lib.hid (hg1.ownAt); clear hg1
    have HW1 := Lib.hid (HW0.out.trans hb)
    have B0_1 := Lib.hid (B0_0.out.ext hb)
    have B1_1 := Lib.hid (B1_0.out.ext hb)
    have B2_1 := Lib.hid (B2_0.out.ext hb)
    have RES0_1 := Lib.hid (RES0_0.out.ext hb)
    have zz1 := hb.size
    simp only [World.size_alloc] at zz1
    clear HW0 B0_0 B1_0 B2_0 RES0_0 hb
    have OT_1 := hown; clear hown
    obtain ⟨bO, hbO⟩ : ∃ x, x = w1.heap.size := ⟨_, rfl⟩
    obtain ⟨w2, hw2⟩ : ∃ x, x = w1.alloc (.cells #[.int .i64 x0, .int .i64 x1, .int .i64 x2, .int .i64 x3, .int .i64 x4, .int .i64 x5, .int .i64 x6, .int .i64 x7, .int .i64 x8, .slice a1 n c1] 26) := ⟨_, rfl⟩
    have hal := (Ext.refl w1).alloc (.cells #[.int .i64 x0, .int .i64 x1, .int .i64 x2, .int .i64 x3, .int .i64 x4, .int .i64 x5, .int .i64 x6, .int .i64 x7, .int .i64 x8, .slice a1 n c1] 26)
    have Oq := Lib.hid (RowAt.new w1 26 #[.int .i64 x0, .int .i64 x1, .int .i64 x2, .int .i64 x3, .int .i64 x4, .int .i64 x5, .int .i64 x6, .int .i64 x7, .int .i64 x8, .slice a1 n c1])
    rw [← hw2] at hal Oq
    rw [← hbO] at Oq
    have lO := Oq.out.lt
    have mO : w1.heap.size ≤ bO := Nat.le_of_eq hbO.symm
    have nO : bO ≤ w1.heap.size := Nat.le_of_eq hbO
    have e0 : (w1.alloc (.cells #[.int .i64 x0, .int .i64 x1, .int .i64 x2, .int .i64 x3, .int .i64 x4, .int .i64 x5, .int .i64 x6, .int .i64 x7, .int .i64 x8, .slice a1 n c1] 26)).cell? ⟨w.heap.size, 0, none⟩ = some (.int .i64 x0) := (B0_1.out.ext ((Ext.refl _).alloc _)).cell rfl
    have e1 : (w1.alloc (.cells #[.int .i64 x0, .int .i64 x1, .int .i64 x2, .int .i64 x3, .int .i64 x4, .int .i64 x5, .int .i64 x6, .int .i64 x7, .int .i64 x8, .slice a1 n c1] 26)).cell? ⟨w.heap.size, 1, none⟩ = some (.int .i64 x1) := (B0_1.out.ext ((Ext.refl _).alloc _)).cell rfl
    have e2 : (w1.alloc (.cells #[.int .i64 x0, .int .i64 x1, .int .i64 x2, .int .i64 x3, .int .i64 x4, .int .i64 x5, .int .i64 x6, .int .i64 x7, .int .i64 x8, .slice a1 n c1] 26)).cell? ⟨w.heap.size, 2, none⟩ = some (.int .i64 x2) := (B0_1.out.ext ((Ext.refl _).alloc _)).cell rfl
    have e3 : (w1.alloc (.cells #[.int .i64 x0, .int .i64 x1, .int .i64 x2, .int .i64 x3, .int .i64 x4, .int .i64 x5, .int .i64 x6, .int .i64 x7, .int .i64 x8, .slice a1 n c1] 26)).cell? ⟨w.heap.size, 3, none⟩ = some (.int .i64 x3) := (B0_1.out.ext ((Ext.refl _).alloc _)).cell rfl
    have e4 : (w1.alloc (.cells #[.int .i64 x0, .int .i64 x1, .int .i64 x2, .int .i64 x3, .int .i64 x4, .int .i64 x5, .int .i64 x6, .int .i64 x7, .int .i64 x8, .slice a1 n c1] 26)).cell? ⟨w.heap.size, 4, none⟩ = some (.int .i64 x4) := (B0_1.out.ext ((Ext.refl _).alloc _)).cell rfl
    have e5 : (w1.alloc (.cells #[.int .i64 x0, .int .i64 x1, .int .i64 x2, .int .i64 x3, .int .i64 x4, .int .i64 x5, .int .i64 x6, .int .i64 x7, .int .i64 x8, .slice a1 n c1] 26)).cell? ⟨w.heap.size, 5, none⟩ = some (.int .i64 x5) := (B0_1.out.ext ((Ext.refl _).alloc _)).cell rfl
    have e6 : (w1.alloc (.cells #[.int .i64 x0, .int .i64 x1, .int .i64 x2, .int .i64 x3, .int .i64 x4, .int .i64 x5, .int .i64 x6, .int .i64 x7, .int .i64 x8, .slice a1 n c1] 26)).cell? ⟨w.heap.size, 6, none⟩ = some (.int .i64 x6) := (B0_1.out.ext ((Ext.refl _).alloc _)).cell rfl
    have e7 : (w1.alloc (.cells #[.int .i64 x0, .int .i64 x1, .int .i64 x2, .int .i64 x3, .int .i64 x4, .int .i64 x5, .int .i64 x6, .int .i64 x7, .int .i64 x8, .slice a1 n c1] 26)).cell? ⟨w.heap.size, 7, none⟩ = some (.int .i64 x7) := (B0_1.out.ext ((Ext.refl _).alloc _)).cell rfl
    have e8 : (w1.alloc (.cells #[.int .i64 x0, .int .i64 x1, .int .i64 x2, .int .i64 x3, .int .i64 x4, .int .i64 x5, .int .i64 x6, .int .i64 x7, .int .i64 x8, .slice a1 n c1] 26)).cell? ⟨w.heap.size, 8, none⟩ = some (.int .i64 x8) := (B0_1.out.ext ((Ext.refl _).alloc _)).cell rfl
    have e9 : (w1.alloc (.cells #[.int .i64 x0, .int .i64 x1, .int .i64 x2, .int .i64 x3, .int .i64 x4, .int .i64 x5, .int .i64 x6, .int .i64 x7, .int .i64 x8, .slice a1 n c1] 26)).cell? ⟨w.heap.size, 9, none⟩ = some (.slice a n c) := (B0_1.out.ext ((Ext.refl _).alloc _)).cell rfl
    go_wp2_with fail
    clear e0 e1 e2 e3 e4 e5 e6 e7 e8 e9
    (try rw [← hw2])
    (try rw [← hbO])
    clear hw2 hbO
    have HW2 := Lib.hid (HW1.out.trans hal)
    have B0_2 := Lib.hid (B0_1.out.ext hal)
    have B1_2 := Lib.hid (B1_1.out.ext hal)
    have B2_2 := Lib.hid (B2_1.out.ext hal)
    have RES0_2 := Lib.hid (RES0_1.out.ext hal)
    have OT_2 := Lib.hid (OT_1.out.ext hal)
    have zz2 := hal.size
    clear HW1 B0_1 B1_1 B2_1 RES0_1 OT_1 hal
    have O_2 := Oq; clear Oq
    with_reducible refine (implLockOk_any true _ _ _ _ _ _ _ _ _ _ _ _ ts _ HN.out HS.out HTS.out (HF.out.ext HW2.out) HK1.out).mono ?_
    rintro e w3 ⟨rfl, hb⟩
    have HW3 := Lib.hid (HW2.out.trans hb)
    have B0_3 := Lib.hid (B0_2.out.ext hb)
    have B1_3 := Lib.hid (B1_2.out.ext hb)
    have B2_3 := Lib.hid (B2_2.out.ext hb)
    have RES0_3 := Lib.hid (RES0_2.out.ext hb)
    have O_3 := Lib.hid (O_2.out.ext hb)
    have OT_3 := Lib.hid (OT_2.out.ext hb)
    have zz3 := hb.size
    clear HW2 B0_2 B1_2 B2_2 RES0_2 O_2 OT_2 hb
    have cB10 : w3.cell? ⟨w.heap.size + 1, 0, none⟩ = some (.slice ta0 tn0 tc0) := B1_3.out.cell rfl
    have cB11 : w3.cell? ⟨w.heap.size + 1, 1, none⟩ = some (.int .i64 vol0) := B1_3.out.cell rfl
    have cB12 : w3.cell? ⟨w.heap.size + 1, 2, none⟩ = some (.slice pa0 pn0 pc0) := B1_3.out.cell rfl
    go_wp2_with fail
    with_reducible refine (implReachOk_is false _ _ _ _ _ _ _ ps0 xs0 _ HT0.out HTL0.out HP0.out HPL0.out (HFT0.out.ext HW3.out) (HFP0.out.ext HW3.out) hvol0 HK2.out).mono ?_
    rintro e w4 ⟨rfl, hb⟩
    clear cB10 cB11 cB12
    have HW4 := Lib.hid (HW3.out.trans hb)
    have B0_4 := Lib.hid (B0_3.out.ext hb)
    have B1_4 := Lib.hid (B1_3.out.ext hb)
    have B2_4 := Lib.hid (B2_3.out.ext hb)
    have RES0_4 := Lib.hid (RES0_3.out.ext hb)
    have O_4 := Lib.hid (O_3.out.ext hb)
    have OT_4 := Lib.hid (OT_3.out.ext hb)
    have zz4 := hb.size
    clear HW3 B0_3 B1_3 B2_3 RES0_3 O_3 OT_3 hb
    have TO2 := O_4; have T12 := RES0_4; have HG4 := OT_4; have HE4 := HW4
    have q0 : w4.cell? ⟨bO, 0, none⟩ = some (.int .i64 x0) := TO2.out.cell rfl
    have q1 : w4.cell? ⟨bO, 1, none⟩ = some (.int .i64 x1) := TO2.out.cell rfl
    have q2 : w4.cell? ⟨bO, 2, none⟩ = some (.int .i64 x2) := TO2.out.cell rfl
    have q3 : w4.cell? ⟨bO, 3, none⟩ = some (.int .i64 x3) := TO2.out.cell rfl
    have q4 : w4.cell? ⟨bO, 4, none⟩ = some (.int .i64 x4) := TO2.out.cell rfl
    have q5 : w4.cell? ⟨bO, 5, none⟩ = some (.int .i64 x5) := TO2.out.cell rfl
    have q6 : w4.cell? ⟨bO, 6, none⟩ = some (.int .i64 x6) := TO2.out.cell rfl
    have q7 : w4.cell? ⟨bO, 7, none⟩ = some (.int .i64 x7) := TO2.out.cell rfl
    have q8 : w4.cell? ⟨bO, 8, none⟩ = some (.int .i64 x8) := TO2.out.cell rfl
    have q9 : w4.cell? ⟨bO, 9, none⟩ = some (.slice a1 n c1) := TO2.out.cell rfl
    have r0 : w4.cell? ⟨w.heap.size + 1 + 1 + 1, 0, none⟩ = some (.int .i64 0) := T12.out.cell rfl
    have g0 := T12.out.frozen 0
    have r1 : w4.cell? ⟨w.heap.size + 1 + 1 + 1, 1, none⟩ = some (.int .i64 0) := T12.out.cell rfl
    have g1 := T12.out.frozen 1
    have r2 : w4.cell? ⟨w.heap.size + 1 + 1 + 1, 2, none⟩ = some (.int .i64 0) := T12.out.cell rfl
    have g2 := T12.out.frozen 2
    have r3 : w4.cell? ⟨w.heap.size + 1 + 1 + 1, 3, none⟩ = some (.int .i64 0) := T12.out.cell rfl
    have g3 := T12.out.frozen 3
    have r4 : w4.cell? ⟨w.heap.size + 1 + 1 + 1, 4, none⟩ = some (.int .i64 0) := T12.out.cell rfl
    have g4 := T12.out.frozen 4
    have r5 : w4.cell? ⟨w.heap.size + 1 + 1 + 1, 5, none⟩ = some (.int .i64 0) := T12.out.cell rfl
    have g5 := T12.out.frozen 5
    have r6 : w4.cell? ⟨w.heap.size + 1 + 1 + 1, 6, none⟩ = some (.int .i64 0) := T12.out.cell rfl
    have g6 := T12.out.frozen 6
    have r7 : w4.cell? ⟨w.heap.size + 1 + 1 + 1, 7, none⟩ = some (.int .i64 0) := T12.out.cell rfl
    have g7 := T12.out.frozen 7
    have r8 : w4.cell? ⟨w.heap.size + 1 + 1 + 1, 8, none⟩ = some (.int .i64 0) := T12.out.cell rfl
    have g8 := T12.out.frozen 8
    have r9 : w4.cell? ⟨w.heap.size + 1 + 1 + 1, 9, none⟩ = some (.slice none 0 0) := T12.out.cell rfl
    have g9 := T12.out.frozen 9
    go_wp2
    refine bodyPost_ret (v := .tuple #[.agg #[.int .i64 x0, .int .i64 x1, .int .i64 x2, .int .i64 x3, .int .i64 x4, .int .i64 x5, .int .i64 x6, .int .i64 x7, .int .i64 x8, .slice a1 n c1], .bool false]) (by simp [results, Try.results14, go_sem, *]) rfl ⟨a1, c1, rfl, ?_, ?_⟩
    · exact HG4.out.keep (by simp only [World.size_alloc]; omega) (by simp only [size_setCell']; omega) (fun B t c h1 h2 hr => by
        simp only [World.size_alloc] at h1
        (repeat' (first | (with_reducible assumption) | (with_reducible refine RowAt.other ?_ ?_ _))) <;> dsimp only <;> omega)
    · exact ((((((((((HE4.out.setCell (p := ⟨w.heap.size + 1 + 1 + 1, 0, none⟩) (by dsimp only; omega) _).setCell (p := ⟨w.heap.size + 1 + 1 + 1, 1, none⟩) (by dsimp only; omega) _).setCell (p := ⟨w.heap.size + 1 + 1 + 1, 2, none⟩) (by dsimp only; omega) _).setCell (p := ⟨w.heap.size + 1 + 1 + 1, 3, none⟩) (by dsimp only; omega) _).setCell (p := ⟨w.heap.size + 1 + 1 + 1, 4, none⟩) (by dsimp only; omega) _).setCell (p := ⟨w.heap.size + 1 + 1 + 1, 5, none⟩) (by dsimp only; omega) _).setCell (p := ⟨w.heap.size + 1 + 1 + 1, 6, none⟩) (by dsimp only; omega) _).setCell (p := ⟨w.heap.size + 1 + 1 + 1, 7, none⟩) (by dsimp only; omega) _).setCell (p := ⟨w.heap.size + 1 + 1 + 1, 8, none⟩) (by dsimp only; omega) _).setCell (p := ⟨w.heap.size + 1 + 1 + 1, 9, none⟩) (by dsimp only; omega) _)
  cases k3
  · have hgg : (x8, false) = (g, ok) := by simpa using hres
    clear hres
    obtain ⟨rfl, rfl⟩ := Prod.mk.inj hgg
    go_enter Try.func14, Try.ntmps14
    have B0_0 := B0I
    have B1_0 := B1I
    have B2_0 := B2I
    have RES0_0 := RES0I
    have HW0 := HE0
    go_wp2_with fail
    with_reducible refine (copyLock_any _ _ _ _ _ _ _ _ _ _ _ _ ts _ HN.out HS.out HTS.out (HF.out.ext HE0.out)).mono ?_
    rintro e w1 ⟨a1, c1, es, rfl, hg1, hb⟩
    have hown := Lib.hid (hg1.ownAt); clear hg1
    have HW1 := Lib.hid (HW0.out.trans hb)
    have B0_1 := Lib.hid (B0_0.out.ext hb)
    have B1_1 := Lib.hid (B1_0.out.ext hb)
    have B2_1 := Lib.hid (B2_0.out.ext hb)
    have RES0_1 := Lib.hid (RES0_0.out.ext hb)
    have zz1 := hb.size
    simp only [World.size_alloc] at zz1
    clear HW0 B0_0 B1_0 B2_0 RES0_0 hb
    have OT_1 := hown; clear hown
    obtain ⟨bO, hbO⟩ : ∃ x, x = w1.heap.size := ⟨_, rfl⟩
    obtain ⟨w2, hw2⟩ : ∃ x, x = w1.alloc (.cells #[.int .i64 x0, .int .i64 x1, .int .i64 x2, .int .i64 x3, .int .i64 x4, .int .i64 x5, .int .i64 x6, .int .i64 x7, .int .i64 x8, .slice a1 n c1] 26) := ⟨_, rfl⟩
    have hal := (Ext.refl w1).alloc (.cells #[.int .i64 x0, .int .i64 x1, .int .i64 x2, .int .i64 x3, .int .i64 x4, .int .i64 x5, .int .i64 x6, .int .i64 x7, .int .i64 x8, .slice a1 n c1] 26)
    have Oq := Lib.hid (RowAt.new w1 26 #[.int .i64 x0, .int .i64 x1, .int .i64 x2, .int .i64 x3, .int .i64 x4, .int .i64 x5, .int .i64 x6, .int .i64 x7, .int .i64 x8, .slice a1 n c1])
    rw [← hw2] at hal Oq
    rw [← hbO] at Oq
    have lO := Oq.out.lt
    have mO : w1.heap.size ≤ bO := Nat.le_of_eq hbO.symm
    have nO : bO ≤ w1.heap.size := Nat.le_of_eq hbO
    have e0 : (w1.alloc (.cells #[.int .i64 x0, .int .i64 x1, .int .i64 x2, .int .i64 x3, .int .i64 x4, .int .i64 x5, .int .i64 x6, .int .i64 x7, .int .i64 x8, .slice a1 n c1] 26)).cell? ⟨w.heap.size, 0, none⟩ = some (.int .i64 x0) := (B0_1.out.ext ((Ext.refl _).alloc _)).cell rfl
    have e1 : (w1.alloc (.cells #[.int .i64 x0, .int .i64 x1, .int .i64 x2, .int .i64 x3, .int .i64 x4, .int .i64 x5, .int .i64 x6, .int .i64 x7, .int .i64 x8, .slice a1 n c1] 26)).cell? ⟨w.heap.size, 1, none⟩ = some (.int .i64 x1) := (B0_1.out.ext ((Ext.refl _).alloc _)).cell rfl
    have e2 : (w1.alloc (.cells #[.int .i64 x0, .int .i64 x1, .int .i64 x2, .int .i64 x3, .int .i64 x4, .int .i64 x5, .int .i64 x6, .int .i64 x7, .int .i64 x8, .slice a1 n c1] 26)).cell? ⟨w.heap.size, 2, none⟩ = some (.int .i64 x2) := (B0_1.out.ext ((Ext.refl _).alloc _)).cell rfl
    have e3 : (w1.alloc (.cells #[.int .i64 x0, .int .i64 x1, .int .i64 x2, .int .i64 x3, .int .i64 x4, .int .i64 x5, .int .i64 x6, .int .i64 x7, .int .i64 x8, .slice a1 n c1] 26)).cell? ⟨w.heap.size, 3, none⟩ = some (.int .i64 x3) := (B0_1.out.ext ((Ext.refl _).alloc _)).cell rfl
    have e4 : (w1.alloc (.cells #[.int .i64 x0, .int .i64 x1, .int .i64 x2, .int .i64 x3, .int .i64 x4, .int .i64 x5, .int .i64 x6, .int .i64 x7, .int .i64 x8, .slice a1 n c1] 26)).cell? ⟨w.heap.size, 4, none⟩ = some (.int .i64 x4) := (B0_1.out.ext ((Ext.refl _).alloc _)).cell rfl
    have e5 : (w1.alloc (.cells #[.int .i64 x0, .int .i64 x1, .int .i64 x2, .int .i64 x3, .int .i64 x4, .int .i64 x5, .int .i64 x6, .int .i64 x7, .int .i64 x8, .slice a1 n c1] 26)).cell? ⟨w.heap.size, 5, none⟩ = some (.int .i64 x5) := (B0_1.out.ext ((Ext.refl _).alloc _)).cell rfl
    have e6 : (w1.alloc (.cells #[.int .i64 x0, .int .i64 x1, .int .i64 x2, .int .i64 x3, .int .i64 x4, .int .i64 x5, .int .i64 x6, .int .i64 x7, .int .i64 x8, .slice a1 n c1] 26)).cell? ⟨w.heap.size, 6, none⟩ = some (.int .i64 x6) := (B0_1.out.ext ((Ext.refl _).alloc _)).cell rfl
    have e7 : (w1.alloc (.cells #[.int .i64 x0, .int .i64 x1, .int .i64 x2, .int .i64 x3, .int .i64 x4, .int .i64 x5, .int .i64 x6, .int .i64 x7, .int .i64 x8, .slice a1 n c1] 26)).cell? ⟨w.heap.size, 7, none⟩ = some (.int .i64 x7) := (B0_1.out.ext ((Ext.refl _).alloc _)).cell rfl
    have e8 : (w1.alloc (.cells #[.int .i64 x0, .int .i64 x1, .int .i64 x2, .int .i64 x3, .int .i64 x4, .int .i64 x5, .int .i64 x6, .int .i64 x7, .int .i64 x8, .slice a1 n c1] 26)).cell? ⟨w.heap.size, 8, none⟩ = some (.int .i64 x8) := (B0_1.out.ext ((Ext.refl _).alloc _)).cell rfl
    have e9 : (w1.alloc (.cells #[.int .i64 x0, .int .i64 x1, .int .i64 x2, .int .i64 x3, .int .i64 x4, .int .i64 x5, .int .i64 x6, .int .i64 x7, .int .i64 x8, .slice a1 n c1] 26)).cell? ⟨w.heap.size, 9, none⟩ = some (.slice a n c) := (B0_1.out.ext ((Ext.refl _).alloc _)).cell rfl
    go_wp2_with fail
    clear e0 e1 e2 e3 e4 e5 e6 e7 e8 e9
    (try rw [← hw2])
    (try rw [← hbO])
    clear hw2 hbO
    have HW2 := Lib.hid (HW1.out.trans hal)
    have B0_2 := Lib.hid (B0_1.out.ext hal)
    have B1_2 := Lib.hid (B1_1.out.ext hal)
    have B2_2 := Lib.hid (B2_1.out.ext hal)
    have RES0_2 := Lib.hid (RES0_1.out.ext hal)
    have OT_2 := Lib.hid (OT_1.out.ext hal)
    have zz2 := hal.size
    clear HW1 B0_1 B1_1 B2_1 RES0_1 OT_1 hal
    have O_2 := Oq; clear Oq
    with_reducible refine (implLockOk_any true _ _ _ _ _ _ _ _ _ _ _ _ ts _ HN.out HS.out HTS.out (HF.out.ext HW2.out) HK1.out).mono ?_
    rintro e w3 ⟨rfl, hb⟩
    have HW3 := Lib.hid (HW2.out.trans hb)
    have B0_3 := Lib.hid (B0_2.out.ext hb)
    have B1_3 := Lib.hid (B1_2.out.ext hb)
    have B2_3 := Lib.hid (B2_2.out.ext hb)
    have RES0_3 := Lib.hid (RES0_2.out.ext hb)
    have O_3 := Lib.hid (O_2.out.ext hb)
    have OT_3 := Lib.hid (OT_2.out.ext hb)
    have zz3 := hb.size
    clear HW2 B0_2 B1_2 B2_2 RES0_2 O_2 OT_2 hb
    have cB10 : w3.cell? ⟨w.heap.size + 1, 0, none⟩ = some (.slice ta0 tn0 tc0) := B1_3.out.cell rfl
    have cB11 : w3.cell? ⟨w.heap.size + 1, 1, none⟩ = some (.int .i64 vol0) := B1_3.out.cell rfl
    have cB12 : w3.cell? ⟨w.heap.size + 1, 2, none⟩ = some (.slice pa0 pn0 pc0) := B1_3.out.cell rfl
    go_wp2_with fail
    with_reducible refine (implReachOk_is true _ _ _ _ _ _ _ ps0 xs0 _ HT0.out HTL0.out HP0.out HPL0.out (HFT0.out.ext HW3.out) (HFP0.out.ext HW3.out) hvol0 HK2.out).mono ?_
    rintro e w4 ⟨rfl, hb⟩
    clear cB10 cB11 cB12
    have HW4 := Lib.hid (HW3.out.trans hb)
    have B0_4 := Lib.hid (B0_3.out.ext hb)
    have B1_4 := Lib.hid (B1_3.out.ext hb)
    have B2_4 := Lib.hid (B2_3.out.ext hb)
    have RES0_4 := Lib.hid (RES0_3.out.ext hb)
    have O_4 := Lib.hid (O_3.out.ext hb)
    have OT_4 := Lib.hid (OT_3.out.ext hb)
    have zz4 := hb.size
    clear HW3 B0_3 B1_3 B2_3 RES0_3 O_3 OT_3 hb
    have cB20 : w4.cell? ⟨w.heap.size + 1 + 1, 0, none⟩ = some (.slice ta1 tn1 tc1) := B2_4.out.cell rfl
    have cB21 : w4.cell? ⟨w.heap.size + 1 + 1, 1, none⟩ = some (.int .i64 vol1) := B2_4.out.cell rfl
    have cB22 : w4.cell? ⟨w.heap.size + 1 + 1, 2, none⟩ = some (.slice pa1 pn1 pc1) := B2_4.out.cell rfl
    go_wp2_with fail
    with_reducible refine (implReachOk_is false _ _ _ _ _ _ _ ps1 xs1 _ HT1.out HTL1.out HP1.out HPL1.out (HFT1.out.ext HW4.out) (HFP1.out.ext HW4.out) hvol1 HK3.out).mono ?_
    rintro e w5 ⟨rfl, hb⟩
    clear cB20 cB21 cB22
    have HW5 := Lib.hid (HW4.out.trans hb)
    have B0_5 := Lib.hid (B0_4.out.ext hb)
    have B1_5 := Lib.hid (B1_4.out.ext hb)
    have B2_5 := Lib.hid (B2_4.out.ext hb)
    have RES0_5 := Lib.hid (RES0_4.out.ext hb)
    have O_5 := Lib.hid (O_4.out.ext hb)
    have OT_5 := Lib.hid (OT_4.out.ext hb)
    have zz5 := hb.size
    clear HW4 B0_4 B1_4 B2_4 RES0_4 O_4 OT_4 hb
    have TO2 := O_5; have T12 := RES0_5; have HG4 := OT_5; have HE4 := HW5
    have q0 : w5.cell? ⟨bO, 0, none⟩ = some (.int .i64 x0) := TO2.out.cell rfl
    have q1 : w5.cell? ⟨bO, 1, none⟩ = some (.int .i64 x1) := TO2.out.cell rfl
    have q2 : w5.cell? ⟨bO, 2, none⟩ = some (.int .i64 x2) := TO2.out.cell rfl
    have q3 : w5.cell? ⟨bO, 3, none⟩ = some (.int .i64 x3) := TO2.out.cell rfl
    have q4 : w5.cell? ⟨bO, 4, none⟩ = some (.int .i64 x4) := TO2.out.cell rfl
    have q5 : w5.cell? ⟨bO, 5, none⟩ = some (.int .i64 x5) := TO2.out.cell rfl
    have q6 : w5.cell? ⟨bO, 6, none⟩ = some (.int .i64 x6) := TO2.out.cell rfl
    have q7 : w5.cell? ⟨bO, 7, none⟩ = some (.int .i64 x7) := TO2.out.cell rfl
    have q8 : w5.cell? ⟨bO, 8, none⟩ = some (.int .i64 x8) := TO2.out.cell rfl
    have q9 : w5.cell? ⟨bO, 9, none⟩ = some (.slice a1 n c1) := TO2.out.cell rfl
    have r0 : w5.cell? ⟨w.heap.size + 1 + 1 + 1, 0, none⟩ = some (.int .i64 0) := T12.out.cell rfl
    have g0 := T12.out.frozen 0
    have r1 : w5.cell? ⟨w.heap.size + 1 + 1 + 1, 1, none⟩ = some (.int .i64 0) := T12.out.cell rfl
    have g1 := T12.out.frozen 1
    have r2 : w5.cell? ⟨w.heap.size + 1 + 1 + 1, 2, none⟩ = some (.int .i64 0) := T12.out.cell rfl
    have g2 := T12.out.frozen 2
    have r3 : w5.cell? ⟨w.heap.size + 1 + 1 + 1, 3, none⟩ = some (.int .i64 0) := T12.out.cell rfl
    have g3 := T12.out.frozen 3
    have r4 : w5.cell? ⟨w.heap.size + 1 + 1 + 1, 4, none⟩ = some (.int .i64 0) := T12.out.cell rfl
    have g4 := T12.out.frozen 4
    have r5 : w5.cell? ⟨w.heap.size + 1 + 1 + 1, 5, none⟩ = some (.int .i64 0) := T12.out.cell rfl
    have g5 := T12.out.frozen 5
    have r6 : w5.cell? ⟨w.heap.size + 1 + 1 + 1, 6, none⟩ = some (.int .i64 0) := T12.out.cell rfl
    have g6 := T12.out.frozen 6
    have r7 : w5.cell? ⟨w.heap.size + 1 + 1 + 1, 7, none⟩ = some (.int .i64 0) := T12.out.cell rfl
    have g7 := T12.out.frozen 7
    have r8 : w5.cell? ⟨w.heap.size + 1 + 1 + 1, 8, none⟩ = some (.int .i64 0) := T12.out.cell rfl
    have g8 := T12.out.frozen 8
    have r9 : w5.cell? ⟨w.heap.size + 1 + 1 + 1, 9, none⟩ = some (.slice none 0 0) := T12.out.cell rfl
    have g9 := T12.out.frozen 9
    go_wp2
    refine bodyPost_ret (v := .tuple #[.agg #[.int .i64 x0, .int .i64 x1, .int .i64 x2, .int .i64 x3, .int .i64 x4, .int .i64 x5, .int .i64 x6, .int .i64 x7, .int .i64 x8, .slice a1 n c1], .bool false]) (by simp [results, Try.results14, go_sem, *]) rfl ⟨a1, c1, rfl, ?_, ?_⟩
    · exact HG4.out.keep (by simp only [World.size_alloc]; omega) (by simp only [size_setCell']; omega) (fun B t c h1 h2 hr => by
        simp only [World.size_alloc] at h1
        (repeat' (first | (with_reducible assumption) | (with_reducible refine RowAt.other ?_ ?_ _))) <;> dsimp only <;> omega)
    · exact ((((((((((HE4.out.setCell (p := ⟨w.heap.size + 1 + 1 + 1, 0, none⟩) (by dsimp only; omega) _).setCell (p := ⟨w.heap.size + 1 + 1 + 1, 1, none⟩) (by dsimp only; omega) _).setCell (p := ⟨w.heap.size + 1 + 1 + 1, 2, none⟩) (by dsimp only; omega) _).setCell (p := ⟨w.heap.size + 1 + 1 + 1, 3, none⟩) (by dsimp only; omega) _).setCell (p := ⟨w.heap.size + 1 + 1 + 1, 4, none⟩) (by dsimp only; omega) _).setCell (p := ⟨w.heap.size + 1 + 1 + 1, 5, none⟩) (by dsimp only; omega) _).setCell (p := ⟨w.heap.size + 1 + 1 + 1, 6, none⟩) (by dsimp only; omega) _).setCell (p := ⟨w.heap.size + 1 + 1 + 1, 7, none⟩) (by dsimp only; omega) _).setCell (p := ⟨w.heap.size + 1 + 1 + 1, 8, none⟩) (by dsimp only; omega) _).setCell (p := ⟨w.heap.size + 1 + 1 + 1, 9, none⟩) (by dsimp only; omega) _)
  cases k4
  · have hgg : (x8, false) = (g, ok) := by simpa using hres
    clear hres
    obtain ⟨rfl, rfl⟩ := Prod.mk.inj hgg
    go_enter Try.func14, Try.ntmps14
    have B0_0 := B0I
    have B1_0 := B1I
    have B2_0 := B2I
    have RES0_0 := RES0I
    have HW0 := HE0
    go_wp2_with fail
    with_reducible refine (copyLock_any _ _ _ _ _ _ _ _ _ _ _ _ ts _ HN.out HS.out HTS.out (HF.out.ext HE0.out)).mono ?_
    rintro e w1 ⟨a1, c1, es, rfl, hg1, hb⟩
    have hown := Lib.hid (hg1.ownAt); clear hg1
    have HW1 := Lib.hid (HW0.out.trans hb)
    have B0_1 := Lib.hid (B0_0.out.ext hb)
    have B1_1 := Lib.hid (B1_0.out.ext hb)
    have B2_1 := Lib.hid (B2_0.out.ext hb)
    have RES0_1 := Lib.hid (RES0_0.out.ext hb)
    have zz1 := hb.size
    simp only [World.size_alloc] at zz1
    clear HW0 B0_0 B1_0 B2_0 RES0_0 hb
    have OT_1 := hown; clear hown
    obtain ⟨bO, hbO⟩ : ∃ x, x = w1.heap.size := ⟨_, rfl⟩
    obtain ⟨w2, hw2⟩ : ∃ x, x = w1.alloc (.cells #[.int .i64 x0, .int .i64 x1, .int .i64 x2, .int .i64 x3, .int .i64 x4, .int .i64 x5, .int .i64 x6, .int .i64 x7, .int .i64 x8, .slice a1 n c1] 26) := ⟨_, rfl⟩
    have hal := (Ext.refl w1).alloc (.cells #[.int .i64 x0, .int .i64 x1, .int .i64 x2, .int .i64 x3, .int .i64 x4, .int .i64 x5, .int .i64 x6, .int .i64 x7, .int .i64 x8, .slice a1 n c1] 26)
    have Oq := Lib.hid (RowAt.new w1 26 #[.int .i64 x0, .int .i64 x1, .int .i64 x2, .int .i64 x3, .int .i64 x4, .int .i64 x5, .int .i64 x6, .int .i64 x7, .int .i64 x8, .slice a1 n c1])
    rw [← hw2] at hal Oq
    rw [← hbO] at Oq
    have lO := Oq.out.lt
    have mO : w1.heap.size ≤ bO := Nat.le_of_eq hbO.symm
    have nO : bO ≤ w1.heap.size := Nat.le_of_eq hbO
    have e0 : (w1.alloc (.cells #[.int .i64 x0, .int .i64 x1, .int .i64 x2, .int .i64 x3, .int .i64 x4, .int .i64 x5, .int .i64 x6, .int .i64 x7, .int .i64 x8, .slice a1 n c1] 26)).cell? ⟨w.heap.size, 0, none⟩ = some (.int .i64 x0) := (B0_1.out.ext ((Ext.refl _).alloc _)).cell rfl
    have e1 : (w1.alloc (.cells #[.int .i64 x0, .int .i64 x1, .int .i64 x2, .int .i64 x3, .int .i64 x4, .int .i64 x5, .int .i64 x6, .int .i64 x7, .int .i64 x8, .slice a1 n c1] 26)).cell? ⟨w.heap.size, 1, none⟩ = some (.int .i64 x1) := (B0_1.out.ext ((Ext.refl _).alloc _)).cell rfl
    have e2 : (w1.alloc (.cells #[.int .i64 x0, .int .i64 x1, .int .i64 x2, .int .i64 x3, .int .i64 x4, .int .i64 x5, .int .i64 x6, .int .i64 x7, .int .i64 x8, .slice a1 n c1] 26)).cell? ⟨w.heap.size, 2, none⟩ = some (.int .i64 x2) := (B0_1.out.ext ((Ext.refl _).alloc _)).cell rfl
    have e3 : (w1.alloc (.cells #[.int .i64 x0, .int .i64 x1, .int .i64 x2, .int .i64 x3, .int .i64 x4, .int .i64 x5, .int .i64 x6, .int .i64 x7, .int .i64 x8, .slice a1 n c1] 26)).cell? ⟨w.heap.size, 3, none⟩ = some (.int .i64 x3) := (B0_1.out.ext ((Ext.refl _).alloc _)).cell rfl
    have e4 : (w1.alloc (.cells #[.int .i64 x0, .int .i64 x1, .int .i64 x2, .int .i64 x3, .int .i64 x4, .int .i64 x5, .int .i64 x6, .int .i64 x7, .int .i64 x8, .slice a1 n c1] 26)).cell? ⟨w.heap.size, 4, none⟩ = some (.int .i64 x4) := (B0_1.out.ext ((Ext.refl _).alloc _)).cell rfl
    have e5 : (w1.alloc (.cells #[.int .i64 x0, .int .i64 x1, .int .i64 x2, .int .i64 x3, .int .i64 x4, .int .i64 x5, .int .i64 x6, .int .i64 x7, .int .i64 x8, .slice a1 n c1] 26)).cell? ⟨w.heap.size, 5, none⟩ = some (.int .i64 x5) := (B0_1.out.ext ((Ext.refl _).alloc _)).cell rfl
    have e6 : (w1.alloc (.cells #[.int .i64 x0, .int .i64 x1, .int .i64 x2, .int .i64 x3, .int .i64 x4, .int .i64 x5, .int .i64 x6, .int .i64 x7, .int .i64 x8, .slice a1 n c1] 26)).cell? ⟨w.heap.size, 6, none⟩ = some (.int .i64 x6) := (B0_1.out.ext ((Ext.refl _).alloc _)).cell rfl
    have e7 : (w1.alloc (.cells #[.int .i64 x0, .int .i64 x1, .int .i64 x2, .int .i64 x3, .int .i64 x4, .int .i64 x5, .int .i64 x6, .int .i64 x7, .int .i64 x8, .slice a1 n c1] 26)).cell? ⟨w.heap.size, 7, none⟩ = some (.int .i64 x7) := (B0_1.out.ext ((Ext.refl _).alloc _)).cell rfl
    have e8 : (w1.alloc (.cells #[.int .i64 x0, .int .i64 x1, .int .i64 x2, .int .i64 x3, .int .i64 x4, .int .i64 x5, .int .i64 x6, .int .i64 x7, .int .i64 x8, .slice a1 n c1] 26)).cell? ⟨w.heap.size, 8, none⟩ = some (.int .i64 x8) := (B0_1.out.ext ((Ext.refl _).alloc _)).cell rfl
    have e9 : (w1.alloc (.cells #[.int .i64 x0, .int .i64 x1, .int .i64 x2, .int .i64 x3, .int .i64 x4, .int .i64 x5, .int .i64 x6, .int .i64 x7, .int .i64 x8, .slice a1 n c1] 26)).cell? ⟨w.heap.size, 9, none⟩ = some (.slice a n c) := (B0_1.out.ext ((Ext.refl _).alloc _)).cell rfl
    go_wp2_with fail
    clear e0 e1 e2 e3 e4 e5 e6 e7 e8 e9
    (try rw [← hw2])
    (try rw [← hbO])
    clear hw2 hbO
    have HW2 := Lib.hid (HW1.out.trans hal)
    have B0_2 := Lib.hid (B0_1.out.ext hal)
    have B1_2 := Lib.hid (B1_1.out.ext hal)
    have B2_2 := Lib.hid (B2_1.out.ext hal)
    have RES0_2 := Lib.hid (RES0_1.out.ext hal)
    have OT_2 := Lib.hid (OT_1.out.ext hal)
    have zz2 := hal.size
    clear HW1 B0_1 B1_1 B2_1 RES0_1 OT_1 hal
    have O_2 := Oq; clear Oq
    with_reducible refine (implLockOk_any true _ _ _ _ _ _ _ _ _ _ _ _ ts _ HN.out HS.out HTS.out (HF.out.ext HW2.out) HK1.out).mono ?_
    rintro e w3 ⟨rfl, hb⟩
    have HW3 := Lib.hid (HW2.out.trans hb)
    have B0_3 := Lib.hid (B0_2.out.ext hb)
    have B1_3 := Lib.hid (B1_2.out.ext hb)
    have B2_3 := Lib.hid (B2_2.out.ext hb)
    have RES0_3 := Lib.hid (RES0_2.out.ext hb)
    have O_3 := Lib.hid (O_2.out.ext hb)
    have OT_3 := Lib.hid (OT_2.out.ext hb)
    have zz3 := hb.size
    clear HW2 B0_2 B1_2 B2_2 RES0_2 O_2 OT_2 hb
    have cB10 : w3.cell? ⟨w.heap.size + 1, 0, none⟩ = some (.slice ta0 tn0 tc0) := B1_3.out.cell rfl
    have cB11 : w3.cell? ⟨w.heap.size + 1, 1, none⟩ = some (.int .i64 vol0) := B1_3.out.cell rfl
    have cB12 : w3.cell? ⟨w.heap.size + 1, 2, none⟩ = some (.slice pa0 pn0 pc0) := B1_3.out.cell rfl
    go_wp2_with fail
    with_reducible refine (implReachOk_is true _ _ _ _ _ _ _ ps0 xs0 _ HT0.out HTL0.out HP0.out HPL0.out (HFT0.out.ext HW3.out) (HFP0.out.ext HW3.out) hvol0 HK2.out).mono ?_
    rintro e w4 ⟨rfl, hb⟩
    clear cB10 cB11 cB12
    have HW4 := Lib.hid (HW3.out.trans hb)
    have B0_4 := Lib.hid (B0_3.out.ext hb)
    have B1_4 := Lib.hid (B1_3.out.ext hb)
    have B2_4 := Lib.hid (B2_3.out.ext hb)
    have RES0_4 := Lib.hid (RES0_3.out.ext hb)
    have O_4 := Lib.hid (O_3.out.ext hb)
    have OT_4 := Lib.hid (OT_3.out.ext hb)
    have zz4 := hb.size
    clear HW3 B0_3 B1_3 B2_3 RES0_3 O_3 OT_3 hb
    have cB20 : w4.cell? ⟨w.heap.size + 1 + 1, 0, none⟩ = some (.slice ta1 tn1 tc1) := B2_4.out.cell rfl
    have cB21 : w4.cell? ⟨w.heap.size + 1 + 1, 1, none⟩ = some (.int .i64 vol1) := B2_4.out.cell rfl
    have cB22 : w4.cell? ⟨w.heap.size + 1 + 1, 2, none⟩ = some (.slice pa1 pn1 pc1) := B2_4.out.cell rfl
    go_wp2_with fail
    with_reducible refine (implReachOk_is true _ _ _ _ _ _ _ ps1 xs1 _ HT1.out HTL1.out HP1.out HPL1.out (HFT1.out.ext HW4.out) (HFP1.out.ext HW4.out) hvol1 HK3.out).mono ?_
    rintro e w5 ⟨rfl, hb⟩
    clear cB20 cB21 cB22
    have HW5 := Lib.hid (HW4.out.trans hb)
    have B0_5 := Lib.hid (B0_4.out.ext hb)
    have B1_5 := Lib.hid (B1_4.out.ext hb)
    have B2_5 := Lib.hid (B2_4.out.ext hb)
    have RES0_5 := Lib.hid (RES0_4.out.ext hb)
    have O_5 := Lib.hid (O_4.out.ext hb)
    have OT_5 := Lib.hid (OT_4.out.ext hb)
    have zz5 := hb.size
    clear HW4 B0_4 B1_4 B2_4 RES0_4 O_4 OT_4 hb
    have cB00 : w5.cell? ⟨w.heap.size, 0, none⟩ = some (.int .i64 x0) := B0_5.out.cell rfl
    have cB01 : w5.cell? ⟨w.heap.size, 1, none⟩ = some (.int .i64 x1) := B0_5.out.cell rfl
    have cB02 : w5.cell? ⟨w.heap.size, 2, none⟩ = some (.int .i64 x2) := B0_5.out.cell rfl
    have cB03 : w5.cell? ⟨w.heap.size, 3, none⟩ = some (.int .i64 x3) := B0_5.out.cell rfl
    have cB04 : w5.cell? ⟨w.heap.size, 4, none⟩ = some (.int .i64 x4) := B0_5.out.cell rfl
    have cB05 : w5.cell? ⟨w.heap.size, 5, none⟩ = some (.int .i64 x5) := B0_5.out.cell rfl
    have cB06 : w5.cell? ⟨w.heap.size, 6, none⟩ = some (.int .i64 x6) := B0_5.out.cell rfl
    have cB07 : w5.cell? ⟨w.heap.size, 7, none⟩ = some (.int .i64 x7) := B0_5.out.cell rfl
    have cB08 : w5.cell? ⟨w.heap.size, 8, none⟩ = some (.int .i64 x8) := B0_5.out.cell rfl
    have cB09 : w5.cell? ⟨w.heap.size, 9, none⟩ = some (.slice a n c) := B0_5.out.cell rfl
    have TO2 := O_5; have T12 := RES0_5; have HG4 := OT_5; have HE4 := HW5
    have q0 : w5.cell? ⟨bO, 0, none⟩ = some (.int .i64 x0) := TO2.out.cell rfl
    have q1 : w5.cell? ⟨bO, 1, none⟩ = some (.int .i64 x1) := TO2.out.cell rfl
    have q2 : w5.cell? ⟨bO, 2, none⟩ = some (.int .i64 x2) := TO2.out.cell rfl
    have q3 : w5.cell? ⟨bO, 3, none⟩ = some (.int .i64 x3) := TO2.out.cell rfl
    have q4 : w5.cell? ⟨bO, 4, none⟩ = some (.int .i64 x4) := TO2.out.cell rfl
    have q5 : w5.cell? ⟨bO, 5, none⟩ = some (.int .i64 x5) := TO2.out.cell rfl
    have q6 : w5.cell? ⟨bO, 6, none⟩ = some (.int .i64 x6) := TO2.out.cell rfl
    have q7 : w5.cell? ⟨bO, 7, none⟩ = some (.int .i64 x7) := TO2.out.cell rfl
    have q8 : w5.cell? ⟨bO, 8, none⟩ = some (.int .i64 x8) := TO2.out.cell rfl
    have q9 : w5.cell? ⟨bO, 9, none⟩ = some (.slice a1 n c1) := TO2.out.cell rfl
    have r0 : w5.cell? ⟨w.heap.size + 1 + 1 + 1, 0, none⟩ = some (.int .i64 0) := T12.out.cell rfl
    have g0 := T12.out.frozen 0
    have r1 : w5.cell? ⟨w.heap.size + 1 + 1 + 1, 1, none⟩ = some (.int .i64 0) := T12.out.cell rfl
    have g1 := T12.out.frozen 1
    have r2 : w5.cell? ⟨w.heap.size + 1 + 1 + 1, 2, none⟩ = some (.int .i64 0) := T12.out.cell rfl
    have g2 := T12.out.frozen 2
    have r3 : w5.cell? ⟨w.heap.size + 1 + 1 + 1, 3, none⟩ = some (.int .i64 0) := T12.out.cell rfl
    have g3 := T12.out.frozen 3
    have r4 : w5.cell? ⟨w.heap.size + 1 + 1 + 1, 4, none⟩ = some (.int .i64 0) := T12.out.cell rfl
    have g4 := T12.out.frozen 4
    have r5 : w5.cell? ⟨w.heap.size + 1 + 1 + 1, 5, none⟩ = some (.int .i64 0) := T12.out.cell rfl
    have g5 := T12.out.frozen 5
    have r6 : w5.cell? ⟨w.heap.size + 1 + 1 + 1, 6, none⟩ = some (.int .i64 0) := T12.out.cell rfl
    have g6 := T12.out.frozen 6
    have r7 : w5.cell? ⟨w.heap.size + 1 + 1 + 1, 7, none⟩ = some (.int .i64 0) := T12.out.cell rfl
    have g7 := T12.out.frozen 7
    have r8 : w5.cell? ⟨w.heap.size + 1 + 1 + 1, 8, none⟩ = some (.int .i64 0) := T12.out.cell rfl
    have g8 := T12.out.frozen 8
    have r9 : w5.cell? ⟨w.heap.size + 1 + 1 + 1, 9, none⟩ = some (.slice none 0 0) := T12.out.cell rfl
    have g9 := T12.out.frozen 9
    go_wp2
    refine bodyPost_ret (v := .tuple #[.agg #[.int .i64 x0, .int .i64 x1, .int .i64 x2, .int .i64 x3, .int .i64 x4, .int .i64 x5, .int .i64 x6, .int .i64 x7, .int .i64 x8, .slice a1 n c1], .bool false]) (by simp [results, Try.results14, go_sem, *]) rfl ⟨a1, c1, rfl, ?_, ?_⟩
    · exact HG4.out.keep (by simp only [World.size_alloc]; omega) (by simp only [size_setCell']; omega) (fun B t c h1 h2 hr => by
        simp only [World.size_alloc] at h1
        (repeat' (first | (with_reducible assumption) | (with_reducible refine RowAt.other ?_ ?_ _))) <;> dsimp only <;> omega)
    · exact ((((((((((HE4.out.setCell (p := ⟨w.heap.size + 1 + 1 + 1, 0, none⟩) (by dsimp only; omega) _).setCell (p := ⟨w.heap.size + 1 + 1 + 1, 1, none⟩) (by dsimp only; omega) _).setCell (p := ⟨w.heap.size + 1 + 1 + 1, 2, none⟩) (by dsimp only; omega) _).setCell (p := ⟨w.heap.size + 1 + 1 + 1, 3, none⟩) (by dsimp only; omega) _).setCell (p := ⟨w.heap.size + 1 + 1 + 1, 4, none⟩) (by dsimp only; omega) _).setCell (p := ⟨w.heap.size + 1 + 1 + 1, 5, none⟩) (by dsimp only; omega) _).setCell (p := ⟨w.heap.size + 1 + 1 + 1, 6, none⟩) (by dsimp only; omega) _).setCell (p := ⟨w.heap.size + 1 + 1 + 1, 7, none⟩) (by dsimp only; omega) _).setCell (p := ⟨w.heap.size + 1 + 1 + 1, 8, none⟩) (by dsimp only; omega) _).setCell (p := ⟨w.heap.size + 1 + 1 + 1, 9, none⟩) (by dsimp only; omega) _)
  simp only [Bool.and_self, if_true] at hres
  by_cases hg1 : gate = 1
  · rw [if_pos hg1] at hres
    obtain ⟨D, hD⟩ : ∃ D, inR ch (lev0 - 1) (lev0 + 1) = D := ⟨_, rfl⟩
    rw [hD] at hres
    have HD := Lib.hid hD; clear hD
    have e1 : (gate == 1) = true := by simp; omega
    have e2 : (gate == 2) = false := by simp; omega
    have e3 : inR gate 1 2 = true := by simp [inR]; omega
    clear hg1
    cases D
    · have hgg : (x8, false) = (g, ok) := by simpa using hres
      clear hres
      obtain ⟨rfl, rfl⟩ := Prod.mk.inj hgg
      go_enter Try.func14, Try.ntmps14
      have B0_0 := B0I
      have B1_0 := B1I
      have B2_0 := B2I
      have RES0_0 := RES0I
      have HW0 := HE0
      go_wp2_with fail
      with_reducible refine (copyLock_any _ _ _ _ _ _ _ _ _ _ _ _ ts _ HN.out HS.out HTS.out (HF.out.ext HE0.out)).mono ?_
      rintro e w1 ⟨a1, c1, es, rfl, hg1, hb⟩
      have hown := Lib.hid (hg1.ownAt); clear hg1
      have HW1 := Lib.hid (HW0.out.trans hb)
      have B0_1 := Lib.hid (B0_0.out.ext hb)
      have B1_1 := Lib.hid (B1_0.out.ext hb)
      have B2_1 := Lib.hid (B2_0.out.ext hb)
      have RES0_1 := Lib.hid (RES0_0.out.ext hb)
      have zz1 := hb.size
      simp only [World.size_alloc] at zz1
      clear HW0 B0_0 B1_0 B2_0 RES0_0 hb
      have OT_1 := hown; clear hown
      obtain ⟨bO, hbO⟩ : ∃ x, x = w1.heap.size := ⟨_, rfl⟩
      obtain ⟨w2, hw2⟩ : ∃ x, x = w1.alloc (.cells #[.int .i64 x0, .int .i64 x1, .int .i64 x2, .int .i64 x3, .int .i64 x4, .int .i64 x5, .int .i64 x6, .int .i64 x7, .int .i64 x8, .slice a1 n c1] 26) := ⟨_, rfl⟩
      have hal := (Ext.refl w1).alloc (.cells #[.int .i64 x0, .int .i64 x1, .int .i64 x2, .int .i64 x3, .int .i64 x4, .int .i64 x5, .int .i64 x6, .int .i64 x7, .int .i64 x8, .slice a1 n c1] 26)
      have Oq := Lib.hid (RowAt.new w1 26 #[.int .i64 x0, .int .i64 x1, .int .i64 x2, .int .i64 x3, .int .i64 x4, .int .i64 x5, .int .i64 x6, .int .i64 x7, .int .i64 x8, .slice a1 n c1])
      rw [← hw2] at hal Oq
      rw [← hbO] at Oq
      have lO := Oq.out.lt
      have mO : w1.heap.size ≤ bO := Nat.le_of_eq hbO.symm
      have nO : bO ≤ w1.heap.size := Nat.le_of_eq hbO
      have e0 : (w1.alloc (.cells #[.int .i64 x0, .int .i64 x1, .int .i64 x2, .int .i64 x3, .int .i64 x4, .int .i64 x5, .int .i64 x6, .int .i64 x7, .int .i64 x8, .slice a1 n c1] 26)).cell? ⟨w.heap.size, 0, none⟩ = some (.int .i64 x0) := (B0_1.out.ext ((Ext.refl _).alloc _)).cell rfl
      have e1 : (w1.alloc (.cells #[.int .i64 x0, .int .i64 x1, .int .i64 x2, .int .i64 x3, .int .i64 x4, .int .i64 x5, .int .i64 x6, .int .i64 x7, .int .i64 x8, .slice a1 n c1] 26)).cell? ⟨w.heap.size, 1, none⟩ = some (.int .i64 x1) := (B0_1.out.ext ((Ext.refl _).alloc _)).cell rfl
      have e2 : (w1.alloc (.cells #[.int .i64 x0, .int .i64 x1, .int .i64 x2, .int .i64 x3, .int .i64 x4, .int .i64 x5, .int .i64 x6, .int .i64 x7, .int .i64 x8, .slice a1 n c1] 26)).cell? ⟨w.heap.size, 2, none⟩ = some (.int .i64 x2) := (B0_1.out.ext ((Ext.refl _).alloc _)).cell rfl
      have e3 : (w1.alloc (.cells #[.int .i64 x0, .int .i64 x1, .int .i64 x2, .int .i64 x3, .int .i64 x4, .int .i64 x5, .int .i64 x6, .int .i64 x7, .int .i64 x8, .slice a1 n c1] 26)).cell? ⟨w.heap.size, 3, none⟩ = some (.int .i64 x3) := (B0_1.out.ext ((Ext.refl _).alloc _)).cell rfl
      have e4 : (w1.alloc (.cells #[.int .i64 x0, .int .i64 x1, .int .i64 x2, .int .i64 x3, .int .i64 x4, .int .i64 x5, .int .i64 x6, .int .i64 x7, .int .i64 x8, .slice a1 n c1] 26)).cell? ⟨w.heap.size, 4, none⟩ = some (.int .i64 x4) := (B0_1.out.ext ((Ext.refl _).alloc _)).cell rfl
      have e5 : (w1.alloc (.cells #[.int .i64 x0, .int .i64 x1, .int .i64 x2, .int .i64 x3, .int .i64 x4, .int .i64 x5, .int .i64 x6, .int .i64 x7, .int .i64 x8, .slice a1 n c1] 26)).cell? ⟨w.heap.size, 5, none⟩ = some (.int .i64 x5) := (B0_1.out.ext ((Ext.refl _).alloc _)).cell rfl
      have e6 : (w1.alloc (.cells #[.int .i64 x0, .int .i64 x1, .int .i64 x2, .int .i64 x3, .int .i64 x4, .int .i64 x5, .int .i64 x6, .int .i64 x7, .int .i64 x8, .slice a1 n c1] 26)).cell? ⟨w.heap.size, 6, none⟩ = some (.int .i64 x6) := (B0_1.out.ext ((Ext.refl _).alloc _)).cell rfl
      have e7 : (w1.alloc (.cells #[.int .i64 x0, .int .i64 x1, .int .i64 x2, .int .i64 x3, .int .i64 x4, .int .i64 x5, .int .i64 x6, .int .i64 x7, .int .i64 x8, .slice a1 n c1] 26)).cell? ⟨w.heap.size, 7, none⟩ = some (.int .i64 x7) := (B0_1.out.ext ((Ext.refl _).alloc _)).cell rfl
      have e8 : (w1.alloc (.cells #[.int .i64 x0, .int .i64 x1, .int .i64 x2, .int .i64 x3, .int .i64 x4, .int .i64 x5, .int .i64 x6, .int .i64 x7, .int .i64 x8, .slice a1 n c1] 26)).cell? ⟨w.heap.size, 8, none⟩ = some (.int .i64 x8) := (B0_1.out.ext ((Ext.refl _).alloc _)).cell rfl
      have e9 : (w1.alloc (.cells #[.int .i64 x0, .int .i64 x1, .int .i64 x2, .int .i64 x3, .int .i64 x4, .int .i64 x5, .int .i64 x6, .int .i64 x7, .int .i64 x8, .slice a1 n c1] 26)).cell? ⟨w.heap.size, 9, none⟩ = some (.slice a n c) := (B0_1.out.ext ((Ext.refl _).alloc _)).cell rfl
      go_wp2_with fail
      clear e0 e1 e2 e3 e4 e5 e6 e7 e8 e9
      (try rw [← hw2])
      (try rw [← hbO])
      clear hw2 hbO
      have HW2 := Lib.hid (HW1.out.trans hal)
      have B0_2 := Lib.hid (B0_1.out.ext hal)
      have B1_2 := Lib.hid (B1_1.out.ext hal)
      have B2_2 := Lib.hid (B2_1.out.ext hal)
      have RES0_2 := Lib.hid (RES0_1.out.ext hal)
      have OT_2 := Lib.hid (OT_1.out.ext hal)
      have zz2 := hal.size
      clear HW1 B0_1 B1_1 B2_1 RES0_1 OT_1 hal
      have O_2 := Oq; clear Oq
      with_reducible refine (implLockOk_any true _ _ _ _ _ _ _ _ _ _ _ _ ts _ HN.out HS.out HTS.out (HF.out.ext HW2.out) HK1.out).mono ?_
      rintro e w3 ⟨rfl, hb⟩
      have HW3 := Lib.hid (HW2.out.trans hb)
      have B0_3 := Lib.hid (B0_2.out.ext hb)
      have B1_3 := Lib.hid (B1_2.out.ext hb)
      have B2_3 := Lib.hid (B2_2.out.ext hb)
      have RES0_3 := Lib.hid (RES0_2.out.ext hb)
      have O_3 := Lib.hid (O_2.out.ext hb)
      have OT_3 := Lib.hid (OT_2.out.ext hb)
      have zz3 := hb.size
      clear HW2 B0_2 B1_2 B2_2 RES0_2 O_2 OT_2 hb
      have cB10 : w3.cell? ⟨w.heap.size + 1, 0, none⟩ = some (.slice ta0 tn0 tc0) := B1_3.out.cell rfl
      have cB11 : w3.cell? ⟨w.heap.size + 1, 1, none⟩ = some (.int .i64 vol0) := B1_3.out.cell rfl
      have cB12 : w3.cell? ⟨w.heap.size + 1, 2, none⟩ = some (.slice pa0 pn0 pc0) := B1_3.out.cell rfl
      go_wp2_with fail
      with_reducible refine (implReachOk_is true _ _ _ _ _ _ _ ps0 xs0 _ HT0.out HTL0.out HP0.out HPL0.out (HFT0.out.ext HW3.out) (HFP0.out.ext HW3.out) hvol0 HK2.out).mono ?_
      rintro e w4 ⟨rfl, hb⟩
      clear cB10 cB11 cB12
      have HW4 := Lib.hid (HW3.out.trans hb)
      have B0_4 := Lib.hid (B0_3.out.ext hb)
      have B1_4 := Lib.hid (B1_3.out.ext hb)
      have B2_4 := Lib.hid (B2_3.out.ext hb)
      have RES0_4 := Lib.hid (RES0_3.out.ext hb)
      have O_4 := Lib.hid (O_3.out.ext hb)
      have OT_4 := Lib.hid (OT_3.out.ext hb)
      have zz4 := hb.size
      clear HW3 B0_3 B1_3 B2_3 RES0_3 O_3 OT_3 hb
      have cB20 : w4.cell? ⟨w.heap.size + 1 + 1, 0, none⟩ = some (.slice ta1 tn1 tc1) := B2_4.out.cell rfl
      have cB21 : w4.cell? ⟨w.heap.size + 1 + 1, 1, none⟩ = some (.int .i64 vol1) := B2_4.out.cell rfl
      have cB22 : w4.cell? ⟨w.heap.size + 1 + 1, 2, none⟩ = some (.slice pa1 pn1 pc1) := B2_4.out.cell rfl
      go_wp2_with fail
      with_reducible refine (implReachOk_is true _ _ _ _ _ _ _ ps1 xs1 _ HT1.out HTL1.out HP1.out HPL1.out (HFT1.out.ext HW4.out) (HFP1.out.ext HW4.out) hvol1 HK3.out).mono ?_
      rintro e w5 ⟨rfl, hb⟩
      clear cB20 cB21 cB22
      have HW5 := Lib.hid (HW4.out.trans hb)
      have B0_5 := Lib.hid (B0_4.out.ext hb)
      have B1_5 := Lib.hid (B1_4.out.ext hb)
      have B2_5 := Lib.hid (B2_4.out.ext hb)
      have RES0_5 := Lib.hid (RES0_4.out.ext hb)
      have O_5 := Lib.hid (O_4.out.ext hb)
      have OT_5 := Lib.hid (OT_4.out.ext hb)
      have zz5 := hb.size
      clear HW4 B0_4 B1_4 B2_4 RES0_4 O_4 OT_4 hb
      have cB00 : w5.cell? ⟨w.heap.size, 0, none⟩ = some (.int .i64 x0) := B0_5.out.cell rfl
      have cB01 : w5.cell? ⟨w.heap.size, 1, none⟩ = some (.int .i64 x1) := B0_5.out.cell rfl
      have cB02 : w5.cell? ⟨w.heap.size, 2, none⟩ = some (.int .i64 x2) := B0_5.out.cell rfl
      have cB03 : w5.cell? ⟨w.heap.size, 3, none⟩ = some (.int .i64 x3) := B0_5.out.cell rfl
      have cB04 : w5.cell? ⟨w.heap.size, 4, none⟩ = some (.int .i64 x4) := B0_5.out.cell rfl
      have cB05 : w5.cell? ⟨w.heap.size, 5, none⟩ = some (.int .i64 x5) := B0_5.out.cell rfl
      have cB06 : w5.cell? ⟨w.heap.size, 6, none⟩ = some (.int .i64 x6) := B0_5.out.cell rfl
      have cB07 : w5.cell? ⟨w.heap.size, 7, none⟩ = some (.int .i64 x7) := B0_5.out.cell rfl
      have cB08 : w5.cell? ⟨w.heap.size, 8, none⟩ = some (.int .i64 x8) := B0_5.out.cell rfl
      have cB09 : w5.cell? ⟨w.heap.size, 9, none⟩ = some (.slice a n c) := B0_5.out.cell rfl
      clear cB00 cB01 cB02 cB03 cB04 cB05 cB06 cB07 cB08 cB09
      have cB00 : w5.cell? ⟨w.heap.size, 0, none⟩ = some (.int .i64 x0) := B0_5.out.cell rfl
      have cB01 : w5.cell? ⟨w.heap.size, 1, none⟩ = some (.int .i64 x1) := B0_5.out.cell rfl
      have cB02 : w5.cell? ⟨w.heap.size, 2, none⟩ = some (.int .i64 x2) := B0_5.out.cell rfl
      have cB03 : w5.cell? ⟨w.heap.size, 3, none⟩ = some (.int .i64 x3) := B0_5.out.cell rfl
      have cB04 : w5.cell? ⟨w.heap.size, 4, none⟩ = some (.int .i64 x4) := B0_5.out.cell rfl
      have cB05 : w5.cell? ⟨w.heap.size, 5, none⟩ = some (.int .i64 x5) := B0_5.out.cell rfl
      have cB06 : w5.cell? ⟨w.heap.size, 6, none⟩ = some (.int .i64 x6) := B0_5.out.cell rfl
      have cB07 : w5.cell? ⟨w.heap.size, 7, none⟩ = some (.int .i64 x7) := B0_5.out.cell rfl
      have cB08 : w5.cell? ⟨w.heap.size, 8, none⟩ = some (.int .i64 x8) := B0_5.out.cell rfl
      have cB09 : w5.cell? ⟨w.heap.size, 9, none⟩ = some (.slice a n c) := B0_5.out.cell rfl
      have cB10 : w5.cell? ⟨w.heap.size + 1, 0, none⟩ = some (.slice ta0 tn0 tc0) := B1_5.out.cell rfl
      have cB11 : w5.cell? ⟨w.heap.size + 1, 1, none⟩ = some (.int .i64 vol0) := B1_5.out.cell rfl
      have cB12 : w5.cell? ⟨w.heap.size + 1, 2, none⟩ = some (.slice pa0 pn0 pc0) := B1_5.out.cell rfl
      go_wp2_with fail
      with_reducible refine (implLevel_is lev0 _ _ _ _ _ _ _ ps0 xs0 _ HT0.out HTL0.out HP0.out HPL0.out (HFT0.out.ext HW5.out) (HFP0.out.ext HW5.out) hvol0 HLV0.out).mono ?_
      rintro e w6 ⟨rfl, hb⟩
      clear cB00 cB01 cB02 cB03 cB04 cB05 cB06 cB07 cB08 cB09 cB10 cB11 cB12
      have HW6 := Lib.hid (HW5.out.trans hb)
      have B0_6 := Lib.hid (B0_5.out.ext hb)
      have B1_6 := Lib.hid (B1_5.out.ext hb)
      have B2_6 := Lib.hid (B2_5.out.ext hb)
      have RES0_6 := Lib.hid (RES0_5.out.ext hb)
      have O_6 := Lib.hid (O_5.out.ext hb)
      have OT_6 := Lib.hid (OT_5.out.ext hb)
      have zz6 := hb.size
      clear HW5 B0_5 B1_5 B2_5 RES0_5 O_5 OT_5 hb
      have cB00 : w6.cell? ⟨w.heap.size, 0, none⟩ = some (.int .i64 x0) := B0_6.out.cell rfl
      have cB01 : w6.cell? ⟨w.heap.size, 1, none⟩ = some (.int .i64 x1) := B0_6.out.cell rfl
      have cB02 : w6.cell? ⟨w.heap.size, 2, none⟩ = some (.int .i64 x2) := B0_6.out.cell rfl
      have cB03 : w6.cell? ⟨w.heap.size, 3, none⟩ = some (.int .i64 x3) := B0_6.out.cell rfl
      have cB04 : w6.cell? ⟨w.heap.size, 4, none⟩ = some (.int .i64 x4) := B0_6.out.cell rfl
      have cB05 : w6.cell? ⟨w.heap.size, 5, none⟩ = some (.int .i64 x5) := B0_6.out.cell rfl
      have cB06 : w6.cell? ⟨w.heap.size, 6, none⟩ = some (.int .i64 x6) := B0_6.out.cell rfl
      have cB07 : w6.cell? ⟨w.heap.size, 7, none⟩ = some (.int .i64 x7) := B0_6.out.cell rfl
      have cB08 : w6.cell? ⟨w.heap.size, 8, none⟩ = some (.int .i64 x8) := B0_6.out.cell rfl
      have cB09 : w6.cell? ⟨w.heap.size, 9, none⟩ = some (.slice a n c) := B0_6.out.cell rfl
      go_wp2_with fail
      with_reducible refine (implChamber_any ch _ _ _ _ _ _ _ _ _ _ _ _ ts _ HN.out HS.out HTS.out (HF.out.ext HW6.out) HCH.out).mono ?_
      rintro e w7 ⟨rfl, hb⟩
      clear cB00 cB01 cB02 cB03 cB04 cB05 cB06 cB07 cB08 cB09
      have HW7 := Lib.hid (HW6.out.trans hb)
      have B0_7 := Lib.hid (B0_6.out.ext hb)
      have B1_7 := Lib.hid (B1_6.out.ext hb)
      have B2_7 := Lib.hid (B2_6.out.ext hb)
      have RES0_7 := Lib.hid (RES0_6.out.ext hb)
      have O_7 := Lib.hid (O_6.out.ext hb)
      have OT_7 := Lib.hid (OT_6.out.ext hb)
      have zz7 := hb.size
      clear HW6 B0_6 B1_6 B2_6 RES0_6 O_6 OT_6 hb
      go_wp2_with fail
      with_reducible refine (inRange_any _ _ _ _).mono ?_
      rintro e _ ⟨rfl, rfl⟩
      rw [HD.out]
      have TO2 := O_7; have T12 := RES0_7; have HG4 := OT_7; have HE4 := HW7
      have q0 : w7.cell? ⟨bO, 0, none⟩ = some (.int .i64 x0) := TO2.out.cell rfl
      have q1 : w7.cell? ⟨bO, 1, none⟩ = some (.int .i64 x1) := TO2.out.cell rfl
      have q2 : w7.cell? ⟨bO, 2, none⟩ = some (.int .i64 x2) := TO2.out.cell rfl
      have q3 : w7.cell? ⟨bO, 3, none⟩ = some (.int .i64 x3) := TO2.out.cell rfl
      have q4 : w7.cell? ⟨bO, 4, none⟩ = some (.int .i64 x4) := TO2.out.cell rfl
      have q5 : w7.cell? ⟨bO, 5, none⟩ = some (.int .i64 x5) := TO2.out.cell rfl
      have q6 : w7.cell? ⟨bO, 6, none⟩ = some (.int .i64 x6) := TO2.out.cell rfl
      have q7 : w7.cell? ⟨bO, 7, none⟩ = some (.int .i64 x7) := TO2.out.cell rfl
      have q8 : w7.cell? ⟨bO, 8, none⟩ = some (.int .i64 x8) := TO2.out.cell rfl
      have q9 : w7.cell? ⟨bO, 9, none⟩ = some (.slice a1 n c1) := TO2.out.cell rfl
      have r0 : w7.cell? ⟨w.heap.size + 1 + 1 + 1, 0, none⟩ = some (.int .i64 0) := T12.out.cell rfl
      have g0 := T12.out.frozen 0
      have r1 : w7.cell? ⟨w.heap.size + 1 + 1 + 1, 1, none⟩ = some (.int .i64 0) := T12.out.cell rfl
      have g1 := T12.out.frozen 1
      have r2 : w7.cell? ⟨w.heap.size + 1 + 1 + 1, 2, none⟩ = some (.int .i64 0) := T12.out.cell rfl
      have g2 := T12.out.frozen 2
      have r3 : w7.cell? ⟨w.heap.size + 1 + 1 + 1, 3, none⟩ = some (.int .i64 0) := T12.out.cell rfl
      have g3 := T12.out.frozen 3
      have r4 : w7.cell? ⟨w.heap.size + 1 + 1 + 1, 4, none⟩ = some (.int .i64 0) := T12.out.cell rfl
      have g4 := T12.out.frozen 4
      have r5 : w7.cell? ⟨w.heap.size + 1 + 1 + 1, 5, none⟩ = some (.int .i64 0) := T12.out.cell rfl
      have g5 := T12.out.frozen 5
      have r6 : w7.cell? ⟨w.heap.size + 1 + 1 + 1, 6, none⟩ = some (.int .i64 0) := T12.out.cell rfl
      have g6 := T12.out.frozen 6
      have r7 : w7.cell? ⟨w.heap.size + 1 + 1 + 1, 7, none⟩ = some (.int .i64 0) := T12.out.cell rfl
      have g7 := T12.out.frozen 7
      have r8 : w7.cell? ⟨w.heap.size + 1 + 1 + 1, 8, none⟩ = some (.int .i64 0) := T12.out.cell rfl
      have g8 := T12.out.frozen 8
      have r9 : w7.cell? ⟨w.heap.size + 1 + 1 + 1, 9, none⟩ = some (.slice none 0 0) := T12.out.cell rfl
      have g9 := T12.out.frozen 9
      go_wp2
      refine bodyPost_ret (v := .tuple #[.agg #[.int .i64 x0, .int .i64 x1, .int .i64 x2, .int .i64 x3, .int .i64 x4, .int .i64 x5, .int .i64 x6, .int .i64 x7, .int .i64 x8, .slice a1 n c1], .bool false]) (by simp [results, Try.results14, go_sem, *]) rfl ⟨a1, c1, rfl, ?_, ?_⟩
      · exact HG4.out.keep (by simp only [World.size_alloc]; omega) (by simp only [size_setCell']; omega) (fun B t c h1 h2 hr => by
          simp only [World.size_alloc] at h1
          (repeat' (first | (with_reducible assumption) | (with_reducible refine RowAt.other ?_ ?_ _))) <;> dsimp only <;> omega)
      · exact ((((((((((HE4.out.setCell (p := ⟨w.heap.size + 1 + 1 + 1, 0, none⟩) (by dsimp only; omega) _).setCell (p := ⟨w.heap.size + 1 + 1 + 1, 1, none⟩) (by dsimp only; omega) _).setCell (p := ⟨w.heap.size + 1 + 1 + 1, 2, none⟩) (by dsimp only; omega) _).setCell (p := ⟨w.heap.size + 1 + 1 + 1, 3, none⟩) (by dsimp only; omega) _).setCell (p := ⟨w.heap.size + 1 + 1 + 1, 4, none⟩) (by dsimp only; omega) _).setCell (p := ⟨w.heap.size + 1 + 1 + 1, 5, none⟩) (by dsimp only; omega) _).setCell (p := ⟨w.heap.size + 1 + 1 + 1, 6, none⟩) (by dsimp only; omega) _).setCell (p := ⟨w.heap.size + 1 + 1 + 1, 7, none⟩) (by dsimp only; omega) _).setCell (p := ⟨w.heap.size + 1 + 1 + 1, 8, none⟩) (by dsimp only; omega) _).setCell (p := ⟨w.heap.size + 1 + 1 + 1, 9, none⟩) (by dsimp only; omega) _)
    · have hgg : (gate, true) = (g, ok) := by simpa using hres
      clear hres
      obtain ⟨rfl, rfl⟩ := Prod.mk.inj hgg
      go_enter Try.func14, Try.ntmps14
      have B0_0 := B0I
      have B1_0 := B1I
      have B2_0 := B2I
      have RES0_0 := RES0I
      have HW0 := HE0
      go_wp2_with fail
      with_reducible refine (copyLock_any _ _ _ _ _ _ _ _ _ _ _ _ ts _ HN.out HS.out HTS.out (HF.out.ext HE0.out)).mono ?_
      rintro e w1 ⟨a1, c1, es, rfl, hg1, hb⟩
      have hown := Lib.hid (hg1.ownAt); clear hg1
      have HW1 := Lib.hid (HW0.out.trans hb)
      have B0_1 := Lib.hid (B0_0.out.ext hb)
      have B1_1 := Lib.hid (B1_0.out.ext hb)
      have B2_1 := Lib.hid (B2_0.out.ext hb)
      have RES0_1 := Lib.hid (RES0_0.out.ext hb)
      have zz1 := hb.size
      simp only [World.size_alloc] at zz1
      clear HW0 B0_0 B1_0 B2_0 RES0_0 hb
      have OT_1 := hown; clear hown
      obtain ⟨bO, hbO⟩ : ∃ x, x = w1.heap.size := ⟨_, rfl⟩
      obtain ⟨w2, hw2⟩ : ∃ x, x = w1.alloc (.cells #[.int .i64 x0, .int .i64 x1, .int .i64 x2, .int .i64 x3, .int .i64 x4, .int .i64 x5, .int .i64 x6, .int .i64 x7, .int .i64 x8, .slice a1 n c1] 26) := ⟨_, rfl⟩
      have hal := (Ext.refl w1).alloc (.cells #[.int .i64 x0, .int .i64 x1, .int .i64 x2, .int .i64 x3, .int .i64 x4, .int .i64 x5, .int .i64 x6, .int .i64 x7, .int .i64 x8, .slice a1 n c1] 26)
      have Oq := Lib.hid (RowAt.new w1 26 #[.int .i64 x0, .int .i64 x1, .int .i64 x2, .int .i64 x3, .int .i64 x4, .int .i64 x5, .int .i64 x6, .int .i64 x7, .int .i64 x8, .slice a1 n c1])
      rw [← hw2] at hal Oq
      rw [← hbO] at Oq
      have lO := Oq.out.lt
      have mO : w1.heap.size ≤ bO := Nat.le_of_eq hbO.symm
      have nO : bO ≤ w1.heap.size := Nat.le_of_eq hbO
      have e0 : (w1.alloc (.cells #[.int .i64 x0, .int .i64 x1, .int .i64 x2, .int .i64 x3, .int .i64 x4, .int .i64 x5, .int .i64 x6, .int .i64 x7, .int .i64 x8, .slice a1 n c1] 26)).cell? ⟨w.heap.size, 0, none⟩ = some (.int .i64 x0) := (B0_1.out.ext ((Ext.refl _).alloc _)).cell rfl
      have e1 : (w1.alloc (.cells #[.int .i64 x0, .int .i64 x1, .int .i64 x2, .int .i64 x3, .int .i64 x4, .int .i64 x5, .int .i64 x6, .int .i64 x7, .int .i64 x8, .slice a1 n c1] 26)).cell? ⟨w.heap.size, 1, none⟩ = some (.int .i64 x1) := (B0_1.out.ext ((Ext.refl _).alloc _)).cell rfl
      have e2 : (w1.alloc (.cells #[.int .i64 x0, .int .i64 x1, .int .i64 x2, .int .i64 x3, .int .i64 x4, .int .i64 x5, .int .i64 x6, .int .i64 x7, .int .i64 x8, .slice a1 n c1] 26)).cell? ⟨w.heap.size, 2, none⟩ = some (.int .i64 x2) := (B0_1.out.ext ((Ext.refl _).alloc _)).cell rfl
      have e3 : (w1.alloc (.cells #[.int .i64 x0, .int .i64 x1, .int .i64 x2, .int .i64 x3, .int .i64 x4, .int .i64 x5, .int .i64 x6, .int .i64 x7, .int .i64 x8, .slice a1 n c1] 26)).cell? ⟨w.heap.size, 3, none⟩ = some (.int .i64 x3) := (B0_1.out.ext ((Ext.refl _).alloc _)).cell rfl
      have e4 : (w1.alloc (.cells #[.int .i64 x0, .int .i64 x1, .int .i64 x2, .int .i64 x3, .int .i64 x4, .int .i64 x5, .int .i64 x6, .int .i64 x7, .int .i64 x8, .slice a1 n c1] 26)).cell? ⟨w.heap.size, 4, none⟩ = some (.int .i64 x4) := (B0_1.out.ext ((Ext.refl _).alloc _)).cell rfl
      have e5 : (w1.alloc (.cells #[.int .i64 x0, .int .i64 x1, .int .i64 x2, .int .i64 x3, .int .i64 x4, .int .i64 x5, .int .i64 x6, .int .i64 x7, .int .i64 x8, .slice a1 n c1] 26)).cell? ⟨w.heap.size, 5, none⟩ = some (.int .i64 x5) := (B0_1.out.ext ((Ext.refl _).alloc _)).cell rfl
      have e6 : (w1.alloc (.cells #[.int .i64 x0, .int .i64 x1, .int .i64 x2, .int .i64 x3, .int .i64 x4, .int .i64 x5, .int .i64 x6, .int .i64 x7, .int .i64 x8, .slice a1 n c1] 26)).cell? ⟨w.heap.size, 6, none⟩ = some (.int .i64 x6) := (B0_1.out.ext ((Ext.refl _).alloc _)).cell rfl
      have e7 : (w1.alloc (.cells #[.int .i64 x0, .int .i64 x1, .int .i64 x2, .int .i64 x3, .int .i64 x4, .int .i64 x5, .int .i64 x6, .int .i64 x7, .int .i64 x8, .slice a1 n c1] 26)).cell? ⟨w.heap.size, 7, none⟩ = some (.int .i64 x7) := (B0_1.out.ext ((Ext.refl _).alloc _)).cell rfl
      have e8 : (w1.alloc (.cells #[.int .i64 x0, .int .i64 x1, .int .i64 x2, .int .i64 x3, .int .i64 x4, .int .i64 x5, .int .i64 x6, .int .i64 x7, .int .i64 x8, .slice a1 n c1] 26)).cell? ⟨w.heap.size, 8, none⟩ = some (.int .i64 x8) := (B0_1.out.ext ((Ext.refl _).alloc _)).cell rfl
      have e9 : (w1.alloc (.cells #[.int .i64 x0, .int .i64 x1, .int .i64 x2, .int .i64 x3, .int .i64 x4, .int .i64 x5, .int .i64 x6, .int .i64 x7, .int .i64 x8, .slice a1 n c1] 26)).cell? ⟨w.heap.size, 9, none⟩ = some (.slice a n c) := (B0_1.out.ext ((Ext.refl _).alloc _)).cell rfl
      go_wp2_with fail
      clear e0 e1 e2 e3 e4 e5 e6 e7 e8 e9
      (try rw [← hw2])
      (try rw [← hbO])
      clear hw2 hbO
      have HW2 := Lib.hid (HW1.out.trans hal)
      have B0_2 := Lib.hid (B0_1.out.ext hal)
      have B1_2 := Lib.hid (B1_1.out.ext hal)
      have B2_2 := Lib.hid (B2_1.out.ext hal)
      have RES0_2 := Lib.hid (RES0_1.out.ext hal)
      have OT_2 := Lib.hid (OT_1.out.ext hal)
      have zz2 := hal.size
      clear HW1 B0_1 B1_1 B2_1 RES0_1 OT_1 hal
      have O_2 := Oq; clear Oq
      with_reducible refine (implLockOk_any true _ _ _ _ _ _ _ _ _ _ _ _ ts _ HN.out HS.out HTS.out (HF.out.ext HW2.out) HK1.out).mono ?_
      rintro e w3 ⟨rfl, hb⟩
      have HW3 := Lib.hid (HW2.out.trans hb)
      have B0_3 := Lib.hid (B0_2.out.ext hb)
      have B1_3 := Lib.hid (B1_2.out.ext hb)
      have B2_3 := Lib.hid (B2_2.out.ext hb)
      have RES0_3 := Lib.hid (RES0_2.out.ext hb)
      have O_3 := Lib.hid (O_2.out.ext hb)
      have OT_3 := Lib.hid (OT_2.out.ext hb)
      have zz3 := hb.size
      clear HW2 B0_2 B1_2 B2_2 RES0_2 O_2 OT_2 hb
      have cB10 : w3.cell? ⟨w.heap.size + 1, 0, none⟩ = some (.slice ta0 tn0 tc0) := B1_3.out.cell rfl
      have cB11 : w3.cell? ⟨w.heap.size + 1, 1, none⟩ = some (.int .i64 vol0) := B1_3.out.cell rfl
      have cB12 : w3.cell? ⟨w.heap.size + 1, 2, none⟩ = some (.slice pa0 pn0 pc0) := B1_3.out.cell rfl
      go_wp2_with fail
      with_reducible refine (implReachOk_is true _ _ _ _ _ _ _ ps0 xs0 _ HT0.out HTL0.out HP0.out HPL0.out (HFT0.out.ext HW3.out) (HFP0.out.ext HW3.out) hvol0 HK2.out).mono ?_
      rintro e w4 ⟨rfl, hb⟩
      clear cB10 cB11 cB12
      have HW4 := Lib.hid (HW3.out.trans hb)
      have B0_4 := Lib.hid (B0_3.out.ext hb)
      have B1_4 := Lib.hid (B1_3.out.ext hb)
      have B2_4 := Lib.hid (B2_3.out.ext hb)
      have RES0_4 := Lib.hid (RES0_3.out.ext hb)
      have O_4 := Lib.hid (O_3.out.ext hb)
      have OT_4 := Lib.hid (OT_3.out.ext hb)
      have zz4 := hb.size
      clear HW3 B0_3 B1_3 B2_3 RES0_3 O_3 OT_3 hb
      have cB20 : w4.cell? ⟨w.heap.size + 1 + 1, 0, none⟩ = some (.slice ta1 tn1 tc1) := B2_4.out.cell rfl
      have cB21 : w4.cell? ⟨w.heap.size + 1 + 1, 1, none⟩ = some (.int .i64 vol1) := B2_4.out.cell rfl
      have cB22 : w4.cell? ⟨w.heap.size + 1 + 1, 2, none⟩ = some (.slice pa1 pn1 pc1) := B2_4.out.cell rfl
      go_wp2_with fail
      with_reducible refine (implReachOk_is true _ _ _ _ _ _ _ ps1 xs1 _ HT1.out HTL1.out HP1.out HPL1.out (HFT1.out.ext HW4.out) (HFP1.out.ext HW4.out) hvol1 HK3.out).mono ?_
      rintro e w5 ⟨rfl, hb⟩
      clear cB20 cB21 cB22
      have HW5 := Lib.hid (HW4.out.trans hb)
      have B0_5 := Lib.hid (B0_4.out.ext hb)
      have B1_5 := Lib.hid (B1_4.out.ext hb)
      have B2_5 := Lib.hid (B2_4.out.ext hb)
      have RES0_5 := Lib.hid (RES0_4.out.ext hb)
      have O_5 := Lib.hid (O_4.out.ext hb)
      have OT_5 := Lib.hid (OT_4.out.ext hb)
      have zz5 := hb.size
      clear HW4 B0_4 B1_4 B2_4 RES0_4 O_4 OT_4 hb
      have cB00 : w5.cell? ⟨w.heap.size, 0, none⟩ = some (.int .i64 x0) := B0_5.out.cell rfl
      have cB01 : w5.cell? ⟨w.heap.size, 1, none⟩ = some (.int .i64 x1) := B0_5.out.cell rfl
      have cB02 : w5.cell? ⟨w.heap.size, 2, none⟩ = some (.int .i64 x2) := B0_5.out.cell rfl
      have cB03 : w5.cell? ⟨w.heap.size, 3, none⟩ = some (.int .i64 x3) := B0_5.out.cell rfl
      have cB04 : w5.cell? ⟨w.heap.size, 4, none⟩ = some (.int .i64 x4) := B0_5.out.cell rfl
      have cB05 : w5.cell? ⟨w.heap.size, 5, none⟩ = some (.int .i64 x5) := B0_5.out.cell rfl
      have cB06 : w5.cell? ⟨w.heap.size, 6, none⟩ = some (.int .i64 x6) := B0_5.out.cell rfl
      have cB07 : w5.cell? ⟨w.heap.size, 7, none⟩ = some (.int .i64 x7) := B0_5.out.cell rfl
      have cB08 : w5.cell? ⟨w.heap.size, 8, none⟩ = some (.int .i64 x8) := B0_5.out.cell rfl
      have cB09 : w5.cell? ⟨w.heap.size, 9, none⟩ = some (.slice a n c) := B0_5.out.cell rfl
      clear cB00 cB01 cB02 cB03 cB04 cB05 cB06 cB07 cB08 cB09
      have cB00 : w5.cell? ⟨w.heap.size, 0, none⟩ = some (.int .i64 x0) := B0_5.out.cell rfl
      have cB01 : w5.cell? ⟨w.heap.size, 1, none⟩ = some (.int .i64 x1) := B0_5.out.cell rfl
      have cB02 : w5.cell? ⟨w.heap.size, 2, none⟩ = some (.int .i64 x2) := B0_5.out.cell rfl
      have cB03 : w5.cell? ⟨w.heap.size, 3, none⟩ = some (.int .i64 x3) := B0_5.out.cell rfl
      have cB04 : w5.cell? ⟨w.heap.size, 4, none⟩ = some (.int .i64 x4) := B0_5.out.cell rfl
      have cB05 : w5.cell? ⟨w.heap.size, 5, none⟩ = some (.int .i64 x5) := B0_5.out.cell rfl
      have cB06 : w5.cell? ⟨w.heap.size, 6, none⟩ = some (.int .i64 x6) := B0_5.out.cell rfl
      have cB07 : w5.cell? ⟨w.heap.size, 7, none⟩ = some (.int .i64 x7) := B0_5.out.cell rfl
      have cB08 : w5.cell? ⟨w.heap.size, 8, none⟩ = some (.int .i64 x8) := B0_5.out.cell rfl
      have cB09 : w5.cell? ⟨w.heap.size, 9, none⟩ = some (.slice a n c) := B0_5.out.cell rfl
      have cB10 : w5.cell? ⟨w.heap.size + 1, 0, none⟩ = some (.slice ta0 tn0 tc0) := B1_5.out.cell rfl
      have cB11 : w5.cell? ⟨w.heap.size + 1, 1, none⟩ = some (.int .i64 vol0) := B1_5.out.cell rfl
      have cB12 : w5.cell? ⟨w.heap.size + 1, 2, none⟩ = some (.slice pa0 pn0 pc0) := B1_5.out.cell rfl
      go_wp2_with fail
      with_reducible refine (implLevel_is lev0 _ _ _ _ _ _ _ ps0 xs0 _ HT0.out HTL0.out HP0.out HPL0.out (HFT0.out.ext HW5.out) (HFP0.out.ext HW5.out) hvol0 HLV0.out).mono ?_
      rintro e w6 ⟨rfl, hb⟩
      clear cB00 cB01 cB02 cB03 cB04 cB05 cB06 cB07 cB08 cB09 cB10 cB11 cB12
      have HW6 := Lib.hid (HW5.out.trans hb)
      have B0_6 := Lib.hid (B0_5.out.ext hb)
      have B1_6 := Lib.hid (B1_5.out.ext hb)
      have B2_6 := Lib.hid (B2_5.out.ext hb)
      have RES0_6 := Lib.hid (RES0_5.out.ext hb)
      have O_6 := Lib.hid (O_5.out.ext hb)
      have OT_6 := Lib.hid (OT_5.out.ext hb)
      have zz6 := hb.size
      clear HW5 B0_5 B1_5 B2_5 RES0_5 O_5 OT_5 hb
      have cB00 : w6.cell? ⟨w.heap.size, 0, none⟩ = some (.int .i64 x0) := B0_6.out.cell rfl
      have cB01 : w6.cell? ⟨w.heap.size, 1, none⟩ = some (.int .i64 x1) := B0_6.out.cell rfl
      have cB02 : w6.cell? ⟨w.heap.size, 2, none⟩ = some (.int .i64 x2) := B0_6.out.cell rfl
      have cB03 : w6.cell? ⟨w.heap.size, 3, none⟩ = some (.int .i64 x3) := B0_6.out.cell rfl
      have cB04 : w6.cell? ⟨w.heap.size, 4, none⟩ = some (.int .i64 x4) := B0_6.out.cell rfl
      have cB05 : w6.cell? ⟨w.heap.size, 5, none⟩ = some (.int .i64 x5) := B0_6.out.cell rfl
      have cB06 : w6.cell? ⟨w.heap.size, 6, none⟩ = some (.int .i64 x6) := B0_6.out.cell rfl
      have cB07 : w6.cell? ⟨w.heap.size, 7, none⟩ = some (.int .i64 x7) := B0_6.out.cell rfl
      have cB08 : w6.cell? ⟨w.heap.size, 8, none⟩ = some (.int .i64 x8) := B0_6.out.cell rfl
      have cB09 : w6.cell? ⟨w.heap.size, 9, none⟩ = some (.slice a n c) := B0_6.out.cell rfl
      go_wp2_with fail
      with_reducible refine (implChamber_any ch _ _ _ _ _ _ _ _ _ _ _ _ ts _ HN.out HS.out HTS.out (HF.out.ext HW6.out) HCH.out).mono ?_
      rintro e w7 ⟨rfl, hb⟩
      clear cB00 cB01 cB02 cB03 cB04 cB05 cB06 cB07 cB08 cB09
      have HW7 := Lib.hid (HW6.out.trans hb)
      have B0_7 := Lib.hid (B0_6.out.ext hb)
      have B1_7 := Lib.hid (B1_6.out.ext hb)
      have B2_7 := Lib.hid (B2_6.out.ext hb)
      have RES0_7 := Lib.hid (RES0_6.out.ext hb)
      have O_7 := Lib.hid (O_6.out.ext hb)
      have OT_7 := Lib.hid (OT_6.out.ext hb)
      have zz7 := hb.size
      clear HW6 B0_6 B1_6 B2_6 RES0_6 O_6 OT_6 hb
      go_wp2_with fail
      with_reducible refine (inRange_any _ _ _ _).mono ?_
      rintro e _ ⟨rfl, rfl⟩
      rw [HD.out]
      have f8 := O_7.out.frozen 8
      have d8 : w7.cell? ⟨bO, 8, none⟩ = some (.int .i64 x8) := O_7.out.cell rfl
      have TO2 := Lib.hid (O_7.out.set 8 (.int .i64 gate))
      have T12 := Lib.hid (RES0_7.out.other (p := ⟨bO, 8, none⟩) (by dsimp only; omega) (.int .i64 gate))
      have HG4 := Lib.hid (OT_7.out.keep (Nat.le_refl _) (Nat.le_refl _) (fun B t c h1 h2 hr => hr.other (p := ⟨bO, 8, none⟩) (by dsimp only; omega) (.int .i64 gate)))
      have HE4 := Lib.hid (HW7.out.setCell (p := ⟨bO, 8, none⟩) (by dsimp only; omega) (.int .i64 gate))
      have q0 : (w7.setCell ⟨bO, 8, none⟩ (.int .i64 gate)).cell? ⟨bO, 0, none⟩ = some (.int .i64 x0) := TO2.out.cell rfl
      have q1 : (w7.setCell ⟨bO, 8, none⟩ (.int .i64 gate)).cell? ⟨bO, 1, none⟩ = some (.int .i64 x1) := TO2.out.cell rfl
      have q2 : (w7.setCell ⟨bO, 8, none⟩ (.int .i64 gate)).cell? ⟨bO, 2, none⟩ = some (.int .i64 x2) := TO2.out.cell rfl
      have q3 : (w7.setCell ⟨bO, 8, none⟩ (.int .i64 gate)).cell? ⟨bO, 3, none⟩ = some (.int .i64 x3) := TO2.out.cell rfl
      have q4 : (w7.setCell ⟨bO, 8, none⟩ (.int .i64 gate)).cell? ⟨bO, 4, none⟩ = some (.int .i64 x4) := TO2.out.cell rfl
      have q5 : (w7.setCell ⟨bO, 8, none⟩ (.int .i64 gate)).cell? ⟨bO, 5, none⟩ = some (.int .i64 x5) := TO2.out.cell rfl
      have q6 : (w7.setCell ⟨bO, 8, none⟩ (.int .i64 gate)).cell? ⟨bO, 6, none⟩ = some (.int .i64 x6) := TO2.out.cell rfl
      have q7 : (w7.setCell ⟨bO, 8, none⟩ (.int .i64 gate)).cell? ⟨bO, 7, none⟩ = some (.int .i64 x7) := TO2.out.cell rfl
      have q8 : (w7.setCell ⟨bO, 8, none⟩ (.int .i64 gate)).cell? ⟨bO, 8, none⟩ = some (.int .i64 gate) := TO2.out.cell rfl
      have q9 : (w7.setCell ⟨bO, 8, none⟩ (.int .i64 gate)).cell? ⟨bO, 9, none⟩ = some (.slice a1 n c1) := TO2.out.cell rfl
      have r0 : (w7.setCell ⟨bO, 8, none⟩ (.int .i64 gate)).cell? ⟨w.heap.size + 1 + 1 + 1, 0, none⟩ = some (.int .i64 0) := T12.out.cell rfl
      have g0 := T12.out.frozen 0
      have r1 : (w7.setCell ⟨bO, 8, none⟩ (.int .i64 gate)).cell? ⟨w.heap.size + 1 + 1 + 1, 1, none⟩ = some (.int .i64 0) := T12.out.cell rfl
      have g1 := T12.out.frozen 1
      have r2 : (w7.setCell ⟨bO, 8, none⟩ (.int .i64 gate)).cell? ⟨w.heap.size + 1 + 1 + 1, 2, none⟩ = some (.int .i64 0) := T12.out.cell rfl
      have g2 := T12.out.frozen 2
      have r3 : (w7.setCell ⟨bO, 8, none⟩ (.int .i64 gate)).cell? ⟨w.heap.size + 1 + 1 + 1, 3, none⟩ = some (.int .i64 0) := T12.out.cell rfl
      have g3 := T12.out.frozen 3
      have r4 : (w7.setCell ⟨bO, 8, none⟩ (.int .i64 gate)).cell? ⟨w.heap.size + 1 + 1 + 1, 4, none⟩ = some (.int .i64 0) := T12.out.cell rfl
      have g4 := T12.out.frozen 4
      have r5 : (w7.setCell ⟨bO, 8, none⟩ (.int .i64 gate)).cell? ⟨w.heap.size + 1 + 1 + 1, 5, none⟩ = some (.int .i64 0) := T12.out.cell rfl
      have g5 := T12.out.frozen 5
      have r6 : (w7.setCell ⟨bO, 8, none⟩ (.int .i64 gate)).cell? ⟨w.heap.size + 1 + 1 + 1, 6, none⟩ = some (.int .i64 0) := T12.out.cell rfl
      have g6 := T12.out.frozen 6
      have r7 : (w7.setCell ⟨bO, 8, none⟩ (.int .i64 gate)).cell? ⟨w.heap.size + 1 + 1 + 1, 7, none⟩ = some (.int .i64 0) := T12.out.cell rfl
      have g7 := T12.out.frozen 7
      have r8 : (w7.setCell ⟨bO, 8, none⟩ (.int .i64 gate)).cell? ⟨w.heap.size + 1 + 1 + 1, 8, none⟩ = some (.int .i64 0) := T12.out.cell rfl
      have g8 := T12.out.frozen 8
      have r9 : (w7.setCell ⟨bO, 8, none⟩ (.int .i64 gate)).cell? ⟨w.heap.size + 1 + 1 + 1, 9, none⟩ = some (.slice none 0 0) := T12.out.cell rfl
      have g9 := T12.out.frozen 9
      go_wp2
      refine bodyPost_ret (v := .tuple #[.agg #[.int .i64 x0, .int .i64 x1, .int .i64 x2, .int .i64 x3, .int .i64 x4, .int .i64 x5, .int .i64 x6, .int .i64 x7, .int .i64 gate, .slice a1 n c1], .bool true]) (by simp [results, Try.results14, go_sem, *]) rfl ⟨a1, c1, rfl, ?_, ?_⟩
      · exact HG4.out.keep (by simp only [World.size_alloc]; omega) (by simp only [size_setCell']; omega) (fun B t c h1 h2 hr => by
          simp only [World.size_alloc] at h1
          (repeat' (first | (with_reducible assumption) | (with_reducible refine RowAt.other ?_ ?_ _))) <;> dsimp only <;> omega)
      · exact ((((((((((HE4.out.setCell (p := ⟨w.heap.size + 1 + 1 + 1, 0, none⟩) (by dsimp only; omega) _).setCell (p := ⟨w.heap.size + 1 + 1 + 1, 1, none⟩) (by dsimp only; omega) _).setCell (p := ⟨w.heap.size + 1 + 1 + 1, 2, none⟩) (by dsimp only; omega) _).setCell (p := ⟨w.heap.size + 1 + 1 + 1, 3, none⟩) (by dsimp only; omega) _).setCell (p := ⟨w.heap.size + 1 + 1 + 1, 4, none⟩) (by dsimp only; omega) _).setCell (p := ⟨w.heap.size + 1 + 1 + 1, 5, none⟩) (by dsimp only; omega) _).setCell (p := ⟨w.heap.size + 1 + 1 + 1, 6, none⟩) (by dsimp only; omega) _).setCell (p := ⟨w.heap.size + 1 + 1 + 1, 7, none⟩) (by dsimp only; omega) _).setCell (p := ⟨w.heap.size + 1 + 1 + 1, 8, none⟩) (by dsimp only; omega) _).setCell (p := ⟨w.heap.size + 1 + 1 + 1, 9, none⟩) (by dsimp only; omega) _)
  by_cases hg2 : gate = 2
  · rw [if_neg hg1, if_pos hg2] at hres
    obtain ⟨D, hD⟩ : ∃ D, inR ch (lev1 - 1) (lev1 + 1) = D := ⟨_, rfl⟩
    rw [hD] at hres
    have HD := Lib.hid hD; clear hD
    have e1 : (gate == 1) = false := by simp; omega
    have e2 : (gate == 2) = true := by simp; omega
    have e3 : inR gate 1 2 = true := by simp [inR]; omega
    clear hg1 hg2
    cases D
    · have hgg : (x8, false) = (g, ok) := by simpa using hres
      clear hres
      obtain ⟨rfl, rfl⟩ := Prod.mk.inj hgg
      go_enter Try.func14, Try.ntmps14
      have B0_0 := B0I
      have B1_0 := B1I
      have B2_0 := B2I
      have RES0_0 := RES0I
      have HW0 := HE0
      go_wp2_with fail
      with_reducible refine (copyLock_any _ _ _ _ _ _ _ _ _ _ _ _ ts _ HN.out HS.out HTS.out (HF.out.ext HE0.out)).mono ?_
      rintro e w1 ⟨a1, c1, es, rfl, hg1, hb⟩
      have hown := Lib.hid (hg1.ownAt); clear hg1
      have HW1 := Lib.hid (HW0.out.trans hb)
      have B0_1 := Lib.hid (B0_0.out.ext hb)
      have B1_1 := Lib.hid (B1_0.out.ext hb)
      have B2_1 := Lib.hid (B2_0.out.ext hb)
      have RES0_1 := Lib.hid (RES0_0.out.ext hb)
      have zz1 := hb.size
      simp only [World.size_alloc] at zz1
      clear HW0 B0_0 B1_0 B2_0 RES0_0 hb
      have OT_1 := hown; clear hown
      obtain ⟨bO, hbO⟩ : ∃ x, x = w1.heap.size := ⟨_, rfl⟩
      obtain ⟨w2, hw2⟩ : ∃ x, x = w1.alloc (.cells #[.int .i64 x0, .int .i64 x1, .int .i64 x2, .int .i64 x3, .int .i64 x4, .int .i64 x5, .int .i64 x6, .int .i64 x7, .int .i64 x8, .slice a1 n c1] 26) := ⟨_, rfl⟩
      have hal := (Ext.refl w1).alloc (.cells #[.int .i64 x0, .int .i64 x1, .int .i64 x2, .int .i64 x3, .int .i64 x4, .int .i64 x5, .int .i64 x6, .int .i64 x7, .int .i64 x8, .slice a1 n c1] 26)
      have Oq := Lib.hid (RowAt.new w1 26 #[.int .i64 x0, .int .i64 x1, .int .i64 x2, .int .i64 x3, .int .i64 x4, .int .i64 x5, .int .i64 x6, .int .i64 x7, .int .i64 x8, .slice a1 n c1])
      rw [← hw2] at hal Oq
      rw [← hbO] at Oq
      have lO := Oq.out.lt
      have mO : w1.heap.size ≤ bO := Nat.le_of_eq hbO.symm
      have nO : bO ≤ w1.heap.size := Nat.le_of_eq hbO
      have e0 : (w1.alloc (.cells #[.int .i64 x0, .int .i64 x1, .int .i64 x2, .int .i64 x3, .int .i64 x4, .int .i64 x5, .int .i64 x6, .int .i64 x7, .int .i64 x8, .slice a1 n c1] 26)).cell? ⟨w.heap.size, 0, none⟩ = some (.int .i64 x0) := (B0_1.out.ext ((Ext.refl _).alloc _)).cell rfl
      have e1 : (w1.alloc (.cells #[.int .i64 x0, .int .i64 x1, .int .i64 x2, .int .i64 x3, .int .i64 x4, .int .i64 x5, .int .i64 x6, .int .i64 x7, .int .i64 x8, .slice a1 n c1] 26)).cell? ⟨w.heap.size, 1, none⟩ = some (.int .i64 x1) := (B0_1.out.ext ((Ext.refl _).alloc _)).cell rfl
      have e2 : (w1.alloc (.cells #[.int .i64 x0, .int .i64 x1, .int .i64 x2, .int .i64 x3, .int .i64 x4, .int .i64 x5, .int .i64 x6, .int .i64 x7, .int .i64 x8, .slice a1 n c1] 26)).cell? ⟨w.heap.size, 2, none⟩ = some (.int .i64 x2) := (B0_1.out.ext ((Ext.refl _).alloc _)).cell rfl
      have e3 : (w1.alloc (.cells #[.int .i64 x0, .int .i64 x1, .int .i64 x2, .int .i64 x3, .int .i64 x4, .int .i64 x5, .int .i64 x6, .int .i64 x7, .int .i64 x8, .slice a1 n c1] 26)).cell? ⟨w.heap.size, 3, none⟩ = some (.int .i64 x3) := (B0_1.out.ext ((Ext.refl _).alloc _)).cell rfl
      have e4 : (w1.alloc (.cells #[.int .i64 x0, .int .i64 x1, .int .i64 x2, .int .i64 x3, .int .i64 x4, .int .i64 x5, .int .i64 x6, .int .i64 x7, .int .i64 x8, .slice a1 n c1] 26)).cell? ⟨w.heap.size, 4, none⟩ = some (.int .i64 x4) := (B0_1.out.ext ((Ext.refl _).alloc _)).cell rfl
      have e5 : (w1.alloc (.cells #[.int .i64 x0, .int .i64 x1, .int .i64 x2, .int .i64 x3, .int .i64 x4, .int .i64 x5, .int .i64 x6, .int .i64 x7, .int .i64 x8, .slice a1 n c1] 26)).cell? ⟨w.heap.size, 5, none⟩ = some (.int .i64 x5) := (B0_1.out.ext ((Ext.refl _).alloc _)).cell rfl
      have e6 : (w1.alloc (.cells #[.int .i64 x0, .int .i64 x1, .int .i64 x2, .int .i64 x3, .int .i64 x4, .int .i64 x5, .int .i64 x6, .int .i64 x7, .int .i64 x8, .slice a1 n c1] 26)).cell? ⟨w.heap.size, 6, none⟩ = some (.int .i64 x6) := (B0_1.out.ext ((Ext.refl _).alloc _)).cell rfl
      have e7 : (w1.alloc (.cells #[.int .i64 x0, .int .i64 x1, .int .i64 x2, .int .i64 x3, .int .i64 x4, .int .i64 x5, .int .i64 x6, .int .i64 x7, .int .i64 x8, .slice a1 n c1] 26)).cell? ⟨w.heap.size, 7, none⟩ = some (.int .i64 x7) := (B0_1.out.ext ((Ext.refl _).alloc _)).cell rfl
      have e8 : (w1.alloc (.cells #[.int .i64 x0, .int .i64 x1, .int .i64 x2, .int .i64 x3, .int .i64 x4, .int .i64 x5, .int .i64 x6, .int .i64 x7, .int .i64 x8, .slice a1 n c1] 26)).cell? ⟨w.heap.size, 8, none⟩ = some (.int .i64 x8) := (B0_1.out.ext ((Ext.refl _).alloc _)).cell rfl
      have e9 : (w1.alloc (.cells #[.int .i64 x0, .int .i64 x1, .int .i64 x2, .int .i64 x3, .int .i64 x4, .int .i64 x5, .int .i64 x6, .int .i64 x7, .int .i64 x8, .slice a1 n c1] 26)).cell? ⟨w.heap.size, 9, none⟩ = some (.slice a n c) := (B0_1.out.ext ((Ext.refl _).alloc _)).cell rfl
      go_wp2_with fail
      clear e0 e1 e2 e3 e4 e5 e6 e7 e8 e9
      (try rw [← hw2])
      (try rw [← hbO])
      clear hw2 hbO
      have HW2 := Lib.hid (HW1.out.trans hal)
      have B0_2 := Lib.hid (B0_1.out.ext hal)
      have B1_2 := Lib.hid (B1_1.out.ext hal)
      have B2_2 := Lib.hid (B2_1.out.ext hal)
      have RES0_2 := Lib.hid (RES0_1.out.ext hal)
      have OT_2 := Lib.hid (OT_1.out.ext hal)
      have zz2 := hal.size
      clear HW1 B0_1 B1_1 B2_1 RES0_1 OT_1 hal
      have O_2 := Oq; clear Oq
      with_reducible refine (implLockOk_any true _ _ _ _ _ _ _ _ _ _ _ _ ts _ HN.out HS.out HTS.out (HF.out.ext HW2.out) HK1.out).mono ?_
      rintro e w3 ⟨rfl, hb⟩
      have HW3 := Lib.hid (HW2.out.trans hb)
      have B0_3 := Lib.hid (B0_2.out.ext hb)
      have B1_3 := Lib.hid (B1_2.out.ext hb)
      have B2_3 := Lib.hid (B2_2.out.ext hb)
      have RES0_3 := Lib.hid (RES0_2.out.ext hb)
      have O_3 := Lib.hid (O_2.out.ext hb)
      have OT_3 := Lib.hid (OT_2.out.ext hb)
      have zz3 := hb.size
      clear HW2 B0_2 B1_2 B2_2 RES0_2 O_2 OT_2 hb
      have cB10 : w3.cell? ⟨w.heap.size + 1, 0, none⟩ = some (.slice ta0 tn0 tc0) := B1_3.out.cell rfl
      have cB11 : w3.cell? ⟨w.heap.size + 1, 1, none⟩ = some (.int .i64 vol0) := B1_3.out.cell rfl
      have cB12 : w3.cell? ⟨w.heap.size + 1, 2, none⟩ = some (.slice pa0 pn0 pc0) := B1_3.out.cell rfl
      go_wp2_with fail
      with_reducible refine (implReachOk_is true _ _ _ _ _ _ _ ps0 xs0 _ HT0.out HTL0.out HP0.out HPL0.out (HFT0.out.ext HW3.out) (HFP0.out.ext HW3.out) hvol0 HK2.out).mono ?_
      rintro e w4 ⟨rfl, hb⟩
      clear cB10 cB11 cB12
      have HW4 := Lib.hid (HW3.out.trans hb)
      have B0_4 := Lib.hid (B0_3.out.ext hb)
      have B1_4 := Lib.hid (B1_3.out.ext hb)
      have B2_4 := Lib.hid (B2_3.out.ext hb)
      have RES0_4 := Lib.hid (RES0_3.out.ext hb)
      have O_4 := Lib.hid (O_3.out.ext hb)
      have OT_4 := Lib.hid (OT_3.out.ext hb)
      have zz4 := hb.size
      clear HW3 B0_3 B1_3 B2_3 RES0_3 O_3 OT_3 hb
      have cB20 : w4.cell? ⟨w.heap.size + 1 + 1, 0, none⟩ = some (.slice ta1 tn1 tc1) := B2_4.out.cell rfl
      have cB21 : w4.cell? ⟨w.heap.size + 1 + 1, 1, none⟩ = some (.int .i64 vol1) := B2_4.out.cell rfl
      have cB22 : w4.cell? ⟨w.heap.size + 1 + 1, 2, none⟩ = some (.slice pa1 pn1 pc1) := B2_4.out.cell rfl
      go_wp2_with fail
      with_reducible refine (implReachOk_is true _ _ _ _ _ _ _ ps1 xs1 _ HT1.out HTL1.out HP1.out HPL1.out (HFT1.out.ext HW4.out) (HFP1.out.ext HW4.out) hvol1 HK3.out).mono ?_
      rintro e w5 ⟨rfl, hb⟩
      clear cB20 cB21 cB22
      have HW5 := Lib.hid (HW4.out.trans hb)
      have B0_5 := Lib.hid (B0_4.out.ext hb)
      have B1_5 := Lib.hid (B1_4.out.ext hb)
      have B2_5 := Lib.hid (B2_4.out.ext hb)
      have RES0_5 := Lib.hid (RES0_4.out.ext hb)
      have O_5 := Lib.hid (O_4.out.ext hb)
      have OT_5 := Lib.hid (OT_4.out.ext hb)
      have zz5 := hb.size
      clear HW4 B0_4 B1_4 B2_4 RES0_4 O_4 OT_4 hb
      have cB00 : w5.cell? ⟨w.heap.size, 0, none⟩ = some (.int .i64 x0) := B0_5.out.cell rfl
      have cB01 : w5.cell? ⟨w.heap.size, 1, none⟩ = some (.int .i64 x1) := B0_5.out.cell rfl
      have cB02 : w5.cell? ⟨w.heap.size, 2, none⟩ = some (.int .i64 x2) := B0_5.out.cell rfl
      have cB03 : w5.cell? ⟨w.heap.size, 3, none⟩ = some (.int .i64 x3) := B0_5.out.cell rfl
      have cB04 : w5.cell? ⟨w.heap.size, 4, none⟩ = some (.int .i64 x4) := B0_5.out.cell rfl
      have cB05 : w5.cell? ⟨w.heap.size, 5, none⟩ = some (.int .i64 x5) := B0_5.out.cell rfl
      have cB06 : w5.cell? ⟨w.heap.size, 6, none⟩ = some (.int .i64 x6) := B0_5.out.cell rfl
      have cB07 : w5.cell? ⟨w.heap.size, 7, none⟩ = some (.int .i64 x7) := B0_5.out.cell rfl
      have cB08 : w5.cell? ⟨w.heap.size, 8, none⟩ = some (.int .i64 x8) := B0_5.out.cell rfl
      have cB09 : w5.cell? ⟨w.heap.size, 9, none⟩ = some (.slice a n c) := B0_5.out.cell rfl
      clear cB00 cB01 cB02 cB03 cB04 cB05 cB06 cB07 cB08 cB09
      have cB00 : w5.cell? ⟨w.heap.size, 0, none⟩ = some (.int .i64 x0) := B0_5.out.cell rfl
      have cB01 : w5.cell? ⟨w.heap.size, 1, none⟩ = some (.int .i64 x1) := B0_5.out.cell rfl
      have cB02 : w5.cell? ⟨w.heap.size, 2, none⟩ = some (.int .i64 x2) := B0_5.out.cell rfl
      have cB03 : w5.cell? ⟨w.heap.size, 3, none⟩ = some (.int .i64 x3) := B0_5.out.cell rfl
      have cB04 : w5.cell? ⟨w.heap.size, 4, none⟩ = some (.int .i64 x4) := B0_5.out.cell rfl
      have cB05 : w5.cell? ⟨w.heap.size, 5, none⟩ = some (.int .i64 x5) := B0_5.out.cell rfl
      have cB06 : w5.cell? ⟨w.heap.size, 6, none⟩ = some (.int .i64 x6) := B0_5.out.cell rfl
      have cB07 : w5.cell? ⟨w.heap.size, 7, none⟩ = some (.int .i64 x7) := B0_5.out.cell rfl
      have cB08 : w5.cell? ⟨w.heap.size, 8, none⟩ = some (.int .i64 x8) := B0_5.out.cell rfl
      have cB09 : w5.cell? ⟨w.heap.size, 9, none⟩ = some (.slice a n c) := B0_5.out.cell rfl
      have cB20 : w5.cell? ⟨w.heap.size + 1 + 1, 0, none⟩ = some (.slice ta1 tn1 tc1) := B2_5.out.cell rfl
      have cB21 : w5.cell? ⟨w.heap.size + 1 + 1, 1, none⟩ = some (.int .i64 vol1) := B2_5.out.cell rfl
      have cB22 : w5.cell? ⟨w.heap.size + 1 + 1, 2, none⟩ = some (.slice pa1 pn1 pc1) := B2_5.out.cell rfl
      go_wp2_with fail
      with_reducible refine (implLevel_is lev1 _ _ _ _ _ _ _ ps1 xs1 _ HT1.out HTL1.out HP1.out HPL1.out (HFT1.out.ext HW5.out) (HFP1.out.ext HW5.out) hvol1 HLV1.out).mono ?_
      rintro e w6 ⟨rfl, hb⟩
      clear cB00 cB01 cB02 cB03 cB04 cB05 cB06 cB07 cB08 cB09 cB20 cB21 cB22
      have HW6 := Lib.hid (HW5.out.trans hb)
      have B0_6 := Lib.hid (B0_5.out.ext hb)
      have B1_6 := Lib.hid (B1_5.out.ext hb)
      have B2_6 := Lib.hid (B2_5.out.ext hb)
      have RES0_6 := Lib.hid (RES0_5.out.ext hb)
      have O_6 := Lib.hid (O_5.out.ext hb)
      have OT_6 := Lib.hid (OT_5.out.ext hb)
      have zz6 := hb.size
      clear HW5 B0_5 B1_5 B2_5 RES0_5 O_5 OT_5 hb
      have cB00 : w6.cell? ⟨w.heap.size, 0, none⟩ = some (.int .i64 x0) := B0_6.out.cell rfl
      have cB01 : w6.cell? ⟨w.heap.size, 1, none⟩ = some (.int .i64 x1) := B0_6.out.cell rfl
      have cB02 : w6.cell? ⟨w.heap.size, 2, none⟩ = some (.int .i64 x2) := B0_6.out.cell rfl
      have cB03 : w6.cell? ⟨w.heap.size, 3, none⟩ = some (.int .i64 x3) := B0_6.out.cell rfl
      have cB04 : w6.cell? ⟨w.heap.size, 4, none⟩ = some (.int .i64 x4) := B0_6.out.cell rfl
      have cB05 : w6.cell? ⟨w.heap.size, 5, none⟩ = some (.int .i64 x5) := B0_6.out.cell rfl
      have cB06 : w6.cell? ⟨w.heap.size, 6, none⟩ = some (.int .i64 x6) := B0_6.out.cell rfl
      have cB07 : w6.cell? ⟨w.heap.size, 7, none⟩ = some (.int .i64 x7) := B0_6.out.cell rfl
      have cB08 : w6.cell? ⟨w.heap.size, 8, none⟩ = some (.int .i64 x8) := B0_6.out.cell rfl
      have cB09 : w6.cell? ⟨w.heap.size, 9, none⟩ = some (.slice a n c) := B0_6.out.cell rfl
      go_wp2_with fail
      with_reducible refine (implChamber_any ch _ _ _ _ _ _ _ _ _ _ _ _ ts _ HN.out HS.out HTS.out (HF.out.ext HW6.out) HCH.out).mono ?_
      rintro e w7 ⟨rfl, hb⟩
      clear cB00 cB01 cB02 cB03 cB04 cB05 cB06 cB07 cB08 cB09
      have HW7 := Lib.hid (HW6.out.trans hb)
      have B0_7 := Lib.hid (B0_6.out.ext hb)
      have B1_7 := Lib.hid (B1_6.out.ext hb)
      have B2_7 := Lib.hid (B2_6.out.ext hb)
      have RES0_7 := Lib.hid (RES0_6.out.ext hb)
      have O_7 := Lib.hid (O_6.out.ext hb)
      have OT_7 := Lib.hid (OT_6.out.ext hb)
      have zz7 := hb.size
      clear HW6 B0_6 B1_6 B2_6 RES0_6 O_6 OT_6 hb
      go_wp2_with fail
      with_reducible refine (inRange_any _ _ _ _).mono ?_
      rintro e _ ⟨rfl, rfl⟩
      rw [HD.out]
      have TO2 := O_7; have T12 := RES0_7; have HG4 := OT_7; have HE4 := HW7
      have q0 : w7.cell? ⟨bO, 0, none⟩ = some (.int .i64 x0) := TO2.out.cell rfl
      have q1 : w7.cell? ⟨bO, 1, none⟩ = some (.int .i64 x1) := TO2.out.cell rfl
      have q2 : w7.cell? ⟨bO, 2, none⟩ = some (.int .i64 x2) := TO2.out.cell rfl
      have q3 : w7.cell? ⟨bO, 3, none⟩ = some (.int .i64 x3) := TO2.out.cell rfl
      have q4 : w7.cell? ⟨bO, 4, none⟩ = some (.int .i64 x4) := TO2.out.cell rfl
      have q5 : w7.cell? ⟨bO, 5, none⟩ = some (.int .i64 x5) := TO2.out.cell rfl
      have q6 : w7.cell? ⟨bO, 6, none⟩ = some (.int .i64 x6) := TO2.out.cell rfl
      have q7 : w7.cell? ⟨bO, 7, none⟩ = some (.int .i64 x7) := TO2.out.cell rfl
      have q8 : w7.cell? ⟨bO, 8, none⟩ = some (.int .i64 x8) := TO2.out.cell rfl
      have q9 : w7.cell? ⟨bO, 9, none⟩ = some (.slice a1 n c1) := TO2.out.cell rfl
      have r0 : w7.cell? ⟨w.heap.size + 1 + 1 + 1, 0, none⟩ = some (.int .i64 0) := T12.out.cell rfl
      have g0 := T12.out.frozen 0
      have r1 : w7.cell? ⟨w.heap.size + 1 + 1 + 1, 1, none⟩ = some (.int .i64 0) := T12.out.cell rfl
      have g1 := T12.out.frozen 1
      have r2 : w7.cell? ⟨w.heap.size + 1 + 1 + 1, 2, none⟩ = some (.int .i64 0) := T12.out.cell rfl
      have g2 := T12.out.frozen 2
      have r3 : w7.cell? ⟨w.heap.size + 1 + 1 + 1, 3, none⟩ = some (.int .i64 0) := T12.out.cell rfl
      have g3 := T12.out.frozen 3
      have r4 : w7.cell? ⟨w.heap.size + 1 + 1 + 1, 4, none⟩ = some (.int .i64 0) := T12.out.cell rfl
      have g4 := T12.out.frozen 4
      have r5 : w7.cell? ⟨w.heap.size + 1 + 1 + 1, 5, none⟩ = some (.int .i64 0) := T12.out.cell rfl
      have g5 := T12.out.frozen 5
      have r6 : w7.cell? ⟨w.heap.size + 1 + 1 + 1, 6, none⟩ = some (.int .i64 0) := T12.out.cell rfl
      have g6 := T12.out.frozen 6
      have r7 : w7.cell? ⟨w.heap.size + 1 + 1 + 1, 7, none⟩ = some (.int .i64 0) := T12.out.cell rfl
      have g7 := T12.out.frozen 7
      have r8 : w7.cell? ⟨w.heap.size + 1 + 1 + 1, 8, none⟩ = some (.int .i64 0) := T12.out.cell rfl
      have g8 := T12.out.frozen 8
      have r9 : w7.cell? ⟨w.heap.size + 1 + 1 + 1, 9, none⟩ = some (.slice none 0 0) := T12.out.cell rfl
      have g9 := T12.out.frozen 9
      go_wp2
      refine bodyPost_ret (v := .tuple #[.agg #[.int .i64 x0, .int .i64 x1, .int .i64 x2, .int .i64 x3, .int .i64 x4, .int .i64 x5, .int .i64 x6, .int .i64 x7, .int .i64 x8, .slice a1 n c1], .bool false]) (by simp [results, Try.results14, go_sem, *]) rfl ⟨a1, c1, rfl, ?_, ?_⟩
      · exact HG4.out.keep (by simp only [World.size_alloc]; omega) (by simp only [size_setCell']; omega) (fun B t c h1 h2 hr => by
          simp only [World.size_alloc] at h1
          (repeat' (first | (with_reducible assumption) | (with_reducible refine RowAt.other ?_ ?_ _))) <;> dsimp only <;> omega)
      · exact ((((((((((HE4.out.setCell (p := ⟨w.heap.size + 1 + 1 + 1, 0, none⟩) (by dsimp only; omega) _).setCell (p := ⟨w.heap.size + 1 + 1 + 1, 1, none⟩) (by dsimp only; omega) _).setCell (p := ⟨w.heap.size + 1 + 1 + 1, 2, none⟩) (by dsimp only; omega) _).setCell (p := ⟨w.heap.size + 1 + 1 + 1, 3, none⟩) (by dsimp only; omega) _).setCell (p := ⟨w.heap.size + 1 + 1 + 1, 4, none⟩) (by dsimp only; omega) _).setCell (p := ⟨w.heap.size + 1 + 1 + 1, 5, none⟩) (by dsimp only; omega) _).setCell (p := ⟨w.heap.size + 1 + 1 + 1, 6, none⟩) (by dsimp only; omega) _).setCell (p := ⟨w.heap.size + 1 + 1 + 1, 7, none⟩) (by dsimp only; omega) _).setCell (p := ⟨w.heap.size + 1 + 1 + 1, 8, none⟩) (by dsimp only; omega) _).setCell (p := ⟨w.heap.size + 1 + 1 + 1, 9, none⟩) (by dsimp only; omega) _)
    · have hgg : (gate, true) = (g, ok) := by simpa using hres
      clear hres
      obtain ⟨rfl, rfl⟩ := Prod.mk.inj hgg
      go_enter Try.func14, Try.ntmps14
      have B0_0 := B0I
      have B1_0 := B1I
      have B2_0 := B2I
      have RES0_0 := RES0I
      have HW0 := HE0
      go_wp2_with fail
      with_reducible refine (copyLock_any _ _ _ _ _ _ _ _ _ _ _ _ ts _ HN.out HS.out HTS.out (HF.out.ext HE0.out)).mono ?_
      rintro e w1 ⟨a1, c1, es, rfl, hg1, hb⟩
      have hown := Lib.hid (hg1.ownAt); clear hg1
      have HW1 := Lib.hid (HW0.out.trans hb)
      have B0_1 := Lib.hid (B0_0.out.ext hb)
      have B1_1 := Lib.hid (B1_0.out.ext hb)
      have B2_1 := Lib.hid (B2_0.out.ext hb)
      have RES0_1 := Lib.hid (RES0_0.out.ext hb)
      have zz1 := hb.size
      simp only [World.size_alloc] at zz1
      clear HW0 B0_0 B1_0 B2_0 RES0_0 hb
      have OT_1 := hown; clear hown
      obtain ⟨bO, hbO⟩ : ∃ x, x = w1.heap.size := ⟨_, rfl⟩
      obtain ⟨w2, hw2⟩ : ∃ x, x = w1.alloc (.cells #[.int .i64 x0, .int .i64 x1, .int .i64 x2, .int .i64 x3, .int .i64 x4, .int .i64 x5, .int .i64 x6, .int .i64 x7, .int .i64 x8, .slice a1 n c1] 26) := ⟨_, rfl⟩
      have hal := (Ext.refl w1).alloc (.cells #[.int .i64 x0, .int .i64 x1, .int .i64 x2, .int .i64 x3, .int .i64 x4, .int .i64 x5, .int .i64 x6, .int .i64 x7, .int .i64 x8, .slice a1 n c1] 26)
      have Oq := Lib.hid (RowAt.new w1 26 #[.int .i64 x0, .int .i64 x1, .int .i64 x2, .int .i64 x3, .int .i64 x4, .int .i64 x5, .int .i64 x6, .int .i64 x7, .int .i64 x8, .slice a1 n c1])
      rw [← hw2] at hal Oq
      rw [← hbO] at Oq
      have lO := Oq.out.lt
      have mO : w1.heap.size ≤ bO := Nat.le_of_eq hbO.symm
      have nO : bO ≤ w1.heap.size := Nat.le_of_eq hbO
      have e0 : (w1.alloc (.cells #[.int .i64 x0, .int .i64 x1, .int .i64 x2, .int .i64 x3, .int .i64 x4, .int .i64 x5, .int .i64 x6, .int .i64 x7, .int .i64 x8, .slice a1 n c1] 26)).cell? ⟨w.heap.size, 0, none⟩ = some (.int .i64 x0) := (B0_1.out.ext ((Ext.refl _).alloc _)).cell rfl
      have e1 : (w1.alloc (.cells #[.int .i64 x0, .int .i64 x1, .int .i64 x2, .int .i64 x3, .int .i64 x4, .int .i64 x5, .int .i64 x6, .int .i64 x7, .int .i64 x8, .slice a1 n c1] 26)).cell? ⟨w.heap.size, 1, none⟩ = some (.int .i64 x1) := (B0_1.out.ext ((Ext.refl _).alloc _)).cell rfl
      have e2 : (w1.alloc (.cells #[.int .i64 x0, .int .i64 x1, .int .i64 x2, .int .i64 x3, .int .i64 x4, .int .i64 x5, .int .i64 x6, .int .i64 x7, .int .i64 x8, .slice a1 n c1] 26)).cell? ⟨w.heap.size, 2, none⟩ = some (.int .i64 x2) := (B0_1.out.ext ((Ext.refl _).alloc _)).cell rfl
      have e3 : (w1.alloc (.cells #[.int .i64 x0, .int .i64 x1, .int .i64 x2, .int .i64 x3, .int .i64 x4, .int .i64 x5, .int .i64 x6, .int .i64 x7, .int .i64 x8, .slice a1 n c1] 26)).cell? ⟨w.heap.size, 3, none⟩ = some (.int .i64 x3) := (B0_1.out.ext ((Ext.refl _).alloc _)).cell rfl
      have e4 : (w1.alloc (.cells #[.int .i64 x0, .int .i64 x1, .int .i64 x2, .int .i64 x3, .int .i64 x4, .int .i64 x5, .int .i64 x6, .int .i64 x7, .int .i64 x8, .slice a1 n c1] 26)).cell? ⟨w.heap.size, 4, none⟩ = some (.int .i64 x4) := (B0_1.out.ext ((Ext.refl _).alloc _)).cell rfl
      have e5 : (w1.alloc (.cells #[.int .i64 x0, .int .i64 x1, .int .i64 x2, .int .i64 x3, .int .i64 x4, .int .i64 x5, .int .i64 x6, .int .i64 x7, .int .i64 x8, .slice a1 n c1] 26)).cell? ⟨w.heap.size, 5, none⟩ = some (.int .i64 x5) := (B0_1.out.ext ((Ext.refl _).alloc _)).cell rfl
      have e6 : (w1.alloc (.cells #[.int .i64 x0, .int .i64 x1, .int .i64 x2, .int .i64 x3, .int .i64 x4, .int .i64 x5, .int .i64 x6, .int .i64 x7, .int .i64 x8, .slice a1 n c1] 26)).cell? ⟨w.heap.size, 6, none⟩ = some (.int .i64 x6) := (B0_1.out.ext ((Ext.refl _).alloc _)).cell rfl
      have e7 : (w1.alloc (.cells #[.int .i64 x0, .int .i64 x1, .int .i64 x2, .int .i64 x3, .int .i64 x4, .int .i64 x5, .int .i64 x6, .int .i64 x7, .int .i64 x8, .slice a1 n c1] 26)).cell? ⟨w.heap.size, 7, none⟩ = some (.int .i64 x7) := (B0_1.out.ext ((Ext.refl _).alloc _)).cell rfl
      have e8 : (w1.alloc (.cells #[.int .i64 x0, .int .i64 x1, .int .i64 x2, .int .i64 x3, .int .i64 x4, .int .i64 x5, .int .i64 x6, .int .i64 x7, .int .i64 x8, .slice a1 n c1] 26)).cell? ⟨w.heap.size, 8, none⟩ = some (.int .i64 x8) := (B0_1.out.ext ((Ext.refl _).alloc _)).cell rfl
      have e9 : (w1.alloc (.cells #[.int .i64 x0, .int .i64 x1, .int .i64 x2, .int .i64 x3, .int .i64 x4, .int .i64 x5, .int .i64 x6, .int .i64 x7, .int .i64 x8, .slice a1 n c1] 26)).cell? ⟨w.heap.size, 9, none⟩ = some (.slice a n c) := (B0_1.out.ext ((Ext.refl _).alloc _)).cell rfl
      go_wp2_with fail
      clear e0 e1 e2 e3 e4 e5 e6 e7 e8 e9
      (try rw [← hw2])
      (try rw [← hbO])
      clear hw2 hbO
      have HW2 := Lib.hid (HW1.out.trans hal)
      have B0_2 := Lib.hid (B0_1.out.ext hal)
      have B1_2 := Lib.hid (B1_1.out.ext hal)
      have B2_2 := Lib.hid (B2_1.out.ext hal)
      have RES0_2 := Lib.hid (RES0_1.out.ext hal)
      have OT_2 := Lib.hid (OT_1.out.ext hal)
      have zz2 := hal.size
      clear HW1 B0_1 B1_1 B2_1 RES0_1 OT_1 hal
      have O_2 := Oq; clear Oq
      with_reducible refine (implLockOk_any true _ _ _ _ _ _ _ _ _ _ _ _ ts _ HN.out HS.out HTS.out (HF.out.ext HW2.out) HK1.out).mono ?_
      rintro e w3 ⟨rfl, hb⟩
      have HW3 := Lib.hid (HW2.out.trans hb)
      have B0_3 := Lib.hid (B0_2.out.ext hb)
      have B1_3 := Lib.hid (B1_2.out.ext hb)
      have B2_3 := Lib.hid (B2_2.out.ext hb)
      have RES0_3 := Lib.hid (RES0_2.out.ext hb)
      have O_3 := Lib.hid (O_2.out.ext hb)
      have OT_3 := Lib.hid (OT_2.out.ext hb)
      have zz3 := hb.size
      clear HW2 B0_2 B1_2 B2_2 RES0_2 O_2 OT_2 hb
      have cB10 : w3.cell? ⟨w.heap.size + 1, 0, none⟩ = some (.slice ta0 tn0 tc0) := B1_3.out.cell rfl
      have cB11 : w3.cell? ⟨w.heap.size + 1, 1, none⟩ = some (.int .i64 vol0) := B1_3.out.cell rfl
      have cB12 : w3.cell? ⟨w.heap.size + 1, 2, none⟩ = some (.slice pa0 pn0 pc0) := B1_3.out.cell rfl
      go_wp2_with fail
      with_reducible refine (implReachOk_is true _ _ _ _ _ _ _ ps0 xs0 _ HT0.out HTL0.out HP0.out HPL0.out (HFT0.out.ext HW3.out) (HFP0.out.ext HW3.out) hvol0 HK2.out).mono ?_
      rintro e w4 ⟨rfl, hb⟩
      clear cB10 cB11 cB12
      have HW4 := Lib.hid (HW3.out.trans hb)
      have B0_4 := Lib.hid (B0_3.out.ext hb)
      have B1_4 := Lib.hid (B1_3.out.ext hb)
      have B2_4 := Lib.hid (B2_3.out.ext hb)
      have RES0_4 := Lib.hid (RES0_3.out.ext hb)
      have O_4 := Lib.hid (O_3.out.ext hb)
      have OT_4 := Lib.hid (OT_3.out.ext hb)
      have zz4 := hb.size
      clear HW3 B0_3 B1_3 B2_3 RES0_3 O_3 OT_3 hb
      have cB20 : w4.cell? ⟨w.heap.size + 1 + 1, 0, none⟩ = some (.slice ta1 tn1 tc1) := B2_4.out.cell rfl
      have cB21 : w4.cell? ⟨w.heap.size + 1 + 1, 1, none⟩ = some (.int .i64 vol1) := B2_4.out.cell rfl
      have cB22 : w4.cell? ⟨w.heap.size + 1 + 1, 2, none⟩ = some (.slice pa1 pn1 pc1) := B2_4.out.cell rfl
      go_wp2_with fail
      with_reducible refine (implReachOk_is true _ _ _ _ _ _ _ ps1 xs1 _ HT1.out HTL1.out HP1.out HPL1.out (HFT1.out.ext HW4.out) (HFP1.out.ext HW4.out) hvol1 HK3.out).mono ?_
      rintro e w5 ⟨rfl, hb⟩
      clear cB20 cB21 cB22
      have HW5 := Lib.hid (HW4.out.trans hb)
      have B0_5 := Lib.hid (B0_4.out.ext hb)
      have B1_5 := Lib.hid (B1_4.out.ext hb)
      have B2_5 := Lib.hid (B2_4.out.ext hb)
      have RES0_5 := Lib.hid (RES0_4.out.ext hb)
      have O_5 := Lib.hid (O_4.out.ext hb)
      have OT_5 := Lib.hid (OT_4.out.ext hb)
      have zz5 := hb.size
      clear HW4 B0_4 B1_4 B2_4 RES0_4 O_4 OT_4 hb
      have cB00 : w5.cell? ⟨w.heap.size, 0, none⟩ = some (.int .i64 x0) := B0_5.out.cell rfl
      have cB01 : w5.cell? ⟨w.heap.size, 1, none⟩ = some (.int .i64 x1) := B0_5.out.cell rfl
      have cB02 : w5.cell? ⟨w.heap.size, 2, none⟩ = some (.int .i64 x2) := B0_5.out.cell rfl
      have cB03 : w5.cell? ⟨w.heap.size, 3, none⟩ = some (.int .i64 x3) := B0_5.out.cell rfl
      have cB04 : w5.cell? ⟨w.heap.size, 4, none⟩ = some (.int .i64 x4) := B0_5.out.cell rfl
      have cB05 : w5.cell? ⟨w.heap.size, 5, none⟩ = some (.int .i64 x5) := B0_5.out.cell rfl
      have cB06 : w5.cell? ⟨w.heap.size, 6, none⟩ = some (.int .i64 x6) := B0_5.out.cell rfl
      have cB07 : w5.cell? ⟨w.heap.size, 7, none⟩ = some (.int .i64 x7) := B0_5.out.cell rfl
      have cB08 : w5.cell? ⟨w.heap.size, 8, none⟩ = some (.int .i64 x8) := B0_5.out.cell rfl
      have cB09 : w5.cell? ⟨w.heap.size, 9, none⟩ = some (.slice a n c) := B0_5.out.cell rfl
      clear cB00 cB01 cB02 cB03 cB04 cB05 cB06 cB07 cB08 cB09
      have cB00 : w5.cell? ⟨w.heap.size, 0, none⟩ = some (.int .i64 x0) := B0_5.out.cell rfl
      have cB01 : w5.cell? ⟨w.heap.size, 1, none⟩ = some (.int .i64 x1) := B0_5.out.cell rfl
      have cB02 : w5.cell? ⟨w.heap.size, 2, none⟩ = some (.int .i64 x2) := B0_5.out.cell rfl
      have cB03 : w5.cell? ⟨w.heap.size, 3, none⟩ = some (.int .i64 x3) := B0_5.out.cell rfl
      have cB04 : w5.cell? ⟨w.heap.size, 4, none⟩ = some (.int .i64 x4) := B0_5.out.cell rfl
      have cB05 : w5.cell? ⟨w.heap.size, 5, none⟩ = some (.int .i64 x5) := B0_5.out.cell rfl
      have cB06 : w5.cell? ⟨w.heap.size, 6, none⟩ = some (.int .i64 x6) := B0_5.out.cell rfl
      have cB07 : w5.cell? ⟨w.heap.size, 7, none⟩ = some (.int .i64 x7) := B0_5.out.cell rfl
      have cB08 : w5.cell? ⟨w.heap.size, 8, none⟩ = some (.int .i64 x8) := B0_5.out.cell rfl
      have cB09 : w5.cell? ⟨w.heap.size, 9, none⟩ = some (.slice a n c) := B0_5.out.cell rfl
      have cB20 : w5.cell? ⟨w.heap.size + 1 + 1, 0, none⟩ = some (.slice ta1 tn1 tc1) := B2_5.out.cell rfl
      have cB21 : w5.cell? ⟨w.heap.size + 1 + 1, 1, none⟩ = some (.int .i64 vol1) := B2_5.out.cell rfl
      have cB22 : w5.cell? ⟨w.heap.size + 1 + 1, 2, none⟩ = some (.slice pa1 pn1 pc1) := B2_5.out.cell rfl
      go_wp2_with fail
      with_reducible refine (implLevel_is lev1 _ _ _ _ _ _ _ ps1 xs1 _ HT1.out HTL1.out HP1.out HPL1.out (HFT1.out.ext HW5.out) (HFP1.out.ext HW5.out) hvol1 HLV1.out).mono ?_
      rintro e w6 ⟨rfl, hb⟩
      clear cB00 cB01 cB02 cB03 cB04 cB05 cB06 cB07 cB08 cB09 cB20 cB21 cB22
      have HW6 := Lib.hid (HW5.out.trans hb)
      have B0_6 := Lib.hid (B0_5.out.ext hb)
      have B1_6 := Lib.hid (B1_5.out.ext hb)
      have B2_6 := Lib.hid (B2_5.out.ext hb)
      have RES0_6 := Lib.hid (RES0_5.out.ext hb)
      have O_6 := Lib.hid (O_5.out.ext hb)
      have OT_6 := Lib.hid (OT_5.out.ext hb)
      have zz6 := hb.size
      clear HW5 B0_5 B1_5 B2_5 RES0_5 O_5 OT_5 hb
      have cB00 : w6.cell? ⟨w.heap.size, 0, none⟩ = some (.int .i64 x0) := B0_6.out.cell rfl
      have cB01 : w6.cell? ⟨w.heap.size, 1, none⟩ = some (.int .i64 x1) := B0_6.out.cell rfl
      have cB02 : w6.cell? ⟨w.heap.size, 2, none⟩ = some (.int .i64 x2) := B0_6.out.cell rfl
      have cB03 : w6.cell? ⟨w.heap.size, 3, none⟩ = some (.int .i64 x3) := B0_6.out.cell rfl
      have cB04 : w6.cell? ⟨w.heap.size, 4, none⟩ = some (.int .i64 x4) := B0_6.out.cell rfl
      have cB05 : w6.cell? ⟨w.heap.size, 5, none⟩ = some (.int .i64 x5) := B0_6.out.cell rfl
      have cB06 : w6.cell? ⟨w.heap.size, 6, none⟩ = some (.int .i64 x6) := B0_6.out.cell rfl
      have cB07 : w6.cell? ⟨w.heap.size, 7, none⟩ = some (.int .i64 x7) := B0_6.out.cell rfl
      have cB08 : w6.cell? ⟨w.heap.size, 8, none⟩ = some (.int .i64 x8) := B0_6.out.cell rfl
      have cB09 : w6.cell? ⟨w.heap.size, 9, none⟩ = some (.slice a n c) := B0_6.out.cell rfl
      go_wp2_with fail
      with_reducible refine (implChamber_any ch _ _ _ _ _ _ _ _ _ _ _ _ ts _ HN.out HS.out HTS.out (HF.out.ext HW6.out) HCH.out).mono ?_
      rintro e w7 ⟨rfl, hb⟩
      clear cB00 cB01 cB02 cB03 cB04 cB05 cB06 cB07 cB08 cB09
      have HW7 := Lib.hid (HW6.out.trans hb)
      have B0_7 := Lib.hid (B0_6.out.ext hb)
      have B1_7 := Lib.hid (B1_6.out.ext hb)
      have B2_7 := Lib.hid (B2_6.out.ext hb)
      have RES0_7 := Lib.hid (RES0_6.out.ext hb)
      have O_7 := Lib.hid (O_6.out.ext hb)
      have OT_7 := Lib.hid (OT_6.out.ext hb)
      have zz7 := hb.size
      clear HW6 B0_6 B1_6 B2_6 RES0_6 O_6 OT_6 hb
      go_wp2_with fail
      with_reducible refine (inRange_any _ _ _ _).mono ?_
      rintro e _ ⟨rfl, rfl⟩
      rw [HD.out]
      have f8 := O_7.out.frozen 8
      have d8 : w7.cell? ⟨bO, 8, none⟩ = some (.int .i64 x8) := O_7.out.cell rfl
      have TO2 := Lib.hid (O_7.out.set 8 (.int .i64 gate))
      have T12 := Lib.hid (RES0_7.out.other (p := ⟨bO, 8, none⟩) (by dsimp only; omega) (.int .i64 gate))
      have HG4 := Lib.hid (OT_7.out.keep (Nat.le_refl _) (Nat.le_refl _) (fun B t c h1 h2 hr => hr.other (p := ⟨bO, 8, none⟩) (by dsimp only; omega) (.int .i64 gate)))
      have HE4 := Lib.hid (HW7.out.setCell (p := ⟨bO, 8, none⟩) (by dsimp only; omega) (.int .i64 gate))
      have q0 : (w7.setCell ⟨bO, 8, none⟩ (.int .i64 gate)).cell? ⟨bO, 0, none⟩ = some (.int .i64 x0) := TO2.out.cell rfl
      have q1 : (w7.setCell ⟨bO, 8, none⟩ (.int .i64 gate)).cell? ⟨bO, 1, none⟩ = some (.int .i64 x1) := TO2.out.cell rfl
      have q2 : (w7.setCell ⟨bO, 8, none⟩ (.int .i64 gate)).cell? ⟨bO, 2, none⟩ = some (.int .i64 x2) := TO2.out.cell rfl
      have q3 : (w7.setCell ⟨bO, 8, none⟩ (.int .i64 gate)).cell? ⟨bO, 3, none⟩ = some (.int .i64 x3) := TO2.out.cell rfl
      have q4 : (w7.setCell ⟨bO, 8, none⟩ (.int .i64 gate)).cell? ⟨bO, 4, none⟩ = some (.int .i64 x4) := TO2.out.cell rfl
      have q5 : (w7.setCell ⟨bO, 8, none⟩ (.int .i64 gate)).cell? ⟨bO, 5, none⟩ = some (.int .i64 x5) := TO2.out.cell rfl
      have q6 : (w7.setCell ⟨bO, 8, none⟩ (.int .i64 gate)).cell? ⟨bO, 6, none⟩ = some (.int .i64 x6) := TO2.out.cell rfl
      have q7 : (w7.setCell ⟨bO, 8, none⟩ (.int .i64 gate)).cell? ⟨bO, 7, none⟩ = some (.int .i64 x7) := TO2.out.cell rfl
      have q8 : (w7.setCell ⟨bO, 8, none⟩ (.int .i64 gate)).cell? ⟨bO, 8, none⟩ = some (.int .i64 gate) := TO2.out.cell rfl
      have q9 : (w7.setCell ⟨bO, 8, none⟩ (.int .i64 gate)).cell? ⟨bO, 9, none⟩ = some (.slice a1 n c1) := TO2.out.cell rfl
      have r0 : (w7.setCell ⟨bO, 8, none⟩ (.int .i64 gate)).cell? ⟨w.heap.size + 1 + 1 + 1, 0, none⟩ = some (.int .i64 0) := T12.out.cell rfl
      have g0 := T12.out.frozen 0
      have r1 : (w7.setCell ⟨bO, 8, none⟩ (.int .i64 gate)).cell? ⟨w.heap.size + 1 + 1 + 1, 1, none⟩ = some (.int .i64 0) := T12.out.cell rfl
      have g1 := T12.out.frozen 1
      have r2 : (w7.setCell ⟨bO, 8, none⟩ (.int .i64 gate)).cell? ⟨w.heap.size + 1 + 1 + 1, 2, none⟩ = some (.int .i64 0) := T12.out.cell rfl
      have g2 := T12.out.frozen 2
      have r3 : (w7.setCell ⟨bO, 8, none⟩ (.int .i64 gate)).cell? ⟨w.heap.size + 1 + 1 + 1, 3, none⟩ = some (.int .i64 0) := T12.out.cell rfl
      have g3 := T12.out.frozen 3
      have r4 : (w7.setCell ⟨bO, 8, none⟩ (.int .i64 gate)).cell? ⟨w.heap.size + 1 + 1 + 1, 4, none⟩ = some (.int .i64 0) := T12.out.cell rfl
      have g4 := T12.out.frozen 4
      have r5 : (w7.setCell ⟨bO, 8, none⟩ (.int .i64 gate)).cell? ⟨w.heap.size + 1 + 1 + 1, 5, none⟩ = some (.int .i64 0) := T12.out.cell rfl
      have g5 := T12.out.frozen 5
      have r6 : (w7.setCell ⟨bO, 8, none⟩ (.int .i64 gate)).cell? ⟨w.heap.size + 1 + 1 + 1, 6, none⟩ = some (.int .i64 0) := T12.out.cell rfl
      have g6 := T12.out.frozen 6
      have r7 : (w7.setCell ⟨bO, 8, none⟩ (.int .i64 gate)).cell? ⟨w.heap.size + 1 + 1 + 1, 7, none⟩ = some (.int .i64 0) := T12.out.cell rfl
      have g7 := T12.out.frozen 7
      have r8 : (w7.setCell ⟨bO, 8, none⟩ (.int .i64 gate)).cell? ⟨w.heap.size + 1 + 1 + 1, 8, none⟩ = some (.int .i64 0) := T12.out.cell rfl
      have g8 := T12.out.frozen 8
      have r9 : (w7.setCell ⟨bO, 8, none⟩ (.int .i64 gate)).cell? ⟨w.heap.size + 1 + 1 + 1, 9, none⟩ = some (.slice none 0 0) := T12.out.cell rfl
      have g9 := T12.out.frozen 9
      go_wp2
      refine bodyPost_ret (v := .tuple #[.agg #[.int .i64 x0, .int .i64 x1, .int .i64 x2, .int .i64 x3, .int .i64 x4, .int .i64 x5, .int .i64 x6, .int .i64 x7, .int .i64 gate, .slice a1 n c1], .bool true]) (by simp [results, Try.results14, go_sem, *]) rfl ⟨a1, c1, rfl, ?_, ?_⟩
      · exact HG4.out.keep (by simp only [World.size_alloc]; omega) (by simp only [size_setCell']; omega) (fun B t c h1 h2 hr => by
          simp only [World.size_alloc] at h1
          (repeat' (first | (with_reducible assumption) | (with_reducible refine RowAt.other ?_ ?_ _))) <;> dsimp only <;> omega)
      · exact ((((((((((HE4.out.setCell (p := ⟨w.heap.size + 1 + 1 + 1, 0, none⟩) (by dsimp only; omega) _).setCell (p := ⟨w.heap.size + 1 + 1 + 1, 1, none⟩) (by dsimp only; omega) _).setCell (p := ⟨w.heap.size + 1 + 1 + 1, 2, none⟩) (by dsimp only; omega) _).setCell (p := ⟨w.heap.size + 1 + 1 + 1, 3, none⟩) (by dsimp only; omega) _).setCell (p := ⟨w.heap.size + 1 + 1 + 1, 4, none⟩) (by dsimp only; omega) _).setCell (p := ⟨w.heap.size + 1 + 1 + 1, 5, none⟩) (by dsimp only; omega) _).setCell (p := ⟨w.heap.size + 1 + 1 + 1, 6, none⟩) (by dsimp only; omega) _).setCell (p := ⟨w.heap.size + 1 + 1 + 1, 7, none⟩) (by dsimp only; omega) _).setCell (p := ⟨w.heap.size + 1 + 1 + 1, 8, none⟩) (by dsimp only; omega) _).setCell (p := ⟨w.heap.size + 1 + 1 + 1, 9, none⟩) (by dsimp only; omega) _)
  rw [if_neg hg1, if_neg hg2] at hres
  obtain ⟨rfl, rfl⟩ := Prod.mk.inj hres
  have e1 : (gate == 1) = false := by simp; omega
  have e2 : (gate == 2) = false := by simp; omega
  have e3 : inR gate 1 2 = false := by simp [inR]; omega
  clear hg1 hg2
  go_enter Try.func14, Try.ntmps14
  have B0_0 := B0I
  have B1_0 := B1I
  have B2_0 := B2I
  have RES0_0 := RES0I
  have HW0 := HE0
  go_wp2_with fail
  with_reducible refine (copyLock_any _ _ _ _ _ _ _ _ _ _ _ _ ts _ HN.out HS.out HTS.out (HF.out.ext HE0.out)).mono ?_
  rintro e w1 ⟨a1, c1, es, rfl, hg1, hb⟩
  have hown := Lib.hid (hg1.ownAt); clear hg1
  have HW1 := Lib.hid (HW0.out.trans hb)
  have B0_1 := Lib.hid (B0_0.out.ext hb)
  have B1_1 := Lib.hid (B1_0.out.ext hb)
  have B2_1 := Lib.hid (B2_0.out.ext hb)
  have RES0_1 := Lib.hid (RES0_0.out.ext hb)
  have zz1 := hb.size
  simp only [World.size_alloc] at zz1
  clear HW0 B0_0 B1_0 B2_0 RES0_0 hb
  have OT_1 := hown; clear hown
  obtain ⟨bO, hbO⟩ : ∃ x, x = w1.heap.size := ⟨_, rfl⟩
  obtain ⟨w2, hw2⟩ : ∃ x, x = w1.alloc (.cells #[.int .i64 x0, .int .i64 x1, .int .i64 x2, .int .i64 x3, .int .i64 x4, .int .i64 x5, .int .i64 x6, .int .i64 x7, .int .i64 x8, .slice a1 n c1] 26) := ⟨_, rfl⟩
  have hal := (Ext.refl w1).alloc (.cells #[.int .i64 x0, .int .i64 x1, .int .i64 x2, .int .i64 x3, .int .i64 x4, .int .i64 x5, .int .i64 x6, .int .i64 x7, .int .i64 x8, .slice a1 n c1] 26)
  have Oq := Lib.hid (RowAt.new w1 26 #[.int .i64 x0, .int .i64 x1, .int .i64 x2, .int .i64 x3, .int .i64 x4, .int .i64 x5, .int .i64 x6, .int .i64 x7, .int .i64 x8, .slice a1 n c1])
  rw [← hw2] at hal Oq
  rw [← hbO] at Oq
  have lO := Oq.out.lt
  have mO : w1.heap.size ≤ bO := Nat.le_of_eq hbO.symm
  have nO : bO ≤ w1.heap.size := Nat.le_of_eq hbO
  have e0 : (w1.alloc (.cells #[.int .i64 x0, .int .i64 x1, .int .i64 x2, .int .i64 x3, .int .i64 x4, .int .i64 x5, .int .i64 x6, .int .i64 x7, .int .i64 x8, .slice a1 n c1] 26)).cell? ⟨w.heap.size, 0, none⟩ = some (.int .i64 x0) := (B0_1.out.ext ((Ext.refl _).alloc _)).cell rfl
  have e1 : (w1.alloc (.cells #[.int .i64 x0, .int .i64 x1, .int .i64 x2, .int .i64 x3, .int .i64 x4, .int .i64 x5, .int .i64 x6, .int .i64 x7, .int .i64 x8, .slice a1 n c1] 26)).cell? ⟨w.heap.size, 1, none⟩ = some (.int .i64 x1) := (B0_1.out.ext ((Ext.refl _).alloc _)).cell rfl
  have e2 : (w1.alloc (.cells #[.int .i64 x0, .int .i64 x1, .int .i64 x2, .int .i64 x3, .int .i64 x4, .int .i64 x5, .int .i64 x6, .int .i64 x7, .int .i64 x8, .slice a1 n c1] 26)).cell? ⟨w.heap.size, 2, none⟩ = some (.int .i64 x2) := (B0_1.out.ext ((Ext.refl _).alloc _)).cell rfl
  have e3 : (w1.alloc (.cells #[.int .i64 x0, .int .i64 x1, .int .i64 x2, .int .i64 x3, .int .i64 x4, .int .i64 x5, .int .i64 x6, .int .i64 x7, .int .i64 x8, .slice a1 n c1] 26)).cell? ⟨w.heap.size, 3, none⟩ = some (.int .i64 x3) := (B0_1.out.ext ((Ext.refl _).alloc _)).cell rfl
  have e4 : (w1.alloc (.cells #[.int .i64 x0, .int .i64 x1, .int .i64 x2, .int .i64 x3, .int .i64 x4, .int .i64 x5, .int .i64 x6, .int .i64 x7, .int .i64 x8, .slice a1 n c1] 26)).cell? ⟨w.heap.size, 4, none⟩ = some (.int .i64 x4) := (B0_1.out.ext ((Ext.refl _).alloc _)).cell rfl
  have e5 : (w1.alloc (.cells #[.int .i64 x0, .int .i64 x1, .int .i64 x2, .int .i64 x3, .int .i64 x4, .int .i64 x5, .int .i64 x6, .int .i64 x7, .int .i64 x8, .slice a1 n c1] 26)).cell? ⟨w.heap.size, 5, none⟩ = some (.int .i64 x5) := (B0_1.out.ext ((Ext.refl _).alloc _)).cell rfl
  have e6 : (w1.alloc (.cells #[.int .i64 x0, .int .i64 x1, .int .i64 x2, .int .i64 x3, .int .i64 x4, .int .i64 x5, .int .i64 x6, .int .i64 x7, .int .i64 x8, .slice a1 n c1] 26)).cell? ⟨w.heap.size, 6, none⟩ = some (.int .i64 x6) := (B0_1.out.ext ((Ext.refl _).alloc _)).cell rfl
  have e7 : (w1.alloc (.cells #[.int .i64 x0, .int .i64 x1, .int .i64 x2, .int .i64 x3, .int .i64 x4, .int .i64 x5, .int .i64 x6, .int .i64 x7, .int .i64 x8, .slice a1 n c1] 26)).cell? ⟨w.heap.size, 7, none⟩ = some (.int .i64 x7) := (B0_1.out.ext ((Ext.refl _).alloc _)).cell rfl
  have e8 : (w1.alloc (.cells #[.int .i64 x0, .int .i64 x1, .int .i64 x2, .int .i64 x3, .int .i64 x4, .int .i64 x5, .int .i64 x6, .int .i64 x7, .int .i64 x8, .slice a1 n c1] 26)).cell? ⟨w.heap.size, 8, none⟩ = some (.int .i64 x8) := (B0_1.out.ext ((Ext.refl _).alloc _)).cell rfl
  have e9 : (w1.alloc (.cells #[.int .i64 x0, .int .i64 x1, .int .i64 x2, .int .i64 x3, .int .i64 x4, .int .i64 x5, .int .i64 x6, .int .i64 x7, .int .i64 x8, .slice a1 n c1] 26)).cell? ⟨w.heap.size, 9, none⟩ = some (.slice a n c) := (B0_1.out.ext ((Ext.refl _).alloc _)).cell rfl
  go_wp2_with fail
  clear e0 e1 e2 e3 e4 e5 e6 e7 e8 e9
  (try rw [← hw2])
  (try rw [← hbO])
  clear hw2 hbO
  have HW2 := Lib.hid (HW1.out.trans hal)
  have B0_2 := Lib.hid (B0_1.out.ext hal)
  have B1_2 := Lib.hid (B1_1.out.ext hal)
  have B2_2 := Lib.hid (B2_1.out.ext hal)
  have RES0_2 := Lib.hid (RES0_1.out.ext hal)
  have OT_2 := Lib.hid (OT_1.out.ext hal)
  have zz2 := hal.size
  clear HW1 B0_1 B1_1 B2_1 RES0_1 OT_1 hal
  have O_2 := Oq; clear Oq
  with_reducible refine (implLockOk_any true _ _ _ _ _ _ _ _ _ _ _ _ ts _ HN.out HS.out HTS.out (HF.out.ext HW2.out) HK1.out).mono ?_
  rintro e w3 ⟨rfl, hb⟩
  have HW3 := Lib.hid (HW2.out.trans hb)
  have B0_3 := Lib.hid (B0_2.out.ext hb)
  have B1_3 := Lib.hid (B1_2.out.ext hb)
  have B2_3 := Lib.hid (B2_2.out.ext hb)
  have RES0_3 := Lib.hid (RES0_2.out.ext hb)
  have O_3 := Lib.hid (O_2.out.ext hb)
  have OT_3 := Lib.hid (OT_2.out.ext hb)
  have zz3 := hb.size
  clear HW2 B0_2 B1_2 B2_2 RES0_2 O_2 OT_2 hb
  have cB10 : w3.cell? ⟨w.heap.size + 1, 0, none⟩ = some (.slice ta0 tn0 tc0) := B1_3.out.cell rfl
  have cB11 : w3.cell? ⟨w.heap.size + 1, 1, none⟩ = some (.int .i64 vol0) := B1_3.out.cell rfl
  have cB12 : w3.cell? ⟨w.heap.size + 1, 2, none⟩ = some (.slice pa0 pn0 pc0) := B1_3.out.cell rfl
  go_wp2_with fail
  with_reducible refine (implReachOk_is true _ _ _ _ _ _ _ ps0 xs0 _ HT0.out HTL0.out HP0.out HPL0.out (HFT0.out.ext HW3.out) (HFP0.out.ext HW3.out) hvol0 HK2.out).mono ?_
  rintro e w4 ⟨rfl, hb⟩
  clear cB10 cB11 cB12
  have HW4 := Lib.hid (HW3.out.trans hb)
  have B0_4 := Lib.hid (B0_3.out.ext hb)
  have B1_4 := Lib.hid (B1_3.out.ext hb)
  have B2_4 := Lib.hid (B2_3.out.ext hb)
  have RES0_4 := Lib.hid (RES0_3.out.ext hb)
  have O_4 := Lib.hid (O_3.out.ext hb)
  have OT_4 := Lib.hid (OT_3.out.ext hb)
  have zz4 := hb.size
  clear HW3 B0_3 B1_3 B2_3 RES0_3 O_3 OT_3 hb
  have cB20 : w4.cell? ⟨w.heap.size + 1 + 1, 0, none⟩ = some (.slice ta1 tn1 tc1) := B2_4.out.cell rfl
  have cB21 : w4.cell? ⟨w.heap.size + 1 + 1, 1, none⟩ = some (.int .i64 vol1) := B2_4.out.cell rfl
  have cB22 : w4.cell? ⟨w.heap.size + 1 + 1, 2, none⟩ = some (.slice pa1 pn1 pc1) := B2_4.out.cell rfl
  go_wp2_with fail
  with_reducible refine (implReachOk_is true _ _ _ _ _ _ _ ps1 xs1 _ HT1.out HTL1.out HP1.out HPL1.out (HFT1.out.ext HW4.out) (HFP1.out.ext HW4.out) hvol1 HK3.out).mono ?_
  rintro e w5 ⟨rfl, hb⟩
  clear cB20 cB21 cB22
  have HW5 := Lib.hid (HW4.out.trans hb)
  have B0_5 := Lib.hid (B0_4.out.ext hb)
  have B1_5 := Lib.hid (B1_4.out.ext hb)
  have B2_5 := Lib.hid (B2_4.out.ext hb)
  have RES0_5 := Lib.hid (RES0_4.out.ext hb)
  have O_5 := Lib.hid (O_4.out.ext hb)
  have OT_5 := Lib.hid (OT_4.out.ext hb)
  have zz5 := hb.size
  clear HW4 B0_4 B1_4 B2_4 RES0_4 O_4 OT_4 hb
  have cB00 : w5.cell? ⟨w.heap.size, 0, none⟩ = some (.int .i64 x0) := B0_5.out.cell rfl
  have cB01 : w5.cell? ⟨w.heap.size, 1, none⟩ = some (.int .i64 x1) := B0_5.out.cell rfl
  have cB02 : w5.cell? ⟨w.heap.size, 2, none⟩ = some (.int .i64 x2) := B0_5.out.cell rfl
  have cB03 : w5.cell? ⟨w.heap.size, 3, none⟩ = some (.int .i64 x3) := B0_5.out.cell rfl
  have cB04 : w5.cell? ⟨w.heap.size, 4, none⟩ = some (.int .i64 x4) := B0_5.out.cell rfl
  have cB05 : w5.cell? ⟨w.heap.size, 5, none⟩ = some (.int .i64 x5) := B0_5.out.cell rfl
  have cB06 : w5.cell? ⟨w.heap.size, 6, none⟩ = some (.int .i64 x6) := B0_5.out.cell rfl
  have cB07 : w5.cell? ⟨w.heap.size, 7, none⟩ = some (.int .i64 x7) := B0_5.out.cell rfl
  have cB08 : w5.cell? ⟨w.heap.size, 8, none⟩ = some (.int .i64 x8) := B0_5.out.cell rfl
  have cB09 : w5.cell? ⟨w.heap.size, 9, none⟩ = some (.slice a n c) := B0_5.out.cell rfl
  have TO2 := O_5; have T12 := RES0_5; have HG4 := OT_5; have HE4 := HW5
  have q0 : w5.cell? ⟨bO, 0, none⟩ = some (.int .i64 x0) := TO2.out.cell rfl
  have q1 : w5.cell? ⟨bO, 1, none⟩ = some (.int .i64 x1) := TO2.out.cell rfl
  have q2 : w5.cell? ⟨bO, 2, none⟩ = some (.int .i64 x2) := TO2.out.cell rfl
  have q3 : w5.cell? ⟨bO, 3, none⟩ = some (.int .i64 x3) := TO2.out.cell rfl
  have q4 : w5.cell? ⟨bO, 4, none⟩ = some (.int .i64 x4) := TO2.out.cell rfl
  have q5 : w5.cell? ⟨bO, 5, none⟩ = some (.int .i64 x5) := TO2.out.cell rfl
  have q6 : w5.cell? ⟨bO, 6, none⟩ = some (.int .i64 x6) := TO2.out.cell rfl
  have q7 : w5.cell? ⟨bO, 7, none⟩ = some (.int .i64 x7) := TO2.out.cell rfl
  have q8 : w5.cell? ⟨bO, 8, none⟩ = some (.int .i64 x8) := TO2.out.cell rfl
  have q9 : w5.cell? ⟨bO, 9, none⟩ = some (.slice a1 n c1) := TO2.out.cell rfl
  have r0 : w5.cell? ⟨w.heap.size + 1 + 1 + 1, 0, none⟩ = some (.int .i64 0) := T12.out.cell rfl
  have g0 := T12.out.frozen 0
  have r1 : w5.cell? ⟨w.heap.size + 1 + 1 + 1, 1, none⟩ = some (.int .i64 0) := T12.out.cell rfl
  have g1 := T12.out.frozen 1
  have r2 : w5.cell? ⟨w.heap.size + 1 + 1 + 1, 2, none⟩ = some (.int .i64 0) := T12.out.cell rfl
  have g2 := T12.out.frozen 2
  have r3 : w5.cell? ⟨w.heap.size + 1 + 1 + 1, 3, none⟩ = some (.int .i64 0) := T12.out.cell rfl
  have g3 := T12.out.frozen 3
  have r4 : w5.cell? ⟨w.heap.size + 1 + 1 + 1, 4, none⟩ = some (.int .i64 0) := T12.out.cell rfl
  have g4 := T12.out.frozen 4
  have r5 : w5.cell? ⟨w.heap.size + 1 + 1 + 1, 5, none⟩ = some (.int .i64 0) := T12.out.cell rfl
  have g5 := T12.out.frozen 5
  have r6 : w5.cell? ⟨w.heap.size + 1 + 1 + 1, 6, none⟩ = some (.int .i64 0) := T12.out.cell rfl
  have g6 := T12.out.frozen 6
  have r7 : w5.cell? ⟨w.heap.size + 1 + 1 + 1, 7, none⟩ = some (.int .i64 0) := T12.out.cell rfl
  have g7 := T12.out.frozen 7
  have r8 : w5.cell? ⟨w.heap.size + 1 + 1 + 1, 8, none⟩ = some (.int .i64 0) := T12.out.cell rfl
  have g8 := T12.out.frozen 8
  have r9 : w5.cell? ⟨w.heap.size + 1 + 1 + 1, 9, none⟩ = some (.slice none 0 0) := T12.out.cell rfl
  have g9 := T12.out.frozen 9
  go_wp2
  refine bodyPost_ret (v := .tuple #[.agg #[.int .i64 x0, .int .i64 x1, .int .i64 x2, .int .i64 x3, .int .i64 x4, .int .i64 x5, .int .i64 x6, .int .i64 x7, .int .i64 x8, .slice a1 n c1], .bool false]) (by simp [results, Try.results14, go_sem, *]) rfl ⟨a1, c1, rfl, ?_, ?_⟩
  · exact HG4.out.keep (by simp only [World.size_alloc]; omega) (by simp only [size_setCell']; omega) (fun B t c h1 h2 hr => by
      simp only [World.size_alloc] at h1
      (repeat' (first | (with_reducible assumption) | (with_reducible refine RowAt.other ?_ ?_ _))) <;> dsimp only <;> omega)
  · exact ((((((((((HE4.out.setCell (p := ⟨w.heap.size + 1 + 1 + 1, 0, none⟩) (by dsimp only; omega) _).setCell (p := ⟨w.heap.size + 1 + 1 + 1, 1, none⟩) (by dsimp only; omega) _).setCell (p := ⟨w.heap.size + 1 + 1 + 1, 2, none⟩) (by dsimp only; omega) _).setCell (p := ⟨w.heap.size + 1 + 1 + 1, 3, none⟩) (by dsimp only; omega) _).setCell (p := ⟨w.heap.size + 1 + 1 + 1, 4, none⟩) (by dsimp only; omega) _).setCell (p := ⟨w.heap.size + 1 + 1 + 1, 5, none⟩) (by dsimp only; omega) _).setCell (p := ⟨w.heap.size + 1 + 1 + 1, 6, none⟩) (by dsimp only; omega) _).setCell (p := ⟨w.heap.size + 1 + 1 + 1, 7, none⟩) (by dsimp only; omega) _).setCell (p := ⟨w.heap.size + 1 + 1 + 1, 8, none⟩) (by dsimp only; omega) _).setCell (p := ⟨w.heap.size + 1 + 1 + 1, 9, none⟩) (by dsimp only; omega) _)
end Go.Proofs.Ytmppoflgbmabpaa
