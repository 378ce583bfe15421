/- EnterLock of the program, with the capacity of what it returns. -/
import Derived.Test.YtmppoflgbmabpaaEnterL
namespace Go.Proofs.Ytmppoflgbmabpaa
open Go.RowKit
set_option linter.unusedSimpArgs false
set_option linter.unusedVariables false

theorem GT.capE {w : World} {lo hi n c : Nat} {a : Option Addr} {es : List (Bool × Value)} {ts : List Tn} (h : GT w lo hi (.slice a n c) es ts) : n ≤ c ∧ c ≤ 9223372036854775807 := by
  rcases h.2.1.2 with ⟨e, hn⟩ | ⟨g, cap, cur, e, hb, hheap, hnc, hcm, hcs, htake⟩
  · injection e with e1 e2 e3
    omega
  · injection e with e1 e2 e3
    unfold maxLen at hcm
    omega

set_option maxRecDepth 100000 in
set_option maxHeartbeats 2000000 in
theorem implEnterC_any (ts1 : List Tn) (n1 : Nat) (ok : Bool) (x0 x1 x2 x3 x4 x5 x6 x7 x8 : Int) (a : Option Addr) (n c : Nat) (ts : List Tn) (ta pa : Option Addr) (tn tc pn pc : Nat) (vol : Int) (ps : List Pt) (xs : List Int) (u : Bool) (ra : Option Addr) (rn rc : Nat) (rows : List (List Bt)) (w : World) (hn : n = ts.length) (hs : n ≤ 1048576) (hts : ∀ t ∈ ts, SmallT t) (hf : TrainsAt w a ts) (ht : tn = ps.length) (htl : tn ≤ 1048576) (hp : pn = xs.length) (hpl : pn ≤ 1048576) (hft : FlatAt w ptCells 2 ta ps) (hfp : IntsAt w pa xs) (hvol : -9223372036854775808 ≤ vol ∧ vol ≤ 9223372036854775807) (hrn : rn = rows.length) (hrs : rn ≤ 1048576) (hrr : ∀ r ∈ rows, r.length ≤ 1048576) (hrt : rows.flatten.length ≤ 1048576) (hfr : RowsAt w ra rows) (hi0 : I64 x0) (hi1 : I64 x1) (hn1 : n1 = ts1.length) (hres : enterRes x0 x1 x2 x3 x4 x5 x6 x7 x8 ts ps vol xs u rows = (ts1, ok)) :
    Calls Try.prog 17 #[.agg #[.int .i64 x0, .int .i64 x1, .int .i64 x2, .int .i64 x3, .int .i64 x4, .int .i64 x5, .int .i64 x6, .int .i64 x7, .int .i64 x8, .slice a n c], .agg #[.slice ta tn tc, .int .i64 vol, .slice pa pn pc], .agg #[.bool u, .slice ra rn rc]] w fun e w' => ∃ a' c', e = .returned (.tuple #[.agg #[.int .i64 x0, .int .i64 x1, .int .i64 x2, .int .i64 x3, .int .i64 x4, .int .i64 x5, .int .i64 x6, .int .i64 x7, .int .i64 x8, .slice a' n1 c'], .bool ok]) ∧ (n1 ≤ c' ∧ c' ≤ 9223372036854775807) ∧ OwnTrains w' w.heap.size w'.heap.size a' ts1 ∧ Ext w w' := by
  obtain ⟨k1, hk1⟩ : ∃ k, mayEnter x0 x1 x2 x3 x4 x5 x6 x7 x8 ts ps vol xs u rows = k := ⟨_, rfl⟩
  obtain ⟨k2, hk2⟩ : ∃ k, fits x0 x1 (ts ++ [(u, rows)]) = k := ⟨_, rfl⟩
  unfold enterRes at hres
  rw [hk1, hk2] at hres
  have HK1 := Lib.hid hk1
  have HK2 := Lib.hid hk2; clear hk2
  have hnn := hn
  have HL1 := Lib.hid (show n + 1 = (ts ++ [(u, rows)]).length by rw [List.length_append, hn]; rfl)
  have HSM := Lib.hid (show ∀ t ∈ ts ++ [(u, rows)], SmallT t from fun t ht => by
    rcases List.mem_append.1 ht with h | h
    · exact hts t h
    · rw [List.mem_singleton.1 h]; exact ⟨by rw [← hrn]; exact hrs, hrr, hrt⟩)
  have HN := Lib.hid hn; clear hn
  have HS := Lib.hid hs; clear hs
  have HTS := Lib.hid hts; clear hts
  have HF := Lib.hid hf; clear hf
  have HT := Lib.hid ht; clear ht
  have HP := Lib.hid hp; clear hp
  have HFT := Lib.hid hft; clear hft
  have HFP := Lib.hid hfp; clear hfp
  have HTL := Lib.hid (show tn ≤ maxLen by unfold maxLen; omega)
  have HPL := Lib.hid (show pn ≤ maxLen by unfold maxLen; omega)
  have HRN := Lib.hid hrn; clear hrn
  have HRS := Lib.hid hrs; clear hrs
  have HRR := Lib.hid hrr; clear hrr
  have HRT := Lib.hid hrt; clear hrt
  have HFR := Lib.hid hfr; clear hfr
  have B0I := Lib.hid (show RowAt ((((w.alloc (.cells #[.int .i64 x0, .int .i64 x1, .int .i64 x2, .int .i64 x3, .int .i64 x4, .int .i64 x5, .int .i64 x6, .int .i64 x7, .int .i64 x8, .slice a n c] 26)).alloc (.cells #[.slice ta tn tc, .int .i64 vol, .slice pa pn pc] 33)).alloc (.cells #[.bool u, .slice ra rn rc] 47)).alloc (.cells #[.int .i64 0, .int .i64 0, .int .i64 0, .int .i64 0, .int .i64 0, .int .i64 0, .int .i64 0, .int .i64 0, .int .i64 0, .slice none 0 0] 26)) (w.heap.size) 26 #[.int .i64 x0, .int .i64 x1, .int .i64 x2, .int .i64 x3, .int .i64 x4, .int .i64 x5, .int .i64 x6, .int .i64 x7, .int .i64 x8, .slice a n c] from by
    have h := (RowAt.new w 26 #[.int .i64 x0, .int .i64 x1, .int .i64 x2, .int .i64 x3, .int .i64 x4, .int .i64 x5, .int .i64 x6, .int .i64 x7, .int .i64 x8, .slice a n c]).ext ((((Ext.refl _).alloc (.cells #[.slice ta tn tc, .int .i64 vol, .slice pa pn pc] 33)).alloc (.cells #[.bool u, .slice ra rn rc] 47)).alloc (.cells #[.int .i64 0, .int .i64 0, .int .i64 0, .int .i64 0, .int .i64 0, .int .i64 0, .int .i64 0, .int .i64 0, .int .i64 0, .slice none 0 0] 26))
    exact h)
  have B1I := Lib.hid (show RowAt ((((w.alloc (.cells #[.int .i64 x0, .int .i64 x1, .int .i64 x2, .int .i64 x3, .int .i64 x4, .int .i64 x5, .int .i64 x6, .int .i64 x7, .int .i64 x8, .slice a n c] 26)).alloc (.cells #[.slice ta tn tc, .int .i64 vol, .slice pa pn pc] 33)).alloc (.cells #[.bool u, .slice ra rn rc] 47)).alloc (.cells #[.int .i64 0, .int .i64 0, .int .i64 0, .int .i64 0, .int .i64 0, .int .i64 0, .int .i64 0, .int .i64 0, .int .i64 0, .slice none 0 0] 26)) (w.heap.size + 1) 33 #[.slice ta tn tc, .int .i64 vol, .slice pa pn pc] from by
    have h := (RowAt.new (w.alloc (.cells #[.int .i64 x0, .int .i64 x1, .int .i64 x2, .int .i64 x3, .int .i64 x4, .int .i64 x5, .int .i64 x6, .int .i64 x7, .int .i64 x8, .slice a n c] 26)) 33 #[.slice ta tn tc, .int .i64 vol, .slice pa pn pc]).ext (((Ext.refl _).alloc (.cells #[.bool u, .slice ra rn rc] 47)).alloc (.cells #[.int .i64 0, .int .i64 0, .int .i64 0, .int .i64 0, .int .i64 0, .int .i64 0, .int .i64 0, .int .i64 0, .int .i64 0, .slice none 0 0] 26))
    simp only [World.size_alloc] at h
    exact h)
  have B2I := Lib.hid (show RowAt ((((w.alloc (.cells #[.int .i64 x0, .int .i64 x1, .int .i64 x2, .int .i64 x3, .int .i64 x4, .int .i64 x5, .int .i64 x6, .int .i64 x7, .int .i64 x8, .slice a n c] 26)).alloc (.cells #[.slice ta tn tc, .int .i64 vol, .slice pa pn pc] 33)).alloc (.cells #[.bool u, .slice ra rn rc] 47)).alloc (.cells #[.int .i64 0, .int .i64 0, .int .i64 0, .int .i64 0, .int .i64 0, .int .i64 0, .int .i64 0, .int .i64 0, .int .i64 0, .slice none 0 0] 26)) (w.heap.size + 1 + 1) 47 #[.bool u, .slice ra rn rc] from by
    have h := (RowAt.new ((w.alloc (.cells #[.int .i64 x0, .int .i64 x1, .int .i64 x2, .int .i64 x3, .int .i64 x4, .int .i64 x5, .int .i64 x6, .int .i64 x7, .int .i64 x8, .slice a n c] 26)).alloc (.cells #[.slice ta tn tc, .int .i64 vol, .slice pa pn pc] 33)) 47 #[.bool u, .slice ra rn rc]).ext ((Ext.refl _).alloc (.cells #[.int .i64 0, .int .i64 0, .int .i64 0, .int .i64 0, .int .i64 0, .int .i64 0, .int .i64 0, .int .i64 0, .int .i64 0, .slice none 0 0] 26))
    simp only [World.size_alloc] at h
    exact h)
  have RES0I := Lib.hid (show RowAt ((((w.alloc (.cells #[.int .i64 x0, .int .i64 x1, .int .i64 x2, .int .i64 x3, .int .i64 x4, .int .i64 x5, .int .i64 x6, .int .i64 x7, .int .i64 x8, .slice a n c] 26)).alloc (.cells #[.slice ta tn tc, .int .i64 vol, .slice pa pn pc] 33)).alloc (.cells #[.bool u, .slice ra rn rc] 47)).alloc (.cells #[.int .i64 0, .int .i64 0, .int .i64 0, .int .i64 0, .int .i64 0, .int .i64 0, .int .i64 0, .int .i64 0, .int .i64 0, .slice none 0 0] 26)) (w.heap.size + 1 + 1 + 1) 26 #[.int .i64 0, .int .i64 0, .int .i64 0, .int .i64 0, .int .i64 0, .int .i64 0, .int .i64 0, .int .i64 0, .int .i64 0, .slice none 0 0] from by
    have h := (RowAt.new (((w.alloc (.cells #[.int .i64 x0, .int .i64 x1, .int .i64 x2, .int .i64 x3, .int .i64 x4, .int .i64 x5, .int .i64 x6, .int .i64 x7, .int .i64 x8, .slice a n c] 26)).alloc (.cells #[.slice ta tn tc, .int .i64 vol, .slice pa pn pc] 33)).alloc (.cells #[.bool u, .slice ra rn rc] 47)) 26 #[.int .i64 0, .int .i64 0, .int .i64 0, .int .i64 0, .int .i64 0, .int .i64 0, .int .i64 0, .int .i64 0, .int .i64 0, .slice none 0 0]).ext (Ext.refl _)
    simp only [World.size_alloc] at h
    exact h)
  have HE0 := Lib.hid (show Ext w ((((w.alloc (.cells #[.int .i64 x0, .int .i64 x1, .int .i64 x2, .int .i64 x3, .int .i64 x4, .int .i64 x5, .int .i64 x6, .int .i64 x7, .int .i64 x8, .slice a n c] 26)).alloc (.cells #[.slice ta tn tc, .int .i64 vol, .slice pa pn pc] 33)).alloc (.cells #[.bool u, .slice ra rn rc] 47)).alloc (.cells #[.int .i64 0, .int .i64 0, .int .i64 0, .int .i64 0, .int .i64 0, .int .i64 0, .int .i64 0, .int .i64 0, .int .i64 0, .slice none 0 0] 26)) from (((((Ext.refl w).alloc _).alloc _).alloc _).alloc _))
  cases k1
  · have hgg : (ts, false) = (ts1, ok) := by simpa using hres
    obtain ⟨rfl, rfl⟩ := Prod.mk.inj hgg
    obtain rfl : n = n1 := by rw [hn1, hnn]
    clear hres hgg hnn hn1 hk1
    have hnr : True := trivial
    go_enter Try.func17, Try.ntmps17
    have B0_0 := B0I
    have B1_0 := B1I
    have B2_0 := B2I
    have RES0_0 := RES0I
    have HW0 := HE0
    go_wp2_with fail
    with_reducible refine (copyLock_any _ _ _ _ _ _ _ _ _ _ _ _ ts _ HN.out HS.out HTS.out (HF.out.ext HE0.out)).mono ?_
    rintro e w1 ⟨a1, c1, es, rfl, hg1, hb⟩
    have CP := Lib.hid hg1.capE; have hown := Lib.hid (hg1.ownAt); clear hg1
    have HW1 := Lib.hid (HW0.out.trans hb)
    have B0_1 := Lib.hid (B0_0.out.ext hb)
    have B1_1 := Lib.hid (B1_0.out.ext hb)
    have B2_1 := Lib.hid (B2_0.out.ext hb)
    have RES0_1 := Lib.hid (RES0_0.out.ext hb)
    have zz1 := hb.size
    simp only [World.size_alloc] at zz1
    clear HW0 B0_0 B1_0 B2_0 RES0_0 hb
    have OT_1 := hown; clear hown
    obtain ⟨bO, hbO⟩ : ∃ x, x = w1.heap.size := ⟨_, rfl⟩
    obtain ⟨w2, hw2⟩ : ∃ x, x = w1.alloc (.cells #[.int .i64 x0, .int .i64 x1, .int .i64 x2, .int .i64 x3, .int .i64 x4, .int .i64 x5, .int .i64 x6, .int .i64 x7, .int .i64 x8, .slice a1 n c1] 26) := ⟨_, rfl⟩
    have hal := (Ext.refl w1).alloc (.cells #[.int .i64 x0, .int .i64 x1, .int .i64 x2, .int .i64 x3, .int .i64 x4, .int .i64 x5, .int .i64 x6, .int .i64 x7, .int .i64 x8, .slice a1 n c1] 26)
    have Oq := Lib.hid (RowAt.new w1 26 #[.int .i64 x0, .int .i64 x1, .int .i64 x2, .int .i64 x3, .int .i64 x4, .int .i64 x5, .int .i64 x6, .int .i64 x7, .int .i64 x8, .slice a1 n c1])
    rw [← hw2] at hal Oq
    rw [← hbO] at Oq
    have lO := Oq.out.lt
    have mO : w1.heap.size ≤ bO := Nat.le_of_eq hbO.symm
    have nO : bO ≤ w1.heap.size := Nat.le_of_eq hbO
    have e0 : (w1.alloc (.cells #[.int .i64 x0, .int .i64 x1, .int .i64 x2, .int .i64 x3, .int .i64 x4, .int .i64 x5, .int .i64 x6, .int .i64 x7, .int .i64 x8, .slice a1 n c1] 26)).cell? ⟨w.heap.size, 0, none⟩ = some (.int .i64 x0) := (B0_1.out.ext ((Ext.refl _).alloc _)).cell rfl
    have e1 : (w1.alloc (.cells #[.int .i64 x0, .int .i64 x1, .int .i64 x2, .int .i64 x3, .int .i64 x4, .int .i64 x5, .int .i64 x6, .int .i64 x7, .int .i64 x8, .slice a1 n c1] 26)).cell? ⟨w.heap.size, 1, none⟩ = some (.int .i64 x1) := (B0_1.out.ext ((Ext.refl _).alloc _)).cell rfl
    have e2 : (w1.alloc (.cells #[.int .i64 x0, .int .i64 x1, .int .i64 x2, .int .i64 x3, .int .i64 x4, .int .i64 x5, .int .i64 x6, .int .i64 x7, .int .i64 x8, .slice a1 n c1] 26)).cell? ⟨w.heap.size, 2, none⟩ = some (.int .i64 x2) := (B0_1.out.ext ((Ext.refl _).alloc _)).cell rfl
    have e3 : (w1.alloc (.cells #[.int .i64 x0, .int .i64 x1, .int .i64 x2, .int .i64 x3, .int .i64 x4, .int .i64 x5, .int .i64 x6, .int .i64 x7, .int .i64 x8, .slice a1 n c1] 26)).cell? ⟨w.heap.size, 3, none⟩ = some (.int .i64 x3) := (B0_1.out.ext ((Ext.refl _).alloc _)).cell rfl
    have e4 : (w1.alloc (.cells #[.int .i64 x0, .int .i64 x1, .int .i64 x2, .int .i64 x3, .int .i64 x4, .int .i64 x5, .int .i64 x6, .int .i64 x7, .int .i64 x8, .slice a1 n c1] 26)).cell? ⟨w.heap.size, 4, none⟩ = some (.int .i64 x4) := (B0_1.out.ext ((Ext.refl _).alloc _)).cell rfl
    have e5 : (w1.alloc (.cells #[.int .i64 x0, .int .i64 x1, .int .i64 x2, .int .i64 x3, .int .i64 x4, .int .i64 x5, .int .i64 x6, .int .i64 x7, .int .i64 x8, .slice a1 n c1] 26)).cell? ⟨w.heap.size, 5, none⟩ = some (.int .i64 x5) := (B0_1.out.ext ((Ext.refl _).alloc _)).cell rfl
    have e6 : (w1.alloc (.cells #[.int .i64 x0, .int .i64 x1, .int .i64 x2, .int .i64 x3, .int .i64 x4, .int .i64 x5, .int .i64 x6, .int .i64 x7, .int .i64 x8, .slice a1 n c1] 26)).cell? ⟨w.heap.size, 6, none⟩ = some (.int .i64 x6) := (B0_1.out.ext ((Ext.refl _).alloc _)).cell rfl
    have e7 : (w1.alloc (.cells #[.int .i64 x0, .int .i64 x1, .int .i64 x2, .int .i64 x3, .int .i64 x4, .int .i64 x5, .int .i64 x6, .int .i64 x7, .int .i64 x8, .slice a1 n c1] 26)).cell? ⟨w.heap.size, 7, none⟩ = some (.int .i64 x7) := (B0_1.out.ext ((Ext.refl _).alloc _)).cell rfl
    have e8 : (w1.alloc (.cells #[.int .i64 x0, .int .i64 x1, .int .i64 x2, .int .i64 x3, .int .i64 x4, .int .i64 x5, .int .i64 x6, .int .i64 x7, .int .i64 x8, .slice a1 n c1] 26)).cell? ⟨w.heap.size, 8, none⟩ = some (.int .i64 x8) := (B0_1.out.ext ((Ext.refl _).alloc _)).cell rfl
    have e9 : (w1.alloc (.cells #[.int .i64 x0, .int .i64 x1, .int .i64 x2, .int .i64 x3, .int .i64 x4, .int .i64 x5, .int .i64 x6, .int .i64 x7, .int .i64 x8, .slice a1 n c1] 26)).cell? ⟨w.heap.size, 9, none⟩ = some (.slice a n c) := (B0_1.out.ext ((Ext.refl _).alloc _)).cell rfl
    have e10 : (w1.alloc (.cells #[.int .i64 x0, .int .i64 x1, .int .i64 x2, .int .i64 x3, .int .i64 x4, .int .i64 x5, .int .i64 x6, .int .i64 x7, .int .i64 x8, .slice a1 n c1] 26)).cell? ⟨w.heap.size + 1, 0, none⟩ = some (.slice ta tn tc) := (B1_1.out.ext ((Ext.refl _).alloc _)).cell rfl
    have e11 : (w1.alloc (.cells #[.int .i64 x0, .int .i64 x1, .int .i64 x2, .int .i64 x3, .int .i64 x4, .int .i64 x5, .int .i64 x6, .int .i64 x7, .int .i64 x8, .slice a1 n c1] 26)).cell? ⟨w.heap.size + 1, 1, none⟩ = some (.int .i64 vol) := (B1_1.out.ext ((Ext.refl _).alloc _)).cell rfl
    have e12 : (w1.alloc (.cells #[.int .i64 x0, .int .i64 x1, .int .i64 x2, .int .i64 x3, .int .i64 x4, .int .i64 x5, .int .i64 x6, .int .i64 x7, .int .i64 x8, .slice a1 n c1] 26)).cell? ⟨w.heap.size + 1, 2, none⟩ = some (.slice pa pn pc) := (B1_1.out.ext ((Ext.refl _).alloc _)).cell rfl
    have e13 : (w1.alloc (.cells #[.int .i64 x0, .int .i64 x1, .int .i64 x2, .int .i64 x3, .int .i64 x4, .int .i64 x5, .int .i64 x6, .int .i64 x7, .int .i64 x8, .slice a1 n c1] 26)).cell? ⟨w.heap.size + 1 + 1, 0, none⟩ = some (.bool u) := (B2_1.out.ext ((Ext.refl _).alloc _)).cell rfl
    have e14 : (w1.alloc (.cells #[.int .i64 x0, .int .i64 x1, .int .i64 x2, .int .i64 x3, .int .i64 x4, .int .i64 x5, .int .i64 x6, .int .i64 x7, .int .i64 x8, .slice a1 n c1] 26)).cell? ⟨w.heap.size + 1 + 1, 1, none⟩ = some (.slice ra rn rc) := (B2_1.out.ext ((Ext.refl _).alloc _)).cell rfl
    go_wp2_with fail
    clear e0 e1 e2 e3 e4 e5 e6 e7 e8 e9 e10 e11 e12 e13 e14
    (try rw [← hw2])
    (try rw [← hbO])
    clear hw2 hbO
    have HW2 := Lib.hid (HW1.out.trans hal)
    have B0_2 := Lib.hid (B0_1.out.ext hal)
    have B1_2 := Lib.hid (B1_1.out.ext hal)
    have B2_2 := Lib.hid (B2_1.out.ext hal)
    have RES0_2 := Lib.hid (RES0_1.out.ext hal)
    have OT_2 := Lib.hid (OT_1.out.ext hal)
    have zz2 := hal.size
    clear HW1 B0_1 B1_1 B2_1 RES0_1 OT_1 hal
    have O_2 := Oq; clear Oq
    with_reducible refine (implMayEnter_any false _ _ _ _ _ _ _ _ _ _ _ _ ts _ _ _ _ _ _ _ ps xs _ _ _ _ rows _ HN.out HS.out HTS.out (HF.out.ext HW2.out) HT.out HTL.out HP.out HPL.out (HFT.out.ext HW2.out) (HFP.out.ext HW2.out) hvol HRN.out HRS.out HRT.out (HFR.out.ext HW2.out) HK1.out).mono ?_
    rintro e w3 ⟨rfl, hb⟩
    have HW3 := Lib.hid (HW2.out.trans hb)
    have B0_3 := Lib.hid (B0_2.out.ext hb)
    have B1_3 := Lib.hid (B1_2.out.ext hb)
    have B2_3 := Lib.hid (B2_2.out.ext hb)
    have RES0_3 := Lib.hid (RES0_2.out.ext hb)
    have O_3 := Lib.hid (O_2.out.ext hb)
    have OT_3 := Lib.hid (OT_2.out.ext hb)
    have zz3 := hb.size
    clear HW2 B0_2 B1_2 B2_2 RES0_2 O_2 OT_2 hb
    have q0 : w3.cell? ⟨bO, 0, none⟩ = some (.int .i64 x0) := O_3.out.cell rfl
    have q1 : w3.cell? ⟨bO, 1, none⟩ = some (.int .i64 x1) := O_3.out.cell rfl
    have q2 : w3.cell? ⟨bO, 2, none⟩ = some (.int .i64 x2) := O_3.out.cell rfl
    have q3 : w3.cell? ⟨bO, 3, none⟩ = some (.int .i64 x3) := O_3.out.cell rfl
    have q4 : w3.cell? ⟨bO, 4, none⟩ = some (.int .i64 x4) := O_3.out.cell rfl
    have q5 : w3.cell? ⟨bO, 5, none⟩ = some (.int .i64 x5) := O_3.out.cell rfl
    have q6 : w3.cell? ⟨bO, 6, none⟩ = some (.int .i64 x6) := O_3.out.cell rfl
    have q7 : w3.cell? ⟨bO, 7, none⟩ = some (.int .i64 x7) := O_3.out.cell rfl
    have q8 : w3.cell? ⟨bO, 8, none⟩ = some (.int .i64 x8) := O_3.out.cell rfl
    have q9 : w3.cell? ⟨bO, 9, none⟩ = some (.slice a1 n c1) := O_3.out.cell rfl
    have r0 : w3.cell? ⟨w.heap.size + 1 + 1 + 1, 0, none⟩ = some (.int .i64 0) := RES0_3.out.cell rfl
    have g0 := RES0_3.out.frozen 0
    have r1 : w3.cell? ⟨w.heap.size + 1 + 1 + 1, 1, none⟩ = some (.int .i64 0) := RES0_3.out.cell rfl
    have g1 := RES0_3.out.frozen 1
    have r2 : w3.cell? ⟨w.heap.size + 1 + 1 + 1, 2, none⟩ = some (.int .i64 0) := RES0_3.out.cell rfl
    have g2 := RES0_3.out.frozen 2
    have r3 : w3.cell? ⟨w.heap.size + 1 + 1 + 1, 3, none⟩ = some (.int .i64 0) := RES0_3.out.cell rfl
    have g3 := RES0_3.out.frozen 3
    have r4 : w3.cell? ⟨w.heap.size + 1 + 1 + 1, 4, none⟩ = some (.int .i64 0) := RES0_3.out.cell rfl
    have g4 := RES0_3.out.frozen 4
    have r5 : w3.cell? ⟨w.heap.size + 1 + 1 + 1, 5, none⟩ = some (.int .i64 0) := RES0_3.out.cell rfl
    have g5 := RES0_3.out.frozen 5
    have r6 : w3.cell? ⟨w.heap.size + 1 + 1 + 1, 6, none⟩ = some (.int .i64 0) := RES0_3.out.cell rfl
    have g6 := RES0_3.out.frozen 6
    have r7 : w3.cell? ⟨w.heap.size + 1 + 1 + 1, 7, none⟩ = some (.int .i64 0) := RES0_3.out.cell rfl
    have g7 := RES0_3.out.frozen 7
    have r8 : w3.cell? ⟨w.heap.size + 1 + 1 + 1, 8, none⟩ = some (.int .i64 0) := RES0_3.out.cell rfl
    have g8 := RES0_3.out.frozen 8
    have r9 : w3.cell? ⟨w.heap.size + 1 + 1 + 1, 9, none⟩ = some (.slice none 0 0) := RES0_3.out.cell rfl
    have g9 := RES0_3.out.frozen 9
    go_wp2
    refine bodyPost_ret (v := .tuple #[.agg #[.int .i64 x0, .int .i64 x1, .int .i64 x2, .int .i64 x3, .int .i64 x4, .int .i64 x5, .int .i64 x6, .int .i64 x7, .int .i64 x8, .slice a1 n c1], .bool false]) (by simp [results, Try.results17, go_sem, *]) rfl ⟨a1, c1, rfl, CP.out, ?_, ?_⟩
    · exact OT_3.out.keep (by (try simp only [World.size_alloc]); omega) (by simp only [size_setCell']; omega) (fun B t c h1 h2 hr => by
        (try simp only [World.size_alloc] at h1)
        (repeat' (first | (with_reducible assumption) | (with_reducible refine RowAt.other ?_ ?_ _))) <;> dsimp only <;> omega)
    · exact ((((((((((HW3.out.setCell (p := ⟨w.heap.size + 1 + 1 + 1, 0, none⟩) (by dsimp only; omega) _).setCell (p := ⟨w.heap.size + 1 + 1 + 1, 1, none⟩) (by dsimp only; omega) _).setCell (p := ⟨w.heap.size + 1 + 1 + 1, 2, none⟩) (by dsimp only; omega) _).setCell (p := ⟨w.heap.size + 1 + 1 + 1, 3, none⟩) (by dsimp only; omega) _).setCell (p := ⟨w.heap.size + 1 + 1 + 1, 4, none⟩) (by dsimp only; omega) _).setCell (p := ⟨w.heap.size + 1 + 1 + 1, 5, none⟩) (by dsimp only; omega) _).setCell (p := ⟨w.heap.size + 1 + 1 + 1, 6, none⟩) (by dsimp only; omega) _).setCell (p := ⟨w.heap.size + 1 + 1 + 1, 7, none⟩) (by dsimp only; omega) _).setCell (p := ⟨w.heap.size + 1 + 1 + 1, 8, none⟩) (by dsimp only; omega) _).setCell (p := ⟨w.heap.size + 1 + 1 + 1, 9, none⟩) (by dsimp only; omega) _)
  have hn8 : n ≤ 8 := by rw [hnn]; exact mayEnter_lock hk1
  clear hnn hk1
  cases k2
  · have hgg : (ts, false) = (ts1, ok) := by simpa using hres
    obtain ⟨rfl, rfl⟩ := Prod.mk.inj hgg
    obtain rfl : n = n1 := by rw [hn1, HN.out]
    clear hres hgg hn1
    go_enter Try.func17, Try.ntmps17
    have B0_0 := B0I
    have B1_0 := B1I
    have B2_0 := B2I
    have RES0_0 := RES0I
    have HW0 := HE0
    go_wp2_with fail
    with_reducible refine (copyLock_any _ _ _ _ _ _ _ _ _ _ _ _ ts _ HN.out HS.out HTS.out (HF.out.ext HE0.out)).mono ?_
    rintro e w1 ⟨a1, c1, es, rfl, hg1, hb⟩
    have CP := Lib.hid hg1.capE; have hown := Lib.hid (hg1.ownAt); clear hg1
    have HW1 := Lib.hid (HW0.out.trans hb)
    have B0_1 := Lib.hid (B0_0.out.ext hb)
    have B1_1 := Lib.hid (B1_0.out.ext hb)
    have B2_1 := Lib.hid (B2_0.out.ext hb)
    have RES0_1 := Lib.hid (RES0_0.out.ext hb)
    have zz1 := hb.size
    simp only [World.size_alloc] at zz1
    clear HW0 B0_0 B1_0 B2_0 RES0_0 hb
    have OT_1 := hown; clear hown
    obtain ⟨bO, hbO⟩ : ∃ x, x = w1.heap.size := ⟨_, rfl⟩
    obtain ⟨w2, hw2⟩ : ∃ x, x = w1.alloc (.cells #[.int .i64 x0, .int .i64 x1, .int .i64 x2, .int .i64 x3, .int .i64 x4, .int .i64 x5, .int .i64 x6, .int .i64 x7, .int .i64 x8, .slice a1 n c1] 26) := ⟨_, rfl⟩
    have hal := (Ext.refl w1).alloc (.cells #[.int .i64 x0, .int .i64 x1, .int .i64 x2, .int .i64 x3, .int .i64 x4, .int .i64 x5, .int .i64 x6, .int .i64 x7, .int .i64 x8, .slice a1 n c1] 26)
    have Oq := Lib.hid (RowAt.new w1 26 #[.int .i64 x0, .int .i64 x1, .int .i64 x2, .int .i64 x3, .int .i64 x4, .int .i64 x5, .int .i64 x6, .int .i64 x7, .int .i64 x8, .slice a1 n c1])
    rw [← hw2] at hal Oq
    rw [← hbO] at Oq
    have lO := Oq.out.lt
    have mO : w1.heap.size ≤ bO := Nat.le_of_eq hbO.symm
    have nO : bO ≤ w1.heap.size := Nat.le_of_eq hbO
    have e0 : (w1.alloc (.cells #[.int .i64 x0, .int .i64 x1, .int .i64 x2, .int .i64 x3, .int .i64 x4, .int .i64 x5, .int .i64 x6, .int .i64 x7, .int .i64 x8, .slice a1 n c1] 26)).cell? ⟨w.heap.size, 0, none⟩ = some (.int .i64 x0) := (B0_1.out.ext ((Ext.refl _).alloc _)).cell rfl
    have e1 : (w1.alloc (.cells #[.int .i64 x0, .int .i64 x1, .int .i64 x2, .int .i64 x3, .int .i64 x4, .int .i64 x5, .int .i64 x6, .int .i64 x7, .int .i64 x8, .slice a1 n c1] 26)).cell? ⟨w.heap.size, 1, none⟩ = some (.int .i64 x1) := (B0_1.out.ext ((Ext.refl _).alloc _)).cell rfl
    have e2 : (w1.alloc (.cells #[.int .i64 x0, .int .i64 x1, .int .i64 x2, .int .i64 x3, .int .i64 x4, .int .i64 x5, .int .i64 x6, .int .i64 x7, .int .i64 x8, .slice a1 n c1] 26)).cell? ⟨w.heap.size, 2, none⟩ = some (.int .i64 x2) := (B0_1.out.ext ((Ext.refl _).alloc _)).cell rfl
    have e3 : (w1.alloc (.cells #[.int .i64 x0, .int .i64 x1, .int .i64 x2, .int .i64 x3, .int .i64 x4, .int .i64 x5, .int .i64 x6, .int .i64 x7, .int .i64 x8, .slice a1 n c1] 26)).cell? ⟨w.heap.size, 3, none⟩ = some (.int .i64 x3) := (B0_1.out.ext ((Ext.refl _).alloc _)).cell rfl
    have e4 : (w1.alloc (.cells #[.int .i64 x0, .int .i64 x1, .int .i64 x2, .int .i64 x3, .int .i64 x4, .int .i64 x5, .int .i64 x6, .int .i64 x7, .int .i64 x8, .slice a1 n c1] 26)).cell? ⟨w.heap.size, 4, none⟩ = some (.int .i64 x4) := (B0_1.out.ext ((Ext.refl _).alloc _)).cell rfl
    have e5 : (w1.alloc (.cells #[.int .i64 x0, .int .i64 x1, .int .i64 x2, .int .i64 x3, .int .i64 x4, .int .i64 x5, .int .i64 x6, .int .i64 x7, .int .i64 x8, .slice a1 n c1] 26)).cell? ⟨w.heap.size, 5, none⟩ = some (.int .i64 x5) := (B0_1.out.ext ((Ext.refl _).alloc _)).cell rfl
    have e6 : (w1.alloc (.cells #[.int .i64 x0, .int .i64 x1, .int .i64 x2, .int .i64 x3, .int .i64 x4, .int .i64 x5, .int .i64 x6, .int .i64 x7, .int .i64 x8, .slice a1 n c1] 26)).cell? ⟨w.heap.size, 6, none⟩ = some (.int .i64 x6) := (B0_1.out.ext ((Ext.refl _).alloc _)).cell rfl
    have e7 : (w1.alloc (.cells #[.int .i64 x0, .int .i64 x1, .int .i64 x2, .int .i64 x3, .int .i64 x4, .int .i64 x5, .int .i64 x6, .int .i64 x7, .int .i64 x8, .slice a1 n c1] 26)).cell? ⟨w.heap.size, 7, none⟩ = some (.int .i64 x7) := (B0_1.out.ext ((Ext.refl _).alloc _)).cell rfl
    have e8 : (w1.alloc (.cells #[.int .i64 x0, .int .i64 x1, .int .i64 x2, .int .i64 x3, .int .i64 x4, .int .i64 x5, .int .i64 x6, .int .i64 x7, .int .i64 x8, .slice a1 n c1] 26)).cell? ⟨w.heap.size, 8, none⟩ = some (.int .i64 x8) := (B0_1.out.ext ((Ext.refl _).alloc _)).cell rfl
    have e9 : (w1.alloc (.cells #[.int .i64 x0, .int .i64 x1, .int .i64 x2, .int .i64 x3, .int .i64 x4, .int .i64 x5, .int .i64 x6, .int .i64 x7, .int .i64 x8, .slice a1 n c1] 26)).cell? ⟨w.heap.size, 9, none⟩ = some (.slice a n c) := (B0_1.out.ext ((Ext.refl _).alloc _)).cell rfl
    have e10 : (w1.alloc (.cells #[.int .i64 x0, .int .i64 x1, .int .i64 x2, .int .i64 x3, .int .i64 x4, .int .i64 x5, .int .i64 x6, .int .i64 x7, .int .i64 x8, .slice a1 n c1] 26)).cell? ⟨w.heap.size + 1, 0, none⟩ = some (.slice ta tn tc) := (B1_1.out.ext ((Ext.refl _).alloc _)).cell rfl
    have e11 : (w1.alloc (.cells #[.int .i64 x0, .int .i64 x1, .int .i64 x2, .int .i64 x3, .int .i64 x4, .int .i64 x5, .int .i64 x6, .int .i64 x7, .int .i64 x8, .slice a1 n c1] 26)).cell? ⟨w.heap.size + 1, 1, none⟩ = some (.int .i64 vol) := (B1_1.out.ext ((Ext.refl _).alloc _)).cell rfl
    have e12 : (w1.alloc (.cells #[.int .i64 x0, .int .i64 x1, .int .i64 x2, .int .i64 x3, .int .i64 x4, .int .i64 x5, .int .i64 x6, .int .i64 x7, .int .i64 x8, .slice a1 n c1] 26)).cell? ⟨w.heap.size + 1, 2, none⟩ = some (.slice pa pn pc) := (B1_1.out.ext ((Ext.refl _).alloc _)).cell rfl
    have e13 : (w1.alloc (.cells #[.int .i64 x0, .int .i64 x1, .int .i64 x2, .int .i64 x3, .int .i64 x4, .int .i64 x5, .int .i64 x6, .int .i64 x7, .int .i64 x8, .slice a1 n c1] 26)).cell? ⟨w.heap.size + 1 + 1, 0, none⟩ = some (.bool u) := (B2_1.out.ext ((Ext.refl _).alloc _)).cell rfl
    have e14 : (w1.alloc (.cells #[.int .i64 x0, .int .i64 x1, .int .i64 x2, .int .i64 x3, .int .i64 x4, .int .i64 x5, .int .i64 x6, .int .i64 x7, .int .i64 x8, .slice a1 n c1] 26)).cell? ⟨w.heap.size + 1 + 1, 1, none⟩ = some (.slice ra rn rc) := (B2_1.out.ext ((Ext.refl _).alloc _)).cell rfl
    go_wp2_with fail
    clear e0 e1 e2 e3 e4 e5 e6 e7 e8 e9 e10 e11 e12 e13 e14
    (try rw [← hw2])
    (try rw [← hbO])
    clear hw2 hbO
    have HW2 := Lib.hid (HW1.out.trans hal)
    have B0_2 := Lib.hid (B0_1.out.ext hal)
    have B1_2 := Lib.hid (B1_1.out.ext hal)
    have B2_2 := Lib.hid (B2_1.out.ext hal)
    have RES0_2 := Lib.hid (RES0_1.out.ext hal)
    have OT_2 := Lib.hid (OT_1.out.ext hal)
    have zz2 := hal.size
    clear HW1 B0_1 B1_1 B2_1 RES0_1 OT_1 hal
    have O_2 := Oq; clear Oq
    with_reducible refine (implMayEnter_any true _ _ _ _ _ _ _ _ _ _ _ _ ts _ _ _ _ _ _ _ ps xs _ _ _ _ rows _ HN.out HS.out HTS.out (HF.out.ext HW2.out) HT.out HTL.out HP.out HPL.out (HFT.out.ext HW2.out) (HFP.out.ext HW2.out) hvol HRN.out HRS.out HRT.out (HFR.out.ext HW2.out) HK1.out).mono ?_
    rintro e w3 ⟨rfl, hb⟩
    have HW3 := Lib.hid (HW2.out.trans hb)
    have B0_3 := Lib.hid (B0_2.out.ext hb)
    have B1_3 := Lib.hid (B1_2.out.ext hb)
    have B2_3 := Lib.hid (B2_2.out.ext hb)
    have RES0_3 := Lib.hid (RES0_2.out.ext hb)
    have O_3 := Lib.hid (O_2.out.ext hb)
    have OT_3 := Lib.hid (OT_2.out.ext hb)
    have zz3 := hb.size
    clear HW2 B0_2 B1_2 B2_2 RES0_2 O_2 OT_2 hb
    go_wp2_with fail
    have HSK := Lib.hid (fun (w' : World) (h : Ext w3 w') => (⟨(B0_3.out.ext h).cell rfl, (B2_3.out.ext h).cell rfl, (B2_3.out.ext h).cell rfl⟩ : w'.cell? ⟨w.heap.size, 9, none⟩ = some (.slice a n c) ∧ w'.cell? ⟨w.heap.size + 1 + 1, 0, none⟩ = some (.bool u) ∧ w'.cell? ⟨w.heap.size + 1 + 1, 1, none⟩ = some (.slice ra rn rc)))
    refine wp_region_held_drew (S := (fun w' => w'.cell? ⟨w.heap.size, 9, none⟩ = some (.slice a n c) ∧ w'.cell? ⟨w.heap.size + 1 + 1, 0, none⟩ = some (.bool u) ∧ w'.cell? ⟨w.heap.size + 1 + 1, 1, none⟩ = some (.slice ra rn rc))) (by kernel_rfl) ?_ (fun hH0 => ?_)
    · (try dsimp only)
      (exact HSK.out _ (by (repeat' (first | (with_reducible assumption) | (with_reducible exact Ext.refl _) | (with_reducible refine Ext.alloc ?_ _) | (with_reducible refine Ext.drew ?_) | (with_reducible refine Ext.setCell ?_ ?_ _) | (simp; done) | (simp; omega)))))
    refine take_l 0 (v := ?_) rfl (by kernel_rfl) (by kernel_rfl) (by kernel_rfl) (fun _ _ _ h => h) (by rfl) ?_ (by assumption) ?_
    rotate_left
    · (intro w hSw; (try dsimp only at hSw); go_simp; (try with_reducible rfl))
    (try simp only [Act.put, List.setIfInBounds_toArray, List.set_cons_zero, List.set_cons_succ])
    refine take_l 1 (v := ?_) rfl (by kernel_rfl) (by kernel_rfl) (by kernel_rfl) (fun _ _ _ h => h) (by rfl) ?_ (by assumption) ?_
    rotate_left
    · (intro w hSw; (try dsimp only at hSw); go_simp; (try with_reducible rfl))
    (try simp only [Act.put, List.setIfInBounds_toArray, List.set_cons_zero, List.set_cons_succ])
    refine take_l 3 (v := ?_) rfl (by kernel_rfl) (by kernel_rfl) (by kernel_rfl) (fun _ _ _ h => h) (by rfl) ?_ (by assumption) ?_
    rotate_left
    · (intro w hSw; (try dsimp only at hSw); go_simp; (try with_reducible rfl))
    (try simp only [Act.put, List.setIfInBounds_toArray, List.set_cons_zero, List.set_cons_succ])
    refine wpAnyH_ready (rs := [2]) (by kernel_rfl) (by simp) ?_
    refine cons_l (i := 2) rfl (fun K hK => ?_) ?_
    go_simp; (go_at_call 39; with_reducible refine (copyTrains_any _ _ _ ts _ HN.out HS.out HTS.out (HF.out.ext (HW3.out.trans (by (repeat' (first | (with_reducible assumption) | (with_reducible exact Ext.refl _) | (with_reducible refine Ext.alloc ?_ _) | (with_reducible refine Ext.drew ?_) | (with_reducible refine Ext.setCell ?_ ?_ _) | (simp; done) | (simp; omega))))))).mono ?_); rintro e y1 ⟨aC, cC, esC, rfl, hgC, hbC⟩; have xy1 : Ext w3 y1 := Ext.trans (by (repeat' (first | (with_reducible assumption) | (with_reducible exact Ext.refl _) | (with_reducible refine Ext.alloc ?_ _) | (with_reducible refine Ext.drew ?_) | (with_reducible refine Ext.setCell ?_ ?_ _) | (simp; done) | (simp; omega)))) hbC; have zy1 := hbC.size; (try simp only [World.size_drew] at zy1 hgC)
    refine hK.out _ _ ?_ (fun hH1 => ?_)
    · (try dsimp only)
      (exact HSK.out _ (by (repeat' (first | (with_reducible assumption) | (with_reducible exact Ext.refl _) | (with_reducible refine Ext.alloc ?_ _) | (with_reducible refine Ext.drew ?_) | (with_reducible refine Ext.setCell ?_ ?_ _) | (simp; done) | (simp; omega)))))
    clear hK K hH0
    (try simp only [Act.put, List.setIfInBounds_toArray, List.set_cons_zero, List.set_cons_succ])
    refine wpAnyH_ready (rs := [4]) (by kernel_rfl) (by simp) ?_
    refine cons_l (i := 4) rfl (fun K hK => ?_) ?_
    go_simp; (go_at_call 40; with_reducible refine (copyTrain_any _ _ _ _ rows _ HRN.out HRS.out HRR.out (HFR.out.ext (HW3.out.trans (by (repeat' (first | (with_reducible assumption) | (with_reducible exact Ext.refl _) | (with_reducible refine Ext.alloc ?_ _) | (with_reducible refine Ext.drew ?_) | (with_reducible refine Ext.setCell ?_ ?_ _) | (simp; done) | (simp; omega))))))).mono ?_); rintro e y2 ⟨aT, cT, rfl, hoT, hbT⟩; have xy2 : Ext w3 y2 := Ext.trans (by (repeat' (first | (with_reducible assumption) | (with_reducible exact Ext.refl _) | (with_reducible refine Ext.alloc ?_ _) | (with_reducible refine Ext.drew ?_) | (with_reducible refine Ext.setCell ?_ ?_ _) | (simp; done) | (simp; omega)))) hbT; have zy2 := hbT.size; have HX2 := Lib.hid ((Ext.refl y2).alloc (.cells #[.bool u, .slice aT rn cT] 47)); have HGC := Lib.hid ((hgC.ext hbT).ext HX2.out); have HOT := Lib.hid (one_trainC y2 u (.slice aT rn cT)); have HOW := Lib.hid HGC.out.2.1; rw [← HN.out] at HOW; have HOR := Lib.hid (hoT.ext HX2.out); clear hgC hoT
    refine hK.out _ _ ?_ (fun hH2 => ?_)
    · (try dsimp only)
      (exact HSK.out _ (by (repeat' (first | (with_reducible assumption) | (with_reducible exact Ext.refl _) | (with_reducible refine Ext.alloc ?_ _) | (with_reducible refine Ext.drew ?_) | (with_reducible refine Ext.setCell ?_ ?_ _) | (simp; done) | (simp; omega)))))
    clear hK K hH1
    (try simp only [Act.put, List.setIfInBounds_toArray, List.set_cons_zero, List.set_cons_succ])
    refine wpAnyH_ready (rs := [5]) (by kernel_rfl) (by simp) ?_
    refine cons_l (i := 5) rfl (fun K hK => ?_) ?_
    go_simp
    refine hK.out _ _ ?_ (fun hH3 => ?_)
    · (try dsimp only)
      (exact HSK.out _ (by (repeat' (first | (with_reducible assumption) | (with_reducible exact Ext.refl _) | (with_reducible refine Ext.alloc ?_ _) | (with_reducible refine Ext.drew ?_) | (with_reducible refine Ext.setCell ?_ ?_ _) | (simp; done) | (simp; omega)))))
    clear hK K hH2
    (try simp only [Act.put, List.setIfInBounds_toArray, List.set_cons_zero, List.set_cons_succ])
    refine wpAnyH_ready (rs := [6]) (by kernel_rfl) (by simp) ?_
    refine cons_l (i := 6) rfl (fun K hK => ?_) ?_
    refine step_of_wp _ rfl (wp_append_trains _ _ rfl (w3.heap.size) (.slice aC n cC) n esC rfl HOW.out _ 1 1 rfl [(u, .slice aT rn cT)] rfl (fun h => by cases h) HOT.out (fun e he => by cases List.mem_singleton.1 he; rfl) (by omega) (by simp; omega) ?_); intro v3 y3 hown3 hg3 hat3; have zy3 := hg3.size; simp only [World.size_alloc] at zy3; have YG3 := Lib.hid (GT.push (P := y1.heap.size) (Q := y2.heap.size) (u := u) (rows := rows) (a' := aT) (c := cT) HGC.out (Nat.le_refl _) (by omega) (by simp) HOR.out (by rw [← HRN.out]; have := HRS.out; unfold maxLen; omega) (by rw [← HRN.out, ← HN.out, List.flatMap_append]; simpa using hown3) hg3 (by simpa using hat3) (by simp; omega)); have HV3 := Lib.hid (show ∀ g, Value.ownBlock _ = some g → w3.heap.size ≤ g from fun g hg => (ownsRow_lt HOW.out hg).1); have xy3 : Ext w3 y3 := Ext.own2 (xy2.trans HX2.out) hg3 HOW.out (Nat.le_refl _); obtain ⟨a3, c3, hv3, _, _⟩ := YG3.out.own; rw [← HL1.out] at hv3; subst hv3; clear hown3 hg3 hat3 HOW HOT HGC HOR
    refine hK.out _ _ ?_ (fun hH4 => ?_)
    · (try dsimp only)
      (exact HSK.out _ (by (repeat' (first | (with_reducible assumption) | (with_reducible exact Ext.refl _) | (with_reducible refine Ext.alloc ?_ _) | (with_reducible refine Ext.drew ?_) | (with_reducible refine Ext.setCell ?_ ?_ _) | (simp; done) | (simp; omega)))))
    clear hK K hH3
    (try simp only [Act.put, List.setIfInBounds_toArray, List.set_cons_zero, List.set_cons_succ])
    refine take_l 7 (v := ?_) rfl (by kernel_rfl) (by kernel_rfl) (by kernel_rfl) (fun _ _ _ h => h) (by rfl) ?_ (by assumption) ?_
    rotate_left
    · (intro w hSw; (try dsimp only at hSw); go_simp; (try with_reducible rfl))
    (try simp only [Act.put, List.setIfInBounds_toArray, List.set_cons_zero, List.set_cons_succ])
    refine wpAnyH_done (by kernel_rfl) ?_ _
    rotate_left
    exact AllReadyH.nil
    exact AllReadyH.nil
    exact AllReadyH.nil
    exact AllReadyH.nil
    all_goals
      clear HSK
      have CQ := Lib.hid YG3.out.capE
      have YTq := Lib.hid YG3.out.ownAt
      have HW4 := Lib.hid (HW3.out.trans xy3)
      have B0_4 := Lib.hid (B0_3.out.ext xy3)
      have B1_4 := Lib.hid (B1_3.out.ext xy3)
      have B2_4 := Lib.hid (B2_3.out.ext xy3)
      have RES0_4 := Lib.hid (RES0_3.out.ext xy3)
      have O_4 := Lib.hid (O_3.out.ext xy3)
      have OT_4 := Lib.hid (OT_3.out.ext xy3)
      have zz4 := xy3.size
      clear HW3 B0_3 B1_3 B2_3 RES0_3 O_3 OT_3 xy3
      have YT_4 := YTq; clear YTq
      have HTA := Lib.hid YG3.out.ownAt.trains
      have cB00 : y3.cell? ⟨w.heap.size, 0, none⟩ = some (.int .i64 x0) := B0_4.out.cell rfl
      have cB01 : y3.cell? ⟨w.heap.size, 1, none⟩ = some (.int .i64 x1) := B0_4.out.cell rfl
      have cB02 : y3.cell? ⟨w.heap.size, 2, none⟩ = some (.int .i64 x2) := B0_4.out.cell rfl
      have cB03 : y3.cell? ⟨w.heap.size, 3, none⟩ = some (.int .i64 x3) := B0_4.out.cell rfl
      have cB04 : y3.cell? ⟨w.heap.size, 4, none⟩ = some (.int .i64 x4) := B0_4.out.cell rfl
      have cB05 : y3.cell? ⟨w.heap.size, 5, none⟩ = some (.int .i64 x5) := B0_4.out.cell rfl
      have cB06 : y3.cell? ⟨w.heap.size, 6, none⟩ = some (.int .i64 x6) := B0_4.out.cell rfl
      have cB07 : y3.cell? ⟨w.heap.size, 7, none⟩ = some (.int .i64 x7) := B0_4.out.cell rfl
      have cB08 : y3.cell? ⟨w.heap.size, 8, none⟩ = some (.int .i64 x8) := B0_4.out.cell rfl
      have cB09 : y3.cell? ⟨w.heap.size, 9, none⟩ = some (.slice a n c) := B0_4.out.cell rfl
      go_wp2_with fail
      with_reducible refine (implFits_any false _ _ _ _ _ _ _ _ _ _ _ _ _ _ _ (ts ++ [(u, rows)]) _ HL1.out (by omega) HSM.out HTA.out HK2.out hi0 hi1).mono ?_
      rintro e w4 ⟨rfl, hb⟩
      clear cB00 cB01 cB02 cB03 cB04 cB05 cB06 cB07 cB08 cB09
      have HW5 := Lib.hid (HW4.out.trans hb)
      have B0_5 := Lib.hid (B0_4.out.ext hb)
      have B1_5 := Lib.hid (B1_4.out.ext hb)
      have B2_5 := Lib.hid (B2_4.out.ext hb)
      have RES0_5 := Lib.hid (RES0_4.out.ext hb)
      have O_5 := Lib.hid (O_4.out.ext hb)
      have OT_5 := Lib.hid (OT_4.out.ext hb)
      have YT_5 := Lib.hid (YT_4.out.ext hb)
      have zz5 := hb.size
      clear HW4 B0_4 B1_4 B2_4 RES0_4 O_4 OT_4 YT_4 hb
      have hnr : True := trivial
      have q0 : w4.cell? ⟨bO, 0, none⟩ = some (.int .i64 x0) := O_5.out.cell rfl
      have q1 : w4.cell? ⟨bO, 1, none⟩ = some (.int .i64 x1) := O_5.out.cell rfl
      have q2 : w4.cell? ⟨bO, 2, none⟩ = some (.int .i64 x2) := O_5.out.cell rfl
      have q3 : w4.cell? ⟨bO, 3, none⟩ = some (.int .i64 x3) := O_5.out.cell rfl
      have q4 : w4.cell? ⟨bO, 4, none⟩ = some (.int .i64 x4) := O_5.out.cell rfl
      have q5 : w4.cell? ⟨bO, 5, none⟩ = some (.int .i64 x5) := O_5.out.cell rfl
      have q6 : w4.cell? ⟨bO, 6, none⟩ = some (.int .i64 x6) := O_5.out.cell rfl
      have q7 : w4.cell? ⟨bO, 7, none⟩ = some (.int .i64 x7) := O_5.out.cell rfl
      have q8 : w4.cell? ⟨bO, 8, none⟩ = some (.int .i64 x8) := O_5.out.cell rfl
      have q9 : w4.cell? ⟨bO, 9, none⟩ = some (.slice a1 n c1) := O_5.out.cell rfl
      have r0 : w4.cell? ⟨w.heap.size + 1 + 1 + 1, 0, none⟩ = some (.int .i64 0) := RES0_5.out.cell rfl
      have g0 := RES0_5.out.frozen 0
      have r1 : w4.cell? ⟨w.heap.size + 1 + 1 + 1, 1, none⟩ = some (.int .i64 0) := RES0_5.out.cell rfl
      have g1 := RES0_5.out.frozen 1
      have r2 : w4.cell? ⟨w.heap.size + 1 + 1 + 1, 2, none⟩ = some (.int .i64 0) := RES0_5.out.cell rfl
      have g2 := RES0_5.out.frozen 2
      have r3 : w4.cell? ⟨w.heap.size + 1 + 1 + 1, 3, none⟩ = some (.int .i64 0) := RES0_5.out.cell rfl
      have g3 := RES0_5.out.frozen 3
      have r4 : w4.cell? ⟨w.heap.size + 1 + 1 + 1, 4, none⟩ = some (.int .i64 0) := RES0_5.out.cell rfl
      have g4 := RES0_5.out.frozen 4
      have r5 : w4.cell? ⟨w.heap.size + 1 + 1 + 1, 5, none⟩ = some (.int .i64 0) := RES0_5.out.cell rfl
      have g5 := RES0_5.out.frozen 5
      have r6 : w4.cell? ⟨w.heap.size + 1 + 1 + 1, 6, none⟩ = some (.int .i64 0) := RES0_5.out.cell rfl
      have g6 := RES0_5.out.frozen 6
      have r7 : w4.cell? ⟨w.heap.size + 1 + 1 + 1, 7, none⟩ = some (.int .i64 0) := RES0_5.out.cell rfl
      have g7 := RES0_5.out.frozen 7
      have r8 : w4.cell? ⟨w.heap.size + 1 + 1 + 1, 8, none⟩ = some (.int .i64 0) := RES0_5.out.cell rfl
      have g8 := RES0_5.out.frozen 8
      have r9 : w4.cell? ⟨w.heap.size + 1 + 1 + 1, 9, none⟩ = some (.slice none 0 0) := RES0_5.out.cell rfl
      have g9 := RES0_5.out.frozen 9
      go_wp2
      refine bodyPost_ret (v := .tuple #[.agg #[.int .i64 x0, .int .i64 x1, .int .i64 x2, .int .i64 x3, .int .i64 x4, .int .i64 x5, .int .i64 x6, .int .i64 x7, .int .i64 x8, .slice a1 n c1], .bool false]) (by simp [results, Try.results17, go_sem, *]) rfl ⟨a1, c1, rfl, CP.out, ?_, ?_⟩
      · exact OT_5.out.keep (by (try simp only [World.size_alloc]); omega) (by simp only [size_setCell']; omega) (fun B t c h1 h2 hr => by
          (try simp only [World.size_alloc] at h1)
          (repeat' (first | (with_reducible assumption) | (with_reducible refine RowAt.other ?_ ?_ _))) <;> dsimp only <;> omega)
      · exact ((((((((((HW5.out.setCell (p := ⟨w.heap.size + 1 + 1 + 1, 0, none⟩) (by dsimp only; omega) _).setCell (p := ⟨w.heap.size + 1 + 1 + 1, 1, none⟩) (by dsimp only; omega) _).setCell (p := ⟨w.heap.size + 1 + 1 + 1, 2, none⟩) (by dsimp only; omega) _).setCell (p := ⟨w.heap.size + 1 + 1 + 1, 3, none⟩) (by dsimp only; omega) _).setCell (p := ⟨w.heap.size + 1 + 1 + 1, 4, none⟩) (by dsimp only; omega) _).setCell (p := ⟨w.heap.size + 1 + 1 + 1, 5, none⟩) (by dsimp only; omega) _).setCell (p := ⟨w.heap.size + 1 + 1 + 1, 6, none⟩) (by dsimp only; omega) _).setCell (p := ⟨w.heap.size + 1 + 1 + 1, 7, none⟩) (by dsimp only; omega) _).setCell (p := ⟨w.heap.size + 1 + 1 + 1, 8, none⟩) (by dsimp only; omega) _).setCell (p := ⟨w.heap.size + 1 + 1 + 1, 9, none⟩) (by dsimp only; omega) _)
  · have hgg : (ts ++ [(u, rows)], true) = (ts1, ok) := by simpa using hres
    obtain ⟨rfl, rfl⟩ := Prod.mk.inj hgg
    obtain rfl : n1 = n + 1 := by rw [hn1, ← HL1.out]
    clear hres hgg hn1
    go_enter Try.func17, Try.ntmps17
    have B0_0 := B0I
    have B1_0 := B1I
    have B2_0 := B2I
    have RES0_0 := RES0I
    have HW0 := HE0
    go_wp2_with fail
    with_reducible refine (copyLock_any _ _ _ _ _ _ _ _ _ _ _ _ ts _ HN.out HS.out HTS.out (HF.out.ext HE0.out)).mono ?_
    rintro e w1 ⟨a1, c1, es, rfl, hg1, hb⟩
    have CP := Lib.hid hg1.capE; have hown := Lib.hid (hg1.ownAt); clear hg1
    have HW1 := Lib.hid (HW0.out.trans hb)
    have B0_1 := Lib.hid (B0_0.out.ext hb)
    have B1_1 := Lib.hid (B1_0.out.ext hb)
    have B2_1 := Lib.hid (B2_0.out.ext hb)
    have RES0_1 := Lib.hid (RES0_0.out.ext hb)
    have zz1 := hb.size
    simp only [World.size_alloc] at zz1
    clear HW0 B0_0 B1_0 B2_0 RES0_0 hb
    have OT_1 := hown; clear hown
    obtain ⟨bO, hbO⟩ : ∃ x, x = w1.heap.size := ⟨_, rfl⟩
    obtain ⟨w2, hw2⟩ : ∃ x, x = w1.alloc (.cells #[.int .i64 x0, .int .i64 x1, .int .i64 x2, .int .i64 x3, .int .i64 x4, .int .i64 x5, .int .i64 x6, .int .i64 x7, .int .i64 x8, .slice a1 n c1] 26) := ⟨_, rfl⟩
    have hal := (Ext.refl w1).alloc (.cells #[.int .i64 x0, .int .i64 x1, .int .i64 x2, .int .i64 x3, .int .i64 x4, .int .i64 x5, .int .i64 x6, .int .i64 x7, .int .i64 x8, .slice a1 n c1] 26)
    have Oq := Lib.hid (RowAt.new w1 26 #[.int .i64 x0, .int .i64 x1, .int .i64 x2, .int .i64 x3, .int .i64 x4, .int .i64 x5, .int .i64 x6, .int .i64 x7, .int .i64 x8, .slice a1 n c1])
    rw [← hw2] at hal Oq
    rw [← hbO] at Oq
    have lO := Oq.out.lt
    have mO : w1.heap.size ≤ bO := Nat.le_of_eq hbO.symm
    have nO : bO ≤ w1.heap.size := Nat.le_of_eq hbO
    have e0 : (w1.alloc (.cells #[.int .i64 x0, .int .i64 x1, .int .i64 x2, .int .i64 x3, .int .i64 x4, .int .i64 x5, .int .i64 x6, .int .i64 x7, .int .i64 x8, .slice a1 n c1] 26)).cell? ⟨w.heap.size, 0, none⟩ = some (.int .i64 x0) := (B0_1.out.ext ((Ext.refl _).alloc _)).cell rfl
    have e1 : (w1.alloc (.cells #[.int .i64 x0, .int .i64 x1, .int .i64 x2, .int .i64 x3, .int .i64 x4, .int .i64 x5, .int .i64 x6, .int .i64 x7, .int .i64 x8, .slice a1 n c1] 26)).cell? ⟨w.heap.size, 1, none⟩ = some (.int .i64 x1) := (B0_1.out.ext ((Ext.refl _).alloc _)).cell rfl
    have e2 : (w1.alloc (.cells #[.int .i64 x0, .int .i64 x1, .int .i64 x2, .int .i64 x3, .int .i64 x4, .int .i64 x5, .int .i64 x6, .int .i64 x7, .int .i64 x8, .slice a1 n c1] 26)).cell? ⟨w.heap.size, 2, none⟩ = some (.int .i64 x2) := (B0_1.out.ext ((Ext.refl _).alloc _)).cell rfl
    have e3 : (w1.alloc (.cells #[.int .i64 x0, .int .i64 x1, .int .i64 x2, .int .i64 x3, .int .i64 x4, .int .i64 x5, .int .i64 x6, .int .i64 x7, .int .i64 x8, .slice a1 n c1] 26)).cell? ⟨w.heap.size, 3, none⟩ = some (.int .i64 x3) := (B0_1.out.ext ((Ext.refl _).alloc _)).cell rfl
    have e4 : (w1.alloc (.cells #[.int .i64 x0, .int .i64 x1, .int .i64 x2, .int .i64 x3, .int .i64 x4, .int .i64 x5, .int .i64 x6, .int .i64 x7, .int .i64 x8, .slice a1 n c1] 26)).cell? ⟨w.heap.size, 4, none⟩ = some (.int .i64 x4) := (B0_1.out.ext ((Ext.refl _).alloc _)).cell rfl
    have e5 : (w1.alloc (.cells #[.int .i64 x0, .int .i64 x1, .int .i64 x2, .int .i64 x3, .int .i64 x4, .int .i64 x5, .int .i64 x6, .int .i64 x7, .int .i64 x8, .slice a1 n c1] 26)).cell? ⟨w.heap.size, 5, none⟩ = some (.int .i64 x5) := (B0_1.out.ext ((Ext.refl _).alloc _)).cell rfl
    have e6 : (w1.alloc (.cells #[.int .i64 x0, .int .i64 x1, .int .i64 x2, .int .i64 x3, .int .i64 x4, .int .i64 x5, .int .i64 x6, .int .i64 x7, .int .i64 x8, .slice a1 n c1] 26)).cell? ⟨w.heap.size, 6, none⟩ = some (.int .i64 x6) := (B0_1.out.ext ((Ext.refl _).alloc _)).cell rfl
    have e7 : (w1.alloc (.cells #[.int .i64 x0, .int .i64 x1, .int .i64 x2, .int .i64 x3, .int .i64 x4, .int .i64 x5, .int .i64 x6, .int .i64 x7, .int .i64 x8, .slice a1 n c1] 26)).cell? ⟨w.heap.size, 7, none⟩ = some (.int .i64 x7) := (B0_1.out.ext ((Ext.refl _).alloc _)).cell rfl
    have e8 : (w1.alloc (.cells #[.int .i64 x0, .int .i64 x1, .int .i64 x2, .int .i64 x3, .int .i64 x4, .int .i64 x5, .int .i64 x6, .int .i64 x7, .int .i64 x8, .slice a1 n c1] 26)).cell? ⟨w.heap.size, 8, none⟩ = some (.int .i64 x8) := (B0_1.out.ext ((Ext.refl _).alloc _)).cell rfl
    have e9 : (w1.alloc (.cells #[.int .i64 x0, .int .i64 x1, .int .i64 x2, .int .i64 x3, .int .i64 x4, .int .i64 x5, .int .i64 x6, .int .i64 x7, .int .i64 x8, .slice a1 n c1] 26)).cell? ⟨w.heap.size, 9, none⟩ = some (.slice a n c) := (B0_1.out.ext ((Ext.refl _).alloc _)).cell rfl
    have e10 : (w1.alloc (.cells #[.int .i64 x0, .int .i64 x1, .int .i64 x2, .int .i64 x3, .int .i64 x4, .int .i64 x5, .int .i64 x6, .int .i64 x7, .int .i64 x8, .slice a1 n c1] 26)).cell? ⟨w.heap.size + 1, 0, none⟩ = some (.slice ta tn tc) := (B1_1.out.ext ((Ext.refl _).alloc _)).cell rfl
    have e11 : (w1.alloc (.cells #[.int .i64 x0, .int .i64 x1, .int .i64 x2, .int .i64 x3, .int .i64 x4, .int .i64 x5, .int .i64 x6, .int .i64 x7, .int .i64 x8, .slice a1 n c1] 26)).cell? ⟨w.heap.size + 1, 1, none⟩ = some (.int .i64 vol) := (B1_1.out.ext ((Ext.refl _).alloc _)).cell rfl
    have e12 : (w1.alloc (.cells #[.int .i64 x0, .int .i64 x1, .int .i64 x2, .int .i64 x3, .int .i64 x4, .int .i64 x5, .int .i64 x6, .int .i64 x7, .int .i64 x8, .slice a1 n c1] 26)).cell? ⟨w.heap.size + 1, 2, none⟩ = some (.slice pa pn pc) := (B1_1.out.ext ((Ext.refl _).alloc _)).cell rfl
    have e13 : (w1.alloc (.cells #[.int .i64 x0, .int .i64 x1, .int .i64 x2, .int .i64 x3, .int .i64 x4, .int .i64 x5, .int .i64 x6, .int .i64 x7, .int .i64 x8, .slice a1 n c1] 26)).cell? ⟨w.heap.size + 1 + 1, 0, none⟩ = some (.bool u) := (B2_1.out.ext ((Ext.refl _).alloc _)).cell rfl
    have e14 : (w1.alloc (.cells #[.int .i64 x0, .int .i64 x1, .int .i64 x2, .int .i64 x3, .int .i64 x4, .int .i64 x5, .int .i64 x6, .int .i64 x7, .int .i64 x8, .slice a1 n c1] 26)).cell? ⟨w.heap.size + 1 + 1, 1, none⟩ = some (.slice ra rn rc) := (B2_1.out.ext ((Ext.refl _).alloc _)).cell rfl
    go_wp2_with fail
    clear e0 e1 e2 e3 e4 e5 e6 e7 e8 e9 e10 e11 e12 e13 e14
    (try rw [← hw2])
    (try rw [← hbO])
    clear hw2 hbO
    have HW2 := Lib.hid (HW1.out.trans hal)
    have B0_2 := Lib.hid (B0_1.out.ext hal)
    have B1_2 := Lib.hid (B1_1.out.ext hal)
    have B2_2 := Lib.hid (B2_1.out.ext hal)
    have RES0_2 := Lib.hid (RES0_1.out.ext hal)
    have OT_2 := Lib.hid (OT_1.out.ext hal)
    have zz2 := hal.size
    clear HW1 B0_1 B1_1 B2_1 RES0_1 OT_1 hal
    have O_2 := Oq; clear Oq
    with_reducible refine (implMayEnter_any true _ _ _ _ _ _ _ _ _ _ _ _ ts _ _ _ _ _ _ _ ps xs _ _ _ _ rows _ HN.out HS.out HTS.out (HF.out.ext HW2.out) HT.out HTL.out HP.out HPL.out (HFT.out.ext HW2.out) (HFP.out.ext HW2.out) hvol HRN.out HRS.out HRT.out (HFR.out.ext HW2.out) HK1.out).mono ?_
    rintro e w3 ⟨rfl, hb⟩
    have HW3 := Lib.hid (HW2.out.trans hb)
    have B0_3 := Lib.hid (B0_2.out.ext hb)
    have B1_3 := Lib.hid (B1_2.out.ext hb)
    have B2_3 := Lib.hid (B2_2.out.ext hb)
    have RES0_3 := Lib.hid (RES0_2.out.ext hb)
    have O_3 := Lib.hid (O_2.out.ext hb)
    have OT_3 := Lib.hid (OT_2.out.ext hb)
    have zz3 := hb.size
    clear HW2 B0_2 B1_2 B2_2 RES0_2 O_2 OT_2 hb
    go_wp2_with fail
    have HSK := Lib.hid (fun (w' : World) (h : Ext w3 w') => (⟨(B0_3.out.ext h).cell rfl, (B2_3.out.ext h).cell rfl, (B2_3.out.ext h).cell rfl⟩ : w'.cell? ⟨w.heap.size, 9, none⟩ = some (.slice a n c) ∧ w'.cell? ⟨w.heap.size + 1 + 1, 0, none⟩ = some (.bool u) ∧ w'.cell? ⟨w.heap.size + 1 + 1, 1, none⟩ = some (.slice ra rn rc)))
    refine wp_region_held_drew (S := (fun w' => w'.cell? ⟨w.heap.size, 9, none⟩ = some (.slice a n c) ∧ w'.cell? ⟨w.heap.size + 1 + 1, 0, none⟩ = some (.bool u) ∧ w'.cell? ⟨w.heap.size + 1 + 1, 1, none⟩ = some (.slice ra rn rc))) (by kernel_rfl) ?_ (fun hH0 => ?_)
    · (try dsimp only)
      (exact HSK.out _ (by (repeat' (first | (with_reducible assumption) | (with_reducible exact Ext.refl _) | (with_reducible refine Ext.alloc ?_ _) | (with_reducible refine Ext.drew ?_) | (with_reducible refine Ext.setCell ?_ ?_ _) | (simp; done) | (simp; omega)))))
    refine take_l 0 (v := ?_) rfl (by kernel_rfl) (by kernel_rfl) (by kernel_rfl) (fun _ _ _ h => h) (by rfl) ?_ (by assumption) ?_
    rotate_left
    · (intro w hSw; (try dsimp only at hSw); go_simp; (try with_reducible rfl))
    (try simp only [Act.put, List.setIfInBounds_toArray, List.set_cons_zero, List.set_cons_succ])
    refine take_l 1 (v := ?_) rfl (by kernel_rfl) (by kernel_rfl) (by kernel_rfl) (fun _ _ _ h => h) (by rfl) ?_ (by assumption) ?_
    rotate_left
    · (intro w hSw; (try dsimp only at hSw); go_simp; (try with_reducible rfl))
    (try simp only [Act.put, List.setIfInBounds_toArray, List.set_cons_zero, List.set_cons_succ])
    refine take_l 3 (v := ?_) rfl (by kernel_rfl) (by kernel_rfl) (by kernel_rfl) (fun _ _ _ h => h) (by rfl) ?_ (by assumption) ?_
    rotate_left
    · (intro w hSw; (try dsimp only at hSw); go_simp; (try with_reducible rfl))
    (try simp only [Act.put, List.setIfInBounds_toArray, List.set_cons_zero, List.set_cons_succ])
    refine wpAnyH_ready (rs := [2]) (by kernel_rfl) (by simp) ?_
    refine cons_l (i := 2) rfl (fun K hK => ?_) ?_
    go_simp; (go_at_call 39; with_reducible refine (copyTrains_any _ _ _ ts _ HN.out HS.out HTS.out (HF.out.ext (HW3.out.trans (by (repeat' (first | (with_reducible assumption) | (with_reducible exact Ext.refl _) | (with_reducible refine Ext.alloc ?_ _) | (with_reducible refine Ext.drew ?_) | (with_reducible refine Ext.setCell ?_ ?_ _) | (simp; done) | (simp; omega))))))).mono ?_); rintro e y1 ⟨aC, cC, esC, rfl, hgC, hbC⟩; have xy1 : Ext w3 y1 := Ext.trans (by (repeat' (first | (with_reducible assumption) | (with_reducible exact Ext.refl _) | (with_reducible refine Ext.alloc ?_ _) | (with_reducible refine Ext.drew ?_) | (with_reducible refine Ext.setCell ?_ ?_ _) | (simp; done) | (simp; omega)))) hbC; have zy1 := hbC.size; (try simp only [World.size_drew] at zy1 hgC)
    refine hK.out _ _ ?_ (fun hH1 => ?_)
    · (try dsimp only)
      (exact HSK.out _ (by (repeat' (first | (with_reducible assumption) | (with_reducible exact Ext.refl _) | (with_reducible refine Ext.alloc ?_ _) | (with_reducible refine Ext.drew ?_) | (with_reducible refine Ext.setCell ?_ ?_ _) | (simp; done) | (simp; omega)))))
    clear hK K hH0
    (try simp only [Act.put, List.setIfInBounds_toArray, List.set_cons_zero, List.set_cons_succ])
    refine wpAnyH_ready (rs := [4]) (by kernel_rfl) (by simp) ?_
    refine cons_l (i := 4) rfl (fun K hK => ?_) ?_
    go_simp; (go_at_call 40; with_reducible refine (copyTrain_any _ _ _ _ rows _ HRN.out HRS.out HRR.out (HFR.out.ext (HW3.out.trans (by (repeat' (first | (with_reducible assumption) | (with_reducible exact Ext.refl _) | (with_reducible refine Ext.alloc ?_ _) | (with_reducible refine Ext.drew ?_) | (with_reducible refine Ext.setCell ?_ ?_ _) | (simp; done) | (simp; omega))))))).mono ?_); rintro e y2 ⟨aT, cT, rfl, hoT, hbT⟩; have xy2 : Ext w3 y2 := Ext.trans (by (repeat' (first | (with_reducible assumption) | (with_reducible exact Ext.refl _) | (with_reducible refine Ext.alloc ?_ _) | (with_reducible refine Ext.drew ?_) | (with_reducible refine Ext.setCell ?_ ?_ _) | (simp; done) | (simp; omega)))) hbT; have zy2 := hbT.size; have HX2 := Lib.hid ((Ext.refl y2).alloc (.cells #[.bool u, .slice aT rn cT] 47)); have HGC := Lib.hid ((hgC.ext hbT).ext HX2.out); have HOT := Lib.hid (one_trainC y2 u (.slice aT rn cT)); have HOW := Lib.hid HGC.out.2.1; rw [← HN.out] at HOW; have HOR := Lib.hid (hoT.ext HX2.out); clear hgC hoT
    refine hK.out _ _ ?_ (fun hH2 => ?_)
    · (try dsimp only)
      (exact HSK.out _ (by (repeat' (first | (with_reducible assumption) | (with_reducible exact Ext.refl _) | (with_reducible refine Ext.alloc ?_ _) | (with_reducible refine Ext.drew ?_) | (with_reducible refine Ext.setCell ?_ ?_ _) | (simp; done) | (simp; omega)))))
    clear hK K hH1
    (try simp only [Act.put, List.setIfInBounds_toArray, List.set_cons_zero, List.set_cons_succ])
    refine wpAnyH_ready (rs := [5]) (by kernel_rfl) (by simp) ?_
    refine cons_l (i := 5) rfl (fun K hK => ?_) ?_
    go_simp
    refine hK.out _ _ ?_ (fun hH3 => ?_)
    · (try dsimp only)
      (exact HSK.out _ (by (repeat' (first | (with_reducible assumption) | (with_reducible exact Ext.refl _) | (with_reducible refine Ext.alloc ?_ _) | (with_reducible refine Ext.drew ?_) | (with_reducible refine Ext.setCell ?_ ?_ _) | (simp; done) | (simp; omega)))))
    clear hK K hH2
    (try simp only [Act.put, List.setIfInBounds_toArray, List.set_cons_zero, List.set_cons_succ])
    refine wpAnyH_ready (rs := [6]) (by kernel_rfl) (by simp) ?_
    refine cons_l (i := 6) rfl (fun K hK => ?_) ?_
    refine step_of_wp _ rfl (wp_append_trains _ _ rfl (w3.heap.size) (.slice aC n cC) n esC rfl HOW.out _ 1 1 rfl [(u, .slice aT rn cT)] rfl (fun h => by cases h) HOT.out (fun e he => by cases List.mem_singleton.1 he; rfl) (by omega) (by simp; omega) ?_); intro v3 y3 hown3 hg3 hat3; have zy3 := hg3.size; simp only [World.size_alloc] at zy3; have YG3 := Lib.hid (GT.push (P := y1.heap.size) (Q := y2.heap.size) (u := u) (rows := rows) (a' := aT) (c := cT) HGC.out (Nat.le_refl _) (by omega) (by simp) HOR.out (by rw [← HRN.out]; have := HRS.out; unfold maxLen; omega) (by rw [← HRN.out, ← HN.out, List.flatMap_append]; simpa using hown3) hg3 (by simpa using hat3) (by simp; omega)); have HV3 := Lib.hid (show ∀ g, Value.ownBlock _ = some g → w3.heap.size ≤ g from fun g hg => (ownsRow_lt HOW.out hg).1); have xy3 : Ext w3 y3 := Ext.own2 (xy2.trans HX2.out) hg3 HOW.out (Nat.le_refl _); obtain ⟨a3, c3, hv3, _, _⟩ := YG3.out.own; rw [← HL1.out] at hv3; subst hv3; clear hown3 hg3 hat3 HOW HOT HGC HOR
    refine hK.out _ _ ?_ (fun hH4 => ?_)
    · (try dsimp only)
      (exact HSK.out _ (by (repeat' (first | (with_reducible assumption) | (with_reducible exact Ext.refl _) | (with_reducible refine Ext.alloc ?_ _) | (with_reducible refine Ext.drew ?_) | (with_reducible refine Ext.setCell ?_ ?_ _) | (simp; done) | (simp; omega)))))
    clear hK K hH3
    (try simp only [Act.put, List.setIfInBounds_toArray, List.set_cons_zero, List.set_cons_succ])
    refine take_l 7 (v := ?_) rfl (by kernel_rfl) (by kernel_rfl) (by kernel_rfl) (fun _ _ _ h => h) (by rfl) ?_ (by assumption) ?_
    rotate_left
    · (intro w hSw; (try dsimp only at hSw); go_simp; (try with_reducible rfl))
    (try simp only [Act.put, List.setIfInBounds_toArray, List.set_cons_zero, List.set_cons_succ])
    refine wpAnyH_done (by kernel_rfl) ?_ _
    rotate_left
    exact AllReadyH.nil
    exact AllReadyH.nil
    exact AllReadyH.nil
    exact AllReadyH.nil
    all_goals
      clear HSK
      have CQ := Lib.hid YG3.out.capE
      have YTq := Lib.hid YG3.out.ownAt
      have HW4 := Lib.hid (HW3.out.trans xy3)
      have B0_4 := Lib.hid (B0_3.out.ext xy3)
      have B1_4 := Lib.hid (B1_3.out.ext xy3)
      have B2_4 := Lib.hid (B2_3.out.ext xy3)
      have RES0_4 := Lib.hid (RES0_3.out.ext xy3)
      have O_4 := Lib.hid (O_3.out.ext xy3)
      have OT_4 := Lib.hid (OT_3.out.ext xy3)
      have zz4 := xy3.size
      clear HW3 B0_3 B1_3 B2_3 RES0_3 O_3 OT_3 xy3
      have YT_4 := YTq; clear YTq
      have HTA := Lib.hid YG3.out.ownAt.trains
      have cB00 : y3.cell? ⟨w.heap.size, 0, none⟩ = some (.int .i64 x0) := B0_4.out.cell rfl
      have cB01 : y3.cell? ⟨w.heap.size, 1, none⟩ = some (.int .i64 x1) := B0_4.out.cell rfl
      have cB02 : y3.cell? ⟨w.heap.size, 2, none⟩ = some (.int .i64 x2) := B0_4.out.cell rfl
      have cB03 : y3.cell? ⟨w.heap.size, 3, none⟩ = some (.int .i64 x3) := B0_4.out.cell rfl
      have cB04 : y3.cell? ⟨w.heap.size, 4, none⟩ = some (.int .i64 x4) := B0_4.out.cell rfl
      have cB05 : y3.cell? ⟨w.heap.size, 5, none⟩ = some (.int .i64 x5) := B0_4.out.cell rfl
      have cB06 : y3.cell? ⟨w.heap.size, 6, none⟩ = some (.int .i64 x6) := B0_4.out.cell rfl
      have cB07 : y3.cell? ⟨w.heap.size, 7, none⟩ = some (.int .i64 x7) := B0_4.out.cell rfl
      have cB08 : y3.cell? ⟨w.heap.size, 8, none⟩ = some (.int .i64 x8) := B0_4.out.cell rfl
      have cB09 : y3.cell? ⟨w.heap.size, 9, none⟩ = some (.slice a n c) := B0_4.out.cell rfl
      go_wp2_with fail
      with_reducible refine (implFits_any true _ _ _ _ _ _ _ _ _ _ _ _ _ _ _ (ts ++ [(u, rows)]) _ HL1.out (by omega) HSM.out HTA.out HK2.out hi0 hi1).mono ?_
      rintro e w4 ⟨rfl, hb⟩
      clear cB00 cB01 cB02 cB03 cB04 cB05 cB06 cB07 cB08 cB09
      have HW5 := Lib.hid (HW4.out.trans hb)
      have B0_5 := Lib.hid (B0_4.out.ext hb)
      have B1_5 := Lib.hid (B1_4.out.ext hb)
      have B2_5 := Lib.hid (B2_4.out.ext hb)
      have RES0_5 := Lib.hid (RES0_4.out.ext hb)
      have O_5 := Lib.hid (O_4.out.ext hb)
      have OT_5 := Lib.hid (OT_4.out.ext hb)
      have YT_5 := Lib.hid (YT_4.out.ext hb)
      have zz5 := hb.size
      clear HW4 B0_4 B1_4 B2_4 RES0_4 O_4 OT_4 YT_4 hb
      have f9 := O_5.out.frozen 9
      have d9 : w4.cell? ⟨bO, 9, none⟩ = some (.slice a1 n c1) := O_5.out.cell rfl
      have TO2 := Lib.hid (O_5.out.set 9 (.slice a3 (n + 1) c3))
      have T12 := Lib.hid (RES0_5.out.other (p := ⟨bO, 9, none⟩) (by dsimp only; omega) (.slice a3 (n + 1) c3))
      have HG4 := Lib.hid (YT_5.out.keep (Nat.le_refl _) (Nat.le_refl _) (fun B t c h1 h2 hr => hr.other (p := ⟨bO, 9, none⟩) (by dsimp only; omega) (.slice a3 (n + 1) c3)))
      have HE4 := Lib.hid (HW5.out.setCell (p := ⟨bO, 9, none⟩) (by dsimp only; omega) (.slice a3 (n + 1) c3))
      have q0 : (w4.setCell ⟨bO, 9, none⟩ (.slice a3 (n + 1) c3)).cell? ⟨bO, 0, none⟩ = some (.int .i64 x0) := TO2.out.cell rfl
      have q1 : (w4.setCell ⟨bO, 9, none⟩ (.slice a3 (n + 1) c3)).cell? ⟨bO, 1, none⟩ = some (.int .i64 x1) := TO2.out.cell rfl
      have q2 : (w4.setCell ⟨bO, 9, none⟩ (.slice a3 (n + 1) c3)).cell? ⟨bO, 2, none⟩ = some (.int .i64 x2) := TO2.out.cell rfl
      have q3 : (w4.setCell ⟨bO, 9, none⟩ (.slice a3 (n + 1) c3)).cell? ⟨bO, 3, none⟩ = some (.int .i64 x3) := TO2.out.cell rfl
      have q4 : (w4.setCell ⟨bO, 9, none⟩ (.slice a3 (n + 1) c3)).cell? ⟨bO, 4, none⟩ = some (.int .i64 x4) := TO2.out.cell rfl
      have q5 : (w4.setCell ⟨bO, 9, none⟩ (.slice a3 (n + 1) c3)).cell? ⟨bO, 5, none⟩ = some (.int .i64 x5) := TO2.out.cell rfl
      have q6 : (w4.setCell ⟨bO, 9, none⟩ (.slice a3 (n + 1) c3)).cell? ⟨bO, 6, none⟩ = some (.int .i64 x6) := TO2.out.cell rfl
      have q7 : (w4.setCell ⟨bO, 9, none⟩ (.slice a3 (n + 1) c3)).cell? ⟨bO, 7, none⟩ = some (.int .i64 x7) := TO2.out.cell rfl
      have q8 : (w4.setCell ⟨bO, 9, none⟩ (.slice a3 (n + 1) c3)).cell? ⟨bO, 8, none⟩ = some (.int .i64 x8) := TO2.out.cell rfl
      have q9 : (w4.setCell ⟨bO, 9, none⟩ (.slice a3 (n + 1) c3)).cell? ⟨bO, 9, none⟩ = some (.slice a3 (n + 1) c3) := TO2.out.cell rfl
      have r0 : (w4.setCell ⟨bO, 9, none⟩ (.slice a3 (n + 1) c3)).cell? ⟨w.heap.size + 1 + 1 + 1, 0, none⟩ = some (.int .i64 0) := T12.out.cell rfl
      have g0 := T12.out.frozen 0
      have r1 : (w4.setCell ⟨bO, 9, none⟩ (.slice a3 (n + 1) c3)).cell? ⟨w.heap.size + 1 + 1 + 1, 1, none⟩ = some (.int .i64 0) := T12.out.cell rfl
      have g1 := T12.out.frozen 1
      have r2 : (w4.setCell ⟨bO, 9, none⟩ (.slice a3 (n + 1) c3)).cell? ⟨w.heap.size + 1 + 1 + 1, 2, none⟩ = some (.int .i64 0) := T12.out.cell rfl
      have g2 := T12.out.frozen 2
      have r3 : (w4.setCell ⟨bO, 9, none⟩ (.slice a3 (n + 1) c3)).cell? ⟨w.heap.size + 1 + 1 + 1, 3, none⟩ = some (.int .i64 0) := T12.out.cell rfl
      have g3 := T12.out.frozen 3
      have r4 : (w4.setCell ⟨bO, 9, none⟩ (.slice a3 (n + 1) c3)).cell? ⟨w.heap.size + 1 + 1 + 1, 4, none⟩ = some (.int .i64 0) := T12.out.cell rfl
      have g4 := T12.out.frozen 4
      have r5 : (w4.setCell ⟨bO, 9, none⟩ (.slice a3 (n + 1) c3)).cell? ⟨w.heap.size + 1 + 1 + 1, 5, none⟩ = some (.int .i64 0) := T12.out.cell rfl
      have g5 := T12.out.frozen 5
      have r6 : (w4.setCell ⟨bO, 9, none⟩ (.slice a3 (n + 1) c3)).cell? ⟨w.heap.size + 1 + 1 + 1, 6, none⟩ = some (.int .i64 0) := T12.out.cell rfl
      have g6 := T12.out.frozen 6
      have r7 : (w4.setCell ⟨bO, 9, none⟩ (.slice a3 (n + 1) c3)).cell? ⟨w.heap.size + 1 + 1 + 1, 7, none⟩ = some (.int .i64 0) := T12.out.cell rfl
      have g7 := T12.out.frozen 7
      have r8 : (w4.setCell ⟨bO, 9, none⟩ (.slice a3 (n + 1) c3)).cell? ⟨w.heap.size + 1 + 1 + 1, 8, none⟩ = some (.int .i64 0) := T12.out.cell rfl
      have g8 := T12.out.frozen 8
      have r9 : (w4.setCell ⟨bO, 9, none⟩ (.slice a3 (n + 1) c3)).cell? ⟨w.heap.size + 1 + 1 + 1, 9, none⟩ = some (.slice none 0 0) := T12.out.cell rfl
      have g9 := T12.out.frozen 9
      go_wp2
      refine bodyPost_ret (v := .tuple #[.agg #[.int .i64 x0, .int .i64 x1, .int .i64 x2, .int .i64 x3, .int .i64 x4, .int .i64 x5, .int .i64 x6, .int .i64 x7, .int .i64 x8, .slice a3 (n + 1) c3], .bool true]) (by simp [results, Try.results17, go_sem, *]) rfl ⟨a3, c3, rfl, CQ.out, ?_, ?_⟩
      · exact HG4.out.keep (by (try simp only [World.size_alloc]); omega) (by simp only [size_setCell']; omega) (fun B t c h1 h2 hr => by
          (try simp only [World.size_alloc] at h1)
          (repeat' (first | (with_reducible assumption) | (with_reducible refine RowAt.other ?_ ?_ _))) <;> dsimp only <;> omega)
      · exact ((((((((((HE4.out.setCell (p := ⟨w.heap.size + 1 + 1 + 1, 0, none⟩) (by dsimp only; omega) _).setCell (p := ⟨w.heap.size + 1 + 1 + 1, 1, none⟩) (by dsimp only; omega) _).setCell (p := ⟨w.heap.size + 1 + 1 + 1, 2, none⟩) (by dsimp only; omega) _).setCell (p := ⟨w.heap.size + 1 + 1 + 1, 3, none⟩) (by dsimp only; omega) _).setCell (p := ⟨w.heap.size + 1 + 1 + 1, 4, none⟩) (by dsimp only; omega) _).setCell (p := ⟨w.heap.size + 1 + 1 + 1, 5, none⟩) (by dsimp only; omega) _).setCell (p := ⟨w.heap.size + 1 + 1 + 1, 6, none⟩) (by dsimp only; omega) _).setCell (p := ⟨w.heap.size + 1 + 1 + 1, 7, none⟩) (by dsimp only; omega) _).setCell (p := ⟨w.heap.size + 1 + 1 + 1, 8, none⟩) (by dsimp only; omega) _).setCell (p := ⟨w.heap.size + 1 + 1 + 1, 9, none⟩) (by dsimp only; omega) _)
end Go.Proofs.Ytmppoflgbmabpaa
