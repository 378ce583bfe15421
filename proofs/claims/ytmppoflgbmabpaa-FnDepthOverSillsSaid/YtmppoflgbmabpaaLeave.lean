/- LeaveLock on both sides: the program's. -/
import Derived.Test.YtmppoflgbmabpaaProg
import Derived.Test.YtmppoflgbmabpaaM6
namespace Go.Proofs.Ytmppoflgbmabpaa
open Go.RowKit
set_option linter.unusedSimpArgs false
set_option linter.unusedVariables false

/-- What a function hands back that makes a lock and a train anew. -/
def LockTrain (w w' : World) (ts : List Tn) (rows : List (List Bt)) (a' a1 : Option Addr) : Prop :=
  ∃ mid, (w.heap.size ≤ mid ∧ mid ≤ w'.heap.size) ∧ OwnTrains w' w.heap.size mid a' ts ∧ OwnRows w' mid w'.heap.size a1 rows
theorem LockTrain.mk {w w' : World} {lo1 hi1 lo2 hi2 : Nat} {ts : List Tn} {rows : List (List Bt)} {a' a1 : Option Addr} (h0 : w.heap.size ≤ lo1) (h1 : lo1 ≤ hi1) (h2 : hi1 ≤ lo2) (h3 : lo2 ≤ hi2) (h4 : hi2 ≤ w'.heap.size) (ho : OwnTrains w' lo1 hi1 a' ts) (hr : OwnRows w' lo2 hi2 a1 rows) : LockTrain w w' ts rows a' a1 :=
  ⟨hi1, ⟨by omega, by omega⟩, ho.wide h0 (Nat.le_refl _), hr.keep h2 h4 (fun _ _ _ _ _ h => h)⟩
theorem LockTrain.none {w w' : World} {lo1 hi1 : Nat} {ts : List Tn} {a' : Option Addr} (h0 : w.heap.size ≤ lo1) (h1 : lo1 ≤ hi1) (h4 : hi1 ≤ w'.heap.size) (ho : OwnTrains w' lo1 hi1 a' ts) : LockTrain w w' ts [] a' none :=
  ⟨hi1, ⟨by omega, by omega⟩, ho.wide h0 (Nat.le_refl _), .inl rfl⟩
theorem leave_inj {α β γ δ : Type} {a a' : α} {b b' : β} {c c' : γ} {d d' : δ} (h : (a, (b, c), d) = (a', (b', c'), d')) : a = a' ∧ b = b' ∧ c = c' ∧ d = d' := by
  obtain ⟨h1, h2⟩ := Prod.mk.inj h
  obtain ⟨h2, h3⟩ := Prod.mk.inj h2
  obtain ⟨h4, h5⟩ := Prod.mk.inj h2
  exact ⟨h1, h4, h5, h3⟩

set_option maxRecDepth 100000 in
set_option maxHeartbeats 4000000 in
theorem implLeave_any (ts1 : List Tn) (n1 : Nat) (ut : Bool) (rows1 : List (List Bt)) (m1 : Nat) (ok : Bool) (x0 x1 x2 x3 x4 x5 x6 x7 x8 : Int) (a : Option Addr) (n c : Nat) (ts : List Tn) (ta pa : Option Addr) (tn tc pn pc : Nat) (vol : Int) (ps : List Pt) (xs : List Int) (w : World) (hn : n = ts.length) (hs : n ≤ 1048576) (hts : ∀ t ∈ ts, SmallT t) (hf : TrainsAt w a ts) (ht : tn = ps.length) (htl : tn ≤ 1048576) (hp : pn = xs.length) (hpl : pn ≤ 1048576) (hft : FlatAt w ptCells 2 ta ps) (hfp : IntsAt w pa xs) (hvol : -9223372036854775808 ≤ vol ∧ vol ≤ 9223372036854775807) (hnc : n ≤ c) (hcc : c ≤ 9223372036854775807) (hn1 : n1 = ts1.length) (hm1 : m1 = rows1.length) (hres : leaveRes x0 x1 x2 x3 x4 x5 x6 x7 x8 ts ps vol xs = (ts1, (ut, rows1), ok)) :
    Calls Try.prog 20 #[.agg #[.int .i64 x0, .int .i64 x1, .int .i64 x2, .int .i64 x3, .int .i64 x4, .int .i64 x5, .int .i64 x6, .int .i64 x7, .int .i64 x8, .slice a n c], .agg #[.slice ta tn tc, .int .i64 vol, .slice pa pn pc]] w fun e w' => ∃ a' c' a1 c1, e = .returned (.tuple #[.agg #[.int .i64 x0, .int .i64 x1, .int .i64 x2, .int .i64 x3, .int .i64 x4, .int .i64 x5, .int .i64 x6, .int .i64 x7, .int .i64 x8, .slice a' n1 c'], .agg #[.bool ut, .slice a1 m1 c1], .bool ok]) ∧ LockTrain w w' ts1 rows1 a' a1 ∧ Ext w w' := by
  obtain ⟨k1, hk1⟩ : ∃ k, lockOk x0 x1 x2 x3 x4 x5 x6 x7 x8 ts = k := ⟨_, rfl⟩
  obtain ⟨k2, hk2⟩ : ∃ k, reachOk ps vol xs = k := ⟨_, rfl⟩
  obtain ⟨k4, hk4⟩ : ∃ k, decide (x8 = 0) = k := ⟨_, rfl⟩
  obtain ⟨sill, hsill⟩ : ∃ v, (if x8 = 1 then x2 else x3) = v := ⟨_, rfl⟩
  obtain ⟨lev, hlev⟩ : ∃ v, levelOf ps vol xs = v := ⟨_, rfl⟩
  have hlb := levelOf_b ps vol xs
  rw [hlev] at hlb
  obtain ⟨R, hR⟩ : ∃ R, leaveGo x8 sill lev 0 ts = R := ⟨_, rfl⟩
  unfold leaveRes at hres
  rw [hk1, hk2, hk4, hsill, hlev, hR] at hres
  have h8 : (x8 == 0) = k4 := by rw [← hk4]; rfl
  have hkb : k1 = true → ((0 ≤ x2 ∧ x2 ≤ 100000) ∧ (0 ≤ x3 ∧ x3 ≤ 100000)) ∧ (0 ≤ x8 ∧ x8 ≤ 2) ∧ ts.length ≤ 8 := fun h => by rw [h] at hk1; exact lockOk_gate hk1
  have hx8 : k4 = false → x8 ≠ 0 := fun h => by rw [h] at hk4; simpa using hk4
  have HK1 := Lib.hid hk1; clear hk1
  have HK2 := Lib.hid hk2; clear hk2
  have HLV := Lib.hid hlev; clear hlev
  have HR0 := Lib.hid hR; clear hR
  have HSL := Lib.hid hsill; clear hsill
  clear hk4
  have HN := Lib.hid hn; clear hn
  have HS := Lib.hid hs; clear hs
  have HTS := Lib.hid hts; clear hts
  have HF := Lib.hid hf; clear hf
  have HT := Lib.hid ht; clear ht
  have HP := Lib.hid hp; clear hp
  have HFT := Lib.hid hft; clear hft
  have HFP := Lib.hid hfp; clear hfp
  have HTL := Lib.hid (show tn ≤ maxLen by unfold maxLen; omega)
  have HPL := Lib.hid (show pn ≤ maxLen by unfold maxLen; omega)
  have B0I := Lib.hid (show RowAt ((((w.alloc (.cells #[.int .i64 x0, .int .i64 x1, .int .i64 x2, .int .i64 x3, .int .i64 x4, .int .i64 x5, .int .i64 x6, .int .i64 x7, .int .i64 x8, .slice a n c] 26)).alloc (.cells #[.slice ta tn tc, .int .i64 vol, .slice pa pn pc] 33)).alloc (.cells #[.int .i64 0, .int .i64 0, .int .i64 0, .int .i64 0, .int .i64 0, .int .i64 0, .int .i64 0, .int .i64 0, .int .i64 0, .slice none 0 0] 26)).alloc (.cells #[.bool false, .slice none 0 0] 47)) (w.heap.size) 26 #[.int .i64 x0, .int .i64 x1, .int .i64 x2, .int .i64 x3, .int .i64 x4, .int .i64 x5, .int .i64 x6, .int .i64 x7, .int .i64 x8, .slice a n c] from by
    have h := (RowAt.new w 26 #[.int .i64 x0, .int .i64 x1, .int .i64 x2, .int .i64 x3, .int .i64 x4, .int .i64 x5, .int .i64 x6, .int .i64 x7, .int .i64 x8, .slice a n c]).ext ((((Ext.refl _).alloc (.cells #[.slice ta tn tc, .int .i64 vol, .slice pa pn pc] 33)).alloc (.cells #[.int .i64 0, .int .i64 0, .int .i64 0, .int .i64 0, .int .i64 0, .int .i64 0, .int .i64 0, .int .i64 0, .int .i64 0, .slice none 0 0] 26)).alloc (.cells #[.bool false, .slice none 0 0] 47))
    exact h)
  have B1I := Lib.hid (show RowAt ((((w.alloc (.cells #[.int .i64 x0, .int .i64 x1, .int .i64 x2, .int .i64 x3, .int .i64 x4, .int .i64 x5, .int .i64 x6, .int .i64 x7, .int .i64 x8, .slice a n c] 26)).alloc (.cells #[.slice ta tn tc, .int .i64 vol, .slice pa pn pc] 33)).alloc (.cells #[.int .i64 0, .int .i64 0, .int .i64 0, .int .i64 0, .int .i64 0, .int .i64 0, .int .i64 0, .int .i64 0, .int .i64 0, .slice none 0 0] 26)).alloc (.cells #[.bool false, .slice none 0 0] 47)) (w.heap.size + 1) 33 #[.slice ta tn tc, .int .i64 vol, .slice pa pn pc] from by
    have h := (RowAt.new (w.alloc (.cells #[.int .i64 x0, .int .i64 x1, .int .i64 x2, .int .i64 x3, .int .i64 x4, .int .i64 x5, .int .i64 x6, .int .i64 x7, .int .i64 x8, .slice a n c] 26)) 33 #[.slice ta tn tc, .int .i64 vol, .slice pa pn pc]).ext (((Ext.refl _).alloc (.cells #[.int .i64 0, .int .i64 0, .int .i64 0, .int .i64 0, .int .i64 0, .int .i64 0, .int .i64 0, .int .i64 0, .int .i64 0, .slice none 0 0] 26)).alloc (.cells #[.bool false, .slice none 0 0] 47))
    simp only [World.size_alloc] at h
    exact h)
  have RES0I := Lib.hid (show RowAt ((((w.alloc (.cells #[.int .i64 x0, .int .i64 x1, .int .i64 x2, .int .i64 x3, .int .i64 x4, .int .i64 x5, .int .i64 x6, .int .i64 x7, .int .i64 x8, .slice a n c] 26)).alloc (.cells #[.slice ta tn tc, .int .i64 vol, .slice pa pn pc] 33)).alloc (.cells #[.int .i64 0, .int .i64 0, .int .i64 0, .int .i64 0, .int .i64 0, .int .i64 0, .int .i64 0, .int .i64 0, .int .i64 0, .slice none 0 0] 26)).alloc (.cells #[.bool false, .slice none 0 0] 47)) (w.heap.size + 1 + 1) 26 #[.int .i64 0, .int .i64 0, .int .i64 0, .int .i64 0, .int .i64 0, .int .i64 0, .int .i64 0, .int .i64 0, .int .i64 0, .slice none 0 0] from by
    have h := (RowAt.new ((w.alloc (.cells #[.int .i64 x0, .int .i64 x1, .int .i64 x2, .int .i64 x3, .int .i64 x4, .int .i64 x5, .int .i64 x6, .int .i64 x7, .int .i64 x8, .slice a n c] 26)).alloc (.cells #[.slice ta tn tc, .int .i64 vol, .slice pa pn pc] 33)) 26 #[.int .i64 0, .int .i64 0, .int .i64 0, .int .i64 0, .int .i64 0, .int .i64 0, .int .i64 0, .int .i64 0, .int .i64 0, .slice none 0 0]).ext ((Ext.refl _).alloc (.cells #[.bool false, .slice none 0 0] 47))
    simp only [World.size_alloc] at h
    exact h)
  have RES1I := Lib.hid (show RowAt ((((w.alloc (.cells #[.int .i64 x0, .int .i64 x1, .int .i64 x2, .int .i64 x3, .int .i64 x4, .int .i64 x5, .int .i64 x6, .int .i64 x7, .int .i64 x8, .slice a n c] 26)).alloc (.cells #[.slice ta tn tc, .int .i64 vol, .slice pa pn pc] 33)).alloc (.cells #[.int .i64 0, .int .i64 0, .int .i64 0, .int .i64 0, .int .i64 0, .int .i64 0, .int .i64 0, .int .i64 0, .int .i64 0, .slice none 0 0] 26)).alloc (.cells #[.bool false, .slice none 0 0] 47)) (w.heap.size + 1 + 1 + 1) 47 #[.bool false, .slice none 0 0] from by
    have h := (RowAt.new (((w.alloc (.cells #[.int .i64 x0, .int .i64 x1, .int .i64 x2, .int .i64 x3, .int .i64 x4, .int .i64 x5, .int .i64 x6, .int .i64 x7, .int .i64 x8, .slice a n c] 26)).alloc (.cells #[.slice ta tn tc, .int .i64 vol, .slice pa pn pc] 33)).alloc (.cells #[.int .i64 0, .int .i64 0, .int .i64 0, .int .i64 0, .int .i64 0, .int .i64 0, .int .i64 0, .int .i64 0, .int .i64 0, .slice none 0 0] 26)) 47 #[.bool false, .slice none 0 0]).ext (Ext.refl _)
    simp only [World.size_alloc] at h
    exact h)
  have HE0 := Lib.hid (show Ext w ((((w.alloc (.cells #[.int .i64 x0, .int .i64 x1, .int .i64 x2, .int .i64 x3, .int .i64 x4, .int .i64 x5, .int .i64 x6, .int .i64 x7, .int .i64 x8, .slice a n c] 26)).alloc (.cells #[.slice ta tn tc, .int .i64 vol, .slice pa pn pc] 33)).alloc (.cells #[.int .i64 0, .int .i64 0, .int .i64 0, .int .i64 0, .int .i64 0, .int .i64 0, .int .i64 0, .int .i64 0, .int .i64 0, .slice none 0 0] 26)).alloc (.cells #[.bool false, .slice none 0 0] 47)) from (((((Ext.refl w).alloc _).alloc _).alloc _).alloc _))
  cases k1
  · obtain ⟨rfl, rfl, rfl, rfl⟩ := leave_inj (show (ts, (false, []), false) = (ts1, (ut, rows1), ok) by simpa using hres)
    obtain rfl : n = n1 := by rw [hn1, HN.out]
    obtain rfl : 0 = m1 := hm1.symm
    clear hres hn1 hm1
    go_enter Try.func20, Try.ntmps20
    have B0_0 := B0I
    have B1_0 := B1I
    have RES0_0 := RES0I
    have RES1_0 := RES1I
    have HW0 := HE0
    go_wp2_with fail
    with_reducible refine (copyLock_any _ _ _ _ _ _ _ _ _ _ _ _ ts _ HN.out HS.out HTS.out (HF.out.ext HE0.out)).mono ?_
    rintro e w1 ⟨p, q, es, rfl, hg1, hb⟩
    have hown := Lib.hid (hg1.ownAt); clear hg1
    have HW1 := Lib.hid (HW0.out.trans hb)
    have B0_1 := Lib.hid (B0_0.out.ext hb)
    have B1_1 := Lib.hid (B1_0.out.ext hb)
    have RES0_1 := Lib.hid (RES0_0.out.ext hb)
    have RES1_1 := Lib.hid (RES1_0.out.ext hb)
    have zz1 := hb.size
    simp only [World.size_alloc] at zz1
    clear HW0 B0_0 B1_0 RES0_0 RES1_0 hb
    have OT_1 := hown; clear hown
    obtain ⟨bX, hbX⟩ : ∃ x, x = w1.heap.size := ⟨_, rfl⟩
    obtain ⟨w2, hw2⟩ : ∃ x, x = w1.alloc (.cells #[.int .i64 x0, .int .i64 x1, .int .i64 x2, .int .i64 x3, .int .i64 x4, .int .i64 x5, .int .i64 x6, .int .i64 x7, .int .i64 x8, .slice p n q] 26) := ⟨_, rfl⟩
    have hal := (Ext.refl w1).alloc (.cells #[.int .i64 x0, .int .i64 x1, .int .i64 x2, .int .i64 x3, .int .i64 x4, .int .i64 x5, .int .i64 x6, .int .i64 x7, .int .i64 x8, .slice p n q] 26)
    have Xq := Lib.hid (RowAt.new w1 26 #[.int .i64 x0, .int .i64 x1, .int .i64 x2, .int .i64 x3, .int .i64 x4, .int .i64 x5, .int .i64 x6, .int .i64 x7, .int .i64 x8, .slice p n q])
    rw [← hw2] at hal Xq
    rw [← hbX] at Xq
    have lX := Xq.out.lt
    have mX : w1.heap.size ≤ bX := Nat.le_of_eq hbX.symm
    have nX : bX ≤ w1.heap.size := Nat.le_of_eq hbX
    have e0 : (w1.alloc (.cells #[.int .i64 x0, .int .i64 x1, .int .i64 x2, .int .i64 x3, .int .i64 x4, .int .i64 x5, .int .i64 x6, .int .i64 x7, .int .i64 x8, .slice p n q] 26)).cell? ⟨w.heap.size, 0, none⟩ = some (.int .i64 x0) := (B0_1.out.ext ((Ext.refl _).alloc _)).cell rfl
    have e1 : (w1.alloc (.cells #[.int .i64 x0, .int .i64 x1, .int .i64 x2, .int .i64 x3, .int .i64 x4, .int .i64 x5, .int .i64 x6, .int .i64 x7, .int .i64 x8, .slice p n q] 26)).cell? ⟨w.heap.size, 1, none⟩ = some (.int .i64 x1) := (B0_1.out.ext ((Ext.refl _).alloc _)).cell rfl
    have e2 : (w1.alloc (.cells #[.int .i64 x0, .int .i64 x1, .int .i64 x2, .int .i64 x3, .int .i64 x4, .int .i64 x5, .int .i64 x6, .int .i64 x7, .int .i64 x8, .slice p n q] 26)).cell? ⟨w.heap.size, 2, none⟩ = some (.int .i64 x2) := (B0_1.out.ext ((Ext.refl _).alloc _)).cell rfl
    have e3 : (w1.alloc (.cells #[.int .i64 x0, .int .i64 x1, .int .i64 x2, .int .i64 x3, .int .i64 x4, .int .i64 x5, .int .i64 x6, .int .i64 x7, .int .i64 x8, .slice p n q] 26)).cell? ⟨w.heap.size, 3, none⟩ = some (.int .i64 x3) := (B0_1.out.ext ((Ext.refl _).alloc _)).cell rfl
    have e4 : (w1.alloc (.cells #[.int .i64 x0, .int .i64 x1, .int .i64 x2, .int .i64 x3, .int .i64 x4, .int .i64 x5, .int .i64 x6, .int .i64 x7, .int .i64 x8, .slice p n q] 26)).cell? ⟨w.heap.size, 4, none⟩ = some (.int .i64 x4) := (B0_1.out.ext ((Ext.refl _).alloc _)).cell rfl
    have e5 : (w1.alloc (.cells #[.int .i64 x0, .int .i64 x1, .int .i64 x2, .int .i64 x3, .int .i64 x4, .int .i64 x5, .int .i64 x6, .int .i64 x7, .int .i64 x8, .slice p n q] 26)).cell? ⟨w.heap.size, 5, none⟩ = some (.int .i64 x5) := (B0_1.out.ext ((Ext.refl _).alloc _)).cell rfl
    have e6 : (w1.alloc (.cells #[.int .i64 x0, .int .i64 x1, .int .i64 x2, .int .i64 x3, .int .i64 x4, .int .i64 x5, .int .i64 x6, .int .i64 x7, .int .i64 x8, .slice p n q] 26)).cell? ⟨w.heap.size, 6, none⟩ = some (.int .i64 x6) := (B0_1.out.ext ((Ext.refl _).alloc _)).cell rfl
    have e7 : (w1.alloc (.cells #[.int .i64 x0, .int .i64 x1, .int .i64 x2, .int .i64 x3, .int .i64 x4, .int .i64 x5, .int .i64 x6, .int .i64 x7, .int .i64 x8, .slice p n q] 26)).cell? ⟨w.heap.size, 7, none⟩ = some (.int .i64 x7) := (B0_1.out.ext ((Ext.refl _).alloc _)).cell rfl
    have e8 : (w1.alloc (.cells #[.int .i64 x0, .int .i64 x1, .int .i64 x2, .int .i64 x3, .int .i64 x4, .int .i64 x5, .int .i64 x6, .int .i64 x7, .int .i64 x8, .slice p n q] 26)).cell? ⟨w.heap.size, 8, none⟩ = some (.int .i64 x8) := (B0_1.out.ext ((Ext.refl _).alloc _)).cell rfl
    have e9 : (w1.alloc (.cells #[.int .i64 x0, .int .i64 x1, .int .i64 x2, .int .i64 x3, .int .i64 x4, .int .i64 x5, .int .i64 x6, .int .i64 x7, .int .i64 x8, .slice p n q] 26)).cell? ⟨w.heap.size, 9, none⟩ = some (.slice a n c) := (B0_1.out.ext ((Ext.refl _).alloc _)).cell rfl
    go_wp2_with fail
    clear e0 e1 e2 e3 e4 e5 e6 e7 e8 e9
    (try rw [← hw2])
    (try rw [← hbX])
    clear hw2 hbX
    have HW2 := Lib.hid (HW1.out.trans hal)
    have B0_2 := Lib.hid (B0_1.out.ext hal)
    have B1_2 := Lib.hid (B1_1.out.ext hal)
    have RES0_2 := Lib.hid (RES0_1.out.ext hal)
    have RES1_2 := Lib.hid (RES1_1.out.ext hal)
    have OT_2 := Lib.hid (OT_1.out.ext hal)
    have zz2 := hal.size
    clear HW1 B0_1 B1_1 RES0_1 RES1_1 OT_1 hal
    have X_2 := Xq; clear Xq
    have zw : ((((w.alloc (.cells #[.int .i64 x0, .int .i64 x1, .int .i64 x2, .int .i64 x3, .int .i64 x4, .int .i64 x5, .int .i64 x6, .int .i64 x7, .int .i64 x8, .slice a n c] 26)).alloc (.cells #[.slice ta tn tc, .int .i64 vol, .slice pa pn pc] 33)).alloc (.cells #[.int .i64 0, .int .i64 0, .int .i64 0, .int .i64 0, .int .i64 0, .int .i64 0, .int .i64 0, .int .i64 0, .int .i64 0, .slice none 0 0] 26)).alloc (.cells #[.bool false, .slice none 0 0] 47)).heap.size = w.heap.size + 1 + 1 + 1 + 1 := by simp only [World.size_alloc]
    with_reducible refine (implLockOk_any false _ _ _ _ _ _ _ _ _ _ _ _ ts _ HN.out HS.out HTS.out (HF.out.ext HW2.out) HK1.out).mono ?_
    rintro e w3 ⟨rfl, hb⟩
    have HW3 := Lib.hid (HW2.out.trans hb)
    have B0_3 := Lib.hid (B0_2.out.ext hb)
    have B1_3 := Lib.hid (B1_2.out.ext hb)
    have RES0_3 := Lib.hid (RES0_2.out.ext hb)
    have RES1_3 := Lib.hid (RES1_2.out.ext hb)
    have X_3 := Lib.hid (X_2.out.ext hb)
    have OT_3 := Lib.hid (OT_2.out.ext hb)
    have zz3 := hb.size
    clear HW2 B0_2 B1_2 RES0_2 RES1_2 X_2 OT_2 hb
    have q0 : w3.cell? ⟨bX, 0, none⟩ = some (.int .i64 x0) := X_3.out.cell rfl
    have q1 : w3.cell? ⟨bX, 1, none⟩ = some (.int .i64 x1) := X_3.out.cell rfl
    have q2 : w3.cell? ⟨bX, 2, none⟩ = some (.int .i64 x2) := X_3.out.cell rfl
    have q3 : w3.cell? ⟨bX, 3, none⟩ = some (.int .i64 x3) := X_3.out.cell rfl
    have q4 : w3.cell? ⟨bX, 4, none⟩ = some (.int .i64 x4) := X_3.out.cell rfl
    have q5 : w3.cell? ⟨bX, 5, none⟩ = some (.int .i64 x5) := X_3.out.cell rfl
    have q6 : w3.cell? ⟨bX, 6, none⟩ = some (.int .i64 x6) := X_3.out.cell rfl
    have q7 : w3.cell? ⟨bX, 7, none⟩ = some (.int .i64 x7) := X_3.out.cell rfl
    have q8 : w3.cell? ⟨bX, 8, none⟩ = some (.int .i64 x8) := X_3.out.cell rfl
    have q9 : w3.cell? ⟨bX, 9, none⟩ = some (.slice p n q) := X_3.out.cell rfl
    have r0_0 : w3.cell? ⟨w.heap.size + 1 + 1, 0, none⟩ = some (.int .i64 0) := RES0_3.out.cell rfl; have g0_0 := RES0_3.out.frozen 0
    have r0_1 : w3.cell? ⟨w.heap.size + 1 + 1, 1, none⟩ = some (.int .i64 0) := RES0_3.out.cell rfl; have g0_1 := RES0_3.out.frozen 1
    have r0_2 : w3.cell? ⟨w.heap.size + 1 + 1, 2, none⟩ = some (.int .i64 0) := RES0_3.out.cell rfl; have g0_2 := RES0_3.out.frozen 2
    have r0_3 : w3.cell? ⟨w.heap.size + 1 + 1, 3, none⟩ = some (.int .i64 0) := RES0_3.out.cell rfl; have g0_3 := RES0_3.out.frozen 3
    have r0_4 : w3.cell? ⟨w.heap.size + 1 + 1, 4, none⟩ = some (.int .i64 0) := RES0_3.out.cell rfl; have g0_4 := RES0_3.out.frozen 4
    have r0_5 : w3.cell? ⟨w.heap.size + 1 + 1, 5, none⟩ = some (.int .i64 0) := RES0_3.out.cell rfl; have g0_5 := RES0_3.out.frozen 5
    have r0_6 : w3.cell? ⟨w.heap.size + 1 + 1, 6, none⟩ = some (.int .i64 0) := RES0_3.out.cell rfl; have g0_6 := RES0_3.out.frozen 6
    have r0_7 : w3.cell? ⟨w.heap.size + 1 + 1, 7, none⟩ = some (.int .i64 0) := RES0_3.out.cell rfl; have g0_7 := RES0_3.out.frozen 7
    have r0_8 : w3.cell? ⟨w.heap.size + 1 + 1, 8, none⟩ = some (.int .i64 0) := RES0_3.out.cell rfl; have g0_8 := RES0_3.out.frozen 8
    have r0_9 : w3.cell? ⟨w.heap.size + 1 + 1, 9, none⟩ = some (.slice none 0 0) := RES0_3.out.cell rfl; have g0_9 := RES0_3.out.frozen 9
    have r1_0 : w3.cell? ⟨w.heap.size + 1 + 1 + 1, 0, none⟩ = some (.bool false) := RES1_3.out.cell rfl; have g1_0 := RES1_3.out.frozen 0
    have r1_1 : w3.cell? ⟨w.heap.size + 1 + 1 + 1, 1, none⟩ = some (.slice none 0 0) := RES1_3.out.cell rfl; have g1_1 := RES1_3.out.frozen 1
    go_wp2
    have zP : (putAt (putAt w3 (w.heap.size + 1 + 1) 0 [.int .i64 x0, .int .i64 x1, .int .i64 x2, .int .i64 x3, .int .i64 x4, .int .i64 x5, .int .i64 x6, .int .i64 x7, .int .i64 x8, .slice p n q]) (w.heap.size + 1 + 1 + 1) 0 [.bool false, .slice none 0 0]).heap.size = w3.heap.size := (put_size _ _ _ _).trans (put_size _ _ _ _)
    have PT : OwnTrains (putAt (putAt w3 (w.heap.size + 1 + 1) 0 [.int .i64 x0, .int .i64 x1, .int .i64 x2, .int .i64 x3, .int .i64 x4, .int .i64 x5, .int .i64 x6, .int .i64 x7, .int .i64 x8, .slice p n q]) (w.heap.size + 1 + 1 + 1) 0 [.bool false, .slice none 0 0]) (((((w.alloc (.cells #[.int .i64 x0, .int .i64 x1, .int .i64 x2, .int .i64 x3, .int .i64 x4, .int .i64 x5, .int .i64 x6, .int .i64 x7, .int .i64 x8, .slice a n c] 26)).alloc (.cells #[.slice ta tn tc, .int .i64 vol, .slice pa pn pc] 33)).alloc (.cells #[.int .i64 0, .int .i64 0, .int .i64 0, .int .i64 0, .int .i64 0, .int .i64 0, .int .i64 0, .int .i64 0, .int .i64 0, .slice none 0 0] 26)).alloc (.cells #[.bool false, .slice none 0 0] 47)).heap.size) (w1.heap.size) p ts := OT_3.out.keep (Nat.le_refl _) (Nat.le_refl _) (fun B t c h1 h2 hr => put_other (by omega) _ _ _ (put_other (by omega) _ _ _ hr))
    have PX : Ext w (putAt (putAt w3 (w.heap.size + 1 + 1) 0 [.int .i64 x0, .int .i64 x1, .int .i64 x2, .int .i64 x3, .int .i64 x4, .int .i64 x5, .int .i64 x6, .int .i64 x7, .int .i64 x8, .slice p n q]) (w.heap.size + 1 + 1 + 1) 0 [.bool false, .slice none 0 0]) := put_ext (by omega) _ _ _ (put_ext (by omega) _ _ _ HW3.out)
    refine bodyPost_ret (v := .tuple #[.agg #[.int .i64 x0, .int .i64 x1, .int .i64 x2, .int .i64 x3, .int .i64 x4, .int .i64 x5, .int .i64 x6, .int .i64 x7, .int .i64 x8, .slice p n q], .agg #[.bool false, .slice none 0 0], .bool false]) (by simp [results, Try.results20, go_sem, *]) rfl ⟨p, q, none, 0, (by first | rfl | (rw [HNR.out, HMR.out])), LockTrain.none (w' := (putAt (putAt w3 (w.heap.size + 1 + 1) 0 [.int .i64 x0, .int .i64 x1, .int .i64 x2, .int .i64 x3, .int .i64 x4, .int .i64 x5, .int .i64 x6, .int .i64 x7, .int .i64 x8, .slice p n q]) (w.heap.size + 1 + 1 + 1) 0 [.bool false, .slice none 0 0])) (by omega) (by omega) (by omega) PT, PX⟩
  cases k2
  · obtain ⟨rfl, rfl, rfl, rfl⟩ := leave_inj (show (ts, (false, []), false) = (ts1, (ut, rows1), ok) by simpa using hres)
    obtain rfl : n = n1 := by rw [hn1, HN.out]
    obtain rfl : 0 = m1 := hm1.symm
    clear hres hn1 hm1
    go_enter Try.func20, Try.ntmps20
    have B0_0 := B0I
    have B1_0 := B1I
    have RES0_0 := RES0I
    have RES1_0 := RES1I
    have HW0 := HE0
    go_wp2_with fail
    with_reducible refine (copyLock_any _ _ _ _ _ _ _ _ _ _ _ _ ts _ HN.out HS.out HTS.out (HF.out.ext HE0.out)).mono ?_
    rintro e w1 ⟨p, q, es, rfl, hg1, hb⟩
    have hown := Lib.hid (hg1.ownAt); clear hg1
    have HW1 := Lib.hid (HW0.out.trans hb)
    have B0_1 := Lib.hid (B0_0.out.ext hb)
    have B1_1 := Lib.hid (B1_0.out.ext hb)
    have RES0_1 := Lib.hid (RES0_0.out.ext hb)
    have RES1_1 := Lib.hid (RES1_0.out.ext hb)
    have zz1 := hb.size
    simp only [World.size_alloc] at zz1
    clear HW0 B0_0 B1_0 RES0_0 RES1_0 hb
    have OT_1 := hown; clear hown
    obtain ⟨bX, hbX⟩ : ∃ x, x = w1.heap.size := ⟨_, rfl⟩
    obtain ⟨w2, hw2⟩ : ∃ x, x = w1.alloc (.cells #[.int .i64 x0, .int .i64 x1, .int .i64 x2, .int .i64 x3, .int .i64 x4, .int .i64 x5, .int .i64 x6, .int .i64 x7, .int .i64 x8, .slice p n q] 26) := ⟨_, rfl⟩
    have hal := (Ext.refl w1).alloc (.cells #[.int .i64 x0, .int .i64 x1, .int .i64 x2, .int .i64 x3, .int .i64 x4, .int .i64 x5, .int .i64 x6, .int .i64 x7, .int .i64 x8, .slice p n q] 26)
    have Xq := Lib.hid (RowAt.new w1 26 #[.int .i64 x0, .int .i64 x1, .int .i64 x2, .int .i64 x3, .int .i64 x4, .int .i64 x5, .int .i64 x6, .int .i64 x7, .int .i64 x8, .slice p n q])
    rw [← hw2] at hal Xq
    rw [← hbX] at Xq
    have lX := Xq.out.lt
    have mX : w1.heap.size ≤ bX := Nat.le_of_eq hbX.symm
    have nX : bX ≤ w1.heap.size := Nat.le_of_eq hbX
    have e0 : (w1.alloc (.cells #[.int .i64 x0, .int .i64 x1, .int .i64 x2, .int .i64 x3, .int .i64 x4, .int .i64 x5, .int .i64 x6, .int .i64 x7, .int .i64 x8, .slice p n q] 26)).cell? ⟨w.heap.size, 0, none⟩ = some (.int .i64 x0) := (B0_1.out.ext ((Ext.refl _).alloc _)).cell rfl
    have e1 : (w1.alloc (.cells #[.int .i64 x0, .int .i64 x1, .int .i64 x2, .int .i64 x3, .int .i64 x4, .int .i64 x5, .int .i64 x6, .int .i64 x7, .int .i64 x8, .slice p n q] 26)).cell? ⟨w.heap.size, 1, none⟩ = some (.int .i64 x1) := (B0_1.out.ext ((Ext.refl _).alloc _)).cell rfl
    have e2 : (w1.alloc (.cells #[.int .i64 x0, .int .i64 x1, .int .i64 x2, .int .i64 x3, .int .i64 x4, .int .i64 x5, .int .i64 x6, .int .i64 x7, .int .i64 x8, .slice p n q] 26)).cell? ⟨w.heap.size, 2, none⟩ = some (.int .i64 x2) := (B0_1.out.ext ((Ext.refl _).alloc _)).cell rfl
    have e3 : (w1.alloc (.cells #[.int .i64 x0, .int .i64 x1, .int .i64 x2, .int .i64 x3, .int .i64 x4, .int .i64 x5, .int .i64 x6, .int .i64 x7, .int .i64 x8, .slice p n q] 26)).cell? ⟨w.heap.size, 3, none⟩ = some (.int .i64 x3) := (B0_1.out.ext ((Ext.refl _).alloc _)).cell rfl
    have e4 : (w1.alloc (.cells #[.int .i64 x0, .int .i64 x1, .int .i64 x2, .int .i64 x3, .int .i64 x4, .int .i64 x5, .int .i64 x6, .int .i64 x7, .int .i64 x8, .slice p n q] 26)).cell? ⟨w.heap.size, 4, none⟩ = some (.int .i64 x4) := (B0_1.out.ext ((Ext.refl _).alloc _)).cell rfl
    have e5 : (w1.alloc (.cells #[.int .i64 x0, .int .i64 x1, .int .i64 x2, .int .i64 x3, .int .i64 x4, .int .i64 x5, .int .i64 x6, .int .i64 x7, .int .i64 x8, .slice p n q] 26)).cell? ⟨w.heap.size, 5, none⟩ = some (.int .i64 x5) := (B0_1.out.ext ((Ext.refl _).alloc _)).cell rfl
    have e6 : (w1.alloc (.cells #[.int .i64 x0, .int .i64 x1, .int .i64 x2, .int .i64 x3, .int .i64 x4, .int .i64 x5, .int .i64 x6, .int .i64 x7, .int .i64 x8, .slice p n q] 26)).cell? ⟨w.heap.size, 6, none⟩ = some (.int .i64 x6) := (B0_1.out.ext ((Ext.refl _).alloc _)).cell rfl
    have e7 : (w1.alloc (.cells #[.int .i64 x0, .int .i64 x1, .int .i64 x2, .int .i64 x3, .int .i64 x4, .int .i64 x5, .int .i64 x6, .int .i64 x7, .int .i64 x8, .slice p n q] 26)).cell? ⟨w.heap.size, 7, none⟩ = some (.int .i64 x7) := (B0_1.out.ext ((Ext.refl _).alloc _)).cell rfl
    have e8 : (w1.alloc (.cells #[.int .i64 x0, .int .i64 x1, .int .i64 x2, .int .i64 x3, .int .i64 x4, .int .i64 x5, .int .i64 x6, .int .i64 x7, .int .i64 x8, .slice p n q] 26)).cell? ⟨w.heap.size, 8, none⟩ = some (.int .i64 x8) := (B0_1.out.ext ((Ext.refl _).alloc _)).cell rfl
    have e9 : (w1.alloc (.cells #[.int .i64 x0, .int .i64 x1, .int .i64 x2, .int .i64 x3, .int .i64 x4, .int .i64 x5, .int .i64 x6, .int .i64 x7, .int .i64 x8, .slice p n q] 26)).cell? ⟨w.heap.size, 9, none⟩ = some (.slice a n c) := (B0_1.out.ext ((Ext.refl _).alloc _)).cell rfl
    go_wp2_with fail
    clear e0 e1 e2 e3 e4 e5 e6 e7 e8 e9
    (try rw [← hw2])
    (try rw [← hbX])
    clear hw2 hbX
    have HW2 := Lib.hid (HW1.out.trans hal)
    have B0_2 := Lib.hid (B0_1.out.ext hal)
    have B1_2 := Lib.hid (B1_1.out.ext hal)
    have RES0_2 := Lib.hid (RES0_1.out.ext hal)
    have RES1_2 := Lib.hid (RES1_1.out.ext hal)
    have OT_2 := Lib.hid (OT_1.out.ext hal)
    have zz2 := hal.size
    clear HW1 B0_1 B1_1 RES0_1 RES1_1 OT_1 hal
    have X_2 := Xq; clear Xq
    have zw : ((((w.alloc (.cells #[.int .i64 x0, .int .i64 x1, .int .i64 x2, .int .i64 x3, .int .i64 x4, .int .i64 x5, .int .i64 x6, .int .i64 x7, .int .i64 x8, .slice a n c] 26)).alloc (.cells #[.slice ta tn tc, .int .i64 vol, .slice pa pn pc] 33)).alloc (.cells #[.int .i64 0, .int .i64 0, .int .i64 0, .int .i64 0, .int .i64 0, .int .i64 0, .int .i64 0, .int .i64 0, .int .i64 0, .slice none 0 0] 26)).alloc (.cells #[.bool false, .slice none 0 0] 47)).heap.size = w.heap.size + 1 + 1 + 1 + 1 := by simp only [World.size_alloc]
    with_reducible refine (implLockOk_any true _ _ _ _ _ _ _ _ _ _ _ _ ts _ HN.out HS.out HTS.out (HF.out.ext HW2.out) HK1.out).mono ?_
    rintro e w3 ⟨rfl, hb⟩
    have HW3 := Lib.hid (HW2.out.trans hb)
    have B0_3 := Lib.hid (B0_2.out.ext hb)
    have B1_3 := Lib.hid (B1_2.out.ext hb)
    have RES0_3 := Lib.hid (RES0_2.out.ext hb)
    have RES1_3 := Lib.hid (RES1_2.out.ext hb)
    have X_3 := Lib.hid (X_2.out.ext hb)
    have OT_3 := Lib.hid (OT_2.out.ext hb)
    have zz3 := hb.size
    clear HW2 B0_2 B1_2 RES0_2 RES1_2 X_2 OT_2 hb
    have cB10 : w3.cell? ⟨w.heap.size + 1, 0, none⟩ = some (.slice ta tn tc) := B1_3.out.cell rfl
    have cB11 : w3.cell? ⟨w.heap.size + 1, 1, none⟩ = some (.int .i64 vol) := B1_3.out.cell rfl
    have cB12 : w3.cell? ⟨w.heap.size + 1, 2, none⟩ = some (.slice pa pn pc) := B1_3.out.cell rfl
    go_wp2_with fail
    with_reducible refine (implReachOk_is false _ _ _ _ _ _ _ ps xs _ HT.out HTL.out HP.out HPL.out (HFT.out.ext HW3.out) (HFP.out.ext HW3.out) hvol HK2.out).mono ?_
    rintro e w4 ⟨rfl, hb⟩
    clear cB10 cB11 cB12
    have HW4 := Lib.hid (HW3.out.trans hb)
    have B0_4 := Lib.hid (B0_3.out.ext hb)
    have B1_4 := Lib.hid (B1_3.out.ext hb)
    have RES0_4 := Lib.hid (RES0_3.out.ext hb)
    have RES1_4 := Lib.hid (RES1_3.out.ext hb)
    have X_4 := Lib.hid (X_3.out.ext hb)
    have OT_4 := Lib.hid (OT_3.out.ext hb)
    have zz4 := hb.size
    clear HW3 B0_3 B1_3 RES0_3 RES1_3 X_3 OT_3 hb
    have q0 : w4.cell? ⟨bX, 0, none⟩ = some (.int .i64 x0) := X_4.out.cell rfl
    have q1 : w4.cell? ⟨bX, 1, none⟩ = some (.int .i64 x1) := X_4.out.cell rfl
    have q2 : w4.cell? ⟨bX, 2, none⟩ = some (.int .i64 x2) := X_4.out.cell rfl
    have q3 : w4.cell? ⟨bX, 3, none⟩ = some (.int .i64 x3) := X_4.out.cell rfl
    have q4 : w4.cell? ⟨bX, 4, none⟩ = some (.int .i64 x4) := X_4.out.cell rfl
    have q5 : w4.cell? ⟨bX, 5, none⟩ = some (.int .i64 x5) := X_4.out.cell rfl
    have q6 : w4.cell? ⟨bX, 6, none⟩ = some (.int .i64 x6) := X_4.out.cell rfl
    have q7 : w4.cell? ⟨bX, 7, none⟩ = some (.int .i64 x7) := X_4.out.cell rfl
    have q8 : w4.cell? ⟨bX, 8, none⟩ = some (.int .i64 x8) := X_4.out.cell rfl
    have q9 : w4.cell? ⟨bX, 9, none⟩ = some (.slice p n q) := X_4.out.cell rfl
    have r0_0 : w4.cell? ⟨w.heap.size + 1 + 1, 0, none⟩ = some (.int .i64 0) := RES0_4.out.cell rfl; have g0_0 := RES0_4.out.frozen 0
    have r0_1 : w4.cell? ⟨w.heap.size + 1 + 1, 1, none⟩ = some (.int .i64 0) := RES0_4.out.cell rfl; have g0_1 := RES0_4.out.frozen 1
    have r0_2 : w4.cell? ⟨w.heap.size + 1 + 1, 2, none⟩ = some (.int .i64 0) := RES0_4.out.cell rfl; have g0_2 := RES0_4.out.frozen 2
    have r0_3 : w4.cell? ⟨w.heap.size + 1 + 1, 3, none⟩ = some (.int .i64 0) := RES0_4.out.cell rfl; have g0_3 := RES0_4.out.frozen 3
    have r0_4 : w4.cell? ⟨w.heap.size + 1 + 1, 4, none⟩ = some (.int .i64 0) := RES0_4.out.cell rfl; have g0_4 := RES0_4.out.frozen 4
    have r0_5 : w4.cell? ⟨w.heap.size + 1 + 1, 5, none⟩ = some (.int .i64 0) := RES0_4.out.cell rfl; have g0_5 := RES0_4.out.frozen 5
    have r0_6 : w4.cell? ⟨w.heap.size + 1 + 1, 6, none⟩ = some (.int .i64 0) := RES0_4.out.cell rfl; have g0_6 := RES0_4.out.frozen 6
    have r0_7 : w4.cell? ⟨w.heap.size + 1 + 1, 7, none⟩ = some (.int .i64 0) := RES0_4.out.cell rfl; have g0_7 := RES0_4.out.frozen 7
    have r0_8 : w4.cell? ⟨w.heap.size + 1 + 1, 8, none⟩ = some (.int .i64 0) := RES0_4.out.cell rfl; have g0_8 := RES0_4.out.frozen 8
    have r0_9 : w4.cell? ⟨w.heap.size + 1 + 1, 9, none⟩ = some (.slice none 0 0) := RES0_4.out.cell rfl; have g0_9 := RES0_4.out.frozen 9
    have r1_0 : w4.cell? ⟨w.heap.size + 1 + 1 + 1, 0, none⟩ = some (.bool false) := RES1_4.out.cell rfl; have g1_0 := RES1_4.out.frozen 0
    have r1_1 : w4.cell? ⟨w.heap.size + 1 + 1 + 1, 1, none⟩ = some (.slice none 0 0) := RES1_4.out.cell rfl; have g1_1 := RES1_4.out.frozen 1
    go_wp2
    have zP : (putAt (putAt w4 (w.heap.size + 1 + 1) 0 [.int .i64 x0, .int .i64 x1, .int .i64 x2, .int .i64 x3, .int .i64 x4, .int .i64 x5, .int .i64 x6, .int .i64 x7, .int .i64 x8, .slice p n q]) (w.heap.size + 1 + 1 + 1) 0 [.bool false, .slice none 0 0]).heap.size = w4.heap.size := (put_size _ _ _ _).trans (put_size _ _ _ _)
    have PT : OwnTrains (putAt (putAt w4 (w.heap.size + 1 + 1) 0 [.int .i64 x0, .int .i64 x1, .int .i64 x2, .int .i64 x3, .int .i64 x4, .int .i64 x5, .int .i64 x6, .int .i64 x7, .int .i64 x8, .slice p n q]) (w.heap.size + 1 + 1 + 1) 0 [.bool false, .slice none 0 0]) (((((w.alloc (.cells #[.int .i64 x0, .int .i64 x1, .int .i64 x2, .int .i64 x3, .int .i64 x4, .int .i64 x5, .int .i64 x6, .int .i64 x7, .int .i64 x8, .slice a n c] 26)).alloc (.cells #[.slice ta tn tc, .int .i64 vol, .slice pa pn pc] 33)).alloc (.cells #[.int .i64 0, .int .i64 0, .int .i64 0, .int .i64 0, .int .i64 0, .int .i64 0, .int .i64 0, .int .i64 0, .int .i64 0, .slice none 0 0] 26)).alloc (.cells #[.bool false, .slice none 0 0] 47)).heap.size) (w1.heap.size) p ts := OT_4.out.keep (Nat.le_refl _) (Nat.le_refl _) (fun B t c h1 h2 hr => put_other (by omega) _ _ _ (put_other (by omega) _ _ _ hr))
    have PX : Ext w (putAt (putAt w4 (w.heap.size + 1 + 1) 0 [.int .i64 x0, .int .i64 x1, .int .i64 x2, .int .i64 x3, .int .i64 x4, .int .i64 x5, .int .i64 x6, .int .i64 x7, .int .i64 x8, .slice p n q]) (w.heap.size + 1 + 1 + 1) 0 [.bool false, .slice none 0 0]) := put_ext (by omega) _ _ _ (put_ext (by omega) _ _ _ HW4.out)
    refine bodyPost_ret (v := .tuple #[.agg #[.int .i64 x0, .int .i64 x1, .int .i64 x2, .int .i64 x3, .int .i64 x4, .int .i64 x5, .int .i64 x6, .int .i64 x7, .int .i64 x8, .slice p n q], .agg #[.bool false, .slice none 0 0], .bool false]) (by simp [results, Try.results20, go_sem, *]) rfl ⟨p, q, none, 0, (by first | rfl | (rw [HNR.out, HMR.out])), LockTrain.none (w' := (putAt (putAt w4 (w.heap.size + 1 + 1) 0 [.int .i64 x0, .int .i64 x1, .int .i64 x2, .int .i64 x3, .int .i64 x4, .int .i64 x5, .int .i64 x6, .int .i64 x7, .int .i64 x8, .slice p n q]) (w.heap.size + 1 + 1 + 1) 0 [.bool false, .slice none 0 0])) (by omega) (by omega) (by omega) PT, PX⟩
  obtain ⟨⟨hb2, hb3⟩, hb8, hn8⟩ := hkb rfl
  rw [← HN.out] at hn8
  clear hkb
  cases k4
  case true =>
    obtain ⟨rfl, rfl, rfl, rfl⟩ := leave_inj (show (ts, (false, []), false) = (ts1, (ut, rows1), ok) by simpa using hres)
    obtain rfl : n = n1 := by rw [hn1, HN.out]
    obtain rfl : 0 = m1 := hm1.symm
    clear hres hn1 hm1
    go_enter Try.func20, Try.ntmps20
    have B0_0 := B0I
    have B1_0 := B1I
    have RES0_0 := RES0I
    have RES1_0 := RES1I
    have HW0 := HE0
    go_wp2_with fail
    with_reducible refine (copyLock_any _ _ _ _ _ _ _ _ _ _ _ _ ts _ HN.out HS.out HTS.out (HF.out.ext HE0.out)).mono ?_
    rintro e w1 ⟨p, q, es, rfl, hg1, hb⟩
    have hown := Lib.hid (hg1.ownAt); clear hg1
    have HW1 := Lib.hid (HW0.out.trans hb)
    have B0_1 := Lib.hid (B0_0.out.ext hb)
    have B1_1 := Lib.hid (B1_0.out.ext hb)
    have RES0_1 := Lib.hid (RES0_0.out.ext hb)
    have RES1_1 := Lib.hid (RES1_0.out.ext hb)
    have zz1 := hb.size
    simp only [World.size_alloc] at zz1
    clear HW0 B0_0 B1_0 RES0_0 RES1_0 hb
    have OT_1 := hown; clear hown
    obtain ⟨bX, hbX⟩ : ∃ x, x = w1.heap.size := ⟨_, rfl⟩
    obtain ⟨w2, hw2⟩ : ∃ x, x = w1.alloc (.cells #[.int .i64 x0, .int .i64 x1, .int .i64 x2, .int .i64 x3, .int .i64 x4, .int .i64 x5, .int .i64 x6, .int .i64 x7, .int .i64 x8, .slice p n q] 26) := ⟨_, rfl⟩
    have hal := (Ext.refl w1).alloc (.cells #[.int .i64 x0, .int .i64 x1, .int .i64 x2, .int .i64 x3, .int .i64 x4, .int .i64 x5, .int .i64 x6, .int .i64 x7, .int .i64 x8, .slice p n q] 26)
    have Xq := Lib.hid (RowAt.new w1 26 #[.int .i64 x0, .int .i64 x1, .int .i64 x2, .int .i64 x3, .int .i64 x4, .int .i64 x5, .int .i64 x6, .int .i64 x7, .int .i64 x8, .slice p n q])
    rw [← hw2] at hal Xq
    rw [← hbX] at Xq
    have lX := Xq.out.lt
    have mX : w1.heap.size ≤ bX := Nat.le_of_eq hbX.symm
    have nX : bX ≤ w1.heap.size := Nat.le_of_eq hbX
    have e0 : (w1.alloc (.cells #[.int .i64 x0, .int .i64 x1, .int .i64 x2, .int .i64 x3, .int .i64 x4, .int .i64 x5, .int .i64 x6, .int .i64 x7, .int .i64 x8, .slice p n q] 26)).cell? ⟨w.heap.size, 0, none⟩ = some (.int .i64 x0) := (B0_1.out.ext ((Ext.refl _).alloc _)).cell rfl
    have e1 : (w1.alloc (.cells #[.int .i64 x0, .int .i64 x1, .int .i64 x2, .int .i64 x3, .int .i64 x4, .int .i64 x5, .int .i64 x6, .int .i64 x7, .int .i64 x8, .slice p n q] 26)).cell? ⟨w.heap.size, 1, none⟩ = some (.int .i64 x1) := (B0_1.out.ext ((Ext.refl _).alloc _)).cell rfl
    have e2 : (w1.alloc (.cells #[.int .i64 x0, .int .i64 x1, .int .i64 x2, .int .i64 x3, .int .i64 x4, .int .i64 x5, .int .i64 x6, .int .i64 x7, .int .i64 x8, .slice p n q] 26)).cell? ⟨w.heap.size, 2, none⟩ = some (.int .i64 x2) := (B0_1.out.ext ((Ext.refl _).alloc _)).cell rfl
    have e3 : (w1.alloc (.cells #[.int .i64 x0, .int .i64 x1, .int .i64 x2, .int .i64 x3, .int .i64 x4, .int .i64 x5, .int .i64 x6, .int .i64 x7, .int .i64 x8, .slice p n q] 26)).cell? ⟨w.heap.size, 3, none⟩ = some (.int .i64 x3) := (B0_1.out.ext ((Ext.refl _).alloc _)).cell rfl
    have e4 : (w1.alloc (.cells #[.int .i64 x0, .int .i64 x1, .int .i64 x2, .int .i64 x3, .int .i64 x4, .int .i64 x5, .int .i64 x6, .int .i64 x7, .int .i64 x8, .slice p n q] 26)).cell? ⟨w.heap.size, 4, none⟩ = some (.int .i64 x4) := (B0_1.out.ext ((Ext.refl _).alloc _)).cell rfl
    have e5 : (w1.alloc (.cells #[.int .i64 x0, .int .i64 x1, .int .i64 x2, .int .i64 x3, .int .i64 x4, .int .i64 x5, .int .i64 x6, .int .i64 x7, .int .i64 x8, .slice p n q] 26)).cell? ⟨w.heap.size, 5, none⟩ = some (.int .i64 x5) := (B0_1.out.ext ((Ext.refl _).alloc _)).cell rfl
    have e6 : (w1.alloc (.cells #[.int .i64 x0, .int .i64 x1, .int .i64 x2, .int .i64 x3, .int .i64 x4, .int .i64 x5, .int .i64 x6, .int .i64 x7, .int .i64 x8, .slice p n q] 26)).cell? ⟨w.heap.size, 6, none⟩ = some (.int .i64 x6) := (B0_1.out.ext ((Ext.refl _).alloc _)).cell rfl
    have e7 : (w1.alloc (.cells #[.int .i64 x0, .int .i64 x1, .int .i64 x2, .int .i64 x3, .int .i64 x4, .int .i64 x5, .int .i64 x6, .int .i64 x7, .int .i64 x8, .slice p n q] 26)).cell? ⟨w.heap.size, 7, none⟩ = some (.int .i64 x7) := (B0_1.out.ext ((Ext.refl _).alloc _)).cell rfl
    have e8 : (w1.alloc (.cells #[.int .i64 x0, .int .i64 x1, .int .i64 x2, .int .i64 x3, .int .i64 x4, .int .i64 x5, .int .i64 x6, .int .i64 x7, .int .i64 x8, .slice p n q] 26)).cell? ⟨w.heap.size, 8, none⟩ = some (.int .i64 x8) := (B0_1.out.ext ((Ext.refl _).alloc _)).cell rfl
    have e9 : (w1.alloc (.cells #[.int .i64 x0, .int .i64 x1, .int .i64 x2, .int .i64 x3, .int .i64 x4, .int .i64 x5, .int .i64 x6, .int .i64 x7, .int .i64 x8, .slice p n q] 26)).cell? ⟨w.heap.size, 9, none⟩ = some (.slice a n c) := (B0_1.out.ext ((Ext.refl _).alloc _)).cell rfl
    go_wp2_with fail
    clear e0 e1 e2 e3 e4 e5 e6 e7 e8 e9
    (try rw [← hw2])
    (try rw [← hbX])
    clear hw2 hbX
    have HW2 := Lib.hid (HW1.out.trans hal)
    have B0_2 := Lib.hid (B0_1.out.ext hal)
    have B1_2 := Lib.hid (B1_1.out.ext hal)
    have RES0_2 := Lib.hid (RES0_1.out.ext hal)
    have RES1_2 := Lib.hid (RES1_1.out.ext hal)
    have OT_2 := Lib.hid (OT_1.out.ext hal)
    have zz2 := hal.size
    clear HW1 B0_1 B1_1 RES0_1 RES1_1 OT_1 hal
    have X_2 := Xq; clear Xq
    have zw : ((((w.alloc (.cells #[.int .i64 x0, .int .i64 x1, .int .i64 x2, .int .i64 x3, .int .i64 x4, .int .i64 x5, .int .i64 x6, .int .i64 x7, .int .i64 x8, .slice a n c] 26)).alloc (.cells #[.slice ta tn tc, .int .i64 vol, .slice pa pn pc] 33)).alloc (.cells #[.int .i64 0, .int .i64 0, .int .i64 0, .int .i64 0, .int .i64 0, .int .i64 0, .int .i64 0, .int .i64 0, .int .i64 0, .slice none 0 0] 26)).alloc (.cells #[.bool false, .slice none 0 0] 47)).heap.size = w.heap.size + 1 + 1 + 1 + 1 := by simp only [World.size_alloc]
    with_reducible refine (implLockOk_any true _ _ _ _ _ _ _ _ _ _ _ _ ts _ HN.out HS.out HTS.out (HF.out.ext HW2.out) HK1.out).mono ?_
    rintro e w3 ⟨rfl, hb⟩
    have HW3 := Lib.hid (HW2.out.trans hb)
    have B0_3 := Lib.hid (B0_2.out.ext hb)
    have B1_3 := Lib.hid (B1_2.out.ext hb)
    have RES0_3 := Lib.hid (RES0_2.out.ext hb)
    have RES1_3 := Lib.hid (RES1_2.out.ext hb)
    have X_3 := Lib.hid (X_2.out.ext hb)
    have OT_3 := Lib.hid (OT_2.out.ext hb)
    have zz3 := hb.size
    clear HW2 B0_2 B1_2 RES0_2 RES1_2 X_2 OT_2 hb
    have cB10 : w3.cell? ⟨w.heap.size + 1, 0, none⟩ = some (.slice ta tn tc) := B1_3.out.cell rfl
    have cB11 : w3.cell? ⟨w.heap.size + 1, 1, none⟩ = some (.int .i64 vol) := B1_3.out.cell rfl
    have cB12 : w3.cell? ⟨w.heap.size + 1, 2, none⟩ = some (.slice pa pn pc) := B1_3.out.cell rfl
    go_wp2_with fail
    with_reducible refine (implReachOk_is true _ _ _ _ _ _ _ ps xs _ HT.out HTL.out HP.out HPL.out (HFT.out.ext HW3.out) (HFP.out.ext HW3.out) hvol HK2.out).mono ?_
    rintro e w4 ⟨rfl, hb⟩
    clear cB10 cB11 cB12
    have HW4 := Lib.hid (HW3.out.trans hb)
    have B0_4 := Lib.hid (B0_3.out.ext hb)
    have B1_4 := Lib.hid (B1_3.out.ext hb)
    have RES0_4 := Lib.hid (RES0_3.out.ext hb)
    have RES1_4 := Lib.hid (RES1_3.out.ext hb)
    have X_4 := Lib.hid (X_3.out.ext hb)
    have OT_4 := Lib.hid (OT_3.out.ext hb)
    have zz4 := hb.size
    clear HW3 B0_3 B1_3 RES0_3 RES1_3 X_3 OT_3 hb
    have cB00 : w4.cell? ⟨w.heap.size, 0, none⟩ = some (.int .i64 x0) := B0_4.out.cell rfl
    have cB01 : w4.cell? ⟨w.heap.size, 1, none⟩ = some (.int .i64 x1) := B0_4.out.cell rfl
    have cB02 : w4.cell? ⟨w.heap.size, 2, none⟩ = some (.int .i64 x2) := B0_4.out.cell rfl
    have cB03 : w4.cell? ⟨w.heap.size, 3, none⟩ = some (.int .i64 x3) := B0_4.out.cell rfl
    have cB04 : w4.cell? ⟨w.heap.size, 4, none⟩ = some (.int .i64 x4) := B0_4.out.cell rfl
    have cB05 : w4.cell? ⟨w.heap.size, 5, none⟩ = some (.int .i64 x5) := B0_4.out.cell rfl
    have cB06 : w4.cell? ⟨w.heap.size, 6, none⟩ = some (.int .i64 x6) := B0_4.out.cell rfl
    have cB07 : w4.cell? ⟨w.heap.size, 7, none⟩ = some (.int .i64 x7) := B0_4.out.cell rfl
    have cB08 : w4.cell? ⟨w.heap.size, 8, none⟩ = some (.int .i64 x8) := B0_4.out.cell rfl
    have cB09 : w4.cell? ⟨w.heap.size, 9, none⟩ = some (.slice a n c) := B0_4.out.cell rfl
    have q0 : w4.cell? ⟨bX, 0, none⟩ = some (.int .i64 x0) := X_4.out.cell rfl
    have q1 : w4.cell? ⟨bX, 1, none⟩ = some (.int .i64 x1) := X_4.out.cell rfl
    have q2 : w4.cell? ⟨bX, 2, none⟩ = some (.int .i64 x2) := X_4.out.cell rfl
    have q3 : w4.cell? ⟨bX, 3, none⟩ = some (.int .i64 x3) := X_4.out.cell rfl
    have q4 : w4.cell? ⟨bX, 4, none⟩ = some (.int .i64 x4) := X_4.out.cell rfl
    have q5 : w4.cell? ⟨bX, 5, none⟩ = some (.int .i64 x5) := X_4.out.cell rfl
    have q6 : w4.cell? ⟨bX, 6, none⟩ = some (.int .i64 x6) := X_4.out.cell rfl
    have q7 : w4.cell? ⟨bX, 7, none⟩ = some (.int .i64 x7) := X_4.out.cell rfl
    have q8 : w4.cell? ⟨bX, 8, none⟩ = some (.int .i64 x8) := X_4.out.cell rfl
    have q9 : w4.cell? ⟨bX, 9, none⟩ = some (.slice p n q) := X_4.out.cell rfl
    have r0_0 : w4.cell? ⟨w.heap.size + 1 + 1, 0, none⟩ = some (.int .i64 0) := RES0_4.out.cell rfl; have g0_0 := RES0_4.out.frozen 0
    have r0_1 : w4.cell? ⟨w.heap.size + 1 + 1, 1, none⟩ = some (.int .i64 0) := RES0_4.out.cell rfl; have g0_1 := RES0_4.out.frozen 1
    have r0_2 : w4.cell? ⟨w.heap.size + 1 + 1, 2, none⟩ = some (.int .i64 0) := RES0_4.out.cell rfl; have g0_2 := RES0_4.out.frozen 2
    have r0_3 : w4.cell? ⟨w.heap.size + 1 + 1, 3, none⟩ = some (.int .i64 0) := RES0_4.out.cell rfl; have g0_3 := RES0_4.out.frozen 3
    have r0_4 : w4.cell? ⟨w.heap.size + 1 + 1, 4, none⟩ = some (.int .i64 0) := RES0_4.out.cell rfl; have g0_4 := RES0_4.out.frozen 4
    have r0_5 : w4.cell? ⟨w.heap.size + 1 + 1, 5, none⟩ = some (.int .i64 0) := RES0_4.out.cell rfl; have g0_5 := RES0_4.out.frozen 5
    have r0_6 : w4.cell? ⟨w.heap.size + 1 + 1, 6, none⟩ = some (.int .i64 0) := RES0_4.out.cell rfl; have g0_6 := RES0_4.out.frozen 6
    have r0_7 : w4.cell? ⟨w.heap.size + 1 + 1, 7, none⟩ = some (.int .i64 0) := RES0_4.out.cell rfl; have g0_7 := RES0_4.out.frozen 7
    have r0_8 : w4.cell? ⟨w.heap.size + 1 + 1, 8, none⟩ = some (.int .i64 0) := RES0_4.out.cell rfl; have g0_8 := RES0_4.out.frozen 8
    have r0_9 : w4.cell? ⟨w.heap.size + 1 + 1, 9, none⟩ = some (.slice none 0 0) := RES0_4.out.cell rfl; have g0_9 := RES0_4.out.frozen 9
    have r1_0 : w4.cell? ⟨w.heap.size + 1 + 1 + 1, 0, none⟩ = some (.bool false) := RES1_4.out.cell rfl; have g1_0 := RES1_4.out.frozen 0
    have r1_1 : w4.cell? ⟨w.heap.size + 1 + 1 + 1, 1, none⟩ = some (.slice none 0 0) := RES1_4.out.cell rfl; have g1_1 := RES1_4.out.frozen 1
    go_wp2
    have zP : (putAt (putAt w4 (w.heap.size + 1 + 1) 0 [.int .i64 x0, .int .i64 x1, .int .i64 x2, .int .i64 x3, .int .i64 x4, .int .i64 x5, .int .i64 x6, .int .i64 x7, .int .i64 x8, .slice p n q]) (w.heap.size + 1 + 1 + 1) 0 [.bool false, .slice none 0 0]).heap.size = w4.heap.size := (put_size _ _ _ _).trans (put_size _ _ _ _)
    have PT : OwnTrains (putAt (putAt w4 (w.heap.size + 1 + 1) 0 [.int .i64 x0, .int .i64 x1, .int .i64 x2, .int .i64 x3, .int .i64 x4, .int .i64 x5, .int .i64 x6, .int .i64 x7, .int .i64 x8, .slice p n q]) (w.heap.size + 1 + 1 + 1) 0 [.bool false, .slice none 0 0]) (((((w.alloc (.cells #[.int .i64 x0, .int .i64 x1, .int .i64 x2, .int .i64 x3, .int .i64 x4, .int .i64 x5, .int .i64 x6, .int .i64 x7, .int .i64 x8, .slice a n c] 26)).alloc (.cells #[.slice ta tn tc, .int .i64 vol, .slice pa pn pc] 33)).alloc (.cells #[.int .i64 0, .int .i64 0, .int .i64 0, .int .i64 0, .int .i64 0, .int .i64 0, .int .i64 0, .int .i64 0, .int .i64 0, .slice none 0 0] 26)).alloc (.cells #[.bool false, .slice none 0 0] 47)).heap.size) (w1.heap.size) p ts := OT_4.out.keep (Nat.le_refl _) (Nat.le_refl _) (fun B t c h1 h2 hr => put_other (by omega) _ _ _ (put_other (by omega) _ _ _ hr))
    have PX : Ext w (putAt (putAt w4 (w.heap.size + 1 + 1) 0 [.int .i64 x0, .int .i64 x1, .int .i64 x2, .int .i64 x3, .int .i64 x4, .int .i64 x5, .int .i64 x6, .int .i64 x7, .int .i64 x8, .slice p n q]) (w.heap.size + 1 + 1 + 1) 0 [.bool false, .slice none 0 0]) := put_ext (by omega) _ _ _ (put_ext (by omega) _ _ _ HW4.out)
    refine bodyPost_ret (v := .tuple #[.agg #[.int .i64 x0, .int .i64 x1, .int .i64 x2, .int .i64 x3, .int .i64 x4, .int .i64 x5, .int .i64 x6, .int .i64 x7, .int .i64 x8, .slice p n q], .agg #[.bool false, .slice none 0 0], .bool false]) (by simp [results, Try.results20, go_sem, *]) rfl ⟨p, q, none, 0, (by first | rfl | (rw [HNR.out, HMR.out])), LockTrain.none (w' := (putAt (putAt w4 (w.heap.size + 1 + 1) 0 [.int .i64 x0, .int .i64 x1, .int .i64 x2, .int .i64 x3, .int .i64 x4, .int .i64 x5, .int .i64 x6, .int .i64 x7, .int .i64 x8, .slice p n q]) (w.heap.size + 1 + 1 + 1) 0 [.bool false, .slice none 0 0])) (by omega) (by omega) (by omega) PT, PX⟩
  case false =>
    have hx8 := hx8 rfl
    have HRES := Lib.hid (show leaveOut R ts = (ts1, (ut, rows1), ok) by simpa using hres); clear hres
    have HN1 := Lib.hid hn1; have HM1 := Lib.hid hm1; clear hn1 hm1
    obtain ⟨g1, hg1⟩ : ∃ g, (x8 == 1) = g := ⟨_, rfl⟩
    have hgd : decide (x8 = 1) = g1 := by rw [← hg1]; rfl
    have HGD := Lib.hid hgd; clear hgd
    have hslb : 0 ≤ sill ∧ sill ≤ 100000 := by rw [← HSL.out]; split <;> omega
    go_enter Try.func20, Try.ntmps20
    have B0_0 := B0I
    have B1_0 := B1I
    have RES0_0 := RES0I
    have RES1_0 := RES1I
    have HW0 := HE0
    go_wp2_with fail
    with_reducible refine (copyLock_any _ _ _ _ _ _ _ _ _ _ _ _ ts _ HN.out HS.out HTS.out (HF.out.ext HE0.out)).mono ?_
    rintro e w1 ⟨p, q, es, rfl, hg1, hb⟩
    have hown := Lib.hid (hg1.ownAt); clear hg1
    have HW1 := Lib.hid (HW0.out.trans hb)
    have B0_1 := Lib.hid (B0_0.out.ext hb)
    have B1_1 := Lib.hid (B1_0.out.ext hb)
    have RES0_1 := Lib.hid (RES0_0.out.ext hb)
    have RES1_1 := Lib.hid (RES1_0.out.ext hb)
    have zz1 := hb.size
    simp only [World.size_alloc] at zz1
    clear HW0 B0_0 B1_0 RES0_0 RES1_0 hb
    have OT_1 := hown; clear hown
    obtain ⟨bX, hbX⟩ : ∃ x, x = w1.heap.size := ⟨_, rfl⟩
    obtain ⟨w2, hw2⟩ : ∃ x, x = w1.alloc (.cells #[.int .i64 x0, .int .i64 x1, .int .i64 x2, .int .i64 x3, .int .i64 x4, .int .i64 x5, .int .i64 x6, .int .i64 x7, .int .i64 x8, .slice p n q] 26) := ⟨_, rfl⟩
    have hal := (Ext.refl w1).alloc (.cells #[.int .i64 x0, .int .i64 x1, .int .i64 x2, .int .i64 x3, .int .i64 x4, .int .i64 x5, .int .i64 x6, .int .i64 x7, .int .i64 x8, .slice p n q] 26)
    have Xq := Lib.hid (RowAt.new w1 26 #[.int .i64 x0, .int .i64 x1, .int .i64 x2, .int .i64 x3, .int .i64 x4, .int .i64 x5, .int .i64 x6, .int .i64 x7, .int .i64 x8, .slice p n q])
    rw [← hw2] at hal Xq
    rw [← hbX] at Xq
    have lX := Xq.out.lt
    have mX : w1.heap.size ≤ bX := Nat.le_of_eq hbX.symm
    have nX : bX ≤ w1.heap.size := Nat.le_of_eq hbX
    have e0 : (w1.alloc (.cells #[.int .i64 x0, .int .i64 x1, .int .i64 x2, .int .i64 x3, .int .i64 x4, .int .i64 x5, .int .i64 x6, .int .i64 x7, .int .i64 x8, .slice p n q] 26)).cell? ⟨w.heap.size, 0, none⟩ = some (.int .i64 x0) := (B0_1.out.ext ((Ext.refl _).alloc _)).cell rfl
    have e1 : (w1.alloc (.cells #[.int .i64 x0, .int .i64 x1, .int .i64 x2, .int .i64 x3, .int .i64 x4, .int .i64 x5, .int .i64 x6, .int .i64 x7, .int .i64 x8, .slice p n q] 26)).cell? ⟨w.heap.size, 1, none⟩ = some (.int .i64 x1) := (B0_1.out.ext ((Ext.refl _).alloc _)).cell rfl
    have e2 : (w1.alloc (.cells #[.int .i64 x0, .int .i64 x1, .int .i64 x2, .int .i64 x3, .int .i64 x4, .int .i64 x5, .int .i64 x6, .int .i64 x7, .int .i64 x8, .slice p n q] 26)).cell? ⟨w.heap.size, 2, none⟩ = some (.int .i64 x2) := (B0_1.out.ext ((Ext.refl _).alloc _)).cell rfl
    have e3 : (w1.alloc (.cells #[.int .i64 x0, .int .i64 x1, .int .i64 x2, .int .i64 x3, .int .i64 x4, .int .i64 x5, .int .i64 x6, .int .i64 x7, .int .i64 x8, .slice p n q] 26)).cell? ⟨w.heap.size, 3, none⟩ = some (.int .i64 x3) := (B0_1.out.ext ((Ext.refl _).alloc _)).cell rfl
    have e4 : (w1.alloc (.cells #[.int .i64 x0, .int .i64 x1, .int .i64 x2, .int .i64 x3, .int .i64 x4, .int .i64 x5, .int .i64 x6, .int .i64 x7, .int .i64 x8, .slice p n q] 26)).cell? ⟨w.heap.size, 4, none⟩ = some (.int .i64 x4) := (B0_1.out.ext ((Ext.refl _).alloc _)).cell rfl
    have e5 : (w1.alloc (.cells #[.int .i64 x0, .int .i64 x1, .int .i64 x2, .int .i64 x3, .int .i64 x4, .int .i64 x5, .int .i64 x6, .int .i64 x7, .int .i64 x8, .slice p n q] 26)).cell? ⟨w.heap.size, 5, none⟩ = some (.int .i64 x5) := (B0_1.out.ext ((Ext.refl _).alloc _)).cell rfl
    have e6 : (w1.alloc (.cells #[.int .i64 x0, .int .i64 x1, .int .i64 x2, .int .i64 x3, .int .i64 x4, .int .i64 x5, .int .i64 x6, .int .i64 x7, .int .i64 x8, .slice p n q] 26)).cell? ⟨w.heap.size, 6, none⟩ = some (.int .i64 x6) := (B0_1.out.ext ((Ext.refl _).alloc _)).cell rfl
    have e7 : (w1.alloc (.cells #[.int .i64 x0, .int .i64 x1, .int .i64 x2, .int .i64 x3, .int .i64 x4, .int .i64 x5, .int .i64 x6, .int .i64 x7, .int .i64 x8, .slice p n q] 26)).cell? ⟨w.heap.size, 7, none⟩ = some (.int .i64 x7) := (B0_1.out.ext ((Ext.refl _).alloc _)).cell rfl
    have e8 : (w1.alloc (.cells #[.int .i64 x0, .int .i64 x1, .int .i64 x2, .int .i64 x3, .int .i64 x4, .int .i64 x5, .int .i64 x6, .int .i64 x7, .int .i64 x8, .slice p n q] 26)).cell? ⟨w.heap.size, 8, none⟩ = some (.int .i64 x8) := (B0_1.out.ext ((Ext.refl _).alloc _)).cell rfl
    have e9 : (w1.alloc (.cells #[.int .i64 x0, .int .i64 x1, .int .i64 x2, .int .i64 x3, .int .i64 x4, .int .i64 x5, .int .i64 x6, .int .i64 x7, .int .i64 x8, .slice p n q] 26)).cell? ⟨w.heap.size, 9, none⟩ = some (.slice a n c) := (B0_1.out.ext ((Ext.refl _).alloc _)).cell rfl
    go_wp2_with fail
    clear e0 e1 e2 e3 e4 e5 e6 e7 e8 e9
    (try rw [← hw2])
    (try rw [← hbX])
    clear hw2 hbX
    have HW2 := Lib.hid (HW1.out.trans hal)
    have B0_2 := Lib.hid (B0_1.out.ext hal)
    have B1_2 := Lib.hid (B1_1.out.ext hal)
    have RES0_2 := Lib.hid (RES0_1.out.ext hal)
    have RES1_2 := Lib.hid (RES1_1.out.ext hal)
    have OT_2 := Lib.hid (OT_1.out.ext hal)
    have zz2 := hal.size
    clear HW1 B0_1 B1_1 RES0_1 RES1_1 OT_1 hal
    have X_2 := Xq; clear Xq
    have zw : ((((w.alloc (.cells #[.int .i64 x0, .int .i64 x1, .int .i64 x2, .int .i64 x3, .int .i64 x4, .int .i64 x5, .int .i64 x6, .int .i64 x7, .int .i64 x8, .slice a n c] 26)).alloc (.cells #[.slice ta tn tc, .int .i64 vol, .slice pa pn pc] 33)).alloc (.cells #[.int .i64 0, .int .i64 0, .int .i64 0, .int .i64 0, .int .i64 0, .int .i64 0, .int .i64 0, .int .i64 0, .int .i64 0, .slice none 0 0] 26)).alloc (.cells #[.bool false, .slice none 0 0] 47)).heap.size = w.heap.size + 1 + 1 + 1 + 1 := by simp only [World.size_alloc]
    with_reducible refine (implLockOk_any true _ _ _ _ _ _ _ _ _ _ _ _ ts _ HN.out HS.out HTS.out (HF.out.ext HW2.out) HK1.out).mono ?_
    rintro e w3 ⟨rfl, hb⟩
    have HW3 := Lib.hid (HW2.out.trans hb)
    have B0_3 := Lib.hid (B0_2.out.ext hb)
    have B1_3 := Lib.hid (B1_2.out.ext hb)
    have RES0_3 := Lib.hid (RES0_2.out.ext hb)
    have RES1_3 := Lib.hid (RES1_2.out.ext hb)
    have X_3 := Lib.hid (X_2.out.ext hb)
    have OT_3 := Lib.hid (OT_2.out.ext hb)
    have zz3 := hb.size
    clear HW2 B0_2 B1_2 RES0_2 RES1_2 X_2 OT_2 hb
    have cB10 : w3.cell? ⟨w.heap.size + 1, 0, none⟩ = some (.slice ta tn tc) := B1_3.out.cell rfl
    have cB11 : w3.cell? ⟨w.heap.size + 1, 1, none⟩ = some (.int .i64 vol) := B1_3.out.cell rfl
    have cB12 : w3.cell? ⟨w.heap.size + 1, 2, none⟩ = some (.slice pa pn pc) := B1_3.out.cell rfl
    go_wp2_with fail
    with_reducible refine (implReachOk_is true _ _ _ _ _ _ _ ps xs _ HT.out HTL.out HP.out HPL.out (HFT.out.ext HW3.out) (HFP.out.ext HW3.out) hvol HK2.out).mono ?_
    rintro e w4 ⟨rfl, hb⟩
    clear cB10 cB11 cB12
    have HW4 := Lib.hid (HW3.out.trans hb)
    have B0_4 := Lib.hid (B0_3.out.ext hb)
    have B1_4 := Lib.hid (B1_3.out.ext hb)
    have RES0_4 := Lib.hid (RES0_3.out.ext hb)
    have RES1_4 := Lib.hid (RES1_3.out.ext hb)
    have X_4 := Lib.hid (X_3.out.ext hb)
    have OT_4 := Lib.hid (OT_3.out.ext hb)
    have zz4 := hb.size
    clear HW3 B0_3 B1_3 RES0_3 RES1_3 X_3 OT_3 hb
    have cB00 : w4.cell? ⟨w.heap.size, 0, none⟩ = some (.int .i64 x0) := B0_4.out.cell rfl
    have cB01 : w4.cell? ⟨w.heap.size, 1, none⟩ = some (.int .i64 x1) := B0_4.out.cell rfl
    have cB02 : w4.cell? ⟨w.heap.size, 2, none⟩ = some (.int .i64 x2) := B0_4.out.cell rfl
    have cB03 : w4.cell? ⟨w.heap.size, 3, none⟩ = some (.int .i64 x3) := B0_4.out.cell rfl
    have cB04 : w4.cell? ⟨w.heap.size, 4, none⟩ = some (.int .i64 x4) := B0_4.out.cell rfl
    have cB05 : w4.cell? ⟨w.heap.size, 5, none⟩ = some (.int .i64 x5) := B0_4.out.cell rfl
    have cB06 : w4.cell? ⟨w.heap.size, 6, none⟩ = some (.int .i64 x6) := B0_4.out.cell rfl
    have cB07 : w4.cell? ⟨w.heap.size, 7, none⟩ = some (.int .i64 x7) := B0_4.out.cell rfl
    have cB08 : w4.cell? ⟨w.heap.size, 8, none⟩ = some (.int .i64 x8) := B0_4.out.cell rfl
    have cB09 : w4.cell? ⟨w.heap.size, 9, none⟩ = some (.slice a n c) := B0_4.out.cell rfl
    go_wp2
    obtain ⟨wL, hwL⟩ : ∃ x, x = w4 := ⟨_, rfl⟩
    clear hwL
    clear cB00 cB01 cB02 cB03 cB04 cB05 cB06 cB07 cB08 cB09
    go_loopw [30] (fun i wr => ∃ (k : Nat), k ≤ n ∧ i = .int .i64 k ∧ Hid (Ext w4 wr) ∧ Hid (R = leaveGo x8 sill lev k (ts.drop k))) (fun i _ => n - (intOf i).toNat)
    case atStart => exact ⟨0, Nat.zero_le _, rfl, Lib.hid (Ext.refl _), Lib.hid (by rw [List.drop_zero]; exact HR0.out.symm)⟩
    case round =>
      obtain ⟨k, hk, rfl, hr, hgo⟩ := hrel
      obtain ⟨w5, rfl⟩ : ∃ x, x = wr := ⟨_, rfl⟩
      have zr := hr.out.size
      have HW5 := Lib.hid (HW4.out.trans hr.out)
      have B0_5 := Lib.hid (B0_4.out.ext hr.out)
      have B1_5 := Lib.hid (B1_4.out.ext hr.out)
      have RES0_5 := Lib.hid (RES0_4.out.ext hr.out)
      have RES1_5 := Lib.hid (RES1_4.out.ext hr.out)
      have X_5 := Lib.hid (X_4.out.ext hr.out)
      have OT_5 := Lib.hid (OT_4.out.ext hr.out)
      clear HW4 B0_4 B1_4 RES0_4 RES1_4 X_4 OT_4
      by_cases hlt : k < n
      case neg =>
        have hd : ts.drop k = [] := List.drop_eq_nil_of_le (by rw [← HN.out]; omega)
        have hRn : R = none := by rw [hgo.out, hd]; rfl
        obtain ⟨e1, e2, e3, e4⟩ := leave_inj (show (ts, (false, []), false) = (ts1, (ut, rows1), ok) by rw [← HRES.out, hRn]; rfl)
        subst e2 e3 e4
        have HNR := Lib.hid (show n1 = n by rw [HN1.out, HN.out, e1])
        have HMR := Lib.hid (show m1 = 0 from HM1.out)
        have E1 := Lib.hid e1; clear e1 hgo hd hRn
        have cB00 : w5.cell? ⟨w.heap.size, 0, none⟩ = some (.int .i64 x0) := B0_5.out.cell rfl
        have cB01 : w5.cell? ⟨w.heap.size, 1, none⟩ = some (.int .i64 x1) := B0_5.out.cell rfl
        have cB02 : w5.cell? ⟨w.heap.size, 2, none⟩ = some (.int .i64 x2) := B0_5.out.cell rfl
        have cB03 : w5.cell? ⟨w.heap.size, 3, none⟩ = some (.int .i64 x3) := B0_5.out.cell rfl
        have cB04 : w5.cell? ⟨w.heap.size, 4, none⟩ = some (.int .i64 x4) := B0_5.out.cell rfl
        have cB05 : w5.cell? ⟨w.heap.size, 5, none⟩ = some (.int .i64 x5) := B0_5.out.cell rfl
        have cB06 : w5.cell? ⟨w.heap.size, 6, none⟩ = some (.int .i64 x6) := B0_5.out.cell rfl
        have cB07 : w5.cell? ⟨w.heap.size, 7, none⟩ = some (.int .i64 x7) := B0_5.out.cell rfl
        have cB08 : w5.cell? ⟨w.heap.size, 8, none⟩ = some (.int .i64 x8) := B0_5.out.cell rfl
        have cB09 : w5.cell? ⟨w.heap.size, 9, none⟩ = some (.slice a n c) := B0_5.out.cell rfl
        have q0 : w5.cell? ⟨bX, 0, none⟩ = some (.int .i64 x0) := X_5.out.cell rfl
        have q1 : w5.cell? ⟨bX, 1, none⟩ = some (.int .i64 x1) := X_5.out.cell rfl
        have q2 : w5.cell? ⟨bX, 2, none⟩ = some (.int .i64 x2) := X_5.out.cell rfl
        have q3 : w5.cell? ⟨bX, 3, none⟩ = some (.int .i64 x3) := X_5.out.cell rfl
        have q4 : w5.cell? ⟨bX, 4, none⟩ = some (.int .i64 x4) := X_5.out.cell rfl
        have q5 : w5.cell? ⟨bX, 5, none⟩ = some (.int .i64 x5) := X_5.out.cell rfl
        have q6 : w5.cell? ⟨bX, 6, none⟩ = some (.int .i64 x6) := X_5.out.cell rfl
        have q7 : w5.cell? ⟨bX, 7, none⟩ = some (.int .i64 x7) := X_5.out.cell rfl
        have q8 : w5.cell? ⟨bX, 8, none⟩ = some (.int .i64 x8) := X_5.out.cell rfl
        have q9 : w5.cell? ⟨bX, 9, none⟩ = some (.slice p n q) := X_5.out.cell rfl
        have r0_0 : w5.cell? ⟨w.heap.size + 1 + 1, 0, none⟩ = some (.int .i64 0) := RES0_5.out.cell rfl; have g0_0 := RES0_5.out.frozen 0
        have r0_1 : w5.cell? ⟨w.heap.size + 1 + 1, 1, none⟩ = some (.int .i64 0) := RES0_5.out.cell rfl; have g0_1 := RES0_5.out.frozen 1
        have r0_2 : w5.cell? ⟨w.heap.size + 1 + 1, 2, none⟩ = some (.int .i64 0) := RES0_5.out.cell rfl; have g0_2 := RES0_5.out.frozen 2
        have r0_3 : w5.cell? ⟨w.heap.size + 1 + 1, 3, none⟩ = some (.int .i64 0) := RES0_5.out.cell rfl; have g0_3 := RES0_5.out.frozen 3
        have r0_4 : w5.cell? ⟨w.heap.size + 1 + 1, 4, none⟩ = some (.int .i64 0) := RES0_5.out.cell rfl; have g0_4 := RES0_5.out.frozen 4
        have r0_5 : w5.cell? ⟨w.heap.size + 1 + 1, 5, none⟩ = some (.int .i64 0) := RES0_5.out.cell rfl; have g0_5 := RES0_5.out.frozen 5
        have r0_6 : w5.cell? ⟨w.heap.size + 1 + 1, 6, none⟩ = some (.int .i64 0) := RES0_5.out.cell rfl; have g0_6 := RES0_5.out.frozen 6
        have r0_7 : w5.cell? ⟨w.heap.size + 1 + 1, 7, none⟩ = some (.int .i64 0) := RES0_5.out.cell rfl; have g0_7 := RES0_5.out.frozen 7
        have r0_8 : w5.cell? ⟨w.heap.size + 1 + 1, 8, none⟩ = some (.int .i64 0) := RES0_5.out.cell rfl; have g0_8 := RES0_5.out.frozen 8
        have r0_9 : w5.cell? ⟨w.heap.size + 1 + 1, 9, none⟩ = some (.slice none 0 0) := RES0_5.out.cell rfl; have g0_9 := RES0_5.out.frozen 9
        have r1_0 : w5.cell? ⟨w.heap.size + 1 + 1 + 1, 0, none⟩ = some (.bool false) := RES1_5.out.cell rfl; have g1_0 := RES1_5.out.frozen 0
        have r1_1 : w5.cell? ⟨w.heap.size + 1 + 1 + 1, 1, none⟩ = some (.slice none 0 0) := RES1_5.out.cell rfl; have g1_1 := RES1_5.out.frozen 1
        go_wp2
        have zP : (putAt (putAt w5 (w.heap.size + 1 + 1) 0 [.int .i64 x0, .int .i64 x1, .int .i64 x2, .int .i64 x3, .int .i64 x4, .int .i64 x5, .int .i64 x6, .int .i64 x7, .int .i64 x8, .slice p n q]) (w.heap.size + 1 + 1 + 1) 0 [.bool false, .slice none 0 0]).heap.size = w5.heap.size := (put_size _ _ _ _).trans (put_size _ _ _ _)
        have PT : OwnTrains (putAt (putAt w5 (w.heap.size + 1 + 1) 0 [.int .i64 x0, .int .i64 x1, .int .i64 x2, .int .i64 x3, .int .i64 x4, .int .i64 x5, .int .i64 x6, .int .i64 x7, .int .i64 x8, .slice p n q]) (w.heap.size + 1 + 1 + 1) 0 [.bool false, .slice none 0 0]) (((((w.alloc (.cells #[.int .i64 x0, .int .i64 x1, .int .i64 x2, .int .i64 x3, .int .i64 x4, .int .i64 x5, .int .i64 x6, .int .i64 x7, .int .i64 x8, .slice a n c] 26)).alloc (.cells #[.slice ta tn tc, .int .i64 vol, .slice pa pn pc] 33)).alloc (.cells #[.int .i64 0, .int .i64 0, .int .i64 0, .int .i64 0, .int .i64 0, .int .i64 0, .int .i64 0, .int .i64 0, .int .i64 0, .slice none 0 0] 26)).alloc (.cells #[.bool false, .slice none 0 0] 47)).heap.size) (w1.heap.size) p ts := OT_5.out.keep (Nat.le_refl _) (Nat.le_refl _) (fun B t c h1 h2 hr => put_other (by omega) _ _ _ (put_other (by omega) _ _ _ hr))
        have PX : Ext w (putAt (putAt w5 (w.heap.size + 1 + 1) 0 [.int .i64 x0, .int .i64 x1, .int .i64 x2, .int .i64 x3, .int .i64 x4, .int .i64 x5, .int .i64 x6, .int .i64 x7, .int .i64 x8, .slice p n q]) (w.heap.size + 1 + 1 + 1) 0 [.bool false, .slice none 0 0]) := put_ext (by omega) _ _ _ (put_ext (by omega) _ _ _ HW5.out)
        refine bodyPost_ret (v := .tuple #[.agg #[.int .i64 x0, .int .i64 x1, .int .i64 x2, .int .i64 x3, .int .i64 x4, .int .i64 x5, .int .i64 x6, .int .i64 x7, .int .i64 x8, .slice p n q], .agg #[.bool false, .slice none 0 0], .bool false]) (by simp [results, Try.results20, go_sem, *]) rfl ⟨p, q, none, 0, (by first | rfl | (rw [HNR.out, HMR.out])), (E1.out ▸ LockTrain.none (w' := (putAt (putAt w5 (w.heap.size + 1 + 1) 0 [.int .i64 x0, .int .i64 x1, .int .i64 x2, .int .i64 x3, .int .i64 x4, .int .i64 x5, .int .i64 x6, .int .i64 x7, .int .i64 x8, .slice p n q]) (w.heap.size + 1 + 1 + 1) 0 [.bool false, .slice none 0 0])) (by omega) (by omega) (by omega) PT), PX⟩
      case pos =>
        have hlt' : k < ts.length := by rw [← HN.out]; exact hlt
        obtain ⟨b, off, a', c', rfl, hc0, hc1, hml, hfr⟩ := HF.out k hlt'
        have e0 := HW5.out.cell hc0
        have e1 := HW5.out.cell hc1
        have HFR := Lib.hid hfr; clear hfr hc0 hc1
        have HLX := hr
        have HD2 := Lib.hid (show R = leaveGo x8 sill lev k (ts[k] :: ts.drop (k + 1)) by rw [hgo.out, List.drop_eq_getElem_cons hlt'])
        have HGT := Lib.hid (show ts.getD k (false, []) = ts[k] by rw [List.getD_eq_getElem?_getD, List.getElem?_eq_getElem hlt']; rfl)
        obtain ⟨g9, g2, g3⟩ := HTS.out ts[k] (List.getElem_mem _)
        obtain ⟨t, ht'⟩ : ∃ t, ts[k] = t := ⟨_, rfl⟩
        rw [ht'] at e0 e1 HFR HD2 HGT hml g9 g2 g3
        clear ht' hgo hlt'
        obtain ⟨u, rows⟩ := t
        dsimp only at e0 e1 HFR HD2 HGT hml g9 g2 g3
        obtain ⟨m, hm⟩ : ∃ m, m = rows.length := ⟨_, rfl⟩
        rw [← hm] at e1 g9
        have HM := Lib.hid hm; have HG1 := Lib.hid g9; have HG2 := Lib.hid g2; have HG3 := Lib.hid g3; clear hm g9 g2 g3 hml
        obtain ⟨dra, hdra⟩ : ∃ x, draughtOf rows = x := ⟨_, rfl⟩
        obtain ⟨m5, hm5⟩ : ∃ m, (u == g1) = m := ⟨_, rfl⟩
        obtain ⟨d5, hd5⟩ : ∃ d, decide (dra ≤ lev - sill) = d := ⟨_, rfl⟩
        have HD3 := Lib.hid (show R = if (m5 && d5) = true then some k else leaveGo x8 sill lev (k + 1) (ts.drop (k + 1)) by rw [HD2.out, leaveGo_cons]; unfold goesOut; dsimp only; rw [HGD.out, hm5, hdra, hd5]); clear HD2
        have HDR := Lib.hid hdra; clear hdra
        have wls : IntKind.i64.wrap (lev - sill) = lev - sill := IntWalk.i64_in _ (by omega)
        obtain ⟨W, hW⟩ : ∃ W, w5.alloc (.cells #[.bool u, .slice a' m c'] 47) = W := ⟨_, rfl⟩
        obtain ⟨bT, hbT⟩ : ∃ x, w5.heap.size = x := ⟨_, rfl⟩
        have A5 := RowAt.new w5 47 #[.bool u, .slice a' m c']
        have hal : Ext w5 W := by rw [← hW]; exact (Ext.refl w5).alloc _
        rw [hW, hbT] at A5
        have lT := A5.lt; have mT : w5.heap.size ≤ bT := Nat.le_of_eq hbT; have nT : bT ≤ w5.heap.size := Nat.le_of_eq hbT.symm
        have HWN := Lib.hid hW; have HBT := Lib.hid hbT; clear hW hbT
        have A5 := Lib.hid A5
        have cB00 : w5.cell? ⟨w.heap.size, 0, none⟩ = some (.int .i64 x0) := B0_5.out.cell rfl
        have cB01 : w5.cell? ⟨w.heap.size, 1, none⟩ = some (.int .i64 x1) := B0_5.out.cell rfl
        have cB02 : w5.cell? ⟨w.heap.size, 2, none⟩ = some (.int .i64 x2) := B0_5.out.cell rfl
        have cB03 : w5.cell? ⟨w.heap.size, 3, none⟩ = some (.int .i64 x3) := B0_5.out.cell rfl
        have cB04 : w5.cell? ⟨w.heap.size, 4, none⟩ = some (.int .i64 x4) := B0_5.out.cell rfl
        have cB05 : w5.cell? ⟨w.heap.size, 5, none⟩ = some (.int .i64 x5) := B0_5.out.cell rfl
        have cB06 : w5.cell? ⟨w.heap.size, 6, none⟩ = some (.int .i64 x6) := B0_5.out.cell rfl
        have cB07 : w5.cell? ⟨w.heap.size, 7, none⟩ = some (.int .i64 x7) := B0_5.out.cell rfl
        have cB08 : w5.cell? ⟨w.heap.size, 8, none⟩ = some (.int .i64 x8) := B0_5.out.cell rfl
        have cB09 : w5.cell? ⟨w.heap.size, 9, none⟩ = some (.slice (some ⟨b, off, none⟩) n c) := B0_5.out.cell rfl
        go_wp2_with fail
        clear cB00 cB01 cB02 cB03 cB04 cB05 cB06 cB07 cB08 cB09
        (try rw [HWN.out])
        (try rw [HBT.out])
        clear e0 e1 HWN HBT
        have HW6 := Lib.hid (HW5.out.trans hal)
        have B0_6 := Lib.hid (B0_5.out.ext hal)
        have B1_6 := Lib.hid (B1_5.out.ext hal)
        have RES0_6 := Lib.hid (RES0_5.out.ext hal)
        have RES1_6 := Lib.hid (RES1_5.out.ext hal)
        have X_6 := Lib.hid (X_5.out.ext hal)
        have OT_6 := Lib.hid (OT_5.out.ext hal)
        replace HLX := Lib.hid (HLX.out.trans hal)
        have zz6 := hal.size
        clear HW5 B0_5 B1_5 RES0_5 RES1_5 X_5 OT_5 hal
        have T_6 := A5; clear A5
        cases m5
        case false =>
          have HG := Lib.hid (show R = leaveGo x8 sill lev (k + 1) (ts.drop (k + 1)) by rw [HD3.out]; simp)
          have cB00 : ∀ y : Aft W, y.1.cell? ⟨w.heap.size, 0, none⟩ = some (.int .i64 x0) := fun y => (B0_6.out.ext y.2).cell rfl
          have cB01 : ∀ y : Aft W, y.1.cell? ⟨w.heap.size, 1, none⟩ = some (.int .i64 x1) := fun y => (B0_6.out.ext y.2).cell rfl
          have cB02 : ∀ y : Aft W, y.1.cell? ⟨w.heap.size, 2, none⟩ = some (.int .i64 x2) := fun y => (B0_6.out.ext y.2).cell rfl
          have cB03 : ∀ y : Aft W, y.1.cell? ⟨w.heap.size, 3, none⟩ = some (.int .i64 x3) := fun y => (B0_6.out.ext y.2).cell rfl
          have cB04 : ∀ y : Aft W, y.1.cell? ⟨w.heap.size, 4, none⟩ = some (.int .i64 x4) := fun y => (B0_6.out.ext y.2).cell rfl
          have cB05 : ∀ y : Aft W, y.1.cell? ⟨w.heap.size, 5, none⟩ = some (.int .i64 x5) := fun y => (B0_6.out.ext y.2).cell rfl
          have cB06 : ∀ y : Aft W, y.1.cell? ⟨w.heap.size, 6, none⟩ = some (.int .i64 x6) := fun y => (B0_6.out.ext y.2).cell rfl
          have cB07 : ∀ y : Aft W, y.1.cell? ⟨w.heap.size, 7, none⟩ = some (.int .i64 x7) := fun y => (B0_6.out.ext y.2).cell rfl
          have cB08 : ∀ y : Aft W, y.1.cell? ⟨w.heap.size, 8, none⟩ = some (.int .i64 x8) := fun y => (B0_6.out.ext y.2).cell rfl
          have cB09 : ∀ y : Aft W, y.1.cell? ⟨w.heap.size, 9, none⟩ = some (.slice (some ⟨b, off, none⟩) n c) := fun y => (B0_6.out.ext y.2).cell rfl
          have cB10 : ∀ y : Aft W, y.1.cell? ⟨w.heap.size + 1, 0, none⟩ = some (.slice ta tn tc) := fun y => (B1_6.out.ext y.2).cell rfl
          have cB11 : ∀ y : Aft W, y.1.cell? ⟨w.heap.size + 1, 1, none⟩ = some (.int .i64 vol) := fun y => (B1_6.out.ext y.2).cell rfl
          have cB12 : ∀ y : Aft W, y.1.cell? ⟨w.heap.size + 1, 2, none⟩ = some (.slice pa pn pc) := fun y => (B1_6.out.ext y.2).cell rfl
          have cT0 : ∀ y : Aft W, y.1.cell? ⟨bT, 0, none⟩ = some (.bool u) := fun y => (T_6.out.ext y.2).cell rfl
          have cT1 : ∀ y : Aft W, y.1.cell? ⟨bT, 1, none⟩ = some (.slice a' m c') := fun y => (T_6.out.ext y.2).cell rfl
          (refine wp_region_aft W (Ext.refl _) (by kernel_rfl) (by kernel_rfl) ?_; (repeat (go_big_quiet_step ((first | (go_at_call 12; exact aft_call (implLevel_is lev _ _ _ _ _ _ _ ps xs _ HT.out HTL.out HP.out HPL.out (HFT.out.ext (HW6.out.trans (Subtype.property _))) (HFP.out.ext (HW6.out.trans (Subtype.property _))) hvol HLV.out)) | (go_at_call 44; exact aft_call (sillOf_any _ _ _ _ _ _ _ _ _ x8 sill _ _ _ _ HSL.out)) | (go_at_call 18; exact aft_call (implDraught_is dra _ _ _ _ rows _ HM.out HG1.out HG3.out (HFR.out.ext (HW6.out.trans (Subtype.property _))) HDR.out)))))); refine wpQuiet_nil ?_; intro w2 hx2)
          clear cB00 cB01 cB02 cB03 cB04 cB05 cB06 cB07 cB08 cB09 cB10 cB11 cB12 cT0 cT1
          obtain ⟨w5, hq⟩ : ∃ x, x = w2 := ⟨_, rfl⟩; subst hq
          have HW7 := Lib.hid (HW6.out.trans hx2)
          have B0_7 := Lib.hid (B0_6.out.ext hx2)
          have B1_7 := Lib.hid (B1_6.out.ext hx2)
          have RES0_7 := Lib.hid (RES0_6.out.ext hx2)
          have RES1_7 := Lib.hid (RES1_6.out.ext hx2)
          have X_7 := Lib.hid (X_6.out.ext hx2)
          have T_7 := Lib.hid (T_6.out.ext hx2)
          have OT_7 := Lib.hid (OT_6.out.ext hx2)
          replace HLX := Lib.hid (HLX.out.trans hx2)
          have zz7 := hx2.size
          clear HW6 B0_6 B1_6 RES0_6 RES1_6 X_6 T_6 OT_6 hx2
          go_wp2
          go_roundw
          case rel => exact ⟨k + 1, by omega, by go_num, HLX, HG⟩
          case measure => simp [intOf]; omega
        case true =>
          cases d5
          case false =>
            have HG := Lib.hid (show R = leaveGo x8 sill lev (k + 1) (ts.drop (k + 1)) by rw [HD3.out]; simp)
            have cB00 : ∀ y : Aft W, y.1.cell? ⟨w.heap.size, 0, none⟩ = some (.int .i64 x0) := fun y => (B0_6.out.ext y.2).cell rfl
            have cB01 : ∀ y : Aft W, y.1.cell? ⟨w.heap.size, 1, none⟩ = some (.int .i64 x1) := fun y => (B0_6.out.ext y.2).cell rfl
            have cB02 : ∀ y : Aft W, y.1.cell? ⟨w.heap.size, 2, none⟩ = some (.int .i64 x2) := fun y => (B0_6.out.ext y.2).cell rfl
            have cB03 : ∀ y : Aft W, y.1.cell? ⟨w.heap.size, 3, none⟩ = some (.int .i64 x3) := fun y => (B0_6.out.ext y.2).cell rfl
            have cB04 : ∀ y : Aft W, y.1.cell? ⟨w.heap.size, 4, none⟩ = some (.int .i64 x4) := fun y => (B0_6.out.ext y.2).cell rfl
            have cB05 : ∀ y : Aft W, y.1.cell? ⟨w.heap.size, 5, none⟩ = some (.int .i64 x5) := fun y => (B0_6.out.ext y.2).cell rfl
            have cB06 : ∀ y : Aft W, y.1.cell? ⟨w.heap.size, 6, none⟩ = some (.int .i64 x6) := fun y => (B0_6.out.ext y.2).cell rfl
            have cB07 : ∀ y : Aft W, y.1.cell? ⟨w.heap.size, 7, none⟩ = some (.int .i64 x7) := fun y => (B0_6.out.ext y.2).cell rfl
            have cB08 : ∀ y : Aft W, y.1.cell? ⟨w.heap.size, 8, none⟩ = some (.int .i64 x8) := fun y => (B0_6.out.ext y.2).cell rfl
            have cB09 : ∀ y : Aft W, y.1.cell? ⟨w.heap.size, 9, none⟩ = some (.slice (some ⟨b, off, none⟩) n c) := fun y => (B0_6.out.ext y.2).cell rfl
            have cB10 : ∀ y : Aft W, y.1.cell? ⟨w.heap.size + 1, 0, none⟩ = some (.slice ta tn tc) := fun y => (B1_6.out.ext y.2).cell rfl
            have cB11 : ∀ y : Aft W, y.1.cell? ⟨w.heap.size + 1, 1, none⟩ = some (.int .i64 vol) := fun y => (B1_6.out.ext y.2).cell rfl
            have cB12 : ∀ y : Aft W, y.1.cell? ⟨w.heap.size + 1, 2, none⟩ = some (.slice pa pn pc) := fun y => (B1_6.out.ext y.2).cell rfl
            have cT0 : ∀ y : Aft W, y.1.cell? ⟨bT, 0, none⟩ = some (.bool u) := fun y => (T_6.out.ext y.2).cell rfl
            have cT1 : ∀ y : Aft W, y.1.cell? ⟨bT, 1, none⟩ = some (.slice a' m c') := fun y => (T_6.out.ext y.2).cell rfl
            (refine wp_region_aft W (Ext.refl _) (by kernel_rfl) (by kernel_rfl) ?_; (repeat (go_big_quiet_step ((first | (go_at_call 12; exact aft_call (implLevel_is lev _ _ _ _ _ _ _ ps xs _ HT.out HTL.out HP.out HPL.out (HFT.out.ext (HW6.out.trans (Subtype.property _))) (HFP.out.ext (HW6.out.trans (Subtype.property _))) hvol HLV.out)) | (go_at_call 44; exact aft_call (sillOf_any _ _ _ _ _ _ _ _ _ x8 sill _ _ _ _ HSL.out)) | (go_at_call 18; exact aft_call (implDraught_is dra _ _ _ _ rows _ HM.out HG1.out HG3.out (HFR.out.ext (HW6.out.trans (Subtype.property _))) HDR.out)))))); refine wpQuiet_nil ?_; intro w2 hx2)
            clear cB00 cB01 cB02 cB03 cB04 cB05 cB06 cB07 cB08 cB09 cB10 cB11 cB12 cT0 cT1
            obtain ⟨w5, hq⟩ : ∃ x, x = w2 := ⟨_, rfl⟩; subst hq
            have HW7 := Lib.hid (HW6.out.trans hx2)
            have B0_7 := Lib.hid (B0_6.out.ext hx2)
            have B1_7 := Lib.hid (B1_6.out.ext hx2)
            have RES0_7 := Lib.hid (RES0_6.out.ext hx2)
            have RES1_7 := Lib.hid (RES1_6.out.ext hx2)
            have X_7 := Lib.hid (X_6.out.ext hx2)
            have T_7 := Lib.hid (T_6.out.ext hx2)
            have OT_7 := Lib.hid (OT_6.out.ext hx2)
            replace HLX := Lib.hid (HLX.out.trans hx2)
            have zz7 := hx2.size
            clear HW6 B0_6 B1_6 RES0_6 RES1_6 X_6 T_6 OT_6 hx2
            go_wp2
            go_roundw
            case rel => exact ⟨k + 1, by omega, by go_num, HLX, HG⟩
            case measure => simp [intOf]; omega
          case true =>
            have hRk : R = some k := by rw [HD3.out]; simp
            obtain ⟨e1, e2, e3, e4⟩ := leave_inj (show (ts.take k ++ ts.drop (k + 1), (u, rows), true) = (ts1, (ut, rows1), ok) by rw [← HRES.out, hRk, ← HGT.out]; rfl)
            subst e2 e3 e4
            have HTS1 := Lib.hid e1; clear e1 hRk HD3 HRES HGT
            have HMM := Lib.hid (show m1 = m by rw [HM1.out, HM.out])
            have hk8 : k < 8 := by omega
            have HLT := Lib.hid (show k = (ts.take k).length by rw [List.length_take, ← HN.out]; omega)
            have HLD := Lib.hid (show n - (k + 1) = (ts.drop (k + 1)).length by rw [List.length_drop, ← HN.out])
            have HNN := Lib.hid (show n1 = k + (n - (k + 1)) by rw [HN1.out, ← HTS1.out, List.length_append, ← HLT.out, ← HLD.out])
            have HSA := Lib.hid (show ∀ t ∈ ts.take k, SmallT t from fun t ht => HTS.out t (List.mem_of_mem_take ht))
            have HSB := Lib.hid (show ∀ t ∈ ts.drop (k + 1), SmallT t from fun t ht => HTS.out t (List.mem_of_mem_drop ht))
            have HFA := Lib.hid (HF.out.takeL k)
            have i0 : (0 : Int) ≤ (k : Int) := by omega
            have i1 : (k : Int) ≤ (n : Int) := by omega
            have i2 : (k : Int) ≤ (c : Int) := by omega
            have i3 : (n : Int) ≤ (c : Int) := by omega
            have i5 : (k : Int) ≤ (k : Int) + 1 := by omega
            have j0 : (0 : Int) ≤ (k : Int) + 1 := by omega
            have j1 : (k : Int) + 1 ≤ (n : Int) := by omega
            have j2 : (k : Int) + 1 ≤ (c : Int) := by omega
            have j3 : ((k : Int) + 1).toNat = k + 1 := by omega
            have j4 : IntKind.i64.wrap ((k : Int) + 1) = (k : Int) + 1 := IntWalk.i64_in _ (by omega)
            by_cases hck : c = k + 1
            case pos =>
              have hdn : ts.drop (k + 1) = [] := List.drop_eq_nil_of_le (by rw [← HN.out]; omega)
              have HFB := Lib.hid (show ∀ ad, TrainsAt w ad (ts.drop (k + 1)) from fun ad => by rw [hdn]; exact TrainsAt.none); clear hdn
              have cB00 : ∀ y : Aft W, y.1.cell? ⟨w.heap.size, 0, none⟩ = some (.int .i64 x0) := fun y => (B0_6.out.ext y.2).cell rfl
              have cB01 : ∀ y : Aft W, y.1.cell? ⟨w.heap.size, 1, none⟩ = some (.int .i64 x1) := fun y => (B0_6.out.ext y.2).cell rfl
              have cB02 : ∀ y : Aft W, y.1.cell? ⟨w.heap.size, 2, none⟩ = some (.int .i64 x2) := fun y => (B0_6.out.ext y.2).cell rfl
              have cB03 : ∀ y : Aft W, y.1.cell? ⟨w.heap.size, 3, none⟩ = some (.int .i64 x3) := fun y => (B0_6.out.ext y.2).cell rfl
              have cB04 : ∀ y : Aft W, y.1.cell? ⟨w.heap.size, 4, none⟩ = some (.int .i64 x4) := fun y => (B0_6.out.ext y.2).cell rfl
              have cB05 : ∀ y : Aft W, y.1.cell? ⟨w.heap.size, 5, none⟩ = some (.int .i64 x5) := fun y => (B0_6.out.ext y.2).cell rfl
              have cB06 : ∀ y : Aft W, y.1.cell? ⟨w.heap.size, 6, none⟩ = some (.int .i64 x6) := fun y => (B0_6.out.ext y.2).cell rfl
              have cB07 : ∀ y : Aft W, y.1.cell? ⟨w.heap.size, 7, none⟩ = some (.int .i64 x7) := fun y => (B0_6.out.ext y.2).cell rfl
              have cB08 : ∀ y : Aft W, y.1.cell? ⟨w.heap.size, 8, none⟩ = some (.int .i64 x8) := fun y => (B0_6.out.ext y.2).cell rfl
              have cB09 : ∀ y : Aft W, y.1.cell? ⟨w.heap.size, 9, none⟩ = some (.slice (some ⟨b, off, none⟩) n c) := fun y => (B0_6.out.ext y.2).cell rfl
              have cB10 : ∀ y : Aft W, y.1.cell? ⟨w.heap.size + 1, 0, none⟩ = some (.slice ta tn tc) := fun y => (B1_6.out.ext y.2).cell rfl
              have cB11 : ∀ y : Aft W, y.1.cell? ⟨w.heap.size + 1, 1, none⟩ = some (.int .i64 vol) := fun y => (B1_6.out.ext y.2).cell rfl
              have cB12 : ∀ y : Aft W, y.1.cell? ⟨w.heap.size + 1, 2, none⟩ = some (.slice pa pn pc) := fun y => (B1_6.out.ext y.2).cell rfl
              have cT0 : ∀ y : Aft W, y.1.cell? ⟨bT, 0, none⟩ = some (.bool u) := fun y => (T_6.out.ext y.2).cell rfl
              have cT1 : ∀ y : Aft W, y.1.cell? ⟨bT, 1, none⟩ = some (.slice a' m c') := fun y => (T_6.out.ext y.2).cell rfl
              (refine wp_region_aft W (Ext.refl _) (by kernel_rfl) (by kernel_rfl) ?_; (repeat (go_big_quiet_step ((first | (go_at_call 12; exact aft_call (implLevel_is lev _ _ _ _ _ _ _ ps xs _ HT.out HTL.out HP.out HPL.out (HFT.out.ext (HW6.out.trans (Subtype.property _))) (HFP.out.ext (HW6.out.trans (Subtype.property _))) hvol HLV.out)) | (go_at_call 44; exact aft_call (sillOf_any _ _ _ _ _ _ _ _ _ x8 sill _ _ _ _ HSL.out)) | (go_at_call 18; exact aft_call (implDraught_is dra _ _ _ _ rows _ HM.out HG1.out HG3.out (HFR.out.ext (HW6.out.trans (Subtype.property _))) HDR.out)))))); refine wpQuiet_nil ?_; intro w2 hx2)
              clear cB00 cB01 cB02 cB03 cB04 cB05 cB06 cB07 cB08 cB09 cB10 cB11 cB12 cT0 cT1
              obtain ⟨w5, hq⟩ : ∃ x, x = w2 := ⟨_, rfl⟩; subst hq
              have HW7 := Lib.hid (HW6.out.trans hx2)
              have B0_7 := Lib.hid (B0_6.out.ext hx2)
              have B1_7 := Lib.hid (B1_6.out.ext hx2)
              have RES0_7 := Lib.hid (RES0_6.out.ext hx2)
              have RES1_7 := Lib.hid (RES1_6.out.ext hx2)
              have X_7 := Lib.hid (X_6.out.ext hx2)
              have T_7 := Lib.hid (T_6.out.ext hx2)
              have OT_7 := Lib.hid (OT_6.out.ext hx2)
              replace HLX := Lib.hid (HLX.out.trans hx2)
              have zz7 := hx2.size
              clear HW6 B0_6 B1_6 RES0_6 RES1_6 X_6 T_6 OT_6 hx2
              go_wp2_with fail
              have KB0 := B0_7
              have KX := X_7
              have KRES0 := RES0_7
              have KRES1 := RES1_7
              have KT := T_7
              have HWX := HW7
              refine wp_region_held_drew (S := (fun w' => w'.cell? ⟨w.heap.size, 0, none⟩ = some (.int .i64 x0) ∧ w'.cell? ⟨w.heap.size, 1, none⟩ = some (.int .i64 x1) ∧ w'.cell? ⟨w.heap.size, 2, none⟩ = some (.int .i64 x2) ∧ w'.cell? ⟨w.heap.size, 3, none⟩ = some (.int .i64 x3) ∧ w'.cell? ⟨w.heap.size, 4, none⟩ = some (.int .i64 x4) ∧ w'.cell? ⟨w.heap.size, 5, none⟩ = some (.int .i64 x5) ∧ w'.cell? ⟨w.heap.size, 6, none⟩ = some (.int .i64 x6) ∧ w'.cell? ⟨w.heap.size, 7, none⟩ = some (.int .i64 x7) ∧ w'.cell? ⟨w.heap.size, 8, none⟩ = some (.int .i64 x8) ∧ w'.cell? ⟨w.heap.size, 9, none⟩ = some (.slice (some ⟨b, off, none⟩) n c))) (by kernel_rfl) ?_ (fun hH0 => ?_)
              · (try dsimp only)
                (exact ⟨KB0.out.cell rfl, KB0.out.cell rfl, KB0.out.cell rfl, KB0.out.cell rfl, KB0.out.cell rfl, KB0.out.cell rfl, KB0.out.cell rfl, KB0.out.cell rfl, KB0.out.cell rfl, KB0.out.cell rfl⟩)
              (obtain ⟨wc, hwc⟩ : ∃ x, x = w5.drew := ⟨_, rfl⟩; have hdr : Ext w5 wc := (by rw [hwc]; exact (Ext.refl _).drew); (try rw [← hwc] at hH0); (try rw [← hwc]); have zdr : w5.heap.size ≤ wc.heap.size := hdr.size; have HX := Lib.hid hdr; have KB0 := Lib.hid (B0_7.out.ext hdr); have KX := Lib.hid (X_7.out.ext hdr); have KRES0 := Lib.hid (RES0_7.out.ext hdr); have KRES1 := Lib.hid (RES1_7.out.ext hdr); have KT := Lib.hid (T_7.out.ext hdr); clear hwc hdr; replace HWX := Lib.hid (HWX.out.trans HX.out))
              refine take_l 0 (v := ?_) rfl (by kernel_rfl) (by kernel_rfl) (by kernel_rfl) (fun _ _ _ h => h) (by rfl) ?_ (by assumption) ?_
              rotate_left
              · (intro w hSw; (try dsimp only at hSw); go_simp; (try with_reducible rfl))
              (try simp only [Act.put, List.setIfInBounds_toArray, List.set_cons_zero, List.set_cons_succ])
              refine take_l 1 (v := ?_) rfl (by kernel_rfl) (by kernel_rfl) (by kernel_rfl) (fun _ _ _ h => h) (by rfl) ?_ (by assumption) ?_
              rotate_left
              · (intro w hSw; (try dsimp only at hSw); go_simp; (try with_reducible rfl))
              (try simp only [Act.put, List.setIfInBounds_toArray, List.set_cons_zero, List.set_cons_succ])
              refine take_l 2 (v := ?_) rfl (by kernel_rfl) (by kernel_rfl) (by kernel_rfl) (fun _ _ _ h => h) (by rfl) ?_ (by assumption) ?_
              rotate_left
              · (intro w hSw; (try dsimp only at hSw); go_simp; (try with_reducible rfl))
              (try simp only [Act.put, List.setIfInBounds_toArray, List.set_cons_zero, List.set_cons_succ])
              refine take_l 3 (v := ?_) rfl (by kernel_rfl) (by kernel_rfl) (by kernel_rfl) (fun _ _ _ h => h) (by rfl) ?_ (by assumption) ?_
              rotate_left
              · (intro w hSw; (try dsimp only at hSw); go_simp; (try with_reducible rfl))
              (try simp only [Act.put, List.setIfInBounds_toArray, List.set_cons_zero, List.set_cons_succ])
              refine take_l 5 (v := ?_) rfl (by kernel_rfl) (by kernel_rfl) (by kernel_rfl) (fun _ _ _ h => h) (by rfl) ?_ (by assumption) ?_
              rotate_left
              · (intro w hSw; (try dsimp only at hSw); go_simp; (try with_reducible rfl))
              (try simp only [Act.put, List.setIfInBounds_toArray, List.set_cons_zero, List.set_cons_succ])
              refine take_l 6 (v := ?_) rfl (by kernel_rfl) (by kernel_rfl) (by kernel_rfl) (fun _ _ _ h => h) (by rfl) ?_ (by assumption) ?_
              rotate_left
              · (intro w hSw; (try dsimp only at hSw); go_simp; (try with_reducible rfl))
              (try simp only [Act.put, List.setIfInBounds_toArray, List.set_cons_zero, List.set_cons_succ])
              refine take_l 7 (v := ?_) rfl (by kernel_rfl) (by kernel_rfl) (by kernel_rfl) (fun _ _ _ h => h) (by rfl) ?_ (by assumption) ?_
              rotate_left
              · (intro w hSw; (try dsimp only at hSw); go_simp; (try with_reducible rfl))
              (try simp only [Act.put, List.setIfInBounds_toArray, List.set_cons_zero, List.set_cons_succ])
              refine take_l 8 (v := ?_) rfl (by kernel_rfl) (by kernel_rfl) (by kernel_rfl) (fun _ _ _ h => h) (by rfl) ?_ (by assumption) ?_
              rotate_left
              · (intro w hSw; (try dsimp only at hSw); go_simp; (try with_reducible rfl))
              (try simp only [Act.put, List.setIfInBounds_toArray, List.set_cons_zero, List.set_cons_succ])
              refine take_l 9 (v := ?_) rfl (by kernel_rfl) (by kernel_rfl) (by kernel_rfl) (fun _ _ _ h => h) (by rfl) ?_ (by assumption) ?_
              rotate_left
              · (intro w hSw; (try dsimp only at hSw); go_simp; (try with_reducible rfl))
              (try simp only [Act.put, List.setIfInBounds_toArray, List.set_cons_zero, List.set_cons_succ])
              refine wpAnyH_ready (rs := [4]) (by kernel_rfl) (by simp) ?_
              refine cons_l (i := 4) rfl (fun K hK => ?_) ?_
              (go_simp; obtain ⟨lo4, hlo4⟩ : ∃ n, n = wc.heap.size := ⟨_, rfl⟩; have mlo4 : lo4 ≤ wc.heap.size := Nat.le_of_eq hlo4; have nlo4 : wc.heap.size ≤ lo4 := Nat.le_of_eq hlo4.symm; have xwlo4 : w5.heap.size ≤ lo4 := Nat.le_trans HX.out.size nlo4; (go_at_call 39; with_reducible refine (copyTrains_any _ _ _ (ts.take k) _ HLT.out (by omega) HSA.out (HFA.out.ext HWX.out)).mono ?_); rintro e wc ⟨p4, c4, es4, rfl, hg4, hb⟩; have zz4 := hb.size; obtain ⟨hi4, hhi4⟩ : ∃ n, n = wc.heap.size := ⟨_, rfl⟩; have mhi4 : hi4 ≤ wc.heap.size := Nat.le_of_eq hhi4; have nhi4 : wc.heap.size ≤ hi4 := Nat.le_of_eq hhi4.symm; (try rw [← hlo4] at hg4); (try rw [← hhi4] at hg4); clear hlo4; clear hhi4; (try replace KB0 := Lib.hid (KB0.out.ext hb)); (try replace KX := Lib.hid (KX.out.ext hb)); (try replace KRES0 := Lib.hid (KRES0.out.ext hb)); (try replace KRES1 := Lib.hid (KRES1.out.ext hb)); (try replace KT := Lib.hid (KT.out.ext hb)); (try replace OG4 := Lib.hid (OG4.out.ext hb)); (try replace OG5 := Lib.hid (OG5.out.ext hb)); (try replace OS := Lib.hid (OS.out.ext hb)); (try replace HWX := Lib.hid (HWX.out.trans hb)); replace HX := Lib.hid (HX.out.trans hb); have OG4 := Lib.hid hg4; clear hg4; clear hb)
              refine hK.out _ _ ?_ (fun hH1 => ?_)
              · (try dsimp only)
                (exact ⟨KB0.out.cell rfl, KB0.out.cell rfl, KB0.out.cell rfl, KB0.out.cell rfl, KB0.out.cell rfl, KB0.out.cell rfl, KB0.out.cell rfl, KB0.out.cell rfl, KB0.out.cell rfl, KB0.out.cell rfl⟩)
              clear hK K hH0
              (try simp only [Act.put, List.setIfInBounds_toArray, List.set_cons_zero, List.set_cons_succ])
              refine wpAnyH_ready (rs := [10]) (by kernel_rfl) (by simp) ?_
              refine cons_l (i := 10) rfl (fun K hK => ?_) ?_
              (go_simp; obtain ⟨lo5, hlo5⟩ : ∃ n, n = wc.heap.size := ⟨_, rfl⟩; have mlo5 : lo5 ≤ wc.heap.size := Nat.le_of_eq hlo5; have nlo5 : wc.heap.size ≤ lo5 := Nat.le_of_eq hlo5.symm; have xwlo5 : w5.heap.size ≤ lo5 := Nat.le_trans HX.out.size nlo5; (go_at_call 39; with_reducible refine (copyTrains_any _ _ _ (ts.drop (k + 1)) _ HLD.out (by omega) HSB.out ((HFB.out _).ext HWX.out)).mono ?_); rintro e wc ⟨p5, c5, es5, rfl, hg5, hb⟩; have zz10 := hb.size; obtain ⟨hi5, hhi5⟩ : ∃ n, n = wc.heap.size := ⟨_, rfl⟩; have mhi5 : hi5 ≤ wc.heap.size := Nat.le_of_eq hhi5; have nhi5 : wc.heap.size ≤ hi5 := Nat.le_of_eq hhi5.symm; (try rw [← hlo5] at hg5); (try rw [← hhi5] at hg5); clear hlo5; clear hhi5; (try replace KB0 := Lib.hid (KB0.out.ext hb)); (try replace KX := Lib.hid (KX.out.ext hb)); (try replace KRES0 := Lib.hid (KRES0.out.ext hb)); (try replace KRES1 := Lib.hid (KRES1.out.ext hb)); (try replace KT := Lib.hid (KT.out.ext hb)); (try replace OG4 := Lib.hid (OG4.out.ext hb)); (try replace OG5 := Lib.hid (OG5.out.ext hb)); (try replace OS := Lib.hid (OS.out.ext hb)); (try replace HWX := Lib.hid (HWX.out.trans hb)); replace HX := Lib.hid (HX.out.trans hb); have OG5 := Lib.hid hg5; clear hg5; clear hb)
              refine hK.out _ _ ?_ (fun hH2 => ?_)
              · (try dsimp only)
                (exact ⟨KB0.out.cell rfl, KB0.out.cell rfl, KB0.out.cell rfl, KB0.out.cell rfl, KB0.out.cell rfl, KB0.out.cell rfl, KB0.out.cell rfl, KB0.out.cell rfl, KB0.out.cell rfl, KB0.out.cell rfl⟩)
              clear hK K hH1
              (try simp only [Act.put, List.setIfInBounds_toArray, List.set_cons_zero, List.set_cons_succ])
              refine wpAnyH_ready (rs := [11]) (by kernel_rfl) (by simp) ?_
              refine cons_l (i := 11) rfl (fun K hK => ?_) ?_
              (have how := OG4.out.2.1; rw [← HLT.out] at how; have HOW := Lib.hid how; clear how; have HC5 := Lib.hid OG5.out.cellsL; have HO5 := Lib.hid OG5.out.onesL; have HL5 := Lib.hid (OG5.out.1.trans HLD.out.symm); refine step_of_wp _ rfl (wp_append_trains _ _ rfl lo4 (.slice p4 k c4) k es4 rfl HOW.out p5 (n - (k + 1)) c5 rfl es5 HL5.out HC5.out.1 HC5.out.2 HO5.out (by omega) (by omega) ?_); intro v3 wn hown3 hg3 hat3; have zz11 := hg3.size; have hvl : ∀ g, (Value.slice p4 k c4).ownBlock = some g → lo4 ≤ g := fun g hg => (ownsRow_lt HOW.out hg).1; have yg := (GT.concat OG4.out (by omega) (by omega) (by omega) OG5.out (by rw [← HLT.out, ← HLD.out]; exact hown3) hg3 hat3 (by omega)); obtain ⟨hi4x, hh4⟩ : ∃ x, x = wn.heap.size := ⟨_, rfl⟩; rw [← hh4] at yg; have mh4 : hi4x ≤ wn.heap.size := Nat.le_of_eq hh4; have nh4 : wn.heap.size ≤ hi4x := Nat.le_of_eq hh4.symm; clear hh4; have YG := Lib.hid yg; clear yg; replace KB0 := Lib.hid (KB0.out.kept hg3 (fun e => by have := hvl _ e; omega)); replace KX := Lib.hid (KX.out.kept hg3 (fun e => by have := hvl _ e; omega)); replace KRES0 := Lib.hid (KRES0.out.kept hg3 (fun e => by have := hvl _ e; omega)); replace KRES1 := Lib.hid (KRES1.out.kept hg3 (fun e => by have := hvl _ e; omega)); replace KT := Lib.hid (KT.out.kept hg3 (fun e => by have := hvl _ e; omega)); replace HWX := Lib.hid (Ext.own2 HWX.out hg3 HOW.out (by omega)); replace HX := Lib.hid (Ext.own2 HX.out hg3 HOW.out (by omega)); obtain ⟨a3, c3, hv3, _, _⟩ := YG.out.own; rw [List.length_append, ← HLT.out, ← HLD.out, ← HNN.out] at hv3; subst hv3; have OS := Lib.hid (HTS1.out ▸ YG.out.ownAt); clear YG hown3 hg3 hat3 hvl HOW HC5 HO5 HL5 OG4 OG5; obtain ⟨wc, hq⟩ : ∃ x, x = wn := ⟨_, rfl⟩; subst hq)
              refine hK.out _ _ ?_ (fun hH3 => ?_)
              · (try dsimp only)
                (exact ⟨KB0.out.cell rfl, KB0.out.cell rfl, KB0.out.cell rfl, KB0.out.cell rfl, KB0.out.cell rfl, KB0.out.cell rfl, KB0.out.cell rfl, KB0.out.cell rfl, KB0.out.cell rfl, KB0.out.cell rfl⟩)
              clear hK K hH2
              (try simp only [Act.put, List.setIfInBounds_toArray, List.set_cons_zero, List.set_cons_succ])
              refine take_l 12 (v := ?_) rfl (by kernel_rfl) (by kernel_rfl) (by kernel_rfl) (fun _ _ _ h => h) (by rfl) ?_ (by assumption) ?_
              rotate_left
              · (intro w hSw; (try dsimp only at hSw); go_simp; (try with_reducible rfl))
              (try simp only [Act.put, List.setIfInBounds_toArray, List.set_cons_zero, List.set_cons_succ])
              refine wpAnyH_ready (rs := [13]) (by kernel_rfl) (by simp) ?_
              refine cons_l (i := 13) rfl (fun K hK => ?_) ?_
              (have hs9 := KX.out.cell (j := 9) (v := .slice p n q) rfl; have hf9 := KX.out.frozen 9; go_simp; clear hs9 hf9; obtain ⟨wn, hwn⟩ : ∃ x, x = putAt wc bX 9 [.slice a3 n1 c3] := ⟨_, rfl⟩; have en : wc.setCell ⟨bX, 9, none⟩ (.slice a3 n1 c3) = wn := (by rw [hwn]; rfl); rw [en]; clear en; have zz13 : wc.heap.size ≤ wn.heap.size := (by rw [hwn, put_size]; exact Nat.le_refl _); replace KB0 := Lib.hid (show RowAt wn (w.heap.size) 26 _ by rw [hwn]; exact put_other (by omega) _ _ _ KB0.out); replace KX := Lib.hid (RowAt.cast (c' := #[.int .i64 x0, .int .i64 x1, .int .i64 x2, .int .i64 x3, .int .i64 x4, .int .i64 x5, .int .i64 x6, .int .i64 x7, .int .i64 x8, .slice a3 n1 c3]) (show RowAt wn bX 26 (putArr #[.int .i64 x0, .int .i64 x1, .int .i64 x2, .int .i64 x3, .int .i64 x4, .int .i64 x5, .int .i64 x6, .int .i64 x7, .int .i64 x8, .slice p n q] 9 [.slice a3 n1 c3]) by rw [hwn]; exact put_at _ _ _ _ KX.out) (by simp [putArr])); replace KRES0 := Lib.hid (show RowAt wn (w.heap.size + 1 + 1) 26 _ by rw [hwn]; exact put_other (by omega) _ _ _ KRES0.out); replace KRES1 := Lib.hid (show RowAt wn (w.heap.size + 1 + 1 + 1) 47 _ by rw [hwn]; exact put_other (by omega) _ _ _ KRES1.out); replace KT := Lib.hid (show RowAt wn (bT) 47 _ by rw [hwn]; exact put_other (by omega) _ _ _ KT.out); replace OS := Lib.hid (OS.out.keep (w' := wn) (Nat.le_refl _) (Nat.le_refl _) (by rw [hwn]; exact put_kept (by omega))); replace HWX := Lib.hid (show Ext _ wn by rw [hwn]; exact put_ext (by omega) _ _ _ HWX.out); clear hwn; obtain ⟨wc, hq⟩ : ∃ x, x = wn := ⟨_, rfl⟩; subst hq)
              refine hK.out _ _ ?_ (fun hH4 => ?_)
              · (try dsimp only)
                (exact ⟨KB0.out.cell rfl, KB0.out.cell rfl, KB0.out.cell rfl, KB0.out.cell rfl, KB0.out.cell rfl, KB0.out.cell rfl, KB0.out.cell rfl, KB0.out.cell rfl, KB0.out.cell rfl, KB0.out.cell rfl⟩)
              clear hK K hH3
              (try simp only [Act.put, List.setIfInBounds_toArray, List.set_cons_zero, List.set_cons_succ])
              refine wpAnyH_done (by kernel_rfl) ?_ _
              rotate_left
              exact AllReadyH.nil
              exact AllReadyH.nil
              exact AllReadyH.nil
              exact AllReadyH.nil
              obtain ⟨w6, hq⟩ : ∃ x, x = wc := ⟨_, rfl⟩; subst hq
              clear HX
              (try dsimp only)
              go_wp2_with fail
              refine wp_region_held_drew (S := (fun w' => w'.cell? ⟨bX, 0, none⟩ = some (.int .i64 x0) ∧ w'.cell? ⟨bX, 1, none⟩ = some (.int .i64 x1) ∧ w'.cell? ⟨bX, 2, none⟩ = some (.int .i64 x2) ∧ w'.cell? ⟨bX, 3, none⟩ = some (.int .i64 x3) ∧ w'.cell? ⟨bX, 4, none⟩ = some (.int .i64 x4) ∧ w'.cell? ⟨bX, 5, none⟩ = some (.int .i64 x5) ∧ w'.cell? ⟨bX, 6, none⟩ = some (.int .i64 x6) ∧ w'.cell? ⟨bX, 7, none⟩ = some (.int .i64 x7) ∧ w'.cell? ⟨bX, 8, none⟩ = some (.int .i64 x8) ∧ w'.cell? ⟨bX, 9, none⟩ = some (.slice a3 n1 c3) ∧ w'.cell? ⟨bT, 0, none⟩ = some (.bool u) ∧ w'.cell? ⟨bT, 1, none⟩ = some (.slice a' m c'))) (by kernel_rfl) ?_ (fun hH0 => ?_)
              · (try dsimp only)
                (exact ⟨KX.out.cell rfl, KX.out.cell rfl, KX.out.cell rfl, KX.out.cell rfl, KX.out.cell rfl, KX.out.cell rfl, KX.out.cell rfl, KX.out.cell rfl, KX.out.cell rfl, KX.out.cell rfl, KT.out.cell rfl, KT.out.cell rfl⟩)
              (obtain ⟨wc, hwc⟩ : ∃ x, x = w6.drew := ⟨_, rfl⟩; have hdr : Ext w6 wc := (by rw [hwc]; exact (Ext.refl _).drew); (try rw [← hwc] at hH0); (try rw [← hwc]); have zdr : w6.heap.size ≤ wc.heap.size := hdr.size; have HX := Lib.hid hdr; have KX := Lib.hid (KX.out.ext hdr); have KT := Lib.hid (KT.out.ext hdr); have KRES0 := Lib.hid (KRES0.out.ext hdr); have KRES1 := Lib.hid (KRES1.out.ext hdr); have OS := Lib.hid (OS.out.ext hdr); clear hwc hdr; replace HWX := Lib.hid (HWX.out.trans HX.out))
              refine take_l 0 (v := ?_) rfl (by kernel_rfl) (by kernel_rfl) (by kernel_rfl) (fun _ _ _ h => h) (by rfl) ?_ (by assumption) ?_
              rotate_left
              · (intro w hSw; (try dsimp only at hSw); go_simp; (try with_reducible rfl))
              (try simp only [Act.put, List.setIfInBounds_toArray, List.set_cons_zero, List.set_cons_succ])
              refine take_l 1 (v := ?_) rfl (by kernel_rfl) (by kernel_rfl) (by kernel_rfl) (fun _ _ _ h => h) (by rfl) ?_ (by assumption) ?_
              rotate_left
              · (intro w hSw; (try dsimp only at hSw); go_simp; (try with_reducible rfl))
              (try simp only [Act.put, List.setIfInBounds_toArray, List.set_cons_zero, List.set_cons_succ])
              refine wpAnyH_ready (rs := [2]) (by kernel_rfl) (by simp) ?_
              refine cons_l (i := 2) rfl (fun K hK => ?_) ?_
              (go_simp; obtain ⟨lo8, hlo8⟩ : ∃ n, n = wc.heap.size := ⟨_, rfl⟩; have mlo8 : lo8 ≤ wc.heap.size := Nat.le_of_eq hlo8; have nlo8 : wc.heap.size ≤ lo8 := Nat.le_of_eq hlo8.symm; have xwlo8 : w6.heap.size ≤ lo8 := Nat.le_trans HX.out.size nlo8; (go_at_call 40; with_reducible refine (copyTrain_any _ _ _ _ rows _ HM.out HG1.out HG2.out (HFR.out.ext HWX.out)).mono ?_); rintro e wc ⟨a8, c8, rfl, ho, hb⟩; have zz2 := hb.size; obtain ⟨hi8, hhi8⟩ : ∃ n, n = wc.heap.size := ⟨_, rfl⟩; have mhi8 : hi8 ≤ wc.heap.size := Nat.le_of_eq hhi8; have nhi8 : wc.heap.size ≤ hi8 := Nat.le_of_eq hhi8.symm; (try rw [← hlo8] at ho); (try rw [← hhi8] at ho); clear hlo8; clear hhi8; (try replace KX := Lib.hid (KX.out.ext hb)); (try replace KT := Lib.hid (KT.out.ext hb)); (try replace KRES0 := Lib.hid (KRES0.out.ext hb)); (try replace KRES1 := Lib.hid (KRES1.out.ext hb)); (try replace OS := Lib.hid (OS.out.ext hb)); (try replace OU := Lib.hid (OU.out.ext hb)); (try replace HWX := Lib.hid (HWX.out.trans hb)); replace HX := Lib.hid (HX.out.trans hb); have OU := Lib.hid ho; clear ho; clear hb)
              refine hK.out _ _ ?_ (fun hH1 => ?_)
              · (try dsimp only)
                (exact ⟨KX.out.cell rfl, KX.out.cell rfl, KX.out.cell rfl, KX.out.cell rfl, KX.out.cell rfl, KX.out.cell rfl, KX.out.cell rfl, KX.out.cell rfl, KX.out.cell rfl, KX.out.cell rfl, KT.out.cell rfl, KT.out.cell rfl⟩)
              clear hK K hH0
              (try simp only [Act.put, List.setIfInBounds_toArray, List.set_cons_zero, List.set_cons_succ])
              refine wpAnyH_ready (rs := [3]) (by kernel_rfl) (by simp) ?_
              refine cons_l (i := 3) rfl (fun K hK => ?_) ?_
              (have hs0 := KRES0.out.cell (j := 0) (v := .int .i64 0) rfl; have hf0 := KRES0.out.frozen 0; have hs1 := KRES0.out.cell (j := 1) (v := .int .i64 0) rfl; have hf1 := KRES0.out.frozen 1; have hs2 := KRES0.out.cell (j := 2) (v := .int .i64 0) rfl; have hf2 := KRES0.out.frozen 2; have hs3 := KRES0.out.cell (j := 3) (v := .int .i64 0) rfl; have hf3 := KRES0.out.frozen 3; have hs4 := KRES0.out.cell (j := 4) (v := .int .i64 0) rfl; have hf4 := KRES0.out.frozen 4; have hs5 := KRES0.out.cell (j := 5) (v := .int .i64 0) rfl; have hf5 := KRES0.out.frozen 5; have hs6 := KRES0.out.cell (j := 6) (v := .int .i64 0) rfl; have hf6 := KRES0.out.frozen 6; have hs7 := KRES0.out.cell (j := 7) (v := .int .i64 0) rfl; have hf7 := KRES0.out.frozen 7; have hs8 := KRES0.out.cell (j := 8) (v := .int .i64 0) rfl; have hf8 := KRES0.out.frozen 8; have hs9 := KRES0.out.cell (j := 9) (v := .slice none 0 0) rfl; have hf9 := KRES0.out.frozen 9; go_simp; clear hs0 hf0 hs1 hf1 hs2 hf2 hs3 hf3 hs4 hf4 hs5 hf5 hs6 hf6 hs7 hf7 hs8 hf8 hs9 hf9; obtain ⟨wn, hwn⟩ : ∃ x, x = putAt wc (w.heap.size + 1 + 1) 0 [.int .i64 x0, .int .i64 x1, .int .i64 x2, .int .i64 x3, .int .i64 x4, .int .i64 x5, .int .i64 x6, .int .i64 x7, .int .i64 x8, .slice a3 n1 c3] := ⟨_, rfl⟩; have en : ((((((((((wc.setCell ⟨w.heap.size + 1 + 1, 0, none⟩ (.int .i64 x0)).setCell ⟨w.heap.size + 1 + 1, 1, none⟩ (.int .i64 x1)).setCell ⟨w.heap.size + 1 + 1, 2, none⟩ (.int .i64 x2)).setCell ⟨w.heap.size + 1 + 1, 3, none⟩ (.int .i64 x3)).setCell ⟨w.heap.size + 1 + 1, 4, none⟩ (.int .i64 x4)).setCell ⟨w.heap.size + 1 + 1, 5, none⟩ (.int .i64 x5)).setCell ⟨w.heap.size + 1 + 1, 6, none⟩ (.int .i64 x6)).setCell ⟨w.heap.size + 1 + 1, 7, none⟩ (.int .i64 x7)).setCell ⟨w.heap.size + 1 + 1, 8, none⟩ (.int .i64 x8)).setCell ⟨w.heap.size + 1 + 1, 9, none⟩ (.slice a3 n1 c3)) = wn := (by rw [hwn]; rfl); rw [en]; clear en; have zz3 : wc.heap.size ≤ wn.heap.size := (by rw [hwn, put_size]; exact Nat.le_refl _); (first | replace HX := Lib.hid (show Ext w6 wn by rw [hwn]; exact put_ext (by first | assumption | omega) _ _ _ HX.out) | skip); (try replace KX := Lib.hid (show RowAt wn (bX) 26 _ by rw [hwn]; exact put_other (by omega) _ _ _ KX.out)); (try replace KT := Lib.hid (show RowAt wn (bT) 47 _ by rw [hwn]; exact put_other (by omega) _ _ _ KT.out)); replace KRES0 := Lib.hid (RowAt.cast (c' := #[.int .i64 x0, .int .i64 x1, .int .i64 x2, .int .i64 x3, .int .i64 x4, .int .i64 x5, .int .i64 x6, .int .i64 x7, .int .i64 x8, .slice a3 n1 c3]) (show RowAt wn (w.heap.size + 1 + 1) 26 (putArr #[.int .i64 0, .int .i64 0, .int .i64 0, .int .i64 0, .int .i64 0, .int .i64 0, .int .i64 0, .int .i64 0, .int .i64 0, .slice none 0 0] 0 [.int .i64 x0, .int .i64 x1, .int .i64 x2, .int .i64 x3, .int .i64 x4, .int .i64 x5, .int .i64 x6, .int .i64 x7, .int .i64 x8, .slice a3 n1 c3]) by rw [hwn]; exact put_at _ _ _ _ KRES0.out) (by simp [putArr])); (try replace KRES1 := Lib.hid (show RowAt wn (w.heap.size + 1 + 1 + 1) 47 _ by rw [hwn]; exact put_other (by omega) _ _ _ KRES1.out)); (try replace OS := Lib.hid (OS.out.keep (w' := wn) (Nat.le_refl _) (Nat.le_refl _) (by rw [hwn]; exact put_kept (by omega)))); (try replace OU := Lib.hid (OU.out.keep (w' := wn) (Nat.le_refl _) (Nat.le_refl _) (by rw [hwn]; exact put_kept (by omega)))); (try replace HWX := Lib.hid (show Ext _ wn by rw [hwn]; exact put_ext (by omega) _ _ _ HWX.out)); clear hwn; obtain ⟨wc, hq⟩ : ∃ x, x = wn := ⟨_, rfl⟩; subst hq)
              refine hK.out _ _ ?_ (fun hH2 => ?_)
              · (try dsimp only)
                (exact ⟨KX.out.cell rfl, KX.out.cell rfl, KX.out.cell rfl, KX.out.cell rfl, KX.out.cell rfl, KX.out.cell rfl, KX.out.cell rfl, KX.out.cell rfl, KX.out.cell rfl, KX.out.cell rfl, KT.out.cell rfl, KT.out.cell rfl⟩)
              clear hK K hH1
              (try simp only [Act.put, List.setIfInBounds_toArray, List.set_cons_zero, List.set_cons_succ])
              refine wpAnyH_ready (rs := [4]) (by kernel_rfl) (by simp) ?_
              refine cons_l (i := 4) rfl (fun K hK => ?_) ?_
              (have hs0 := KRES1.out.cell (j := 0) (v := .bool false) rfl; have hf0 := KRES1.out.frozen 0; have hs1 := KRES1.out.cell (j := 1) (v := .slice none 0 0) rfl; have hf1 := KRES1.out.frozen 1; go_simp; clear hs0 hf0 hs1 hf1; obtain ⟨wn, hwn⟩ : ∃ x, x = putAt wc (w.heap.size + 1 + 1 + 1) 0 [.bool u, .slice a8 m c8] := ⟨_, rfl⟩; have en : ((wc.setCell ⟨w.heap.size + 1 + 1 + 1, 0, none⟩ (.bool u)).setCell ⟨w.heap.size + 1 + 1 + 1, 1, none⟩ (.slice a8 m c8)) = wn := (by rw [hwn]; rfl); rw [en]; clear en; have zz4 : wc.heap.size ≤ wn.heap.size := (by rw [hwn, put_size]; exact Nat.le_refl _); (first | replace HX := Lib.hid (show Ext w6 wn by rw [hwn]; exact put_ext (by first | assumption | omega) _ _ _ HX.out) | skip); (try replace KX := Lib.hid (show RowAt wn (bX) 26 _ by rw [hwn]; exact put_other (by omega) _ _ _ KX.out)); (try replace KT := Lib.hid (show RowAt wn (bT) 47 _ by rw [hwn]; exact put_other (by omega) _ _ _ KT.out)); (try replace KRES0 := Lib.hid (show RowAt wn (w.heap.size + 1 + 1) 26 _ by rw [hwn]; exact put_other (by omega) _ _ _ KRES0.out)); replace KRES1 := Lib.hid (RowAt.cast (c' := #[.bool u, .slice a8 m c8]) (show RowAt wn (w.heap.size + 1 + 1 + 1) 47 (putArr #[.bool false, .slice none 0 0] 0 [.bool u, .slice a8 m c8]) by rw [hwn]; exact put_at _ _ _ _ KRES1.out) (by simp [putArr])); (try replace OS := Lib.hid (OS.out.keep (w' := wn) (Nat.le_refl _) (Nat.le_refl _) (by rw [hwn]; exact put_kept (by omega)))); (try replace OU := Lib.hid (OU.out.keep (w' := wn) (Nat.le_refl _) (Nat.le_refl _) (by rw [hwn]; exact put_kept (by omega)))); (try replace HWX := Lib.hid (show Ext _ wn by rw [hwn]; exact put_ext (by omega) _ _ _ HWX.out)); clear hwn; obtain ⟨wc, hq⟩ : ∃ x, x = wn := ⟨_, rfl⟩; subst hq)
              refine hK.out _ _ ?_ (fun hH3 => ?_)
              · (try dsimp only)
                (exact ⟨KX.out.cell rfl, KX.out.cell rfl, KX.out.cell rfl, KX.out.cell rfl, KX.out.cell rfl, KX.out.cell rfl, KX.out.cell rfl, KX.out.cell rfl, KX.out.cell rfl, KX.out.cell rfl, KT.out.cell rfl, KT.out.cell rfl⟩)
              clear hK K hH2
              (try simp only [Act.put, List.setIfInBounds_toArray, List.set_cons_zero, List.set_cons_succ])
              refine take_l 5 (v := ?_) rfl (by kernel_rfl) (by kernel_rfl) (by kernel_rfl) (fun _ _ _ h => h) (by rfl) ?_ (by assumption) ?_
              rotate_left
              · (intro w hSw; (try dsimp only at hSw); go_simp; (try with_reducible rfl))
              (try simp only [Act.put, List.setIfInBounds_toArray, List.set_cons_zero, List.set_cons_succ])
              refine wpAnyH_done (by kernel_rfl) ?_ _
              rotate_left
              exact AllReadyH.nil
              exact AllReadyH.nil
              exact AllReadyH.nil
              go_wp2
              have q0_0 : wc.cell? ⟨w.heap.size + 1 + 1, 0, none⟩ = some (.int .i64 x0) := KRES0.out.cell rfl
              have q0_1 : wc.cell? ⟨w.heap.size + 1 + 1, 1, none⟩ = some (.int .i64 x1) := KRES0.out.cell rfl
              have q0_2 : wc.cell? ⟨w.heap.size + 1 + 1, 2, none⟩ = some (.int .i64 x2) := KRES0.out.cell rfl
              have q0_3 : wc.cell? ⟨w.heap.size + 1 + 1, 3, none⟩ = some (.int .i64 x3) := KRES0.out.cell rfl
              have q0_4 : wc.cell? ⟨w.heap.size + 1 + 1, 4, none⟩ = some (.int .i64 x4) := KRES0.out.cell rfl
              have q0_5 : wc.cell? ⟨w.heap.size + 1 + 1, 5, none⟩ = some (.int .i64 x5) := KRES0.out.cell rfl
              have q0_6 : wc.cell? ⟨w.heap.size + 1 + 1, 6, none⟩ = some (.int .i64 x6) := KRES0.out.cell rfl
              have q0_7 : wc.cell? ⟨w.heap.size + 1 + 1, 7, none⟩ = some (.int .i64 x7) := KRES0.out.cell rfl
              have q0_8 : wc.cell? ⟨w.heap.size + 1 + 1, 8, none⟩ = some (.int .i64 x8) := KRES0.out.cell rfl
              have q0_9 : wc.cell? ⟨w.heap.size + 1 + 1, 9, none⟩ = some (.slice a3 n1 c3) := KRES0.out.cell rfl
              have q1_0 : wc.cell? ⟨w.heap.size + 1 + 1 + 1, 0, none⟩ = some (.bool u) := KRES1.out.cell rfl
              have q1_1 : wc.cell? ⟨w.heap.size + 1 + 1 + 1, 1, none⟩ = some (.slice a8 m c8) := KRES1.out.cell rfl
              refine bodyPost_ret (v := .tuple #[.agg #[.int .i64 x0, .int .i64 x1, .int .i64 x2, .int .i64 x3, .int .i64 x4, .int .i64 x5, .int .i64 x6, .int .i64 x7, .int .i64 x8, .slice a3 n1 c3], .agg #[.bool u, .slice a8 m c8], .bool true]) (by simp [results, Try.results20, go_sem, *]) rfl ⟨a3, c3, a8, c8, by rw [HMM.out], LockTrain.mk (lo1 := lo4) (hi1 := hi4x) (lo2 := lo8) (hi2 := hi8) (by omega) (by omega) (by omega) (by omega) (by omega) OS.out OU.out, HWX.out⟩
            case neg =>
              have HFB := Lib.hid (HF.out.dropL (k + 1))
              have cB00 : ∀ y : Aft W, y.1.cell? ⟨w.heap.size, 0, none⟩ = some (.int .i64 x0) := fun y => (B0_6.out.ext y.2).cell rfl
              have cB01 : ∀ y : Aft W, y.1.cell? ⟨w.heap.size, 1, none⟩ = some (.int .i64 x1) := fun y => (B0_6.out.ext y.2).cell rfl
              have cB02 : ∀ y : Aft W, y.1.cell? ⟨w.heap.size, 2, none⟩ = some (.int .i64 x2) := fun y => (B0_6.out.ext y.2).cell rfl
              have cB03 : ∀ y : Aft W, y.1.cell? ⟨w.heap.size, 3, none⟩ = some (.int .i64 x3) := fun y => (B0_6.out.ext y.2).cell rfl
              have cB04 : ∀ y : Aft W, y.1.cell? ⟨w.heap.size, 4, none⟩ = some (.int .i64 x4) := fun y => (B0_6.out.ext y.2).cell rfl
              have cB05 : ∀ y : Aft W, y.1.cell? ⟨w.heap.size, 5, none⟩ = some (.int .i64 x5) := fun y => (B0_6.out.ext y.2).cell rfl
              have cB06 : ∀ y : Aft W, y.1.cell? ⟨w.heap.size, 6, none⟩ = some (.int .i64 x6) := fun y => (B0_6.out.ext y.2).cell rfl
              have cB07 : ∀ y : Aft W, y.1.cell? ⟨w.heap.size, 7, none⟩ = some (.int .i64 x7) := fun y => (B0_6.out.ext y.2).cell rfl
              have cB08 : ∀ y : Aft W, y.1.cell? ⟨w.heap.size, 8, none⟩ = some (.int .i64 x8) := fun y => (B0_6.out.ext y.2).cell rfl
              have cB09 : ∀ y : Aft W, y.1.cell? ⟨w.heap.size, 9, none⟩ = some (.slice (some ⟨b, off, none⟩) n c) := fun y => (B0_6.out.ext y.2).cell rfl
              have cB10 : ∀ y : Aft W, y.1.cell? ⟨w.heap.size + 1, 0, none⟩ = some (.slice ta tn tc) := fun y => (B1_6.out.ext y.2).cell rfl
              have cB11 : ∀ y : Aft W, y.1.cell? ⟨w.heap.size + 1, 1, none⟩ = some (.int .i64 vol) := fun y => (B1_6.out.ext y.2).cell rfl
              have cB12 : ∀ y : Aft W, y.1.cell? ⟨w.heap.size + 1, 2, none⟩ = some (.slice pa pn pc) := fun y => (B1_6.out.ext y.2).cell rfl
              have cT0 : ∀ y : Aft W, y.1.cell? ⟨bT, 0, none⟩ = some (.bool u) := fun y => (T_6.out.ext y.2).cell rfl
              have cT1 : ∀ y : Aft W, y.1.cell? ⟨bT, 1, none⟩ = some (.slice a' m c') := fun y => (T_6.out.ext y.2).cell rfl
              (refine wp_region_aft W (Ext.refl _) (by kernel_rfl) (by kernel_rfl) ?_; (repeat (go_big_quiet_step ((first | (go_at_call 12; exact aft_call (implLevel_is lev _ _ _ _ _ _ _ ps xs _ HT.out HTL.out HP.out HPL.out (HFT.out.ext (HW6.out.trans (Subtype.property _))) (HFP.out.ext (HW6.out.trans (Subtype.property _))) hvol HLV.out)) | (go_at_call 44; exact aft_call (sillOf_any _ _ _ _ _ _ _ _ _ x8 sill _ _ _ _ HSL.out)) | (go_at_call 18; exact aft_call (implDraught_is dra _ _ _ _ rows _ HM.out HG1.out HG3.out (HFR.out.ext (HW6.out.trans (Subtype.property _))) HDR.out)))))); refine wpQuiet_nil ?_; intro w2 hx2)
              clear cB00 cB01 cB02 cB03 cB04 cB05 cB06 cB07 cB08 cB09 cB10 cB11 cB12 cT0 cT1
              obtain ⟨w5, hq⟩ : ∃ x, x = w2 := ⟨_, rfl⟩; subst hq
              have HW7 := Lib.hid (HW6.out.trans hx2)
              have B0_7 := Lib.hid (B0_6.out.ext hx2)
              have B1_7 := Lib.hid (B1_6.out.ext hx2)
              have RES0_7 := Lib.hid (RES0_6.out.ext hx2)
              have RES1_7 := Lib.hid (RES1_6.out.ext hx2)
              have X_7 := Lib.hid (X_6.out.ext hx2)
              have T_7 := Lib.hid (T_6.out.ext hx2)
              have OT_7 := Lib.hid (OT_6.out.ext hx2)
              replace HLX := Lib.hid (HLX.out.trans hx2)
              have zz7 := hx2.size
              clear HW6 B0_6 B1_6 RES0_6 RES1_6 X_6 T_6 OT_6 hx2
              go_wp2_with fail
              have KB0 := B0_7
              have KX := X_7
              have KRES0 := RES0_7
              have KRES1 := RES1_7
              have KT := T_7
              have HWX := HW7
              refine wp_region_held_drew (S := (fun w' => w'.cell? ⟨w.heap.size, 0, none⟩ = some (.int .i64 x0) ∧ w'.cell? ⟨w.heap.size, 1, none⟩ = some (.int .i64 x1) ∧ w'.cell? ⟨w.heap.size, 2, none⟩ = some (.int .i64 x2) ∧ w'.cell? ⟨w.heap.size, 3, none⟩ = some (.int .i64 x3) ∧ w'.cell? ⟨w.heap.size, 4, none⟩ = some (.int .i64 x4) ∧ w'.cell? ⟨w.heap.size, 5, none⟩ = some (.int .i64 x5) ∧ w'.cell? ⟨w.heap.size, 6, none⟩ = some (.int .i64 x6) ∧ w'.cell? ⟨w.heap.size, 7, none⟩ = some (.int .i64 x7) ∧ w'.cell? ⟨w.heap.size, 8, none⟩ = some (.int .i64 x8) ∧ w'.cell? ⟨w.heap.size, 9, none⟩ = some (.slice (some ⟨b, off, none⟩) n c))) (by kernel_rfl) ?_ (fun hH0 => ?_)
              · (try dsimp only)
                (exact ⟨KB0.out.cell rfl, KB0.out.cell rfl, KB0.out.cell rfl, KB0.out.cell rfl, KB0.out.cell rfl, KB0.out.cell rfl, KB0.out.cell rfl, KB0.out.cell rfl, KB0.out.cell rfl, KB0.out.cell rfl⟩)
              (obtain ⟨wc, hwc⟩ : ∃ x, x = w5.drew := ⟨_, rfl⟩; have hdr : Ext w5 wc := (by rw [hwc]; exact (Ext.refl _).drew); (try rw [← hwc] at hH0); (try rw [← hwc]); have zdr : w5.heap.size ≤ wc.heap.size := hdr.size; have HX := Lib.hid hdr; have KB0 := Lib.hid (B0_7.out.ext hdr); have KX := Lib.hid (X_7.out.ext hdr); have KRES0 := Lib.hid (RES0_7.out.ext hdr); have KRES1 := Lib.hid (RES1_7.out.ext hdr); have KT := Lib.hid (T_7.out.ext hdr); clear hwc hdr; replace HWX := Lib.hid (HWX.out.trans HX.out))
              refine take_l 0 (v := ?_) rfl (by kernel_rfl) (by kernel_rfl) (by kernel_rfl) (fun _ _ _ h => h) (by rfl) ?_ (by assumption) ?_
              rotate_left
              · (intro w hSw; (try dsimp only at hSw); go_simp; (try with_reducible rfl))
              (try simp only [Act.put, List.setIfInBounds_toArray, List.set_cons_zero, List.set_cons_succ])
              refine take_l 1 (v := ?_) rfl (by kernel_rfl) (by kernel_rfl) (by kernel_rfl) (fun _ _ _ h => h) (by rfl) ?_ (by assumption) ?_
              rotate_left
              · (intro w hSw; (try dsimp only at hSw); go_simp; (try with_reducible rfl))
              (try simp only [Act.put, List.setIfInBounds_toArray, List.set_cons_zero, List.set_cons_succ])
              refine take_l 2 (v := ?_) rfl (by kernel_rfl) (by kernel_rfl) (by kernel_rfl) (fun _ _ _ h => h) (by rfl) ?_ (by assumption) ?_
              rotate_left
              · (intro w hSw; (try dsimp only at hSw); go_simp; (try with_reducible rfl))
              (try simp only [Act.put, List.setIfInBounds_toArray, List.set_cons_zero, List.set_cons_succ])
              refine take_l 3 (v := ?_) rfl (by kernel_rfl) (by kernel_rfl) (by kernel_rfl) (fun _ _ _ h => h) (by rfl) ?_ (by assumption) ?_
              rotate_left
              · (intro w hSw; (try dsimp only at hSw); go_simp; (try with_reducible rfl))
              (try simp only [Act.put, List.setIfInBounds_toArray, List.set_cons_zero, List.set_cons_succ])
              refine take_l 5 (v := ?_) rfl (by kernel_rfl) (by kernel_rfl) (by kernel_rfl) (fun _ _ _ h => h) (by rfl) ?_ (by assumption) ?_
              rotate_left
              · (intro w hSw; (try dsimp only at hSw); go_simp; (try with_reducible rfl))
              (try simp only [Act.put, List.setIfInBounds_toArray, List.set_cons_zero, List.set_cons_succ])
              refine take_l 6 (v := ?_) rfl (by kernel_rfl) (by kernel_rfl) (by kernel_rfl) (fun _ _ _ h => h) (by rfl) ?_ (by assumption) ?_
              rotate_left
              · (intro w hSw; (try dsimp only at hSw); go_simp; (try with_reducible rfl))
              (try simp only [Act.put, List.setIfInBounds_toArray, List.set_cons_zero, List.set_cons_succ])
              refine take_l 7 (v := ?_) rfl (by kernel_rfl) (by kernel_rfl) (by kernel_rfl) (fun _ _ _ h => h) (by rfl) ?_ (by assumption) ?_
              rotate_left
              · (intro w hSw; (try dsimp only at hSw); go_simp; (try with_reducible rfl))
              (try simp only [Act.put, List.setIfInBounds_toArray, List.set_cons_zero, List.set_cons_succ])
              refine take_l 8 (v := ?_) rfl (by kernel_rfl) (by kernel_rfl) (by kernel_rfl) (fun _ _ _ h => h) (by rfl) ?_ (by assumption) ?_
              rotate_left
              · (intro w hSw; (try dsimp only at hSw); go_simp; (try with_reducible rfl))
              (try simp only [Act.put, List.setIfInBounds_toArray, List.set_cons_zero, List.set_cons_succ])
              refine take_l 9 (v := ?_) rfl (by kernel_rfl) (by kernel_rfl) (by kernel_rfl) (fun _ _ _ h => h) (by rfl) ?_ (by assumption) ?_
              rotate_left
              · (intro w hSw; (try dsimp only at hSw); go_simp; (try with_reducible rfl))
              (try simp only [Act.put, List.setIfInBounds_toArray, List.set_cons_zero, List.set_cons_succ])
              refine wpAnyH_ready (rs := [4]) (by kernel_rfl) (by simp) ?_
              refine cons_l (i := 4) rfl (fun K hK => ?_) ?_
              (go_simp; obtain ⟨lo4, hlo4⟩ : ∃ n, n = wc.heap.size := ⟨_, rfl⟩; have mlo4 : lo4 ≤ wc.heap.size := Nat.le_of_eq hlo4; have nlo4 : wc.heap.size ≤ lo4 := Nat.le_of_eq hlo4.symm; have xwlo4 : w5.heap.size ≤ lo4 := Nat.le_trans HX.out.size nlo4; (go_at_call 39; with_reducible refine (copyTrains_any _ _ _ (ts.take k) _ HLT.out (by omega) HSA.out (HFA.out.ext HWX.out)).mono ?_); rintro e wc ⟨p4, c4, es4, rfl, hg4, hb⟩; have zz4 := hb.size; obtain ⟨hi4, hhi4⟩ : ∃ n, n = wc.heap.size := ⟨_, rfl⟩; have mhi4 : hi4 ≤ wc.heap.size := Nat.le_of_eq hhi4; have nhi4 : wc.heap.size ≤ hi4 := Nat.le_of_eq hhi4.symm; (try rw [← hlo4] at hg4); (try rw [← hhi4] at hg4); clear hlo4; clear hhi4; (try replace KB0 := Lib.hid (KB0.out.ext hb)); (try replace KX := Lib.hid (KX.out.ext hb)); (try replace KRES0 := Lib.hid (KRES0.out.ext hb)); (try replace KRES1 := Lib.hid (KRES1.out.ext hb)); (try replace KT := Lib.hid (KT.out.ext hb)); (try replace OG4 := Lib.hid (OG4.out.ext hb)); (try replace OG5 := Lib.hid (OG5.out.ext hb)); (try replace OS := Lib.hid (OS.out.ext hb)); (try replace HWX := Lib.hid (HWX.out.trans hb)); replace HX := Lib.hid (HX.out.trans hb); have OG4 := Lib.hid hg4; clear hg4; clear hb)
              refine hK.out _ _ ?_ (fun hH1 => ?_)
              · (try dsimp only)
                (exact ⟨KB0.out.cell rfl, KB0.out.cell rfl, KB0.out.cell rfl, KB0.out.cell rfl, KB0.out.cell rfl, KB0.out.cell rfl, KB0.out.cell rfl, KB0.out.cell rfl, KB0.out.cell rfl, KB0.out.cell rfl⟩)
              clear hK K hH0
              (try simp only [Act.put, List.setIfInBounds_toArray, List.set_cons_zero, List.set_cons_succ])
              refine wpAnyH_ready (rs := [10]) (by kernel_rfl) (by simp) ?_
              refine cons_l (i := 10) rfl (fun K hK => ?_) ?_
              (go_simp; obtain ⟨lo5, hlo5⟩ : ∃ n, n = wc.heap.size := ⟨_, rfl⟩; have mlo5 : lo5 ≤ wc.heap.size := Nat.le_of_eq hlo5; have nlo5 : wc.heap.size ≤ lo5 := Nat.le_of_eq hlo5.symm; have xwlo5 : w5.heap.size ≤ lo5 := Nat.le_trans HX.out.size nlo5; (go_at_call 39; with_reducible refine (copyTrains_any _ _ _ (ts.drop (k + 1)) _ HLD.out (by omega) HSB.out (HFB.out.ext HWX.out)).mono ?_); rintro e wc ⟨p5, c5, es5, rfl, hg5, hb⟩; have zz10 := hb.size; obtain ⟨hi5, hhi5⟩ : ∃ n, n = wc.heap.size := ⟨_, rfl⟩; have mhi5 : hi5 ≤ wc.heap.size := Nat.le_of_eq hhi5; have nhi5 : wc.heap.size ≤ hi5 := Nat.le_of_eq hhi5.symm; (try rw [← hlo5] at hg5); (try rw [← hhi5] at hg5); clear hlo5; clear hhi5; (try replace KB0 := Lib.hid (KB0.out.ext hb)); (try replace KX := Lib.hid (KX.out.ext hb)); (try replace KRES0 := Lib.hid (KRES0.out.ext hb)); (try replace KRES1 := Lib.hid (KRES1.out.ext hb)); (try replace KT := Lib.hid (KT.out.ext hb)); (try replace OG4 := Lib.hid (OG4.out.ext hb)); (try replace OG5 := Lib.hid (OG5.out.ext hb)); (try replace OS := Lib.hid (OS.out.ext hb)); (try replace HWX := Lib.hid (HWX.out.trans hb)); replace HX := Lib.hid (HX.out.trans hb); have OG5 := Lib.hid hg5; clear hg5; clear hb)
              refine hK.out _ _ ?_ (fun hH2 => ?_)
              · (try dsimp only)
                (exact ⟨KB0.out.cell rfl, KB0.out.cell rfl, KB0.out.cell rfl, KB0.out.cell rfl, KB0.out.cell rfl, KB0.out.cell rfl, KB0.out.cell rfl, KB0.out.cell rfl, KB0.out.cell rfl, KB0.out.cell rfl⟩)
              clear hK K hH1
              (try simp only [Act.put, List.setIfInBounds_toArray, List.set_cons_zero, List.set_cons_succ])
              refine wpAnyH_ready (rs := [11]) (by kernel_rfl) (by simp) ?_
              refine cons_l (i := 11) rfl (fun K hK => ?_) ?_
              (have how := OG4.out.2.1; rw [← HLT.out] at how; have HOW := Lib.hid how; clear how; have HC5 := Lib.hid OG5.out.cellsL; have HO5 := Lib.hid OG5.out.onesL; have HL5 := Lib.hid (OG5.out.1.trans HLD.out.symm); refine step_of_wp _ rfl (wp_append_trains _ _ rfl lo4 (.slice p4 k c4) k es4 rfl HOW.out p5 (n - (k + 1)) c5 rfl es5 HL5.out HC5.out.1 HC5.out.2 HO5.out (by omega) (by omega) ?_); intro v3 wn hown3 hg3 hat3; have zz11 := hg3.size; have hvl : ∀ g, (Value.slice p4 k c4).ownBlock = some g → lo4 ≤ g := fun g hg => (ownsRow_lt HOW.out hg).1; have yg := (GT.concat OG4.out (by omega) (by omega) (by omega) OG5.out (by rw [← HLT.out, ← HLD.out]; exact hown3) hg3 hat3 (by omega)); obtain ⟨hi4x, hh4⟩ : ∃ x, x = wn.heap.size := ⟨_, rfl⟩; rw [← hh4] at yg; have mh4 : hi4x ≤ wn.heap.size := Nat.le_of_eq hh4; have nh4 : wn.heap.size ≤ hi4x := Nat.le_of_eq hh4.symm; clear hh4; have YG := Lib.hid yg; clear yg; replace KB0 := Lib.hid (KB0.out.kept hg3 (fun e => by have := hvl _ e; omega)); replace KX := Lib.hid (KX.out.kept hg3 (fun e => by have := hvl _ e; omega)); replace KRES0 := Lib.hid (KRES0.out.kept hg3 (fun e => by have := hvl _ e; omega)); replace KRES1 := Lib.hid (KRES1.out.kept hg3 (fun e => by have := hvl _ e; omega)); replace KT := Lib.hid (KT.out.kept hg3 (fun e => by have := hvl _ e; omega)); replace HWX := Lib.hid (Ext.own2 HWX.out hg3 HOW.out (by omega)); replace HX := Lib.hid (Ext.own2 HX.out hg3 HOW.out (by omega)); obtain ⟨a3, c3, hv3, _, _⟩ := YG.out.own; rw [List.length_append, ← HLT.out, ← HLD.out, ← HNN.out] at hv3; subst hv3; have OS := Lib.hid (HTS1.out ▸ YG.out.ownAt); clear YG hown3 hg3 hat3 hvl HOW HC5 HO5 HL5 OG4 OG5; obtain ⟨wc, hq⟩ : ∃ x, x = wn := ⟨_, rfl⟩; subst hq)
              refine hK.out _ _ ?_ (fun hH3 => ?_)
              · (try dsimp only)
                (exact ⟨KB0.out.cell rfl, KB0.out.cell rfl, KB0.out.cell rfl, KB0.out.cell rfl, KB0.out.cell rfl, KB0.out.cell rfl, KB0.out.cell rfl, KB0.out.cell rfl, KB0.out.cell rfl, KB0.out.cell rfl⟩)
              clear hK K hH2
              (try simp only [Act.put, List.setIfInBounds_toArray, List.set_cons_zero, List.set_cons_succ])
              refine take_l 12 (v := ?_) rfl (by kernel_rfl) (by kernel_rfl) (by kernel_rfl) (fun _ _ _ h => h) (by rfl) ?_ (by assumption) ?_
              rotate_left
              · (intro w hSw; (try dsimp only at hSw); go_simp; (try with_reducible rfl))
              (try simp only [Act.put, List.setIfInBounds_toArray, List.set_cons_zero, List.set_cons_succ])
              refine wpAnyH_ready (rs := [13]) (by kernel_rfl) (by simp) ?_
              refine cons_l (i := 13) rfl (fun K hK => ?_) ?_
              (have hs9 := KX.out.cell (j := 9) (v := .slice p n q) rfl; have hf9 := KX.out.frozen 9; go_simp; clear hs9 hf9; obtain ⟨wn, hwn⟩ : ∃ x, x = putAt wc bX 9 [.slice a3 n1 c3] := ⟨_, rfl⟩; have en : wc.setCell ⟨bX, 9, none⟩ (.slice a3 n1 c3) = wn := (by rw [hwn]; rfl); rw [en]; clear en; have zz13 : wc.heap.size ≤ wn.heap.size := (by rw [hwn, put_size]; exact Nat.le_refl _); replace KB0 := Lib.hid (show RowAt wn (w.heap.size) 26 _ by rw [hwn]; exact put_other (by omega) _ _ _ KB0.out); replace KX := Lib.hid (RowAt.cast (c' := #[.int .i64 x0, .int .i64 x1, .int .i64 x2, .int .i64 x3, .int .i64 x4, .int .i64 x5, .int .i64 x6, .int .i64 x7, .int .i64 x8, .slice a3 n1 c3]) (show RowAt wn bX 26 (putArr #[.int .i64 x0, .int .i64 x1, .int .i64 x2, .int .i64 x3, .int .i64 x4, .int .i64 x5, .int .i64 x6, .int .i64 x7, .int .i64 x8, .slice p n q] 9 [.slice a3 n1 c3]) by rw [hwn]; exact put_at _ _ _ _ KX.out) (by simp [putArr])); replace KRES0 := Lib.hid (show RowAt wn (w.heap.size + 1 + 1) 26 _ by rw [hwn]; exact put_other (by omega) _ _ _ KRES0.out); replace KRES1 := Lib.hid (show RowAt wn (w.heap.size + 1 + 1 + 1) 47 _ by rw [hwn]; exact put_other (by omega) _ _ _ KRES1.out); replace KT := Lib.hid (show RowAt wn (bT) 47 _ by rw [hwn]; exact put_other (by omega) _ _ _ KT.out); replace OS := Lib.hid (OS.out.keep (w' := wn) (Nat.le_refl _) (Nat.le_refl _) (by rw [hwn]; exact put_kept (by omega))); replace HWX := Lib.hid (show Ext _ wn by rw [hwn]; exact put_ext (by omega) _ _ _ HWX.out); clear hwn; obtain ⟨wc, hq⟩ : ∃ x, x = wn := ⟨_, rfl⟩; subst hq)
              refine hK.out _ _ ?_ (fun hH4 => ?_)
              · (try dsimp only)
                (exact ⟨KB0.out.cell rfl, KB0.out.cell rfl, KB0.out.cell rfl, KB0.out.cell rfl, KB0.out.cell rfl, KB0.out.cell rfl, KB0.out.cell rfl, KB0.out.cell rfl, KB0.out.cell rfl, KB0.out.cell rfl⟩)
              clear hK K hH3
              (try simp only [Act.put, List.setIfInBounds_toArray, List.set_cons_zero, List.set_cons_succ])
              refine wpAnyH_done (by kernel_rfl) ?_ _
              rotate_left
              exact AllReadyH.nil
              exact AllReadyH.nil
              exact AllReadyH.nil
              exact AllReadyH.nil
              obtain ⟨w6, hq⟩ : ∃ x, x = wc := ⟨_, rfl⟩; subst hq
              clear HX
              (try dsimp only)
              go_wp2_with fail
              refine wp_region_held_drew (S := (fun w' => w'.cell? ⟨bX, 0, none⟩ = some (.int .i64 x0) ∧ w'.cell? ⟨bX, 1, none⟩ = some (.int .i64 x1) ∧ w'.cell? ⟨bX, 2, none⟩ = some (.int .i64 x2) ∧ w'.cell? ⟨bX, 3, none⟩ = some (.int .i64 x3) ∧ w'.cell? ⟨bX, 4, none⟩ = some (.int .i64 x4) ∧ w'.cell? ⟨bX, 5, none⟩ = some (.int .i64 x5) ∧ w'.cell? ⟨bX, 6, none⟩ = some (.int .i64 x6) ∧ w'.cell? ⟨bX, 7, none⟩ = some (.int .i64 x7) ∧ w'.cell? ⟨bX, 8, none⟩ = some (.int .i64 x8) ∧ w'.cell? ⟨bX, 9, none⟩ = some (.slice a3 n1 c3) ∧ w'.cell? ⟨bT, 0, none⟩ = some (.bool u) ∧ w'.cell? ⟨bT, 1, none⟩ = some (.slice a' m c'))) (by kernel_rfl) ?_ (fun hH0 => ?_)
              · (try dsimp only)
                (exact ⟨KX.out.cell rfl, KX.out.cell rfl, KX.out.cell rfl, KX.out.cell rfl, KX.out.cell rfl, KX.out.cell rfl, KX.out.cell rfl, KX.out.cell rfl, KX.out.cell rfl, KX.out.cell rfl, KT.out.cell rfl, KT.out.cell rfl⟩)
              (obtain ⟨wc, hwc⟩ : ∃ x, x = w6.drew := ⟨_, rfl⟩; have hdr : Ext w6 wc := (by rw [hwc]; exact (Ext.refl _).drew); (try rw [← hwc] at hH0); (try rw [← hwc]); have zdr : w6.heap.size ≤ wc.heap.size := hdr.size; have HX := Lib.hid hdr; have KX := Lib.hid (KX.out.ext hdr); have KT := Lib.hid (KT.out.ext hdr); have KRES0 := Lib.hid (KRES0.out.ext hdr); have KRES1 := Lib.hid (KRES1.out.ext hdr); have OS := Lib.hid (OS.out.ext hdr); clear hwc hdr; replace HWX := Lib.hid (HWX.out.trans HX.out))
              refine take_l 0 (v := ?_) rfl (by kernel_rfl) (by kernel_rfl) (by kernel_rfl) (fun _ _ _ h => h) (by rfl) ?_ (by assumption) ?_
              rotate_left
              · (intro w hSw; (try dsimp only at hSw); go_simp; (try with_reducible rfl))
              (try simp only [Act.put, List.setIfInBounds_toArray, List.set_cons_zero, List.set_cons_succ])
              refine take_l 1 (v := ?_) rfl (by kernel_rfl) (by kernel_rfl) (by kernel_rfl) (fun _ _ _ h => h) (by rfl) ?_ (by assumption) ?_
              rotate_left
              · (intro w hSw; (try dsimp only at hSw); go_simp; (try with_reducible rfl))
              (try simp only [Act.put, List.setIfInBounds_toArray, List.set_cons_zero, List.set_cons_succ])
              refine wpAnyH_ready (rs := [2]) (by kernel_rfl) (by simp) ?_
              refine cons_l (i := 2) rfl (fun K hK => ?_) ?_
              (go_simp; obtain ⟨lo8, hlo8⟩ : ∃ n, n = wc.heap.size := ⟨_, rfl⟩; have mlo8 : lo8 ≤ wc.heap.size := Nat.le_of_eq hlo8; have nlo8 : wc.heap.size ≤ lo8 := Nat.le_of_eq hlo8.symm; have xwlo8 : w6.heap.size ≤ lo8 := Nat.le_trans HX.out.size nlo8; (go_at_call 40; with_reducible refine (copyTrain_any _ _ _ _ rows _ HM.out HG1.out HG2.out (HFR.out.ext HWX.out)).mono ?_); rintro e wc ⟨a8, c8, rfl, ho, hb⟩; have zz2 := hb.size; obtain ⟨hi8, hhi8⟩ : ∃ n, n = wc.heap.size := ⟨_, rfl⟩; have mhi8 : hi8 ≤ wc.heap.size := Nat.le_of_eq hhi8; have nhi8 : wc.heap.size ≤ hi8 := Nat.le_of_eq hhi8.symm; (try rw [← hlo8] at ho); (try rw [← hhi8] at ho); clear hlo8; clear hhi8; (try replace KX := Lib.hid (KX.out.ext hb)); (try replace KT := Lib.hid (KT.out.ext hb)); (try replace KRES0 := Lib.hid (KRES0.out.ext hb)); (try replace KRES1 := Lib.hid (KRES1.out.ext hb)); (try replace OS := Lib.hid (OS.out.ext hb)); (try replace OU := Lib.hid (OU.out.ext hb)); (try replace HWX := Lib.hid (HWX.out.trans hb)); replace HX := Lib.hid (HX.out.trans hb); have OU := Lib.hid ho; clear ho; clear hb)
              refine hK.out _ _ ?_ (fun hH1 => ?_)
              · (try dsimp only)
                (exact ⟨KX.out.cell rfl, KX.out.cell rfl, KX.out.cell rfl, KX.out.cell rfl, KX.out.cell rfl, KX.out.cell rfl, KX.out.cell rfl, KX.out.cell rfl, KX.out.cell rfl, KX.out.cell rfl, KT.out.cell rfl, KT.out.cell rfl⟩)
              clear hK K hH0
              (try simp only [Act.put, List.setIfInBounds_toArray, List.set_cons_zero, List.set_cons_succ])
              refine wpAnyH_ready (rs := [3]) (by kernel_rfl) (by simp) ?_
              refine cons_l (i := 3) rfl (fun K hK => ?_) ?_
              (have hs0 := KRES0.out.cell (j := 0) (v := .int .i64 0) rfl; have hf0 := KRES0.out.frozen 0; have hs1 := KRES0.out.cell (j := 1) (v := .int .i64 0) rfl; have hf1 := KRES0.out.frozen 1; have hs2 := KRES0.out.cell (j := 2) (v := .int .i64 0) rfl; have hf2 := KRES0.out.frozen 2; have hs3 := KRES0.out.cell (j := 3) (v := .int .i64 0) rfl; have hf3 := KRES0.out.frozen 3; have hs4 := KRES0.out.cell (j := 4) (v := .int .i64 0) rfl; have hf4 := KRES0.out.frozen 4; have hs5 := KRES0.out.cell (j := 5) (v := .int .i64 0) rfl; have hf5 := KRES0.out.frozen 5; have hs6 := KRES0.out.cell (j := 6) (v := .int .i64 0) rfl; have hf6 := KRES0.out.frozen 6; have hs7 := KRES0.out.cell (j := 7) (v := .int .i64 0) rfl; have hf7 := KRES0.out.frozen 7; have hs8 := KRES0.out.cell (j := 8) (v := .int .i64 0) rfl; have hf8 := KRES0.out.frozen 8; have hs9 := KRES0.out.cell (j := 9) (v := .slice none 0 0) rfl; have hf9 := KRES0.out.frozen 9; go_simp; clear hs0 hf0 hs1 hf1 hs2 hf2 hs3 hf3 hs4 hf4 hs5 hf5 hs6 hf6 hs7 hf7 hs8 hf8 hs9 hf9; obtain ⟨wn, hwn⟩ : ∃ x, x = putAt wc (w.heap.size + 1 + 1) 0 [.int .i64 x0, .int .i64 x1, .int .i64 x2, .int .i64 x3, .int .i64 x4, .int .i64 x5, .int .i64 x6, .int .i64 x7, .int .i64 x8, .slice a3 n1 c3] := ⟨_, rfl⟩; have en : ((((((((((wc.setCell ⟨w.heap.size + 1 + 1, 0, none⟩ (.int .i64 x0)).setCell ⟨w.heap.size + 1 + 1, 1, none⟩ (.int .i64 x1)).setCell ⟨w.heap.size + 1 + 1, 2, none⟩ (.int .i64 x2)).setCell ⟨w.heap.size + 1 + 1, 3, none⟩ (.int .i64 x3)).setCell ⟨w.heap.size + 1 + 1, 4, none⟩ (.int .i64 x4)).setCell ⟨w.heap.size + 1 + 1, 5, none⟩ (.int .i64 x5)).setCell ⟨w.heap.size + 1 + 1, 6, none⟩ (.int .i64 x6)).setCell ⟨w.heap.size + 1 + 1, 7, none⟩ (.int .i64 x7)).setCell ⟨w.heap.size + 1 + 1, 8, none⟩ (.int .i64 x8)).setCell ⟨w.heap.size + 1 + 1, 9, none⟩ (.slice a3 n1 c3)) = wn := (by rw [hwn]; rfl); rw [en]; clear en; have zz3 : wc.heap.size ≤ wn.heap.size := (by rw [hwn, put_size]; exact Nat.le_refl _); (first | replace HX := Lib.hid (show Ext w6 wn by rw [hwn]; exact put_ext (by first | assumption | omega) _ _ _ HX.out) | skip); (try replace KX := Lib.hid (show RowAt wn (bX) 26 _ by rw [hwn]; exact put_other (by omega) _ _ _ KX.out)); (try replace KT := Lib.hid (show RowAt wn (bT) 47 _ by rw [hwn]; exact put_other (by omega) _ _ _ KT.out)); replace KRES0 := Lib.hid (RowAt.cast (c' := #[.int .i64 x0, .int .i64 x1, .int .i64 x2, .int .i64 x3, .int .i64 x4, .int .i64 x5, .int .i64 x6, .int .i64 x7, .int .i64 x8, .slice a3 n1 c3]) (show RowAt wn (w.heap.size + 1 + 1) 26 (putArr #[.int .i64 0, .int .i64 0, .int .i64 0, .int .i64 0, .int .i64 0, .int .i64 0, .int .i64 0, .int .i64 0, .int .i64 0, .slice none 0 0] 0 [.int .i64 x0, .int .i64 x1, .int .i64 x2, .int .i64 x3, .int .i64 x4, .int .i64 x5, .int .i64 x6, .int .i64 x7, .int .i64 x8, .slice a3 n1 c3]) by rw [hwn]; exact put_at _ _ _ _ KRES0.out) (by simp [putArr])); (try replace KRES1 := Lib.hid (show RowAt wn (w.heap.size + 1 + 1 + 1) 47 _ by rw [hwn]; exact put_other (by omega) _ _ _ KRES1.out)); (try replace OS := Lib.hid (OS.out.keep (w' := wn) (Nat.le_refl _) (Nat.le_refl _) (by rw [hwn]; exact put_kept (by omega)))); (try replace OU := Lib.hid (OU.out.keep (w' := wn) (Nat.le_refl _) (Nat.le_refl _) (by rw [hwn]; exact put_kept (by omega)))); (try replace HWX := Lib.hid (show Ext _ wn by rw [hwn]; exact put_ext (by omega) _ _ _ HWX.out)); clear hwn; obtain ⟨wc, hq⟩ : ∃ x, x = wn := ⟨_, rfl⟩; subst hq)
              refine hK.out _ _ ?_ (fun hH2 => ?_)
              · (try dsimp only)
                (exact ⟨KX.out.cell rfl, KX.out.cell rfl, KX.out.cell rfl, KX.out.cell rfl, KX.out.cell rfl, KX.out.cell rfl, KX.out.cell rfl, KX.out.cell rfl, KX.out.cell rfl, KX.out.cell rfl, KT.out.cell rfl, KT.out.cell rfl⟩)
              clear hK K hH1
              (try simp only [Act.put, List.setIfInBounds_toArray, List.set_cons_zero, List.set_cons_succ])
              refine wpAnyH_ready (rs := [4]) (by kernel_rfl) (by simp) ?_
              refine cons_l (i := 4) rfl (fun K hK => ?_) ?_
              (have hs0 := KRES1.out.cell (j := 0) (v := .bool false) rfl; have hf0 := KRES1.out.frozen 0; have hs1 := KRES1.out.cell (j := 1) (v := .slice none 0 0) rfl; have hf1 := KRES1.out.frozen 1; go_simp; clear hs0 hf0 hs1 hf1; obtain ⟨wn, hwn⟩ : ∃ x, x = putAt wc (w.heap.size + 1 + 1 + 1) 0 [.bool u, .slice a8 m c8] := ⟨_, rfl⟩; have en : ((wc.setCell ⟨w.heap.size + 1 + 1 + 1, 0, none⟩ (.bool u)).setCell ⟨w.heap.size + 1 + 1 + 1, 1, none⟩ (.slice a8 m c8)) = wn := (by rw [hwn]; rfl); rw [en]; clear en; have zz4 : wc.heap.size ≤ wn.heap.size := (by rw [hwn, put_size]; exact Nat.le_refl _); (first | replace HX := Lib.hid (show Ext w6 wn by rw [hwn]; exact put_ext (by first | assumption | omega) _ _ _ HX.out) | skip); (try replace KX := Lib.hid (show RowAt wn (bX) 26 _ by rw [hwn]; exact put_other (by omega) _ _ _ KX.out)); (try replace KT := Lib.hid (show RowAt wn (bT) 47 _ by rw [hwn]; exact put_other (by omega) _ _ _ KT.out)); (try replace KRES0 := Lib.hid (show RowAt wn (w.heap.size + 1 + 1) 26 _ by rw [hwn]; exact put_other (by omega) _ _ _ KRES0.out)); replace KRES1 := Lib.hid (RowAt.cast (c' := #[.bool u, .slice a8 m c8]) (show RowAt wn (w.heap.size + 1 + 1 + 1) 47 (putArr #[.bool false, .slice none 0 0] 0 [.bool u, .slice a8 m c8]) by rw [hwn]; exact put_at _ _ _ _ KRES1.out) (by simp [putArr])); (try replace OS := Lib.hid (OS.out.keep (w' := wn) (Nat.le_refl _) (Nat.le_refl _) (by rw [hwn]; exact put_kept (by omega)))); (try replace OU := Lib.hid (OU.out.keep (w' := wn) (Nat.le_refl _) (Nat.le_refl _) (by rw [hwn]; exact put_kept (by omega)))); (try replace HWX := Lib.hid (show Ext _ wn by rw [hwn]; exact put_ext (by omega) _ _ _ HWX.out)); clear hwn; obtain ⟨wc, hq⟩ : ∃ x, x = wn := ⟨_, rfl⟩; subst hq)
              refine hK.out _ _ ?_ (fun hH3 => ?_)
              · (try dsimp only)
                (exact ⟨KX.out.cell rfl, KX.out.cell rfl, KX.out.cell rfl, KX.out.cell rfl, KX.out.cell rfl, KX.out.cell rfl, KX.out.cell rfl, KX.out.cell rfl, KX.out.cell rfl, KX.out.cell rfl, KT.out.cell rfl, KT.out.cell rfl⟩)
              clear hK K hH2
              (try simp only [Act.put, List.setIfInBounds_toArray, List.set_cons_zero, List.set_cons_succ])
              refine take_l 5 (v := ?_) rfl (by kernel_rfl) (by kernel_rfl) (by kernel_rfl) (fun _ _ _ h => h) (by rfl) ?_ (by assumption) ?_
              rotate_left
              · (intro w hSw; (try dsimp only at hSw); go_simp; (try with_reducible rfl))
              (try simp only [Act.put, List.setIfInBounds_toArray, List.set_cons_zero, List.set_cons_succ])
              refine wpAnyH_done (by kernel_rfl) ?_ _
              rotate_left
              exact AllReadyH.nil
              exact AllReadyH.nil
              exact AllReadyH.nil
              go_wp2
              have q0_0 : wc.cell? ⟨w.heap.size + 1 + 1, 0, none⟩ = some (.int .i64 x0) := KRES0.out.cell rfl
              have q0_1 : wc.cell? ⟨w.heap.size + 1 + 1, 1, none⟩ = some (.int .i64 x1) := KRES0.out.cell rfl
              have q0_2 : wc.cell? ⟨w.heap.size + 1 + 1, 2, none⟩ = some (.int .i64 x2) := KRES0.out.cell rfl
              have q0_3 : wc.cell? ⟨w.heap.size + 1 + 1, 3, none⟩ = some (.int .i64 x3) := KRES0.out.cell rfl
              have q0_4 : wc.cell? ⟨w.heap.size + 1 + 1, 4, none⟩ = some (.int .i64 x4) := KRES0.out.cell rfl
              have q0_5 : wc.cell? ⟨w.heap.size + 1 + 1, 5, none⟩ = some (.int .i64 x5) := KRES0.out.cell rfl
              have q0_6 : wc.cell? ⟨w.heap.size + 1 + 1, 6, none⟩ = some (.int .i64 x6) := KRES0.out.cell rfl
              have q0_7 : wc.cell? ⟨w.heap.size + 1 + 1, 7, none⟩ = some (.int .i64 x7) := KRES0.out.cell rfl
              have q0_8 : wc.cell? ⟨w.heap.size + 1 + 1, 8, none⟩ = some (.int .i64 x8) := KRES0.out.cell rfl
              have q0_9 : wc.cell? ⟨w.heap.size + 1 + 1, 9, none⟩ = some (.slice a3 n1 c3) := KRES0.out.cell rfl
              have q1_0 : wc.cell? ⟨w.heap.size + 1 + 1 + 1, 0, none⟩ = some (.bool u) := KRES1.out.cell rfl
              have q1_1 : wc.cell? ⟨w.heap.size + 1 + 1 + 1, 1, none⟩ = some (.slice a8 m c8) := KRES1.out.cell rfl
              refine bodyPost_ret (v := .tuple #[.agg #[.int .i64 x0, .int .i64 x1, .int .i64 x2, .int .i64 x3, .int .i64 x4, .int .i64 x5, .int .i64 x6, .int .i64 x7, .int .i64 x8, .slice a3 n1 c3], .agg #[.bool u, .slice a8 m c8], .bool true]) (by simp [results, Try.results20, go_sem, *]) rfl ⟨a3, c3, a8, c8, by rw [HMM.out], LockTrain.mk (lo1 := lo4) (hi1 := hi4x) (lo2 := lo8) (hi2 := hi8) (by omega) (by omega) (by omega) (by omega) (by omega) OS.out OU.out, HWX.out⟩
end Go.Proofs.Ytmppoflgbmabpaa
