/- For every lock and reach, the program and the reference agree on the lock and the train that LeaveLock returns and on whether one leaves, and these share no memory with others. -/
import Derived.Test.YtknpdhafafomaaaRows
import Derived.Test.YtknpdhafafomaaaHead
import Derived.Test.YtknpdhafafomaaaLeaveS
import Derived.Test.YtknpdhafafomaaaOwnR
import Derived.Test.YtknpdhafafomaaaMarkT
import Derived.Test.YtknpdhafafomaaaMarkR
import Derived.Test.YtknpdhafafomaaaOpenL
import Derived.Deep.RegionHeld3
namespace Go.Proofs.Ytknpdhafafomaaa.lawLeaveLock
open Go.ChangeShapes Go.WideShapes Go.ChangeAt Go.RowKit Go.Joins
set_option linter.unusedVariables false
set_option linter.unusedSimpArgs false


theorem mLen_cut (ts : List Tn) (k : Nat) : mLen (ts.take k ++ ts.drop (k + 1)) ≤ mLen ts := by
  have h1 : mLen (ts.drop (k + 1)) ≤ mLen (ts.drop k) := by
    by_cases h : k < ts.length
    · rw [List.drop_eq_getElem_cons h]
      simp only [mLen]
      omega
    · rw [List.drop_eq_nil_of_le (by omega), List.drop_eq_nil_of_le (by omega)]; exact Nat.le_refl _
  have h2 := mLen_append (ts.take k) (ts.drop k)
  rw [List.take_append_drop] at h2
  rw [mLen_append]
  omega
theorem leaveRes_b {x0 x1 x2 x3 x4 x5 x6 x7 x8 : Int} {ts : List Tn} {ps : List Pt} {vol : Int} {xs : List Int} {ts1 : List Tn} {ut : Bool} {rows1 : List (List Bt)} {ok : Bool} (h : leaveRes x0 x1 x2 x3 x4 x5 x6 x7 x8 ts ps vol xs = (ts1, (ut, rows1), ok)) (hts : ∀ t ∈ ts, SmallT t) : ts1.length ≤ ts.length ∧ (∀ t ∈ ts1, SmallT t) ∧ mLen ts1 ≤ mLen ts ∧ SmallT (ut, rows1) := by
  have hz : SmallT (false, []) := ⟨by simp, by simp, by simp⟩
  unfold leaveRes at h
  split at h
  · unfold leaveOut at h
    split at h
    · rename_i k _
      obtain ⟨e1, e2, e3, e4⟩ := leave_inj (show (ts.take k ++ ts.drop (k + 1), ((ts.getD k (false, [])).1, (ts.getD k (false, [])).2), true) = (ts1, (ut, rows1), ok) from h)
      subst e1 e2 e3
      refine ⟨by rw [List.length_append, List.length_take, List.length_drop]; omega, fun t ht => ?_, mLen_cut ts k, ?_⟩
      · rcases List.mem_append.1 ht with h | h
        · exact hts t (List.mem_of_mem_take h)
        · exact hts t (List.mem_of_mem_drop h)
      · by_cases hk : k < ts.length
        · rw [List.getD_eq_getElem?_getD, List.getElem?_eq_getElem hk]; exact hts _ (List.getElem_mem _)
        · rw [List.getD_eq_getElem?_getD, List.getElem?_eq_none (by omega)]; exact hz
    · obtain ⟨e1, e2, e3, e4⟩ := leave_inj h
      subst e1 e2 e3
      exact ⟨Nat.le_refl _, hts, Nat.le_refl _, hz⟩
  · obtain ⟨e1, e2, e3, e4⟩ := leave_inj h
    subst e1 e2 e3
    exact ⟨Nat.le_refl _, hts, Nat.le_refl _, hz⟩
set_option maxRecDepth 100000 in
set_option maxHeartbeats 4000000 in
theorem walk (x0 x1 x2 x3 x4 x5 x6 x7 x8 : Int) (a : Option Addr) (n c : Nat) (ts : List Tn) (ta pa : Option Addr) (tn tc pn pc : Nat) (vol : Int) (ps : List Pt) (xs : List Int) (w : World) (hn : n = ts.length) (hs : n ≤ maxLen) (hf : TrainsAt w a ts) (hi0 : I64 x0) (hi1 : I64 x1) (ht : tn = ps.length) (htl : tn ≤ maxLen) (hp : pn = xs.length) (hpl : pn ≤ maxLen) (hft : FlatAt w ptCells 2 ta ps) (hfp : IntsAt w pa xs) (hvol : -9223372036854775808 ≤ vol ∧ vol ≤ 9223372036854775807) :
    Calls Try.prog 9 #[.agg #[.int .i64 x0, .int .i64 x1, .int .i64 x2, .int .i64 x3, .int .i64 x4, .int .i64 x5, .int .i64 x6, .int .i64 x7, .int .i64 x8, .slice a n c], .agg #[.slice ta tn tc, .int .i64 vol, .slice pa pn pc]] w fun e w' => e = .returned (.bool true) ∧ Ext w w' := by
  have HF := Lib.hid hf; clear hf
  have HI0 := Lib.hid hi0; clear hi0
  have HI1 := Lib.hid hi1; clear hi1
  have HFT := Lib.hid hft; clear hft
  have HFP := Lib.hid hfp; clear hfp
  have HVOL := Lib.hid hvol; clear hvol
  have HT := Lib.hid ht; clear ht
  have HP := Lib.hid hp; clear hp
  have HTL := Lib.hid htl
  have HPL := Lib.hid hpl
  have HN := Lib.hid hn
  have HS := Lib.hid hs
  obtain ⟨z0, hzz0⟩ : ∃ z, szTrains 1048576 ts = z := ⟨_, rfl⟩
  have HZ0 := Lib.hid hzz0
  have HN0 := HN
  by_cases hneg0 : z0 < 0
  · have d0 : decide (z0 < 0) = true := by simpa using hneg0
    clear hzz0 hn 
    have BA0 := Lib.hid (show RowAt ((w.alloc (.cells #[.int .i64 x0, .int .i64 x1, .int .i64 x2, .int .i64 x3, .int .i64 x4, .int .i64 x5, .int .i64 x6, .int .i64 x7, .int .i64 x8, .slice a n c] 59)).alloc (.cells #[.slice ta tn tc, .int .i64 vol, .slice pa pn pc] 73)) (w.heap.size) 59 #[.int .i64 x0, .int .i64 x1, .int .i64 x2, .int .i64 x3, .int .i64 x4, .int .i64 x5, .int .i64 x6, .int .i64 x7, .int .i64 x8, .slice a n c] from by
      have h := (RowAt.new w 59 #[.int .i64 x0, .int .i64 x1, .int .i64 x2, .int .i64 x3, .int .i64 x4, .int .i64 x5, .int .i64 x6, .int .i64 x7, .int .i64 x8, .slice a n c]).ext ((Ext.refl _).alloc (.cells #[.slice ta tn tc, .int .i64 vol, .slice pa pn pc] 73))
      exact h)
    have BA1 := Lib.hid (show RowAt ((w.alloc (.cells #[.int .i64 x0, .int .i64 x1, .int .i64 x2, .int .i64 x3, .int .i64 x4, .int .i64 x5, .int .i64 x6, .int .i64 x7, .int .i64 x8, .slice a n c] 59)).alloc (.cells #[.slice ta tn tc, .int .i64 vol, .slice pa pn pc] 73)) (w.heap.size + 1) 73 #[.slice ta tn tc, .int .i64 vol, .slice pa pn pc] from by
      have h := (RowAt.new (w.alloc (.cells #[.int .i64 x0, .int .i64 x1, .int .i64 x2, .int .i64 x3, .int .i64 x4, .int .i64 x5, .int .i64 x6, .int .i64 x7, .int .i64 x8, .slice a n c] 59)) 73 #[.slice ta tn tc, .int .i64 vol, .slice pa pn pc]).ext (Ext.refl _)
      simp only [World.size_alloc] at h
      exact h)
    have HE0 := Lib.hid (show Ext w ((w.alloc (.cells #[.int .i64 x0, .int .i64 x1, .int .i64 x2, .int .i64 x3, .int .i64 x4, .int .i64 x5, .int .i64 x6, .int .i64 x7, .int .i64 x8, .slice a n c] 59)).alloc (.cells #[.slice ta tn tc, .int .i64 vol, .slice pa pn pc] 73)) from (((Ext.refl w).alloc _).alloc _))
    go_enter Try.func9, Try.ntmps9
    go_wp2_with fail
    with_reducible refine (szLock_any z0 _ _ _ _ _ _ _ _ _ _ _ _ ts _ HN.out HS.out (by decide) (by decide) _ (HF.out.ext (HE0.out)) HZ0.out).mono ?_
    rintro e s0 ⟨rfl, hb⟩
    have XS0 := Lib.hid (show Ext ((w.alloc (.cells #[.int .i64 x0, .int .i64 x1, .int .i64 x2, .int .i64 x3, .int .i64 x4, .int .i64 x5, .int .i64 x6, .int .i64 x7, .int .i64 x8, .slice a n c] 59)).alloc (.cells #[.slice ta tn tc, .int .i64 vol, .slice pa pn pc] 73)) s0 from hb)
    clear hb
    go_wp2
    go_ret
    exact ⟨rfl, HE0.out.trans XS0.out⟩
  obtain ⟨hs2, hts, hy0'⟩ := szTrains_bounds (l := 1048576) (by decide) (by decide) (by rw [hzz0]; exact hneg0)
  rw [← hn] at hs2
  rw [hzz0] at hy0'
  have HTS := Lib.hid hts
  have hTb := szTrains_mlen (l := 1048576) (by decide) (by decide) (by rw [hzz0]; exact hneg0)
  have hz0 : 0 ≤ z0 := by omega
  have hy0 : z0 ≤ 1048576 := by omega
  have d0 : decide (z0 < 0) = false := by simpa using hneg0
  obtain ⟨z1, hzz1⟩ : ∃ z, (if szRow z0 tn < 0 then -1 else szRow (szRow z0 tn) pn) = z := ⟨_, rfl⟩
  have HZ1 := Lib.hid hzz1
  by_cases hneg1 : z1 < 0
  · have d1 : decide (z1 < 0) = true := by simpa using hneg1
    clear hzz0 hzz1 hn 
    have BA0 := Lib.hid (show RowAt ((w.alloc (.cells #[.int .i64 x0, .int .i64 x1, .int .i64 x2, .int .i64 x3, .int .i64 x4, .int .i64 x5, .int .i64 x6, .int .i64 x7, .int .i64 x8, .slice a n c] 59)).alloc (.cells #[.slice ta tn tc, .int .i64 vol, .slice pa pn pc] 73)) (w.heap.size) 59 #[.int .i64 x0, .int .i64 x1, .int .i64 x2, .int .i64 x3, .int .i64 x4, .int .i64 x5, .int .i64 x6, .int .i64 x7, .int .i64 x8, .slice a n c] from by
      have h := (RowAt.new w 59 #[.int .i64 x0, .int .i64 x1, .int .i64 x2, .int .i64 x3, .int .i64 x4, .int .i64 x5, .int .i64 x6, .int .i64 x7, .int .i64 x8, .slice a n c]).ext ((Ext.refl _).alloc (.cells #[.slice ta tn tc, .int .i64 vol, .slice pa pn pc] 73))
      exact h)
    have BA1 := Lib.hid (show RowAt ((w.alloc (.cells #[.int .i64 x0, .int .i64 x1, .int .i64 x2, .int .i64 x3, .int .i64 x4, .int .i64 x5, .int .i64 x6, .int .i64 x7, .int .i64 x8, .slice a n c] 59)).alloc (.cells #[.slice ta tn tc, .int .i64 vol, .slice pa pn pc] 73)) (w.heap.size + 1) 73 #[.slice ta tn tc, .int .i64 vol, .slice pa pn pc] from by
      have h := (RowAt.new (w.alloc (.cells #[.int .i64 x0, .int .i64 x1, .int .i64 x2, .int .i64 x3, .int .i64 x4, .int .i64 x5, .int .i64 x6, .int .i64 x7, .int .i64 x8, .slice a n c] 59)) 73 #[.slice ta tn tc, .int .i64 vol, .slice pa pn pc]).ext (Ext.refl _)
      simp only [World.size_alloc] at h
      exact h)
    have HE0 := Lib.hid (show Ext w ((w.alloc (.cells #[.int .i64 x0, .int .i64 x1, .int .i64 x2, .int .i64 x3, .int .i64 x4, .int .i64 x5, .int .i64 x6, .int .i64 x7, .int .i64 x8, .slice a n c] 59)).alloc (.cells #[.slice ta tn tc, .int .i64 vol, .slice pa pn pc] 73)) from (((Ext.refl w).alloc _).alloc _))
    go_enter Try.func9, Try.ntmps9
    go_wp2_with fail
    with_reducible refine (szLock_any z0 _ _ _ _ _ _ _ _ _ _ _ _ ts _ HN.out HS.out (by decide) (by decide) _ (HF.out.ext (HE0.out)) HZ0.out).mono ?_
    rintro e s0 ⟨rfl, hb⟩
    have XS0 := Lib.hid (show Ext ((w.alloc (.cells #[.int .i64 x0, .int .i64 x1, .int .i64 x2, .int .i64 x3, .int .i64 x4, .int .i64 x5, .int .i64 x6, .int .i64 x7, .int .i64 x8, .slice a n c] 59)).alloc (.cells #[.slice ta tn tc, .int .i64 vol, .slice pa pn pc] 73)) s0 from hb)
    clear hb
    have s1_0 : s0.cell? ⟨w.heap.size + 1, 0, none⟩ = some (.slice ta tn tc) := (BA1.out.ext XS0.out).cell rfl
    have s1_1 : s0.cell? ⟨w.heap.size + 1, 1, none⟩ = some (.int .i64 vol) := (BA1.out.ext XS0.out).cell rfl
    have s1_2 : s0.cell? ⟨w.heap.size + 1, 2, none⟩ = some (.slice pa pn pc) := (BA1.out.ext XS0.out).cell rfl
    go_wp2_with fail
    with_reducible refine (szReach_any z1 _ _ _ _ _ _ _ _ HTL.out HPL.out hz0 hy0 _ HZ1.out).mono ?_
    rintro e s1 ⟨rfl, hb⟩
    have XS1 := Lib.hid (show Ext ((w.alloc (.cells #[.int .i64 x0, .int .i64 x1, .int .i64 x2, .int .i64 x3, .int .i64 x4, .int .i64 x5, .int .i64 x6, .int .i64 x7, .int .i64 x8, .slice a n c] 59)).alloc (.cells #[.slice ta tn tc, .int .i64 vol, .slice pa pn pc] 73)) s1 from XS0.out.trans hb)
    clear hb s1_0 s1_1 s1_2
    go_wp2
    go_ret
    exact ⟨rfl, HE0.out.trans XS1.out⟩
  obtain ⟨htl2, hpl2, hy1'⟩ := szReach_bounds hz0 hy0 (by rw [hzz1]; exact hneg1)
  rw [hzz1] at hy1'
  have hz1 : 0 ≤ z1 := by omega
  have hy1 : z1 ≤ 1048576 := by omega
  have d1 : decide (z1 < 0) = false := by simpa using hneg1
  clear hzz0 hzz1 hn 
  have BA0 := Lib.hid (show RowAt ((w.alloc (.cells #[.int .i64 x0, .int .i64 x1, .int .i64 x2, .int .i64 x3, .int .i64 x4, .int .i64 x5, .int .i64 x6, .int .i64 x7, .int .i64 x8, .slice a n c] 59)).alloc (.cells #[.slice ta tn tc, .int .i64 vol, .slice pa pn pc] 73)) (w.heap.size) 59 #[.int .i64 x0, .int .i64 x1, .int .i64 x2, .int .i64 x3, .int .i64 x4, .int .i64 x5, .int .i64 x6, .int .i64 x7, .int .i64 x8, .slice a n c] from by
    have h := (RowAt.new w 59 #[.int .i64 x0, .int .i64 x1, .int .i64 x2, .int .i64 x3, .int .i64 x4, .int .i64 x5, .int .i64 x6, .int .i64 x7, .int .i64 x8, .slice a n c]).ext ((Ext.refl _).alloc (.cells #[.slice ta tn tc, .int .i64 vol, .slice pa pn pc] 73))
    exact h)
  have BA1 := Lib.hid (show RowAt ((w.alloc (.cells #[.int .i64 x0, .int .i64 x1, .int .i64 x2, .int .i64 x3, .int .i64 x4, .int .i64 x5, .int .i64 x6, .int .i64 x7, .int .i64 x8, .slice a n c] 59)).alloc (.cells #[.slice ta tn tc, .int .i64 vol, .slice pa pn pc] 73)) (w.heap.size + 1) 73 #[.slice ta tn tc, .int .i64 vol, .slice pa pn pc] from by
    have h := (RowAt.new (w.alloc (.cells #[.int .i64 x0, .int .i64 x1, .int .i64 x2, .int .i64 x3, .int .i64 x4, .int .i64 x5, .int .i64 x6, .int .i64 x7, .int .i64 x8, .slice a n c] 59)) 73 #[.slice ta tn tc, .int .i64 vol, .slice pa pn pc]).ext (Ext.refl _)
    simp only [World.size_alloc] at h
    exact h)
  have HE0 := Lib.hid (show Ext w ((w.alloc (.cells #[.int .i64 x0, .int .i64 x1, .int .i64 x2, .int .i64 x3, .int .i64 x4, .int .i64 x5, .int .i64 x6, .int .i64 x7, .int .i64 x8, .slice a n c] 59)).alloc (.cells #[.slice ta tn tc, .int .i64 vol, .slice pa pn pc] 73)) from (((Ext.refl w).alloc _).alloc _))
  obtain ⟨ts1, ut, rows1, ok, hRes⟩ : ∃ ts1 ut rows1 ok, leaveRes x0 x1 x2 x3 x4 x5 x6 x7 x8 ts ps vol xs = (ts1, (ut, rows1), ok) := ⟨_, _, _, _, rfl⟩
  obtain ⟨hb1a, hb1b, hb1c, hb1d⟩ := leaveRes_b hRes HTS.out
  obtain ⟨n1, hn1⟩ : ∃ m, m = ts1.length := ⟨_, rfl⟩
  obtain ⟨m1, hm1⟩ : ∃ m, m = rows1.length := ⟨_, rfl⟩
  rw [← hn1, ← HN.out] at hb1a
  have hs1b : n1 ≤ 1048576 := by omega
  have HN1 := Lib.hid hn1; clear hn1
  have HS1 := Lib.hid (show n1 ≤ maxLen by unfold maxLen; omega)
  have HTS1 := Lib.hid hb1b; clear hb1b
  have hm1b := hb1d.1
  rw [← hm1] at hm1b
  have HMR := Lib.hid hm1; clear hm1
  have HML := Lib.hid (show m1 ≤ maxLen by unfold maxLen; omega)
  have HRR1 := Lib.hid hb1d.2.1
  obtain ⟨M1, hM1⟩ : ∃ T, mLen ts1 = T := ⟨_, rfl⟩
  have hM1b : M1 ≤ 1073741824 := by rw [← hM1]; omega
  have HM1 := Lib.hid hM1; clear hM1 hb1c
  obtain ⟨T1, hT1⟩ : ∃ T, total rows1 = T := ⟨_, rfl⟩
  have hT1b : T1 ≤ 1048576 := by rw [← hT1, total_flatten]; exact hb1d.2.2
  have HT1 := Lib.hid hT1; clear hT1 hb1d
  have HRES := Lib.hid hRes; clear hRes
  have hd3 : decide (1 + (M1 : Int) < 0) = false := by simp; omega
  have hd4 : decide (1 + (M1 : Int) + 6 * (T1 : Int) < 0) = false := by simp; omega
  obtain ⟨M0, hM0⟩ : ∃ T, mLen ts = T := ⟨_, rfl⟩
  have hM0b : M0 ≤ 1073741824 := by rw [← hM0]; exact hTb
  have HM0 := Lib.hid hM0; clear hM0
  have hd1 : decide (1 + (M0 : Int) < 0) = false := by simp; omega
  go_enter Try.func9, Try.ntmps9
  go_wp2_with fail
  with_reducible refine (szLock_any z0 _ _ _ _ _ _ _ _ _ _ _ _ ts _ HN.out HS.out (by decide) (by decide) _ (HF.out.ext (HE0.out)) HZ0.out).mono ?_
  rintro e s0 ⟨rfl, hb⟩
  have XS0 := Lib.hid (show Ext ((w.alloc (.cells #[.int .i64 x0, .int .i64 x1, .int .i64 x2, .int .i64 x3, .int .i64 x4, .int .i64 x5, .int .i64 x6, .int .i64 x7, .int .i64 x8, .slice a n c] 59)).alloc (.cells #[.slice ta tn tc, .int .i64 vol, .slice pa pn pc] 73)) s0 from hb)
  clear hb
  have s1_0 : s0.cell? ⟨w.heap.size + 1, 0, none⟩ = some (.slice ta tn tc) := (BA1.out.ext XS0.out).cell rfl
  have s1_1 : s0.cell? ⟨w.heap.size + 1, 1, none⟩ = some (.int .i64 vol) := (BA1.out.ext XS0.out).cell rfl
  have s1_2 : s0.cell? ⟨w.heap.size + 1, 2, none⟩ = some (.slice pa pn pc) := (BA1.out.ext XS0.out).cell rfl
  go_wp2_with fail
  with_reducible refine (szReach_any z1 _ _ _ _ _ _ _ _ HTL.out HPL.out hz0 hy0 _ HZ1.out).mono ?_
  rintro e s1 ⟨rfl, hb⟩
  have XS1 := Lib.hid (show Ext ((w.alloc (.cells #[.int .i64 x0, .int .i64 x1, .int .i64 x2, .int .i64 x3, .int .i64 x4, .int .i64 x5, .int .i64 x6, .int .i64 x7, .int .i64 x8, .slice a n c] 59)).alloc (.cells #[.slice ta tn tc, .int .i64 vol, .slice pa pn pc] 73)) s1 from XS0.out.trans hb)
  clear hb s1_0 s1_1 s1_2
  have HW0 := Lib.hid (HE0.out.trans XS1.out)
  have zz0 := XS1.out.size
  simp only [World.size_alloc] at zz0
  have BX0_0 := Lib.hid (BA0.out.ext XS1.out)
  have BX1_0 := Lib.hid (BA1.out.ext XS1.out)
  clear XS0 XS1
  have cBX00 : s1.cell? ⟨w.heap.size, 0, none⟩ = some (.int .i64 x0) := BX0_0.out.cell rfl
  have cBX01 : s1.cell? ⟨w.heap.size, 1, none⟩ = some (.int .i64 x1) := BX0_0.out.cell rfl
  have cBX02 : s1.cell? ⟨w.heap.size, 2, none⟩ = some (.int .i64 x2) := BX0_0.out.cell rfl
  have cBX03 : s1.cell? ⟨w.heap.size, 3, none⟩ = some (.int .i64 x3) := BX0_0.out.cell rfl
  have cBX04 : s1.cell? ⟨w.heap.size, 4, none⟩ = some (.int .i64 x4) := BX0_0.out.cell rfl
  have cBX05 : s1.cell? ⟨w.heap.size, 5, none⟩ = some (.int .i64 x5) := BX0_0.out.cell rfl
  have cBX06 : s1.cell? ⟨w.heap.size, 6, none⟩ = some (.int .i64 x6) := BX0_0.out.cell rfl
  have cBX07 : s1.cell? ⟨w.heap.size, 7, none⟩ = some (.int .i64 x7) := BX0_0.out.cell rfl
  have cBX08 : s1.cell? ⟨w.heap.size, 8, none⟩ = some (.int .i64 x8) := BX0_0.out.cell rfl
  have cBX09 : s1.cell? ⟨w.heap.size, 9, none⟩ = some (.slice a n c) := BX0_0.out.cell rfl
  have cBX10 : s1.cell? ⟨w.heap.size + 1, 0, none⟩ = some (.slice ta tn tc) := BX1_0.out.cell rfl
  have cBX11 : s1.cell? ⟨w.heap.size + 1, 1, none⟩ = some (.int .i64 vol) := BX1_0.out.cell rfl
  have cBX12 : s1.cell? ⟨w.heap.size + 1, 2, none⟩ = some (.slice pa pn pc) := BX1_0.out.cell rfl
  go_wp2_with fail
  clear cBX00 cBX01 cBX02 cBX03 cBX04 cBX05 cBX06 cBX07 cBX08 cBX09
  clear cBX10 cBX11 cBX12
  have HSK := Lib.hid (fun (w' : World) (h : Ext s1 w') => (⟨(BX0_0.out.ext h).cell rfl, (BX0_0.out.ext h).cell rfl, (BX0_0.out.ext h).cell rfl, (BX0_0.out.ext h).cell rfl, (BX0_0.out.ext h).cell rfl, (BX0_0.out.ext h).cell rfl, (BX0_0.out.ext h).cell rfl, (BX0_0.out.ext h).cell rfl, (BX0_0.out.ext h).cell rfl, (BX0_0.out.ext h).cell rfl, (BX1_0.out.ext h).cell rfl, (BX1_0.out.ext h).cell rfl, (BX1_0.out.ext h).cell rfl⟩ : w'.cell? ⟨w.heap.size, 0, none⟩ = some (.int .i64 x0) ∧ w'.cell? ⟨w.heap.size, 1, none⟩ = some (.int .i64 x1) ∧ w'.cell? ⟨w.heap.size, 2, none⟩ = some (.int .i64 x2) ∧ w'.cell? ⟨w.heap.size, 3, none⟩ = some (.int .i64 x3) ∧ w'.cell? ⟨w.heap.size, 4, none⟩ = some (.int .i64 x4) ∧ w'.cell? ⟨w.heap.size, 5, none⟩ = some (.int .i64 x5) ∧ w'.cell? ⟨w.heap.size, 6, none⟩ = some (.int .i64 x6) ∧ w'.cell? ⟨w.heap.size, 7, none⟩ = some (.int .i64 x7) ∧ w'.cell? ⟨w.heap.size, 8, none⟩ = some (.int .i64 x8) ∧ w'.cell? ⟨w.heap.size, 9, none⟩ = some (.slice a n c) ∧ w'.cell? ⟨w.heap.size + 1, 0, none⟩ = some (.slice ta tn tc) ∧ w'.cell? ⟨w.heap.size + 1, 1, none⟩ = some (.int .i64 vol) ∧ w'.cell? ⟨w.heap.size + 1, 2, none⟩ = some (.slice pa pn pc)))
  refine wp_region_held_drew (S := (fun w' => w'.cell? ⟨w.heap.size, 0, none⟩ = some (.int .i64 x0) ∧ w'.cell? ⟨w.heap.size, 1, none⟩ = some (.int .i64 x1) ∧ w'.cell? ⟨w.heap.size, 2, none⟩ = some (.int .i64 x2) ∧ w'.cell? ⟨w.heap.size, 3, none⟩ = some (.int .i64 x3) ∧ w'.cell? ⟨w.heap.size, 4, none⟩ = some (.int .i64 x4) ∧ w'.cell? ⟨w.heap.size, 5, none⟩ = some (.int .i64 x5) ∧ w'.cell? ⟨w.heap.size, 6, none⟩ = some (.int .i64 x6) ∧ w'.cell? ⟨w.heap.size, 7, none⟩ = some (.int .i64 x7) ∧ w'.cell? ⟨w.heap.size, 8, none⟩ = some (.int .i64 x8) ∧ w'.cell? ⟨w.heap.size, 9, none⟩ = some (.slice a n c) ∧ w'.cell? ⟨w.heap.size + 1, 0, none⟩ = some (.slice ta tn tc) ∧ w'.cell? ⟨w.heap.size + 1, 1, none⟩ = some (.int .i64 vol) ∧ w'.cell? ⟨w.heap.size + 1, 2, none⟩ = some (.slice pa pn pc))) (by kernel_rfl) ?_ (fun hH0 => ?_)
  · exact HSK.out _ (Ext.refl _).drew
  apply cut_any2 (G := fun b1 b2 p q p1 q1 p2 q2 w' => Ext s1 w' ∧ (s1.heap.size ≤ b1 ∧ b1 < w'.heap.size) ∧ (s1.heap.size ≤ b2 ∧ b2 < w'.heap.size) ∧ b1 ≠ b2 ∧ RowAt w' b1 26 #[.int .i64 0, .int .i64 0, .int .i64 0, .int .i64 0, .int .i64 0, .int .i64 0, .int .i64 0, .int .i64 0, .int .i64 0, .slice none 0 0] ∧ RowAt w' b2 33 #[.bool false, .slice none 0 0] ∧ ∃ lo1 hi1 lo2 hi2, ((s1.heap.size ≤ lo1 ∧ lo1 ≤ hi1) ∧ (s1.heap.size ≤ lo2 ∧ lo2 ≤ hi2) ∧ hi1 ≤ w'.heap.size ∧ hi2 ≤ w'.heap.size) ∧ ((b1 < lo1 ∨ hi1 ≤ b1) ∧ (b1 < lo2 ∨ hi2 ≤ b1) ∧ (b2 < lo1 ∨ hi1 ≤ b2) ∧ (b2 < lo2 ∨ hi2 ≤ b2)) ∧ OwnTrains w' lo1 hi1 p ts1 ∧ OwnRows w' lo2 hi2 p1 rows1)
  case h =>
    intro hcut
    obtain ⟨yo, hyd⟩ : ∃ y : Option Addr, y = none := ⟨_, rfl⟩; clear hyd; obtain ⟨yn, hyd⟩ : ∃ y : Nat, y = 0 := ⟨_, rfl⟩; clear hyd
    obtain ⟨yd3, hyd⟩ : ∃ y : Addr, y = ⟨0, 0, none⟩ := ⟨_, rfl⟩; clear hyd
    obtain ⟨yd4, hyd⟩ : ∃ y : Addr, y = ⟨0, 0, none⟩ := ⟨_, rfl⟩; clear hyd
    obtain ⟨u0, hu⟩ : ∃ x, x = s1.drew := ⟨_, rfl⟩
    have x0 : Ext s1 u0 := (by rw [hu]; exact (Ext.refl _).drew)
    (try rw [← hu] at hH0)
    (try rw [← hu])
    have z0 : s1.heap.size ≤ u0.heap.size := x0.size
    clear hu
    refine take_l 0 (v := ?_) rfl (by kernel_rfl) (by kernel_rfl) (by kernel_rfl) (fun _ _ _ h => h) (by rfl) ?_ (by assumption) ?_
    rotate_left
    · (intro w hSw; (try dsimp only at hSw); go_simp; (try with_reducible rfl))
    (try simp only [Act.put, List.setIfInBounds_toArray, List.set_cons_zero, List.set_cons_succ])
    refine take_l 2 (v := ?_) rfl (by kernel_rfl) (by kernel_rfl) (by kernel_rfl) (fun _ _ _ h => h) (by rfl) ?_ (by assumption) ?_
    rotate_left
    · (intro w hSw; (try dsimp only at hSw); go_simp; (try with_reducible rfl))
    (try simp only [Act.put, List.setIfInBounds_toArray, List.set_cons_zero, List.set_cons_succ])
    refine wpAnyH_ready (rs := [1, 9, 10]) (by kernel_rfl) (by simp) ?_
    refine cons_l (i := 1) rfl (fun K hK => ?_) ?_
    go_simp; (go_at_call 34; with_reducible refine (toLock_any _ _ _ _ _ _ _ _ _ _ _ _ ts _ HN.out hs2 HTS.out (HF.out.ext (HW0.out.trans x0))).mono ?_)
    rintro e u1 ⟨aZ0, rfl, ho, g1⟩
    have x1 := x0.trans g1; have z1 := g1.size
    have OT0 := Lib.hid (ho)
    refine hK.out _ _ ?_ (fun hH1 => ?_)
    · (try dsimp only)
      exact HSK.out _ x1
    clear hK K hH0
    (try simp only [Act.put, List.setIfInBounds_toArray, List.set_cons_zero, List.set_cons_succ])
    refine wpAnyH_ready (rs := [3, 9, 10]) (by kernel_rfl) (by simp) ?_
    refine cons_l (i := 3) rfl (fun K hK => ?_) ?_
    go_simp; (go_at_call 45; with_reducible refine (toReach_any _ _ _ _ _ _ _ ps xs _ HT.out htl2 HP.out hpl2 (HFT.out.ext (HW0.out.trans x1)) (HFP.out.ext (HW0.out.trans x1))).mono ?_)
    rintro e u2 ⟨fZ1, gZ1, midZ1, rfl, hmZ1, ho, hoi, g2⟩
    have x2 := x1.trans g2; have z2 := g2.size
    have OR1 := Lib.hid (OwnReach.mk hmZ1 ho hoi)
    refine hK.out _ _ ?_ (fun hH2 => ?_)
    · (try dsimp only)
      exact HSK.out _ x2
    clear hK K hH1
    (try simp only [Act.put, List.setIfInBounds_toArray, List.set_cons_zero, List.set_cons_succ])
    refine wpAnyH_ready (rs := [4, 9, 10]) (by kernel_rfl) (by simp) ?_
    refine cons_l (i := 4) rfl (fun K hK => ?_) ?_
    go_simp; (go_at_call 51; with_reducible refine (specLeave_any ts1 n1 ut rows1 m1 ok _ _ _ _ _ _ _ _ _ _ _ _ ts _ _ _ _ _ _ _ ps xs _ HN.out hs2 HTS.out (OT0.out.ext (g2)).trains HT.out htl2 HP.out hpl2 OR1.out.pts OR1.out.ints HVOL.out (Nat.le_refl _) (by omega) HN1.out HMR.out HRES.out).mono ?_)
    rintro e u3 ⟨p, q, p1, q1, rfl, hlr, g3⟩
    have x3 := x2.trans g3; have z3 := g3.size
    obtain ⟨hq1, hq2⟩ := hlr
    refine hK.out _ _ ?_ (fun hH3 => ?_)
    · (try dsimp only)
      exact HSK.out _ x3
    clear hK K hH2
    (try simp only [Act.put, List.setIfInBounds_toArray, List.set_cons_zero, List.set_cons_succ])
    refine take_l 5 (v := ?_) rfl (by kernel_rfl) (by kernel_rfl) (by kernel_rfl) (fun _ _ _ h => h) (by rfl) ?_ (by assumption) ?_
    rotate_left
    · (intro w hSw; (try dsimp only at hSw); go_simp; (try with_reducible rfl))
    (try simp only [Act.put, List.setIfInBounds_toArray, List.set_cons_zero, List.set_cons_succ])
    refine take_l 6 (v := ?_) rfl (by kernel_rfl) (by kernel_rfl) (by kernel_rfl) (fun _ _ _ h => h) (by rfl) ?_ (by assumption) ?_
    rotate_left
    · (intro w hSw; (try dsimp only at hSw); go_simp; (try with_reducible rfl))
    (try simp only [Act.put, List.setIfInBounds_toArray, List.set_cons_zero, List.set_cons_succ])
    refine take_l 7 (v := ?_) rfl (by kernel_rfl) (by kernel_rfl) (by kernel_rfl) (fun _ _ _ h => h) (by rfl) ?_ (by assumption) ?_
    rotate_left
    · (intro w hSw; (try dsimp only at hSw); go_simp; (try with_reducible rfl))
    (try simp only [Act.put, List.setIfInBounds_toArray, List.set_cons_zero, List.set_cons_succ])
    refine take_l 8 (v := ?_) rfl (by kernel_rfl) (by kernel_rfl) (by kernel_rfl) (fun _ _ _ h => h) (by rfl) ?_ (by assumption) ?_
    rotate_left
    · (intro w hSw; (try dsimp only at hSw); go_simp; (try with_reducible rfl))
    (try simp only [Act.put, List.setIfInBounds_toArray, List.set_cons_zero, List.set_cons_succ])
    refine wpAnyH_ready (rs := [9, 10]) (by kernel_rfl) (by simp) ?_
    refine cons_l (i := 9) rfl (fun K hK => ?_) ?_
    go_simp; obtain ⟨bP0, u4, hu, hb, g4, kP0, mP0, nP0, lP0⟩ := alloc_named u3 26 #[.int .i64 0, .int .i64 0, .int .i64 0, .int .i64 0, .int .i64 0, .int .i64 0, .int .i64 0, .int .i64 0, .int .i64 0, .slice none 0 0]; rw [← hu]; (try rw [← hb]); clear hu hb
    have x4 := x3.trans g4; have z4 := g4.size; have KP0 := Lib.hid kP0; clear kP0
    refine hK.out _ _ ?_ (fun hH4 => ?_)
    · (try dsimp only)
      exact HSK.out _ x4
    clear hK K hH3
    (try simp only [Act.put, List.setIfInBounds_toArray, List.set_cons_zero, List.set_cons_succ])
    refine wpAnyH_ready (rs := [10]) (by kernel_rfl) (by simp) ?_
    refine cons_l (i := 10) rfl (fun K hK => ?_) ?_
    go_simp; obtain ⟨bQ0, u5, hu, hb, g5, kQ0, mQ0, nQ0, lQ0⟩ := alloc_named u4 33 #[.bool false, .slice none 0 0]; rw [← hu]; (try rw [← hb]); clear hu hb
    have x5 := x4.trans g5; have z5 := g5.size; have KQ0 := Lib.hid kQ0; clear kQ0
    refine hK.out _ _ ?_ (fun hH5 => ?_)
    · (try dsimp only)
      exact HSK.out _ x5
    clear hK K hH4
    (try simp only [Act.put, List.setIfInBounds_toArray, List.set_cons_zero, List.set_cons_succ])
    exact hcut _ _ ⟨bP0, bQ0, p, q, p1, q1, yo, yn, aZ0, fZ1, gZ1, yd3, yd4, ⟨x5, ⟨by omega, by omega⟩, ⟨by omega, by omega⟩, by omega, (KP0.out.ext (g5)), KQ0.out, u2.heap.size, u3.heap.size, u2.heap.size, u3.heap.size, by omega, by omega, (hq1.ext (g4.trans (g5))), (hq2.ext (g4.trans (g5)))⟩, rfl⟩
    exact AllReadyH.nil
    refine cons_l (i := 10) rfl (fun K hK => ?_) ?_
    go_simp; obtain ⟨bQ0, u4, hu, hb, g4, kQ0, mQ0, nQ0, lQ0⟩ := alloc_named u3 33 #[.bool false, .slice none 0 0]; rw [← hu]; (try rw [← hb]); clear hu hb
    have x4 := x3.trans g4; have z4 := g4.size; have KQ0 := Lib.hid kQ0; clear kQ0
    refine hK.out _ _ ?_ (fun hH4 => ?_)
    · (try dsimp only)
      exact HSK.out _ x4
    clear hK K hH3
    (try simp only [Act.put, List.setIfInBounds_toArray, List.set_cons_zero, List.set_cons_succ])
    refine wpAnyH_ready (rs := [9]) (by kernel_rfl) (by simp) ?_
    refine cons_l (i := 9) rfl (fun K hK => ?_) ?_
    go_simp; obtain ⟨bP0, u5, hu, hb, g5, kP0, mP0, nP0, lP0⟩ := alloc_named u4 26 #[.int .i64 0, .int .i64 0, .int .i64 0, .int .i64 0, .int .i64 0, .int .i64 0, .int .i64 0, .int .i64 0, .int .i64 0, .slice none 0 0]; rw [← hu]; (try rw [← hb]); clear hu hb
    have x5 := x4.trans g5; have z5 := g5.size; have KP0 := Lib.hid kP0; clear kP0
    refine hK.out _ _ ?_ (fun hH5 => ?_)
    · (try dsimp only)
      exact HSK.out _ x5
    clear hK K hH4
    (try simp only [Act.put, List.setIfInBounds_toArray, List.set_cons_zero, List.set_cons_succ])
    exact hcut _ _ ⟨bP0, bQ0, p, q, p1, q1, yo, yn, aZ0, fZ1, gZ1, yd3, yd4, ⟨x5, ⟨by omega, by omega⟩, ⟨by omega, by omega⟩, by omega, KP0.out, (KQ0.out.ext (g5)), u2.heap.size, u3.heap.size, u2.heap.size, u3.heap.size, by omega, by omega, (hq1.ext (g4.trans (g5))), (hq2.ext (g4.trans (g5)))⟩, rfl⟩
    exact AllReadyH.nil
    exact AllReadyH.nil
    refine cons_l (i := 9) rfl (fun K hK => ?_) ?_
    go_simp; obtain ⟨bP0, u3, hu, hb, g3, kP0, mP0, nP0, lP0⟩ := alloc_named u2 26 #[.int .i64 0, .int .i64 0, .int .i64 0, .int .i64 0, .int .i64 0, .int .i64 0, .int .i64 0, .int .i64 0, .int .i64 0, .slice none 0 0]; rw [← hu]; (try rw [← hb]); clear hu hb
    have x3 := x2.trans g3; have z3 := g3.size; have KP0 := Lib.hid kP0; clear kP0
    refine hK.out _ _ ?_ (fun hH3 => ?_)
    · (try dsimp only)
      exact HSK.out _ x3
    clear hK K hH2
    (try simp only [Act.put, List.setIfInBounds_toArray, List.set_cons_zero, List.set_cons_succ])
    refine wpAnyH_ready (rs := [4, 10]) (by kernel_rfl) (by simp) ?_
    refine cons_l (i := 4) rfl (fun K hK => ?_) ?_
    go_simp; (go_at_call 51; with_reducible refine (specLeave_any ts1 n1 ut rows1 m1 ok _ _ _ _ _ _ _ _ _ _ _ _ ts _ _ _ _ _ _ _ ps xs _ HN.out hs2 HTS.out (OT0.out.ext (g2.trans (g3))).trains HT.out htl2 HP.out hpl2 (OR1.out.ext (g3)).pts (OR1.out.ext (g3)).ints HVOL.out (Nat.le_refl _) (by omega) HN1.out HMR.out HRES.out).mono ?_)
    rintro e u4 ⟨p, q, p1, q1, rfl, hlr, g4⟩
    have x4 := x3.trans g4; have z4 := g4.size
    obtain ⟨hq1, hq2⟩ := hlr
    refine hK.out _ _ ?_ (fun hH4 => ?_)
    · (try dsimp only)
      exact HSK.out _ x4
    clear hK K hH3
    (try simp only [Act.put, List.setIfInBounds_toArray, List.set_cons_zero, List.set_cons_succ])
    refine take_l 5 (v := ?_) rfl (by kernel_rfl) (by kernel_rfl) (by kernel_rfl) (fun _ _ _ h => h) (by rfl) ?_ (by assumption) ?_
    rotate_left
    · (intro w hSw; (try dsimp only at hSw); go_simp; (try with_reducible rfl))
    (try simp only [Act.put, List.setIfInBounds_toArray, List.set_cons_zero, List.set_cons_succ])
    refine take_l 6 (v := ?_) rfl (by kernel_rfl) (by kernel_rfl) (by kernel_rfl) (fun _ _ _ h => h) (by rfl) ?_ (by assumption) ?_
    rotate_left
    · (intro w hSw; (try dsimp only at hSw); go_simp; (try with_reducible rfl))
    (try simp only [Act.put, List.setIfInBounds_toArray, List.set_cons_zero, List.set_cons_succ])
    refine take_l 7 (v := ?_) rfl (by kernel_rfl) (by kernel_rfl) (by kernel_rfl) (fun _ _ _ h => h) (by rfl) ?_ (by assumption) ?_
    rotate_left
    · (intro w hSw; (try dsimp only at hSw); go_simp; (try with_reducible rfl))
    (try simp only [Act.put, List.setIfInBounds_toArray, List.set_cons_zero, List.set_cons_succ])
    refine take_l 8 (v := ?_) rfl (by kernel_rfl) (by kernel_rfl) (by kernel_rfl) (fun _ _ _ h => h) (by rfl) ?_ (by assumption) ?_
    rotate_left
    · (intro w hSw; (try dsimp only at hSw); go_simp; (try with_reducible rfl))
    (try simp only [Act.put, List.setIfInBounds_toArray, List.set_cons_zero, List.set_cons_succ])
    refine wpAnyH_ready (rs := [10]) (by kernel_rfl) (by simp) ?_
    refine cons_l (i := 10) rfl (fun K hK => ?_) ?_
    go_simp; obtain ⟨bQ0, u5, hu, hb, g5, kQ0, mQ0, nQ0, lQ0⟩ := alloc_named u4 33 #[.bool false, .slice none 0 0]; rw [← hu]; (try rw [← hb]); clear hu hb
    have x5 := x4.trans g5; have z5 := g5.size; have KQ0 := Lib.hid kQ0; clear kQ0
    refine hK.out _ _ ?_ (fun hH5 => ?_)
    · (try dsimp only)
      exact HSK.out _ x5
    clear hK K hH4
    (try simp only [Act.put, List.setIfInBounds_toArray, List.set_cons_zero, List.set_cons_succ])
    exact hcut _ _ ⟨bP0, bQ0, p, q, p1, q1, yo, yn, aZ0, fZ1, gZ1, yd3, yd4, ⟨x5, ⟨by omega, by omega⟩, ⟨by omega, by omega⟩, by omega, (KP0.out.ext (g4.trans (g5))), KQ0.out, u3.heap.size, u4.heap.size, u3.heap.size, u4.heap.size, by omega, by omega, (hq1.ext (g5)), (hq2.ext (g5))⟩, rfl⟩
    exact AllReadyH.nil
    refine cons_l (i := 10) rfl (fun K hK => ?_) ?_
    go_simp; obtain ⟨bQ0, u4, hu, hb, g4, kQ0, mQ0, nQ0, lQ0⟩ := alloc_named u3 33 #[.bool false, .slice none 0 0]; rw [← hu]; (try rw [← hb]); clear hu hb
    have x4 := x3.trans g4; have z4 := g4.size; have KQ0 := Lib.hid kQ0; clear kQ0
    refine hK.out _ _ ?_ (fun hH4 => ?_)
    · (try dsimp only)
      exact HSK.out _ x4
    clear hK K hH3
    (try simp only [Act.put, List.setIfInBounds_toArray, List.set_cons_zero, List.set_cons_succ])
    refine wpAnyH_ready (rs := [4]) (by kernel_rfl) (by simp) ?_
    refine cons_l (i := 4) rfl (fun K hK => ?_) ?_
    go_simp; (go_at_call 51; with_reducible refine (specLeave_any ts1 n1 ut rows1 m1 ok _ _ _ _ _ _ _ _ _ _ _ _ ts _ _ _ _ _ _ _ ps xs _ HN.out hs2 HTS.out (OT0.out.ext (g2.trans (g3.trans (g4)))).trains HT.out htl2 HP.out hpl2 (OR1.out.ext (g3.trans (g4))).pts (OR1.out.ext (g3.trans (g4))).ints HVOL.out (Nat.le_refl _) (by omega) HN1.out HMR.out HRES.out).mono ?_)
    rintro e u5 ⟨p, q, p1, q1, rfl, hlr, g5⟩
    have x5 := x4.trans g5; have z5 := g5.size
    obtain ⟨hq1, hq2⟩ := hlr
    refine hK.out _ _ ?_ (fun hH5 => ?_)
    · (try dsimp only)
      exact HSK.out _ x5
    clear hK K hH4
    (try simp only [Act.put, List.setIfInBounds_toArray, List.set_cons_zero, List.set_cons_succ])
    refine take_l 5 (v := ?_) rfl (by kernel_rfl) (by kernel_rfl) (by kernel_rfl) (fun _ _ _ h => h) (by rfl) ?_ (by assumption) ?_
    rotate_left
    · (intro w hSw; (try dsimp only at hSw); go_simp; (try with_reducible rfl))
    (try simp only [Act.put, List.setIfInBounds_toArray, List.set_cons_zero, List.set_cons_succ])
    refine take_l 6 (v := ?_) rfl (by kernel_rfl) (by kernel_rfl) (by kernel_rfl) (fun _ _ _ h => h) (by rfl) ?_ (by assumption) ?_
    rotate_left
    · (intro w hSw; (try dsimp only at hSw); go_simp; (try with_reducible rfl))
    (try simp only [Act.put, List.setIfInBounds_toArray, List.set_cons_zero, List.set_cons_succ])
    refine take_l 7 (v := ?_) rfl (by kernel_rfl) (by kernel_rfl) (by kernel_rfl) (fun _ _ _ h => h) (by rfl) ?_ (by assumption) ?_
    rotate_left
    · (intro w hSw; (try dsimp only at hSw); go_simp; (try with_reducible rfl))
    (try simp only [Act.put, List.setIfInBounds_toArray, List.set_cons_zero, List.set_cons_succ])
    refine take_l 8 (v := ?_) rfl (by kernel_rfl) (by kernel_rfl) (by kernel_rfl) (fun _ _ _ h => h) (by rfl) ?_ (by assumption) ?_
    rotate_left
    · (intro w hSw; (try dsimp only at hSw); go_simp; (try with_reducible rfl))
    (try simp only [Act.put, List.setIfInBounds_toArray, List.set_cons_zero, List.set_cons_succ])
    exact hcut _ _ ⟨bP0, bQ0, p, q, p1, q1, yo, yn, aZ0, fZ1, gZ1, yd3, yd4, ⟨x5, ⟨by omega, by omega⟩, ⟨by omega, by omega⟩, by omega, (KP0.out.ext (g4.trans (g5))), (KQ0.out.ext (g5)), u4.heap.size, u5.heap.size, u4.heap.size, u5.heap.size, by omega, by omega, hq1, hq2⟩, rfl⟩
    exact AllReadyH.nil
    exact AllReadyH.nil
    refine cons_l (i := 10) rfl (fun K hK => ?_) ?_
    go_simp; obtain ⟨bQ0, u3, hu, hb, g3, kQ0, mQ0, nQ0, lQ0⟩ := alloc_named u2 33 #[.bool false, .slice none 0 0]; rw [← hu]; (try rw [← hb]); clear hu hb
    have x3 := x2.trans g3; have z3 := g3.size; have KQ0 := Lib.hid kQ0; clear kQ0
    refine hK.out _ _ ?_ (fun hH3 => ?_)
    · (try dsimp only)
      exact HSK.out _ x3
    clear hK K hH2
    (try simp only [Act.put, List.setIfInBounds_toArray, List.set_cons_zero, List.set_cons_succ])
    refine wpAnyH_ready (rs := [4, 9]) (by kernel_rfl) (by simp) ?_
    refine cons_l (i := 4) rfl (fun K hK => ?_) ?_
    go_simp; (go_at_call 51; with_reducible refine (specLeave_any ts1 n1 ut rows1 m1 ok _ _ _ _ _ _ _ _ _ _ _ _ ts _ _ _ _ _ _ _ ps xs _ HN.out hs2 HTS.out (OT0.out.ext (g2.trans (g3))).trains HT.out htl2 HP.out hpl2 (OR1.out.ext (g3)).pts (OR1.out.ext (g3)).ints HVOL.out (Nat.le_refl _) (by omega) HN1.out HMR.out HRES.out).mono ?_)
    rintro e u4 ⟨p, q, p1, q1, rfl, hlr, g4⟩
    have x4 := x3.trans g4; have z4 := g4.size
    obtain ⟨hq1, hq2⟩ := hlr
    refine hK.out _ _ ?_ (fun hH4 => ?_)
    · (try dsimp only)
      exact HSK.out _ x4
    clear hK K hH3
    (try simp only [Act.put, List.setIfInBounds_toArray, List.set_cons_zero, List.set_cons_succ])
    refine take_l 5 (v := ?_) rfl (by kernel_rfl) (by kernel_rfl) (by kernel_rfl) (fun _ _ _ h => h) (by rfl) ?_ (by assumption) ?_
    rotate_left
    · (intro w hSw; (try dsimp only at hSw); go_simp; (try with_reducible rfl))
    (try simp only [Act.put, List.setIfInBounds_toArray, List.set_cons_zero, List.set_cons_succ])
    refine take_l 6 (v := ?_) rfl (by kernel_rfl) (by kernel_rfl) (by kernel_rfl) (fun _ _ _ h => h) (by rfl) ?_ (by assumption) ?_
    rotate_left
    · (intro w hSw; (try dsimp only at hSw); go_simp; (try with_reducible rfl))
    (try simp only [Act.put, List.setIfInBounds_toArray, List.set_cons_zero, List.set_cons_succ])
    refine take_l 7 (v := ?_) rfl (by kernel_rfl) (by kernel_rfl) (by kernel_rfl) (fun _ _ _ h => h) (by rfl) ?_ (by assumption) ?_
    rotate_left
    · (intro w hSw; (try dsimp only at hSw); go_simp; (try with_reducible rfl))
    (try simp only [Act.put, List.setIfInBounds_toArray, List.set_cons_zero, List.set_cons_succ])
    refine take_l 8 (v := ?_) rfl (by kernel_rfl) (by kernel_rfl) (by kernel_rfl) (fun _ _ _ h => h) (by rfl) ?_ (by assumption) ?_
    rotate_left
    · (intro w hSw; (try dsimp only at hSw); go_simp; (try with_reducible rfl))
    (try simp only [Act.put, List.setIfInBounds_toArray, List.set_cons_zero, List.set_cons_succ])
    refine wpAnyH_ready (rs := [9]) (by kernel_rfl) (by simp) ?_
    refine cons_l (i := 9) rfl (fun K hK => ?_) ?_
    go_simp; obtain ⟨bP0, u5, hu, hb, g5, kP0, mP0, nP0, lP0⟩ := alloc_named u4 26 #[.int .i64 0, .int .i64 0, .int .i64 0, .int .i64 0, .int .i64 0, .int .i64 0, .int .i64 0, .int .i64 0, .int .i64 0, .slice none 0 0]; rw [← hu]; (try rw [← hb]); clear hu hb
    have x5 := x4.trans g5; have z5 := g5.size; have KP0 := Lib.hid kP0; clear kP0
    refine hK.out _ _ ?_ (fun hH5 => ?_)
    · (try dsimp only)
      exact HSK.out _ x5
    clear hK K hH4
    (try simp only [Act.put, List.setIfInBounds_toArray, List.set_cons_zero, List.set_cons_succ])
    exact hcut _ _ ⟨bP0, bQ0, p, q, p1, q1, yo, yn, aZ0, fZ1, gZ1, yd3, yd4, ⟨x5, ⟨by omega, by omega⟩, ⟨by omega, by omega⟩, by omega, KP0.out, (KQ0.out.ext (g4.trans (g5))), u3.heap.size, u4.heap.size, u3.heap.size, u4.heap.size, by omega, by omega, (hq1.ext (g5)), (hq2.ext (g5))⟩, rfl⟩
    exact AllReadyH.nil
    refine cons_l (i := 9) rfl (fun K hK => ?_) ?_
    go_simp; obtain ⟨bP0, u4, hu, hb, g4, kP0, mP0, nP0, lP0⟩ := alloc_named u3 26 #[.int .i64 0, .int .i64 0, .int .i64 0, .int .i64 0, .int .i64 0, .int .i64 0, .int .i64 0, .int .i64 0, .int .i64 0, .slice none 0 0]; rw [← hu]; (try rw [← hb]); clear hu hb
    have x4 := x3.trans g4; have z4 := g4.size; have KP0 := Lib.hid kP0; clear kP0
    refine hK.out _ _ ?_ (fun hH4 => ?_)
    · (try dsimp only)
      exact HSK.out _ x4
    clear hK K hH3
    (try simp only [Act.put, List.setIfInBounds_toArray, List.set_cons_zero, List.set_cons_succ])
    refine wpAnyH_ready (rs := [4]) (by kernel_rfl) (by simp) ?_
    refine cons_l (i := 4) rfl (fun K hK => ?_) ?_
    go_simp; (go_at_call 51; with_reducible refine (specLeave_any ts1 n1 ut rows1 m1 ok _ _ _ _ _ _ _ _ _ _ _ _ ts _ _ _ _ _ _ _ ps xs _ HN.out hs2 HTS.out (OT0.out.ext (g2.trans (g3.trans (g4)))).trains HT.out htl2 HP.out hpl2 (OR1.out.ext (g3.trans (g4))).pts (OR1.out.ext (g3.trans (g4))).ints HVOL.out (Nat.le_refl _) (by omega) HN1.out HMR.out HRES.out).mono ?_)
    rintro e u5 ⟨p, q, p1, q1, rfl, hlr, g5⟩
    have x5 := x4.trans g5; have z5 := g5.size
    obtain ⟨hq1, hq2⟩ := hlr
    refine hK.out _ _ ?_ (fun hH5 => ?_)
    · (try dsimp only)
      exact HSK.out _ x5
    clear hK K hH4
    (try simp only [Act.put, List.setIfInBounds_toArray, List.set_cons_zero, List.set_cons_succ])
    refine take_l 5 (v := ?_) rfl (by kernel_rfl) (by kernel_rfl) (by kernel_rfl) (fun _ _ _ h => h) (by rfl) ?_ (by assumption) ?_
    rotate_left
    · (intro w hSw; (try dsimp only at hSw); go_simp; (try with_reducible rfl))
    (try simp only [Act.put, List.setIfInBounds_toArray, List.set_cons_zero, List.set_cons_succ])
    refine take_l 6 (v := ?_) rfl (by kernel_rfl) (by kernel_rfl) (by kernel_rfl) (fun _ _ _ h => h) (by rfl) ?_ (by assumption) ?_
    rotate_left
    · (intro w hSw; (try dsimp only at hSw); go_simp; (try with_reducible rfl))
    (try simp only [Act.put, List.setIfInBounds_toArray, List.set_cons_zero, List.set_cons_succ])
    refine take_l 7 (v := ?_) rfl (by kernel_rfl) (by kernel_rfl) (by kernel_rfl) (fun _ _ _ h => h) (by rfl) ?_ (by assumption) ?_
    rotate_left
    · (intro w hSw; (try dsimp only at hSw); go_simp; (try with_reducible rfl))
    (try simp only [Act.put, List.setIfInBounds_toArray, List.set_cons_zero, List.set_cons_succ])
    refine take_l 8 (v := ?_) rfl (by kernel_rfl) (by kernel_rfl) (by kernel_rfl) (fun _ _ _ h => h) (by rfl) ?_ (by assumption) ?_
    rotate_left
    · (intro w hSw; (try dsimp only at hSw); go_simp; (try with_reducible rfl))
    (try simp only [Act.put, List.setIfInBounds_toArray, List.set_cons_zero, List.set_cons_succ])
    exact hcut _ _ ⟨bP0, bQ0, p, q, p1, q1, yo, yn, aZ0, fZ1, gZ1, yd3, yd4, ⟨x5, ⟨by omega, by omega⟩, ⟨by omega, by omega⟩, by omega, (KP0.out.ext (g5)), (KQ0.out.ext (g4.trans (g5))), u4.heap.size, u5.heap.size, u4.heap.size, u5.heap.size, by omega, by omega, hq1, hq2⟩, rfl⟩
    exact AllReadyH.nil
    exact AllReadyH.nil
    exact AllReadyH.nil
    refine cons_l (i := 9) rfl (fun K hK => ?_) ?_
    go_simp; obtain ⟨bP0, u2, hu, hb, g2, kP0, mP0, nP0, lP0⟩ := alloc_named u1 26 #[.int .i64 0, .int .i64 0, .int .i64 0, .int .i64 0, .int .i64 0, .int .i64 0, .int .i64 0, .int .i64 0, .int .i64 0, .slice none 0 0]; rw [← hu]; (try rw [← hb]); clear hu hb
    have x2 := x1.trans g2; have z2 := g2.size; have KP0 := Lib.hid kP0; clear kP0
    refine hK.out _ _ ?_ (fun hH2 => ?_)
    · (try dsimp only)
      exact HSK.out _ x2
    clear hK K hH1
    (try simp only [Act.put, List.setIfInBounds_toArray, List.set_cons_zero, List.set_cons_succ])
    refine wpAnyH_ready (rs := [3, 10]) (by kernel_rfl) (by simp) ?_
    refine cons_l (i := 3) rfl (fun K hK => ?_) ?_
    go_simp; (go_at_call 45; with_reducible refine (toReach_any _ _ _ _ _ _ _ ps xs _ HT.out htl2 HP.out hpl2 (HFT.out.ext (HW0.out.trans x2)) (HFP.out.ext (HW0.out.trans x2))).mono ?_)
    rintro e u3 ⟨fZ1, gZ1, midZ1, rfl, hmZ1, ho, hoi, g3⟩
    have x3 := x2.trans g3; have z3 := g3.size
    have OR1 := Lib.hid (OwnReach.mk hmZ1 ho hoi)
    refine hK.out _ _ ?_ (fun hH3 => ?_)
    · (try dsimp only)
      exact HSK.out _ x3
    clear hK K hH2
    (try simp only [Act.put, List.setIfInBounds_toArray, List.set_cons_zero, List.set_cons_succ])
    refine wpAnyH_ready (rs := [4, 10]) (by kernel_rfl) (by simp) ?_
    refine cons_l (i := 4) rfl (fun K hK => ?_) ?_
    go_simp; (go_at_call 51; with_reducible refine (specLeave_any ts1 n1 ut rows1 m1 ok _ _ _ _ _ _ _ _ _ _ _ _ ts _ _ _ _ _ _ _ ps xs _ HN.out hs2 HTS.out (OT0.out.ext (g2.trans (g3))).trains HT.out htl2 HP.out hpl2 OR1.out.pts OR1.out.ints HVOL.out (Nat.le_refl _) (by omega) HN1.out HMR.out HRES.out).mono ?_)
    rintro e u4 ⟨p, q, p1, q1, rfl, hlr, g4⟩
    have x4 := x3.trans g4; have z4 := g4.size
    obtain ⟨hq1, hq2⟩ := hlr
    refine hK.out _ _ ?_ (fun hH4 => ?_)
    · (try dsimp only)
      exact HSK.out _ x4
    clear hK K hH3
    (try simp only [Act.put, List.setIfInBounds_toArray, List.set_cons_zero, List.set_cons_succ])
    refine take_l 5 (v := ?_) rfl (by kernel_rfl) (by kernel_rfl) (by kernel_rfl) (fun _ _ _ h => h) (by rfl) ?_ (by assumption) ?_
    rotate_left
    · (intro w hSw; (try dsimp only at hSw); go_simp; (try with_reducible rfl))
    (try simp only [Act.put, List.setIfInBounds_toArray, List.set_cons_zero, List.set_cons_succ])
    refine take_l 6 (v := ?_) rfl (by kernel_rfl) (by kernel_rfl) (by kernel_rfl) (fun _ _ _ h => h) (by rfl) ?_ (by assumption) ?_
    rotate_left
    · (intro w hSw; (try dsimp only at hSw); go_simp; (try with_reducible rfl))
    (try simp only [Act.put, List.setIfInBounds_toArray, List.set_cons_zero, List.set_cons_succ])
    refine take_l 7 (v := ?_) rfl (by kernel_rfl) (by kernel_rfl) (by kernel_rfl) (fun _ _ _ h => h) (by rfl) ?_ (by assumption) ?_
    rotate_left
    · (intro w hSw; (try dsimp only at hSw); go_simp; (try with_reducible rfl))
    (try simp only [Act.put, List.setIfInBounds_toArray, List.set_cons_zero, List.set_cons_succ])
    refine take_l 8 (v := ?_) rfl (by kernel_rfl) (by kernel_rfl) (by kernel_rfl) (fun _ _ _ h => h) (by rfl) ?_ (by assumption) ?_
    rotate_left
    · (intro w hSw; (try dsimp only at hSw); go_simp; (try with_reducible rfl))
    (try simp only [Act.put, List.setIfInBounds_toArray, List.set_cons_zero, List.set_cons_succ])
    refine wpAnyH_ready (rs := [10]) (by kernel_rfl) (by simp) ?_
    refine cons_l (i := 10) rfl (fun K hK => ?_) ?_
    go_simp; obtain ⟨bQ0, u5, hu, hb, g5, kQ0, mQ0, nQ0, lQ0⟩ := alloc_named u4 33 #[.bool false, .slice none 0 0]; rw [← hu]; (try rw [← hb]); clear hu hb
    have x5 := x4.trans g5; have z5 := g5.size; have KQ0 := Lib.hid kQ0; clear kQ0
    refine hK.out _ _ ?_ (fun hH5 => ?_)
    · (try dsimp only)
      exact HSK.out _ x5
    clear hK K hH4
    (try simp only [Act.put, List.setIfInBounds_toArray, List.set_cons_zero, List.set_cons_succ])
    exact hcut _ _ ⟨bP0, bQ0, p, q, p1, q1, yo, yn, aZ0, fZ1, gZ1, yd3, yd4, ⟨x5, ⟨by omega, by omega⟩, ⟨by omega, by omega⟩, by omega, (KP0.out.ext (g3.trans (g4.trans (g5)))), KQ0.out, u3.heap.size, u4.heap.size, u3.heap.size, u4.heap.size, by omega, by omega, (hq1.ext (g5)), (hq2.ext (g5))⟩, rfl⟩
    exact AllReadyH.nil
    refine cons_l (i := 10) rfl (fun K hK => ?_) ?_
    go_simp; obtain ⟨bQ0, u4, hu, hb, g4, kQ0, mQ0, nQ0, lQ0⟩ := alloc_named u3 33 #[.bool false, .slice none 0 0]; rw [← hu]; (try rw [← hb]); clear hu hb
    have x4 := x3.trans g4; have z4 := g4.size; have KQ0 := Lib.hid kQ0; clear kQ0
    refine hK.out _ _ ?_ (fun hH4 => ?_)
    · (try dsimp only)
      exact HSK.out _ x4
    clear hK K hH3
    (try simp only [Act.put, List.setIfInBounds_toArray, List.set_cons_zero, List.set_cons_succ])
    refine wpAnyH_ready (rs := [4]) (by kernel_rfl) (by simp) ?_
    refine cons_l (i := 4) rfl (fun K hK => ?_) ?_
    go_simp; (go_at_call 51; with_reducible refine (specLeave_any ts1 n1 ut rows1 m1 ok _ _ _ _ _ _ _ _ _ _ _ _ ts _ _ _ _ _ _ _ ps xs _ HN.out hs2 HTS.out (OT0.out.ext (g2.trans (g3.trans (g4)))).trains HT.out htl2 HP.out hpl2 (OR1.out.ext (g4)).pts (OR1.out.ext (g4)).ints HVOL.out (Nat.le_refl _) (by omega) HN1.out HMR.out HRES.out).mono ?_)
    rintro e u5 ⟨p, q, p1, q1, rfl, hlr, g5⟩
    have x5 := x4.trans g5; have z5 := g5.size
    obtain ⟨hq1, hq2⟩ := hlr
    refine hK.out _ _ ?_ (fun hH5 => ?_)
    · (try dsimp only)
      exact HSK.out _ x5
    clear hK K hH4
    (try simp only [Act.put, List.setIfInBounds_toArray, List.set_cons_zero, List.set_cons_succ])
    refine take_l 5 (v := ?_) rfl (by kernel_rfl) (by kernel_rfl) (by kernel_rfl) (fun _ _ _ h => h) (by rfl) ?_ (by assumption) ?_
    rotate_left
    · (intro w hSw; (try dsimp only at hSw); go_simp; (try with_reducible rfl))
    (try simp only [Act.put, List.setIfInBounds_toArray, List.set_cons_zero, List.set_cons_succ])
    refine take_l 6 (v := ?_) rfl (by kernel_rfl) (by kernel_rfl) (by kernel_rfl) (fun _ _ _ h => h) (by rfl) ?_ (by assumption) ?_
    rotate_left
    · (intro w hSw; (try dsimp only at hSw); go_simp; (try with_reducible rfl))
    (try simp only [Act.put, List.setIfInBounds_toArray, List.set_cons_zero, List.set_cons_succ])
    refine take_l 7 (v := ?_) rfl (by kernel_rfl) (by kernel_rfl) (by kernel_rfl) (fun _ _ _ h => h) (by rfl) ?_ (by assumption) ?_
    rotate_left
    · (intro w hSw; (try dsimp only at hSw); go_simp; (try with_reducible rfl))
    (try simp only [Act.put, List.setIfInBounds_toArray, List.set_cons_zero, List.set_cons_succ])
    refine take_l 8 (v := ?_) rfl (by kernel_rfl) (by kernel_rfl) (by kernel_rfl) (fun _ _ _ h => h) (by rfl) ?_ (by assumption) ?_
    rotate_left
    · (intro w hSw; (try dsimp only at hSw); go_simp; (try with_reducible rfl))
    (try simp only [Act.put, List.setIfInBounds_toArray, List.set_cons_zero, List.set_cons_succ])
    exact hcut _ _ ⟨bP0, bQ0, p, q, p1, q1, yo, yn, aZ0, fZ1, gZ1, yd3, yd4, ⟨x5, ⟨by omega, by omega⟩, ⟨by omega, by omega⟩, by omega, (KP0.out.ext (g3.trans (g4.trans (g5)))), (KQ0.out.ext (g5)), u4.heap.size, u5.heap.size, u4.heap.size, u5.heap.size, by omega, by omega, hq1, hq2⟩, rfl⟩
    exact AllReadyH.nil
    exact AllReadyH.nil
    refine cons_l (i := 10) rfl (fun K hK => ?_) ?_
    go_simp; obtain ⟨bQ0, u3, hu, hb, g3, kQ0, mQ0, nQ0, lQ0⟩ := alloc_named u2 33 #[.bool false, .slice none 0 0]; rw [← hu]; (try rw [← hb]); clear hu hb
    have x3 := x2.trans g3; have z3 := g3.size; have KQ0 := Lib.hid kQ0; clear kQ0
    refine hK.out _ _ ?_ (fun hH3 => ?_)
    · (try dsimp only)
      exact HSK.out _ x3
    clear hK K hH2
    (try simp only [Act.put, List.setIfInBounds_toArray, List.set_cons_zero, List.set_cons_succ])
    refine wpAnyH_ready (rs := [3]) (by kernel_rfl) (by simp) ?_
    refine cons_l (i := 3) rfl (fun K hK => ?_) ?_
    go_simp; (go_at_call 45; with_reducible refine (toReach_any _ _ _ _ _ _ _ ps xs _ HT.out htl2 HP.out hpl2 (HFT.out.ext (HW0.out.trans x3)) (HFP.out.ext (HW0.out.trans x3))).mono ?_)
    rintro e u4 ⟨fZ1, gZ1, midZ1, rfl, hmZ1, ho, hoi, g4⟩
    have x4 := x3.trans g4; have z4 := g4.size
    have OR1 := Lib.hid (OwnReach.mk hmZ1 ho hoi)
    refine hK.out _ _ ?_ (fun hH4 => ?_)
    · (try dsimp only)
      exact HSK.out _ x4
    clear hK K hH3
    (try simp only [Act.put, List.setIfInBounds_toArray, List.set_cons_zero, List.set_cons_succ])
    refine wpAnyH_ready (rs := [4]) (by kernel_rfl) (by simp) ?_
    refine cons_l (i := 4) rfl (fun K hK => ?_) ?_
    go_simp; (go_at_call 51; with_reducible refine (specLeave_any ts1 n1 ut rows1 m1 ok _ _ _ _ _ _ _ _ _ _ _ _ ts _ _ _ _ _ _ _ ps xs _ HN.out hs2 HTS.out (OT0.out.ext (g2.trans (g3.trans (g4)))).trains HT.out htl2 HP.out hpl2 OR1.out.pts OR1.out.ints HVOL.out (Nat.le_refl _) (by omega) HN1.out HMR.out HRES.out).mono ?_)
    rintro e u5 ⟨p, q, p1, q1, rfl, hlr, g5⟩
    have x5 := x4.trans g5; have z5 := g5.size
    obtain ⟨hq1, hq2⟩ := hlr
    refine hK.out _ _ ?_ (fun hH5 => ?_)
    · (try dsimp only)
      exact HSK.out _ x5
    clear hK K hH4
    (try simp only [Act.put, List.setIfInBounds_toArray, List.set_cons_zero, List.set_cons_succ])
    refine take_l 5 (v := ?_) rfl (by kernel_rfl) (by kernel_rfl) (by kernel_rfl) (fun _ _ _ h => h) (by rfl) ?_ (by assumption) ?_
    rotate_left
    · (intro w hSw; (try dsimp only at hSw); go_simp; (try with_reducible rfl))
    (try simp only [Act.put, List.setIfInBounds_toArray, List.set_cons_zero, List.set_cons_succ])
    refine take_l 6 (v := ?_) rfl (by kernel_rfl) (by kernel_rfl) (by kernel_rfl) (fun _ _ _ h => h) (by rfl) ?_ (by assumption) ?_
    rotate_left
    · (intro w hSw; (try dsimp only at hSw); go_simp; (try with_reducible rfl))
    (try simp only [Act.put, List.setIfInBounds_toArray, List.set_cons_zero, List.set_cons_succ])
    refine take_l 7 (v := ?_) rfl (by kernel_rfl) (by kernel_rfl) (by kernel_rfl) (fun _ _ _ h => h) (by rfl) ?_ (by assumption) ?_
    rotate_left
    · (intro w hSw; (try dsimp only at hSw); go_simp; (try with_reducible rfl))
    (try simp only [Act.put, List.setIfInBounds_toArray, List.set_cons_zero, List.set_cons_succ])
    refine take_l 8 (v := ?_) rfl (by kernel_rfl) (by kernel_rfl) (by kernel_rfl) (fun _ _ _ h => h) (by rfl) ?_ (by assumption) ?_
    rotate_left
    · (intro w hSw; (try dsimp only at hSw); go_simp; (try with_reducible rfl))
    (try simp only [Act.put, List.setIfInBounds_toArray, List.set_cons_zero, List.set_cons_succ])
    exact hcut _ _ ⟨bP0, bQ0, p, q, p1, q1, yo, yn, aZ0, fZ1, gZ1, yd3, yd4, ⟨x5, ⟨by omega, by omega⟩, ⟨by omega, by omega⟩, by omega, (KP0.out.ext (g3.trans (g4.trans (g5)))), (KQ0.out.ext (g4.trans (g5))), u4.heap.size, u5.heap.size, u4.heap.size, u5.heap.size, by omega, by omega, hq1, hq2⟩, rfl⟩
    exact AllReadyH.nil
    exact AllReadyH.nil
    exact AllReadyH.nil
    refine cons_l (i := 10) rfl (fun K hK => ?_) ?_
    go_simp; obtain ⟨bQ0, u2, hu, hb, g2, kQ0, mQ0, nQ0, lQ0⟩ := alloc_named u1 33 #[.bool false, .slice none 0 0]; rw [← hu]; (try rw [← hb]); clear hu hb
    have x2 := x1.trans g2; have z2 := g2.size; have KQ0 := Lib.hid kQ0; clear kQ0
    refine hK.out _ _ ?_ (fun hH2 => ?_)
    · (try dsimp only)
      exact HSK.out _ x2
    clear hK K hH1
    (try simp only [Act.put, List.setIfInBounds_toArray, List.set_cons_zero, List.set_cons_succ])
    refine wpAnyH_ready (rs := [3, 9]) (by kernel_rfl) (by simp) ?_
    refine cons_l (i := 3) rfl (fun K hK => ?_) ?_
    go_simp; (go_at_call 45; with_reducible refine (toReach_any _ _ _ _ _ _ _ ps xs _ HT.out htl2 HP.out hpl2 (HFT.out.ext (HW0.out.trans x2)) (HFP.out.ext (HW0.out.trans x2))).mono ?_)
    rintro e u3 ⟨fZ1, gZ1, midZ1, rfl, hmZ1, ho, hoi, g3⟩
    have x3 := x2.trans g3; have z3 := g3.size
    have OR1 := Lib.hid (OwnReach.mk hmZ1 ho hoi)
    refine hK.out _ _ ?_ (fun hH3 => ?_)
    · (try dsimp only)
      exact HSK.out _ x3
    clear hK K hH2
    (try simp only [Act.put, List.setIfInBounds_toArray, List.set_cons_zero, List.set_cons_succ])
    refine wpAnyH_ready (rs := [4, 9]) (by kernel_rfl) (by simp) ?_
    refine cons_l (i := 4) rfl (fun K hK => ?_) ?_
    go_simp; (go_at_call 51; with_reducible refine (specLeave_any ts1 n1 ut rows1 m1 ok _ _ _ _ _ _ _ _ _ _ _ _ ts _ _ _ _ _ _ _ ps xs _ HN.out hs2 HTS.out (OT0.out.ext (g2.trans (g3))).trains HT.out htl2 HP.out hpl2 OR1.out.pts OR1.out.ints HVOL.out (Nat.le_refl _) (by omega) HN1.out HMR.out HRES.out).mono ?_)
    rintro e u4 ⟨p, q, p1, q1, rfl, hlr, g4⟩
    have x4 := x3.trans g4; have z4 := g4.size
    obtain ⟨hq1, hq2⟩ := hlr
    refine hK.out _ _ ?_ (fun hH4 => ?_)
    · (try dsimp only)
      exact HSK.out _ x4
    clear hK K hH3
    (try simp only [Act.put, List.setIfInBounds_toArray, List.set_cons_zero, List.set_cons_succ])
    refine take_l 5 (v := ?_) rfl (by kernel_rfl) (by kernel_rfl) (by kernel_rfl) (fun _ _ _ h => h) (by rfl) ?_ (by assumption) ?_
    rotate_left
    · (intro w hSw; (try dsimp only at hSw); go_simp; (try with_reducible rfl))
    (try simp only [Act.put, List.setIfInBounds_toArray, List.set_cons_zero, List.set_cons_succ])
    refine take_l 6 (v := ?_) rfl (by kernel_rfl) (by kernel_rfl) (by kernel_rfl) (fun _ _ _ h => h) (by rfl) ?_ (by assumption) ?_
    rotate_left
    · (intro w hSw; (try dsimp only at hSw); go_simp; (try with_reducible rfl))
    (try simp only [Act.put, List.setIfInBounds_toArray, List.set_cons_zero, List.set_cons_succ])
    refine take_l 7 (v := ?_) rfl (by kernel_rfl) (by kernel_rfl) (by kernel_rfl) (fun _ _ _ h => h) (by rfl) ?_ (by assumption) ?_
    rotate_left
    · (intro w hSw; (try dsimp only at hSw); go_simp; (try with_reducible rfl))
    (try simp only [Act.put, List.setIfInBounds_toArray, List.set_cons_zero, List.set_cons_succ])
    refine take_l 8 (v := ?_) rfl (by kernel_rfl) (by kernel_rfl) (by kernel_rfl) (fun _ _ _ h => h) (by rfl) ?_ (by assumption) ?_
    rotate_left
    · (intro w hSw; (try dsimp only at hSw); go_simp; (try with_reducible rfl))
    (try simp only [Act.put, List.setIfInBounds_toArray, List.set_cons_zero, List.set_cons_succ])
    refine wpAnyH_ready (rs := [9]) (by kernel_rfl) (by simp) ?_
    refine cons_l (i := 9) rfl (fun K hK => ?_) ?_
    go_simp; obtain ⟨bP0, u5, hu, hb, g5, kP0, mP0, nP0, lP0⟩ := alloc_named u4 26 #[.int .i64 0, .int .i64 0, .int .i64 0, .int .i64 0, .int .i64 0, .int .i64 0, .int .i64 0, .int .i64 0, .int .i64 0, .slice none 0 0]; rw [← hu]; (try rw [← hb]); clear hu hb
    have x5 := x4.trans g5; have z5 := g5.size; have KP0 := Lib.hid kP0; clear kP0
    refine hK.out _ _ ?_ (fun hH5 => ?_)
    · (try dsimp only)
      exact HSK.out _ x5
    clear hK K hH4
    (try simp only [Act.put, List.setIfInBounds_toArray, List.set_cons_zero, List.set_cons_succ])
    exact hcut _ _ ⟨bP0, bQ0, p, q, p1, q1, yo, yn, aZ0, fZ1, gZ1, yd3, yd4, ⟨x5, ⟨by omega, by omega⟩, ⟨by omega, by omega⟩, by omega, KP0.out, (KQ0.out.ext (g3.trans (g4.trans (g5)))), u3.heap.size, u4.heap.size, u3.heap.size, u4.heap.size, by omega, by omega, (hq1.ext (g5)), (hq2.ext (g5))⟩, rfl⟩
    exact AllReadyH.nil
    refine cons_l (i := 9) rfl (fun K hK => ?_) ?_
    go_simp; obtain ⟨bP0, u4, hu, hb, g4, kP0, mP0, nP0, lP0⟩ := alloc_named u3 26 #[.int .i64 0, .int .i64 0, .int .i64 0, .int .i64 0, .int .i64 0, .int .i64 0, .int .i64 0, .int .i64 0, .int .i64 0, .slice none 0 0]; rw [← hu]; (try rw [← hb]); clear hu hb
    have x4 := x3.trans g4; have z4 := g4.size; have KP0 := Lib.hid kP0; clear kP0
    refine hK.out _ _ ?_ (fun hH4 => ?_)
    · (try dsimp only)
      exact HSK.out _ x4
    clear hK K hH3
    (try simp only [Act.put, List.setIfInBounds_toArray, List.set_cons_zero, List.set_cons_succ])
    refine wpAnyH_ready (rs := [4]) (by kernel_rfl) (by simp) ?_
    refine cons_l (i := 4) rfl (fun K hK => ?_) ?_
    go_simp; (go_at_call 51; with_reducible refine (specLeave_any ts1 n1 ut rows1 m1 ok _ _ _ _ _ _ _ _ _ _ _ _ ts _ _ _ _ _ _ _ ps xs _ HN.out hs2 HTS.out (OT0.out.ext (g2.trans (g3.trans (g4)))).trains HT.out htl2 HP.out hpl2 (OR1.out.ext (g4)).pts (OR1.out.ext (g4)).ints HVOL.out (Nat.le_refl _) (by omega) HN1.out HMR.out HRES.out).mono ?_)
    rintro e u5 ⟨p, q, p1, q1, rfl, hlr, g5⟩
    have x5 := x4.trans g5; have z5 := g5.size
    obtain ⟨hq1, hq2⟩ := hlr
    refine hK.out _ _ ?_ (fun hH5 => ?_)
    · (try dsimp only)
      exact HSK.out _ x5
    clear hK K hH4
    (try simp only [Act.put, List.setIfInBounds_toArray, List.set_cons_zero, List.set_cons_succ])
    refine take_l 5 (v := ?_) rfl (by kernel_rfl) (by kernel_rfl) (by kernel_rfl) (fun _ _ _ h => h) (by rfl) ?_ (by assumption) ?_
    rotate_left
    · (intro w hSw; (try dsimp only at hSw); go_simp; (try with_reducible rfl))
    (try simp only [Act.put, List.setIfInBounds_toArray, List.set_cons_zero, List.set_cons_succ])
    refine take_l 6 (v := ?_) rfl (by kernel_rfl) (by kernel_rfl) (by kernel_rfl) (fun _ _ _ h => h) (by rfl) ?_ (by assumption) ?_
    rotate_left
    · (intro w hSw; (try dsimp only at hSw); go_simp; (try with_reducible rfl))
    (try simp only [Act.put, List.setIfInBounds_toArray, List.set_cons_zero, List.set_cons_succ])
    refine take_l 7 (v := ?_) rfl (by kernel_rfl) (by kernel_rfl) (by kernel_rfl) (fun _ _ _ h => h) (by rfl) ?_ (by assumption) ?_
    rotate_left
    · (intro w hSw; (try dsimp only at hSw); go_simp; (try with_reducible rfl))
    (try simp only [Act.put, List.setIfInBounds_toArray, List.set_cons_zero, List.set_cons_succ])
    refine take_l 8 (v := ?_) rfl (by kernel_rfl) (by kernel_rfl) (by kernel_rfl) (fun _ _ _ h => h) (by rfl) ?_ (by assumption) ?_
    rotate_left
    · (intro w hSw; (try dsimp only at hSw); go_simp; (try with_reducible rfl))
    (try simp only [Act.put, List.setIfInBounds_toArray, List.set_cons_zero, List.set_cons_succ])
    exact hcut _ _ ⟨bP0, bQ0, p, q, p1, q1, yo, yn, aZ0, fZ1, gZ1, yd3, yd4, ⟨x5, ⟨by omega, by omega⟩, ⟨by omega, by omega⟩, by omega, (KP0.out.ext (g5)), (KQ0.out.ext (g3.trans (g4.trans (g5)))), u4.heap.size, u5.heap.size, u4.heap.size, u5.heap.size, by omega, by omega, hq1, hq2⟩, rfl⟩
    exact AllReadyH.nil
    exact AllReadyH.nil
    refine cons_l (i := 9) rfl (fun K hK => ?_) ?_
    go_simp; obtain ⟨bP0, u3, hu, hb, g3, kP0, mP0, nP0, lP0⟩ := alloc_named u2 26 #[.int .i64 0, .int .i64 0, .int .i64 0, .int .i64 0, .int .i64 0, .int .i64 0, .int .i64 0, .int .i64 0, .int .i64 0, .slice none 0 0]; rw [← hu]; (try rw [← hb]); clear hu hb
    have x3 := x2.trans g3; have z3 := g3.size; have KP0 := Lib.hid kP0; clear kP0
    refine hK.out _ _ ?_ (fun hH3 => ?_)
    · (try dsimp only)
      exact HSK.out _ x3
    clear hK K hH2
    (try simp only [Act.put, List.setIfInBounds_toArray, List.set_cons_zero, List.set_cons_succ])
    refine wpAnyH_ready (rs := [3]) (by kernel_rfl) (by simp) ?_
    refine cons_l (i := 3) rfl (fun K hK => ?_) ?_
    go_simp; (go_at_call 45; with_reducible refine (toReach_any _ _ _ _ _ _ _ ps xs _ HT.out htl2 HP.out hpl2 (HFT.out.ext (HW0.out.trans x3)) (HFP.out.ext (HW0.out.trans x3))).mono ?_)
    rintro e u4 ⟨fZ1, gZ1, midZ1, rfl, hmZ1, ho, hoi, g4⟩
    have x4 := x3.trans g4; have z4 := g4.size
    have OR1 := Lib.hid (OwnReach.mk hmZ1 ho hoi)
    refine hK.out _ _ ?_ (fun hH4 => ?_)
    · (try dsimp only)
      exact HSK.out _ x4
    clear hK K hH3
    (try simp only [Act.put, List.setIfInBounds_toArray, List.set_cons_zero, List.set_cons_succ])
    refine wpAnyH_ready (rs := [4]) (by kernel_rfl) (by simp) ?_
    refine cons_l (i := 4) rfl (fun K hK => ?_) ?_
    go_simp; (go_at_call 51; with_reducible refine (specLeave_any ts1 n1 ut rows1 m1 ok _ _ _ _ _ _ _ _ _ _ _ _ ts _ _ _ _ _ _ _ ps xs _ HN.out hs2 HTS.out (OT0.out.ext (g2.trans (g3.trans (g4)))).trains HT.out htl2 HP.out hpl2 OR1.out.pts OR1.out.ints HVOL.out (Nat.le_refl _) (by omega) HN1.out HMR.out HRES.out).mono ?_)
    rintro e u5 ⟨p, q, p1, q1, rfl, hlr, g5⟩
    have x5 := x4.trans g5; have z5 := g5.size
    obtain ⟨hq1, hq2⟩ := hlr
    refine hK.out _ _ ?_ (fun hH5 => ?_)
    · (try dsimp only)
      exact HSK.out _ x5
    clear hK K hH4
    (try simp only [Act.put, List.setIfInBounds_toArray, List.set_cons_zero, List.set_cons_succ])
    refine take_l 5 (v := ?_) rfl (by kernel_rfl) (by kernel_rfl) (by kernel_rfl) (fun _ _ _ h => h) (by rfl) ?_ (by assumption) ?_
    rotate_left
    · (intro w hSw; (try dsimp only at hSw); go_simp; (try with_reducible rfl))
    (try simp only [Act.put, List.setIfInBounds_toArray, List.set_cons_zero, List.set_cons_succ])
    refine take_l 6 (v := ?_) rfl (by kernel_rfl) (by kernel_rfl) (by kernel_rfl) (fun _ _ _ h => h) (by rfl) ?_ (by assumption) ?_
    rotate_left
    · (intro w hSw; (try dsimp only at hSw); go_simp; (try with_reducible rfl))
    (try simp only [Act.put, List.setIfInBounds_toArray, List.set_cons_zero, List.set_cons_succ])
    refine take_l 7 (v := ?_) rfl (by kernel_rfl) (by kernel_rfl) (by kernel_rfl) (fun _ _ _ h => h) (by rfl) ?_ (by assumption) ?_
    rotate_left
    · (intro w hSw; (try dsimp only at hSw); go_simp; (try with_reducible rfl))
    (try simp only [Act.put, List.setIfInBounds_toArray, List.set_cons_zero, List.set_cons_succ])
    refine take_l 8 (v := ?_) rfl (by kernel_rfl) (by kernel_rfl) (by kernel_rfl) (fun _ _ _ h => h) (by rfl) ?_ (by assumption) ?_
    rotate_left
    · (intro w hSw; (try dsimp only at hSw); go_simp; (try with_reducible rfl))
    (try simp only [Act.put, List.setIfInBounds_toArray, List.set_cons_zero, List.set_cons_succ])
    exact hcut _ _ ⟨bP0, bQ0, p, q, p1, q1, yo, yn, aZ0, fZ1, gZ1, yd3, yd4, ⟨x5, ⟨by omega, by omega⟩, ⟨by omega, by omega⟩, by omega, (KP0.out.ext (g4.trans (g5))), (KQ0.out.ext (g3.trans (g4.trans (g5)))), u4.heap.size, u5.heap.size, u4.heap.size, u5.heap.size, by omega, by omega, hq1, hq2⟩, rfl⟩
    exact AllReadyH.nil
    exact AllReadyH.nil
    exact AllReadyH.nil
    exact AllReadyH.nil
    refine cons_l (i := 9) rfl (fun K hK => ?_) ?_
    go_simp; obtain ⟨bP0, u1, hu, hb, g1, kP0, mP0, nP0, lP0⟩ := alloc_named u0 26 #[.int .i64 0, .int .i64 0, .int .i64 0, .int .i64 0, .int .i64 0, .int .i64 0, .int .i64 0, .int .i64 0, .int .i64 0, .slice none 0 0]; rw [← hu]; (try rw [← hb]); clear hu hb
    have x1 := x0.trans g1; have z1 := g1.size; have KP0 := Lib.hid kP0; clear kP0
    refine hK.out _ _ ?_ (fun hH1 => ?_)
    · (try dsimp only)
      exact HSK.out _ x1
    clear hK K hH0
    (try simp only [Act.put, List.setIfInBounds_toArray, List.set_cons_zero, List.set_cons_succ])
    refine wpAnyH_ready (rs := [1, 10]) (by kernel_rfl) (by simp) ?_
    refine cons_l (i := 1) rfl (fun K hK => ?_) ?_
    go_simp; (go_at_call 34; with_reducible refine (toLock_any _ _ _ _ _ _ _ _ _ _ _ _ ts _ HN.out hs2 HTS.out (HF.out.ext (HW0.out.trans x1))).mono ?_)
    rintro e u2 ⟨aZ0, rfl, ho, g2⟩
    have x2 := x1.trans g2; have z2 := g2.size
    have OT0 := Lib.hid (ho)
    refine hK.out _ _ ?_ (fun hH2 => ?_)
    · (try dsimp only)
      exact HSK.out _ x2
    clear hK K hH1
    (try simp only [Act.put, List.setIfInBounds_toArray, List.set_cons_zero, List.set_cons_succ])
    refine wpAnyH_ready (rs := [3, 10]) (by kernel_rfl) (by simp) ?_
    refine cons_l (i := 3) rfl (fun K hK => ?_) ?_
    go_simp; (go_at_call 45; with_reducible refine (toReach_any _ _ _ _ _ _ _ ps xs _ HT.out htl2 HP.out hpl2 (HFT.out.ext (HW0.out.trans x2)) (HFP.out.ext (HW0.out.trans x2))).mono ?_)
    rintro e u3 ⟨fZ1, gZ1, midZ1, rfl, hmZ1, ho, hoi, g3⟩
    have x3 := x2.trans g3; have z3 := g3.size
    have OR1 := Lib.hid (OwnReach.mk hmZ1 ho hoi)
    refine hK.out _ _ ?_ (fun hH3 => ?_)
    · (try dsimp only)
      exact HSK.out _ x3
    clear hK K hH2
    (try simp only [Act.put, List.setIfInBounds_toArray, List.set_cons_zero, List.set_cons_succ])
    refine wpAnyH_ready (rs := [4, 10]) (by kernel_rfl) (by simp) ?_
    refine cons_l (i := 4) rfl (fun K hK => ?_) ?_
    go_simp; (go_at_call 51; with_reducible refine (specLeave_any ts1 n1 ut rows1 m1 ok _ _ _ _ _ _ _ _ _ _ _ _ ts _ _ _ _ _ _ _ ps xs _ HN.out hs2 HTS.out (OT0.out.ext (g3)).trains HT.out htl2 HP.out hpl2 OR1.out.pts OR1.out.ints HVOL.out (Nat.le_refl _) (by omega) HN1.out HMR.out HRES.out).mono ?_)
    rintro e u4 ⟨p, q, p1, q1, rfl, hlr, g4⟩
    have x4 := x3.trans g4; have z4 := g4.size
    obtain ⟨hq1, hq2⟩ := hlr
    refine hK.out _ _ ?_ (fun hH4 => ?_)
    · (try dsimp only)
      exact HSK.out _ x4
    clear hK K hH3
    (try simp only [Act.put, List.setIfInBounds_toArray, List.set_cons_zero, List.set_cons_succ])
    refine take_l 5 (v := ?_) rfl (by kernel_rfl) (by kernel_rfl) (by kernel_rfl) (fun _ _ _ h => h) (by rfl) ?_ (by assumption) ?_
    rotate_left
    · (intro w hSw; (try dsimp only at hSw); go_simp; (try with_reducible rfl))
    (try simp only [Act.put, List.setIfInBounds_toArray, List.set_cons_zero, List.set_cons_succ])
    refine take_l 6 (v := ?_) rfl (by kernel_rfl) (by kernel_rfl) (by kernel_rfl) (fun _ _ _ h => h) (by rfl) ?_ (by assumption) ?_
    rotate_left
    · (intro w hSw; (try dsimp only at hSw); go_simp; (try with_reducible rfl))
    (try simp only [Act.put, List.setIfInBounds_toArray, List.set_cons_zero, List.set_cons_succ])
    refine take_l 7 (v := ?_) rfl (by kernel_rfl) (by kernel_rfl) (by kernel_rfl) (fun _ _ _ h => h) (by rfl) ?_ (by assumption) ?_
    rotate_left
    · (intro w hSw; (try dsimp only at hSw); go_simp; (try with_reducible rfl))
    (try simp only [Act.put, List.setIfInBounds_toArray, List.set_cons_zero, List.set_cons_succ])
    refine take_l 8 (v := ?_) rfl (by kernel_rfl) (by kernel_rfl) (by kernel_rfl) (fun _ _ _ h => h) (by rfl) ?_ (by assumption) ?_
    rotate_left
    · (intro w hSw; (try dsimp only at hSw); go_simp; (try with_reducible rfl))
    (try simp only [Act.put, List.setIfInBounds_toArray, List.set_cons_zero, List.set_cons_succ])
    refine wpAnyH_ready (rs := [10]) (by kernel_rfl) (by simp) ?_
    refine cons_l (i := 10) rfl (fun K hK => ?_) ?_
    go_simp; obtain ⟨bQ0, u5, hu, hb, g5, kQ0, mQ0, nQ0, lQ0⟩ := alloc_named u4 33 #[.bool false, .slice none 0 0]; rw [← hu]; (try rw [← hb]); clear hu hb
    have x5 := x4.trans g5; have z5 := g5.size; have KQ0 := Lib.hid kQ0; clear kQ0
    refine hK.out _ _ ?_ (fun hH5 => ?_)
    · (try dsimp only)
      exact HSK.out _ x5
    clear hK K hH4
    (try simp only [Act.put, List.setIfInBounds_toArray, List.set_cons_zero, List.set_cons_succ])
    exact hcut _ _ ⟨bP0, bQ0, p, q, p1, q1, yo, yn, aZ0, fZ1, gZ1, yd3, yd4, ⟨x5, ⟨by omega, by omega⟩, ⟨by omega, by omega⟩, by omega, (KP0.out.ext (g2.trans (g3.trans (g4.trans (g5))))), KQ0.out, u3.heap.size, u4.heap.size, u3.heap.size, u4.heap.size, by omega, by omega, (hq1.ext (g5)), (hq2.ext (g5))⟩, rfl⟩
    exact AllReadyH.nil
    refine cons_l (i := 10) rfl (fun K hK => ?_) ?_
    go_simp; obtain ⟨bQ0, u4, hu, hb, g4, kQ0, mQ0, nQ0, lQ0⟩ := alloc_named u3 33 #[.bool false, .slice none 0 0]; rw [← hu]; (try rw [← hb]); clear hu hb
    have x4 := x3.trans g4; have z4 := g4.size; have KQ0 := Lib.hid kQ0; clear kQ0
    refine hK.out _ _ ?_ (fun hH4 => ?_)
    · (try dsimp only)
      exact HSK.out _ x4
    clear hK K hH3
    (try simp only [Act.put, List.setIfInBounds_toArray, List.set_cons_zero, List.set_cons_succ])
    refine wpAnyH_ready (rs := [4]) (by kernel_rfl) (by simp) ?_
    refine cons_l (i := 4) rfl (fun K hK => ?_) ?_
    go_simp; (go_at_call 51; with_reducible refine (specLeave_any ts1 n1 ut rows1 m1 ok _ _ _ _ _ _ _ _ _ _ _ _ ts _ _ _ _ _ _ _ ps xs _ HN.out hs2 HTS.out (OT0.out.ext (g3.trans (g4))).trains HT.out htl2 HP.out hpl2 (OR1.out.ext (g4)).pts (OR1.out.ext (g4)).ints HVOL.out (Nat.le_refl _) (by omega) HN1.out HMR.out HRES.out).mono ?_)
    rintro e u5 ⟨p, q, p1, q1, rfl, hlr, g5⟩
    have x5 := x4.trans g5; have z5 := g5.size
    obtain ⟨hq1, hq2⟩ := hlr
    refine hK.out _ _ ?_ (fun hH5 => ?_)
    · (try dsimp only)
      exact HSK.out _ x5
    clear hK K hH4
    (try simp only [Act.put, List.setIfInBounds_toArray, List.set_cons_zero, List.set_cons_succ])
    refine take_l 5 (v := ?_) rfl (by kernel_rfl) (by kernel_rfl) (by kernel_rfl) (fun _ _ _ h => h) (by rfl) ?_ (by assumption) ?_
    rotate_left
    · (intro w hSw; (try dsimp only at hSw); go_simp; (try with_reducible rfl))
    (try simp only [Act.put, List.setIfInBounds_toArray, List.set_cons_zero, List.set_cons_succ])
    refine take_l 6 (v := ?_) rfl (by kernel_rfl) (by kernel_rfl) (by kernel_rfl) (fun _ _ _ h => h) (by rfl) ?_ (by assumption) ?_
    rotate_left
    · (intro w hSw; (try dsimp only at hSw); go_simp; (try with_reducible rfl))
    (try simp only [Act.put, List.setIfInBounds_toArray, List.set_cons_zero, List.set_cons_succ])
    refine take_l 7 (v := ?_) rfl (by kernel_rfl) (by kernel_rfl) (by kernel_rfl) (fun _ _ _ h => h) (by rfl) ?_ (by assumption) ?_
    rotate_left
    · (intro w hSw; (try dsimp only at hSw); go_simp; (try with_reducible rfl))
    (try simp only [Act.put, List.setIfInBounds_toArray, List.set_cons_zero, List.set_cons_succ])
    refine take_l 8 (v := ?_) rfl (by kernel_rfl) (by kernel_rfl) (by kernel_rfl) (fun _ _ _ h => h) (by rfl) ?_ (by assumption) ?_
    rotate_left
    · (intro w hSw; (try dsimp only at hSw); go_simp; (try with_reducible rfl))
    (try simp only [Act.put, List.setIfInBounds_toArray, List.set_cons_zero, List.set_cons_succ])
    exact hcut _ _ ⟨bP0, bQ0, p, q, p1, q1, yo, yn, aZ0, fZ1, gZ1, yd3, yd4, ⟨x5, ⟨by omega, by omega⟩, ⟨by omega, by omega⟩, by omega, (KP0.out.ext (g2.trans (g3.trans (g4.trans (g5))))), (KQ0.out.ext (g5)), u4.heap.size, u5.heap.size, u4.heap.size, u5.heap.size, by omega, by omega, hq1, hq2⟩, rfl⟩
    exact AllReadyH.nil
    exact AllReadyH.nil
    refine cons_l (i := 10) rfl (fun K hK => ?_) ?_
    go_simp; obtain ⟨bQ0, u3, hu, hb, g3, kQ0, mQ0, nQ0, lQ0⟩ := alloc_named u2 33 #[.bool false, .slice none 0 0]; rw [← hu]; (try rw [← hb]); clear hu hb
    have x3 := x2.trans g3; have z3 := g3.size; have KQ0 := Lib.hid kQ0; clear kQ0
    refine hK.out _ _ ?_ (fun hH3 => ?_)
    · (try dsimp only)
      exact HSK.out _ x3
    clear hK K hH2
    (try simp only [Act.put, List.setIfInBounds_toArray, List.set_cons_zero, List.set_cons_succ])
    refine wpAnyH_ready (rs := [3]) (by kernel_rfl) (by simp) ?_
    refine cons_l (i := 3) rfl (fun K hK => ?_) ?_
    go_simp; (go_at_call 45; with_reducible refine (toReach_any _ _ _ _ _ _ _ ps xs _ HT.out htl2 HP.out hpl2 (HFT.out.ext (HW0.out.trans x3)) (HFP.out.ext (HW0.out.trans x3))).mono ?_)
    rintro e u4 ⟨fZ1, gZ1, midZ1, rfl, hmZ1, ho, hoi, g4⟩
    have x4 := x3.trans g4; have z4 := g4.size
    have OR1 := Lib.hid (OwnReach.mk hmZ1 ho hoi)
    refine hK.out _ _ ?_ (fun hH4 => ?_)
    · (try dsimp only)
      exact HSK.out _ x4
    clear hK K hH3
    (try simp only [Act.put, List.setIfInBounds_toArray, List.set_cons_zero, List.set_cons_succ])
    refine wpAnyH_ready (rs := [4]) (by kernel_rfl) (by simp) ?_
    refine cons_l (i := 4) rfl (fun K hK => ?_) ?_
    go_simp; (go_at_call 51; with_reducible refine (specLeave_any ts1 n1 ut rows1 m1 ok _ _ _ _ _ _ _ _ _ _ _ _ ts _ _ _ _ _ _ _ ps xs _ HN.out hs2 HTS.out (OT0.out.ext (g3.trans (g4))).trains HT.out htl2 HP.out hpl2 OR1.out.pts OR1.out.ints HVOL.out (Nat.le_refl _) (by omega) HN1.out HMR.out HRES.out).mono ?_)
    rintro e u5 ⟨p, q, p1, q1, rfl, hlr, g5⟩
    have x5 := x4.trans g5; have z5 := g5.size
    obtain ⟨hq1, hq2⟩ := hlr
    refine hK.out _ _ ?_ (fun hH5 => ?_)
    · (try dsimp only)
      exact HSK.out _ x5
    clear hK K hH4
    (try simp only [Act.put, List.setIfInBounds_toArray, List.set_cons_zero, List.set_cons_succ])
    refine take_l 5 (v := ?_) rfl (by kernel_rfl) (by kernel_rfl) (by kernel_rfl) (fun _ _ _ h => h) (by rfl) ?_ (by assumption) ?_
    rotate_left
    · (intro w hSw; (try dsimp only at hSw); go_simp; (try with_reducible rfl))
    (try simp only [Act.put, List.setIfInBounds_toArray, List.set_cons_zero, List.set_cons_succ])
    refine take_l 6 (v := ?_) rfl (by kernel_rfl) (by kernel_rfl) (by kernel_rfl) (fun _ _ _ h => h) (by rfl) ?_ (by assumption) ?_
    rotate_left
    · (intro w hSw; (try dsimp only at hSw); go_simp; (try with_reducible rfl))
    (try simp only [Act.put, List.setIfInBounds_toArray, List.set_cons_zero, List.set_cons_succ])
    refine take_l 7 (v := ?_) rfl (by kernel_rfl) (by kernel_rfl) (by kernel_rfl) (fun _ _ _ h => h) (by rfl) ?_ (by assumption) ?_
    rotate_left
    · (intro w hSw; (try dsimp only at hSw); go_simp; (try with_reducible rfl))
    (try simp only [Act.put, List.setIfInBounds_toArray, List.set_cons_zero, List.set_cons_succ])
    refine take_l 8 (v := ?_) rfl (by kernel_rfl) (by kernel_rfl) (by kernel_rfl) (fun _ _ _ h => h) (by rfl) ?_ (by assumption) ?_
    rotate_left
    · (intro w hSw; (try dsimp only at hSw); go_simp; (try with_reducible rfl))
    (try simp only [Act.put, List.setIfInBounds_toArray, List.set_cons_zero, List.set_cons_succ])
    exact hcut _ _ ⟨bP0, bQ0, p, q, p1, q1, yo, yn, aZ0, fZ1, gZ1, yd3, yd4, ⟨x5, ⟨by omega, by omega⟩, ⟨by omega, by omega⟩, by omega, (KP0.out.ext (g2.trans (g3.trans (g4.trans (g5))))), (KQ0.out.ext (g4.trans (g5))), u4.heap.size, u5.heap.size, u4.heap.size, u5.heap.size, by omega, by omega, hq1, hq2⟩, rfl⟩
    exact AllReadyH.nil
    exact AllReadyH.nil
    exact AllReadyH.nil
    refine cons_l (i := 10) rfl (fun K hK => ?_) ?_
    go_simp; obtain ⟨bQ0, u2, hu, hb, g2, kQ0, mQ0, nQ0, lQ0⟩ := alloc_named u1 33 #[.bool false, .slice none 0 0]; rw [← hu]; (try rw [← hb]); clear hu hb
    have x2 := x1.trans g2; have z2 := g2.size; have KQ0 := Lib.hid kQ0; clear kQ0
    refine hK.out _ _ ?_ (fun hH2 => ?_)
    · (try dsimp only)
      exact HSK.out _ x2
    clear hK K hH1
    (try simp only [Act.put, List.setIfInBounds_toArray, List.set_cons_zero, List.set_cons_succ])
    refine wpAnyH_ready (rs := [1]) (by kernel_rfl) (by simp) ?_
    refine cons_l (i := 1) rfl (fun K hK => ?_) ?_
    go_simp; (go_at_call 34; with_reducible refine (toLock_any _ _ _ _ _ _ _ _ _ _ _ _ ts _ HN.out hs2 HTS.out (HF.out.ext (HW0.out.trans x2))).mono ?_)
    rintro e u3 ⟨aZ0, rfl, ho, g3⟩
    have x3 := x2.trans g3; have z3 := g3.size
    have OT0 := Lib.hid (ho)
    refine hK.out _ _ ?_ (fun hH3 => ?_)
    · (try dsimp only)
      exact HSK.out _ x3
    clear hK K hH2
    (try simp only [Act.put, List.setIfInBounds_toArray, List.set_cons_zero, List.set_cons_succ])
    refine wpAnyH_ready (rs := [3]) (by kernel_rfl) (by simp) ?_
    refine cons_l (i := 3) rfl (fun K hK => ?_) ?_
    go_simp; (go_at_call 45; with_reducible refine (toReach_any _ _ _ _ _ _ _ ps xs _ HT.out htl2 HP.out hpl2 (HFT.out.ext (HW0.out.trans x3)) (HFP.out.ext (HW0.out.trans x3))).mono ?_)
    rintro e u4 ⟨fZ1, gZ1, midZ1, rfl, hmZ1, ho, hoi, g4⟩
    have x4 := x3.trans g4; have z4 := g4.size
    have OR1 := Lib.hid (OwnReach.mk hmZ1 ho hoi)
    refine hK.out _ _ ?_ (fun hH4 => ?_)
    · (try dsimp only)
      exact HSK.out _ x4
    clear hK K hH3
    (try simp only [Act.put, List.setIfInBounds_toArray, List.set_cons_zero, List.set_cons_succ])
    refine wpAnyH_ready (rs := [4]) (by kernel_rfl) (by simp) ?_
    refine cons_l (i := 4) rfl (fun K hK => ?_) ?_
    go_simp; (go_at_call 51; with_reducible refine (specLeave_any ts1 n1 ut rows1 m1 ok _ _ _ _ _ _ _ _ _ _ _ _ ts _ _ _ _ _ _ _ ps xs _ HN.out hs2 HTS.out (OT0.out.ext (g4)).trains HT.out htl2 HP.out hpl2 OR1.out.pts OR1.out.ints HVOL.out (Nat.le_refl _) (by omega) HN1.out HMR.out HRES.out).mono ?_)
    rintro e u5 ⟨p, q, p1, q1, rfl, hlr, g5⟩
    have x5 := x4.trans g5; have z5 := g5.size
    obtain ⟨hq1, hq2⟩ := hlr
    refine hK.out _ _ ?_ (fun hH5 => ?_)
    · (try dsimp only)
      exact HSK.out _ x5
    clear hK K hH4
    (try simp only [Act.put, List.setIfInBounds_toArray, List.set_cons_zero, List.set_cons_succ])
    refine take_l 5 (v := ?_) rfl (by kernel_rfl) (by kernel_rfl) (by kernel_rfl) (fun _ _ _ h => h) (by rfl) ?_ (by assumption) ?_
    rotate_left
    · (intro w hSw; (try dsimp only at hSw); go_simp; (try with_reducible rfl))
    (try simp only [Act.put, List.setIfInBounds_toArray, List.set_cons_zero, List.set_cons_succ])
    refine take_l 6 (v := ?_) rfl (by kernel_rfl) (by kernel_rfl) (by kernel_rfl) (fun _ _ _ h => h) (by rfl) ?_ (by assumption) ?_
    rotate_left
    · (intro w hSw; (try dsimp only at hSw); go_simp; (try with_reducible rfl))
    (try simp only [Act.put, List.setIfInBounds_toArray, List.set_cons_zero, List.set_cons_succ])
    refine take_l 7 (v := ?_) rfl (by kernel_rfl) (by kernel_rfl) (by kernel_rfl) (fun _ _ _ h => h) (by rfl) ?_ (by assumption) ?_
    rotate_left
    · (intro w hSw; (try dsimp only at hSw); go_simp; (try with_reducible rfl))
    (try simp only [Act.put, List.setIfInBounds_toArray, List.set_cons_zero, List.set_cons_succ])
    refine take_l 8 (v := ?_) rfl (by kernel_rfl) (by kernel_rfl) (by kernel_rfl) (fun _ _ _ h => h) (by rfl) ?_ (by assumption) ?_
    rotate_left
    · (intro w hSw; (try dsimp only at hSw); go_simp; (try with_reducible rfl))
    (try simp only [Act.put, List.setIfInBounds_toArray, List.set_cons_zero, List.set_cons_succ])
    exact hcut _ _ ⟨bP0, bQ0, p, q, p1, q1, yo, yn, aZ0, fZ1, gZ1, yd3, yd4, ⟨x5, ⟨by omega, by omega⟩, ⟨by omega, by omega⟩, by omega, (KP0.out.ext (g2.trans (g3.trans (g4.trans (g5))))), (KQ0.out.ext (g3.trans (g4.trans (g5)))), u4.heap.size, u5.heap.size, u4.heap.size, u5.heap.size, by omega, by omega, hq1, hq2⟩, rfl⟩
    exact AllReadyH.nil
    exact AllReadyH.nil
    exact AllReadyH.nil
    exact AllReadyH.nil
    refine cons_l (i := 10) rfl (fun K hK => ?_) ?_
    go_simp; obtain ⟨bQ0, u1, hu, hb, g1, kQ0, mQ0, nQ0, lQ0⟩ := alloc_named u0 33 #[.bool false, .slice none 0 0]; rw [← hu]; (try rw [← hb]); clear hu hb
    have x1 := x0.trans g1; have z1 := g1.size; have KQ0 := Lib.hid kQ0; clear kQ0
    refine hK.out _ _ ?_ (fun hH1 => ?_)
    · (try dsimp only)
      exact HSK.out _ x1
    clear hK K hH0
    (try simp only [Act.put, List.setIfInBounds_toArray, List.set_cons_zero, List.set_cons_succ])
    refine wpAnyH_ready (rs := [1, 9]) (by kernel_rfl) (by simp) ?_
    refine cons_l (i := 1) rfl (fun K hK => ?_) ?_
    go_simp; (go_at_call 34; with_reducible refine (toLock_any _ _ _ _ _ _ _ _ _ _ _ _ ts _ HN.out hs2 HTS.out (HF.out.ext (HW0.out.trans x1))).mono ?_)
    rintro e u2 ⟨aZ0, rfl, ho, g2⟩
    have x2 := x1.trans g2; have z2 := g2.size
    have OT0 := Lib.hid (ho)
    refine hK.out _ _ ?_ (fun hH2 => ?_)
    · (try dsimp only)
      exact HSK.out _ x2
    clear hK K hH1
    (try simp only [Act.put, List.setIfInBounds_toArray, List.set_cons_zero, List.set_cons_succ])
    refine wpAnyH_ready (rs := [3, 9]) (by kernel_rfl) (by simp) ?_
    refine cons_l (i := 3) rfl (fun K hK => ?_) ?_
    go_simp; (go_at_call 45; with_reducible refine (toReach_any _ _ _ _ _ _ _ ps xs _ HT.out htl2 HP.out hpl2 (HFT.out.ext (HW0.out.trans x2)) (HFP.out.ext (HW0.out.trans x2))).mono ?_)
    rintro e u3 ⟨fZ1, gZ1, midZ1, rfl, hmZ1, ho, hoi, g3⟩
    have x3 := x2.trans g3; have z3 := g3.size
    have OR1 := Lib.hid (OwnReach.mk hmZ1 ho hoi)
    refine hK.out _ _ ?_ (fun hH3 => ?_)
    · (try dsimp only)
      exact HSK.out _ x3
    clear hK K hH2
    (try simp only [Act.put, List.setIfInBounds_toArray, List.set_cons_zero, List.set_cons_succ])
    refine wpAnyH_ready (rs := [4, 9]) (by kernel_rfl) (by simp) ?_
    refine cons_l (i := 4) rfl (fun K hK => ?_) ?_
    go_simp; (go_at_call 51; with_reducible refine (specLeave_any ts1 n1 ut rows1 m1 ok _ _ _ _ _ _ _ _ _ _ _ _ ts _ _ _ _ _ _ _ ps xs _ HN.out hs2 HTS.out (OT0.out.ext (g3)).trains HT.out htl2 HP.out hpl2 OR1.out.pts OR1.out.ints HVOL.out (Nat.le_refl _) (by omega) HN1.out HMR.out HRES.out).mono ?_)
    rintro e u4 ⟨p, q, p1, q1, rfl, hlr, g4⟩
    have x4 := x3.trans g4; have z4 := g4.size
    obtain ⟨hq1, hq2⟩ := hlr
    refine hK.out _ _ ?_ (fun hH4 => ?_)
    · (try dsimp only)
      exact HSK.out _ x4
    clear hK K hH3
    (try simp only [Act.put, List.setIfInBounds_toArray, List.set_cons_zero, List.set_cons_succ])
    refine take_l 5 (v := ?_) rfl (by kernel_rfl) (by kernel_rfl) (by kernel_rfl) (fun _ _ _ h => h) (by rfl) ?_ (by assumption) ?_
    rotate_left
    · (intro w hSw; (try dsimp only at hSw); go_simp; (try with_reducible rfl))
    (try simp only [Act.put, List.setIfInBounds_toArray, List.set_cons_zero, List.set_cons_succ])
    refine take_l 6 (v := ?_) rfl (by kernel_rfl) (by kernel_rfl) (by kernel_rfl) (fun _ _ _ h => h) (by rfl) ?_ (by assumption) ?_
    rotate_left
    · (intro w hSw; (try dsimp only at hSw); go_simp; (try with_reducible rfl))
    (try simp only [Act.put, List.setIfInBounds_toArray, List.set_cons_zero, List.set_cons_succ])
    refine take_l 7 (v := ?_) rfl (by kernel_rfl) (by kernel_rfl) (by kernel_rfl) (fun _ _ _ h => h) (by rfl) ?_ (by assumption) ?_
    rotate_left
    · (intro w hSw; (try dsimp only at hSw); go_simp; (try with_reducible rfl))
    (try simp only [Act.put, List.setIfInBounds_toArray, List.set_cons_zero, List.set_cons_succ])
    refine take_l 8 (v := ?_) rfl (by kernel_rfl) (by kernel_rfl) (by kernel_rfl) (fun _ _ _ h => h) (by rfl) ?_ (by assumption) ?_
    rotate_left
    · (intro w hSw; (try dsimp only at hSw); go_simp; (try with_reducible rfl))
    (try simp only [Act.put, List.setIfInBounds_toArray, List.set_cons_zero, List.set_cons_succ])
    refine wpAnyH_ready (rs := [9]) (by kernel_rfl) (by simp) ?_
    refine cons_l (i := 9) rfl (fun K hK => ?_) ?_
    go_simp; obtain ⟨bP0, u5, hu, hb, g5, kP0, mP0, nP0, lP0⟩ := alloc_named u4 26 #[.int .i64 0, .int .i64 0, .int .i64 0, .int .i64 0, .int .i64 0, .int .i64 0, .int .i64 0, .int .i64 0, .int .i64 0, .slice none 0 0]; rw [← hu]; (try rw [← hb]); clear hu hb
    have x5 := x4.trans g5; have z5 := g5.size; have KP0 := Lib.hid kP0; clear kP0
    refine hK.out _ _ ?_ (fun hH5 => ?_)
    · (try dsimp only)
      exact HSK.out _ x5
    clear hK K hH4
    (try simp only [Act.put, List.setIfInBounds_toArray, List.set_cons_zero, List.set_cons_succ])
    exact hcut _ _ ⟨bP0, bQ0, p, q, p1, q1, yo, yn, aZ0, fZ1, gZ1, yd3, yd4, ⟨x5, ⟨by omega, by omega⟩, ⟨by omega, by omega⟩, by omega, KP0.out, (KQ0.out.ext (g2.trans (g3.trans (g4.trans (g5))))), u3.heap.size, u4.heap.size, u3.heap.size, u4.heap.size, by omega, by omega, (hq1.ext (g5)), (hq2.ext (g5))⟩, rfl⟩
    exact AllReadyH.nil
    refine cons_l (i := 9) rfl (fun K hK => ?_) ?_
    go_simp; obtain ⟨bP0, u4, hu, hb, g4, kP0, mP0, nP0, lP0⟩ := alloc_named u3 26 #[.int .i64 0, .int .i64 0, .int .i64 0, .int .i64 0, .int .i64 0, .int .i64 0, .int .i64 0, .int .i64 0, .int .i64 0, .slice none 0 0]; rw [← hu]; (try rw [← hb]); clear hu hb
    have x4 := x3.trans g4; have z4 := g4.size; have KP0 := Lib.hid kP0; clear kP0
    refine hK.out _ _ ?_ (fun hH4 => ?_)
    · (try dsimp only)
      exact HSK.out _ x4
    clear hK K hH3
    (try simp only [Act.put, List.setIfInBounds_toArray, List.set_cons_zero, List.set_cons_succ])
    refine wpAnyH_ready (rs := [4]) (by kernel_rfl) (by simp) ?_
    refine cons_l (i := 4) rfl (fun K hK => ?_) ?_
    go_simp; (go_at_call 51; with_reducible refine (specLeave_any ts1 n1 ut rows1 m1 ok _ _ _ _ _ _ _ _ _ _ _ _ ts _ _ _ _ _ _ _ ps xs _ HN.out hs2 HTS.out (OT0.out.ext (g3.trans (g4))).trains HT.out htl2 HP.out hpl2 (OR1.out.ext (g4)).pts (OR1.out.ext (g4)).ints HVOL.out (Nat.le_refl _) (by omega) HN1.out HMR.out HRES.out).mono ?_)
    rintro e u5 ⟨p, q, p1, q1, rfl, hlr, g5⟩
    have x5 := x4.trans g5; have z5 := g5.size
    obtain ⟨hq1, hq2⟩ := hlr
    refine hK.out _ _ ?_ (fun hH5 => ?_)
    · (try dsimp only)
      exact HSK.out _ x5
    clear hK K hH4
    (try simp only [Act.put, List.setIfInBounds_toArray, List.set_cons_zero, List.set_cons_succ])
    refine take_l 5 (v := ?_) rfl (by kernel_rfl) (by kernel_rfl) (by kernel_rfl) (fun _ _ _ h => h) (by rfl) ?_ (by assumption) ?_
    rotate_left
    · (intro w hSw; (try dsimp only at hSw); go_simp; (try with_reducible rfl))
    (try simp only [Act.put, List.setIfInBounds_toArray, List.set_cons_zero, List.set_cons_succ])
    refine take_l 6 (v := ?_) rfl (by kernel_rfl) (by kernel_rfl) (by kernel_rfl) (fun _ _ _ h => h) (by rfl) ?_ (by assumption) ?_
    rotate_left
    · (intro w hSw; (try dsimp only at hSw); go_simp; (try with_reducible rfl))
    (try simp only [Act.put, List.setIfInBounds_toArray, List.set_cons_zero, List.set_cons_succ])
    refine take_l 7 (v := ?_) rfl (by kernel_rfl) (by kernel_rfl) (by kernel_rfl) (fun _ _ _ h => h) (by rfl) ?_ (by assumption) ?_
    rotate_left
    · (intro w hSw; (try dsimp only at hSw); go_simp; (try with_reducible rfl))
    (try simp only [Act.put, List.setIfInBounds_toArray, List.set_cons_zero, List.set_cons_succ])
    refine take_l 8 (v := ?_) rfl (by kernel_rfl) (by kernel_rfl) (by kernel_rfl) (fun _ _ _ h => h) (by rfl) ?_ (by assumption) ?_
    rotate_left
    · (intro w hSw; (try dsimp only at hSw); go_simp; (try with_reducible rfl))
    (try simp only [Act.put, List.setIfInBounds_toArray, List.set_cons_zero, List.set_cons_succ])
    exact hcut _ _ ⟨bP0, bQ0, p, q, p1, q1, yo, yn, aZ0, fZ1, gZ1, yd3, yd4, ⟨x5, ⟨by omega, by omega⟩, ⟨by omega, by omega⟩, by omega, (KP0.out.ext (g5)), (KQ0.out.ext (g2.trans (g3.trans (g4.trans (g5))))), u4.heap.size, u5.heap.size, u4.heap.size, u5.heap.size, by omega, by omega, hq1, hq2⟩, rfl⟩
    exact AllReadyH.nil
    exact AllReadyH.nil
    refine cons_l (i := 9) rfl (fun K hK => ?_) ?_
    go_simp; obtain ⟨bP0, u3, hu, hb, g3, kP0, mP0, nP0, lP0⟩ := alloc_named u2 26 #[.int .i64 0, .int .i64 0, .int .i64 0, .int .i64 0, .int .i64 0, .int .i64 0, .int .i64 0, .int .i64 0, .int .i64 0, .slice none 0 0]; rw [← hu]; (try rw [← hb]); clear hu hb
    have x3 := x2.trans g3; have z3 := g3.size; have KP0 := Lib.hid kP0; clear kP0
    refine hK.out _ _ ?_ (fun hH3 => ?_)
    · (try dsimp only)
      exact HSK.out _ x3
    clear hK K hH2
    (try simp only [Act.put, List.setIfInBounds_toArray, List.set_cons_zero, List.set_cons_succ])
    refine wpAnyH_ready (rs := [3]) (by kernel_rfl) (by simp) ?_
    refine cons_l (i := 3) rfl (fun K hK => ?_) ?_
    go_simp; (go_at_call 45; with_reducible refine (toReach_any _ _ _ _ _ _ _ ps xs _ HT.out htl2 HP.out hpl2 (HFT.out.ext (HW0.out.trans x3)) (HFP.out.ext (HW0.out.trans x3))).mono ?_)
    rintro e u4 ⟨fZ1, gZ1, midZ1, rfl, hmZ1, ho, hoi, g4⟩
    have x4 := x3.trans g4; have z4 := g4.size
    have OR1 := Lib.hid (OwnReach.mk hmZ1 ho hoi)
    refine hK.out _ _ ?_ (fun hH4 => ?_)
    · (try dsimp only)
      exact HSK.out _ x4
    clear hK K hH3
    (try simp only [Act.put, List.setIfInBounds_toArray, List.set_cons_zero, List.set_cons_succ])
    refine wpAnyH_ready (rs := [4]) (by kernel_rfl) (by simp) ?_
    refine cons_l (i := 4) rfl (fun K hK => ?_) ?_
    go_simp; (go_at_call 51; with_reducible refine (specLeave_any ts1 n1 ut rows1 m1 ok _ _ _ _ _ _ _ _ _ _ _ _ ts _ _ _ _ _ _ _ ps xs _ HN.out hs2 HTS.out (OT0.out.ext (g3.trans (g4))).trains HT.out htl2 HP.out hpl2 OR1.out.pts OR1.out.ints HVOL.out (Nat.le_refl _) (by omega) HN1.out HMR.out HRES.out).mono ?_)
    rintro e u5 ⟨p, q, p1, q1, rfl, hlr, g5⟩
    have x5 := x4.trans g5; have z5 := g5.size
    obtain ⟨hq1, hq2⟩ := hlr
    refine hK.out _ _ ?_ (fun hH5 => ?_)
    · (try dsimp only)
      exact HSK.out _ x5
    clear hK K hH4
    (try simp only [Act.put, List.setIfInBounds_toArray, List.set_cons_zero, List.set_cons_succ])
    refine take_l 5 (v := ?_) rfl (by kernel_rfl) (by kernel_rfl) (by kernel_rfl) (fun _ _ _ h => h) (by rfl) ?_ (by assumption) ?_
    rotate_left
    · (intro w hSw; (try dsimp only at hSw); go_simp; (try with_reducible rfl))
    (try simp only [Act.put, List.setIfInBounds_toArray, List.set_cons_zero, List.set_cons_succ])
    refine take_l 6 (v := ?_) rfl (by kernel_rfl) (by kernel_rfl) (by kernel_rfl) (fun _ _ _ h => h) (by rfl) ?_ (by assumption) ?_
    rotate_left
    · (intro w hSw; (try dsimp only at hSw); go_simp; (try with_reducible rfl))
    (try simp only [Act.put, List.setIfInBounds_toArray, List.set_cons_zero, List.set_cons_succ])
    refine take_l 7 (v := ?_) rfl (by kernel_rfl) (by kernel_rfl) (by kernel_rfl) (fun _ _ _ h => h) (by rfl) ?_ (by assumption) ?_
    rotate_left
    · (intro w hSw; (try dsimp only at hSw); go_simp; (try with_reducible rfl))
    (try simp only [Act.put, List.setIfInBounds_toArray, List.set_cons_zero, List.set_cons_succ])
    refine take_l 8 (v := ?_) rfl (by kernel_rfl) (by kernel_rfl) (by kernel_rfl) (fun _ _ _ h => h) (by rfl) ?_ (by assumption) ?_
    rotate_left
    · (intro w hSw; (try dsimp only at hSw); go_simp; (try with_reducible rfl))
    (try simp only [Act.put, List.setIfInBounds_toArray, List.set_cons_zero, List.set_cons_succ])
    exact hcut _ _ ⟨bP0, bQ0, p, q, p1, q1, yo, yn, aZ0, fZ1, gZ1, yd3, yd4, ⟨x5, ⟨by omega, by omega⟩, ⟨by omega, by omega⟩, by omega, (KP0.out.ext (g4.trans (g5))), (KQ0.out.ext (g2.trans (g3.trans (g4.trans (g5))))), u4.heap.size, u5.heap.size, u4.heap.size, u5.heap.size, by omega, by omega, hq1, hq2⟩, rfl⟩
    exact AllReadyH.nil
    exact AllReadyH.nil
    exact AllReadyH.nil
    refine cons_l (i := 9) rfl (fun K hK => ?_) ?_
    go_simp; obtain ⟨bP0, u2, hu, hb, g2, kP0, mP0, nP0, lP0⟩ := alloc_named u1 26 #[.int .i64 0, .int .i64 0, .int .i64 0, .int .i64 0, .int .i64 0, .int .i64 0, .int .i64 0, .int .i64 0, .int .i64 0, .slice none 0 0]; rw [← hu]; (try rw [← hb]); clear hu hb
    have x2 := x1.trans g2; have z2 := g2.size; have KP0 := Lib.hid kP0; clear kP0
    refine hK.out _ _ ?_ (fun hH2 => ?_)
    · (try dsimp only)
      exact HSK.out _ x2
    clear hK K hH1
    (try simp only [Act.put, List.setIfInBounds_toArray, List.set_cons_zero, List.set_cons_succ])
    refine wpAnyH_ready (rs := [1]) (by kernel_rfl) (by simp) ?_
    refine cons_l (i := 1) rfl (fun K hK => ?_) ?_
    go_simp; (go_at_call 34; with_reducible refine (toLock_any _ _ _ _ _ _ _ _ _ _ _ _ ts _ HN.out hs2 HTS.out (HF.out.ext (HW0.out.trans x2))).mono ?_)
    rintro e u3 ⟨aZ0, rfl, ho, g3⟩
    have x3 := x2.trans g3; have z3 := g3.size
    have OT0 := Lib.hid (ho)
    refine hK.out _ _ ?_ (fun hH3 => ?_)
    · (try dsimp only)
      exact HSK.out _ x3
    clear hK K hH2
    (try simp only [Act.put, List.setIfInBounds_toArray, List.set_cons_zero, List.set_cons_succ])
    refine wpAnyH_ready (rs := [3]) (by kernel_rfl) (by simp) ?_
    refine cons_l (i := 3) rfl (fun K hK => ?_) ?_
    go_simp; (go_at_call 45; with_reducible refine (toReach_any _ _ _ _ _ _ _ ps xs _ HT.out htl2 HP.out hpl2 (HFT.out.ext (HW0.out.trans x3)) (HFP.out.ext (HW0.out.trans x3))).mono ?_)
    rintro e u4 ⟨fZ1, gZ1, midZ1, rfl, hmZ1, ho, hoi, g4⟩
    have x4 := x3.trans g4; have z4 := g4.size
    have OR1 := Lib.hid (OwnReach.mk hmZ1 ho hoi)
    refine hK.out _ _ ?_ (fun hH4 => ?_)
    · (try dsimp only)
      exact HSK.out _ x4
    clear hK K hH3
    (try simp only [Act.put, List.setIfInBounds_toArray, List.set_cons_zero, List.set_cons_succ])
    refine wpAnyH_ready (rs := [4]) (by kernel_rfl) (by simp) ?_
    refine cons_l (i := 4) rfl (fun K hK => ?_) ?_
    go_simp; (go_at_call 51; with_reducible refine (specLeave_any ts1 n1 ut rows1 m1 ok _ _ _ _ _ _ _ _ _ _ _ _ ts _ _ _ _ _ _ _ ps xs _ HN.out hs2 HTS.out (OT0.out.ext (g4)).trains HT.out htl2 HP.out hpl2 OR1.out.pts OR1.out.ints HVOL.out (Nat.le_refl _) (by omega) HN1.out HMR.out HRES.out).mono ?_)
    rintro e u5 ⟨p, q, p1, q1, rfl, hlr, g5⟩
    have x5 := x4.trans g5; have z5 := g5.size
    obtain ⟨hq1, hq2⟩ := hlr
    refine hK.out _ _ ?_ (fun hH5 => ?_)
    · (try dsimp only)
      exact HSK.out _ x5
    clear hK K hH4
    (try simp only [Act.put, List.setIfInBounds_toArray, List.set_cons_zero, List.set_cons_succ])
    refine take_l 5 (v := ?_) rfl (by kernel_rfl) (by kernel_rfl) (by kernel_rfl) (fun _ _ _ h => h) (by rfl) ?_ (by assumption) ?_
    rotate_left
    · (intro w hSw; (try dsimp only at hSw); go_simp; (try with_reducible rfl))
    (try simp only [Act.put, List.setIfInBounds_toArray, List.set_cons_zero, List.set_cons_succ])
    refine take_l 6 (v := ?_) rfl (by kernel_rfl) (by kernel_rfl) (by kernel_rfl) (fun _ _ _ h => h) (by rfl) ?_ (by assumption) ?_
    rotate_left
    · (intro w hSw; (try dsimp only at hSw); go_simp; (try with_reducible rfl))
    (try simp only [Act.put, List.setIfInBounds_toArray, List.set_cons_zero, List.set_cons_succ])
    refine take_l 7 (v := ?_) rfl (by kernel_rfl) (by kernel_rfl) (by kernel_rfl) (fun _ _ _ h => h) (by rfl) ?_ (by assumption) ?_
    rotate_left
    · (intro w hSw; (try dsimp only at hSw); go_simp; (try with_reducible rfl))
    (try simp only [Act.put, List.setIfInBounds_toArray, List.set_cons_zero, List.set_cons_succ])
    refine take_l 8 (v := ?_) rfl (by kernel_rfl) (by kernel_rfl) (by kernel_rfl) (fun _ _ _ h => h) (by rfl) ?_ (by assumption) ?_
    rotate_left
    · (intro w hSw; (try dsimp only at hSw); go_simp; (try with_reducible rfl))
    (try simp only [Act.put, List.setIfInBounds_toArray, List.set_cons_zero, List.set_cons_succ])
    exact hcut _ _ ⟨bP0, bQ0, p, q, p1, q1, yo, yn, aZ0, fZ1, gZ1, yd3, yd4, ⟨x5, ⟨by omega, by omega⟩, ⟨by omega, by omega⟩, by omega, (KP0.out.ext (g3.trans (g4.trans (g5)))), (KQ0.out.ext (g2.trans (g3.trans (g4.trans (g5))))), u4.heap.size, u5.heap.size, u4.heap.size, u5.heap.size, by omega, by omega, hq1, hq2⟩, rfl⟩
    exact AllReadyH.nil
    exact AllReadyH.nil
    exact AllReadyH.nil
    exact AllReadyH.nil
    exact AllReadyH.nil
  case k =>
    intro bP0 bQ0 pP qP fP cP yrP ydP y0 y1 y2 y3 y4 wc ⟨hx, hblk, hblk2, hbnP0, hrow, hrow2, loP0, hiP0, loQ0, hiQ0, hloP0, hhoP0, ho, ho2⟩
    have hHc := HSK.out wc hx
    have HX := Lib.hid hx; have zwc := hx.size; clear hx
    have mbP0 := hblk.1; have lbP0 := hblk.2; have mbQ0 := hblk2.1; have lbQ0 := hblk2.2; clear hblk hblk2
    have KBX0 := Lib.hid (BX0_0.out.ext HX.out)
    have KBX1 := Lib.hid (BX1_0.out.ext HX.out)
    have KP0 := Lib.hid hrow; have KQ0 := Lib.hid hrow2; have OS := Lib.hid ho; have OR := Lib.hid ho2; clear hrow hrow2 ho ho2
    refine wpAnyH_ready (rs := [11]) (by kernel_rfl) (by simp) ?_
    refine cons_l (i := 11) rfl (fun K hK => ?_) ?_
    (have hs0 := KP0.out.cell (j := 0) (v := .int .i64 0) rfl; have hf0 := KP0.out.frozen 0; have hs1 := KP0.out.cell (j := 1) (v := .int .i64 0) rfl; have hf1 := KP0.out.frozen 1; have hs2 := KP0.out.cell (j := 2) (v := .int .i64 0) rfl; have hf2 := KP0.out.frozen 2; have hs3 := KP0.out.cell (j := 3) (v := .int .i64 0) rfl; have hf3 := KP0.out.frozen 3; have hs4 := KP0.out.cell (j := 4) (v := .int .i64 0) rfl; have hf4 := KP0.out.frozen 4; have hs5 := KP0.out.cell (j := 5) (v := .int .i64 0) rfl; have hf5 := KP0.out.frozen 5; have hs6 := KP0.out.cell (j := 6) (v := .int .i64 0) rfl; have hf6 := KP0.out.frozen 6; have hs7 := KP0.out.cell (j := 7) (v := .int .i64 0) rfl; have hf7 := KP0.out.frozen 7; have hs8 := KP0.out.cell (j := 8) (v := .int .i64 0) rfl; have hf8 := KP0.out.frozen 8; have hs9 := KP0.out.cell (j := 9) (v := .slice none 0 0) rfl; have hf9 := KP0.out.frozen 9; go_simp; clear hs0 hf0 hs1 hf1 hs2 hf2 hs3 hf3 hs4 hf4 hs5 hf5 hs6 hf6 hs7 hf7 hs8 hf8 hs9 hf9; obtain ⟨wn, hwn⟩ : ∃ x, x = putAt wc (bP0) 0 [.int .i64 x0, .int .i64 x1, .int .i64 x2, .int .i64 x3, .int .i64 x4, .int .i64 x5, .int .i64 x6, .int .i64 x7, .int .i64 x8, .slice pP n1 qP] := ⟨_, rfl⟩; have en : ((((((((((wc.setCell ⟨bP0, 0, none⟩ (.int .i64 x0)).setCell ⟨bP0, 1, none⟩ (.int .i64 x1)).setCell ⟨bP0, 2, none⟩ (.int .i64 x2)).setCell ⟨bP0, 3, none⟩ (.int .i64 x3)).setCell ⟨bP0, 4, none⟩ (.int .i64 x4)).setCell ⟨bP0, 5, none⟩ (.int .i64 x5)).setCell ⟨bP0, 6, none⟩ (.int .i64 x6)).setCell ⟨bP0, 7, none⟩ (.int .i64 x7)).setCell ⟨bP0, 8, none⟩ (.int .i64 x8)).setCell ⟨bP0, 9, none⟩ (.slice pP n1 qP)) = wn := (by rw [hwn]; rfl); rw [en]; clear en; have zz11 : wc.heap.size ≤ wn.heap.size := (by rw [hwn, put_size]; exact Nat.le_refl _); (first | replace HX := Lib.hid (show Ext s1 wn by rw [hwn]; exact put_ext (by first | assumption | omega) _ _ _ HX.out) | skip); (try replace KBX0 := Lib.hid (show RowAt wn (w.heap.size) 59 _ by rw [hwn]; exact put_other (by omega) _ _ _ KBX0.out)); (try replace KBX1 := Lib.hid (show RowAt wn (w.heap.size + 1) 73 _ by rw [hwn]; exact put_other (by omega) _ _ _ KBX1.out)); replace KP0 := Lib.hid (RowAt.cast (c' := #[.int .i64 x0, .int .i64 x1, .int .i64 x2, .int .i64 x3, .int .i64 x4, .int .i64 x5, .int .i64 x6, .int .i64 x7, .int .i64 x8, .slice pP n1 qP]) (show RowAt wn (bP0) 26 (putArr #[.int .i64 0, .int .i64 0, .int .i64 0, .int .i64 0, .int .i64 0, .int .i64 0, .int .i64 0, .int .i64 0, .int .i64 0, .slice none 0 0] 0 [.int .i64 x0, .int .i64 x1, .int .i64 x2, .int .i64 x3, .int .i64 x4, .int .i64 x5, .int .i64 x6, .int .i64 x7, .int .i64 x8, .slice pP n1 qP]) by rw [hwn]; exact put_at _ _ _ _ KP0.out) (by simp [putArr])); (try replace KQ0 := Lib.hid (show RowAt wn (bQ0) 33 _ by rw [hwn]; exact put_other (by omega) _ _ _ KQ0.out)); (try replace OS := Lib.hid (OS.out.keep (w' := wn) (Nat.le_refl _) (Nat.le_refl _) (by rw [hwn]; exact put_kept (by omega)))); (try replace OR := Lib.hid (OR.out.keep (w' := wn) (Nat.le_refl _) (Nat.le_refl _) (by rw [hwn]; exact put_kept (by omega)))); clear hwn; obtain ⟨wc, hq⟩ : ∃ x, x = wn := ⟨_, rfl⟩; subst hq)
    refine hK.out _ _ ?_ (fun hHd => ?_)
    · (try dsimp only)
      exact ⟨KBX0.out.cell rfl, KBX0.out.cell rfl, KBX0.out.cell rfl, KBX0.out.cell rfl, KBX0.out.cell rfl, KBX0.out.cell rfl, KBX0.out.cell rfl, KBX0.out.cell rfl, KBX0.out.cell rfl, KBX0.out.cell rfl, KBX1.out.cell rfl, KBX1.out.cell rfl, KBX1.out.cell rfl⟩
    clear hK K hHc
    have hHc := hHd; clear hHd
    (try simp only [Act.put, List.setIfInBounds_toArray, List.set_cons_zero, List.set_cons_succ])
    refine wpAnyH_ready (rs := [12]) (by kernel_rfl) (by simp) ?_
    refine cons_l (i := 12) rfl (fun K hK => ?_) ?_
    (have hs0 := KQ0.out.cell (j := 0) (v := .bool false) rfl; have hf0 := KQ0.out.frozen 0; have hs1 := KQ0.out.cell (j := 1) (v := .slice none 0 0) rfl; have hf1 := KQ0.out.frozen 1; go_simp; clear hs0 hf0 hs1 hf1; obtain ⟨wn, hwn⟩ : ∃ x, x = putAt wc (bQ0) 0 [.bool ut, .slice fP m1 cP] := ⟨_, rfl⟩; have en : ((wc.setCell ⟨bQ0, 0, none⟩ (.bool ut)).setCell ⟨bQ0, 1, none⟩ (.slice fP m1 cP)) = wn := (by rw [hwn]; rfl); rw [en]; clear en; have zz12 : wc.heap.size ≤ wn.heap.size := (by rw [hwn, put_size]; exact Nat.le_refl _); (first | replace HX := Lib.hid (show Ext s1 wn by rw [hwn]; exact put_ext (by first | assumption | omega) _ _ _ HX.out) | skip); (try replace KBX0 := Lib.hid (show RowAt wn (w.heap.size) 59 _ by rw [hwn]; exact put_other (by omega) _ _ _ KBX0.out)); (try replace KBX1 := Lib.hid (show RowAt wn (w.heap.size + 1) 73 _ by rw [hwn]; exact put_other (by omega) _ _ _ KBX1.out)); (try replace KP0 := Lib.hid (show RowAt wn (bP0) 26 _ by rw [hwn]; exact put_other (by omega) _ _ _ KP0.out)); replace KQ0 := Lib.hid (RowAt.cast (c' := #[.bool ut, .slice fP m1 cP]) (show RowAt wn (bQ0) 33 (putArr #[.bool false, .slice none 0 0] 0 [.bool ut, .slice fP m1 cP]) by rw [hwn]; exact put_at _ _ _ _ KQ0.out) (by simp [putArr])); (try replace OS := Lib.hid (OS.out.keep (w' := wn) (Nat.le_refl _) (Nat.le_refl _) (by rw [hwn]; exact put_kept (by omega)))); (try replace OR := Lib.hid (OR.out.keep (w' := wn) (Nat.le_refl _) (Nat.le_refl _) (by rw [hwn]; exact put_kept (by omega)))); clear hwn; obtain ⟨wc, hq⟩ : ∃ x, x = wn := ⟨_, rfl⟩; subst hq)
    refine hK.out _ _ ?_ (fun hHd => ?_)
    · (try dsimp only)
      exact ⟨KBX0.out.cell rfl, KBX0.out.cell rfl, KBX0.out.cell rfl, KBX0.out.cell rfl, KBX0.out.cell rfl, KBX0.out.cell rfl, KBX0.out.cell rfl, KBX0.out.cell rfl, KBX0.out.cell rfl, KBX0.out.cell rfl, KBX1.out.cell rfl, KBX1.out.cell rfl, KBX1.out.cell rfl⟩
    clear hK K hHc
    have hHc := hHd; clear hHd
    (try simp only [Act.put, List.setIfInBounds_toArray, List.set_cons_zero, List.set_cons_succ])
    refine take_l 13 (v := ?_) rfl (by kernel_rfl) (by kernel_rfl) (by kernel_rfl) (fun _ _ _ h => h) (by rfl) ?_ (by assumption) ?_
    rotate_left
    · (intro w hSw; (try dsimp only at hSw); go_simp; (try with_reducible rfl))
    (try simp only [Act.put, List.setIfInBounds_toArray, List.set_cons_zero, List.set_cons_succ])
    refine wpAnyH_done (by kernel_rfl) ?_ _
    rotate_left
    exact AllReadyH.nil
    exact AllReadyH.nil
    obtain ⟨w1, hq⟩ : ∃ x, x = wc := ⟨_, rfl⟩; subst hq
    clear hHc HSK KBX0 KBX1
    have hb := HX.out; clear HX
    (try dsimp only)
    have hrq := KP0; have hrq2 := KQ0; have hoq := OS; have hoq2 := OR; clear KP0 KQ0 OS OR
    have HW1 := Lib.hid (HW0.out.trans hb)
    have BX0_1 := Lib.hid (BX0_0.out.ext hb)
    have BX1_1 := Lib.hid (BX1_0.out.ext hb)
    have zz1 := hb.size
    clear HW0 BX0_0 BX1_0 hb
    have OP0_1 := hoq; clear hoq
    have OQ0_1 := hoq2; clear hoq2
    have P0_1 := hrq; clear hrq
    have Q0_1 := hrq2; clear hrq2
    have cBX00 : w1.cell? ⟨w.heap.size, 0, none⟩ = some (.int .i64 x0) := BX0_1.out.cell rfl
    have cBX01 : w1.cell? ⟨w.heap.size, 1, none⟩ = some (.int .i64 x1) := BX0_1.out.cell rfl
    have cBX02 : w1.cell? ⟨w.heap.size, 2, none⟩ = some (.int .i64 x2) := BX0_1.out.cell rfl
    have cBX03 : w1.cell? ⟨w.heap.size, 3, none⟩ = some (.int .i64 x3) := BX0_1.out.cell rfl
    have cBX04 : w1.cell? ⟨w.heap.size, 4, none⟩ = some (.int .i64 x4) := BX0_1.out.cell rfl
    have cBX05 : w1.cell? ⟨w.heap.size, 5, none⟩ = some (.int .i64 x5) := BX0_1.out.cell rfl
    have cBX06 : w1.cell? ⟨w.heap.size, 6, none⟩ = some (.int .i64 x6) := BX0_1.out.cell rfl
    have cBX07 : w1.cell? ⟨w.heap.size, 7, none⟩ = some (.int .i64 x7) := BX0_1.out.cell rfl
    have cBX08 : w1.cell? ⟨w.heap.size, 8, none⟩ = some (.int .i64 x8) := BX0_1.out.cell rfl
    have cBX09 : w1.cell? ⟨w.heap.size, 9, none⟩ = some (.slice a n c) := BX0_1.out.cell rfl
    go_wp2_with fail
    with_reducible refine (toLock_any _ _ _ _ _ _ _ _ _ _ _ _ ts _ HN.out hs2 HTS.out (HF.out.ext HW1.out)).mono ?_
    rintro e w2 ⟨aX0, rfl, ho, hb⟩
    clear cBX00 cBX01 cBX02 cBX03 cBX04 cBX05 cBX06 cBX07 cBX08 cBX09
    have hown := Lib.hid ho; clear ho
    have HW2 := Lib.hid (HW1.out.trans hb)
    have BX0_2 := Lib.hid (BX0_1.out.ext hb)
    have BX1_2 := Lib.hid (BX1_1.out.ext hb)
    have P0_2 := Lib.hid (P0_1.out.ext hb)
    have Q0_2 := Lib.hid (Q0_1.out.ext hb)
    have OP0_2 := Lib.hid (OP0_1.out.ext hb)
    have OQ0_2 := Lib.hid (OQ0_1.out.ext hb)
    have zz2 := hb.size
    clear HW1 BX0_1 BX1_1 P0_1 Q0_1 OP0_1 OQ0_1 hb
    have OX0_2 := hown; clear hown
    obtain ⟨bX0, hbX0⟩ : ∃ x, x = w2.heap.size := ⟨_, rfl⟩
    obtain ⟨w3, hw3⟩ : ∃ x, x = w2.alloc (.cells #[.int .i64 x0, .int .i64 x1, .int .i64 x2, .int .i64 x3, .int .i64 x4, .int .i64 x5, .int .i64 x6, .int .i64 x7, .int .i64 x8, .slice (some aX0) n n] 26) := ⟨_, rfl⟩
    have hal := (Ext.refl w2).alloc (.cells #[.int .i64 x0, .int .i64 x1, .int .i64 x2, .int .i64 x3, .int .i64 x4, .int .i64 x5, .int .i64 x6, .int .i64 x7, .int .i64 x8, .slice (some aX0) n n] 26)
    have X0q := Lib.hid (RowAt.new w2 26 #[.int .i64 x0, .int .i64 x1, .int .i64 x2, .int .i64 x3, .int .i64 x4, .int .i64 x5, .int .i64 x6, .int .i64 x7, .int .i64 x8, .slice (some aX0) n n])
    rw [← hw3] at hal X0q
    rw [← hbX0] at X0q
    have lX0 := X0q.out.lt
    have mX0 : w2.heap.size ≤ bX0 := Nat.le_of_eq hbX0.symm
    have nX0 : bX0 ≤ w2.heap.size := Nat.le_of_eq hbX0
    have e0 : (w2.alloc (.cells #[.int .i64 x0, .int .i64 x1, .int .i64 x2, .int .i64 x3, .int .i64 x4, .int .i64 x5, .int .i64 x6, .int .i64 x7, .int .i64 x8, .slice (some aX0) n n] 26)).cell? ⟨w.heap.size + 1, 0, none⟩ = some (.slice ta tn tc) := (BX1_2.out.ext ((Ext.refl _).alloc _)).cell rfl
    have e1 : (w2.alloc (.cells #[.int .i64 x0, .int .i64 x1, .int .i64 x2, .int .i64 x3, .int .i64 x4, .int .i64 x5, .int .i64 x6, .int .i64 x7, .int .i64 x8, .slice (some aX0) n n] 26)).cell? ⟨w.heap.size + 1, 1, none⟩ = some (.int .i64 vol) := (BX1_2.out.ext ((Ext.refl _).alloc _)).cell rfl
    have e2 : (w2.alloc (.cells #[.int .i64 x0, .int .i64 x1, .int .i64 x2, .int .i64 x3, .int .i64 x4, .int .i64 x5, .int .i64 x6, .int .i64 x7, .int .i64 x8, .slice (some aX0) n n] 26)).cell? ⟨w.heap.size + 1, 2, none⟩ = some (.slice pa pn pc) := (BX1_2.out.ext ((Ext.refl _).alloc _)).cell rfl
    go_wp2_with fail
    clear e0 e1 e2
    (try rw [← hw3])
    (try rw [← hbX0])
    clear hw3 hbX0
    have HW3 := Lib.hid (HW2.out.trans hal)
    have BX0_3 := Lib.hid (BX0_2.out.ext hal)
    have BX1_3 := Lib.hid (BX1_2.out.ext hal)
    have P0_3 := Lib.hid (P0_2.out.ext hal)
    have Q0_3 := Lib.hid (Q0_2.out.ext hal)
    have OP0_3 := Lib.hid (OP0_2.out.ext hal)
    have OQ0_3 := Lib.hid (OQ0_2.out.ext hal)
    have OX0_3 := Lib.hid (OX0_2.out.ext hal)
    have zz3 := hal.size
    clear HW2 BX0_2 BX1_2 P0_2 Q0_2 OP0_2 OQ0_2 OX0_2 hal
    have X0_3 := X0q; clear X0q
    with_reducible refine (toReach_any _ _ _ _ _ _ _ ps xs _ HT.out htl2 HP.out hpl2 (HFT.out.ext HW3.out) (HFP.out.ext HW3.out)).mono ?_
    rintro e w4 ⟨fX1, gX1, midX1, rfl, hmX1, ho, hoi, hb⟩
    have hown := Lib.hid (OwnReach.mk hmX1 ho hoi)
    clear ho hoi
    have HW4 := Lib.hid (HW3.out.trans hb)
    have BX0_4 := Lib.hid (BX0_3.out.ext hb)
    have BX1_4 := Lib.hid (BX1_3.out.ext hb)
    have P0_4 := Lib.hid (P0_3.out.ext hb)
    have Q0_4 := Lib.hid (Q0_3.out.ext hb)
    have X0_4 := Lib.hid (X0_3.out.ext hb)
    have OP0_4 := Lib.hid (OP0_3.out.ext hb)
    have OQ0_4 := Lib.hid (OQ0_3.out.ext hb)
    have OX0_4 := Lib.hid (OX0_3.out.ext hb)
    have zz4 := hb.size
    clear HW3 BX0_3 BX1_3 P0_3 Q0_3 X0_3 OP0_3 OQ0_3 OX0_3 hb
    have OX1_4 := hown; clear hown
    obtain ⟨bX1, hbX1⟩ : ∃ x, x = w4.heap.size := ⟨_, rfl⟩
    obtain ⟨w5, hw5⟩ : ∃ x, x = w4.alloc (.cells #[.slice (some fX1) tn tn, .int .i64 vol, .slice (some gX1) pn pn] 40) := ⟨_, rfl⟩
    have hal := (Ext.refl w4).alloc (.cells #[.slice (some fX1) tn tn, .int .i64 vol, .slice (some gX1) pn pn] 40)
    have X1q := Lib.hid (RowAt.new w4 40 #[.slice (some fX1) tn tn, .int .i64 vol, .slice (some gX1) pn pn])
    rw [← hw5] at hal X1q
    rw [← hbX1] at X1q
    have lX1 := X1q.out.lt
    have mX1 : w4.heap.size ≤ bX1 := Nat.le_of_eq hbX1.symm
    have nX1 : bX1 ≤ w4.heap.size := Nat.le_of_eq hbX1
    have e0 : (w4.alloc (.cells #[.slice (some fX1) tn tn, .int .i64 vol, .slice (some gX1) pn pn] 40)).cell? ⟨bX0, 0, none⟩ = some (.int .i64 x0) := (X0_4.out.ext ((Ext.refl _).alloc _)).cell rfl
    have e1 : (w4.alloc (.cells #[.slice (some fX1) tn tn, .int .i64 vol, .slice (some gX1) pn pn] 40)).cell? ⟨bX0, 1, none⟩ = some (.int .i64 x1) := (X0_4.out.ext ((Ext.refl _).alloc _)).cell rfl
    have e2 : (w4.alloc (.cells #[.slice (some fX1) tn tn, .int .i64 vol, .slice (some gX1) pn pn] 40)).cell? ⟨bX0, 2, none⟩ = some (.int .i64 x2) := (X0_4.out.ext ((Ext.refl _).alloc _)).cell rfl
    have e3 : (w4.alloc (.cells #[.slice (some fX1) tn tn, .int .i64 vol, .slice (some gX1) pn pn] 40)).cell? ⟨bX0, 3, none⟩ = some (.int .i64 x3) := (X0_4.out.ext ((Ext.refl _).alloc _)).cell rfl
    have e4 : (w4.alloc (.cells #[.slice (some fX1) tn tn, .int .i64 vol, .slice (some gX1) pn pn] 40)).cell? ⟨bX0, 4, none⟩ = some (.int .i64 x4) := (X0_4.out.ext ((Ext.refl _).alloc _)).cell rfl
    have e5 : (w4.alloc (.cells #[.slice (some fX1) tn tn, .int .i64 vol, .slice (some gX1) pn pn] 40)).cell? ⟨bX0, 5, none⟩ = some (.int .i64 x5) := (X0_4.out.ext ((Ext.refl _).alloc _)).cell rfl
    have e6 : (w4.alloc (.cells #[.slice (some fX1) tn tn, .int .i64 vol, .slice (some gX1) pn pn] 40)).cell? ⟨bX0, 6, none⟩ = some (.int .i64 x6) := (X0_4.out.ext ((Ext.refl _).alloc _)).cell rfl
    have e7 : (w4.alloc (.cells #[.slice (some fX1) tn tn, .int .i64 vol, .slice (some gX1) pn pn] 40)).cell? ⟨bX0, 7, none⟩ = some (.int .i64 x7) := (X0_4.out.ext ((Ext.refl _).alloc _)).cell rfl
    have e8 : (w4.alloc (.cells #[.slice (some fX1) tn tn, .int .i64 vol, .slice (some gX1) pn pn] 40)).cell? ⟨bX0, 8, none⟩ = some (.int .i64 x8) := (X0_4.out.ext ((Ext.refl _).alloc _)).cell rfl
    have e9 : (w4.alloc (.cells #[.slice (some fX1) tn tn, .int .i64 vol, .slice (some gX1) pn pn] 40)).cell? ⟨bX0, 9, none⟩ = some (.slice (some aX0) n n) := (X0_4.out.ext ((Ext.refl _).alloc _)).cell rfl
    have e10 : (w4.alloc (.cells #[.slice (some fX1) tn tn, .int .i64 vol, .slice (some gX1) pn pn] 40)).cell? ⟨w4.heap.size, 0, none⟩ = some (.slice (some fX1) tn tn) := (RowAt.new w4 40 #[.slice (some fX1) tn tn, .int .i64 vol, .slice (some gX1) pn pn]).cell rfl
    have e11 : (w4.alloc (.cells #[.slice (some fX1) tn tn, .int .i64 vol, .slice (some gX1) pn pn] 40)).cell? ⟨w4.heap.size, 1, none⟩ = some (.int .i64 vol) := (RowAt.new w4 40 #[.slice (some fX1) tn tn, .int .i64 vol, .slice (some gX1) pn pn]).cell rfl
    have e12 : (w4.alloc (.cells #[.slice (some fX1) tn tn, .int .i64 vol, .slice (some gX1) pn pn] 40)).cell? ⟨w4.heap.size, 2, none⟩ = some (.slice (some gX1) pn pn) := (RowAt.new w4 40 #[.slice (some fX1) tn tn, .int .i64 vol, .slice (some gX1) pn pn]).cell rfl
    go_wp2_with fail
    clear e0 e1 e2 e3 e4 e5 e6 e7 e8 e9 e10 e11 e12
    (try rw [← hw5])
    (try rw [← hbX1])
    clear hw5 hbX1
    have HW5 := Lib.hid (HW4.out.trans hal)
    have BX0_5 := Lib.hid (BX0_4.out.ext hal)
    have BX1_5 := Lib.hid (BX1_4.out.ext hal)
    have P0_5 := Lib.hid (P0_4.out.ext hal)
    have Q0_5 := Lib.hid (Q0_4.out.ext hal)
    have X0_5 := Lib.hid (X0_4.out.ext hal)
    have OP0_5 := Lib.hid (OP0_4.out.ext hal)
    have OQ0_5 := Lib.hid (OQ0_4.out.ext hal)
    have OX0_5 := Lib.hid (OX0_4.out.ext hal)
    have OX1_5 := Lib.hid (OX1_4.out.ext hal)
    have zz5 := hal.size
    clear HW4 BX0_4 BX1_4 P0_4 Q0_4 X0_4 OP0_4 OQ0_4 OX0_4 OX1_4 hal
    have X1_5 := X1q; clear X1q
    with_reducible refine (implLeave_any ts1 n1 ut rows1 m1 ok _ _ _ _ _ _ _ _ _ _ _ _ ts _ _ _ _ _ _ _ ps xs _ HN.out hs2 HTS.out OX0_5.out.trains HT.out htl2 HP.out hpl2 OX1_5.out.pts OX1_5.out.ints HVOL.out (Nat.le_refl _) (by omega) HN1.out HMR.out HRES.out).mono ?_
    rintro e w6 ⟨pG, qG, p1, q1, rfl, hlr, hb⟩
    obtain ⟨md, hmd, hq1, hq2⟩ := hlr
    have hop := Lib.hid hq1; have hop2 := Lib.hid hq2; clear hq1 hq2
    have HW6 := Lib.hid (HW5.out.trans hb)
    have BX0_6 := Lib.hid (BX0_5.out.ext hb)
    have BX1_6 := Lib.hid (BX1_5.out.ext hb)
    have P0_6 := Lib.hid (P0_5.out.ext hb)
    have Q0_6 := Lib.hid (Q0_5.out.ext hb)
    have X0_6 := Lib.hid (X0_5.out.ext hb)
    have X1_6 := Lib.hid (X1_5.out.ext hb)
    have OP0_6 := Lib.hid (OP0_5.out.ext hb)
    have OQ0_6 := Lib.hid (OQ0_5.out.ext hb)
    have OX0_6 := Lib.hid (OX0_5.out.ext hb)
    have OX1_6 := Lib.hid (OX1_5.out.ext hb)
    have zz6 := hb.size
    clear HW5 BX0_5 BX1_5 P0_5 Q0_5 X0_5 X1_5 OP0_5 OQ0_5 OX0_5 OX1_5 hb
    have OG0_6 := hop; clear hop
    have OV0_6 := hop2; clear hop2
    obtain ⟨bG0, hbG0⟩ : ∃ x, x = w6.heap.size := ⟨_, rfl⟩
    obtain ⟨bV0, hbV0⟩ : ∃ x, x = w6.heap.size + 1 := ⟨_, rfl⟩
    obtain ⟨w7, hw7⟩ : ∃ x, x = ((w6.alloc (.cells #[.int .i64 x0, .int .i64 x1, .int .i64 x2, .int .i64 x3, .int .i64 x4, .int .i64 x5, .int .i64 x6, .int .i64 x7, .int .i64 x8, .slice pG n1 qG] 26)).alloc (.cells #[.bool ut, .slice p1 m1 q1] 33)) := ⟨_, rfl⟩
    have hal := ((Ext.refl w6).alloc (.cells #[.int .i64 x0, .int .i64 x1, .int .i64 x2, .int .i64 x3, .int .i64 x4, .int .i64 x5, .int .i64 x6, .int .i64 x7, .int .i64 x8, .slice pG n1 qG] 26)).alloc (.cells #[.bool ut, .slice p1 m1 q1] 33)
    have G0q := Lib.hid (show RowAt ((w6.alloc (.cells #[.int .i64 x0, .int .i64 x1, .int .i64 x2, .int .i64 x3, .int .i64 x4, .int .i64 x5, .int .i64 x6, .int .i64 x7, .int .i64 x8, .slice pG n1 qG] 26)).alloc (.cells #[.bool ut, .slice p1 m1 q1] 33)) (w6.heap.size) 26 #[.int .i64 x0, .int .i64 x1, .int .i64 x2, .int .i64 x3, .int .i64 x4, .int .i64 x5, .int .i64 x6, .int .i64 x7, .int .i64 x8, .slice pG n1 qG] from (RowAt.new w6 26 #[.int .i64 x0, .int .i64 x1, .int .i64 x2, .int .i64 x3, .int .i64 x4, .int .i64 x5, .int .i64 x6, .int .i64 x7, .int .i64 x8, .slice pG n1 qG]).ext ((Ext.refl _).alloc _))
    have V0q := Lib.hid (show RowAt ((w6.alloc (.cells #[.int .i64 x0, .int .i64 x1, .int .i64 x2, .int .i64 x3, .int .i64 x4, .int .i64 x5, .int .i64 x6, .int .i64 x7, .int .i64 x8, .slice pG n1 qG] 26)).alloc (.cells #[.bool ut, .slice p1 m1 q1] 33)) (w6.heap.size + 1) 33 #[.bool ut, .slice p1 m1 q1] from by have h := RowAt.new (w6.alloc (.cells #[.int .i64 x0, .int .i64 x1, .int .i64 x2, .int .i64 x3, .int .i64 x4, .int .i64 x5, .int .i64 x6, .int .i64 x7, .int .i64 x8, .slice pG n1 qG] 26)) 33 #[.bool ut, .slice p1 m1 q1]; simp only [World.size_alloc] at h; exact h)
    have e0 : ((w6.alloc (.cells #[.int .i64 x0, .int .i64 x1, .int .i64 x2, .int .i64 x3, .int .i64 x4, .int .i64 x5, .int .i64 x6, .int .i64 x7, .int .i64 x8, .slice pG n1 qG] 26)).alloc (.cells #[.bool ut, .slice p1 m1 q1] 33)).cell? ⟨w6.heap.size, 0, none⟩ = some (.int .i64 x0) := G0q.out.cell rfl
    have e1 : ((w6.alloc (.cells #[.int .i64 x0, .int .i64 x1, .int .i64 x2, .int .i64 x3, .int .i64 x4, .int .i64 x5, .int .i64 x6, .int .i64 x7, .int .i64 x8, .slice pG n1 qG] 26)).alloc (.cells #[.bool ut, .slice p1 m1 q1] 33)).cell? ⟨w6.heap.size, 1, none⟩ = some (.int .i64 x1) := G0q.out.cell rfl
    have e2 : ((w6.alloc (.cells #[.int .i64 x0, .int .i64 x1, .int .i64 x2, .int .i64 x3, .int .i64 x4, .int .i64 x5, .int .i64 x6, .int .i64 x7, .int .i64 x8, .slice pG n1 qG] 26)).alloc (.cells #[.bool ut, .slice p1 m1 q1] 33)).cell? ⟨w6.heap.size, 2, none⟩ = some (.int .i64 x2) := G0q.out.cell rfl
    have e3 : ((w6.alloc (.cells #[.int .i64 x0, .int .i64 x1, .int .i64 x2, .int .i64 x3, .int .i64 x4, .int .i64 x5, .int .i64 x6, .int .i64 x7, .int .i64 x8, .slice pG n1 qG] 26)).alloc (.cells #[.bool ut, .slice p1 m1 q1] 33)).cell? ⟨w6.heap.size, 3, none⟩ = some (.int .i64 x3) := G0q.out.cell rfl
    have e4 : ((w6.alloc (.cells #[.int .i64 x0, .int .i64 x1, .int .i64 x2, .int .i64 x3, .int .i64 x4, .int .i64 x5, .int .i64 x6, .int .i64 x7, .int .i64 x8, .slice pG n1 qG] 26)).alloc (.cells #[.bool ut, .slice p1 m1 q1] 33)).cell? ⟨w6.heap.size, 4, none⟩ = some (.int .i64 x4) := G0q.out.cell rfl
    have e5 : ((w6.alloc (.cells #[.int .i64 x0, .int .i64 x1, .int .i64 x2, .int .i64 x3, .int .i64 x4, .int .i64 x5, .int .i64 x6, .int .i64 x7, .int .i64 x8, .slice pG n1 qG] 26)).alloc (.cells #[.bool ut, .slice p1 m1 q1] 33)).cell? ⟨w6.heap.size, 5, none⟩ = some (.int .i64 x5) := G0q.out.cell rfl
    have e6 : ((w6.alloc (.cells #[.int .i64 x0, .int .i64 x1, .int .i64 x2, .int .i64 x3, .int .i64 x4, .int .i64 x5, .int .i64 x6, .int .i64 x7, .int .i64 x8, .slice pG n1 qG] 26)).alloc (.cells #[.bool ut, .slice p1 m1 q1] 33)).cell? ⟨w6.heap.size, 6, none⟩ = some (.int .i64 x6) := G0q.out.cell rfl
    have e7 : ((w6.alloc (.cells #[.int .i64 x0, .int .i64 x1, .int .i64 x2, .int .i64 x3, .int .i64 x4, .int .i64 x5, .int .i64 x6, .int .i64 x7, .int .i64 x8, .slice pG n1 qG] 26)).alloc (.cells #[.bool ut, .slice p1 m1 q1] 33)).cell? ⟨w6.heap.size, 7, none⟩ = some (.int .i64 x7) := G0q.out.cell rfl
    have e8 : ((w6.alloc (.cells #[.int .i64 x0, .int .i64 x1, .int .i64 x2, .int .i64 x3, .int .i64 x4, .int .i64 x5, .int .i64 x6, .int .i64 x7, .int .i64 x8, .slice pG n1 qG] 26)).alloc (.cells #[.bool ut, .slice p1 m1 q1] 33)).cell? ⟨w6.heap.size, 8, none⟩ = some (.int .i64 x8) := G0q.out.cell rfl
    have e9 : ((w6.alloc (.cells #[.int .i64 x0, .int .i64 x1, .int .i64 x2, .int .i64 x3, .int .i64 x4, .int .i64 x5, .int .i64 x6, .int .i64 x7, .int .i64 x8, .slice pG n1 qG] 26)).alloc (.cells #[.bool ut, .slice p1 m1 q1] 33)).cell? ⟨w6.heap.size, 9, none⟩ = some (.slice pG n1 qG) := G0q.out.cell rfl
    have e10 : ((w6.alloc (.cells #[.int .i64 x0, .int .i64 x1, .int .i64 x2, .int .i64 x3, .int .i64 x4, .int .i64 x5, .int .i64 x6, .int .i64 x7, .int .i64 x8, .slice pG n1 qG] 26)).alloc (.cells #[.bool ut, .slice p1 m1 q1] 33)).cell? ⟨bP0, 0, none⟩ = some (.int .i64 x0) := (P0_6.out.ext (((Ext.refl _).alloc _).alloc _)).cell rfl
    have e11 : ((w6.alloc (.cells #[.int .i64 x0, .int .i64 x1, .int .i64 x2, .int .i64 x3, .int .i64 x4, .int .i64 x5, .int .i64 x6, .int .i64 x7, .int .i64 x8, .slice pG n1 qG] 26)).alloc (.cells #[.bool ut, .slice p1 m1 q1] 33)).cell? ⟨bP0, 1, none⟩ = some (.int .i64 x1) := (P0_6.out.ext (((Ext.refl _).alloc _).alloc _)).cell rfl
    have e12 : ((w6.alloc (.cells #[.int .i64 x0, .int .i64 x1, .int .i64 x2, .int .i64 x3, .int .i64 x4, .int .i64 x5, .int .i64 x6, .int .i64 x7, .int .i64 x8, .slice pG n1 qG] 26)).alloc (.cells #[.bool ut, .slice p1 m1 q1] 33)).cell? ⟨bP0, 2, none⟩ = some (.int .i64 x2) := (P0_6.out.ext (((Ext.refl _).alloc _).alloc _)).cell rfl
    have e13 : ((w6.alloc (.cells #[.int .i64 x0, .int .i64 x1, .int .i64 x2, .int .i64 x3, .int .i64 x4, .int .i64 x5, .int .i64 x6, .int .i64 x7, .int .i64 x8, .slice pG n1 qG] 26)).alloc (.cells #[.bool ut, .slice p1 m1 q1] 33)).cell? ⟨bP0, 3, none⟩ = some (.int .i64 x3) := (P0_6.out.ext (((Ext.refl _).alloc _).alloc _)).cell rfl
    have e14 : ((w6.alloc (.cells #[.int .i64 x0, .int .i64 x1, .int .i64 x2, .int .i64 x3, .int .i64 x4, .int .i64 x5, .int .i64 x6, .int .i64 x7, .int .i64 x8, .slice pG n1 qG] 26)).alloc (.cells #[.bool ut, .slice p1 m1 q1] 33)).cell? ⟨bP0, 4, none⟩ = some (.int .i64 x4) := (P0_6.out.ext (((Ext.refl _).alloc _).alloc _)).cell rfl
    have e15 : ((w6.alloc (.cells #[.int .i64 x0, .int .i64 x1, .int .i64 x2, .int .i64 x3, .int .i64 x4, .int .i64 x5, .int .i64 x6, .int .i64 x7, .int .i64 x8, .slice pG n1 qG] 26)).alloc (.cells #[.bool ut, .slice p1 m1 q1] 33)).cell? ⟨bP0, 5, none⟩ = some (.int .i64 x5) := (P0_6.out.ext (((Ext.refl _).alloc _).alloc _)).cell rfl
    have e16 : ((w6.alloc (.cells #[.int .i64 x0, .int .i64 x1, .int .i64 x2, .int .i64 x3, .int .i64 x4, .int .i64 x5, .int .i64 x6, .int .i64 x7, .int .i64 x8, .slice pG n1 qG] 26)).alloc (.cells #[.bool ut, .slice p1 m1 q1] 33)).cell? ⟨bP0, 6, none⟩ = some (.int .i64 x6) := (P0_6.out.ext (((Ext.refl _).alloc _).alloc _)).cell rfl
    have e17 : ((w6.alloc (.cells #[.int .i64 x0, .int .i64 x1, .int .i64 x2, .int .i64 x3, .int .i64 x4, .int .i64 x5, .int .i64 x6, .int .i64 x7, .int .i64 x8, .slice pG n1 qG] 26)).alloc (.cells #[.bool ut, .slice p1 m1 q1] 33)).cell? ⟨bP0, 7, none⟩ = some (.int .i64 x7) := (P0_6.out.ext (((Ext.refl _).alloc _).alloc _)).cell rfl
    have e18 : ((w6.alloc (.cells #[.int .i64 x0, .int .i64 x1, .int .i64 x2, .int .i64 x3, .int .i64 x4, .int .i64 x5, .int .i64 x6, .int .i64 x7, .int .i64 x8, .slice pG n1 qG] 26)).alloc (.cells #[.bool ut, .slice p1 m1 q1] 33)).cell? ⟨bP0, 8, none⟩ = some (.int .i64 x8) := (P0_6.out.ext (((Ext.refl _).alloc _).alloc _)).cell rfl
    have e19 : ((w6.alloc (.cells #[.int .i64 x0, .int .i64 x1, .int .i64 x2, .int .i64 x3, .int .i64 x4, .int .i64 x5, .int .i64 x6, .int .i64 x7, .int .i64 x8, .slice pG n1 qG] 26)).alloc (.cells #[.bool ut, .slice p1 m1 q1] 33)).cell? ⟨bP0, 9, none⟩ = some (.slice pP n1 qP) := (P0_6.out.ext (((Ext.refl _).alloc _).alloc _)).cell rfl
    have e20 : ((w6.alloc (.cells #[.int .i64 x0, .int .i64 x1, .int .i64 x2, .int .i64 x3, .int .i64 x4, .int .i64 x5, .int .i64 x6, .int .i64 x7, .int .i64 x8, .slice pG n1 qG] 26)).alloc (.cells #[.bool ut, .slice p1 m1 q1] 33)).cell? ⟨w6.heap.size + 1, 0, none⟩ = some (.bool ut) := V0q.out.cell rfl
    have e21 : ((w6.alloc (.cells #[.int .i64 x0, .int .i64 x1, .int .i64 x2, .int .i64 x3, .int .i64 x4, .int .i64 x5, .int .i64 x6, .int .i64 x7, .int .i64 x8, .slice pG n1 qG] 26)).alloc (.cells #[.bool ut, .slice p1 m1 q1] 33)).cell? ⟨w6.heap.size + 1, 1, none⟩ = some (.slice p1 m1 q1) := V0q.out.cell rfl
    have e22 : ((w6.alloc (.cells #[.int .i64 x0, .int .i64 x1, .int .i64 x2, .int .i64 x3, .int .i64 x4, .int .i64 x5, .int .i64 x6, .int .i64 x7, .int .i64 x8, .slice pG n1 qG] 26)).alloc (.cells #[.bool ut, .slice p1 m1 q1] 33)).cell? ⟨bQ0, 0, none⟩ = some (.bool ut) := (Q0_6.out.ext (((Ext.refl _).alloc _).alloc _)).cell rfl
    have e23 : ((w6.alloc (.cells #[.int .i64 x0, .int .i64 x1, .int .i64 x2, .int .i64 x3, .int .i64 x4, .int .i64 x5, .int .i64 x6, .int .i64 x7, .int .i64 x8, .slice pG n1 qG] 26)).alloc (.cells #[.bool ut, .slice p1 m1 q1] 33)).cell? ⟨bQ0, 1, none⟩ = some (.slice fP m1 cP) := (Q0_6.out.ext (((Ext.refl _).alloc _).alloc _)).cell rfl
    rw [← hw7] at hal G0q V0q
    rw [← hbG0] at G0q
    rw [← hbV0] at V0q
    have lbG0 := G0q.out.lt; have mbG0 : w6.heap.size ≤ bG0 := Nat.le_of_eq hbG0.symm; have nbG0 : bG0 ≤ w6.heap.size := Nat.le_of_eq hbG0
    have lbV0 := V0q.out.lt; have mbV0 : w6.heap.size + 1 ≤ bV0 := Nat.le_of_eq hbV0.symm; have nbV0 : bV0 ≤ w6.heap.size + 1 := Nat.le_of_eq hbV0
    go_wp2_with fail
    clear e0 e1 e2 e3 e4 e5 e6 e7 e8 e9 e10 e11 e12 e13 e14 e15 e16 e17 e18 e19 e20 e21 e22 e23
    (try rw [← hw7])
    (try rw [← hbV0])
    (try rw [← hbG0])
    clear hw7 hbG0 hbV0
    have HW7 := Lib.hid (HW6.out.trans hal)
    have BX0_7 := Lib.hid (BX0_6.out.ext hal)
    have BX1_7 := Lib.hid (BX1_6.out.ext hal)
    have P0_7 := Lib.hid (P0_6.out.ext hal)
    have Q0_7 := Lib.hid (Q0_6.out.ext hal)
    have X0_7 := Lib.hid (X0_6.out.ext hal)
    have X1_7 := Lib.hid (X1_6.out.ext hal)
    have OP0_7 := Lib.hid (OP0_6.out.ext hal)
    have OQ0_7 := Lib.hid (OQ0_6.out.ext hal)
    have OX0_7 := Lib.hid (OX0_6.out.ext hal)
    have OX1_7 := Lib.hid (OX1_6.out.ext hal)
    have OG0_7 := Lib.hid (OG0_6.out.ext hal)
    have OV0_7 := Lib.hid (OV0_6.out.ext hal)
    have zz7 := hal.size
    clear HW6 BX0_6 BX1_6 P0_6 Q0_6 X0_6 X1_6 OP0_6 OQ0_6 OX0_6 OX1_6 OG0_6 OV0_6 hal
    have G0_7 := G0q; clear G0q
    have V0_7 := V0q; clear V0q
    with_reducible refine (eqLock_same _ _ _ _ _ _ _ _ _ _ _ _ _ _ ts1 _ HN1.out HS1.out OG0_7.out.trains OP0_7.out.trains).mono ?_
    rintro e w8 ⟨rfl, hb⟩
    have HW8 := Lib.hid (HW7.out.trans hb)
    have BX0_8 := Lib.hid (BX0_7.out.ext hb)
    have BX1_8 := Lib.hid (BX1_7.out.ext hb)
    have P0_8 := Lib.hid (P0_7.out.ext hb)
    have Q0_8 := Lib.hid (Q0_7.out.ext hb)
    have X0_8 := Lib.hid (X0_7.out.ext hb)
    have X1_8 := Lib.hid (X1_7.out.ext hb)
    have G0_8 := Lib.hid (G0_7.out.ext hb)
    have V0_8 := Lib.hid (V0_7.out.ext hb)
    have OP0_8 := Lib.hid (OP0_7.out.ext hb)
    have OQ0_8 := Lib.hid (OQ0_7.out.ext hb)
    have OX0_8 := Lib.hid (OX0_7.out.ext hb)
    have OX1_8 := Lib.hid (OX1_7.out.ext hb)
    have OG0_8 := Lib.hid (OG0_7.out.ext hb)
    have OV0_8 := Lib.hid (OV0_7.out.ext hb)
    have zz8 := hb.size
    clear HW7 BX0_7 BX1_7 P0_7 Q0_7 X0_7 X1_7 G0_7 V0_7 OP0_7 OQ0_7 OX0_7 OX1_7 OG0_7 OV0_7 hb
    have cV00 : w8.cell? ⟨bV0, 0, none⟩ = some (.bool ut) := V0_8.out.cell rfl
    have cV01 : w8.cell? ⟨bV0, 1, none⟩ = some (.slice p1 m1 q1) := V0_8.out.cell rfl
    have cQ00 : w8.cell? ⟨bQ0, 0, none⟩ = some (.bool ut) := Q0_8.out.cell rfl
    have cQ01 : w8.cell? ⟨bQ0, 1, none⟩ = some (.slice fP m1 cP) := Q0_8.out.cell rfl
    go_wp2_with fail
    with_reducible refine (eqTrain_same _ _ _ _ _ _ rows1 _ HMR.out HML.out OV0_8.out.rows OQ0_8.out.rows).mono ?_
    rintro e w9 ⟨rfl, hb⟩
    clear cV00 cV01 cQ00 cQ01
    have HW9 := Lib.hid (HW8.out.trans hb)
    have BX0_9 := Lib.hid (BX0_8.out.ext hb)
    have BX1_9 := Lib.hid (BX1_8.out.ext hb)
    have P0_9 := Lib.hid (P0_8.out.ext hb)
    have Q0_9 := Lib.hid (Q0_8.out.ext hb)
    have X0_9 := Lib.hid (X0_8.out.ext hb)
    have X1_9 := Lib.hid (X1_8.out.ext hb)
    have G0_9 := Lib.hid (G0_8.out.ext hb)
    have V0_9 := Lib.hid (V0_8.out.ext hb)
    have OP0_9 := Lib.hid (OP0_8.out.ext hb)
    have OQ0_9 := Lib.hid (OQ0_8.out.ext hb)
    have OX0_9 := Lib.hid (OX0_8.out.ext hb)
    have OX1_9 := Lib.hid (OX1_8.out.ext hb)
    have OG0_9 := Lib.hid (OG0_8.out.ext hb)
    have OV0_9 := Lib.hid (OV0_8.out.ext hb)
    have zz9 := hb.size
    clear HW8 BX0_8 BX1_8 P0_8 Q0_8 X0_8 X1_8 G0_8 V0_8 OP0_8 OQ0_8 OX0_8 OX1_8 OG0_8 OV0_8 hb
    have cX00 : w9.cell? ⟨bX0, 0, none⟩ = some (.int .i64 x0) := X0_9.out.cell rfl
    have cX01 : w9.cell? ⟨bX0, 1, none⟩ = some (.int .i64 x1) := X0_9.out.cell rfl
    have cX02 : w9.cell? ⟨bX0, 2, none⟩ = some (.int .i64 x2) := X0_9.out.cell rfl
    have cX03 : w9.cell? ⟨bX0, 3, none⟩ = some (.int .i64 x3) := X0_9.out.cell rfl
    have cX04 : w9.cell? ⟨bX0, 4, none⟩ = some (.int .i64 x4) := X0_9.out.cell rfl
    have cX05 : w9.cell? ⟨bX0, 5, none⟩ = some (.int .i64 x5) := X0_9.out.cell rfl
    have cX06 : w9.cell? ⟨bX0, 6, none⟩ = some (.int .i64 x6) := X0_9.out.cell rfl
    have cX07 : w9.cell? ⟨bX0, 7, none⟩ = some (.int .i64 x7) := X0_9.out.cell rfl
    have cX08 : w9.cell? ⟨bX0, 8, none⟩ = some (.int .i64 x8) := X0_9.out.cell rfl
    have cX09 : w9.cell? ⟨bX0, 9, none⟩ = some (.slice (some aX0) n n) := X0_9.out.cell rfl
    have cBX00 : w9.cell? ⟨w.heap.size, 0, none⟩ = some (.int .i64 x0) := BX0_9.out.cell rfl
    have cBX01 : w9.cell? ⟨w.heap.size, 1, none⟩ = some (.int .i64 x1) := BX0_9.out.cell rfl
    have cBX02 : w9.cell? ⟨w.heap.size, 2, none⟩ = some (.int .i64 x2) := BX0_9.out.cell rfl
    have cBX03 : w9.cell? ⟨w.heap.size, 3, none⟩ = some (.int .i64 x3) := BX0_9.out.cell rfl
    have cBX04 : w9.cell? ⟨w.heap.size, 4, none⟩ = some (.int .i64 x4) := BX0_9.out.cell rfl
    have cBX05 : w9.cell? ⟨w.heap.size, 5, none⟩ = some (.int .i64 x5) := BX0_9.out.cell rfl
    have cBX06 : w9.cell? ⟨w.heap.size, 6, none⟩ = some (.int .i64 x6) := BX0_9.out.cell rfl
    have cBX07 : w9.cell? ⟨w.heap.size, 7, none⟩ = some (.int .i64 x7) := BX0_9.out.cell rfl
    have cBX08 : w9.cell? ⟨w.heap.size, 8, none⟩ = some (.int .i64 x8) := BX0_9.out.cell rfl
    have cBX09 : w9.cell? ⟨w.heap.size, 9, none⟩ = some (.slice a n c) := BX0_9.out.cell rfl
    have hS := Ext.refl w9
    go_wp2_with fail
    go_region_held3 (fun w' => Ext w9 w' ∧ w'.cell? ⟨bX0, 0, none⟩ = some (.int .i64 x0) ∧ w'.cell? ⟨bX0, 1, none⟩ = some (.int .i64 x1) ∧ w'.cell? ⟨bX0, 2, none⟩ = some (.int .i64 x2) ∧ w'.cell? ⟨bX0, 3, none⟩ = some (.int .i64 x3) ∧ w'.cell? ⟨bX0, 4, none⟩ = some (.int .i64 x4) ∧ w'.cell? ⟨bX0, 5, none⟩ = some (.int .i64 x5) ∧ w'.cell? ⟨bX0, 6, none⟩ = some (.int .i64 x6) ∧ w'.cell? ⟨bX0, 7, none⟩ = some (.int .i64 x7) ∧ w'.cell? ⟨bX0, 8, none⟩ = some (.int .i64 x8) ∧ w'.cell? ⟨bX0, 9, none⟩ = some (.slice (some aX0) n n) ∧ w'.cell? ⟨w.heap.size, 0, none⟩ = some (.int .i64 x0) ∧ w'.cell? ⟨w.heap.size, 1, none⟩ = some (.int .i64 x1) ∧ w'.cell? ⟨w.heap.size, 2, none⟩ = some (.int .i64 x2) ∧ w'.cell? ⟨w.heap.size, 3, none⟩ = some (.int .i64 x3) ∧ w'.cell? ⟨w.heap.size, 4, none⟩ = some (.int .i64 x4) ∧ w'.cell? ⟨w.heap.size, 5, none⟩ = some (.int .i64 x5) ∧ w'.cell? ⟨w.heap.size, 6, none⟩ = some (.int .i64 x6) ∧ w'.cell? ⟨w.heap.size, 7, none⟩ = some (.int .i64 x7) ∧ w'.cell? ⟨w.heap.size, 8, none⟩ = some (.int .i64 x8) ∧ w'.cell? ⟨w.heap.size, 9, none⟩ = some (.slice a n c))
      ((repeat' (refine And.intro ?_ ?_)) <;> (first | (exact Ext.cell (w := w9) (by (repeat' (first | (with_reducible exact Ext.refl _) | (with_reducible assumption) | (with_reducible refine Ext.alloc ?_ _) | (with_reducible refine Ext.drewN ?_ _) | (with_reducible refine Ext.drew ?_) | (with_reducible refine Ext.setCell ?_ ?_ _) | (with_reducible exact Nat.le_refl _) | (with_reducible exact Nat.le_succ _) | (with_reducible refine Ext.trans ?_ (by assumption)) | (simp; done) | (simp; omega)))) (by (with_reducible assumption))) | ((repeat' (first | (with_reducible exact Ext.refl _) | (with_reducible assumption) | (with_reducible refine Ext.alloc ?_ _) | (with_reducible refine Ext.drewN ?_ _) | (with_reducible refine Ext.drew ?_) | (with_reducible refine Ext.setCell ?_ ?_ _) | (with_reducible exact Nat.le_refl _) | (with_reducible exact Nat.le_succ _) | (with_reducible refine Ext.trans ?_ (by assumption)) | (simp; done) | (simp; omega))); done)))
      (first
        | (go_at_call 34; with_reducible refine (toLock_any _ _ _ _ _ _ _ _ _ _ _ _ ts _ HN.out hs2 HTS.out (HF.out.ext (HW9.out.trans (by (repeat' (first | (with_reducible exact Ext.refl _) | (with_reducible assumption) | (with_reducible refine Ext.alloc ?_ _) | (with_reducible refine Ext.drewN ?_ _) | (with_reducible refine Ext.drew ?_) | (with_reducible refine Ext.setCell ?_ ?_ _) | (with_reducible exact Nat.le_refl _) | (with_reducible exact Nat.le_succ _) | (with_reducible refine Ext.trans ?_ (by assumption)) | (simp; done) | (simp; omega))))))).mono ?_; rintro e w' ⟨aE0, rfl, ho, hb⟩)
        | (go_at_call 37; with_reducible refine (eqLock_same _ _ _ _ _ _ _ _ _ _ _ _ _ _ ts _ HN.out HS.out (OX0_9.out.trains.ext (by (repeat' (first | (with_reducible exact Ext.refl _) | (with_reducible assumption) | (with_reducible refine Ext.alloc ?_ _) | (with_reducible refine Ext.drewN ?_ _) | (with_reducible refine Ext.drew ?_) | (with_reducible refine Ext.setCell ?_ ?_ _) | (with_reducible exact Nat.le_refl _) | (with_reducible exact Nat.le_succ _) | (with_reducible refine Ext.trans ?_ (by assumption)) | (simp; done) | (simp; omega))))) ho.trains).mono ?_; rintro e w' ⟨rfl, hb'⟩))
    obtain ⟨w10, hwe⟩ : ∃ x, x = w' := ⟨_, rfl⟩
    subst hwe
    have hxx : Ext w9 w10 := by (repeat' (first | (with_reducible exact Ext.refl _) | (with_reducible assumption) | (with_reducible refine Ext.alloc ?_ _) | (with_reducible refine Ext.drewN ?_ _) | (with_reducible refine Ext.drew ?_) | (with_reducible refine Ext.setCell ?_ ?_ _) | (with_reducible exact Nat.le_refl _) | (with_reducible exact Nat.le_succ _) | (with_reducible refine Ext.trans ?_ (by assumption)) | (simp; done) | (simp; omega)))
    clear ho hb hb' hS
    clear cX00 cX01 cX02 cX03 cX04 cX05 cX06 cX07 cX08 cX09 cBX00 cBX01 cBX02 cBX03 cBX04 cBX05 cBX06 cBX07 cBX08 cBX09
    have HW10 := Lib.hid (HW9.out.trans hxx)
    have BX0_10 := Lib.hid (BX0_9.out.ext hxx)
    have BX1_10 := Lib.hid (BX1_9.out.ext hxx)
    have P0_10 := Lib.hid (P0_9.out.ext hxx)
    have Q0_10 := Lib.hid (Q0_9.out.ext hxx)
    have X0_10 := Lib.hid (X0_9.out.ext hxx)
    have X1_10 := Lib.hid (X1_9.out.ext hxx)
    have G0_10 := Lib.hid (G0_9.out.ext hxx)
    have V0_10 := Lib.hid (V0_9.out.ext hxx)
    have OP0_10 := Lib.hid (OP0_9.out.ext hxx)
    have OQ0_10 := Lib.hid (OQ0_9.out.ext hxx)
    have OX0_10 := Lib.hid (OX0_9.out.ext hxx)
    have OX1_10 := Lib.hid (OX1_9.out.ext hxx)
    have OG0_10 := Lib.hid (OG0_9.out.ext hxx)
    have OV0_10 := Lib.hid (OV0_9.out.ext hxx)
    have zz10 := hxx.size
    clear HW9 BX0_9 BX1_9 P0_9 Q0_9 X0_9 X1_9 G0_9 V0_9 OP0_9 OQ0_9 OX0_9 OX1_9 OG0_9 OV0_9 hxx
    have cX10 : w10.cell? ⟨bX1, 0, none⟩ = some (.slice (some fX1) tn tn) := X1_10.out.cell rfl
    have cX11 : w10.cell? ⟨bX1, 1, none⟩ = some (.int .i64 vol) := X1_10.out.cell rfl
    have cX12 : w10.cell? ⟨bX1, 2, none⟩ = some (.slice (some gX1) pn pn) := X1_10.out.cell rfl
    have cBX10 : w10.cell? ⟨w.heap.size + 1, 0, none⟩ = some (.slice ta tn tc) := BX1_10.out.cell rfl
    have cBX11 : w10.cell? ⟨w.heap.size + 1, 1, none⟩ = some (.int .i64 vol) := BX1_10.out.cell rfl
    have cBX12 : w10.cell? ⟨w.heap.size + 1, 2, none⟩ = some (.slice pa pn pc) := BX1_10.out.cell rfl
    have hS := Ext.refl w10
    go_wp2_with fail
    go_region_held3 (fun w' => Ext w10 w' ∧ w'.cell? ⟨bX1, 0, none⟩ = some (.slice (some fX1) tn tn) ∧ w'.cell? ⟨bX1, 1, none⟩ = some (.int .i64 vol) ∧ w'.cell? ⟨bX1, 2, none⟩ = some (.slice (some gX1) pn pn) ∧ w'.cell? ⟨w.heap.size + 1, 0, none⟩ = some (.slice ta tn tc) ∧ w'.cell? ⟨w.heap.size + 1, 1, none⟩ = some (.int .i64 vol) ∧ w'.cell? ⟨w.heap.size + 1, 2, none⟩ = some (.slice pa pn pc))
      ((repeat' (refine And.intro ?_ ?_)) <;> (first | (exact Ext.cell (w := w10) (by (repeat' (first | (with_reducible exact Ext.refl _) | (with_reducible assumption) | (with_reducible refine Ext.alloc ?_ _) | (with_reducible refine Ext.drewN ?_ _) | (with_reducible refine Ext.drew ?_) | (with_reducible refine Ext.setCell ?_ ?_ _) | (with_reducible exact Nat.le_refl _) | (with_reducible exact Nat.le_succ _) | (with_reducible refine Ext.trans ?_ (by assumption)) | (simp; done) | (simp; omega)))) (by (with_reducible assumption))) | ((repeat' (first | (with_reducible exact Ext.refl _) | (with_reducible assumption) | (with_reducible refine Ext.alloc ?_ _) | (with_reducible refine Ext.drewN ?_ _) | (with_reducible refine Ext.drew ?_) | (with_reducible refine Ext.setCell ?_ ?_ _) | (with_reducible exact Nat.le_refl _) | (with_reducible exact Nat.le_succ _) | (with_reducible refine Ext.trans ?_ (by assumption)) | (simp; done) | (simp; omega))); done)))
      (first
        | (go_at_call 45; with_reducible refine (toReach_any _ _ _ _ _ _ _ ps xs _ HT.out htl2 HP.out hpl2 (HFT.out.ext (HW10.out.trans (by (repeat' (first | (with_reducible exact Ext.refl _) | (with_reducible assumption) | (with_reducible refine Ext.alloc ?_ _) | (with_reducible refine Ext.drewN ?_ _) | (with_reducible refine Ext.drew ?_) | (with_reducible refine Ext.setCell ?_ ?_ _) | (with_reducible exact Nat.le_refl _) | (with_reducible exact Nat.le_succ _) | (with_reducible refine Ext.trans ?_ (by assumption)) | (simp; done) | (simp; omega)))))) (HFP.out.ext (HW10.out.trans (by (repeat' (first | (with_reducible exact Ext.refl _) | (with_reducible assumption) | (with_reducible refine Ext.alloc ?_ _) | (with_reducible refine Ext.drewN ?_ _) | (with_reducible refine Ext.drew ?_) | (with_reducible refine Ext.setCell ?_ ?_ _) | (with_reducible exact Nat.le_refl _) | (with_reducible exact Nat.le_succ _) | (with_reducible refine Ext.trans ?_ (by assumption)) | (simp; done) | (simp; omega))))))).mono ?_; rintro e w' ⟨fE1, gE1, midE1, rfl, hmE1, ho, hoi, hb⟩)
        | (go_at_call 46; with_reducible refine (eqReach_same _ _ _ _ _ _ _ _ _ _ _ ps xs _ HT.out HTL.out HP.out HPL.out (OX1_10.out.pts.ext (by (repeat' (first | (with_reducible exact Ext.refl _) | (with_reducible assumption) | (with_reducible refine Ext.alloc ?_ _) | (with_reducible refine Ext.drewN ?_ _) | (with_reducible refine Ext.drew ?_) | (with_reducible refine Ext.setCell ?_ ?_ _) | (with_reducible exact Nat.le_refl _) | (with_reducible exact Nat.le_succ _) | (with_reducible refine Ext.trans ?_ (by assumption)) | (simp; done) | (simp; omega))))) (OX1_10.out.ints.ext (by (repeat' (first | (with_reducible exact Ext.refl _) | (with_reducible assumption) | (with_reducible refine Ext.alloc ?_ _) | (with_reducible refine Ext.drewN ?_ _) | (with_reducible refine Ext.drew ?_) | (with_reducible refine Ext.setCell ?_ ?_ _) | (with_reducible exact Nat.le_refl _) | (with_reducible exact Nat.le_succ _) | (with_reducible refine Ext.trans ?_ (by assumption)) | (simp; done) | (simp; omega))))) ho.at hoi.at).mono ?_; rintro e w' ⟨rfl, hb'⟩))
    obtain ⟨w11, hwe⟩ : ∃ x, x = w' := ⟨_, rfl⟩
    subst hwe
    have hxx : Ext w10 w11 := by (repeat' (first | (with_reducible exact Ext.refl _) | (with_reducible assumption) | (with_reducible refine Ext.alloc ?_ _) | (with_reducible refine Ext.drewN ?_ _) | (with_reducible refine Ext.drew ?_) | (with_reducible refine Ext.setCell ?_ ?_ _) | (with_reducible exact Nat.le_refl _) | (with_reducible exact Nat.le_succ _) | (with_reducible refine Ext.trans ?_ (by assumption)) | (simp; done) | (simp; omega)))
    clear ho hb hb' hS hoi
    clear cX10 cX11 cX12 cBX10 cBX11 cBX12
    have HW11 := Lib.hid (HW10.out.trans hxx)
    have BX0_11 := Lib.hid (BX0_10.out.ext hxx)
    have BX1_11 := Lib.hid (BX1_10.out.ext hxx)
    have P0_11 := Lib.hid (P0_10.out.ext hxx)
    have Q0_11 := Lib.hid (Q0_10.out.ext hxx)
    have X0_11 := Lib.hid (X0_10.out.ext hxx)
    have X1_11 := Lib.hid (X1_10.out.ext hxx)
    have G0_11 := Lib.hid (G0_10.out.ext hxx)
    have V0_11 := Lib.hid (V0_10.out.ext hxx)
    have OP0_11 := Lib.hid (OP0_10.out.ext hxx)
    have OQ0_11 := Lib.hid (OQ0_10.out.ext hxx)
    have OX0_11 := Lib.hid (OX0_10.out.ext hxx)
    have OX1_11 := Lib.hid (OX1_10.out.ext hxx)
    have OG0_11 := Lib.hid (OG0_10.out.ext hxx)
    have OV0_11 := Lib.hid (OV0_10.out.ext hxx)
    have zz11 := hxx.size
    clear HW10 BX0_10 BX1_10 P0_10 Q0_10 X0_10 X1_10 G0_10 V0_10 OP0_10 OQ0_10 OX0_10 OX1_10 OG0_10 OV0_10 hxx
    have cX00 : w11.cell? ⟨bX0, 0, none⟩ = some (.int .i64 x0) := X0_11.out.cell rfl
    have cX01 : w11.cell? ⟨bX0, 1, none⟩ = some (.int .i64 x1) := X0_11.out.cell rfl
    have cX02 : w11.cell? ⟨bX0, 2, none⟩ = some (.int .i64 x2) := X0_11.out.cell rfl
    have cX03 : w11.cell? ⟨bX0, 3, none⟩ = some (.int .i64 x3) := X0_11.out.cell rfl
    have cX04 : w11.cell? ⟨bX0, 4, none⟩ = some (.int .i64 x4) := X0_11.out.cell rfl
    have cX05 : w11.cell? ⟨bX0, 5, none⟩ = some (.int .i64 x5) := X0_11.out.cell rfl
    have cX06 : w11.cell? ⟨bX0, 6, none⟩ = some (.int .i64 x6) := X0_11.out.cell rfl
    have cX07 : w11.cell? ⟨bX0, 7, none⟩ = some (.int .i64 x7) := X0_11.out.cell rfl
    have cX08 : w11.cell? ⟨bX0, 8, none⟩ = some (.int .i64 x8) := X0_11.out.cell rfl
    have cX09 : w11.cell? ⟨bX0, 9, none⟩ = some (.slice (some aX0) n n) := X0_11.out.cell rfl
    go_wp2_with fail
    with_reducible refine (markLock_is M0 _ _ _ _ _ _ _ _ _ _ _ _ (w1.heap.size) (w2.heap.size) ts 1 _ HN.out hs2 HTS.out hM0b (by omega) (by omega) (by omega) OX0_11.out HM0.out).mono ?_
    rintro e w12 ⟨rfl, ho, hc⟩
    clear cX00 cX01 cX02 cX03 cX04 cX05 cX06 cX07 cX08 cX09
    have HW12 := Lib.hid (hc.ext HW11.out (by omega))
    have BX0_12 := Lib.hid (BX0_11.out.chg hc (by omega))
    have BX1_12 := Lib.hid (BX1_11.out.chg hc (by omega))
    have P0_12 := Lib.hid (P0_11.out.chg hc (by omega))
    have Q0_12 := Lib.hid (Q0_11.out.chg hc (by omega))
    have X0_12 := Lib.hid (X0_11.out.chg hc (by omega))
    have X1_12 := Lib.hid (X1_11.out.chg hc (by omega))
    have G0_12 := Lib.hid (G0_11.out.chg hc (by omega))
    have V0_12 := Lib.hid (V0_11.out.chg hc (by omega))
    have OP0_12 := Lib.hid (OP0_11.out.chg hc (by omega))
    have OQ0_12 := Lib.hid (OQ0_11.out.chg hc (by omega))
    have OX0_12 := Lib.hid ho
    have OX1_12 := Lib.hid (OX1_11.out.chg hc (by omega))
    have OG0_12 := Lib.hid (OG0_11.out.chg hc (by omega))
    have OV0_12 := Lib.hid (OV0_11.out.chg hc (by omega))
    have zz12 := hc.size
    clear HW11 BX0_11 BX1_11 P0_11 Q0_11 X0_11 X1_11 G0_11 V0_11 OP0_11 OQ0_11 OX0_11 OX1_11 OG0_11 OV0_11 hc ho
    have cX10 : w12.cell? ⟨bX1, 0, none⟩ = some (.slice (some fX1) tn tn) := X1_12.out.cell rfl
    have cX11 : w12.cell? ⟨bX1, 1, none⟩ = some (.int .i64 vol) := X1_12.out.cell rfl
    have cX12 : w12.cell? ⟨bX1, 2, none⟩ = some (.slice (some gX1) pn pn) := X1_12.out.cell rfl
    go_wp2_with fail
    with_reducible refine (markReach_any _ _ _ _ _ _ (w3.heap.size) (w4.heap.size) _ ps xs (1 + (M0 : Int)) _ HT.out htl2 HP.out hpl2 (by omega) (by omega) (by omega) OX1_12.out).mono ?_
    rintro e w13 ⟨rfl, ho, hc⟩
    clear cX10 cX11 cX12
    have HW13 := Lib.hid (hc.ext HW12.out (by omega))
    have BX0_13 := Lib.hid (BX0_12.out.chg hc (by omega))
    have BX1_13 := Lib.hid (BX1_12.out.chg hc (by omega))
    have P0_13 := Lib.hid (P0_12.out.chg hc (by omega))
    have Q0_13 := Lib.hid (Q0_12.out.chg hc (by omega))
    have X0_13 := Lib.hid (X0_12.out.chg hc (by omega))
    have X1_13 := Lib.hid (X1_12.out.chg hc (by omega))
    have G0_13 := Lib.hid (G0_12.out.chg hc (by omega))
    have V0_13 := Lib.hid (V0_12.out.chg hc (by omega))
    have OP0_13 := Lib.hid (OP0_12.out.chg hc (by omega))
    have OQ0_13 := Lib.hid (OQ0_12.out.chg hc (by omega))
    have OX0_13 := Lib.hid (OX0_12.out.chg hc (by omega))
    have OX1_13 := Lib.hid ho
    have OG0_13 := Lib.hid (OG0_12.out.chg hc (by omega))
    have OV0_13 := Lib.hid (OV0_12.out.chg hc (by omega))
    have zz13 := hc.size
    clear HW12 BX0_12 BX1_12 P0_12 Q0_12 X0_12 X1_12 G0_12 V0_12 OP0_12 OQ0_12 OX0_12 OX1_12 OG0_12 OV0_12 hc ho
    have hd2 : decide (1 + (M0 : Int) + 2 * (tn : Int) + (pn : Int) < 0) = false := by simp; omega
    have cG00 : w13.cell? ⟨bG0, 0, none⟩ = some (.int .i64 x0) := G0_13.out.cell rfl
    have cG01 : w13.cell? ⟨bG0, 1, none⟩ = some (.int .i64 x1) := G0_13.out.cell rfl
    have cG02 : w13.cell? ⟨bG0, 2, none⟩ = some (.int .i64 x2) := G0_13.out.cell rfl
    have cG03 : w13.cell? ⟨bG0, 3, none⟩ = some (.int .i64 x3) := G0_13.out.cell rfl
    have cG04 : w13.cell? ⟨bG0, 4, none⟩ = some (.int .i64 x4) := G0_13.out.cell rfl
    have cG05 : w13.cell? ⟨bG0, 5, none⟩ = some (.int .i64 x5) := G0_13.out.cell rfl
    have cG06 : w13.cell? ⟨bG0, 6, none⟩ = some (.int .i64 x6) := G0_13.out.cell rfl
    have cG07 : w13.cell? ⟨bG0, 7, none⟩ = some (.int .i64 x7) := G0_13.out.cell rfl
    have cG08 : w13.cell? ⟨bG0, 8, none⟩ = some (.int .i64 x8) := G0_13.out.cell rfl
    have cG09 : w13.cell? ⟨bG0, 9, none⟩ = some (.slice pG n1 qG) := G0_13.out.cell rfl
    have cP00 : w13.cell? ⟨bP0, 0, none⟩ = some (.int .i64 x0) := P0_13.out.cell rfl
    have cP01 : w13.cell? ⟨bP0, 1, none⟩ = some (.int .i64 x1) := P0_13.out.cell rfl
    have cP02 : w13.cell? ⟨bP0, 2, none⟩ = some (.int .i64 x2) := P0_13.out.cell rfl
    have cP03 : w13.cell? ⟨bP0, 3, none⟩ = some (.int .i64 x3) := P0_13.out.cell rfl
    have cP04 : w13.cell? ⟨bP0, 4, none⟩ = some (.int .i64 x4) := P0_13.out.cell rfl
    have cP05 : w13.cell? ⟨bP0, 5, none⟩ = some (.int .i64 x5) := P0_13.out.cell rfl
    have cP06 : w13.cell? ⟨bP0, 6, none⟩ = some (.int .i64 x6) := P0_13.out.cell rfl
    have cP07 : w13.cell? ⟨bP0, 7, none⟩ = some (.int .i64 x7) := P0_13.out.cell rfl
    have cP08 : w13.cell? ⟨bP0, 8, none⟩ = some (.int .i64 x8) := P0_13.out.cell rfl
    have cP09 : w13.cell? ⟨bP0, 9, none⟩ = some (.slice pP n1 qP) := P0_13.out.cell rfl
    go_wp2_with fail
    with_reducible refine (eqLock_same _ _ _ _ _ _ _ _ _ _ _ _ _ _ ts1 _ HN1.out HS1.out OG0_13.out.trains OP0_13.out.trains).mono ?_
    rintro e w14 ⟨rfl, hb⟩
    clear cG00 cG01 cG02 cG03 cG04 cG05 cG06 cG07 cG08 cG09 cP00 cP01 cP02 cP03 cP04 cP05 cP06 cP07 cP08 cP09
    have HW14 := Lib.hid (HW13.out.trans hb)
    have BX0_14 := Lib.hid (BX0_13.out.ext hb)
    have BX1_14 := Lib.hid (BX1_13.out.ext hb)
    have P0_14 := Lib.hid (P0_13.out.ext hb)
    have Q0_14 := Lib.hid (Q0_13.out.ext hb)
    have X0_14 := Lib.hid (X0_13.out.ext hb)
    have X1_14 := Lib.hid (X1_13.out.ext hb)
    have G0_14 := Lib.hid (G0_13.out.ext hb)
    have V0_14 := Lib.hid (V0_13.out.ext hb)
    have OP0_14 := Lib.hid (OP0_13.out.ext hb)
    have OQ0_14 := Lib.hid (OQ0_13.out.ext hb)
    have OX0_14 := Lib.hid (OX0_13.out.ext hb)
    have OX1_14 := Lib.hid (OX1_13.out.ext hb)
    have OG0_14 := Lib.hid (OG0_13.out.ext hb)
    have OV0_14 := Lib.hid (OV0_13.out.ext hb)
    have zz14 := hb.size
    clear HW13 BX0_13 BX1_13 P0_13 Q0_13 X0_13 X1_13 G0_13 V0_13 OP0_13 OQ0_13 OX0_13 OX1_13 OG0_13 OV0_13 hb
    have cV00 : w14.cell? ⟨bV0, 0, none⟩ = some (.bool ut) := V0_14.out.cell rfl
    have cV01 : w14.cell? ⟨bV0, 1, none⟩ = some (.slice p1 m1 q1) := V0_14.out.cell rfl
    have cQ00 : w14.cell? ⟨bQ0, 0, none⟩ = some (.bool ut) := Q0_14.out.cell rfl
    have cQ01 : w14.cell? ⟨bQ0, 1, none⟩ = some (.slice fP m1 cP) := Q0_14.out.cell rfl
    go_wp2_with fail
    with_reducible refine (eqTrain_same _ _ _ _ _ _ rows1 _ HMR.out HML.out OV0_14.out.rows OQ0_14.out.rows).mono ?_
    rintro e w15 ⟨rfl, hb⟩
    clear cV00 cV01 cQ00 cQ01
    have HW15 := Lib.hid (HW14.out.trans hb)
    have BX0_15 := Lib.hid (BX0_14.out.ext hb)
    have BX1_15 := Lib.hid (BX1_14.out.ext hb)
    have P0_15 := Lib.hid (P0_14.out.ext hb)
    have Q0_15 := Lib.hid (Q0_14.out.ext hb)
    have X0_15 := Lib.hid (X0_14.out.ext hb)
    have X1_15 := Lib.hid (X1_14.out.ext hb)
    have G0_15 := Lib.hid (G0_14.out.ext hb)
    have V0_15 := Lib.hid (V0_14.out.ext hb)
    have OP0_15 := Lib.hid (OP0_14.out.ext hb)
    have OQ0_15 := Lib.hid (OQ0_14.out.ext hb)
    have OX0_15 := Lib.hid (OX0_14.out.ext hb)
    have OX1_15 := Lib.hid (OX1_14.out.ext hb)
    have OG0_15 := Lib.hid (OG0_14.out.ext hb)
    have OV0_15 := Lib.hid (OV0_14.out.ext hb)
    have zz15 := hb.size
    clear HW14 BX0_14 BX1_14 P0_14 Q0_14 X0_14 X1_14 G0_14 V0_14 OP0_14 OQ0_14 OX0_14 OX1_14 OG0_14 OV0_14 hb
    have cG00 : w15.cell? ⟨bG0, 0, none⟩ = some (.int .i64 x0) := G0_15.out.cell rfl
    have cG01 : w15.cell? ⟨bG0, 1, none⟩ = some (.int .i64 x1) := G0_15.out.cell rfl
    have cG02 : w15.cell? ⟨bG0, 2, none⟩ = some (.int .i64 x2) := G0_15.out.cell rfl
    have cG03 : w15.cell? ⟨bG0, 3, none⟩ = some (.int .i64 x3) := G0_15.out.cell rfl
    have cG04 : w15.cell? ⟨bG0, 4, none⟩ = some (.int .i64 x4) := G0_15.out.cell rfl
    have cG05 : w15.cell? ⟨bG0, 5, none⟩ = some (.int .i64 x5) := G0_15.out.cell rfl
    have cG06 : w15.cell? ⟨bG0, 6, none⟩ = some (.int .i64 x6) := G0_15.out.cell rfl
    have cG07 : w15.cell? ⟨bG0, 7, none⟩ = some (.int .i64 x7) := G0_15.out.cell rfl
    have cG08 : w15.cell? ⟨bG0, 8, none⟩ = some (.int .i64 x8) := G0_15.out.cell rfl
    have cG09 : w15.cell? ⟨bG0, 9, none⟩ = some (.slice pG n1 qG) := G0_15.out.cell rfl
    go_wp2_with fail
    with_reducible refine (markLock_is M1 _ _ _ _ _ _ _ _ _ _ _ _ (w5.heap.size) (md) ts1 1 _ HN1.out hs1b HTS1.out hM1b (by omega) (by omega) (by omega) OG0_15.out HM1.out).mono ?_
    rintro e w16 ⟨rfl, ho, hc⟩
    clear cG00 cG01 cG02 cG03 cG04 cG05 cG06 cG07 cG08 cG09
    have HW16 := Lib.hid (hc.ext HW15.out (by omega))
    have BX0_16 := Lib.hid (BX0_15.out.chg hc (by omega))
    have BX1_16 := Lib.hid (BX1_15.out.chg hc (by omega))
    have P0_16 := Lib.hid (P0_15.out.chg hc (by omega))
    have Q0_16 := Lib.hid (Q0_15.out.chg hc (by omega))
    have X0_16 := Lib.hid (X0_15.out.chg hc (by omega))
    have X1_16 := Lib.hid (X1_15.out.chg hc (by omega))
    have G0_16 := Lib.hid (G0_15.out.chg hc (by omega))
    have V0_16 := Lib.hid (V0_15.out.chg hc (by omega))
    have OP0_16 := Lib.hid (OP0_15.out.chg hc (by omega))
    have OQ0_16 := Lib.hid (OQ0_15.out.chg hc (by omega))
    have OX0_16 := Lib.hid (OX0_15.out.chg hc (by omega))
    have OX1_16 := Lib.hid (OX1_15.out.chg hc (by omega))
    have OG0_16 := Lib.hid ho
    have OV0_16 := Lib.hid (OV0_15.out.chg hc (by omega))
    have zz16 := hc.size
    clear HW15 BX0_15 BX1_15 P0_15 Q0_15 X0_15 X1_15 G0_15 V0_15 OP0_15 OQ0_15 OX0_15 OX1_15 OG0_15 OV0_15 hc ho
    have cV00 : w16.cell? ⟨bV0, 0, none⟩ = some (.bool ut) := V0_16.out.cell rfl
    have cV01 : w16.cell? ⟨bV0, 1, none⟩ = some (.slice p1 m1 q1) := V0_16.out.cell rfl
    go_wp2_with fail
    with_reducible refine (markTrain_is T1 _ _ _ _ (md) (w6.heap.size) rows1 (1 + (M1 : Int)) _ HMR.out hm1b HRR1.out hT1b (by omega) (by omega) (by omega) OV0_16.out HT1.out).mono ?_
    rintro e w17 ⟨rfl, ho, hc⟩
    clear cV00 cV01
    have HW17 := Lib.hid (hc.ext HW16.out (by omega))
    have BX0_17 := Lib.hid (BX0_16.out.chg hc (by omega))
    have BX1_17 := Lib.hid (BX1_16.out.chg hc (by omega))
    have P0_17 := Lib.hid (P0_16.out.chg hc (by omega))
    have Q0_17 := Lib.hid (Q0_16.out.chg hc (by omega))
    have X0_17 := Lib.hid (X0_16.out.chg hc (by omega))
    have X1_17 := Lib.hid (X1_16.out.chg hc (by omega))
    have G0_17 := Lib.hid (G0_16.out.chg hc (by omega))
    have V0_17 := Lib.hid (V0_16.out.chg hc (by omega))
    have OP0_17 := Lib.hid (OP0_16.out.chg hc (by omega))
    have OQ0_17 := Lib.hid (OQ0_16.out.chg hc (by omega))
    have OX0_17 := Lib.hid (OX0_16.out.chg hc (by omega))
    have OX1_17 := Lib.hid (OX1_16.out.chg hc (by omega))
    have OG0_17 := Lib.hid (OG0_16.out.chg hc (by omega))
    have OV0_17 := Lib.hid ho
    have zz17 := hc.size
    clear HW16 BX0_16 BX1_16 P0_16 Q0_16 X0_16 X1_16 G0_16 V0_16 OP0_16 OQ0_16 OX0_16 OX1_16 OG0_16 OV0_16 hc ho
    have cG00 : w17.cell? ⟨bG0, 0, none⟩ = some (.int .i64 x0) := G0_17.out.cell rfl
    have cG01 : w17.cell? ⟨bG0, 1, none⟩ = some (.int .i64 x1) := G0_17.out.cell rfl
    have cG02 : w17.cell? ⟨bG0, 2, none⟩ = some (.int .i64 x2) := G0_17.out.cell rfl
    have cG03 : w17.cell? ⟨bG0, 3, none⟩ = some (.int .i64 x3) := G0_17.out.cell rfl
    have cG04 : w17.cell? ⟨bG0, 4, none⟩ = some (.int .i64 x4) := G0_17.out.cell rfl
    have cG05 : w17.cell? ⟨bG0, 5, none⟩ = some (.int .i64 x5) := G0_17.out.cell rfl
    have cG06 : w17.cell? ⟨bG0, 6, none⟩ = some (.int .i64 x6) := G0_17.out.cell rfl
    have cG07 : w17.cell? ⟨bG0, 7, none⟩ = some (.int .i64 x7) := G0_17.out.cell rfl
    have cG08 : w17.cell? ⟨bG0, 8, none⟩ = some (.int .i64 x8) := G0_17.out.cell rfl
    have cG09 : w17.cell? ⟨bG0, 9, none⟩ = some (.slice pG n1 qG) := G0_17.out.cell rfl
    go_wp2_with fail
    with_reducible refine (heldLock_is M1 _ _ _ _ _ _ _ _ _ _ _ _ ts1 1 _ HN1.out hs1b HTS1.out hM1b (by decide) (by decide) OG0_17.out.trains HM1.out).mono ?_
    rintro e w18 ⟨rfl, hb⟩
    clear cG00 cG01 cG02 cG03 cG04 cG05 cG06 cG07 cG08 cG09
    have HW18 := Lib.hid (HW17.out.trans hb)
    have BX0_18 := Lib.hid (BX0_17.out.ext hb)
    have BX1_18 := Lib.hid (BX1_17.out.ext hb)
    have P0_18 := Lib.hid (P0_17.out.ext hb)
    have Q0_18 := Lib.hid (Q0_17.out.ext hb)
    have X0_18 := Lib.hid (X0_17.out.ext hb)
    have X1_18 := Lib.hid (X1_17.out.ext hb)
    have G0_18 := Lib.hid (G0_17.out.ext hb)
    have V0_18 := Lib.hid (V0_17.out.ext hb)
    have OP0_18 := Lib.hid (OP0_17.out.ext hb)
    have OQ0_18 := Lib.hid (OQ0_17.out.ext hb)
    have OX0_18 := Lib.hid (OX0_17.out.ext hb)
    have OX1_18 := Lib.hid (OX1_17.out.ext hb)
    have OG0_18 := Lib.hid (OG0_17.out.ext hb)
    have OV0_18 := Lib.hid (OV0_17.out.ext hb)
    have zz18 := hb.size
    clear HW17 BX0_17 BX1_17 P0_17 Q0_17 X0_17 X1_17 G0_17 V0_17 OP0_17 OQ0_17 OX0_17 OX1_17 OG0_17 OV0_17 hb
    have cV00 : w18.cell? ⟨bV0, 0, none⟩ = some (.bool ut) := V0_18.out.cell rfl
    have cV01 : w18.cell? ⟨bV0, 1, none⟩ = some (.slice p1 m1 q1) := V0_18.out.cell rfl
    go_wp2_with fail
    with_reducible refine (heldTrain_is T1 _ _ _ _ rows1 (1 + (M1 : Int)) _ HMR.out hm1b HRR1.out hT1b (by omega) (by omega) OV0_18.out.rows HT1.out).mono ?_
    rintro e w19 ⟨rfl, hb⟩
    clear cV00 cV01
    have HW19 := Lib.hid (HW18.out.trans hb)
    have BX0_19 := Lib.hid (BX0_18.out.ext hb)
    have BX1_19 := Lib.hid (BX1_18.out.ext hb)
    have P0_19 := Lib.hid (P0_18.out.ext hb)
    have Q0_19 := Lib.hid (Q0_18.out.ext hb)
    have X0_19 := Lib.hid (X0_18.out.ext hb)
    have X1_19 := Lib.hid (X1_18.out.ext hb)
    have G0_19 := Lib.hid (G0_18.out.ext hb)
    have V0_19 := Lib.hid (V0_18.out.ext hb)
    have OP0_19 := Lib.hid (OP0_18.out.ext hb)
    have OQ0_19 := Lib.hid (OQ0_18.out.ext hb)
    have OX0_19 := Lib.hid (OX0_18.out.ext hb)
    have OX1_19 := Lib.hid (OX1_18.out.ext hb)
    have OG0_19 := Lib.hid (OG0_18.out.ext hb)
    have OV0_19 := Lib.hid (OV0_18.out.ext hb)
    have zz19 := hb.size
    clear HW18 BX0_18 BX1_18 P0_18 Q0_18 X0_18 X1_18 G0_18 V0_18 OP0_18 OQ0_18 OX0_18 OX1_18 OG0_18 OV0_18 hb
    have cBX00 : w19.cell? ⟨w.heap.size, 0, none⟩ = some (.int .i64 x0) := BX0_19.out.cell rfl
    have cBX01 : w19.cell? ⟨w.heap.size, 1, none⟩ = some (.int .i64 x1) := BX0_19.out.cell rfl
    have cBX02 : w19.cell? ⟨w.heap.size, 2, none⟩ = some (.int .i64 x2) := BX0_19.out.cell rfl
    have cBX03 : w19.cell? ⟨w.heap.size, 3, none⟩ = some (.int .i64 x3) := BX0_19.out.cell rfl
    have cBX04 : w19.cell? ⟨w.heap.size, 4, none⟩ = some (.int .i64 x4) := BX0_19.out.cell rfl
    have cBX05 : w19.cell? ⟨w.heap.size, 5, none⟩ = some (.int .i64 x5) := BX0_19.out.cell rfl
    have cBX06 : w19.cell? ⟨w.heap.size, 6, none⟩ = some (.int .i64 x6) := BX0_19.out.cell rfl
    have cBX07 : w19.cell? ⟨w.heap.size, 7, none⟩ = some (.int .i64 x7) := BX0_19.out.cell rfl
    have cBX08 : w19.cell? ⟨w.heap.size, 8, none⟩ = some (.int .i64 x8) := BX0_19.out.cell rfl
    have cBX09 : w19.cell? ⟨w.heap.size, 9, none⟩ = some (.slice a n c) := BX0_19.out.cell rfl
    have cBX10 : w19.cell? ⟨w.heap.size + 1, 0, none⟩ = some (.slice ta tn tc) := BX1_19.out.cell rfl
    have cBX11 : w19.cell? ⟨w.heap.size + 1, 1, none⟩ = some (.int .i64 vol) := BX1_19.out.cell rfl
    have cBX12 : w19.cell? ⟨w.heap.size + 1, 2, none⟩ = some (.slice pa pn pc) := BX1_19.out.cell rfl
    go_wp2_with fail
    clear cBX00 cBX01 cBX02 cBX03 cBX04 cBX05 cBX06 cBX07 cBX08 cBX09
    clear cBX10 cBX11 cBX12
    have HSK := Lib.hid (fun (w' : World) (h : Ext w19 w') => (⟨(BX0_19.out.ext h).cell rfl, (BX0_19.out.ext h).cell rfl, (BX0_19.out.ext h).cell rfl, (BX0_19.out.ext h).cell rfl, (BX0_19.out.ext h).cell rfl, (BX0_19.out.ext h).cell rfl, (BX0_19.out.ext h).cell rfl, (BX0_19.out.ext h).cell rfl, (BX0_19.out.ext h).cell rfl, (BX0_19.out.ext h).cell rfl, (BX1_19.out.ext h).cell rfl, (BX1_19.out.ext h).cell rfl, (BX1_19.out.ext h).cell rfl⟩ : w'.cell? ⟨w.heap.size, 0, none⟩ = some (.int .i64 x0) ∧ w'.cell? ⟨w.heap.size, 1, none⟩ = some (.int .i64 x1) ∧ w'.cell? ⟨w.heap.size, 2, none⟩ = some (.int .i64 x2) ∧ w'.cell? ⟨w.heap.size, 3, none⟩ = some (.int .i64 x3) ∧ w'.cell? ⟨w.heap.size, 4, none⟩ = some (.int .i64 x4) ∧ w'.cell? ⟨w.heap.size, 5, none⟩ = some (.int .i64 x5) ∧ w'.cell? ⟨w.heap.size, 6, none⟩ = some (.int .i64 x6) ∧ w'.cell? ⟨w.heap.size, 7, none⟩ = some (.int .i64 x7) ∧ w'.cell? ⟨w.heap.size, 8, none⟩ = some (.int .i64 x8) ∧ w'.cell? ⟨w.heap.size, 9, none⟩ = some (.slice a n c) ∧ w'.cell? ⟨w.heap.size + 1, 0, none⟩ = some (.slice ta tn tc) ∧ w'.cell? ⟨w.heap.size + 1, 1, none⟩ = some (.int .i64 vol) ∧ w'.cell? ⟨w.heap.size + 1, 2, none⟩ = some (.slice pa pn pc)))
    refine wp_region_held_drew (S := (fun w' => w'.cell? ⟨w.heap.size, 0, none⟩ = some (.int .i64 x0) ∧ w'.cell? ⟨w.heap.size, 1, none⟩ = some (.int .i64 x1) ∧ w'.cell? ⟨w.heap.size, 2, none⟩ = some (.int .i64 x2) ∧ w'.cell? ⟨w.heap.size, 3, none⟩ = some (.int .i64 x3) ∧ w'.cell? ⟨w.heap.size, 4, none⟩ = some (.int .i64 x4) ∧ w'.cell? ⟨w.heap.size, 5, none⟩ = some (.int .i64 x5) ∧ w'.cell? ⟨w.heap.size, 6, none⟩ = some (.int .i64 x6) ∧ w'.cell? ⟨w.heap.size, 7, none⟩ = some (.int .i64 x7) ∧ w'.cell? ⟨w.heap.size, 8, none⟩ = some (.int .i64 x8) ∧ w'.cell? ⟨w.heap.size, 9, none⟩ = some (.slice a n c) ∧ w'.cell? ⟨w.heap.size + 1, 0, none⟩ = some (.slice ta tn tc) ∧ w'.cell? ⟨w.heap.size + 1, 1, none⟩ = some (.int .i64 vol) ∧ w'.cell? ⟨w.heap.size + 1, 2, none⟩ = some (.slice pa pn pc))) (by kernel_rfl) ?_ (fun hH0 => ?_)
    · exact HSK.out _ (Ext.refl _).drew
    apply cut_any2 (G := fun b1 b2 p q p1 q1 p2 q2 w' => Ext w19 w' ∧ (w19.heap.size ≤ b1 ∧ b1 < w'.heap.size) ∧ (w19.heap.size ≤ b2 ∧ b2 < w'.heap.size) ∧ b1 ≠ b2 ∧ RowAt w' b1 26 #[.int .i64 0, .int .i64 0, .int .i64 0, .int .i64 0, .int .i64 0, .int .i64 0, .int .i64 0, .int .i64 0, .int .i64 0, .slice none 0 0] ∧ RowAt w' b2 33 #[.bool false, .slice none 0 0] ∧ ∃ lo1 hi1 lo2 hi2, ((w19.heap.size ≤ lo1 ∧ lo1 ≤ hi1) ∧ (w19.heap.size ≤ lo2 ∧ lo2 ≤ hi2) ∧ hi1 ≤ w'.heap.size ∧ hi2 ≤ w'.heap.size) ∧ ((b1 < lo1 ∨ hi1 ≤ b1) ∧ (b1 < lo2 ∨ hi2 ≤ b1) ∧ (b2 < lo1 ∨ hi1 ≤ b2) ∧ (b2 < lo2 ∨ hi2 ≤ b2)) ∧ OwnTrains w' lo1 hi1 p ts1 ∧ OwnRows w' lo2 hi2 p1 rows1)
    case h =>
      intro hcut
      obtain ⟨yo, hyd⟩ : ∃ y : Option Addr, y = none := ⟨_, rfl⟩; clear hyd; obtain ⟨yn, hyd⟩ : ∃ y : Nat, y = 0 := ⟨_, rfl⟩; clear hyd
      obtain ⟨yd3, hyd⟩ : ∃ y : Addr, y = ⟨0, 0, none⟩ := ⟨_, rfl⟩; clear hyd
      obtain ⟨yd4, hyd⟩ : ∃ y : Addr, y = ⟨0, 0, none⟩ := ⟨_, rfl⟩; clear hyd
      obtain ⟨u0, hu⟩ : ∃ x, x = w19.drew := ⟨_, rfl⟩
      have x0 : Ext w19 u0 := (by rw [hu]; exact (Ext.refl _).drew)
      (try rw [← hu] at hH0)
      (try rw [← hu])
      have z0 : w19.heap.size ≤ u0.heap.size := x0.size
      clear hu
      refine take_l 0 (v := ?_) rfl (by kernel_rfl) (by kernel_rfl) (by kernel_rfl) (fun _ _ _ h => h) (by rfl) ?_ (by assumption) ?_
      rotate_left
      · (intro w hSw; (try dsimp only at hSw); go_simp; (try with_reducible rfl))
      (try simp only [Act.put, List.setIfInBounds_toArray, List.set_cons_zero, List.set_cons_succ])
      refine take_l 2 (v := ?_) rfl (by kernel_rfl) (by kernel_rfl) (by kernel_rfl) (fun _ _ _ h => h) (by rfl) ?_ (by assumption) ?_
      rotate_left
      · (intro w hSw; (try dsimp only at hSw); go_simp; (try with_reducible rfl))
      (try simp only [Act.put, List.setIfInBounds_toArray, List.set_cons_zero, List.set_cons_succ])
      refine wpAnyH_ready (rs := [1, 9, 10]) (by kernel_rfl) (by simp) ?_
      refine cons_l (i := 1) rfl (fun K hK => ?_) ?_
      go_simp; (go_at_call 34; with_reducible refine (toLock_any _ _ _ _ _ _ _ _ _ _ _ _ ts _ HN.out hs2 HTS.out (HF.out.ext (HW19.out.trans x0))).mono ?_)
      rintro e u1 ⟨aZ0, rfl, ho, g1⟩
      have x1 := x0.trans g1; have z1 := g1.size
      have OT0 := Lib.hid (ho)
      refine hK.out _ _ ?_ (fun hH1 => ?_)
      · (try dsimp only)
        exact HSK.out _ x1
      clear hK K hH0
      (try simp only [Act.put, List.setIfInBounds_toArray, List.set_cons_zero, List.set_cons_succ])
      refine wpAnyH_ready (rs := [3, 9, 10]) (by kernel_rfl) (by simp) ?_
      refine cons_l (i := 3) rfl (fun K hK => ?_) ?_
      go_simp; (go_at_call 45; with_reducible refine (toReach_any _ _ _ _ _ _ _ ps xs _ HT.out htl2 HP.out hpl2 (HFT.out.ext (HW19.out.trans x1)) (HFP.out.ext (HW19.out.trans x1))).mono ?_)
      rintro e u2 ⟨fZ1, gZ1, midZ1, rfl, hmZ1, ho, hoi, g2⟩
      have x2 := x1.trans g2; have z2 := g2.size
      have OR1 := Lib.hid (OwnReach.mk hmZ1 ho hoi)
      refine hK.out _ _ ?_ (fun hH2 => ?_)
      · (try dsimp only)
        exact HSK.out _ x2
      clear hK K hH1
      (try simp only [Act.put, List.setIfInBounds_toArray, List.set_cons_zero, List.set_cons_succ])
      refine wpAnyH_ready (rs := [4, 9, 10]) (by kernel_rfl) (by simp) ?_
      refine cons_l (i := 4) rfl (fun K hK => ?_) ?_
      go_simp; (go_at_call 30; with_reducible refine (implLeave_any ts1 n1 ut rows1 m1 ok _ _ _ _ _ _ _ _ _ _ _ _ ts _ _ _ _ _ _ _ ps xs _ HN.out hs2 HTS.out (OT0.out.ext (g2)).trains HT.out htl2 HP.out hpl2 OR1.out.pts OR1.out.ints HVOL.out (Nat.le_refl _) (by omega) HN1.out HMR.out HRES.out).mono ?_)
      rintro e u3 ⟨p, q, p1, q1, rfl, hlr, g3⟩
      have x3 := x2.trans g3; have z3 := g3.size
      obtain ⟨md, hmd, hq1, hq2⟩ := hlr
      refine hK.out _ _ ?_ (fun hH3 => ?_)
      · (try dsimp only)
        exact HSK.out _ x3
      clear hK K hH2
      (try simp only [Act.put, List.setIfInBounds_toArray, List.set_cons_zero, List.set_cons_succ])
      refine take_l 5 (v := ?_) rfl (by kernel_rfl) (by kernel_rfl) (by kernel_rfl) (fun _ _ _ h => h) (by rfl) ?_ (by assumption) ?_
      rotate_left
      · (intro w hSw; (try dsimp only at hSw); go_simp; (try with_reducible rfl))
      (try simp only [Act.put, List.setIfInBounds_toArray, List.set_cons_zero, List.set_cons_succ])
      refine take_l 6 (v := ?_) rfl (by kernel_rfl) (by kernel_rfl) (by kernel_rfl) (fun _ _ _ h => h) (by rfl) ?_ (by assumption) ?_
      rotate_left
      · (intro w hSw; (try dsimp only at hSw); go_simp; (try with_reducible rfl))
      (try simp only [Act.put, List.setIfInBounds_toArray, List.set_cons_zero, List.set_cons_succ])
      refine take_l 7 (v := ?_) rfl (by kernel_rfl) (by kernel_rfl) (by kernel_rfl) (fun _ _ _ h => h) (by rfl) ?_ (by assumption) ?_
      rotate_left
      · (intro w hSw; (try dsimp only at hSw); go_simp; (try with_reducible rfl))
      (try simp only [Act.put, List.setIfInBounds_toArray, List.set_cons_zero, List.set_cons_succ])
      refine take_l 8 (v := ?_) rfl (by kernel_rfl) (by kernel_rfl) (by kernel_rfl) (fun _ _ _ h => h) (by rfl) ?_ (by assumption) ?_
      rotate_left
      · (intro w hSw; (try dsimp only at hSw); go_simp; (try with_reducible rfl))
      (try simp only [Act.put, List.setIfInBounds_toArray, List.set_cons_zero, List.set_cons_succ])
      refine wpAnyH_ready (rs := [9, 10]) (by kernel_rfl) (by simp) ?_
      refine cons_l (i := 9) rfl (fun K hK => ?_) ?_
      go_simp; obtain ⟨bH0, u4, hu, hb, g4, kH0, mH0, nH0, lH0⟩ := alloc_named u3 26 #[.int .i64 0, .int .i64 0, .int .i64 0, .int .i64 0, .int .i64 0, .int .i64 0, .int .i64 0, .int .i64 0, .int .i64 0, .slice none 0 0]; rw [← hu]; (try rw [← hb]); clear hu hb
      have x4 := x3.trans g4; have z4 := g4.size; have KH0 := Lib.hid kH0; clear kH0
      refine hK.out _ _ ?_ (fun hH4 => ?_)
      · (try dsimp only)
        exact HSK.out _ x4
      clear hK K hH3
      (try simp only [Act.put, List.setIfInBounds_toArray, List.set_cons_zero, List.set_cons_succ])
      refine wpAnyH_ready (rs := [10]) (by kernel_rfl) (by simp) ?_
      refine cons_l (i := 10) rfl (fun K hK => ?_) ?_
      go_simp; obtain ⟨bJ0, u5, hu, hb, g5, kJ0, mJ0, nJ0, lJ0⟩ := alloc_named u4 33 #[.bool false, .slice none 0 0]; rw [← hu]; (try rw [← hb]); clear hu hb
      have x5 := x4.trans g5; have z5 := g5.size; have KJ0 := Lib.hid kJ0; clear kJ0
      refine hK.out _ _ ?_ (fun hH5 => ?_)
      · (try dsimp only)
        exact HSK.out _ x5
      clear hK K hH4
      (try simp only [Act.put, List.setIfInBounds_toArray, List.set_cons_zero, List.set_cons_succ])
      exact hcut _ _ ⟨bH0, bJ0, p, q, p1, q1, yo, yn, aZ0, fZ1, gZ1, yd3, yd4, ⟨x5, ⟨by omega, by omega⟩, ⟨by omega, by omega⟩, by omega, (KH0.out.ext (g5)), KJ0.out, u2.heap.size, md, md, u3.heap.size, by omega, by omega, (hq1.ext (g4.trans (g5))), (hq2.ext (g4.trans (g5)))⟩, rfl⟩
      exact AllReadyH.nil
      refine cons_l (i := 10) rfl (fun K hK => ?_) ?_
      go_simp; obtain ⟨bJ0, u4, hu, hb, g4, kJ0, mJ0, nJ0, lJ0⟩ := alloc_named u3 33 #[.bool false, .slice none 0 0]; rw [← hu]; (try rw [← hb]); clear hu hb
      have x4 := x3.trans g4; have z4 := g4.size; have KJ0 := Lib.hid kJ0; clear kJ0
      refine hK.out _ _ ?_ (fun hH4 => ?_)
      · (try dsimp only)
        exact HSK.out _ x4
      clear hK K hH3
      (try simp only [Act.put, List.setIfInBounds_toArray, List.set_cons_zero, List.set_cons_succ])
      refine wpAnyH_ready (rs := [9]) (by kernel_rfl) (by simp) ?_
      refine cons_l (i := 9) rfl (fun K hK => ?_) ?_
      go_simp; obtain ⟨bH0, u5, hu, hb, g5, kH0, mH0, nH0, lH0⟩ := alloc_named u4 26 #[.int .i64 0, .int .i64 0, .int .i64 0, .int .i64 0, .int .i64 0, .int .i64 0, .int .i64 0, .int .i64 0, .int .i64 0, .slice none 0 0]; rw [← hu]; (try rw [← hb]); clear hu hb
      have x5 := x4.trans g5; have z5 := g5.size; have KH0 := Lib.hid kH0; clear kH0
      refine hK.out _ _ ?_ (fun hH5 => ?_)
      · (try dsimp only)
        exact HSK.out _ x5
      clear hK K hH4
      (try simp only [Act.put, List.setIfInBounds_toArray, List.set_cons_zero, List.set_cons_succ])
      exact hcut _ _ ⟨bH0, bJ0, p, q, p1, q1, yo, yn, aZ0, fZ1, gZ1, yd3, yd4, ⟨x5, ⟨by omega, by omega⟩, ⟨by omega, by omega⟩, by omega, KH0.out, (KJ0.out.ext (g5)), u2.heap.size, md, md, u3.heap.size, by omega, by omega, (hq1.ext (g4.trans (g5))), (hq2.ext (g4.trans (g5)))⟩, rfl⟩
      exact AllReadyH.nil
      exact AllReadyH.nil
      refine cons_l (i := 9) rfl (fun K hK => ?_) ?_
      go_simp; obtain ⟨bH0, u3, hu, hb, g3, kH0, mH0, nH0, lH0⟩ := alloc_named u2 26 #[.int .i64 0, .int .i64 0, .int .i64 0, .int .i64 0, .int .i64 0, .int .i64 0, .int .i64 0, .int .i64 0, .int .i64 0, .slice none 0 0]; rw [← hu]; (try rw [← hb]); clear hu hb
      have x3 := x2.trans g3; have z3 := g3.size; have KH0 := Lib.hid kH0; clear kH0
      refine hK.out _ _ ?_ (fun hH3 => ?_)
      · (try dsimp only)
        exact HSK.out _ x3
      clear hK K hH2
      (try simp only [Act.put, List.setIfInBounds_toArray, List.set_cons_zero, List.set_cons_succ])
      refine wpAnyH_ready (rs := [4, 10]) (by kernel_rfl) (by simp) ?_
      refine cons_l (i := 4) rfl (fun K hK => ?_) ?_
      go_simp; (go_at_call 30; with_reducible refine (implLeave_any ts1 n1 ut rows1 m1 ok _ _ _ _ _ _ _ _ _ _ _ _ ts _ _ _ _ _ _ _ ps xs _ HN.out hs2 HTS.out (OT0.out.ext (g2.trans (g3))).trains HT.out htl2 HP.out hpl2 (OR1.out.ext (g3)).pts (OR1.out.ext (g3)).ints HVOL.out (Nat.le_refl _) (by omega) HN1.out HMR.out HRES.out).mono ?_)
      rintro e u4 ⟨p, q, p1, q1, rfl, hlr, g4⟩
      have x4 := x3.trans g4; have z4 := g4.size
      obtain ⟨md, hmd, hq1, hq2⟩ := hlr
      refine hK.out _ _ ?_ (fun hH4 => ?_)
      · (try dsimp only)
        exact HSK.out _ x4
      clear hK K hH3
      (try simp only [Act.put, List.setIfInBounds_toArray, List.set_cons_zero, List.set_cons_succ])
      refine take_l 5 (v := ?_) rfl (by kernel_rfl) (by kernel_rfl) (by kernel_rfl) (fun _ _ _ h => h) (by rfl) ?_ (by assumption) ?_
      rotate_left
      · (intro w hSw; (try dsimp only at hSw); go_simp; (try with_reducible rfl))
      (try simp only [Act.put, List.setIfInBounds_toArray, List.set_cons_zero, List.set_cons_succ])
      refine take_l 6 (v := ?_) rfl (by kernel_rfl) (by kernel_rfl) (by kernel_rfl) (fun _ _ _ h => h) (by rfl) ?_ (by assumption) ?_
      rotate_left
      · (intro w hSw; (try dsimp only at hSw); go_simp; (try with_reducible rfl))
      (try simp only [Act.put, List.setIfInBounds_toArray, List.set_cons_zero, List.set_cons_succ])
      refine take_l 7 (v := ?_) rfl (by kernel_rfl) (by kernel_rfl) (by kernel_rfl) (fun _ _ _ h => h) (by rfl) ?_ (by assumption) ?_
      rotate_left
      · (intro w hSw; (try dsimp only at hSw); go_simp; (try with_reducible rfl))
      (try simp only [Act.put, List.setIfInBounds_toArray, List.set_cons_zero, List.set_cons_succ])
      refine take_l 8 (v := ?_) rfl (by kernel_rfl) (by kernel_rfl) (by kernel_rfl) (fun _ _ _ h => h) (by rfl) ?_ (by assumption) ?_
      rotate_left
      · (intro w hSw; (try dsimp only at hSw); go_simp; (try with_reducible rfl))
      (try simp only [Act.put, List.setIfInBounds_toArray, List.set_cons_zero, List.set_cons_succ])
      refine wpAnyH_ready (rs := [10]) (by kernel_rfl) (by simp) ?_
      refine cons_l (i := 10) rfl (fun K hK => ?_) ?_
      go_simp; obtain ⟨bJ0, u5, hu, hb, g5, kJ0, mJ0, nJ0, lJ0⟩ := alloc_named u4 33 #[.bool false, .slice none 0 0]; rw [← hu]; (try rw [← hb]); clear hu hb
      have x5 := x4.trans g5; have z5 := g5.size; have KJ0 := Lib.hid kJ0; clear kJ0
      refine hK.out _ _ ?_ (fun hH5 => ?_)
      · (try dsimp only)
        exact HSK.out _ x5
      clear hK K hH4
      (try simp only [Act.put, List.setIfInBounds_toArray, List.set_cons_zero, List.set_cons_succ])
      exact hcut _ _ ⟨bH0, bJ0, p, q, p1, q1, yo, yn, aZ0, fZ1, gZ1, yd3, yd4, ⟨x5, ⟨by omega, by omega⟩, ⟨by omega, by omega⟩, by omega, (KH0.out.ext (g4.trans (g5))), KJ0.out, u3.heap.size, md, md, u4.heap.size, by omega, by omega, (hq1.ext (g5)), (hq2.ext (g5))⟩, rfl⟩
      exact AllReadyH.nil
      refine cons_l (i := 10) rfl (fun K hK => ?_) ?_
      go_simp; obtain ⟨bJ0, u4, hu, hb, g4, kJ0, mJ0, nJ0, lJ0⟩ := alloc_named u3 33 #[.bool false, .slice none 0 0]; rw [← hu]; (try rw [← hb]); clear hu hb
      have x4 := x3.trans g4; have z4 := g4.size; have KJ0 := Lib.hid kJ0; clear kJ0
      refine hK.out _ _ ?_ (fun hH4 => ?_)
      · (try dsimp only)
        exact HSK.out _ x4
      clear hK K hH3
      (try simp only [Act.put, List.setIfInBounds_toArray, List.set_cons_zero, List.set_cons_succ])
      refine wpAnyH_ready (rs := [4]) (by kernel_rfl) (by simp) ?_
      refine cons_l (i := 4) rfl (fun K hK => ?_) ?_
      go_simp; (go_at_call 30; with_reducible refine (implLeave_any ts1 n1 ut rows1 m1 ok _ _ _ _ _ _ _ _ _ _ _ _ ts _ _ _ _ _ _ _ ps xs _ HN.out hs2 HTS.out (OT0.out.ext (g2.trans (g3.trans (g4)))).trains HT.out htl2 HP.out hpl2 (OR1.out.ext (g3.trans (g4))).pts (OR1.out.ext (g3.trans (g4))).ints HVOL.out (Nat.le_refl _) (by omega) HN1.out HMR.out HRES.out).mono ?_)
      rintro e u5 ⟨p, q, p1, q1, rfl, hlr, g5⟩
      have x5 := x4.trans g5; have z5 := g5.size
      obtain ⟨md, hmd, hq1, hq2⟩ := hlr
      refine hK.out _ _ ?_ (fun hH5 => ?_)
      · (try dsimp only)
        exact HSK.out _ x5
      clear hK K hH4
      (try simp only [Act.put, List.setIfInBounds_toArray, List.set_cons_zero, List.set_cons_succ])
      refine take_l 5 (v := ?_) rfl (by kernel_rfl) (by kernel_rfl) (by kernel_rfl) (fun _ _ _ h => h) (by rfl) ?_ (by assumption) ?_
      rotate_left
      · (intro w hSw; (try dsimp only at hSw); go_simp; (try with_reducible rfl))
      (try simp only [Act.put, List.setIfInBounds_toArray, List.set_cons_zero, List.set_cons_succ])
      refine take_l 6 (v := ?_) rfl (by kernel_rfl) (by kernel_rfl) (by kernel_rfl) (fun _ _ _ h => h) (by rfl) ?_ (by assumption) ?_
      rotate_left
      · (intro w hSw; (try dsimp only at hSw); go_simp; (try with_reducible rfl))
      (try simp only [Act.put, List.setIfInBounds_toArray, List.set_cons_zero, List.set_cons_succ])
      refine take_l 7 (v := ?_) rfl (by kernel_rfl) (by kernel_rfl) (by kernel_rfl) (fun _ _ _ h => h) (by rfl) ?_ (by assumption) ?_
      rotate_left
      · (intro w hSw; (try dsimp only at hSw); go_simp; (try with_reducible rfl))
      (try simp only [Act.put, List.setIfInBounds_toArray, List.set_cons_zero, List.set_cons_succ])
      refine take_l 8 (v := ?_) rfl (by kernel_rfl) (by kernel_rfl) (by kernel_rfl) (fun _ _ _ h => h) (by rfl) ?_ (by assumption) ?_
      rotate_left
      · (intro w hSw; (try dsimp only at hSw); go_simp; (try with_reducible rfl))
      (try simp only [Act.put, List.setIfInBounds_toArray, List.set_cons_zero, List.set_cons_succ])
      exact hcut _ _ ⟨bH0, bJ0, p, q, p1, q1, yo, yn, aZ0, fZ1, gZ1, yd3, yd4, ⟨x5, ⟨by omega, by omega⟩, ⟨by omega, by omega⟩, by omega, (KH0.out.ext (g4.trans (g5))), (KJ0.out.ext (g5)), u4.heap.size, md, md, u5.heap.size, by omega, by omega, hq1, hq2⟩, rfl⟩
      exact AllReadyH.nil
      exact AllReadyH.nil
      refine cons_l (i := 10) rfl (fun K hK => ?_) ?_
      go_simp; obtain ⟨bJ0, u3, hu, hb, g3, kJ0, mJ0, nJ0, lJ0⟩ := alloc_named u2 33 #[.bool false, .slice none 0 0]; rw [← hu]; (try rw [← hb]); clear hu hb
      have x3 := x2.trans g3; have z3 := g3.size; have KJ0 := Lib.hid kJ0; clear kJ0
      refine hK.out _ _ ?_ (fun hH3 => ?_)
      · (try dsimp only)
        exact HSK.out _ x3
      clear hK K hH2
      (try simp only [Act.put, List.setIfInBounds_toArray, List.set_cons_zero, List.set_cons_succ])
      refine wpAnyH_ready (rs := [4, 9]) (by kernel_rfl) (by simp) ?_
      refine cons_l (i := 4) rfl (fun K hK => ?_) ?_
      go_simp; (go_at_call 30; with_reducible refine (implLeave_any ts1 n1 ut rows1 m1 ok _ _ _ _ _ _ _ _ _ _ _ _ ts _ _ _ _ _ _ _ ps xs _ HN.out hs2 HTS.out (OT0.out.ext (g2.trans (g3))).trains HT.out htl2 HP.out hpl2 (OR1.out.ext (g3)).pts (OR1.out.ext (g3)).ints HVOL.out (Nat.le_refl _) (by omega) HN1.out HMR.out HRES.out).mono ?_)
      rintro e u4 ⟨p, q, p1, q1, rfl, hlr, g4⟩
      have x4 := x3.trans g4; have z4 := g4.size
      obtain ⟨md, hmd, hq1, hq2⟩ := hlr
      refine hK.out _ _ ?_ (fun hH4 => ?_)
      · (try dsimp only)
        exact HSK.out _ x4
      clear hK K hH3
      (try simp only [Act.put, List.setIfInBounds_toArray, List.set_cons_zero, List.set_cons_succ])
      refine take_l 5 (v := ?_) rfl (by kernel_rfl) (by kernel_rfl) (by kernel_rfl) (fun _ _ _ h => h) (by rfl) ?_ (by assumption) ?_
      rotate_left
      · (intro w hSw; (try dsimp only at hSw); go_simp; (try with_reducible rfl))
      (try simp only [Act.put, List.setIfInBounds_toArray, List.set_cons_zero, List.set_cons_succ])
      refine take_l 6 (v := ?_) rfl (by kernel_rfl) (by kernel_rfl) (by kernel_rfl) (fun _ _ _ h => h) (by rfl) ?_ (by assumption) ?_
      rotate_left
      · (intro w hSw; (try dsimp only at hSw); go_simp; (try with_reducible rfl))
      (try simp only [Act.put, List.setIfInBounds_toArray, List.set_cons_zero, List.set_cons_succ])
      refine take_l 7 (v := ?_) rfl (by kernel_rfl) (by kernel_rfl) (by kernel_rfl) (fun _ _ _ h => h) (by rfl) ?_ (by assumption) ?_
      rotate_left
      · (intro w hSw; (try dsimp only at hSw); go_simp; (try with_reducible rfl))
      (try simp only [Act.put, List.setIfInBounds_toArray, List.set_cons_zero, List.set_cons_succ])
      refine take_l 8 (v := ?_) rfl (by kernel_rfl) (by kernel_rfl) (by kernel_rfl) (fun _ _ _ h => h) (by rfl) ?_ (by assumption) ?_
      rotate_left
      · (intro w hSw; (try dsimp only at hSw); go_simp; (try with_reducible rfl))
      (try simp only [Act.put, List.setIfInBounds_toArray, List.set_cons_zero, List.set_cons_succ])
      refine wpAnyH_ready (rs := [9]) (by kernel_rfl) (by simp) ?_
      refine cons_l (i := 9) rfl (fun K hK => ?_) ?_
      go_simp; obtain ⟨bH0, u5, hu, hb, g5, kH0, mH0, nH0, lH0⟩ := alloc_named u4 26 #[.int .i64 0, .int .i64 0, .int .i64 0, .int .i64 0, .int .i64 0, .int .i64 0, .int .i64 0, .int .i64 0, .int .i64 0, .slice none 0 0]; rw [← hu]; (try rw [← hb]); clear hu hb
      have x5 := x4.trans g5; have z5 := g5.size; have KH0 := Lib.hid kH0; clear kH0
      refine hK.out _ _ ?_ (fun hH5 => ?_)
      · (try dsimp only)
        exact HSK.out _ x5
      clear hK K hH4
      (try simp only [Act.put, List.setIfInBounds_toArray, List.set_cons_zero, List.set_cons_succ])
      exact hcut _ _ ⟨bH0, bJ0, p, q, p1, q1, yo, yn, aZ0, fZ1, gZ1, yd3, yd4, ⟨x5, ⟨by omega, by omega⟩, ⟨by omega, by omega⟩, by omega, KH0.out, (KJ0.out.ext (g4.trans (g5))), u3.heap.size, md, md, u4.heap.size, by omega, by omega, (hq1.ext (g5)), (hq2.ext (g5))⟩, rfl⟩
      exact AllReadyH.nil
      refine cons_l (i := 9) rfl (fun K hK => ?_) ?_
      go_simp; obtain ⟨bH0, u4, hu, hb, g4, kH0, mH0, nH0, lH0⟩ := alloc_named u3 26 #[.int .i64 0, .int .i64 0, .int .i64 0, .int .i64 0, .int .i64 0, .int .i64 0, .int .i64 0, .int .i64 0, .int .i64 0, .slice none 0 0]; rw [← hu]; (try rw [← hb]); clear hu hb
      have x4 := x3.trans g4; have z4 := g4.size; have KH0 := Lib.hid kH0; clear kH0
      refine hK.out _ _ ?_ (fun hH4 => ?_)
      · (try dsimp only)
        exact HSK.out _ x4
      clear hK K hH3
      (try simp only [Act.put, List.setIfInBounds_toArray, List.set_cons_zero, List.set_cons_succ])
      refine wpAnyH_ready (rs := [4]) (by kernel_rfl) (by simp) ?_
      refine cons_l (i := 4) rfl (fun K hK => ?_) ?_
      go_simp; (go_at_call 30; with_reducible refine (implLeave_any ts1 n1 ut rows1 m1 ok _ _ _ _ _ _ _ _ _ _ _ _ ts _ _ _ _ _ _ _ ps xs _ HN.out hs2 HTS.out (OT0.out.ext (g2.trans (g3.trans (g4)))).trains HT.out htl2 HP.out hpl2 (OR1.out.ext (g3.trans (g4))).pts (OR1.out.ext (g3.trans (g4))).ints HVOL.out (Nat.le_refl _) (by omega) HN1.out HMR.out HRES.out).mono ?_)
      rintro e u5 ⟨p, q, p1, q1, rfl, hlr, g5⟩
      have x5 := x4.trans g5; have z5 := g5.size
      obtain ⟨md, hmd, hq1, hq2⟩ := hlr
      refine hK.out _ _ ?_ (fun hH5 => ?_)
      · (try dsimp only)
        exact HSK.out _ x5
      clear hK K hH4
      (try simp only [Act.put, List.setIfInBounds_toArray, List.set_cons_zero, List.set_cons_succ])
      refine take_l 5 (v := ?_) rfl (by kernel_rfl) (by kernel_rfl) (by kernel_rfl) (fun _ _ _ h => h) (by rfl) ?_ (by assumption) ?_
      rotate_left
      · (intro w hSw; (try dsimp only at hSw); go_simp; (try with_reducible rfl))
      (try simp only [Act.put, List.setIfInBounds_toArray, List.set_cons_zero, List.set_cons_succ])
      refine take_l 6 (v := ?_) rfl (by kernel_rfl) (by kernel_rfl) (by kernel_rfl) (fun _ _ _ h => h) (by rfl) ?_ (by assumption) ?_
      rotate_left
      · (intro w hSw; (try dsimp only at hSw); go_simp; (try with_reducible rfl))
      (try simp only [Act.put, List.setIfInBounds_toArray, List.set_cons_zero, List.set_cons_succ])
      refine take_l 7 (v := ?_) rfl (by kernel_rfl) (by kernel_rfl) (by kernel_rfl) (fun _ _ _ h => h) (by rfl) ?_ (by assumption) ?_
      rotate_left
      · (intro w hSw; (try dsimp only at hSw); go_simp; (try with_reducible rfl))
      (try simp only [Act.put, List.setIfInBounds_toArray, List.set_cons_zero, List.set_cons_succ])
      refine take_l 8 (v := ?_) rfl (by kernel_rfl) (by kernel_rfl) (by kernel_rfl) (fun _ _ _ h => h) (by rfl) ?_ (by assumption) ?_
      rotate_left
      · (intro w hSw; (try dsimp only at hSw); go_simp; (try with_reducible rfl))
      (try simp only [Act.put, List.setIfInBounds_toArray, List.set_cons_zero, List.set_cons_succ])
      exact hcut _ _ ⟨bH0, bJ0, p, q, p1, q1, yo, yn, aZ0, fZ1, gZ1, yd3, yd4, ⟨x5, ⟨by omega, by omega⟩, ⟨by omega, by omega⟩, by omega, (KH0.out.ext (g5)), (KJ0.out.ext (g4.trans (g5))), u4.heap.size, md, md, u5.heap.size, by omega, by omega, hq1, hq2⟩, rfl⟩
      exact AllReadyH.nil
      exact AllReadyH.nil
      exact AllReadyH.nil
      refine cons_l (i := 9) rfl (fun K hK => ?_) ?_
      go_simp; obtain ⟨bH0, u2, hu, hb, g2, kH0, mH0, nH0, lH0⟩ := alloc_named u1 26 #[.int .i64 0, .int .i64 0, .int .i64 0, .int .i64 0, .int .i64 0, .int .i64 0, .int .i64 0, .int .i64 0, .int .i64 0, .slice none 0 0]; rw [← hu]; (try rw [← hb]); clear hu hb
      have x2 := x1.trans g2; have z2 := g2.size; have KH0 := Lib.hid kH0; clear kH0
      refine hK.out _ _ ?_ (fun hH2 => ?_)
      · (try dsimp only)
        exact HSK.out _ x2
      clear hK K hH1
      (try simp only [Act.put, List.setIfInBounds_toArray, List.set_cons_zero, List.set_cons_succ])
      refine wpAnyH_ready (rs := [3, 10]) (by kernel_rfl) (by simp) ?_
      refine cons_l (i := 3) rfl (fun K hK => ?_) ?_
      go_simp; (go_at_call 45; with_reducible refine (toReach_any _ _ _ _ _ _ _ ps xs _ HT.out htl2 HP.out hpl2 (HFT.out.ext (HW19.out.trans x2)) (HFP.out.ext (HW19.out.trans x2))).mono ?_)
      rintro e u3 ⟨fZ1, gZ1, midZ1, rfl, hmZ1, ho, hoi, g3⟩
      have x3 := x2.trans g3; have z3 := g3.size
      have OR1 := Lib.hid (OwnReach.mk hmZ1 ho hoi)
      refine hK.out _ _ ?_ (fun hH3 => ?_)
      · (try dsimp only)
        exact HSK.out _ x3
      clear hK K hH2
      (try simp only [Act.put, List.setIfInBounds_toArray, List.set_cons_zero, List.set_cons_succ])
      refine wpAnyH_ready (rs := [4, 10]) (by kernel_rfl) (by simp) ?_
      refine cons_l (i := 4) rfl (fun K hK => ?_) ?_
      go_simp; (go_at_call 30; with_reducible refine (implLeave_any ts1 n1 ut rows1 m1 ok _ _ _ _ _ _ _ _ _ _ _ _ ts _ _ _ _ _ _ _ ps xs _ HN.out hs2 HTS.out (OT0.out.ext (g2.trans (g3))).trains HT.out htl2 HP.out hpl2 OR1.out.pts OR1.out.ints HVOL.out (Nat.le_refl _) (by omega) HN1.out HMR.out HRES.out).mono ?_)
      rintro e u4 ⟨p, q, p1, q1, rfl, hlr, g4⟩
      have x4 := x3.trans g4; have z4 := g4.size
      obtain ⟨md, hmd, hq1, hq2⟩ := hlr
      refine hK.out _ _ ?_ (fun hH4 => ?_)
      · (try dsimp only)
        exact HSK.out _ x4
      clear hK K hH3
      (try simp only [Act.put, List.setIfInBounds_toArray, List.set_cons_zero, List.set_cons_succ])
      refine take_l 5 (v := ?_) rfl (by kernel_rfl) (by kernel_rfl) (by kernel_rfl) (fun _ _ _ h => h) (by rfl) ?_ (by assumption) ?_
      rotate_left
      · (intro w hSw; (try dsimp only at hSw); go_simp; (try with_reducible rfl))
      (try simp only [Act.put, List.setIfInBounds_toArray, List.set_cons_zero, List.set_cons_succ])
      refine take_l 6 (v := ?_) rfl (by kernel_rfl) (by kernel_rfl) (by kernel_rfl) (fun _ _ _ h => h) (by rfl) ?_ (by assumption) ?_
      rotate_left
      · (intro w hSw; (try dsimp only at hSw); go_simp; (try with_reducible rfl))
      (try simp only [Act.put, List.setIfInBounds_toArray, List.set_cons_zero, List.set_cons_succ])
      refine take_l 7 (v := ?_) rfl (by kernel_rfl) (by kernel_rfl) (by kernel_rfl) (fun _ _ _ h => h) (by rfl) ?_ (by assumption) ?_
      rotate_left
      · (intro w hSw; (try dsimp only at hSw); go_simp; (try with_reducible rfl))
      (try simp only [Act.put, List.setIfInBounds_toArray, List.set_cons_zero, List.set_cons_succ])
      refine take_l 8 (v := ?_) rfl (by kernel_rfl) (by kernel_rfl) (by kernel_rfl) (fun _ _ _ h => h) (by rfl) ?_ (by assumption) ?_
      rotate_left
      · (intro w hSw; (try dsimp only at hSw); go_simp; (try with_reducible rfl))
      (try simp only [Act.put, List.setIfInBounds_toArray, List.set_cons_zero, List.set_cons_succ])
      refine wpAnyH_ready (rs := [10]) (by kernel_rfl) (by simp) ?_
      refine cons_l (i := 10) rfl (fun K hK => ?_) ?_
      go_simp; obtain ⟨bJ0, u5, hu, hb, g5, kJ0, mJ0, nJ0, lJ0⟩ := alloc_named u4 33 #[.bool false, .slice none 0 0]; rw [← hu]; (try rw [← hb]); clear hu hb
      have x5 := x4.trans g5; have z5 := g5.size; have KJ0 := Lib.hid kJ0; clear kJ0
      refine hK.out _ _ ?_ (fun hH5 => ?_)
      · (try dsimp only)
        exact HSK.out _ x5
      clear hK K hH4
      (try simp only [Act.put, List.setIfInBounds_toArray, List.set_cons_zero, List.set_cons_succ])
      exact hcut _ _ ⟨bH0, bJ0, p, q, p1, q1, yo, yn, aZ0, fZ1, gZ1, yd3, yd4, ⟨x5, ⟨by omega, by omega⟩, ⟨by omega, by omega⟩, by omega, (KH0.out.ext (g3.trans (g4.trans (g5)))), KJ0.out, u3.heap.size, md, md, u4.heap.size, by omega, by omega, (hq1.ext (g5)), (hq2.ext (g5))⟩, rfl⟩
      exact AllReadyH.nil
      refine cons_l (i := 10) rfl (fun K hK => ?_) ?_
      go_simp; obtain ⟨bJ0, u4, hu, hb, g4, kJ0, mJ0, nJ0, lJ0⟩ := alloc_named u3 33 #[.bool false, .slice none 0 0]; rw [← hu]; (try rw [← hb]); clear hu hb
      have x4 := x3.trans g4; have z4 := g4.size; have KJ0 := Lib.hid kJ0; clear kJ0
      refine hK.out _ _ ?_ (fun hH4 => ?_)
      · (try dsimp only)
        exact HSK.out _ x4
      clear hK K hH3
      (try simp only [Act.put, List.setIfInBounds_toArray, List.set_cons_zero, List.set_cons_succ])
      refine wpAnyH_ready (rs := [4]) (by kernel_rfl) (by simp) ?_
      refine cons_l (i := 4) rfl (fun K hK => ?_) ?_
      go_simp; (go_at_call 30; with_reducible refine (implLeave_any ts1 n1 ut rows1 m1 ok _ _ _ _ _ _ _ _ _ _ _ _ ts _ _ _ _ _ _ _ ps xs _ HN.out hs2 HTS.out (OT0.out.ext (g2.trans (g3.trans (g4)))).trains HT.out htl2 HP.out hpl2 (OR1.out.ext (g4)).pts (OR1.out.ext (g4)).ints HVOL.out (Nat.le_refl _) (by omega) HN1.out HMR.out HRES.out).mono ?_)
      rintro e u5 ⟨p, q, p1, q1, rfl, hlr, g5⟩
      have x5 := x4.trans g5; have z5 := g5.size
      obtain ⟨md, hmd, hq1, hq2⟩ := hlr
      refine hK.out _ _ ?_ (fun hH5 => ?_)
      · (try dsimp only)
        exact HSK.out _ x5
      clear hK K hH4
      (try simp only [Act.put, List.setIfInBounds_toArray, List.set_cons_zero, List.set_cons_succ])
      refine take_l 5 (v := ?_) rfl (by kernel_rfl) (by kernel_rfl) (by kernel_rfl) (fun _ _ _ h => h) (by rfl) ?_ (by assumption) ?_
      rotate_left
      · (intro w hSw; (try dsimp only at hSw); go_simp; (try with_reducible rfl))
      (try simp only [Act.put, List.setIfInBounds_toArray, List.set_cons_zero, List.set_cons_succ])
      refine take_l 6 (v := ?_) rfl (by kernel_rfl) (by kernel_rfl) (by kernel_rfl) (fun _ _ _ h => h) (by rfl) ?_ (by assumption) ?_
      rotate_left
      · (intro w hSw; (try dsimp only at hSw); go_simp; (try with_reducible rfl))
      (try simp only [Act.put, List.setIfInBounds_toArray, List.set_cons_zero, List.set_cons_succ])
      refine take_l 7 (v := ?_) rfl (by kernel_rfl) (by kernel_rfl) (by kernel_rfl) (fun _ _ _ h => h) (by rfl) ?_ (by assumption) ?_
      rotate_left
      · (intro w hSw; (try dsimp only at hSw); go_simp; (try with_reducible rfl))
      (try simp only [Act.put, List.setIfInBounds_toArray, List.set_cons_zero, List.set_cons_succ])
      refine take_l 8 (v := ?_) rfl (by kernel_rfl) (by kernel_rfl) (by kernel_rfl) (fun _ _ _ h => h) (by rfl) ?_ (by assumption) ?_
      rotate_left
      · (intro w hSw; (try dsimp only at hSw); go_simp; (try with_reducible rfl))
      (try simp only [Act.put, List.setIfInBounds_toArray, List.set_cons_zero, List.set_cons_succ])
      exact hcut _ _ ⟨bH0, bJ0, p, q, p1, q1, yo, yn, aZ0, fZ1, gZ1, yd3, yd4, ⟨x5, ⟨by omega, by omega⟩, ⟨by omega, by omega⟩, by omega, (KH0.out.ext (g3.trans (g4.trans (g5)))), (KJ0.out.ext (g5)), u4.heap.size, md, md, u5.heap.size, by omega, by omega, hq1, hq2⟩, rfl⟩
      exact AllReadyH.nil
      exact AllReadyH.nil
      refine cons_l (i := 10) rfl (fun K hK => ?_) ?_
      go_simp; obtain ⟨bJ0, u3, hu, hb, g3, kJ0, mJ0, nJ0, lJ0⟩ := alloc_named u2 33 #[.bool false, .slice none 0 0]; rw [← hu]; (try rw [← hb]); clear hu hb
      have x3 := x2.trans g3; have z3 := g3.size; have KJ0 := Lib.hid kJ0; clear kJ0
      refine hK.out _ _ ?_ (fun hH3 => ?_)
      · (try dsimp only)
        exact HSK.out _ x3
      clear hK K hH2
      (try simp only [Act.put, List.setIfInBounds_toArray, List.set_cons_zero, List.set_cons_succ])
      refine wpAnyH_ready (rs := [3]) (by kernel_rfl) (by simp) ?_
      refine cons_l (i := 3) rfl (fun K hK => ?_) ?_
      go_simp; (go_at_call 45; with_reducible refine (toReach_any _ _ _ _ _ _ _ ps xs _ HT.out htl2 HP.out hpl2 (HFT.out.ext (HW19.out.trans x3)) (HFP.out.ext (HW19.out.trans x3))).mono ?_)
      rintro e u4 ⟨fZ1, gZ1, midZ1, rfl, hmZ1, ho, hoi, g4⟩
      have x4 := x3.trans g4; have z4 := g4.size
      have OR1 := Lib.hid (OwnReach.mk hmZ1 ho hoi)
      refine hK.out _ _ ?_ (fun hH4 => ?_)
      · (try dsimp only)
        exact HSK.out _ x4
      clear hK K hH3
      (try simp only [Act.put, List.setIfInBounds_toArray, List.set_cons_zero, List.set_cons_succ])
      refine wpAnyH_ready (rs := [4]) (by kernel_rfl) (by simp) ?_
      refine cons_l (i := 4) rfl (fun K hK => ?_) ?_
      go_simp; (go_at_call 30; with_reducible refine (implLeave_any ts1 n1 ut rows1 m1 ok _ _ _ _ _ _ _ _ _ _ _ _ ts _ _ _ _ _ _ _ ps xs _ HN.out hs2 HTS.out (OT0.out.ext (g2.trans (g3.trans (g4)))).trains HT.out htl2 HP.out hpl2 OR1.out.pts OR1.out.ints HVOL.out (Nat.le_refl _) (by omega) HN1.out HMR.out HRES.out).mono ?_)
      rintro e u5 ⟨p, q, p1, q1, rfl, hlr, g5⟩
      have x5 := x4.trans g5; have z5 := g5.size
      obtain ⟨md, hmd, hq1, hq2⟩ := hlr
      refine hK.out _ _ ?_ (fun hH5 => ?_)
      · (try dsimp only)
        exact HSK.out _ x5
      clear hK K hH4
      (try simp only [Act.put, List.setIfInBounds_toArray, List.set_cons_zero, List.set_cons_succ])
      refine take_l 5 (v := ?_) rfl (by kernel_rfl) (by kernel_rfl) (by kernel_rfl) (fun _ _ _ h => h) (by rfl) ?_ (by assumption) ?_
      rotate_left
      · (intro w hSw; (try dsimp only at hSw); go_simp; (try with_reducible rfl))
      (try simp only [Act.put, List.setIfInBounds_toArray, List.set_cons_zero, List.set_cons_succ])
      refine take_l 6 (v := ?_) rfl (by kernel_rfl) (by kernel_rfl) (by kernel_rfl) (fun _ _ _ h => h) (by rfl) ?_ (by assumption) ?_
      rotate_left
      · (intro w hSw; (try dsimp only at hSw); go_simp; (try with_reducible rfl))
      (try simp only [Act.put, List.setIfInBounds_toArray, List.set_cons_zero, List.set_cons_succ])
      refine take_l 7 (v := ?_) rfl (by kernel_rfl) (by kernel_rfl) (by kernel_rfl) (fun _ _ _ h => h) (by rfl) ?_ (by assumption) ?_
      rotate_left
      · (intro w hSw; (try dsimp only at hSw); go_simp; (try with_reducible rfl))
      (try simp only [Act.put, List.setIfInBounds_toArray, List.set_cons_zero, List.set_cons_succ])
      refine take_l 8 (v := ?_) rfl (by kernel_rfl) (by kernel_rfl) (by kernel_rfl) (fun _ _ _ h => h) (by rfl) ?_ (by assumption) ?_
      rotate_left
      · (intro w hSw; (try dsimp only at hSw); go_simp; (try with_reducible rfl))
      (try simp only [Act.put, List.setIfInBounds_toArray, List.set_cons_zero, List.set_cons_succ])
      exact hcut _ _ ⟨bH0, bJ0, p, q, p1, q1, yo, yn, aZ0, fZ1, gZ1, yd3, yd4, ⟨x5, ⟨by omega, by omega⟩, ⟨by omega, by omega⟩, by omega, (KH0.out.ext (g3.trans (g4.trans (g5)))), (KJ0.out.ext (g4.trans (g5))), u4.heap.size, md, md, u5.heap.size, by omega, by omega, hq1, hq2⟩, rfl⟩
      exact AllReadyH.nil
      exact AllReadyH.nil
      exact AllReadyH.nil
      refine cons_l (i := 10) rfl (fun K hK => ?_) ?_
      go_simp; obtain ⟨bJ0, u2, hu, hb, g2, kJ0, mJ0, nJ0, lJ0⟩ := alloc_named u1 33 #[.bool false, .slice none 0 0]; rw [← hu]; (try rw [← hb]); clear hu hb
      have x2 := x1.trans g2; have z2 := g2.size; have KJ0 := Lib.hid kJ0; clear kJ0
      refine hK.out _ _ ?_ (fun hH2 => ?_)
      · (try dsimp only)
        exact HSK.out _ x2
      clear hK K hH1
      (try simp only [Act.put, List.setIfInBounds_toArray, List.set_cons_zero, List.set_cons_succ])
      refine wpAnyH_ready (rs := [3, 9]) (by kernel_rfl) (by simp) ?_
      refine cons_l (i := 3) rfl (fun K hK => ?_) ?_
      go_simp; (go_at_call 45; with_reducible refine (toReach_any _ _ _ _ _ _ _ ps xs _ HT.out htl2 HP.out hpl2 (HFT.out.ext (HW19.out.trans x2)) (HFP.out.ext (HW19.out.trans x2))).mono ?_)
      rintro e u3 ⟨fZ1, gZ1, midZ1, rfl, hmZ1, ho, hoi, g3⟩
      have x3 := x2.trans g3; have z3 := g3.size
      have OR1 := Lib.hid (OwnReach.mk hmZ1 ho hoi)
      refine hK.out _ _ ?_ (fun hH3 => ?_)
      · (try dsimp only)
        exact HSK.out _ x3
      clear hK K hH2
      (try simp only [Act.put, List.setIfInBounds_toArray, List.set_cons_zero, List.set_cons_succ])
      refine wpAnyH_ready (rs := [4, 9]) (by kernel_rfl) (by simp) ?_
      refine cons_l (i := 4) rfl (fun K hK => ?_) ?_
      go_simp; (go_at_call 30; with_reducible refine (implLeave_any ts1 n1 ut rows1 m1 ok _ _ _ _ _ _ _ _ _ _ _ _ ts _ _ _ _ _ _ _ ps xs _ HN.out hs2 HTS.out (OT0.out.ext (g2.trans (g3))).trains HT.out htl2 HP.out hpl2 OR1.out.pts OR1.out.ints HVOL.out (Nat.le_refl _) (by omega) HN1.out HMR.out HRES.out).mono ?_)
      rintro e u4 ⟨p, q, p1, q1, rfl, hlr, g4⟩
      have x4 := x3.trans g4; have z4 := g4.size
      obtain ⟨md, hmd, hq1, hq2⟩ := hlr
      refine hK.out _ _ ?_ (fun hH4 => ?_)
      · (try dsimp only)
        exact HSK.out _ x4
      clear hK K hH3
      (try simp only [Act.put, List.setIfInBounds_toArray, List.set_cons_zero, List.set_cons_succ])
      refine take_l 5 (v := ?_) rfl (by kernel_rfl) (by kernel_rfl) (by kernel_rfl) (fun _ _ _ h => h) (by rfl) ?_ (by assumption) ?_
      rotate_left
      · (intro w hSw; (try dsimp only at hSw); go_simp; (try with_reducible rfl))
      (try simp only [Act.put, List.setIfInBounds_toArray, List.set_cons_zero, List.set_cons_succ])
      refine take_l 6 (v := ?_) rfl (by kernel_rfl) (by kernel_rfl) (by kernel_rfl) (fun _ _ _ h => h) (by rfl) ?_ (by assumption) ?_
      rotate_left
      · (intro w hSw; (try dsimp only at hSw); go_simp; (try with_reducible rfl))
      (try simp only [Act.put, List.setIfInBounds_toArray, List.set_cons_zero, List.set_cons_succ])
      refine take_l 7 (v := ?_) rfl (by kernel_rfl) (by kernel_rfl) (by kernel_rfl) (fun _ _ _ h => h) (by rfl) ?_ (by assumption) ?_
      rotate_left
      · (intro w hSw; (try dsimp only at hSw); go_simp; (try with_reducible rfl))
      (try simp only [Act.put, List.setIfInBounds_toArray, List.set_cons_zero, List.set_cons_succ])
      refine take_l 8 (v := ?_) rfl (by kernel_rfl) (by kernel_rfl) (by kernel_rfl) (fun _ _ _ h => h) (by rfl) ?_ (by assumption) ?_
      rotate_left
      · (intro w hSw; (try dsimp only at hSw); go_simp; (try with_reducible rfl))
      (try simp only [Act.put, List.setIfInBounds_toArray, List.set_cons_zero, List.set_cons_succ])
      refine wpAnyH_ready (rs := [9]) (by kernel_rfl) (by simp) ?_
      refine cons_l (i := 9) rfl (fun K hK => ?_) ?_
      go_simp; obtain ⟨bH0, u5, hu, hb, g5, kH0, mH0, nH0, lH0⟩ := alloc_named u4 26 #[.int .i64 0, .int .i64 0, .int .i64 0, .int .i64 0, .int .i64 0, .int .i64 0, .int .i64 0, .int .i64 0, .int .i64 0, .slice none 0 0]; rw [← hu]; (try rw [← hb]); clear hu hb
      have x5 := x4.trans g5; have z5 := g5.size; have KH0 := Lib.hid kH0; clear kH0
      refine hK.out _ _ ?_ (fun hH5 => ?_)
      · (try dsimp only)
        exact HSK.out _ x5
      clear hK K hH4
      (try simp only [Act.put, List.setIfInBounds_toArray, List.set_cons_zero, List.set_cons_succ])
      exact hcut _ _ ⟨bH0, bJ0, p, q, p1, q1, yo, yn, aZ0, fZ1, gZ1, yd3, yd4, ⟨x5, ⟨by omega, by omega⟩, ⟨by omega, by omega⟩, by omega, KH0.out, (KJ0.out.ext (g3.trans (g4.trans (g5)))), u3.heap.size, md, md, u4.heap.size, by omega, by omega, (hq1.ext (g5)), (hq2.ext (g5))⟩, rfl⟩
      exact AllReadyH.nil
      refine cons_l (i := 9) rfl (fun K hK => ?_) ?_
      go_simp; obtain ⟨bH0, u4, hu, hb, g4, kH0, mH0, nH0, lH0⟩ := alloc_named u3 26 #[.int .i64 0, .int .i64 0, .int .i64 0, .int .i64 0, .int .i64 0, .int .i64 0, .int .i64 0, .int .i64 0, .int .i64 0, .slice none 0 0]; rw [← hu]; (try rw [← hb]); clear hu hb
      have x4 := x3.trans g4; have z4 := g4.size; have KH0 := Lib.hid kH0; clear kH0
      refine hK.out _ _ ?_ (fun hH4 => ?_)
      · (try dsimp only)
        exact HSK.out _ x4
      clear hK K hH3
      (try simp only [Act.put, List.setIfInBounds_toArray, List.set_cons_zero, List.set_cons_succ])
      refine wpAnyH_ready (rs := [4]) (by kernel_rfl) (by simp) ?_
      refine cons_l (i := 4) rfl (fun K hK => ?_) ?_
      go_simp; (go_at_call 30; with_reducible refine (implLeave_any ts1 n1 ut rows1 m1 ok _ _ _ _ _ _ _ _ _ _ _ _ ts _ _ _ _ _ _ _ ps xs _ HN.out hs2 HTS.out (OT0.out.ext (g2.trans (g3.trans (g4)))).trains HT.out htl2 HP.out hpl2 (OR1.out.ext (g4)).pts (OR1.out.ext (g4)).ints HVOL.out (Nat.le_refl _) (by omega) HN1.out HMR.out HRES.out).mono ?_)
      rintro e u5 ⟨p, q, p1, q1, rfl, hlr, g5⟩
      have x5 := x4.trans g5; have z5 := g5.size
      obtain ⟨md, hmd, hq1, hq2⟩ := hlr
      refine hK.out _ _ ?_ (fun hH5 => ?_)
      · (try dsimp only)
        exact HSK.out _ x5
      clear hK K hH4
      (try simp only [Act.put, List.setIfInBounds_toArray, List.set_cons_zero, List.set_cons_succ])
      refine take_l 5 (v := ?_) rfl (by kernel_rfl) (by kernel_rfl) (by kernel_rfl) (fun _ _ _ h => h) (by rfl) ?_ (by assumption) ?_
      rotate_left
      · (intro w hSw; (try dsimp only at hSw); go_simp; (try with_reducible rfl))
      (try simp only [Act.put, List.setIfInBounds_toArray, List.set_cons_zero, List.set_cons_succ])
      refine take_l 6 (v := ?_) rfl (by kernel_rfl) (by kernel_rfl) (by kernel_rfl) (fun _ _ _ h => h) (by rfl) ?_ (by assumption) ?_
      rotate_left
      · (intro w hSw; (try dsimp only at hSw); go_simp; (try with_reducible rfl))
      (try simp only [Act.put, List.setIfInBounds_toArray, List.set_cons_zero, List.set_cons_succ])
      refine take_l 7 (v := ?_) rfl (by kernel_rfl) (by kernel_rfl) (by kernel_rfl) (fun _ _ _ h => h) (by rfl) ?_ (by assumption) ?_
      rotate_left
      · (intro w hSw; (try dsimp only at hSw); go_simp; (try with_reducible rfl))
      (try simp only [Act.put, List.setIfInBounds_toArray, List.set_cons_zero, List.set_cons_succ])
      refine take_l 8 (v := ?_) rfl (by kernel_rfl) (by kernel_rfl) (by kernel_rfl) (fun _ _ _ h => h) (by rfl) ?_ (by assumption) ?_
      rotate_left
      · (intro w hSw; (try dsimp only at hSw); go_simp; (try with_reducible rfl))
      (try simp only [Act.put, List.setIfInBounds_toArray, List.set_cons_zero, List.set_cons_succ])
      exact hcut _ _ ⟨bH0, bJ0, p, q, p1, q1, yo, yn, aZ0, fZ1, gZ1, yd3, yd4, ⟨x5, ⟨by omega, by omega⟩, ⟨by omega, by omega⟩, by omega, (KH0.out.ext (g5)), (KJ0.out.ext (g3.trans (g4.trans (g5)))), u4.heap.size, md, md, u5.heap.size, by omega, by omega, hq1, hq2⟩, rfl⟩
      exact AllReadyH.nil
      exact AllReadyH.nil
      refine cons_l (i := 9) rfl (fun K hK => ?_) ?_
      go_simp; obtain ⟨bH0, u3, hu, hb, g3, kH0, mH0, nH0, lH0⟩ := alloc_named u2 26 #[.int .i64 0, .int .i64 0, .int .i64 0, .int .i64 0, .int .i64 0, .int .i64 0, .int .i64 0, .int .i64 0, .int .i64 0, .slice none 0 0]; rw [← hu]; (try rw [← hb]); clear hu hb
      have x3 := x2.trans g3; have z3 := g3.size; have KH0 := Lib.hid kH0; clear kH0
      refine hK.out _ _ ?_ (fun hH3 => ?_)
      · (try dsimp only)
        exact HSK.out _ x3
      clear hK K hH2
      (try simp only [Act.put, List.setIfInBounds_toArray, List.set_cons_zero, List.set_cons_succ])
      refine wpAnyH_ready (rs := [3]) (by kernel_rfl) (by simp) ?_
      refine cons_l (i := 3) rfl (fun K hK => ?_) ?_
      go_simp; (go_at_call 45; with_reducible refine (toReach_any _ _ _ _ _ _ _ ps xs _ HT.out htl2 HP.out hpl2 (HFT.out.ext (HW19.out.trans x3)) (HFP.out.ext (HW19.out.trans x3))).mono ?_)
      rintro e u4 ⟨fZ1, gZ1, midZ1, rfl, hmZ1, ho, hoi, g4⟩
      have x4 := x3.trans g4; have z4 := g4.size
      have OR1 := Lib.hid (OwnReach.mk hmZ1 ho hoi)
      refine hK.out _ _ ?_ (fun hH4 => ?_)
      · (try dsimp only)
        exact HSK.out _ x4
      clear hK K hH3
      (try simp only [Act.put, List.setIfInBounds_toArray, List.set_cons_zero, List.set_cons_succ])
      refine wpAnyH_ready (rs := [4]) (by kernel_rfl) (by simp) ?_
      refine cons_l (i := 4) rfl (fun K hK => ?_) ?_
      go_simp; (go_at_call 30; with_reducible refine (implLeave_any ts1 n1 ut rows1 m1 ok _ _ _ _ _ _ _ _ _ _ _ _ ts _ _ _ _ _ _ _ ps xs _ HN.out hs2 HTS.out (OT0.out.ext (g2.trans (g3.trans (g4)))).trains HT.out htl2 HP.out hpl2 OR1.out.pts OR1.out.ints HVOL.out (Nat.le_refl _) (by omega) HN1.out HMR.out HRES.out).mono ?_)
      rintro e u5 ⟨p, q, p1, q1, rfl, hlr, g5⟩
      have x5 := x4.trans g5; have z5 := g5.size
      obtain ⟨md, hmd, hq1, hq2⟩ := hlr
      refine hK.out _ _ ?_ (fun hH5 => ?_)
      · (try dsimp only)
        exact HSK.out _ x5
      clear hK K hH4
      (try simp only [Act.put, List.setIfInBounds_toArray, List.set_cons_zero, List.set_cons_succ])
      refine take_l 5 (v := ?_) rfl (by kernel_rfl) (by kernel_rfl) (by kernel_rfl) (fun _ _ _ h => h) (by rfl) ?_ (by assumption) ?_
      rotate_left
      · (intro w hSw; (try dsimp only at hSw); go_simp; (try with_reducible rfl))
      (try simp only [Act.put, List.setIfInBounds_toArray, List.set_cons_zero, List.set_cons_succ])
      refine take_l 6 (v := ?_) rfl (by kernel_rfl) (by kernel_rfl) (by kernel_rfl) (fun _ _ _ h => h) (by rfl) ?_ (by assumption) ?_
      rotate_left
      · (intro w hSw; (try dsimp only at hSw); go_simp; (try with_reducible rfl))
      (try simp only [Act.put, List.setIfInBounds_toArray, List.set_cons_zero, List.set_cons_succ])
      refine take_l 7 (v := ?_) rfl (by kernel_rfl) (by kernel_rfl) (by kernel_rfl) (fun _ _ _ h => h) (by rfl) ?_ (by assumption) ?_
      rotate_left
      · (intro w hSw; (try dsimp only at hSw); go_simp; (try with_reducible rfl))
      (try simp only [Act.put, List.setIfInBounds_toArray, List.set_cons_zero, List.set_cons_succ])
      refine take_l 8 (v := ?_) rfl (by kernel_rfl) (by kernel_rfl) (by kernel_rfl) (fun _ _ _ h => h) (by rfl) ?_ (by assumption) ?_
      rotate_left
      · (intro w hSw; (try dsimp only at hSw); go_simp; (try with_reducible rfl))
      (try simp only [Act.put, List.setIfInBounds_toArray, List.set_cons_zero, List.set_cons_succ])
      exact hcut _ _ ⟨bH0, bJ0, p, q, p1, q1, yo, yn, aZ0, fZ1, gZ1, yd3, yd4, ⟨x5, ⟨by omega, by omega⟩, ⟨by omega, by omega⟩, by omega, (KH0.out.ext (g4.trans (g5))), (KJ0.out.ext (g3.trans (g4.trans (g5)))), u4.heap.size, md, md, u5.heap.size, by omega, by omega, hq1, hq2⟩, rfl⟩
      exact AllReadyH.nil
      exact AllReadyH.nil
      exact AllReadyH.nil
      exact AllReadyH.nil
      refine cons_l (i := 9) rfl (fun K hK => ?_) ?_
      go_simp; obtain ⟨bH0, u1, hu, hb, g1, kH0, mH0, nH0, lH0⟩ := alloc_named u0 26 #[.int .i64 0, .int .i64 0, .int .i64 0, .int .i64 0, .int .i64 0, .int .i64 0, .int .i64 0, .int .i64 0, .int .i64 0, .slice none 0 0]; rw [← hu]; (try rw [← hb]); clear hu hb
      have x1 := x0.trans g1; have z1 := g1.size; have KH0 := Lib.hid kH0; clear kH0
      refine hK.out _ _ ?_ (fun hH1 => ?_)
      · (try dsimp only)
        exact HSK.out _ x1
      clear hK K hH0
      (try simp only [Act.put, List.setIfInBounds_toArray, List.set_cons_zero, List.set_cons_succ])
      refine wpAnyH_ready (rs := [1, 10]) (by kernel_rfl) (by simp) ?_
      refine cons_l (i := 1) rfl (fun K hK => ?_) ?_
      go_simp; (go_at_call 34; with_reducible refine (toLock_any _ _ _ _ _ _ _ _ _ _ _ _ ts _ HN.out hs2 HTS.out (HF.out.ext (HW19.out.trans x1))).mono ?_)
      rintro e u2 ⟨aZ0, rfl, ho, g2⟩
      have x2 := x1.trans g2; have z2 := g2.size
      have OT0 := Lib.hid (ho)
      refine hK.out _ _ ?_ (fun hH2 => ?_)
      · (try dsimp only)
        exact HSK.out _ x2
      clear hK K hH1
      (try simp only [Act.put, List.setIfInBounds_toArray, List.set_cons_zero, List.set_cons_succ])
      refine wpAnyH_ready (rs := [3, 10]) (by kernel_rfl) (by simp) ?_
      refine cons_l (i := 3) rfl (fun K hK => ?_) ?_
      go_simp; (go_at_call 45; with_reducible refine (toReach_any _ _ _ _ _ _ _ ps xs _ HT.out htl2 HP.out hpl2 (HFT.out.ext (HW19.out.trans x2)) (HFP.out.ext (HW19.out.trans x2))).mono ?_)
      rintro e u3 ⟨fZ1, gZ1, midZ1, rfl, hmZ1, ho, hoi, g3⟩
      have x3 := x2.trans g3; have z3 := g3.size
      have OR1 := Lib.hid (OwnReach.mk hmZ1 ho hoi)
      refine hK.out _ _ ?_ (fun hH3 => ?_)
      · (try dsimp only)
        exact HSK.out _ x3
      clear hK K hH2
      (try simp only [Act.put, List.setIfInBounds_toArray, List.set_cons_zero, List.set_cons_succ])
      refine wpAnyH_ready (rs := [4, 10]) (by kernel_rfl) (by simp) ?_
      refine cons_l (i := 4) rfl (fun K hK => ?_) ?_
      go_simp; (go_at_call 30; with_reducible refine (implLeave_any ts1 n1 ut rows1 m1 ok _ _ _ _ _ _ _ _ _ _ _ _ ts _ _ _ _ _ _ _ ps xs _ HN.out hs2 HTS.out (OT0.out.ext (g3)).trains HT.out htl2 HP.out hpl2 OR1.out.pts OR1.out.ints HVOL.out (Nat.le_refl _) (by omega) HN1.out HMR.out HRES.out).mono ?_)
      rintro e u4 ⟨p, q, p1, q1, rfl, hlr, g4⟩
      have x4 := x3.trans g4; have z4 := g4.size
      obtain ⟨md, hmd, hq1, hq2⟩ := hlr
      refine hK.out _ _ ?_ (fun hH4 => ?_)
      · (try dsimp only)
        exact HSK.out _ x4
      clear hK K hH3
      (try simp only [Act.put, List.setIfInBounds_toArray, List.set_cons_zero, List.set_cons_succ])
      refine take_l 5 (v := ?_) rfl (by kernel_rfl) (by kernel_rfl) (by kernel_rfl) (fun _ _ _ h => h) (by rfl) ?_ (by assumption) ?_
      rotate_left
      · (intro w hSw; (try dsimp only at hSw); go_simp; (try with_reducible rfl))
      (try simp only [Act.put, List.setIfInBounds_toArray, List.set_cons_zero, List.set_cons_succ])
      refine take_l 6 (v := ?_) rfl (by kernel_rfl) (by kernel_rfl) (by kernel_rfl) (fun _ _ _ h => h) (by rfl) ?_ (by assumption) ?_
      rotate_left
      · (intro w hSw; (try dsimp only at hSw); go_simp; (try with_reducible rfl))
      (try simp only [Act.put, List.setIfInBounds_toArray, List.set_cons_zero, List.set_cons_succ])
      refine take_l 7 (v := ?_) rfl (by kernel_rfl) (by kernel_rfl) (by kernel_rfl) (fun _ _ _ h => h) (by rfl) ?_ (by assumption) ?_
      rotate_left
      · (intro w hSw; (try dsimp only at hSw); go_simp; (try with_reducible rfl))
      (try simp only [Act.put, List.setIfInBounds_toArray, List.set_cons_zero, List.set_cons_succ])
      refine take_l 8 (v := ?_) rfl (by kernel_rfl) (by kernel_rfl) (by kernel_rfl) (fun _ _ _ h => h) (by rfl) ?_ (by assumption) ?_
      rotate_left
      · (intro w hSw; (try dsimp only at hSw); go_simp; (try with_reducible rfl))
      (try simp only [Act.put, List.setIfInBounds_toArray, List.set_cons_zero, List.set_cons_succ])
      refine wpAnyH_ready (rs := [10]) (by kernel_rfl) (by simp) ?_
      refine cons_l (i := 10) rfl (fun K hK => ?_) ?_
      go_simp; obtain ⟨bJ0, u5, hu, hb, g5, kJ0, mJ0, nJ0, lJ0⟩ := alloc_named u4 33 #[.bool false, .slice none 0 0]; rw [← hu]; (try rw [← hb]); clear hu hb
      have x5 := x4.trans g5; have z5 := g5.size; have KJ0 := Lib.hid kJ0; clear kJ0
      refine hK.out _ _ ?_ (fun hH5 => ?_)
      · (try dsimp only)
        exact HSK.out _ x5
      clear hK K hH4
      (try simp only [Act.put, List.setIfInBounds_toArray, List.set_cons_zero, List.set_cons_succ])
      exact hcut _ _ ⟨bH0, bJ0, p, q, p1, q1, yo, yn, aZ0, fZ1, gZ1, yd3, yd4, ⟨x5, ⟨by omega, by omega⟩, ⟨by omega, by omega⟩, by omega, (KH0.out.ext (g2.trans (g3.trans (g4.trans (g5))))), KJ0.out, u3.heap.size, md, md, u4.heap.size, by omega, by omega, (hq1.ext (g5)), (hq2.ext (g5))⟩, rfl⟩
      exact AllReadyH.nil
      refine cons_l (i := 10) rfl (fun K hK => ?_) ?_
      go_simp; obtain ⟨bJ0, u4, hu, hb, g4, kJ0, mJ0, nJ0, lJ0⟩ := alloc_named u3 33 #[.bool false, .slice none 0 0]; rw [← hu]; (try rw [← hb]); clear hu hb
      have x4 := x3.trans g4; have z4 := g4.size; have KJ0 := Lib.hid kJ0; clear kJ0
      refine hK.out _ _ ?_ (fun hH4 => ?_)
      · (try dsimp only)
        exact HSK.out _ x4
      clear hK K hH3
      (try simp only [Act.put, List.setIfInBounds_toArray, List.set_cons_zero, List.set_cons_succ])
      refine wpAnyH_ready (rs := [4]) (by kernel_rfl) (by simp) ?_
      refine cons_l (i := 4) rfl (fun K hK => ?_) ?_
      go_simp; (go_at_call 30; with_reducible refine (implLeave_any ts1 n1 ut rows1 m1 ok _ _ _ _ _ _ _ _ _ _ _ _ ts _ _ _ _ _ _ _ ps xs _ HN.out hs2 HTS.out (OT0.out.ext (g3.trans (g4))).trains HT.out htl2 HP.out hpl2 (OR1.out.ext (g4)).pts (OR1.out.ext (g4)).ints HVOL.out (Nat.le_refl _) (by omega) HN1.out HMR.out HRES.out).mono ?_)
      rintro e u5 ⟨p, q, p1, q1, rfl, hlr, g5⟩
      have x5 := x4.trans g5; have z5 := g5.size
      obtain ⟨md, hmd, hq1, hq2⟩ := hlr
      refine hK.out _ _ ?_ (fun hH5 => ?_)
      · (try dsimp only)
        exact HSK.out _ x5
      clear hK K hH4
      (try simp only [Act.put, List.setIfInBounds_toArray, List.set_cons_zero, List.set_cons_succ])
      refine take_l 5 (v := ?_) rfl (by kernel_rfl) (by kernel_rfl) (by kernel_rfl) (fun _ _ _ h => h) (by rfl) ?_ (by assumption) ?_
      rotate_left
      · (intro w hSw; (try dsimp only at hSw); go_simp; (try with_reducible rfl))
      (try simp only [Act.put, List.setIfInBounds_toArray, List.set_cons_zero, List.set_cons_succ])
      refine take_l 6 (v := ?_) rfl (by kernel_rfl) (by kernel_rfl) (by kernel_rfl) (fun _ _ _ h => h) (by rfl) ?_ (by assumption) ?_
      rotate_left
      · (intro w hSw; (try dsimp only at hSw); go_simp; (try with_reducible rfl))
      (try simp only [Act.put, List.setIfInBounds_toArray, List.set_cons_zero, List.set_cons_succ])
      refine take_l 7 (v := ?_) rfl (by kernel_rfl) (by kernel_rfl) (by kernel_rfl) (fun _ _ _ h => h) (by rfl) ?_ (by assumption) ?_
      rotate_left
      · (intro w hSw; (try dsimp only at hSw); go_simp; (try with_reducible rfl))
      (try simp only [Act.put, List.setIfInBounds_toArray, List.set_cons_zero, List.set_cons_succ])
      refine take_l 8 (v := ?_) rfl (by kernel_rfl) (by kernel_rfl) (by kernel_rfl) (fun _ _ _ h => h) (by rfl) ?_ (by assumption) ?_
      rotate_left
      · (intro w hSw; (try dsimp only at hSw); go_simp; (try with_reducible rfl))
      (try simp only [Act.put, List.setIfInBounds_toArray, List.set_cons_zero, List.set_cons_succ])
      exact hcut _ _ ⟨bH0, bJ0, p, q, p1, q1, yo, yn, aZ0, fZ1, gZ1, yd3, yd4, ⟨x5, ⟨by omega, by omega⟩, ⟨by omega, by omega⟩, by omega, (KH0.out.ext (g2.trans (g3.trans (g4.trans (g5))))), (KJ0.out.ext (g5)), u4.heap.size, md, md, u5.heap.size, by omega, by omega, hq1, hq2⟩, rfl⟩
      exact AllReadyH.nil
      exact AllReadyH.nil
      refine cons_l (i := 10) rfl (fun K hK => ?_) ?_
      go_simp; obtain ⟨bJ0, u3, hu, hb, g3, kJ0, mJ0, nJ0, lJ0⟩ := alloc_named u2 33 #[.bool false, .slice none 0 0]; rw [← hu]; (try rw [← hb]); clear hu hb
      have x3 := x2.trans g3; have z3 := g3.size; have KJ0 := Lib.hid kJ0; clear kJ0
      refine hK.out _ _ ?_ (fun hH3 => ?_)
      · (try dsimp only)
        exact HSK.out _ x3
      clear hK K hH2
      (try simp only [Act.put, List.setIfInBounds_toArray, List.set_cons_zero, List.set_cons_succ])
      refine wpAnyH_ready (rs := [3]) (by kernel_rfl) (by simp) ?_
      refine cons_l (i := 3) rfl (fun K hK => ?_) ?_
      go_simp; (go_at_call 45; with_reducible refine (toReach_any _ _ _ _ _ _ _ ps xs _ HT.out htl2 HP.out hpl2 (HFT.out.ext (HW19.out.trans x3)) (HFP.out.ext (HW19.out.trans x3))).mono ?_)
      rintro e u4 ⟨fZ1, gZ1, midZ1, rfl, hmZ1, ho, hoi, g4⟩
      have x4 := x3.trans g4; have z4 := g4.size
      have OR1 := Lib.hid (OwnReach.mk hmZ1 ho hoi)
      refine hK.out _ _ ?_ (fun hH4 => ?_)
      · (try dsimp only)
        exact HSK.out _ x4
      clear hK K hH3
      (try simp only [Act.put, List.setIfInBounds_toArray, List.set_cons_zero, List.set_cons_succ])
      refine wpAnyH_ready (rs := [4]) (by kernel_rfl) (by simp) ?_
      refine cons_l (i := 4) rfl (fun K hK => ?_) ?_
      go_simp; (go_at_call 30; with_reducible refine (implLeave_any ts1 n1 ut rows1 m1 ok _ _ _ _ _ _ _ _ _ _ _ _ ts _ _ _ _ _ _ _ ps xs _ HN.out hs2 HTS.out (OT0.out.ext (g3.trans (g4))).trains HT.out htl2 HP.out hpl2 OR1.out.pts OR1.out.ints HVOL.out (Nat.le_refl _) (by omega) HN1.out HMR.out HRES.out).mono ?_)
      rintro e u5 ⟨p, q, p1, q1, rfl, hlr, g5⟩
      have x5 := x4.trans g5; have z5 := g5.size
      obtain ⟨md, hmd, hq1, hq2⟩ := hlr
      refine hK.out _ _ ?_ (fun hH5 => ?_)
      · (try dsimp only)
        exact HSK.out _ x5
      clear hK K hH4
      (try simp only [Act.put, List.setIfInBounds_toArray, List.set_cons_zero, List.set_cons_succ])
      refine take_l 5 (v := ?_) rfl (by kernel_rfl) (by kernel_rfl) (by kernel_rfl) (fun _ _ _ h => h) (by rfl) ?_ (by assumption) ?_
      rotate_left
      · (intro w hSw; (try dsimp only at hSw); go_simp; (try with_reducible rfl))
      (try simp only [Act.put, List.setIfInBounds_toArray, List.set_cons_zero, List.set_cons_succ])
      refine take_l 6 (v := ?_) rfl (by kernel_rfl) (by kernel_rfl) (by kernel_rfl) (fun _ _ _ h => h) (by rfl) ?_ (by assumption) ?_
      rotate_left
      · (intro w hSw; (try dsimp only at hSw); go_simp; (try with_reducible rfl))
      (try simp only [Act.put, List.setIfInBounds_toArray, List.set_cons_zero, List.set_cons_succ])
      refine take_l 7 (v := ?_) rfl (by kernel_rfl) (by kernel_rfl) (by kernel_rfl) (fun _ _ _ h => h) (by rfl) ?_ (by assumption) ?_
      rotate_left
      · (intro w hSw; (try dsimp only at hSw); go_simp; (try with_reducible rfl))
      (try simp only [Act.put, List.setIfInBounds_toArray, List.set_cons_zero, List.set_cons_succ])
      refine take_l 8 (v := ?_) rfl (by kernel_rfl) (by kernel_rfl) (by kernel_rfl) (fun _ _ _ h => h) (by rfl) ?_ (by assumption) ?_
      rotate_left
      · (intro w hSw; (try dsimp only at hSw); go_simp; (try with_reducible rfl))
      (try simp only [Act.put, List.setIfInBounds_toArray, List.set_cons_zero, List.set_cons_succ])
      exact hcut _ _ ⟨bH0, bJ0, p, q, p1, q1, yo, yn, aZ0, fZ1, gZ1, yd3, yd4, ⟨x5, ⟨by omega, by omega⟩, ⟨by omega, by omega⟩, by omega, (KH0.out.ext (g2.trans (g3.trans (g4.trans (g5))))), (KJ0.out.ext (g4.trans (g5))), u4.heap.size, md, md, u5.heap.size, by omega, by omega, hq1, hq2⟩, rfl⟩
      exact AllReadyH.nil
      exact AllReadyH.nil
      exact AllReadyH.nil
      refine cons_l (i := 10) rfl (fun K hK => ?_) ?_
      go_simp; obtain ⟨bJ0, u2, hu, hb, g2, kJ0, mJ0, nJ0, lJ0⟩ := alloc_named u1 33 #[.bool false, .slice none 0 0]; rw [← hu]; (try rw [← hb]); clear hu hb
      have x2 := x1.trans g2; have z2 := g2.size; have KJ0 := Lib.hid kJ0; clear kJ0
      refine hK.out _ _ ?_ (fun hH2 => ?_)
      · (try dsimp only)
        exact HSK.out _ x2
      clear hK K hH1
      (try simp only [Act.put, List.setIfInBounds_toArray, List.set_cons_zero, List.set_cons_succ])
      refine wpAnyH_ready (rs := [1]) (by kernel_rfl) (by simp) ?_
      refine cons_l (i := 1) rfl (fun K hK => ?_) ?_
      go_simp; (go_at_call 34; with_reducible refine (toLock_any _ _ _ _ _ _ _ _ _ _ _ _ ts _ HN.out hs2 HTS.out (HF.out.ext (HW19.out.trans x2))).mono ?_)
      rintro e u3 ⟨aZ0, rfl, ho, g3⟩
      have x3 := x2.trans g3; have z3 := g3.size
      have OT0 := Lib.hid (ho)
      refine hK.out _ _ ?_ (fun hH3 => ?_)
      · (try dsimp only)
        exact HSK.out _ x3
      clear hK K hH2
      (try simp only [Act.put, List.setIfInBounds_toArray, List.set_cons_zero, List.set_cons_succ])
      refine wpAnyH_ready (rs := [3]) (by kernel_rfl) (by simp) ?_
      refine cons_l (i := 3) rfl (fun K hK => ?_) ?_
      go_simp; (go_at_call 45; with_reducible refine (toReach_any _ _ _ _ _ _ _ ps xs _ HT.out htl2 HP.out hpl2 (HFT.out.ext (HW19.out.trans x3)) (HFP.out.ext (HW19.out.trans x3))).mono ?_)
      rintro e u4 ⟨fZ1, gZ1, midZ1, rfl, hmZ1, ho, hoi, g4⟩
      have x4 := x3.trans g4; have z4 := g4.size
      have OR1 := Lib.hid (OwnReach.mk hmZ1 ho hoi)
      refine hK.out _ _ ?_ (fun hH4 => ?_)
      · (try dsimp only)
        exact HSK.out _ x4
      clear hK K hH3
      (try simp only [Act.put, List.setIfInBounds_toArray, List.set_cons_zero, List.set_cons_succ])
      refine wpAnyH_ready (rs := [4]) (by kernel_rfl) (by simp) ?_
      refine cons_l (i := 4) rfl (fun K hK => ?_) ?_
      go_simp; (go_at_call 30; with_reducible refine (implLeave_any ts1 n1 ut rows1 m1 ok _ _ _ _ _ _ _ _ _ _ _ _ ts _ _ _ _ _ _ _ ps xs _ HN.out hs2 HTS.out (OT0.out.ext (g4)).trains HT.out htl2 HP.out hpl2 OR1.out.pts OR1.out.ints HVOL.out (Nat.le_refl _) (by omega) HN1.out HMR.out HRES.out).mono ?_)
      rintro e u5 ⟨p, q, p1, q1, rfl, hlr, g5⟩
      have x5 := x4.trans g5; have z5 := g5.size
      obtain ⟨md, hmd, hq1, hq2⟩ := hlr
      refine hK.out _ _ ?_ (fun hH5 => ?_)
      · (try dsimp only)
        exact HSK.out _ x5
      clear hK K hH4
      (try simp only [Act.put, List.setIfInBounds_toArray, List.set_cons_zero, List.set_cons_succ])
      refine take_l 5 (v := ?_) rfl (by kernel_rfl) (by kernel_rfl) (by kernel_rfl) (fun _ _ _ h => h) (by rfl) ?_ (by assumption) ?_
      rotate_left
      · (intro w hSw; (try dsimp only at hSw); go_simp; (try with_reducible rfl))
      (try simp only [Act.put, List.setIfInBounds_toArray, List.set_cons_zero, List.set_cons_succ])
      refine take_l 6 (v := ?_) rfl (by kernel_rfl) (by kernel_rfl) (by kernel_rfl) (fun _ _ _ h => h) (by rfl) ?_ (by assumption) ?_
      rotate_left
      · (intro w hSw; (try dsimp only at hSw); go_simp; (try with_reducible rfl))
      (try simp only [Act.put, List.setIfInBounds_toArray, List.set_cons_zero, List.set_cons_succ])
      refine take_l 7 (v := ?_) rfl (by kernel_rfl) (by kernel_rfl) (by kernel_rfl) (fun _ _ _ h => h) (by rfl) ?_ (by assumption) ?_
      rotate_left
      · (intro w hSw; (try dsimp only at hSw); go_simp; (try with_reducible rfl))
      (try simp only [Act.put, List.setIfInBounds_toArray, List.set_cons_zero, List.set_cons_succ])
      refine take_l 8 (v := ?_) rfl (by kernel_rfl) (by kernel_rfl) (by kernel_rfl) (fun _ _ _ h => h) (by rfl) ?_ (by assumption) ?_
      rotate_left
      · (intro w hSw; (try dsimp only at hSw); go_simp; (try with_reducible rfl))
      (try simp only [Act.put, List.setIfInBounds_toArray, List.set_cons_zero, List.set_cons_succ])
      exact hcut _ _ ⟨bH0, bJ0, p, q, p1, q1, yo, yn, aZ0, fZ1, gZ1, yd3, yd4, ⟨x5, ⟨by omega, by omega⟩, ⟨by omega, by omega⟩, by omega, (KH0.out.ext (g2.trans (g3.trans (g4.trans (g5))))), (KJ0.out.ext (g3.trans (g4.trans (g5)))), u4.heap.size, md, md, u5.heap.size, by omega, by omega, hq1, hq2⟩, rfl⟩
      exact AllReadyH.nil
      exact AllReadyH.nil
      exact AllReadyH.nil
      exact AllReadyH.nil
      refine cons_l (i := 10) rfl (fun K hK => ?_) ?_
      go_simp; obtain ⟨bJ0, u1, hu, hb, g1, kJ0, mJ0, nJ0, lJ0⟩ := alloc_named u0 33 #[.bool false, .slice none 0 0]; rw [← hu]; (try rw [← hb]); clear hu hb
      have x1 := x0.trans g1; have z1 := g1.size; have KJ0 := Lib.hid kJ0; clear kJ0
      refine hK.out _ _ ?_ (fun hH1 => ?_)
      · (try dsimp only)
        exact HSK.out _ x1
      clear hK K hH0
      (try simp only [Act.put, List.setIfInBounds_toArray, List.set_cons_zero, List.set_cons_succ])
      refine wpAnyH_ready (rs := [1, 9]) (by kernel_rfl) (by simp) ?_
      refine cons_l (i := 1) rfl (fun K hK => ?_) ?_
      go_simp; (go_at_call 34; with_reducible refine (toLock_any _ _ _ _ _ _ _ _ _ _ _ _ ts _ HN.out hs2 HTS.out (HF.out.ext (HW19.out.trans x1))).mono ?_)
      rintro e u2 ⟨aZ0, rfl, ho, g2⟩
      have x2 := x1.trans g2; have z2 := g2.size
      have OT0 := Lib.hid (ho)
      refine hK.out _ _ ?_ (fun hH2 => ?_)
      · (try dsimp only)
        exact HSK.out _ x2
      clear hK K hH1
      (try simp only [Act.put, List.setIfInBounds_toArray, List.set_cons_zero, List.set_cons_succ])
      refine wpAnyH_ready (rs := [3, 9]) (by kernel_rfl) (by simp) ?_
      refine cons_l (i := 3) rfl (fun K hK => ?_) ?_
      go_simp; (go_at_call 45; with_reducible refine (toReach_any _ _ _ _ _ _ _ ps xs _ HT.out htl2 HP.out hpl2 (HFT.out.ext (HW19.out.trans x2)) (HFP.out.ext (HW19.out.trans x2))).mono ?_)
      rintro e u3 ⟨fZ1, gZ1, midZ1, rfl, hmZ1, ho, hoi, g3⟩
      have x3 := x2.trans g3; have z3 := g3.size
      have OR1 := Lib.hid (OwnReach.mk hmZ1 ho hoi)
      refine hK.out _ _ ?_ (fun hH3 => ?_)
      · (try dsimp only)
        exact HSK.out _ x3
      clear hK K hH2
      (try simp only [Act.put, List.setIfInBounds_toArray, List.set_cons_zero, List.set_cons_succ])
      refine wpAnyH_ready (rs := [4, 9]) (by kernel_rfl) (by simp) ?_
      refine cons_l (i := 4) rfl (fun K hK => ?_) ?_
      go_simp; (go_at_call 30; with_reducible refine (implLeave_any ts1 n1 ut rows1 m1 ok _ _ _ _ _ _ _ _ _ _ _ _ ts _ _ _ _ _ _ _ ps xs _ HN.out hs2 HTS.out (OT0.out.ext (g3)).trains HT.out htl2 HP.out hpl2 OR1.out.pts OR1.out.ints HVOL.out (Nat.le_refl _) (by omega) HN1.out HMR.out HRES.out).mono ?_)
      rintro e u4 ⟨p, q, p1, q1, rfl, hlr, g4⟩
      have x4 := x3.trans g4; have z4 := g4.size
      obtain ⟨md, hmd, hq1, hq2⟩ := hlr
      refine hK.out _ _ ?_ (fun hH4 => ?_)
      · (try dsimp only)
        exact HSK.out _ x4
      clear hK K hH3
      (try simp only [Act.put, List.setIfInBounds_toArray, List.set_cons_zero, List.set_cons_succ])
      refine take_l 5 (v := ?_) rfl (by kernel_rfl) (by kernel_rfl) (by kernel_rfl) (fun _ _ _ h => h) (by rfl) ?_ (by assumption) ?_
      rotate_left
      · (intro w hSw; (try dsimp only at hSw); go_simp; (try with_reducible rfl))
      (try simp only [Act.put, List.setIfInBounds_toArray, List.set_cons_zero, List.set_cons_succ])
      refine take_l 6 (v := ?_) rfl (by kernel_rfl) (by kernel_rfl) (by kernel_rfl) (fun _ _ _ h => h) (by rfl) ?_ (by assumption) ?_
      rotate_left
      · (intro w hSw; (try dsimp only at hSw); go_simp; (try with_reducible rfl))
      (try simp only [Act.put, List.setIfInBounds_toArray, List.set_cons_zero, List.set_cons_succ])
      refine take_l 7 (v := ?_) rfl (by kernel_rfl) (by kernel_rfl) (by kernel_rfl) (fun _ _ _ h => h) (by rfl) ?_ (by assumption) ?_
      rotate_left
      · (intro w hSw; (try dsimp only at hSw); go_simp; (try with_reducible rfl))
      (try simp only [Act.put, List.setIfInBounds_toArray, List.set_cons_zero, List.set_cons_succ])
      refine take_l 8 (v := ?_) rfl (by kernel_rfl) (by kernel_rfl) (by kernel_rfl) (fun _ _ _ h => h) (by rfl) ?_ (by assumption) ?_
      rotate_left
      · (intro w hSw; (try dsimp only at hSw); go_simp; (try with_reducible rfl))
      (try simp only [Act.put, List.setIfInBounds_toArray, List.set_cons_zero, List.set_cons_succ])
      refine wpAnyH_ready (rs := [9]) (by kernel_rfl) (by simp) ?_
      refine cons_l (i := 9) rfl (fun K hK => ?_) ?_
      go_simp; obtain ⟨bH0, u5, hu, hb, g5, kH0, mH0, nH0, lH0⟩ := alloc_named u4 26 #[.int .i64 0, .int .i64 0, .int .i64 0, .int .i64 0, .int .i64 0, .int .i64 0, .int .i64 0, .int .i64 0, .int .i64 0, .slice none 0 0]; rw [← hu]; (try rw [← hb]); clear hu hb
      have x5 := x4.trans g5; have z5 := g5.size; have KH0 := Lib.hid kH0; clear kH0
      refine hK.out _ _ ?_ (fun hH5 => ?_)
      · (try dsimp only)
        exact HSK.out _ x5
      clear hK K hH4
      (try simp only [Act.put, List.setIfInBounds_toArray, List.set_cons_zero, List.set_cons_succ])
      exact hcut _ _ ⟨bH0, bJ0, p, q, p1, q1, yo, yn, aZ0, fZ1, gZ1, yd3, yd4, ⟨x5, ⟨by omega, by omega⟩, ⟨by omega, by omega⟩, by omega, KH0.out, (KJ0.out.ext (g2.trans (g3.trans (g4.trans (g5))))), u3.heap.size, md, md, u4.heap.size, by omega, by omega, (hq1.ext (g5)), (hq2.ext (g5))⟩, rfl⟩
      exact AllReadyH.nil
      refine cons_l (i := 9) rfl (fun K hK => ?_) ?_
      go_simp; obtain ⟨bH0, u4, hu, hb, g4, kH0, mH0, nH0, lH0⟩ := alloc_named u3 26 #[.int .i64 0, .int .i64 0, .int .i64 0, .int .i64 0, .int .i64 0, .int .i64 0, .int .i64 0, .int .i64 0, .int .i64 0, .slice none 0 0]; rw [← hu]; (try rw [← hb]); clear hu hb
      have x4 := x3.trans g4; have z4 := g4.size; have KH0 := Lib.hid kH0; clear kH0
      refine hK.out _ _ ?_ (fun hH4 => ?_)
      · (try dsimp only)
        exact HSK.out _ x4
      clear hK K hH3
      (try simp only [Act.put, List.setIfInBounds_toArray, List.set_cons_zero, List.set_cons_succ])
      refine wpAnyH_ready (rs := [4]) (by kernel_rfl) (by simp) ?_
      refine cons_l (i := 4) rfl (fun K hK => ?_) ?_
      go_simp; (go_at_call 30; with_reducible refine (implLeave_any ts1 n1 ut rows1 m1 ok _ _ _ _ _ _ _ _ _ _ _ _ ts _ _ _ _ _ _ _ ps xs _ HN.out hs2 HTS.out (OT0.out.ext (g3.trans (g4))).trains HT.out htl2 HP.out hpl2 (OR1.out.ext (g4)).pts (OR1.out.ext (g4)).ints HVOL.out (Nat.le_refl _) (by omega) HN1.out HMR.out HRES.out).mono ?_)
      rintro e u5 ⟨p, q, p1, q1, rfl, hlr, g5⟩
      have x5 := x4.trans g5; have z5 := g5.size
      obtain ⟨md, hmd, hq1, hq2⟩ := hlr
      refine hK.out _ _ ?_ (fun hH5 => ?_)
      · (try dsimp only)
        exact HSK.out _ x5
      clear hK K hH4
      (try simp only [Act.put, List.setIfInBounds_toArray, List.set_cons_zero, List.set_cons_succ])
      refine take_l 5 (v := ?_) rfl (by kernel_rfl) (by kernel_rfl) (by kernel_rfl) (fun _ _ _ h => h) (by rfl) ?_ (by assumption) ?_
      rotate_left
      · (intro w hSw; (try dsimp only at hSw); go_simp; (try with_reducible rfl))
      (try simp only [Act.put, List.setIfInBounds_toArray, List.set_cons_zero, List.set_cons_succ])
      refine take_l 6 (v := ?_) rfl (by kernel_rfl) (by kernel_rfl) (by kernel_rfl) (fun _ _ _ h => h) (by rfl) ?_ (by assumption) ?_
      rotate_left
      · (intro w hSw; (try dsimp only at hSw); go_simp; (try with_reducible rfl))
      (try simp only [Act.put, List.setIfInBounds_toArray, List.set_cons_zero, List.set_cons_succ])
      refine take_l 7 (v := ?_) rfl (by kernel_rfl) (by kernel_rfl) (by kernel_rfl) (fun _ _ _ h => h) (by rfl) ?_ (by assumption) ?_
      rotate_left
      · (intro w hSw; (try dsimp only at hSw); go_simp; (try with_reducible rfl))
      (try simp only [Act.put, List.setIfInBounds_toArray, List.set_cons_zero, List.set_cons_succ])
      refine take_l 8 (v := ?_) rfl (by kernel_rfl) (by kernel_rfl) (by kernel_rfl) (fun _ _ _ h => h) (by rfl) ?_ (by assumption) ?_
      rotate_left
      · (intro w hSw; (try dsimp only at hSw); go_simp; (try with_reducible rfl))
      (try simp only [Act.put, List.setIfInBounds_toArray, List.set_cons_zero, List.set_cons_succ])
      exact hcut _ _ ⟨bH0, bJ0, p, q, p1, q1, yo, yn, aZ0, fZ1, gZ1, yd3, yd4, ⟨x5, ⟨by omega, by omega⟩, ⟨by omega, by omega⟩, by omega, (KH0.out.ext (g5)), (KJ0.out.ext (g2.trans (g3.trans (g4.trans (g5))))), u4.heap.size, md, md, u5.heap.size, by omega, by omega, hq1, hq2⟩, rfl⟩
      exact AllReadyH.nil
      exact AllReadyH.nil
      refine cons_l (i := 9) rfl (fun K hK => ?_) ?_
      go_simp; obtain ⟨bH0, u3, hu, hb, g3, kH0, mH0, nH0, lH0⟩ := alloc_named u2 26 #[.int .i64 0, .int .i64 0, .int .i64 0, .int .i64 0, .int .i64 0, .int .i64 0, .int .i64 0, .int .i64 0, .int .i64 0, .slice none 0 0]; rw [← hu]; (try rw [← hb]); clear hu hb
      have x3 := x2.trans g3; have z3 := g3.size; have KH0 := Lib.hid kH0; clear kH0
      refine hK.out _ _ ?_ (fun hH3 => ?_)
      · (try dsimp only)
        exact HSK.out _ x3
      clear hK K hH2
      (try simp only [Act.put, List.setIfInBounds_toArray, List.set_cons_zero, List.set_cons_succ])
      refine wpAnyH_ready (rs := [3]) (by kernel_rfl) (by simp) ?_
      refine cons_l (i := 3) rfl (fun K hK => ?_) ?_
      go_simp; (go_at_call 45; with_reducible refine (toReach_any _ _ _ _ _ _ _ ps xs _ HT.out htl2 HP.out hpl2 (HFT.out.ext (HW19.out.trans x3)) (HFP.out.ext (HW19.out.trans x3))).mono ?_)
      rintro e u4 ⟨fZ1, gZ1, midZ1, rfl, hmZ1, ho, hoi, g4⟩
      have x4 := x3.trans g4; have z4 := g4.size
      have OR1 := Lib.hid (OwnReach.mk hmZ1 ho hoi)
      refine hK.out _ _ ?_ (fun hH4 => ?_)
      · (try dsimp only)
        exact HSK.out _ x4
      clear hK K hH3
      (try simp only [Act.put, List.setIfInBounds_toArray, List.set_cons_zero, List.set_cons_succ])
      refine wpAnyH_ready (rs := [4]) (by kernel_rfl) (by simp) ?_
      refine cons_l (i := 4) rfl (fun K hK => ?_) ?_
      go_simp; (go_at_call 30; with_reducible refine (implLeave_any ts1 n1 ut rows1 m1 ok _ _ _ _ _ _ _ _ _ _ _ _ ts _ _ _ _ _ _ _ ps xs _ HN.out hs2 HTS.out (OT0.out.ext (g3.trans (g4))).trains HT.out htl2 HP.out hpl2 OR1.out.pts OR1.out.ints HVOL.out (Nat.le_refl _) (by omega) HN1.out HMR.out HRES.out).mono ?_)
      rintro e u5 ⟨p, q, p1, q1, rfl, hlr, g5⟩
      have x5 := x4.trans g5; have z5 := g5.size
      obtain ⟨md, hmd, hq1, hq2⟩ := hlr
      refine hK.out _ _ ?_ (fun hH5 => ?_)
      · (try dsimp only)
        exact HSK.out _ x5
      clear hK K hH4
      (try simp only [Act.put, List.setIfInBounds_toArray, List.set_cons_zero, List.set_cons_succ])
      refine take_l 5 (v := ?_) rfl (by kernel_rfl) (by kernel_rfl) (by kernel_rfl) (fun _ _ _ h => h) (by rfl) ?_ (by assumption) ?_
      rotate_left
      · (intro w hSw; (try dsimp only at hSw); go_simp; (try with_reducible rfl))
      (try simp only [Act.put, List.setIfInBounds_toArray, List.set_cons_zero, List.set_cons_succ])
      refine take_l 6 (v := ?_) rfl (by kernel_rfl) (by kernel_rfl) (by kernel_rfl) (fun _ _ _ h => h) (by rfl) ?_ (by assumption) ?_
      rotate_left
      · (intro w hSw; (try dsimp only at hSw); go_simp; (try with_reducible rfl))
      (try simp only [Act.put, List.setIfInBounds_toArray, List.set_cons_zero, List.set_cons_succ])
      refine take_l 7 (v := ?_) rfl (by kernel_rfl) (by kernel_rfl) (by kernel_rfl) (fun _ _ _ h => h) (by rfl) ?_ (by assumption) ?_
      rotate_left
      · (intro w hSw; (try dsimp only at hSw); go_simp; (try with_reducible rfl))
      (try simp only [Act.put, List.setIfInBounds_toArray, List.set_cons_zero, List.set_cons_succ])
      refine take_l 8 (v := ?_) rfl (by kernel_rfl) (by kernel_rfl) (by kernel_rfl) (fun _ _ _ h => h) (by rfl) ?_ (by assumption) ?_
      rotate_left
      · (intro w hSw; (try dsimp only at hSw); go_simp; (try with_reducible rfl))
      (try simp only [Act.put, List.setIfInBounds_toArray, List.set_cons_zero, List.set_cons_succ])
      exact hcut _ _ ⟨bH0, bJ0, p, q, p1, q1, yo, yn, aZ0, fZ1, gZ1, yd3, yd4, ⟨x5, ⟨by omega, by omega⟩, ⟨by omega, by omega⟩, by omega, (KH0.out.ext (g4.trans (g5))), (KJ0.out.ext (g2.trans (g3.trans (g4.trans (g5))))), u4.heap.size, md, md, u5.heap.size, by omega, by omega, hq1, hq2⟩, rfl⟩
      exact AllReadyH.nil
      exact AllReadyH.nil
      exact AllReadyH.nil
      refine cons_l (i := 9) rfl (fun K hK => ?_) ?_
      go_simp; obtain ⟨bH0, u2, hu, hb, g2, kH0, mH0, nH0, lH0⟩ := alloc_named u1 26 #[.int .i64 0, .int .i64 0, .int .i64 0, .int .i64 0, .int .i64 0, .int .i64 0, .int .i64 0, .int .i64 0, .int .i64 0, .slice none 0 0]; rw [← hu]; (try rw [← hb]); clear hu hb
      have x2 := x1.trans g2; have z2 := g2.size; have KH0 := Lib.hid kH0; clear kH0
      refine hK.out _ _ ?_ (fun hH2 => ?_)
      · (try dsimp only)
        exact HSK.out _ x2
      clear hK K hH1
      (try simp only [Act.put, List.setIfInBounds_toArray, List.set_cons_zero, List.set_cons_succ])
      refine wpAnyH_ready (rs := [1]) (by kernel_rfl) (by simp) ?_
      refine cons_l (i := 1) rfl (fun K hK => ?_) ?_
      go_simp; (go_at_call 34; with_reducible refine (toLock_any _ _ _ _ _ _ _ _ _ _ _ _ ts _ HN.out hs2 HTS.out (HF.out.ext (HW19.out.trans x2))).mono ?_)
      rintro e u3 ⟨aZ0, rfl, ho, g3⟩
      have x3 := x2.trans g3; have z3 := g3.size
      have OT0 := Lib.hid (ho)
      refine hK.out _ _ ?_ (fun hH3 => ?_)
      · (try dsimp only)
        exact HSK.out _ x3
      clear hK K hH2
      (try simp only [Act.put, List.setIfInBounds_toArray, List.set_cons_zero, List.set_cons_succ])
      refine wpAnyH_ready (rs := [3]) (by kernel_rfl) (by simp) ?_
      refine cons_l (i := 3) rfl (fun K hK => ?_) ?_
      go_simp; (go_at_call 45; with_reducible refine (toReach_any _ _ _ _ _ _ _ ps xs _ HT.out htl2 HP.out hpl2 (HFT.out.ext (HW19.out.trans x3)) (HFP.out.ext (HW19.out.trans x3))).mono ?_)
      rintro e u4 ⟨fZ1, gZ1, midZ1, rfl, hmZ1, ho, hoi, g4⟩
      have x4 := x3.trans g4; have z4 := g4.size
      have OR1 := Lib.hid (OwnReach.mk hmZ1 ho hoi)
      refine hK.out _ _ ?_ (fun hH4 => ?_)
      · (try dsimp only)
        exact HSK.out _ x4
      clear hK K hH3
      (try simp only [Act.put, List.setIfInBounds_toArray, List.set_cons_zero, List.set_cons_succ])
      refine wpAnyH_ready (rs := [4]) (by kernel_rfl) (by simp) ?_
      refine cons_l (i := 4) rfl (fun K hK => ?_) ?_
      go_simp; (go_at_call 30; with_reducible refine (implLeave_any ts1 n1 ut rows1 m1 ok _ _ _ _ _ _ _ _ _ _ _ _ ts _ _ _ _ _ _ _ ps xs _ HN.out hs2 HTS.out (OT0.out.ext (g4)).trains HT.out htl2 HP.out hpl2 OR1.out.pts OR1.out.ints HVOL.out (Nat.le_refl _) (by omega) HN1.out HMR.out HRES.out).mono ?_)
      rintro e u5 ⟨p, q, p1, q1, rfl, hlr, g5⟩
      have x5 := x4.trans g5; have z5 := g5.size
      obtain ⟨md, hmd, hq1, hq2⟩ := hlr
      refine hK.out _ _ ?_ (fun hH5 => ?_)
      · (try dsimp only)
        exact HSK.out _ x5
      clear hK K hH4
      (try simp only [Act.put, List.setIfInBounds_toArray, List.set_cons_zero, List.set_cons_succ])
      refine take_l 5 (v := ?_) rfl (by kernel_rfl) (by kernel_rfl) (by kernel_rfl) (fun _ _ _ h => h) (by rfl) ?_ (by assumption) ?_
      rotate_left
      · (intro w hSw; (try dsimp only at hSw); go_simp; (try with_reducible rfl))
      (try simp only [Act.put, List.setIfInBounds_toArray, List.set_cons_zero, List.set_cons_succ])
      refine take_l 6 (v := ?_) rfl (by kernel_rfl) (by kernel_rfl) (by kernel_rfl) (fun _ _ _ h => h) (by rfl) ?_ (by assumption) ?_
      rotate_left
      · (intro w hSw; (try dsimp only at hSw); go_simp; (try with_reducible rfl))
      (try simp only [Act.put, List.setIfInBounds_toArray, List.set_cons_zero, List.set_cons_succ])
      refine take_l 7 (v := ?_) rfl (by kernel_rfl) (by kernel_rfl) (by kernel_rfl) (fun _ _ _ h => h) (by rfl) ?_ (by assumption) ?_
      rotate_left
      · (intro w hSw; (try dsimp only at hSw); go_simp; (try with_reducible rfl))
      (try simp only [Act.put, List.setIfInBounds_toArray, List.set_cons_zero, List.set_cons_succ])
      refine take_l 8 (v := ?_) rfl (by kernel_rfl) (by kernel_rfl) (by kernel_rfl) (fun _ _ _ h => h) (by rfl) ?_ (by assumption) ?_
      rotate_left
      · (intro w hSw; (try dsimp only at hSw); go_simp; (try with_reducible rfl))
      (try simp only [Act.put, List.setIfInBounds_toArray, List.set_cons_zero, List.set_cons_succ])
      exact hcut _ _ ⟨bH0, bJ0, p, q, p1, q1, yo, yn, aZ0, fZ1, gZ1, yd3, yd4, ⟨x5, ⟨by omega, by omega⟩, ⟨by omega, by omega⟩, by omega, (KH0.out.ext (g3.trans (g4.trans (g5)))), (KJ0.out.ext (g2.trans (g3.trans (g4.trans (g5))))), u4.heap.size, md, md, u5.heap.size, by omega, by omega, hq1, hq2⟩, rfl⟩
      exact AllReadyH.nil
      exact AllReadyH.nil
      exact AllReadyH.nil
      exact AllReadyH.nil
      exact AllReadyH.nil
    case k =>
      intro bH0 bJ0 pH qH fH cH yrH ydH y0 y1 y2 y3 y4 wc ⟨hx, hblk, hblk2, hbnH0, hrow, hrow2, loH0, hiH0, loJ0, hiJ0, hloH0, hhoH0, ho, ho2⟩
      have hHc := HSK.out wc hx
      have HX := Lib.hid hx; have zwc := hx.size; clear hx
      have mbH0 := hblk.1; have lbH0 := hblk.2; have mbJ0 := hblk2.1; have lbJ0 := hblk2.2; clear hblk hblk2
      have KBX0 := Lib.hid (BX0_19.out.ext HX.out)
      have KBX1 := Lib.hid (BX1_19.out.ext HX.out)
      have KH0 := Lib.hid hrow; have KJ0 := Lib.hid hrow2; have OS := Lib.hid ho; have OR := Lib.hid ho2; clear hrow hrow2 ho ho2
      refine wpAnyH_ready (rs := [11]) (by kernel_rfl) (by simp) ?_
      refine cons_l (i := 11) rfl (fun K hK => ?_) ?_
      (have hs0 := KH0.out.cell (j := 0) (v := .int .i64 0) rfl; have hf0 := KH0.out.frozen 0; have hs1 := KH0.out.cell (j := 1) (v := .int .i64 0) rfl; have hf1 := KH0.out.frozen 1; have hs2 := KH0.out.cell (j := 2) (v := .int .i64 0) rfl; have hf2 := KH0.out.frozen 2; have hs3 := KH0.out.cell (j := 3) (v := .int .i64 0) rfl; have hf3 := KH0.out.frozen 3; have hs4 := KH0.out.cell (j := 4) (v := .int .i64 0) rfl; have hf4 := KH0.out.frozen 4; have hs5 := KH0.out.cell (j := 5) (v := .int .i64 0) rfl; have hf5 := KH0.out.frozen 5; have hs6 := KH0.out.cell (j := 6) (v := .int .i64 0) rfl; have hf6 := KH0.out.frozen 6; have hs7 := KH0.out.cell (j := 7) (v := .int .i64 0) rfl; have hf7 := KH0.out.frozen 7; have hs8 := KH0.out.cell (j := 8) (v := .int .i64 0) rfl; have hf8 := KH0.out.frozen 8; have hs9 := KH0.out.cell (j := 9) (v := .slice none 0 0) rfl; have hf9 := KH0.out.frozen 9; go_simp; clear hs0 hf0 hs1 hf1 hs2 hf2 hs3 hf3 hs4 hf4 hs5 hf5 hs6 hf6 hs7 hf7 hs8 hf8 hs9 hf9; obtain ⟨wn, hwn⟩ : ∃ x, x = putAt wc (bH0) 0 [.int .i64 x0, .int .i64 x1, .int .i64 x2, .int .i64 x3, .int .i64 x4, .int .i64 x5, .int .i64 x6, .int .i64 x7, .int .i64 x8, .slice pH n1 qH] := ⟨_, rfl⟩; have en : ((((((((((wc.setCell ⟨bH0, 0, none⟩ (.int .i64 x0)).setCell ⟨bH0, 1, none⟩ (.int .i64 x1)).setCell ⟨bH0, 2, none⟩ (.int .i64 x2)).setCell ⟨bH0, 3, none⟩ (.int .i64 x3)).setCell ⟨bH0, 4, none⟩ (.int .i64 x4)).setCell ⟨bH0, 5, none⟩ (.int .i64 x5)).setCell ⟨bH0, 6, none⟩ (.int .i64 x6)).setCell ⟨bH0, 7, none⟩ (.int .i64 x7)).setCell ⟨bH0, 8, none⟩ (.int .i64 x8)).setCell ⟨bH0, 9, none⟩ (.slice pH n1 qH)) = wn := (by rw [hwn]; rfl); rw [en]; clear en; have zz11 : wc.heap.size ≤ wn.heap.size := (by rw [hwn, put_size]; exact Nat.le_refl _); (first | replace HX := Lib.hid (show Ext w19 wn by rw [hwn]; exact put_ext (by first | assumption | omega) _ _ _ HX.out) | skip); (try replace KBX0 := Lib.hid (show RowAt wn (w.heap.size) 59 _ by rw [hwn]; exact put_other (by omega) _ _ _ KBX0.out)); (try replace KBX1 := Lib.hid (show RowAt wn (w.heap.size + 1) 73 _ by rw [hwn]; exact put_other (by omega) _ _ _ KBX1.out)); replace KH0 := Lib.hid (RowAt.cast (c' := #[.int .i64 x0, .int .i64 x1, .int .i64 x2, .int .i64 x3, .int .i64 x4, .int .i64 x5, .int .i64 x6, .int .i64 x7, .int .i64 x8, .slice pH n1 qH]) (show RowAt wn (bH0) 26 (putArr #[.int .i64 0, .int .i64 0, .int .i64 0, .int .i64 0, .int .i64 0, .int .i64 0, .int .i64 0, .int .i64 0, .int .i64 0, .slice none 0 0] 0 [.int .i64 x0, .int .i64 x1, .int .i64 x2, .int .i64 x3, .int .i64 x4, .int .i64 x5, .int .i64 x6, .int .i64 x7, .int .i64 x8, .slice pH n1 qH]) by rw [hwn]; exact put_at _ _ _ _ KH0.out) (by simp [putArr])); (try replace KJ0 := Lib.hid (show RowAt wn (bJ0) 33 _ by rw [hwn]; exact put_other (by omega) _ _ _ KJ0.out)); (try replace OS := Lib.hid (OS.out.keep (w' := wn) (Nat.le_refl _) (Nat.le_refl _) (by rw [hwn]; exact put_kept (by omega)))); (try replace OR := Lib.hid (OR.out.keep (w' := wn) (Nat.le_refl _) (Nat.le_refl _) (by rw [hwn]; exact put_kept (by omega)))); clear hwn; obtain ⟨wc, hq⟩ : ∃ x, x = wn := ⟨_, rfl⟩; subst hq)
      refine hK.out _ _ ?_ (fun hHd => ?_)
      · (try dsimp only)
        exact ⟨KBX0.out.cell rfl, KBX0.out.cell rfl, KBX0.out.cell rfl, KBX0.out.cell rfl, KBX0.out.cell rfl, KBX0.out.cell rfl, KBX0.out.cell rfl, KBX0.out.cell rfl, KBX0.out.cell rfl, KBX0.out.cell rfl, KBX1.out.cell rfl, KBX1.out.cell rfl, KBX1.out.cell rfl⟩
      clear hK K hHc
      have hHc := hHd; clear hHd
      (try simp only [Act.put, List.setIfInBounds_toArray, List.set_cons_zero, List.set_cons_succ])
      refine wpAnyH_ready (rs := [12]) (by kernel_rfl) (by simp) ?_
      refine cons_l (i := 12) rfl (fun K hK => ?_) ?_
      (have hs0 := KJ0.out.cell (j := 0) (v := .bool false) rfl; have hf0 := KJ0.out.frozen 0; have hs1 := KJ0.out.cell (j := 1) (v := .slice none 0 0) rfl; have hf1 := KJ0.out.frozen 1; go_simp; clear hs0 hf0 hs1 hf1; obtain ⟨wn, hwn⟩ : ∃ x, x = putAt wc (bJ0) 0 [.bool ut, .slice fH m1 cH] := ⟨_, rfl⟩; have en : ((wc.setCell ⟨bJ0, 0, none⟩ (.bool ut)).setCell ⟨bJ0, 1, none⟩ (.slice fH m1 cH)) = wn := (by rw [hwn]; rfl); rw [en]; clear en; have zz12 : wc.heap.size ≤ wn.heap.size := (by rw [hwn, put_size]; exact Nat.le_refl _); (first | replace HX := Lib.hid (show Ext w19 wn by rw [hwn]; exact put_ext (by first | assumption | omega) _ _ _ HX.out) | skip); (try replace KBX0 := Lib.hid (show RowAt wn (w.heap.size) 59 _ by rw [hwn]; exact put_other (by omega) _ _ _ KBX0.out)); (try replace KBX1 := Lib.hid (show RowAt wn (w.heap.size + 1) 73 _ by rw [hwn]; exact put_other (by omega) _ _ _ KBX1.out)); (try replace KH0 := Lib.hid (show RowAt wn (bH0) 26 _ by rw [hwn]; exact put_other (by omega) _ _ _ KH0.out)); replace KJ0 := Lib.hid (RowAt.cast (c' := #[.bool ut, .slice fH m1 cH]) (show RowAt wn (bJ0) 33 (putArr #[.bool false, .slice none 0 0] 0 [.bool ut, .slice fH m1 cH]) by rw [hwn]; exact put_at _ _ _ _ KJ0.out) (by simp [putArr])); (try replace OS := Lib.hid (OS.out.keep (w' := wn) (Nat.le_refl _) (Nat.le_refl _) (by rw [hwn]; exact put_kept (by omega)))); (try replace OR := Lib.hid (OR.out.keep (w' := wn) (Nat.le_refl _) (Nat.le_refl _) (by rw [hwn]; exact put_kept (by omega)))); clear hwn; obtain ⟨wc, hq⟩ : ∃ x, x = wn := ⟨_, rfl⟩; subst hq)
      refine hK.out _ _ ?_ (fun hHd => ?_)
      · (try dsimp only)
        exact ⟨KBX0.out.cell rfl, KBX0.out.cell rfl, KBX0.out.cell rfl, KBX0.out.cell rfl, KBX0.out.cell rfl, KBX0.out.cell rfl, KBX0.out.cell rfl, KBX0.out.cell rfl, KBX0.out.cell rfl, KBX0.out.cell rfl, KBX1.out.cell rfl, KBX1.out.cell rfl, KBX1.out.cell rfl⟩
      clear hK K hHc
      have hHc := hHd; clear hHd
      (try simp only [Act.put, List.setIfInBounds_toArray, List.set_cons_zero, List.set_cons_succ])
      refine take_l 13 (v := ?_) rfl (by kernel_rfl) (by kernel_rfl) (by kernel_rfl) (fun _ _ _ h => h) (by rfl) ?_ (by assumption) ?_
      rotate_left
      · (intro w hSw; (try dsimp only at hSw); go_simp; (try with_reducible rfl))
      (try simp only [Act.put, List.setIfInBounds_toArray, List.set_cons_zero, List.set_cons_succ])
      refine wpAnyH_done (by kernel_rfl) ?_ _
      rotate_left
      exact AllReadyH.nil
      exact AllReadyH.nil
      obtain ⟨w20, hq⟩ : ∃ x, x = wc := ⟨_, rfl⟩; subst hq
      clear hHc HSK KBX0 KBX1
      have hb := HX.out; clear HX
      (try dsimp only)
      have hrq := KH0; have hrq2 := KJ0; have hoq := OS; have hoq2 := OR; clear KH0 KJ0 OS OR
      have HW20 := Lib.hid (HW19.out.trans hb)
      have BX0_20 := Lib.hid (BX0_19.out.ext hb)
      have BX1_20 := Lib.hid (BX1_19.out.ext hb)
      have P0_20 := Lib.hid (P0_19.out.ext hb)
      have Q0_20 := Lib.hid (Q0_19.out.ext hb)
      have X0_20 := Lib.hid (X0_19.out.ext hb)
      have X1_20 := Lib.hid (X1_19.out.ext hb)
      have G0_20 := Lib.hid (G0_19.out.ext hb)
      have V0_20 := Lib.hid (V0_19.out.ext hb)
      have OP0_20 := Lib.hid (OP0_19.out.ext hb)
      have OQ0_20 := Lib.hid (OQ0_19.out.ext hb)
      have OX0_20 := Lib.hid (OX0_19.out.ext hb)
      have OX1_20 := Lib.hid (OX1_19.out.ext hb)
      have OG0_20 := Lib.hid (OG0_19.out.ext hb)
      have OV0_20 := Lib.hid (OV0_19.out.ext hb)
      have zz20 := hb.size
      clear HW19 BX0_19 BX1_19 P0_19 Q0_19 X0_19 X1_19 G0_19 V0_19 OP0_19 OQ0_19 OX0_19 OX1_19 OG0_19 OV0_19 hb
      have OH0_20 := hoq; clear hoq
      have OJ0_20 := hoq2; clear hoq2
      have H0_20 := hrq; clear hrq
      have J0_20 := hrq2; clear hrq2
      have cH00 : w20.cell? ⟨bH0, 0, none⟩ = some (.int .i64 x0) := H0_20.out.cell rfl
      have cH01 : w20.cell? ⟨bH0, 1, none⟩ = some (.int .i64 x1) := H0_20.out.cell rfl
      have cH02 : w20.cell? ⟨bH0, 2, none⟩ = some (.int .i64 x2) := H0_20.out.cell rfl
      have cH03 : w20.cell? ⟨bH0, 3, none⟩ = some (.int .i64 x3) := H0_20.out.cell rfl
      have cH04 : w20.cell? ⟨bH0, 4, none⟩ = some (.int .i64 x4) := H0_20.out.cell rfl
      have cH05 : w20.cell? ⟨bH0, 5, none⟩ = some (.int .i64 x5) := H0_20.out.cell rfl
      have cH06 : w20.cell? ⟨bH0, 6, none⟩ = some (.int .i64 x6) := H0_20.out.cell rfl
      have cH07 : w20.cell? ⟨bH0, 7, none⟩ = some (.int .i64 x7) := H0_20.out.cell rfl
      have cH08 : w20.cell? ⟨bH0, 8, none⟩ = some (.int .i64 x8) := H0_20.out.cell rfl
      have cH09 : w20.cell? ⟨bH0, 9, none⟩ = some (.slice pH n1 qH) := H0_20.out.cell rfl
      have cP00 : w20.cell? ⟨bP0, 0, none⟩ = some (.int .i64 x0) := P0_20.out.cell rfl
      have cP01 : w20.cell? ⟨bP0, 1, none⟩ = some (.int .i64 x1) := P0_20.out.cell rfl
      have cP02 : w20.cell? ⟨bP0, 2, none⟩ = some (.int .i64 x2) := P0_20.out.cell rfl
      have cP03 : w20.cell? ⟨bP0, 3, none⟩ = some (.int .i64 x3) := P0_20.out.cell rfl
      have cP04 : w20.cell? ⟨bP0, 4, none⟩ = some (.int .i64 x4) := P0_20.out.cell rfl
      have cP05 : w20.cell? ⟨bP0, 5, none⟩ = some (.int .i64 x5) := P0_20.out.cell rfl
      have cP06 : w20.cell? ⟨bP0, 6, none⟩ = some (.int .i64 x6) := P0_20.out.cell rfl
      have cP07 : w20.cell? ⟨bP0, 7, none⟩ = some (.int .i64 x7) := P0_20.out.cell rfl
      have cP08 : w20.cell? ⟨bP0, 8, none⟩ = some (.int .i64 x8) := P0_20.out.cell rfl
      have cP09 : w20.cell? ⟨bP0, 9, none⟩ = some (.slice pP n1 qP) := P0_20.out.cell rfl
      go_wp2_with fail
      with_reducible refine (eqLock_same _ _ _ _ _ _ _ _ _ _ _ _ _ _ ts1 _ HN1.out HS1.out OH0_20.out.trains OP0_20.out.trains).mono ?_
      rintro e w21 ⟨rfl, hb⟩
      clear cH00 cH01 cH02 cH03 cH04 cH05 cH06 cH07 cH08 cH09 cP00 cP01 cP02 cP03 cP04 cP05 cP06 cP07 cP08 cP09
      have HW21 := Lib.hid (HW20.out.trans hb)
      have BX0_21 := Lib.hid (BX0_20.out.ext hb)
      have BX1_21 := Lib.hid (BX1_20.out.ext hb)
      have P0_21 := Lib.hid (P0_20.out.ext hb)
      have Q0_21 := Lib.hid (Q0_20.out.ext hb)
      have X0_21 := Lib.hid (X0_20.out.ext hb)
      have X1_21 := Lib.hid (X1_20.out.ext hb)
      have G0_21 := Lib.hid (G0_20.out.ext hb)
      have V0_21 := Lib.hid (V0_20.out.ext hb)
      have H0_21 := Lib.hid (H0_20.out.ext hb)
      have J0_21 := Lib.hid (J0_20.out.ext hb)
      have OP0_21 := Lib.hid (OP0_20.out.ext hb)
      have OQ0_21 := Lib.hid (OQ0_20.out.ext hb)
      have OX0_21 := Lib.hid (OX0_20.out.ext hb)
      have OX1_21 := Lib.hid (OX1_20.out.ext hb)
      have OG0_21 := Lib.hid (OG0_20.out.ext hb)
      have OV0_21 := Lib.hid (OV0_20.out.ext hb)
      have OH0_21 := Lib.hid (OH0_20.out.ext hb)
      have OJ0_21 := Lib.hid (OJ0_20.out.ext hb)
      have zz21 := hb.size
      clear HW20 BX0_20 BX1_20 P0_20 Q0_20 X0_20 X1_20 G0_20 V0_20 H0_20 J0_20 OP0_20 OQ0_20 OX0_20 OX1_20 OG0_20 OV0_20 OH0_20 OJ0_20 hb
      have cJ00 : w21.cell? ⟨bJ0, 0, none⟩ = some (.bool ut) := J0_21.out.cell rfl
      have cJ01 : w21.cell? ⟨bJ0, 1, none⟩ = some (.slice fH m1 cH) := J0_21.out.cell rfl
      have cQ00 : w21.cell? ⟨bQ0, 0, none⟩ = some (.bool ut) := Q0_21.out.cell rfl
      have cQ01 : w21.cell? ⟨bQ0, 1, none⟩ = some (.slice fP m1 cP) := Q0_21.out.cell rfl
      go_wp2_with fail
      with_reducible refine (eqTrain_same _ _ _ _ _ _ rows1 _ HMR.out HML.out OJ0_21.out.rows OQ0_21.out.rows).mono ?_
      rintro e w22 ⟨rfl, hb⟩
      clear cJ00 cJ01 cQ00 cQ01
      have HW22 := Lib.hid (HW21.out.trans hb)
      have BX0_22 := Lib.hid (BX0_21.out.ext hb)
      have BX1_22 := Lib.hid (BX1_21.out.ext hb)
      have P0_22 := Lib.hid (P0_21.out.ext hb)
      have Q0_22 := Lib.hid (Q0_21.out.ext hb)
      have X0_22 := Lib.hid (X0_21.out.ext hb)
      have X1_22 := Lib.hid (X1_21.out.ext hb)
      have G0_22 := Lib.hid (G0_21.out.ext hb)
      have V0_22 := Lib.hid (V0_21.out.ext hb)
      have H0_22 := Lib.hid (H0_21.out.ext hb)
      have J0_22 := Lib.hid (J0_21.out.ext hb)
      have OP0_22 := Lib.hid (OP0_21.out.ext hb)
      have OQ0_22 := Lib.hid (OQ0_21.out.ext hb)
      have OX0_22 := Lib.hid (OX0_21.out.ext hb)
      have OX1_22 := Lib.hid (OX1_21.out.ext hb)
      have OG0_22 := Lib.hid (OG0_21.out.ext hb)
      have OV0_22 := Lib.hid (OV0_21.out.ext hb)
      have OH0_22 := Lib.hid (OH0_21.out.ext hb)
      have OJ0_22 := Lib.hid (OJ0_21.out.ext hb)
      have zz22 := hb.size
      clear HW21 BX0_21 BX1_21 P0_21 Q0_21 X0_21 X1_21 G0_21 V0_21 H0_21 J0_21 OP0_21 OQ0_21 OX0_21 OX1_21 OG0_21 OV0_21 OH0_21 OJ0_21 hb
      have cG00 : w22.cell? ⟨bG0, 0, none⟩ = some (.int .i64 x0) := G0_22.out.cell rfl
      have cG01 : w22.cell? ⟨bG0, 1, none⟩ = some (.int .i64 x1) := G0_22.out.cell rfl
      have cG02 : w22.cell? ⟨bG0, 2, none⟩ = some (.int .i64 x2) := G0_22.out.cell rfl
      have cG03 : w22.cell? ⟨bG0, 3, none⟩ = some (.int .i64 x3) := G0_22.out.cell rfl
      have cG04 : w22.cell? ⟨bG0, 4, none⟩ = some (.int .i64 x4) := G0_22.out.cell rfl
      have cG05 : w22.cell? ⟨bG0, 5, none⟩ = some (.int .i64 x5) := G0_22.out.cell rfl
      have cG06 : w22.cell? ⟨bG0, 6, none⟩ = some (.int .i64 x6) := G0_22.out.cell rfl
      have cG07 : w22.cell? ⟨bG0, 7, none⟩ = some (.int .i64 x7) := G0_22.out.cell rfl
      have cG08 : w22.cell? ⟨bG0, 8, none⟩ = some (.int .i64 x8) := G0_22.out.cell rfl
      have cG09 : w22.cell? ⟨bG0, 9, none⟩ = some (.slice pG n1 qG) := G0_22.out.cell rfl
      go_wp2_with fail
      with_reducible refine (heldLock_is M1 _ _ _ _ _ _ _ _ _ _ _ _ ts1 1 _ HN1.out hs1b HTS1.out hM1b (by decide) (by decide) OG0_22.out.trains HM1.out).mono ?_
      rintro e w23 ⟨rfl, hb⟩
      clear cG00 cG01 cG02 cG03 cG04 cG05 cG06 cG07 cG08 cG09
      have HW23 := Lib.hid (HW22.out.trans hb)
      have BX0_23 := Lib.hid (BX0_22.out.ext hb)
      have BX1_23 := Lib.hid (BX1_22.out.ext hb)
      have P0_23 := Lib.hid (P0_22.out.ext hb)
      have Q0_23 := Lib.hid (Q0_22.out.ext hb)
      have X0_23 := Lib.hid (X0_22.out.ext hb)
      have X1_23 := Lib.hid (X1_22.out.ext hb)
      have G0_23 := Lib.hid (G0_22.out.ext hb)
      have V0_23 := Lib.hid (V0_22.out.ext hb)
      have H0_23 := Lib.hid (H0_22.out.ext hb)
      have J0_23 := Lib.hid (J0_22.out.ext hb)
      have OP0_23 := Lib.hid (OP0_22.out.ext hb)
      have OQ0_23 := Lib.hid (OQ0_22.out.ext hb)
      have OX0_23 := Lib.hid (OX0_22.out.ext hb)
      have OX1_23 := Lib.hid (OX1_22.out.ext hb)
      have OG0_23 := Lib.hid (OG0_22.out.ext hb)
      have OV0_23 := Lib.hid (OV0_22.out.ext hb)
      have OH0_23 := Lib.hid (OH0_22.out.ext hb)
      have OJ0_23 := Lib.hid (OJ0_22.out.ext hb)
      have zz23 := hb.size
      clear HW22 BX0_22 BX1_22 P0_22 Q0_22 X0_22 X1_22 G0_22 V0_22 H0_22 J0_22 OP0_22 OQ0_22 OX0_22 OX1_22 OG0_22 OV0_22 OH0_22 OJ0_22 hb
      have cV00 : w23.cell? ⟨bV0, 0, none⟩ = some (.bool ut) := V0_23.out.cell rfl
      have cV01 : w23.cell? ⟨bV0, 1, none⟩ = some (.slice p1 m1 q1) := V0_23.out.cell rfl
      go_wp2_with fail
      with_reducible refine (heldTrain_is T1 _ _ _ _ rows1 (1 + (M1 : Int)) _ HMR.out hm1b HRR1.out hT1b (by omega) (by omega) OV0_23.out.rows HT1.out).mono ?_
      rintro e w24 ⟨rfl, hb⟩
      clear cV00 cV01
      have HW24 := Lib.hid (HW23.out.trans hb)
      have BX0_24 := Lib.hid (BX0_23.out.ext hb)
      have BX1_24 := Lib.hid (BX1_23.out.ext hb)
      have P0_24 := Lib.hid (P0_23.out.ext hb)
      have Q0_24 := Lib.hid (Q0_23.out.ext hb)
      have X0_24 := Lib.hid (X0_23.out.ext hb)
      have X1_24 := Lib.hid (X1_23.out.ext hb)
      have G0_24 := Lib.hid (G0_23.out.ext hb)
      have V0_24 := Lib.hid (V0_23.out.ext hb)
      have H0_24 := Lib.hid (H0_23.out.ext hb)
      have J0_24 := Lib.hid (J0_23.out.ext hb)
      have OP0_24 := Lib.hid (OP0_23.out.ext hb)
      have OQ0_24 := Lib.hid (OQ0_23.out.ext hb)
      have OX0_24 := Lib.hid (OX0_23.out.ext hb)
      have OX1_24 := Lib.hid (OX1_23.out.ext hb)
      have OG0_24 := Lib.hid (OG0_23.out.ext hb)
      have OV0_24 := Lib.hid (OV0_23.out.ext hb)
      have OH0_24 := Lib.hid (OH0_23.out.ext hb)
      have OJ0_24 := Lib.hid (OJ0_23.out.ext hb)
      have zz24 := hb.size
      clear HW23 BX0_23 BX1_23 P0_23 Q0_23 X0_23 X1_23 G0_23 V0_23 H0_23 J0_23 OP0_23 OQ0_23 OX0_23 OX1_23 OG0_23 OV0_23 OH0_23 OJ0_23 hb
      have hx := HW24.out
      go_wp2
      go_ret
      exact ⟨rfl, hx⟩

theorem own : ownKnob Try.prog.godebug = none := by kernel_rfl
theorem laidOut : laidOutB Try.prog = true := Head.laidOut

set_option maxRecDepth 100000 in
theorem contract (H : Type) (enc : TypeId × Value → H) (W : World) (base : Nat) (args : Array Value) (ds gs : List (DataW H)) (before : List MemPlace)
    (hval : ∀ (j : Nat) t v, Try.f9.params[j]? = some t → args[j]? = some v → Value.okWide Try.prog W .any base t v)
    (hW : DataW.Whole enc Try.prog Try.f9.params.toList Rows.fnExactLeaveLockSpec.vars false W args.toList ds gs before) :
    Calls Try.prog 9 args W fun e W' => ∃ v, e = .returned v ∧ Rows.fnExactLeaveLockSpec.post enc Try.prog Try.f9 false true false false W args v W' := by
  have hW' := hW
  obtain ⟨p, q, hA0, hV, rfl, hfz, hnd⟩ := hW
  have hA : DataW.TrodAll enc Try.prog W 0 (fun _ => true) true Try.f9.params.toList args.toList ds p := hA0
  rw [Try.params9] at hA hval
  obtain ⟨v0, vs0, d0, ds0, p0, q0, hargs, rfl, rfl, h0, r0⟩ := trodAll_cons hA
  obtain ⟨v1, vs1, d1, ds1, p1, q1, rfl, rfl, rfl, h1, r1⟩ := trodAll_cons r0
  obtain ⟨rfl, rfl, rfl⟩ := trodAll_nil r1
  obtain rfl : args = #[v0, v1] := by cases args; simp_all
  obtain ⟨rfl, rfl⟩ := trodVars_none hV
  have hv0 := hval 0 59 v0 rfl rfl
  have hv1 := hval 1 73 v1 rfl rfl
  clear hA0 hA
  obtain ⟨x0, x1, x2, x3, x4, x5, x6, x7, x8, ts, a, c, rfl, hmax, hts, wi0, wi1⟩ := open_lock hv0 h0
  obtain ⟨ps, vol, xs, ta, pa, tc, pc, rfl, htl, hpl, hft, hfp, hvol, _, _⟩ := open_reach hv1 h1
  refine (walk x0 x1 x2 x3 x4 x5 x6 x7 x8 a _ c ts ta pa _ tc _ pc vol ps xs W rfl hmax hts wi0 wi1 rfl htl rfl hpl hft hfp hvol).mono fun e W' ⟨he, hb⟩ => ?_
  subst he
  exact ⟨_, rfl, law_post laidOut rfl (by kernel_rfl) rfl Try.underlying4 hW' rfl rfl rfl hb.below⟩

set_option maxRecDepth 100000 in
theorem lifted (os : Os) (started : os.Started) (H : Type) (enc : TypeId × Value → H) :
    ReturnsInHanded {} Try.checked os 9 .any (Rows.fnExactLeaveLockSpec.pre6 enc Try.prog Try.f9 Rows.fnExactLeaveLockRow.domain false) (Rows.fnExactLeaveLockSpec.post enc Try.prog Try.f9 false true false false) := by
  refine returnsInHanded_of_change (C := Try.checked) own started (by kernel_rfl) Try.func9
    (ChangeSpec.witness6 (enc := enc) (C := Try.checked) false ⟨#[], #[.agg #[.int .i64 0, .int .i64 0, .int .i64 0, .int .i64 0, .int .i64 0, .int .i64 0, .int .i64 0, .int .i64 0, .int .i64 0, .slice none 0 0], .agg #[.slice none 0 0, .int .i64 0, .slice none 0 0]], []⟩ 8 (by kernel_rfl) (by kernel_rfl) (by kernel_rfl) (by kernel_rfl)) ?_
  intro W base args ds gs before hval hW _ _
  exact contract H enc W base args ds gs before hval hW

theorem closed : joinedFacts Try.prog 9 Try.f9 Rows.fnExactLeaveLockSpec Rows.fnExactLeaveLockRow = true := by
  unfold joinedFacts
  rw [Head.laidOut, Head.mapsRowed, Head.stopsHeard, Head.mayEnter, Head.liftsFinal, Head.make, Head.plainKeys]
  kernel_rfl
theorem proved : Rows.FnExactLeaveLockSaid :=
  OpenClaim.holds_of_wide 9 Try.f9 rfl rfl rfl rfl rfl rfl rfl ⟨rfl, rfl, rfl, rfl, rfl⟩ rfl rfl rfl rfl rfl (by kernel_rfl) Try.func9 closed
    (of_decide_eq_true (by kernel_rfl)) (by unfold Func.isWrapper; first | (rw [if_pos (by decide +kernel)]; kernel_rfl) | (rw [if_neg (by decide +kernel)]; exact ⟨rfl, rfl⟩))
    (fun os started H enc _ => lifted os started H enc)
end Go.Proofs.Ytknpdhafafomaaa.lawLeaveLock
