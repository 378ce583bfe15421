/- For every lock, reach and train, the program and the reference agree on the lock that EnterLock returns and on whether the train was let in, and the lock shares no memory with others. -/
import Derived.Test.YtphhjfcmglhlfaaRows
import Derived.Test.YtphhjfcmglhlfaaHead
import Derived.Test.YtphhjfcmglhlfaaEnterLS
import Derived.Test.YtphhjfcmglhlfaaWays
import Derived.Test.YtphhjfcmglhlfaaOwnR
import Derived.Test.YtphhjfcmglhlfaaMarkT
import Derived.Test.YtphhjfcmglhlfaaMarkR
import Derived.Test.YtphhjfcmglhlfaaOpenL
import Derived.Deep.RegionHeld3
namespace Go.Proofs.Ytphhjfcmglhlfaa.lawEnterLock
open Go.ChangeShapes Go.WideShapes Go.ChangeAt Go.RowKit Go.Joins
set_option linter.unusedVariables false
set_option linter.unusedSimpArgs false

theorem mLen_few : ∀ (ts : List Tn), (∀ t ∈ ts, SmallT t) → mLen ts ≤ ts.length * 6291457
  | [], _ => by simp [mLen]
  | t :: ts, h => by
    have h1 := (h t (by simp)).2.2
    rw [← total_flatten] at h1
    have ih := mLen_few ts (fun x hx => h x (by simp [hx]))
    rw [List.length_cons]
    simp only [mLen]
    omega
theorem enterRes_b {x0 x1 x2 x3 x4 x5 x6 x7 x8 : Int} {ts : List Tn} {ps : List Pt} {vol : Int} {xs : List Int} {u : Bool} {rows : List (List Bt)} {ts1 : List Tn} {ok : Bool} (h : enterRes x0 x1 x2 x3 x4 x5 x6 x7 x8 ts ps vol xs u rows = (ts1, ok)) (hs : ts.length ≤ 1048576) (hts : ∀ t ∈ ts, SmallT t) (ht : SmallT (u, rows)) (hm : mLen ts ≤ 1073741824) : ts1.length ≤ 1048576 ∧ (∀ t ∈ ts1, SmallT t) ∧ mLen ts1 ≤ 1073741824 := by
  unfold enterRes at h
  split at h
  · rename_i hc
    have h8 := mayEnter_lock hc
    split at h
    · obtain ⟨rfl, _⟩ := Prod.mk.inj h
      have hsm : ∀ t ∈ ts ++ [(u, rows)], SmallT t := fun t ht' => by
        rcases List.mem_append.1 ht' with h' | h'
        · exact hts t h'
        · rw [List.mem_singleton.1 h']; exact ht
      have hl : (ts ++ [(u, rows)]).length = ts.length + 1 := by rw [List.length_append]; rfl
      have := mLen_few _ hsm
      rw [hl] at this
      exact ⟨by rw [hl]; omega, hsm, by omega⟩
    · obtain ⟨rfl, _⟩ := Prod.mk.inj h
      exact ⟨hs, hts, hm⟩
  · obtain ⟨rfl, _⟩ := Prod.mk.inj h
    exact ⟨hs, hts, hm⟩

set_option maxRecDepth 100000 in
set_option maxHeartbeats 4000000 in
theorem walk (x0 x1 x2 x3 x4 x5 x6 x7 x8 : Int) (a : Option Addr) (n c : Nat) (ts : List Tn) (ta pa : Option Addr) (tn tc pn pc : Nat) (vol : Int) (ps : List Pt) (xs : List Int) (u : Bool) (ra : Option Addr) (rn rc : Nat) (rows : List (List Bt)) (w : World) (hn : n = ts.length) (hs : n ≤ maxLen) (hf : TrainsAt w a ts) (hi0 : I64 x0) (hi1 : I64 x1) (ht : tn = ps.length) (htl : tn ≤ maxLen) (hp : pn = xs.length) (hpl : pn ≤ maxLen) (hft : FlatAt w ptCells 2 ta ps) (hfp : IntsAt w pa xs) (hvol : -9223372036854775808 ≤ vol ∧ vol ≤ 9223372036854775807) (hrn : rn = rows.length) (hrs : rn ≤ maxLen) (hfr : RowsAt w ra rows) :
    Calls Try.prog 6 #[.agg #[.int .i64 x0, .int .i64 x1, .int .i64 x2, .int .i64 x3, .int .i64 x4, .int .i64 x5, .int .i64 x6, .int .i64 x7, .int .i64 x8, .slice a n c], .agg #[.slice ta tn tc, .int .i64 vol, .slice pa pn pc], .agg #[.bool u, .slice ra rn rc]] w fun e w' => e = .returned (.bool true) ∧ Ext w w' := by
  have HF := Lib.hid hf; clear hf
  have HI0 := Lib.hid hi0; clear hi0
  have HI1 := Lib.hid hi1; clear hi1
  have HFT := Lib.hid hft; clear hft
  have HFP := Lib.hid hfp; clear hfp
  have HVOL := Lib.hid hvol; clear hvol
  have HT := Lib.hid ht; clear ht
  have HP := Lib.hid hp; clear hp
  have HTL := Lib.hid htl
  have HPL := Lib.hid hpl
  have HFR := Lib.hid hfr; clear hfr
  have HRL := Lib.hid hrs
  have HN := Lib.hid hn
  have HS := Lib.hid hs
  have HRN := Lib.hid hrn
  obtain ⟨z0, hzz0⟩ : ∃ z, szTrains 1048576 ts = z := ⟨_, rfl⟩
  have HZ0 := Lib.hid hzz0
  have HN0 := HN
  by_cases hneg0 : z0 < 0
  · have d0 : decide (z0 < 0) = true := by simpa using hneg0
    clear hzz0 hn  hrn
    have BA0 := Lib.hid (show RowAt (((w.alloc (.cells #[.int .i64 x0, .int .i64 x1, .int .i64 x2, .int .i64 x3, .int .i64 x4, .int .i64 x5, .int .i64 x6, .int .i64 x7, .int .i64 x8, .slice a n c] 59)).alloc (.cells #[.slice ta tn tc, .int .i64 vol, .slice pa pn pc] 62)).alloc (.cells #[.bool u, .slice ra rn rc] 65)) (w.heap.size) 59 #[.int .i64 x0, .int .i64 x1, .int .i64 x2, .int .i64 x3, .int .i64 x4, .int .i64 x5, .int .i64 x6, .int .i64 x7, .int .i64 x8, .slice a n c] from by
      have h := (RowAt.new w 59 #[.int .i64 x0, .int .i64 x1, .int .i64 x2, .int .i64 x3, .int .i64 x4, .int .i64 x5, .int .i64 x6, .int .i64 x7, .int .i64 x8, .slice a n c]).ext (((Ext.refl _).alloc (.cells #[.slice ta tn tc, .int .i64 vol, .slice pa pn pc] 62)).alloc (.cells #[.bool u, .slice ra rn rc] 65))
      exact h)
    have BA1 := Lib.hid (show RowAt (((w.alloc (.cells #[.int .i64 x0, .int .i64 x1, .int .i64 x2, .int .i64 x3, .int .i64 x4, .int .i64 x5, .int .i64 x6, .int .i64 x7, .int .i64 x8, .slice a n c] 59)).alloc (.cells #[.slice ta tn tc, .int .i64 vol, .slice pa pn pc] 62)).alloc (.cells #[.bool u, .slice ra rn rc] 65)) (w.heap.size + 1) 62 #[.slice ta tn tc, .int .i64 vol, .slice pa pn pc] from by
      have h := (RowAt.new (w.alloc (.cells #[.int .i64 x0, .int .i64 x1, .int .i64 x2, .int .i64 x3, .int .i64 x4, .int .i64 x5, .int .i64 x6, .int .i64 x7, .int .i64 x8, .slice a n c] 59)) 62 #[.slice ta tn tc, .int .i64 vol, .slice pa pn pc]).ext ((Ext.refl _).alloc (.cells #[.bool u, .slice ra rn rc] 65))
      simp only [World.size_alloc] at h
      exact h)
    have BA2 := Lib.hid (show RowAt (((w.alloc (.cells #[.int .i64 x0, .int .i64 x1, .int .i64 x2, .int .i64 x3, .int .i64 x4, .int .i64 x5, .int .i64 x6, .int .i64 x7, .int .i64 x8, .slice a n c] 59)).alloc (.cells #[.slice ta tn tc, .int .i64 vol, .slice pa pn pc] 62)).alloc (.cells #[.bool u, .slice ra rn rc] 65)) (w.heap.size + 1 + 1) 65 #[.bool u, .slice ra rn rc] from by
      have h := (RowAt.new ((w.alloc (.cells #[.int .i64 x0, .int .i64 x1, .int .i64 x2, .int .i64 x3, .int .i64 x4, .int .i64 x5, .int .i64 x6, .int .i64 x7, .int .i64 x8, .slice a n c] 59)).alloc (.cells #[.slice ta tn tc, .int .i64 vol, .slice pa pn pc] 62)) 65 #[.bool u, .slice ra rn rc]).ext (Ext.refl _)
      simp only [World.size_alloc] at h
      exact h)
    have HE0 := Lib.hid (show Ext w (((w.alloc (.cells #[.int .i64 x0, .int .i64 x1, .int .i64 x2, .int .i64 x3, .int .i64 x4, .int .i64 x5, .int .i64 x6, .int .i64 x7, .int .i64 x8, .slice a n c] 59)).alloc (.cells #[.slice ta tn tc, .int .i64 vol, .slice pa pn pc] 62)).alloc (.cells #[.bool u, .slice ra rn rc] 65)) from ((((Ext.refl w).alloc _).alloc _).alloc _))
    go_enter Try.func6, Try.ntmps6
    go_wp2_with fail
    with_reducible refine (szLock_any z0 _ _ _ _ _ _ _ _ _ _ _ _ ts _ HN.out HS.out (by decide) (by decide) _ (HF.out.ext (HE0.out)) HZ0.out).mono ?_
    rintro e s0 ⟨rfl, hb⟩
    have XS0 := Lib.hid (show Ext (((w.alloc (.cells #[.int .i64 x0, .int .i64 x1, .int .i64 x2, .int .i64 x3, .int .i64 x4, .int .i64 x5, .int .i64 x6, .int .i64 x7, .int .i64 x8, .slice a n c] 59)).alloc (.cells #[.slice ta tn tc, .int .i64 vol, .slice pa pn pc] 62)).alloc (.cells #[.bool u, .slice ra rn rc] 65)) s0 from hb)
    clear hb
    go_wp2
    go_ret
    exact ⟨rfl, HE0.out.trans XS0.out⟩
  obtain ⟨hs2, hts, hy0'⟩ := szTrains_bounds (l := 1048576) (by decide) (by decide) (by rw [hzz0]; exact hneg0)
  rw [← hn] at hs2
  rw [hzz0] at hy0'
  have HTS := Lib.hid hts
  have hTb := szTrains_mlen (l := 1048576) (by decide) (by decide) (by rw [hzz0]; exact hneg0)
  have hz0 : 0 ≤ z0 := by omega
  have hy0 : z0 ≤ 1048576 := by omega
  have d0 : decide (z0 < 0) = false := by simpa using hneg0
  obtain ⟨z1, hzz1⟩ : ∃ z, (if szRow z0 tn < 0 then -1 else szRow (szRow z0 tn) pn) = z := ⟨_, rfl⟩
  have HZ1 := Lib.hid hzz1
  by_cases hneg1 : z1 < 0
  · have d1 : decide (z1 < 0) = true := by simpa using hneg1
    clear hzz0 hzz1 hn  hrn
    have BA0 := Lib.hid (show RowAt (((w.alloc (.cells #[.int .i64 x0, .int .i64 x1, .int .i64 x2, .int .i64 x3, .int .i64 x4, .int .i64 x5, .int .i64 x6, .int .i64 x7, .int .i64 x8, .slice a n c] 59)).alloc (.cells #[.slice ta tn tc, .int .i64 vol, .slice pa pn pc] 62)).alloc (.cells #[.bool u, .slice ra rn rc] 65)) (w.heap.size) 59 #[.int .i64 x0, .int .i64 x1, .int .i64 x2, .int .i64 x3, .int .i64 x4, .int .i64 x5, .int .i64 x6, .int .i64 x7, .int .i64 x8, .slice a n c] from by
      have h := (RowAt.new w 59 #[.int .i64 x0, .int .i64 x1, .int .i64 x2, .int .i64 x3, .int .i64 x4, .int .i64 x5, .int .i64 x6, .int .i64 x7, .int .i64 x8, .slice a n c]).ext (((Ext.refl _).alloc (.cells #[.slice ta tn tc, .int .i64 vol, .slice pa pn pc] 62)).alloc (.cells #[.bool u, .slice ra rn rc] 65))
      exact h)
    have BA1 := Lib.hid (show RowAt (((w.alloc (.cells #[.int .i64 x0, .int .i64 x1, .int .i64 x2, .int .i64 x3, .int .i64 x4, .int .i64 x5, .int .i64 x6, .int .i64 x7, .int .i64 x8, .slice a n c] 59)).alloc (.cells #[.slice ta tn tc, .int .i64 vol, .slice pa pn pc] 62)).alloc (.cells #[.bool u, .slice ra rn rc] 65)) (w.heap.size + 1) 62 #[.slice ta tn tc, .int .i64 vol, .slice pa pn pc] from by
      have h := (RowAt.new (w.alloc (.cells #[.int .i64 x0, .int .i64 x1, .int .i64 x2, .int .i64 x3, .int .i64 x4, .int .i64 x5, .int .i64 x6, .int .i64 x7, .int .i64 x8, .slice a n c] 59)) 62 #[.slice ta tn tc, .int .i64 vol, .slice pa pn pc]).ext ((Ext.refl _).alloc (.cells #[.bool u, .slice ra rn rc] 65))
      simp only [World.size_alloc] at h
      exact h)
    have BA2 := Lib.hid (show RowAt (((w.alloc (.cells #[.int .i64 x0, .int .i64 x1, .int .i64 x2, .int .i64 x3, .int .i64 x4, .int .i64 x5, .int .i64 x6, .int .i64 x7, .int .i64 x8, .slice a n c] 59)).alloc (.cells #[.slice ta tn tc, .int .i64 vol, .slice pa pn pc] 62)).alloc (.cells #[.bool u, .slice ra rn rc] 65)) (w.heap.size + 1 + 1) 65 #[.bool u, .slice ra rn rc] from by
      have h := (RowAt.new ((w.alloc (.cells #[.int .i64 x0, .int .i64 x1, .int .i64 x2, .int .i64 x3, .int .i64 x4, .int .i64 x5, .int .i64 x6, .int .i64 x7, .int .i64 x8, .slice a n c] 59)).alloc (.cells #[.slice ta tn tc, .int .i64 vol, .slice pa pn pc] 62)) 65 #[.bool u, .slice ra rn rc]).ext (Ext.refl _)
      simp only [World.size_alloc] at h
      exact h)
    have HE0 := Lib.hid (show Ext w (((w.alloc (.cells #[.int .i64 x0, .int .i64 x1, .int .i64 x2, .int .i64 x3, .int .i64 x4, .int .i64 x5, .int .i64 x6, .int .i64 x7, .int .i64 x8, .slice a n c] 59)).alloc (.cells #[.slice ta tn tc, .int .i64 vol, .slice pa pn pc] 62)).alloc (.cells #[.bool u, .slice ra rn rc] 65)) from ((((Ext.refl w).alloc _).alloc _).alloc _))
    go_enter Try.func6, Try.ntmps6
    go_wp2_with fail
    with_reducible refine (szLock_any z0 _ _ _ _ _ _ _ _ _ _ _ _ ts _ HN.out HS.out (by decide) (by decide) _ (HF.out.ext (HE0.out)) HZ0.out).mono ?_
    rintro e s0 ⟨rfl, hb⟩
    have XS0 := Lib.hid (show Ext (((w.alloc (.cells #[.int .i64 x0, .int .i64 x1, .int .i64 x2, .int .i64 x3, .int .i64 x4, .int .i64 x5, .int .i64 x6, .int .i64 x7, .int .i64 x8, .slice a n c] 59)).alloc (.cells #[.slice ta tn tc, .int .i64 vol, .slice pa pn pc] 62)).alloc (.cells #[.bool u, .slice ra rn rc] 65)) s0 from hb)
    clear hb
    have s1_0 : s0.cell? ⟨w.heap.size + 1, 0, none⟩ = some (.slice ta tn tc) := (BA1.out.ext XS0.out).cell rfl
    have s1_1 : s0.cell? ⟨w.heap.size + 1, 1, none⟩ = some (.int .i64 vol) := (BA1.out.ext XS0.out).cell rfl
    have s1_2 : s0.cell? ⟨w.heap.size + 1, 2, none⟩ = some (.slice pa pn pc) := (BA1.out.ext XS0.out).cell rfl
    go_wp2_with fail
    with_reducible refine (szReach_any z1 _ _ _ _ _ _ _ _ HTL.out HPL.out hz0 hy0 _ HZ1.out).mono ?_
    rintro e s1 ⟨rfl, hb⟩
    have XS1 := Lib.hid (show Ext (((w.alloc (.cells #[.int .i64 x0, .int .i64 x1, .int .i64 x2, .int .i64 x3, .int .i64 x4, .int .i64 x5, .int .i64 x6, .int .i64 x7, .int .i64 x8, .slice a n c] 59)).alloc (.cells #[.slice ta tn tc, .int .i64 vol, .slice pa pn pc] 62)).alloc (.cells #[.bool u, .slice ra rn rc] 65)) s1 from XS0.out.trans hb)
    clear hb s1_0 s1_1 s1_2
    go_wp2
    go_ret
    exact ⟨rfl, HE0.out.trans XS1.out⟩
  obtain ⟨htl2, hpl2, hy1'⟩ := szReach_bounds hz0 hy0 (by rw [hzz1]; exact hneg1)
  rw [hzz1] at hy1'
  have hz1 : 0 ≤ z1 := by omega
  have hy1 : z1 ≤ 1048576 := by omega
  have d1 : decide (z1 < 0) = false := by simpa using hneg1
  obtain ⟨z2, hzz2⟩ : ∃ z, szRows z1 rows = z := ⟨_, rfl⟩
  have HZ2 := Lib.hid hzz2
  by_cases hneg2 : z2 < 0
  · have d2 : decide (z2 < 0) = true := by simpa using hneg2
    clear hzz0 hzz1 hzz2 hn  hrn
    have BA0 := Lib.hid (show RowAt (((w.alloc (.cells #[.int .i64 x0, .int .i64 x1, .int .i64 x2, .int .i64 x3, .int .i64 x4, .int .i64 x5, .int .i64 x6, .int .i64 x7, .int .i64 x8, .slice a n c] 59)).alloc (.cells #[.slice ta tn tc, .int .i64 vol, .slice pa pn pc] 62)).alloc (.cells #[.bool u, .slice ra rn rc] 65)) (w.heap.size) 59 #[.int .i64 x0, .int .i64 x1, .int .i64 x2, .int .i64 x3, .int .i64 x4, .int .i64 x5, .int .i64 x6, .int .i64 x7, .int .i64 x8, .slice a n c] from by
      have h := (RowAt.new w 59 #[.int .i64 x0, .int .i64 x1, .int .i64 x2, .int .i64 x3, .int .i64 x4, .int .i64 x5, .int .i64 x6, .int .i64 x7, .int .i64 x8, .slice a n c]).ext (((Ext.refl _).alloc (.cells #[.slice ta tn tc, .int .i64 vol, .slice pa pn pc] 62)).alloc (.cells #[.bool u, .slice ra rn rc] 65))
      exact h)
    have BA1 := Lib.hid (show RowAt (((w.alloc (.cells #[.int .i64 x0, .int .i64 x1, .int .i64 x2, .int .i64 x3, .int .i64 x4, .int .i64 x5, .int .i64 x6, .int .i64 x7, .int .i64 x8, .slice a n c] 59)).alloc (.cells #[.slice ta tn tc, .int .i64 vol, .slice pa pn pc] 62)).alloc (.cells #[.bool u, .slice ra rn rc] 65)) (w.heap.size + 1) 62 #[.slice ta tn tc, .int .i64 vol, .slice pa pn pc] from by
      have h := (RowAt.new (w.alloc (.cells #[.int .i64 x0, .int .i64 x1, .int .i64 x2, .int .i64 x3, .int .i64 x4, .int .i64 x5, .int .i64 x6, .int .i64 x7, .int .i64 x8, .slice a n c] 59)) 62 #[.slice ta tn tc, .int .i64 vol, .slice pa pn pc]).ext ((Ext.refl _).alloc (.cells #[.bool u, .slice ra rn rc] 65))
      simp only [World.size_alloc] at h
      exact h)
    have BA2 := Lib.hid (show RowAt (((w.alloc (.cells #[.int .i64 x0, .int .i64 x1, .int .i64 x2, .int .i64 x3, .int .i64 x4, .int .i64 x5, .int .i64 x6, .int .i64 x7, .int .i64 x8, .slice a n c] 59)).alloc (.cells #[.slice ta tn tc, .int .i64 vol, .slice pa pn pc] 62)).alloc (.cells #[.bool u, .slice ra rn rc] 65)) (w.heap.size + 1 + 1) 65 #[.bool u, .slice ra rn rc] from by
      have h := (RowAt.new ((w.alloc (.cells #[.int .i64 x0, .int .i64 x1, .int .i64 x2, .int .i64 x3, .int .i64 x4, .int .i64 x5, .int .i64 x6, .int .i64 x7, .int .i64 x8, .slice a n c] 59)).alloc (.cells #[.slice ta tn tc, .int .i64 vol, .slice pa pn pc] 62)) 65 #[.bool u, .slice ra rn rc]).ext (Ext.refl _)
      simp only [World.size_alloc] at h
      exact h)
    have HE0 := Lib.hid (show Ext w (((w.alloc (.cells #[.int .i64 x0, .int .i64 x1, .int .i64 x2, .int .i64 x3, .int .i64 x4, .int .i64 x5, .int .i64 x6, .int .i64 x7, .int .i64 x8, .slice a n c] 59)).alloc (.cells #[.slice ta tn tc, .int .i64 vol, .slice pa pn pc] 62)).alloc (.cells #[.bool u, .slice ra rn rc] 65)) from ((((Ext.refl w).alloc _).alloc _).alloc _))
    go_enter Try.func6, Try.ntmps6
    go_wp2_with fail
    with_reducible refine (szLock_any z0 _ _ _ _ _ _ _ _ _ _ _ _ ts _ HN.out HS.out (by decide) (by decide) _ (HF.out.ext (HE0.out)) HZ0.out).mono ?_
    rintro e s0 ⟨rfl, hb⟩
    have XS0 := Lib.hid (show Ext (((w.alloc (.cells #[.int .i64 x0, .int .i64 x1, .int .i64 x2, .int .i64 x3, .int .i64 x4, .int .i64 x5, .int .i64 x6, .int .i64 x7, .int .i64 x8, .slice a n c] 59)).alloc (.cells #[.slice ta tn tc, .int .i64 vol, .slice pa pn pc] 62)).alloc (.cells #[.bool u, .slice ra rn rc] 65)) s0 from hb)
    clear hb
    have s1_0 : s0.cell? ⟨w.heap.size + 1, 0, none⟩ = some (.slice ta tn tc) := (BA1.out.ext XS0.out).cell rfl
    have s1_1 : s0.cell? ⟨w.heap.size + 1, 1, none⟩ = some (.int .i64 vol) := (BA1.out.ext XS0.out).cell rfl
    have s1_2 : s0.cell? ⟨w.heap.size + 1, 2, none⟩ = some (.slice pa pn pc) := (BA1.out.ext XS0.out).cell rfl
    go_wp2_with fail
    with_reducible refine (szReach_any z1 _ _ _ _ _ _ _ _ HTL.out HPL.out hz0 hy0 _ HZ1.out).mono ?_
    rintro e s1 ⟨rfl, hb⟩
    have XS1 := Lib.hid (show Ext (((w.alloc (.cells #[.int .i64 x0, .int .i64 x1, .int .i64 x2, .int .i64 x3, .int .i64 x4, .int .i64 x5, .int .i64 x6, .int .i64 x7, .int .i64 x8, .slice a n c] 59)).alloc (.cells #[.slice ta tn tc, .int .i64 vol, .slice pa pn pc] 62)).alloc (.cells #[.bool u, .slice ra rn rc] 65)) s1 from XS0.out.trans hb)
    clear hb s1_0 s1_1 s1_2
    have s2_0 : s1.cell? ⟨w.heap.size + 1 + 1, 0, none⟩ = some (.bool u) := (BA2.out.ext XS1.out).cell rfl
    have s2_1 : s1.cell? ⟨w.heap.size + 1 + 1, 1, none⟩ = some (.slice ra rn rc) := (BA2.out.ext XS1.out).cell rfl
    go_wp2_with fail
    with_reducible refine (szTrain_is z2 _ _ _ _ rows _ HRN.out HRL.out hz1 hy1 _ (HFR.out.ext (HE0.out.trans XS1.out)) HZ2.out).mono ?_
    rintro e s2 ⟨rfl, hb⟩
    have XS2 := Lib.hid (show Ext (((w.alloc (.cells #[.int .i64 x0, .int .i64 x1, .int .i64 x2, .int .i64 x3, .int .i64 x4, .int .i64 x5, .int .i64 x6, .int .i64 x7, .int .i64 x8, .slice a n c] 59)).alloc (.cells #[.slice ta tn tc, .int .i64 vol, .slice pa pn pc] 62)).alloc (.cells #[.bool u, .slice ra rn rc] 65)) s2 from XS1.out.trans hb)
    clear hb s2_0 s2_1
    go_wp2
    go_ret
    exact ⟨rfl, HE0.out.trans XS2.out⟩
  obtain ⟨hrs2, hrr, hrt⟩ := szRows_bounds (L := z1) hz1 hy1 (by rw [hzz2]; exact hneg2)
  rw [← hrn] at hrs2
  have HRR := Lib.hid hrr
  have HRT := Lib.hid hrt
  have d2 : decide (z2 < 0) = false := by simpa using hneg2
  clear hzz0 hzz1 hzz2 hn  hrn
  have BA0 := Lib.hid (show RowAt (((w.alloc (.cells #[.int .i64 x0, .int .i64 x1, .int .i64 x2, .int .i64 x3, .int .i64 x4, .int .i64 x5, .int .i64 x6, .int .i64 x7, .int .i64 x8, .slice a n c] 59)).alloc (.cells #[.slice ta tn tc, .int .i64 vol, .slice pa pn pc] 62)).alloc (.cells #[.bool u, .slice ra rn rc] 65)) (w.heap.size) 59 #[.int .i64 x0, .int .i64 x1, .int .i64 x2, .int .i64 x3, .int .i64 x4, .int .i64 x5, .int .i64 x6, .int .i64 x7, .int .i64 x8, .slice a n c] from by
    have h := (RowAt.new w 59 #[.int .i64 x0, .int .i64 x1, .int .i64 x2, .int .i64 x3, .int .i64 x4, .int .i64 x5, .int .i64 x6, .int .i64 x7, .int .i64 x8, .slice a n c]).ext (((Ext.refl _).alloc (.cells #[.slice ta tn tc, .int .i64 vol, .slice pa pn pc] 62)).alloc (.cells #[.bool u, .slice ra rn rc] 65))
    exact h)
  have BA1 := Lib.hid (show RowAt (((w.alloc (.cells #[.int .i64 x0, .int .i64 x1, .int .i64 x2, .int .i64 x3, .int .i64 x4, .int .i64 x5, .int .i64 x6, .int .i64 x7, .int .i64 x8, .slice a n c] 59)).alloc (.cells #[.slice ta tn tc, .int .i64 vol, .slice pa pn pc] 62)).alloc (.cells #[.bool u, .slice ra rn rc] 65)) (w.heap.size + 1) 62 #[.slice ta tn tc, .int .i64 vol, .slice pa pn pc] from by
    have h := (RowAt.new (w.alloc (.cells #[.int .i64 x0, .int .i64 x1, .int .i64 x2, .int .i64 x3, .int .i64 x4, .int .i64 x5, .int .i64 x6, .int .i64 x7, .int .i64 x8, .slice a n c] 59)) 62 #[.slice ta tn tc, .int .i64 vol, .slice pa pn pc]).ext ((Ext.refl _).alloc (.cells #[.bool u, .slice ra rn rc] 65))
    simp only [World.size_alloc] at h
    exact h)
  have BA2 := Lib.hid (show RowAt (((w.alloc (.cells #[.int .i64 x0, .int .i64 x1, .int .i64 x2, .int .i64 x3, .int .i64 x4, .int .i64 x5, .int .i64 x6, .int .i64 x7, .int .i64 x8, .slice a n c] 59)).alloc (.cells #[.slice ta tn tc, .int .i64 vol, .slice pa pn pc] 62)).alloc (.cells #[.bool u, .slice ra rn rc] 65)) (w.heap.size + 1 + 1) 65 #[.bool u, .slice ra rn rc] from by
    have h := (RowAt.new ((w.alloc (.cells #[.int .i64 x0, .int .i64 x1, .int .i64 x2, .int .i64 x3, .int .i64 x4, .int .i64 x5, .int .i64 x6, .int .i64 x7, .int .i64 x8, .slice a n c] 59)).alloc (.cells #[.slice ta tn tc, .int .i64 vol, .slice pa pn pc] 62)) 65 #[.bool u, .slice ra rn rc]).ext (Ext.refl _)
    simp only [World.size_alloc] at h
    exact h)
  have HE0 := Lib.hid (show Ext w (((w.alloc (.cells #[.int .i64 x0, .int .i64 x1, .int .i64 x2, .int .i64 x3, .int .i64 x4, .int .i64 x5, .int .i64 x6, .int .i64 x7, .int .i64 x8, .slice a n c] 59)).alloc (.cells #[.slice ta tn tc, .int .i64 vol, .slice pa pn pc] 62)).alloc (.cells #[.bool u, .slice ra rn rc] 65)) from ((((Ext.refl w).alloc _).alloc _).alloc _))
  obtain ⟨ts1, ok, hRes⟩ : ∃ ts1 ok, enterRes x0 x1 x2 x3 x4 x5 x6 x7 x8 ts ps vol xs u rows = (ts1, ok) := ⟨_, _, rfl⟩
  obtain ⟨hb1a, hb1b, hb1c⟩ := enterRes_b hRes (by rw [← HN.out]; exact hs2) HTS.out ⟨by rw [← HRN.out]; exact hrs2, HRR.out, HRT.out⟩ hTb
  obtain ⟨n1, hn1⟩ : ∃ m, m = ts1.length := ⟨_, rfl⟩
  rw [← hn1] at hb1a
  have hs1b := hb1a
  have HN1 := Lib.hid hn1; clear hn1
  have HS1 := Lib.hid (show n1 ≤ maxLen by unfold maxLen; omega)
  have HTS1 := Lib.hid hb1b; clear hb1b
  have HRES := Lib.hid hRes; clear hRes
  obtain ⟨M1, hM1⟩ : ∃ T, mLen ts1 = T := ⟨_, rfl⟩
  have hM1b : M1 ≤ 1073741824 := by rw [← hM1]; exact hb1c
  have HM1 := Lib.hid hM1; clear hM1 hb1c
  have hd3 : decide (1 + (M1 : Int) < 0) = false := by simp; omega
  obtain ⟨TR, hTR⟩ : ∃ T, total rows = T := ⟨_, rfl⟩
  have hTRb : TR ≤ 1048576 := by rw [← hTR, total_flatten]; exact HRT.out
  have HTR := Lib.hid hTR; clear hTR
  obtain ⟨M0, hM0⟩ : ∃ T, mLen ts = T := ⟨_, rfl⟩
  have hM0b : M0 ≤ 1073741824 := by rw [← hM0]; exact hTb
  have HM0 := Lib.hid hM0; clear hM0
  have hd1 : decide (1 + (M0 : Int) < 0) = false := by simp; omega
  go_enter Try.func6, Try.ntmps6
  go_wp2_with fail
  with_reducible refine (szLock_any z0 _ _ _ _ _ _ _ _ _ _ _ _ ts _ HN.out HS.out (by decide) (by decide) _ (HF.out.ext (HE0.out)) HZ0.out).mono ?_
  rintro e s0 ⟨rfl, hb⟩
  have XS0 := Lib.hid (show Ext (((w.alloc (.cells #[.int .i64 x0, .int .i64 x1, .int .i64 x2, .int .i64 x3, .int .i64 x4, .int .i64 x5, .int .i64 x6, .int .i64 x7, .int .i64 x8, .slice a n c] 59)).alloc (.cells #[.slice ta tn tc, .int .i64 vol, .slice pa pn pc] 62)).alloc (.cells #[.bool u, .slice ra rn rc] 65)) s0 from hb)
  clear hb
  have s1_0 : s0.cell? ⟨w.heap.size + 1, 0, none⟩ = some (.slice ta tn tc) := (BA1.out.ext XS0.out).cell rfl
  have s1_1 : s0.cell? ⟨w.heap.size + 1, 1, none⟩ = some (.int .i64 vol) := (BA1.out.ext XS0.out).cell rfl
  have s1_2 : s0.cell? ⟨w.heap.size + 1, 2, none⟩ = some (.slice pa pn pc) := (BA1.out.ext XS0.out).cell rfl
  go_wp2_with fail
  with_reducible refine (szReach_any z1 _ _ _ _ _ _ _ _ HTL.out HPL.out hz0 hy0 _ HZ1.out).mono ?_
  rintro e s1 ⟨rfl, hb⟩
  have XS1 := Lib.hid (show Ext (((w.alloc (.cells #[.int .i64 x0, .int .i64 x1, .int .i64 x2, .int .i64 x3, .int .i64 x4, .int .i64 x5, .int .i64 x6, .int .i64 x7, .int .i64 x8, .slice a n c] 59)).alloc (.cells #[.slice ta tn tc, .int .i64 vol, .slice pa pn pc] 62)).alloc (.cells #[.bool u, .slice ra rn rc] 65)) s1 from XS0.out.trans hb)
  clear hb s1_0 s1_1 s1_2
  have s2_0 : s1.cell? ⟨w.heap.size + 1 + 1, 0, none⟩ = some (.bool u) := (BA2.out.ext XS1.out).cell rfl
  have s2_1 : s1.cell? ⟨w.heap.size + 1 + 1, 1, none⟩ = some (.slice ra rn rc) := (BA2.out.ext XS1.out).cell rfl
  go_wp2_with fail
  with_reducible refine (szTrain_is z2 _ _ _ _ rows _ HRN.out HRL.out hz1 hy1 _ (HFR.out.ext (HE0.out.trans XS1.out)) HZ2.out).mono ?_
  rintro e s2 ⟨rfl, hb⟩
  have XS2 := Lib.hid (show Ext (((w.alloc (.cells #[.int .i64 x0, .int .i64 x1, .int .i64 x2, .int .i64 x3, .int .i64 x4, .int .i64 x5, .int .i64 x6, .int .i64 x7, .int .i64 x8, .slice a n c] 59)).alloc (.cells #[.slice ta tn tc, .int .i64 vol, .slice pa pn pc] 62)).alloc (.cells #[.bool u, .slice ra rn rc] 65)) s2 from XS1.out.trans hb)
  clear hb s2_0 s2_1
  have HW0 := Lib.hid (HE0.out.trans XS2.out)
  have zz0 := XS2.out.size
  simp only [World.size_alloc] at zz0
  have BX0_0 := Lib.hid (BA0.out.ext XS2.out)
  have BX1_0 := Lib.hid (BA1.out.ext XS2.out)
  have BX2_0 := Lib.hid (BA2.out.ext XS2.out)
  clear XS0 XS1 XS2
  have cBX00 : s2.cell? ⟨w.heap.size, 0, none⟩ = some (.int .i64 x0) := BX0_0.out.cell rfl
  have cBX01 : s2.cell? ⟨w.heap.size, 1, none⟩ = some (.int .i64 x1) := BX0_0.out.cell rfl
  have cBX02 : s2.cell? ⟨w.heap.size, 2, none⟩ = some (.int .i64 x2) := BX0_0.out.cell rfl
  have cBX03 : s2.cell? ⟨w.heap.size, 3, none⟩ = some (.int .i64 x3) := BX0_0.out.cell rfl
  have cBX04 : s2.cell? ⟨w.heap.size, 4, none⟩ = some (.int .i64 x4) := BX0_0.out.cell rfl
  have cBX05 : s2.cell? ⟨w.heap.size, 5, none⟩ = some (.int .i64 x5) := BX0_0.out.cell rfl
  have cBX06 : s2.cell? ⟨w.heap.size, 6, none⟩ = some (.int .i64 x6) := BX0_0.out.cell rfl
  have cBX07 : s2.cell? ⟨w.heap.size, 7, none⟩ = some (.int .i64 x7) := BX0_0.out.cell rfl
  have cBX08 : s2.cell? ⟨w.heap.size, 8, none⟩ = some (.int .i64 x8) := BX0_0.out.cell rfl
  have cBX09 : s2.cell? ⟨w.heap.size, 9, none⟩ = some (.slice a n c) := BX0_0.out.cell rfl
  have cBX10 : s2.cell? ⟨w.heap.size + 1, 0, none⟩ = some (.slice ta tn tc) := BX1_0.out.cell rfl
  have cBX11 : s2.cell? ⟨w.heap.size + 1, 1, none⟩ = some (.int .i64 vol) := BX1_0.out.cell rfl
  have cBX12 : s2.cell? ⟨w.heap.size + 1, 2, none⟩ = some (.slice pa pn pc) := BX1_0.out.cell rfl
  have cBX20 : s2.cell? ⟨w.heap.size + 1 + 1, 0, none⟩ = some (.bool u) := BX2_0.out.cell rfl
  have cBX21 : s2.cell? ⟨w.heap.size + 1 + 1, 1, none⟩ = some (.slice ra rn rc) := BX2_0.out.cell rfl
  go_wp2_with fail
  clear cBX00 cBX01 cBX02 cBX03 cBX04 cBX05 cBX06 cBX07 cBX08 cBX09
  clear cBX10 cBX11 cBX12
  clear cBX20 cBX21
  have HSK := Lib.hid (fun (w' : World) (h : Ext s2 w') => (⟨(BX0_0.out.ext h).cell rfl, (BX0_0.out.ext h).cell rfl, (BX0_0.out.ext h).cell rfl, (BX0_0.out.ext h).cell rfl, (BX0_0.out.ext h).cell rfl, (BX0_0.out.ext h).cell rfl, (BX0_0.out.ext h).cell rfl, (BX0_0.out.ext h).cell rfl, (BX0_0.out.ext h).cell rfl, (BX0_0.out.ext h).cell rfl, (BX1_0.out.ext h).cell rfl, (BX1_0.out.ext h).cell rfl, (BX1_0.out.ext h).cell rfl, (BX2_0.out.ext h).cell rfl, (BX2_0.out.ext h).cell rfl⟩ : w'.cell? ⟨w.heap.size, 0, none⟩ = some (.int .i64 x0) ∧ w'.cell? ⟨w.heap.size, 1, none⟩ = some (.int .i64 x1) ∧ w'.cell? ⟨w.heap.size, 2, none⟩ = some (.int .i64 x2) ∧ w'.cell? ⟨w.heap.size, 3, none⟩ = some (.int .i64 x3) ∧ w'.cell? ⟨w.heap.size, 4, none⟩ = some (.int .i64 x4) ∧ w'.cell? ⟨w.heap.size, 5, none⟩ = some (.int .i64 x5) ∧ w'.cell? ⟨w.heap.size, 6, none⟩ = some (.int .i64 x6) ∧ w'.cell? ⟨w.heap.size, 7, none⟩ = some (.int .i64 x7) ∧ w'.cell? ⟨w.heap.size, 8, none⟩ = some (.int .i64 x8) ∧ w'.cell? ⟨w.heap.size, 9, none⟩ = some (.slice a n c) ∧ w'.cell? ⟨w.heap.size + 1, 0, none⟩ = some (.slice ta tn tc) ∧ w'.cell? ⟨w.heap.size + 1, 1, none⟩ = some (.int .i64 vol) ∧ w'.cell? ⟨w.heap.size + 1, 2, none⟩ = some (.slice pa pn pc) ∧ w'.cell? ⟨w.heap.size + 1 + 1, 0, none⟩ = some (.bool u) ∧ w'.cell? ⟨w.heap.size + 1 + 1, 1, none⟩ = some (.slice ra rn rc)))
  apply wp_ways (G := fun b p q w' => Ext s2 w' ∧ (s2.heap.size ≤ b ∧ b < w'.heap.size) ∧ RowAt w' b 26 #[.int .i64 x0, .int .i64 x1, .int .i64 x2, .int .i64 x3, .int .i64 x4, .int .i64 x5, .int .i64 x6, .int .i64 x7, .int .i64 x8, .slice p n1 q] ∧ ∃ lo hi, s2.heap.size ≤ lo ∧ hi ≤ w'.heap.size ∧ OwnTrains w' lo hi p ts1)
  case h =>
    refine wp_region_held_drew (S := (fun w' => w'.cell? ⟨w.heap.size, 0, none⟩ = some (.int .i64 x0) ∧ w'.cell? ⟨w.heap.size, 1, none⟩ = some (.int .i64 x1) ∧ w'.cell? ⟨w.heap.size, 2, none⟩ = some (.int .i64 x2) ∧ w'.cell? ⟨w.heap.size, 3, none⟩ = some (.int .i64 x3) ∧ w'.cell? ⟨w.heap.size, 4, none⟩ = some (.int .i64 x4) ∧ w'.cell? ⟨w.heap.size, 5, none⟩ = some (.int .i64 x5) ∧ w'.cell? ⟨w.heap.size, 6, none⟩ = some (.int .i64 x6) ∧ w'.cell? ⟨w.heap.size, 7, none⟩ = some (.int .i64 x7) ∧ w'.cell? ⟨w.heap.size, 8, none⟩ = some (.int .i64 x8) ∧ w'.cell? ⟨w.heap.size, 9, none⟩ = some (.slice a n c) ∧ w'.cell? ⟨w.heap.size + 1, 0, none⟩ = some (.slice ta tn tc) ∧ w'.cell? ⟨w.heap.size + 1, 1, none⟩ = some (.int .i64 vol) ∧ w'.cell? ⟨w.heap.size + 1, 2, none⟩ = some (.slice pa pn pc) ∧ w'.cell? ⟨w.heap.size + 1 + 1, 0, none⟩ = some (.bool u) ∧ w'.cell? ⟨w.heap.size + 1 + 1, 1, none⟩ = some (.slice ra rn rc))) (by kernel_rfl) ?_ (fun hH0 => ?_)
    · (try dsimp only)
      (exact HSK.out _ (by (repeat' (first | (with_reducible assumption) | (with_reducible exact Ext.refl _) | (with_reducible refine Ext.alloc ?_ _) | (with_reducible refine Ext.drew ?_) | (with_reducible refine Ext.setCell ?_ ?_ _) | (simp; done) | (simp; omega)))))
    refine take_l 0 (v := ?_) rfl (by kernel_rfl) (by kernel_rfl) (by kernel_rfl) (fun _ _ _ h => h) (by rfl) ?_ (by assumption) ?_
    rotate_left
    · (intro w hSw; (try dsimp only at hSw); go_simp; (try with_reducible rfl))
    (try simp only [Act.put, List.setIfInBounds_toArray, List.set_cons_zero, List.set_cons_succ])
    refine take_l 2 (v := ?_) rfl (by kernel_rfl) (by kernel_rfl) (by kernel_rfl) (fun _ _ _ h => h) (by rfl) ?_ (by assumption) ?_
    rotate_left
    · (intro w hSw; (try dsimp only at hSw); go_simp; (try with_reducible rfl))
    (try simp only [Act.put, List.setIfInBounds_toArray, List.set_cons_zero, List.set_cons_succ])
    refine take_l 4 (v := ?_) rfl (by kernel_rfl) (by kernel_rfl) (by kernel_rfl) (fun _ _ _ h => h) (by rfl) ?_ (by assumption) ?_
    rotate_left
    · (intro w hSw; (try dsimp only at hSw); go_simp; (try with_reducible rfl))
    (try simp only [Act.put, List.setIfInBounds_toArray, List.set_cons_zero, List.set_cons_succ])
    refine wpAnyH_ready (rs := [1, 10]) (by kernel_rfl) (by simp) ?_
    refine cons_l (i := 1) rfl (fun K hK => ?_) ?_
    go_simp; (go_at_call 40; with_reducible refine (toLock_any _ _ _ _ _ _ _ _ _ _ _ _ ts _ HN.out hs2 HTS.out (HF.out.ext (HW0.out.trans (by (repeat' (first | (with_reducible assumption) | (with_reducible exact Ext.refl _) | (with_reducible refine Ext.alloc ?_ _) | (with_reducible refine Ext.drew ?_) | (with_reducible refine Ext.setCell ?_ ?_ _) | (simp; done) | (simp; omega))))))).mono ?_); rintro e v0 ⟨aP0, rfl, ho0, hb0⟩; have xv0 : Ext s2 v0 := Ext.trans (by (repeat' (first | (with_reducible assumption) | (with_reducible exact Ext.refl _) | (with_reducible refine Ext.alloc ?_ _) | (with_reducible refine Ext.drew ?_) | (with_reducible refine Ext.setCell ?_ ?_ _) | (simp; done) | (simp; omega)))) hb0; have zv0 := hb0.size; (try simp only [World.size_drew] at zv0); (try have RP := Lib.hid (RP.out.ext hb0))
    refine hK.out _ _ ?_ (fun hH1 => ?_)
    · (try dsimp only)
      (exact HSK.out _ (by (repeat' (first | (with_reducible assumption) | (with_reducible exact Ext.refl _) | (with_reducible refine Ext.alloc ?_ _) | (with_reducible refine Ext.drew ?_) | (with_reducible refine Ext.setCell ?_ ?_ _) | (simp; done) | (simp; omega)))))
    clear hK K hH0
    (try simp only [Act.put, List.setIfInBounds_toArray, List.set_cons_zero, List.set_cons_succ])
    refine wpAnyH_ready (rs := [3, 10]) (by kernel_rfl) (by simp) ?_
    refine cons_l (i := 3) rfl (fun K hK => ?_) ?_
    go_simp; (go_at_call 41; with_reducible refine (toReach_any _ _ _ _ _ _ _ ps xs _ HT.out htl2 HP.out hpl2 (HFT.out.ext (HW0.out.trans (by (repeat' (first | (with_reducible assumption) | (with_reducible exact Ext.refl _) | (with_reducible refine Ext.alloc ?_ _) | (with_reducible refine Ext.drew ?_) | (with_reducible refine Ext.setCell ?_ ?_ _) | (simp; done) | (simp; omega)))))) (HFP.out.ext (HW0.out.trans (by (repeat' (first | (with_reducible assumption) | (with_reducible exact Ext.refl _) | (with_reducible refine Ext.alloc ?_ _) | (with_reducible refine Ext.drew ?_) | (with_reducible refine Ext.setCell ?_ ?_ _) | (simp; done) | (simp; omega))))))).mono ?_); rintro e v1 ⟨fP1, gP1, midP1, rfl, hmP1, ho1, hoi1, hb1⟩; have xv1 : Ext s2 v1 := Ext.trans (by (repeat' (first | (with_reducible assumption) | (with_reducible exact Ext.refl _) | (with_reducible refine Ext.alloc ?_ _) | (with_reducible refine Ext.drew ?_) | (with_reducible refine Ext.setCell ?_ ?_ _) | (simp; done) | (simp; omega)))) hb1; have zv1 := hb1.size; (try simp only [World.size_drew] at zv1); (try have RP := Lib.hid (RP.out.ext hb1)); have ho0 := ho0.ext hb1
    refine hK.out _ _ ?_ (fun hH2 => ?_)
    · (try dsimp only)
      (exact HSK.out _ (by (repeat' (first | (with_reducible assumption) | (with_reducible exact Ext.refl _) | (with_reducible refine Ext.alloc ?_ _) | (with_reducible refine Ext.drew ?_) | (with_reducible refine Ext.setCell ?_ ?_ _) | (simp; done) | (simp; omega)))))
    clear hK K hH1
    (try simp only [Act.put, List.setIfInBounds_toArray, List.set_cons_zero, List.set_cons_succ])
    refine wpAnyH_ready (rs := [5, 10]) (by kernel_rfl) (by simp) ?_
    refine cons_l (i := 5) rfl (fun K hK => ?_) ?_
    go_simp; (go_at_call 42; with_reducible refine (toTrain_any _ _ _ _ rows _ HRN.out hrs2 HRR.out (HFR.out.ext (HW0.out.trans (by (repeat' (first | (with_reducible assumption) | (with_reducible exact Ext.refl _) | (with_reducible refine Ext.alloc ?_ _) | (with_reducible refine Ext.drew ?_) | (with_reducible refine Ext.setCell ?_ ?_ _) | (simp; done) | (simp; omega))))))).mono ?_); rintro e v2 ⟨rP2, rfl, ho2, hb2⟩; have xv2 : Ext s2 v2 := Ext.trans (by (repeat' (first | (with_reducible assumption) | (with_reducible exact Ext.refl _) | (with_reducible refine Ext.alloc ?_ _) | (with_reducible refine Ext.drew ?_) | (with_reducible refine Ext.setCell ?_ ?_ _) | (simp; done) | (simp; omega)))) hb2; have zv2 := hb2.size; (try simp only [World.size_drew] at zv2); (try have RP := Lib.hid (RP.out.ext hb2)); have ho0 := ho0.ext hb2; have ho1 := ho1.ext hb2; have hoi1 := hoi1.ext hb2
    refine hK.out _ _ ?_ (fun hH3 => ?_)
    · (try dsimp only)
      (exact HSK.out _ (by (repeat' (first | (with_reducible assumption) | (with_reducible exact Ext.refl _) | (with_reducible refine Ext.alloc ?_ _) | (with_reducible refine Ext.drew ?_) | (with_reducible refine Ext.setCell ?_ ?_ _) | (simp; done) | (simp; omega)))))
    clear hK K hH2
    (try simp only [Act.put, List.setIfInBounds_toArray, List.set_cons_zero, List.set_cons_succ])
    refine wpAnyH_ready (rs := [6, 10]) (by kernel_rfl) (by simp) ?_
    refine cons_l (i := 6) rfl (fun K hK => ?_) ?_
    go_simp; (go_at_call 39; with_reducible refine (specEnterL_any ts1 n1 ok _ _ _ _ _ _ _ _ _ _ _ _ ts _ _ _ _ _ _ _ ps xs _ _ _ _ rows _ HN.out hs2 HTS.out ho0.trains HT.out htl2 HP.out hpl2 ho1.at hoi1.at HVOL.out HRN.out hrs2 HRR.out HRT.out ho2.rows HI0.out HI1.out HN1.out HRES.out).mono ?_); rintro e vS ⟨pP, qP, rfl, hoR, hbs⟩; have xvS : Ext s2 vS := Ext.trans (by (repeat' (first | (with_reducible assumption) | (with_reducible exact Ext.refl _) | (with_reducible refine Ext.alloc ?_ _) | (with_reducible refine Ext.drew ?_) | (with_reducible refine Ext.setCell ?_ ?_ _) | (simp; done) | (simp; omega)))) hbs; have zvS := hbs.size; (try have RP := Lib.hid (RP.out.ext hbs))
    refine hK.out _ _ ?_ (fun hH4 => ?_)
    · (try dsimp only)
      (exact HSK.out _ (by (repeat' (first | (with_reducible assumption) | (with_reducible exact Ext.refl _) | (with_reducible refine Ext.alloc ?_ _) | (with_reducible refine Ext.drew ?_) | (with_reducible refine Ext.setCell ?_ ?_ _) | (simp; done) | (simp; omega)))))
    clear hK K hH3
    (try simp only [Act.put, List.setIfInBounds_toArray, List.set_cons_zero, List.set_cons_succ])
    refine take_l 7 (v := ?_) rfl (by kernel_rfl) (by kernel_rfl) (by kernel_rfl) (fun _ _ _ h => h) (by rfl) ?_ (by assumption) ?_
    rotate_left
    · (intro w hSw; (try dsimp only at hSw); go_simp; (try with_reducible rfl))
    (try simp only [Act.put, List.setIfInBounds_toArray, List.set_cons_zero, List.set_cons_succ])
    refine take_l 8 (v := ?_) rfl (by kernel_rfl) (by kernel_rfl) (by kernel_rfl) (fun _ _ _ h => h) (by rfl) ?_ (by assumption) ?_
    rotate_left
    · (intro w hSw; (try dsimp only at hSw); go_simp; (try with_reducible rfl))
    (try simp only [Act.put, List.setIfInBounds_toArray, List.set_cons_zero, List.set_cons_succ])
    refine take_l 9 (v := ?_) rfl (by kernel_rfl) (by kernel_rfl) (by kernel_rfl) (fun _ _ _ h => h) (by rfl) ?_ (by assumption) ?_
    rotate_left
    · (intro w hSw; (try dsimp only at hSw); go_simp; (try with_reducible rfl))
    (try simp only [Act.put, List.setIfInBounds_toArray, List.set_cons_zero, List.set_cons_succ])
    refine wpAnyH_ready (rs := [10]) (by kernel_rfl) (by simp) ?_
    refine cons_l (i := 10) rfl (fun K hK => ?_) ?_
    go_simp; first | (obtain ⟨bP, hbP⟩ : ∃ x, x = vS.heap.size := ⟨_, rfl⟩; obtain ⟨wP, hwP⟩ : ∃ x, x = vS.alloc (.cells #[.int .i64 0, .int .i64 0, .int .i64 0, .int .i64 0, .int .i64 0, .int .i64 0, .int .i64 0, .int .i64 0, .int .i64 0, .slice none 0 0] 26) := ⟨_, rfl⟩; have halP : Ext vS wP := (show Ext vS (vS.alloc (.cells #[.int .i64 0, .int .i64 0, .int .i64 0, .int .i64 0, .int .i64 0, .int .i64 0, .int .i64 0, .int .i64 0, .int .i64 0, .slice none 0 0] 26)) from (Ext.refl _).alloc _) |> fun h => hwP ▸ h; have RP0 : RowAt (vS.alloc (.cells #[.int .i64 0, .int .i64 0, .int .i64 0, .int .i64 0, .int .i64 0, .int .i64 0, .int .i64 0, .int .i64 0, .int .i64 0, .slice none 0 0] 26)) (vS.heap.size) 26 #[.int .i64 0, .int .i64 0, .int .i64 0, .int .i64 0, .int .i64 0, .int .i64 0, .int .i64 0, .int .i64 0, .int .i64 0, .slice none 0 0] := RowAt.new vS 26 #[.int .i64 0, .int .i64 0, .int .i64 0, .int .i64 0, .int .i64 0, .int .i64 0, .int .i64 0, .int .i64 0, .int .i64 0, .slice none 0 0]; rw [← hwP, ← hbP] at RP0; rw [← hwP]; (try rw [← hbP]); have RP := Lib.hid RP0; have hPlt := RP0.lt; have hPm : vS.heap.size ≤ bP := Nat.le_of_eq hbP.symm; have hPn : bP ≤ vS.heap.size := Nat.le_of_eq hbP; have xP : Ext s2 wP := Ext.trans (by (repeat' (first | (with_reducible assumption) | (with_reducible exact Ext.refl _) | (with_reducible refine Ext.alloc ?_ _) | (with_reducible refine Ext.drew ?_) | (with_reducible refine Ext.setCell ?_ ?_ _) | (simp; done) | (simp; omega)))) halP; clear hbP hwP RP0; (try have ho0 := ho0.ext halP); (try have ho1 := ho1.ext halP); (try have hoi1 := hoi1.ext halP); (try have ho2 := ho2.ext halP); (try have hoR := hoR.ext halP)) | (obtain ⟨bP, hbP⟩ : ∃ x, x = v2.heap.size := ⟨_, rfl⟩; obtain ⟨wP, hwP⟩ : ∃ x, x = v2.alloc (.cells #[.int .i64 0, .int .i64 0, .int .i64 0, .int .i64 0, .int .i64 0, .int .i64 0, .int .i64 0, .int .i64 0, .int .i64 0, .slice none 0 0] 26) := ⟨_, rfl⟩; have halP : Ext v2 wP := (show Ext v2 (v2.alloc (.cells #[.int .i64 0, .int .i64 0, .int .i64 0, .int .i64 0, .int .i64 0, .int .i64 0, .int .i64 0, .int .i64 0, .int .i64 0, .slice none 0 0] 26)) from (Ext.refl _).alloc _) |> fun h => hwP ▸ h; have RP0 : RowAt (v2.alloc (.cells #[.int .i64 0, .int .i64 0, .int .i64 0, .int .i64 0, .int .i64 0, .int .i64 0, .int .i64 0, .int .i64 0, .int .i64 0, .slice none 0 0] 26)) (v2.heap.size) 26 #[.int .i64 0, .int .i64 0, .int .i64 0, .int .i64 0, .int .i64 0, .int .i64 0, .int .i64 0, .int .i64 0, .int .i64 0, .slice none 0 0] := RowAt.new v2 26 #[.int .i64 0, .int .i64 0, .int .i64 0, .int .i64 0, .int .i64 0, .int .i64 0, .int .i64 0, .int .i64 0, .int .i64 0, .slice none 0 0]; rw [← hwP, ← hbP] at RP0; rw [← hwP]; (try rw [← hbP]); have RP := Lib.hid RP0; have hPlt := RP0.lt; have hPm : v2.heap.size ≤ bP := Nat.le_of_eq hbP.symm; have hPn : bP ≤ v2.heap.size := Nat.le_of_eq hbP; have xP : Ext s2 wP := Ext.trans (by (repeat' (first | (with_reducible assumption) | (with_reducible exact Ext.refl _) | (with_reducible refine Ext.alloc ?_ _) | (with_reducible refine Ext.drew ?_) | (with_reducible refine Ext.setCell ?_ ?_ _) | (simp; done) | (simp; omega)))) halP; clear hbP hwP RP0; (try have ho0 := ho0.ext halP); (try have ho1 := ho1.ext halP); (try have hoi1 := hoi1.ext halP); (try have ho2 := ho2.ext halP); (try have hoR := hoR.ext halP)) | (obtain ⟨bP, hbP⟩ : ∃ x, x = v1.heap.size := ⟨_, rfl⟩; obtain ⟨wP, hwP⟩ : ∃ x, x = v1.alloc (.cells #[.int .i64 0, .int .i64 0, .int .i64 0, .int .i64 0, .int .i64 0, .int .i64 0, .int .i64 0, .int .i64 0, .int .i64 0, .slice none 0 0] 26) := ⟨_, rfl⟩; have halP : Ext v1 wP := (show Ext v1 (v1.alloc (.cells #[.int .i64 0, .int .i64 0, .int .i64 0, .int .i64 0, .int .i64 0, .int .i64 0, .int .i64 0, .int .i64 0, .int .i64 0, .slice none 0 0] 26)) from (Ext.refl _).alloc _) |> fun h => hwP ▸ h; have RP0 : RowAt (v1.alloc (.cells #[.int .i64 0, .int .i64 0, .int .i64 0, .int .i64 0, .int .i64 0, .int .i64 0, .int .i64 0, .int .i64 0, .int .i64 0, .slice none 0 0] 26)) (v1.heap.size) 26 #[.int .i64 0, .int .i64 0, .int .i64 0, .int .i64 0, .int .i64 0, .int .i64 0, .int .i64 0, .int .i64 0, .int .i64 0, .slice none 0 0] := RowAt.new v1 26 #[.int .i64 0, .int .i64 0, .int .i64 0, .int .i64 0, .int .i64 0, .int .i64 0, .int .i64 0, .int .i64 0, .int .i64 0, .slice none 0 0]; rw [← hwP, ← hbP] at RP0; rw [← hwP]; (try rw [← hbP]); have RP := Lib.hid RP0; have hPlt := RP0.lt; have hPm : v1.heap.size ≤ bP := Nat.le_of_eq hbP.symm; have hPn : bP ≤ v1.heap.size := Nat.le_of_eq hbP; have xP : Ext s2 wP := Ext.trans (by (repeat' (first | (with_reducible assumption) | (with_reducible exact Ext.refl _) | (with_reducible refine Ext.alloc ?_ _) | (with_reducible refine Ext.drew ?_) | (with_reducible refine Ext.setCell ?_ ?_ _) | (simp; done) | (simp; omega)))) halP; clear hbP hwP RP0; (try have ho0 := ho0.ext halP); (try have ho1 := ho1.ext halP); (try have hoi1 := hoi1.ext halP); (try have ho2 := ho2.ext halP); (try have hoR := hoR.ext halP)) | (obtain ⟨bP, hbP⟩ : ∃ x, x = v0.heap.size := ⟨_, rfl⟩; obtain ⟨wP, hwP⟩ : ∃ x, x = v0.alloc (.cells #[.int .i64 0, .int .i64 0, .int .i64 0, .int .i64 0, .int .i64 0, .int .i64 0, .int .i64 0, .int .i64 0, .int .i64 0, .slice none 0 0] 26) := ⟨_, rfl⟩; have halP : Ext v0 wP := (show Ext v0 (v0.alloc (.cells #[.int .i64 0, .int .i64 0, .int .i64 0, .int .i64 0, .int .i64 0, .int .i64 0, .int .i64 0, .int .i64 0, .int .i64 0, .slice none 0 0] 26)) from (Ext.refl _).alloc _) |> fun h => hwP ▸ h; have RP0 : RowAt (v0.alloc (.cells #[.int .i64 0, .int .i64 0, .int .i64 0, .int .i64 0, .int .i64 0, .int .i64 0, .int .i64 0, .int .i64 0, .int .i64 0, .slice none 0 0] 26)) (v0.heap.size) 26 #[.int .i64 0, .int .i64 0, .int .i64 0, .int .i64 0, .int .i64 0, .int .i64 0, .int .i64 0, .int .i64 0, .int .i64 0, .slice none 0 0] := RowAt.new v0 26 #[.int .i64 0, .int .i64 0, .int .i64 0, .int .i64 0, .int .i64 0, .int .i64 0, .int .i64 0, .int .i64 0, .int .i64 0, .slice none 0 0]; rw [← hwP, ← hbP] at RP0; rw [← hwP]; (try rw [← hbP]); have RP := Lib.hid RP0; have hPlt := RP0.lt; have hPm : v0.heap.size ≤ bP := Nat.le_of_eq hbP.symm; have hPn : bP ≤ v0.heap.size := Nat.le_of_eq hbP; have xP : Ext s2 wP := Ext.trans (by (repeat' (first | (with_reducible assumption) | (with_reducible exact Ext.refl _) | (with_reducible refine Ext.alloc ?_ _) | (with_reducible refine Ext.drew ?_) | (with_reducible refine Ext.setCell ?_ ?_ _) | (simp; done) | (simp; omega)))) halP; clear hbP hwP RP0; (try have ho0 := ho0.ext halP); (try have ho1 := ho1.ext halP); (try have hoi1 := hoi1.ext halP); (try have ho2 := ho2.ext halP); (try have hoR := hoR.ext halP)) | (obtain ⟨bP, hbP⟩ : ∃ x, x = s2.heap.size := ⟨_, rfl⟩; obtain ⟨wP, hwP⟩ : ∃ x, x = (s2.alloc (.cells #[.int .i64 0, .int .i64 0, .int .i64 0, .int .i64 0, .int .i64 0, .int .i64 0, .int .i64 0, .int .i64 0, .int .i64 0, .slice none 0 0] 26)).drew := ⟨_, rfl⟩; have halP : Ext s2 wP := (show Ext s2 ((s2.alloc (.cells #[.int .i64 0, .int .i64 0, .int .i64 0, .int .i64 0, .int .i64 0, .int .i64 0, .int .i64 0, .int .i64 0, .int .i64 0, .slice none 0 0] 26)).drew) from ((Ext.refl _).alloc _).drew) |> fun h => hwP ▸ h; have RP0 : RowAt ((s2.alloc (.cells #[.int .i64 0, .int .i64 0, .int .i64 0, .int .i64 0, .int .i64 0, .int .i64 0, .int .i64 0, .int .i64 0, .int .i64 0, .slice none 0 0] 26)).drew) (s2.heap.size) 26 #[.int .i64 0, .int .i64 0, .int .i64 0, .int .i64 0, .int .i64 0, .int .i64 0, .int .i64 0, .int .i64 0, .int .i64 0, .slice none 0 0] := (RowAt.new s2 26 #[.int .i64 0, .int .i64 0, .int .i64 0, .int .i64 0, .int .i64 0, .int .i64 0, .int .i64 0, .int .i64 0, .int .i64 0, .slice none 0 0]).ext (Ext.refl _).drew; rw [← hwP, ← hbP] at RP0; rw [← hwP]; (try rw [← hbP]); have RP := Lib.hid RP0; have hPlt := RP0.lt; have hPm : s2.heap.size ≤ bP := Nat.le_of_eq hbP.symm; have hPn : bP ≤ s2.heap.size := Nat.le_of_eq hbP; have xP : Ext s2 wP := Ext.trans (by (repeat' (first | (with_reducible assumption) | (with_reducible exact Ext.refl _) | (with_reducible refine Ext.alloc ?_ _) | (with_reducible refine Ext.drew ?_) | (with_reducible refine Ext.setCell ?_ ?_ _) | (simp; done) | (simp; omega)))) halP; clear hbP hwP RP0; (try have ho0 := ho0.ext halP); (try have ho1 := ho1.ext halP); (try have hoi1 := hoi1.ext halP); (try have ho2 := ho2.ext halP); (try have hoR := hoR.ext halP)) | (obtain ⟨bP, hbP⟩ : ∃ x, x = s2.heap.size := ⟨_, rfl⟩; obtain ⟨wP, hwP⟩ : ∃ x, x = s2.drew.alloc (.cells #[.int .i64 0, .int .i64 0, .int .i64 0, .int .i64 0, .int .i64 0, .int .i64 0, .int .i64 0, .int .i64 0, .int .i64 0, .slice none 0 0] 26) := ⟨_, rfl⟩; have halP : Ext s2 wP := (show Ext s2 (s2.drew.alloc (.cells #[.int .i64 0, .int .i64 0, .int .i64 0, .int .i64 0, .int .i64 0, .int .i64 0, .int .i64 0, .int .i64 0, .int .i64 0, .slice none 0 0] 26)) from (Ext.refl _).drew.alloc _) |> fun h => hwP ▸ h; have RP0 : RowAt (s2.drew.alloc (.cells #[.int .i64 0, .int .i64 0, .int .i64 0, .int .i64 0, .int .i64 0, .int .i64 0, .int .i64 0, .int .i64 0, .int .i64 0, .slice none 0 0] 26)) (s2.heap.size) 26 #[.int .i64 0, .int .i64 0, .int .i64 0, .int .i64 0, .int .i64 0, .int .i64 0, .int .i64 0, .int .i64 0, .int .i64 0, .slice none 0 0] := RowAt.new s2 26 #[.int .i64 0, .int .i64 0, .int .i64 0, .int .i64 0, .int .i64 0, .int .i64 0, .int .i64 0, .int .i64 0, .int .i64 0, .slice none 0 0]; rw [← hwP, ← hbP] at RP0; rw [← hwP]; (try rw [← hbP]); have RP := Lib.hid RP0; have hPlt := RP0.lt; have hPm : s2.heap.size ≤ bP := Nat.le_of_eq hbP.symm; have hPn : bP ≤ s2.heap.size := Nat.le_of_eq hbP; have xP : Ext s2 wP := Ext.trans (by (repeat' (first | (with_reducible assumption) | (with_reducible exact Ext.refl _) | (with_reducible refine Ext.alloc ?_ _) | (with_reducible refine Ext.drew ?_) | (with_reducible refine Ext.setCell ?_ ?_ _) | (simp; done) | (simp; omega)))) halP; clear hbP hwP RP0; (try have ho0 := ho0.ext halP); (try have ho1 := ho1.ext halP); (try have hoi1 := hoi1.ext halP); (try have ho2 := ho2.ext halP); (try have hoR := hoR.ext halP))
    refine hK.out _ _ ?_ (fun hH5 => ?_)
    · (try dsimp only)
      (exact HSK.out _ (by (repeat' (first | (with_reducible assumption) | (with_reducible exact Ext.refl _) | (with_reducible refine Ext.alloc ?_ _) | (with_reducible refine Ext.drew ?_) | (with_reducible refine Ext.setCell ?_ ?_ _) | (simp; done) | (simp; omega)))))
    clear hK K hH4
    (try simp only [Act.put, List.setIfInBounds_toArray, List.set_cons_zero, List.set_cons_succ])
    refine wpAnyH_ready (rs := [11]) (by kernel_rfl) (by simp) ?_
    refine cons_l (i := 11) rfl (fun K hK => ?_) ?_
    have hs0 := RP.out.cell (j := 0) (v := (.int .i64 0)) rfl; have hf0 := RP.out.frozen 0; have hs1 := RP.out.cell (j := 1) (v := (.int .i64 0)) rfl; have hf1 := RP.out.frozen 1; have hs2 := RP.out.cell (j := 2) (v := (.int .i64 0)) rfl; have hf2 := RP.out.frozen 2; have hs3 := RP.out.cell (j := 3) (v := (.int .i64 0)) rfl; have hf3 := RP.out.frozen 3; have hs4 := RP.out.cell (j := 4) (v := (.int .i64 0)) rfl; have hf4 := RP.out.frozen 4; have hs5 := RP.out.cell (j := 5) (v := (.int .i64 0)) rfl; have hf5 := RP.out.frozen 5; have hs6 := RP.out.cell (j := 6) (v := (.int .i64 0)) rfl; have hf6 := RP.out.frozen 6; have hs7 := RP.out.cell (j := 7) (v := (.int .i64 0)) rfl; have hf7 := RP.out.frozen 7; have hs8 := RP.out.cell (j := 8) (v := (.int .i64 0)) rfl; have hf8 := RP.out.frozen 8; have hs9 := RP.out.cell (j := 9) (v := (.slice none 0 0)) rfl; have hf9 := RP.out.frozen 9; go_simp
    refine hK.out _ _ ?_ (fun hH6 => ?_)
    · (try dsimp only)
      (exact HSK.out _ (by (repeat' (first | (with_reducible assumption) | (with_reducible exact Ext.refl _) | (with_reducible refine Ext.alloc ?_ _) | (with_reducible refine Ext.drew ?_) | (with_reducible refine Ext.setCell ?_ ?_ _) | (simp; done) | (simp; omega)))))
    clear hK K hH5
    (try simp only [Act.put, List.setIfInBounds_toArray, List.set_cons_zero, List.set_cons_succ])
    refine take_l 12 (v := ?_) rfl (by kernel_rfl) (by kernel_rfl) (by kernel_rfl) (fun _ _ _ h => h) (by rfl) ?_ (by assumption) ?_
    rotate_left
    · (intro w hSw; (try dsimp only at hSw); go_simp; (try with_reducible rfl))
    (try simp only [Act.put, List.setIfInBounds_toArray, List.set_cons_zero, List.set_cons_succ])
    refine wpAnyH_done (by kernel_rfl) ?_ _
    rotate_left
    exact AllReadyH.nil
    exact AllReadyH.nil
    refine cons_l (i := 10) rfl (fun K hK => ?_) ?_
    go_simp; first | (obtain ⟨bP, hbP⟩ : ∃ x, x = vS.heap.size := ⟨_, rfl⟩; obtain ⟨wP, hwP⟩ : ∃ x, x = vS.alloc (.cells #[.int .i64 0, .int .i64 0, .int .i64 0, .int .i64 0, .int .i64 0, .int .i64 0, .int .i64 0, .int .i64 0, .int .i64 0, .slice none 0 0] 26) := ⟨_, rfl⟩; have halP : Ext vS wP := (show Ext vS (vS.alloc (.cells #[.int .i64 0, .int .i64 0, .int .i64 0, .int .i64 0, .int .i64 0, .int .i64 0, .int .i64 0, .int .i64 0, .int .i64 0, .slice none 0 0] 26)) from (Ext.refl _).alloc _) |> fun h => hwP ▸ h; have RP0 : RowAt (vS.alloc (.cells #[.int .i64 0, .int .i64 0, .int .i64 0, .int .i64 0, .int .i64 0, .int .i64 0, .int .i64 0, .int .i64 0, .int .i64 0, .slice none 0 0] 26)) (vS.heap.size) 26 #[.int .i64 0, .int .i64 0, .int .i64 0, .int .i64 0, .int .i64 0, .int .i64 0, .int .i64 0, .int .i64 0, .int .i64 0, .slice none 0 0] := RowAt.new vS 26 #[.int .i64 0, .int .i64 0, .int .i64 0, .int .i64 0, .int .i64 0, .int .i64 0, .int .i64 0, .int .i64 0, .int .i64 0, .slice none 0 0]; rw [← hwP, ← hbP] at RP0; rw [← hwP]; (try rw [← hbP]); have RP := Lib.hid RP0; have hPlt := RP0.lt; have hPm : vS.heap.size ≤ bP := Nat.le_of_eq hbP.symm; have hPn : bP ≤ vS.heap.size := Nat.le_of_eq hbP; have xP : Ext s2 wP := Ext.trans (by (repeat' (first | (with_reducible assumption) | (with_reducible exact Ext.refl _) | (with_reducible refine Ext.alloc ?_ _) | (with_reducible refine Ext.drew ?_) | (with_reducible refine Ext.setCell ?_ ?_ _) | (simp; done) | (simp; omega)))) halP; clear hbP hwP RP0; (try have ho0 := ho0.ext halP); (try have ho1 := ho1.ext halP); (try have hoi1 := hoi1.ext halP); (try have ho2 := ho2.ext halP); (try have hoR := hoR.ext halP)) | (obtain ⟨bP, hbP⟩ : ∃ x, x = v2.heap.size := ⟨_, rfl⟩; obtain ⟨wP, hwP⟩ : ∃ x, x = v2.alloc (.cells #[.int .i64 0, .int .i64 0, .int .i64 0, .int .i64 0, .int .i64 0, .int .i64 0, .int .i64 0, .int .i64 0, .int .i64 0, .slice none 0 0] 26) := ⟨_, rfl⟩; have halP : Ext v2 wP := (show Ext v2 (v2.alloc (.cells #[.int .i64 0, .int .i64 0, .int .i64 0, .int .i64 0, .int .i64 0, .int .i64 0, .int .i64 0, .int .i64 0, .int .i64 0, .slice none 0 0] 26)) from (Ext.refl _).alloc _) |> fun h => hwP ▸ h; have RP0 : RowAt (v2.alloc (.cells #[.int .i64 0, .int .i64 0, .int .i64 0, .int .i64 0, .int .i64 0, .int .i64 0, .int .i64 0, .int .i64 0, .int .i64 0, .slice none 0 0] 26)) (v2.heap.size) 26 #[.int .i64 0, .int .i64 0, .int .i64 0, .int .i64 0, .int .i64 0, .int .i64 0, .int .i64 0, .int .i64 0, .int .i64 0, .slice none 0 0] := RowAt.new v2 26 #[.int .i64 0, .int .i64 0, .int .i64 0, .int .i64 0, .int .i64 0, .int .i64 0, .int .i64 0, .int .i64 0, .int .i64 0, .slice none 0 0]; rw [← hwP, ← hbP] at RP0; rw [← hwP]; (try rw [← hbP]); have RP := Lib.hid RP0; have hPlt := RP0.lt; have hPm : v2.heap.size ≤ bP := Nat.le_of_eq hbP.symm; have hPn : bP ≤ v2.heap.size := Nat.le_of_eq hbP; have xP : Ext s2 wP := Ext.trans (by (repeat' (first | (with_reducible assumption) | (with_reducible exact Ext.refl _) | (with_reducible refine Ext.alloc ?_ _) | (with_reducible refine Ext.drew ?_) | (with_reducible refine Ext.setCell ?_ ?_ _) | (simp; done) | (simp; omega)))) halP; clear hbP hwP RP0; (try have ho0 := ho0.ext halP); (try have ho1 := ho1.ext halP); (try have hoi1 := hoi1.ext halP); (try have ho2 := ho2.ext halP); (try have hoR := hoR.ext halP)) | (obtain ⟨bP, hbP⟩ : ∃ x, x = v1.heap.size := ⟨_, rfl⟩; obtain ⟨wP, hwP⟩ : ∃ x, x = v1.alloc (.cells #[.int .i64 0, .int .i64 0, .int .i64 0, .int .i64 0, .int .i64 0, .int .i64 0, .int .i64 0, .int .i64 0, .int .i64 0, .slice none 0 0] 26) := ⟨_, rfl⟩; have halP : Ext v1 wP := (show Ext v1 (v1.alloc (.cells #[.int .i64 0, .int .i64 0, .int .i64 0, .int .i64 0, .int .i64 0, .int .i64 0, .int .i64 0, .int .i64 0, .int .i64 0, .slice none 0 0] 26)) from (Ext.refl _).alloc _) |> fun h => hwP ▸ h; have RP0 : RowAt (v1.alloc (.cells #[.int .i64 0, .int .i64 0, .int .i64 0, .int .i64 0, .int .i64 0, .int .i64 0, .int .i64 0, .int .i64 0, .int .i64 0, .slice none 0 0] 26)) (v1.heap.size) 26 #[.int .i64 0, .int .i64 0, .int .i64 0, .int .i64 0, .int .i64 0, .int .i64 0, .int .i64 0, .int .i64 0, .int .i64 0, .slice none 0 0] := RowAt.new v1 26 #[.int .i64 0, .int .i64 0, .int .i64 0, .int .i64 0, .int .i64 0, .int .i64 0, .int .i64 0, .int .i64 0, .int .i64 0, .slice none 0 0]; rw [← hwP, ← hbP] at RP0; rw [← hwP]; (try rw [← hbP]); have RP := Lib.hid RP0; have hPlt := RP0.lt; have hPm : v1.heap.size ≤ bP := Nat.le_of_eq hbP.symm; have hPn : bP ≤ v1.heap.size := Nat.le_of_eq hbP; have xP : Ext s2 wP := Ext.trans (by (repeat' (first | (with_reducible assumption) | (with_reducible exact Ext.refl _) | (with_reducible refine Ext.alloc ?_ _) | (with_reducible refine Ext.drew ?_) | (with_reducible refine Ext.setCell ?_ ?_ _) | (simp; done) | (simp; omega)))) halP; clear hbP hwP RP0; (try have ho0 := ho0.ext halP); (try have ho1 := ho1.ext halP); (try have hoi1 := hoi1.ext halP); (try have ho2 := ho2.ext halP); (try have hoR := hoR.ext halP)) | (obtain ⟨bP, hbP⟩ : ∃ x, x = v0.heap.size := ⟨_, rfl⟩; obtain ⟨wP, hwP⟩ : ∃ x, x = v0.alloc (.cells #[.int .i64 0, .int .i64 0, .int .i64 0, .int .i64 0, .int .i64 0, .int .i64 0, .int .i64 0, .int .i64 0, .int .i64 0, .slice none 0 0] 26) := ⟨_, rfl⟩; have halP : Ext v0 wP := (show Ext v0 (v0.alloc (.cells #[.int .i64 0, .int .i64 0, .int .i64 0, .int .i64 0, .int .i64 0, .int .i64 0, .int .i64 0, .int .i64 0, .int .i64 0, .slice none 0 0] 26)) from (Ext.refl _).alloc _) |> fun h => hwP ▸ h; have RP0 : RowAt (v0.alloc (.cells #[.int .i64 0, .int .i64 0, .int .i64 0, .int .i64 0, .int .i64 0, .int .i64 0, .int .i64 0, .int .i64 0, .int .i64 0, .slice none 0 0] 26)) (v0.heap.size) 26 #[.int .i64 0, .int .i64 0, .int .i64 0, .int .i64 0, .int .i64 0, .int .i64 0, .int .i64 0, .int .i64 0, .int .i64 0, .slice none 0 0] := RowAt.new v0 26 #[.int .i64 0, .int .i64 0, .int .i64 0, .int .i64 0, .int .i64 0, .int .i64 0, .int .i64 0, .int .i64 0, .int .i64 0, .slice none 0 0]; rw [← hwP, ← hbP] at RP0; rw [← hwP]; (try rw [← hbP]); have RP := Lib.hid RP0; have hPlt := RP0.lt; have hPm : v0.heap.size ≤ bP := Nat.le_of_eq hbP.symm; have hPn : bP ≤ v0.heap.size := Nat.le_of_eq hbP; have xP : Ext s2 wP := Ext.trans (by (repeat' (first | (with_reducible assumption) | (with_reducible exact Ext.refl _) | (with_reducible refine Ext.alloc ?_ _) | (with_reducible refine Ext.drew ?_) | (with_reducible refine Ext.setCell ?_ ?_ _) | (simp; done) | (simp; omega)))) halP; clear hbP hwP RP0; (try have ho0 := ho0.ext halP); (try have ho1 := ho1.ext halP); (try have hoi1 := hoi1.ext halP); (try have ho2 := ho2.ext halP); (try have hoR := hoR.ext halP)) | (obtain ⟨bP, hbP⟩ : ∃ x, x = s2.heap.size := ⟨_, rfl⟩; obtain ⟨wP, hwP⟩ : ∃ x, x = (s2.alloc (.cells #[.int .i64 0, .int .i64 0, .int .i64 0, .int .i64 0, .int .i64 0, .int .i64 0, .int .i64 0, .int .i64 0, .int .i64 0, .slice none 0 0] 26)).drew := ⟨_, rfl⟩; have halP : Ext s2 wP := (show Ext s2 ((s2.alloc (.cells #[.int .i64 0, .int .i64 0, .int .i64 0, .int .i64 0, .int .i64 0, .int .i64 0, .int .i64 0, .int .i64 0, .int .i64 0, .slice none 0 0] 26)).drew) from ((Ext.refl _).alloc _).drew) |> fun h => hwP ▸ h; have RP0 : RowAt ((s2.alloc (.cells #[.int .i64 0, .int .i64 0, .int .i64 0, .int .i64 0, .int .i64 0, .int .i64 0, .int .i64 0, .int .i64 0, .int .i64 0, .slice none 0 0] 26)).drew) (s2.heap.size) 26 #[.int .i64 0, .int .i64 0, .int .i64 0, .int .i64 0, .int .i64 0, .int .i64 0, .int .i64 0, .int .i64 0, .int .i64 0, .slice none 0 0] := (RowAt.new s2 26 #[.int .i64 0, .int .i64 0, .int .i64 0, .int .i64 0, .int .i64 0, .int .i64 0, .int .i64 0, .int .i64 0, .int .i64 0, .slice none 0 0]).ext (Ext.refl _).drew; rw [← hwP, ← hbP] at RP0; rw [← hwP]; (try rw [← hbP]); have RP := Lib.hid RP0; have hPlt := RP0.lt; have hPm : s2.heap.size ≤ bP := Nat.le_of_eq hbP.symm; have hPn : bP ≤ s2.heap.size := Nat.le_of_eq hbP; have xP : Ext s2 wP := Ext.trans (by (repeat' (first | (with_reducible assumption) | (with_reducible exact Ext.refl _) | (with_reducible refine Ext.alloc ?_ _) | (with_reducible refine Ext.drew ?_) | (with_reducible refine Ext.setCell ?_ ?_ _) | (simp; done) | (simp; omega)))) halP; clear hbP hwP RP0; (try have ho0 := ho0.ext halP); (try have ho1 := ho1.ext halP); (try have hoi1 := hoi1.ext halP); (try have ho2 := ho2.ext halP); (try have hoR := hoR.ext halP)) | (obtain ⟨bP, hbP⟩ : ∃ x, x = s2.heap.size := ⟨_, rfl⟩; obtain ⟨wP, hwP⟩ : ∃ x, x = s2.drew.alloc (.cells #[.int .i64 0, .int .i64 0, .int .i64 0, .int .i64 0, .int .i64 0, .int .i64 0, .int .i64 0, .int .i64 0, .int .i64 0, .slice none 0 0] 26) := ⟨_, rfl⟩; have halP : Ext s2 wP := (show Ext s2 (s2.drew.alloc (.cells #[.int .i64 0, .int .i64 0, .int .i64 0, .int .i64 0, .int .i64 0, .int .i64 0, .int .i64 0, .int .i64 0, .int .i64 0, .slice none 0 0] 26)) from (Ext.refl _).drew.alloc _) |> fun h => hwP ▸ h; have RP0 : RowAt (s2.drew.alloc (.cells #[.int .i64 0, .int .i64 0, .int .i64 0, .int .i64 0, .int .i64 0, .int .i64 0, .int .i64 0, .int .i64 0, .int .i64 0, .slice none 0 0] 26)) (s2.heap.size) 26 #[.int .i64 0, .int .i64 0, .int .i64 0, .int .i64 0, .int .i64 0, .int .i64 0, .int .i64 0, .int .i64 0, .int .i64 0, .slice none 0 0] := RowAt.new s2 26 #[.int .i64 0, .int .i64 0, .int .i64 0, .int .i64 0, .int .i64 0, .int .i64 0, .int .i64 0, .int .i64 0, .int .i64 0, .slice none 0 0]; rw [← hwP, ← hbP] at RP0; rw [← hwP]; (try rw [← hbP]); have RP := Lib.hid RP0; have hPlt := RP0.lt; have hPm : s2.heap.size ≤ bP := Nat.le_of_eq hbP.symm; have hPn : bP ≤ s2.heap.size := Nat.le_of_eq hbP; have xP : Ext s2 wP := Ext.trans (by (repeat' (first | (with_reducible assumption) | (with_reducible exact Ext.refl _) | (with_reducible refine Ext.alloc ?_ _) | (with_reducible refine Ext.drew ?_) | (with_reducible refine Ext.setCell ?_ ?_ _) | (simp; done) | (simp; omega)))) halP; clear hbP hwP RP0; (try have ho0 := ho0.ext halP); (try have ho1 := ho1.ext halP); (try have hoi1 := hoi1.ext halP); (try have ho2 := ho2.ext halP); (try have hoR := hoR.ext halP))
    refine hK.out _ _ ?_ (fun hH4 => ?_)
    · (try dsimp only)
      (exact HSK.out _ (by (repeat' (first | (with_reducible assumption) | (with_reducible exact Ext.refl _) | (with_reducible refine Ext.alloc ?_ _) | (with_reducible refine Ext.drew ?_) | (with_reducible refine Ext.setCell ?_ ?_ _) | (simp; done) | (simp; omega)))))
    clear hK K hH3
    (try simp only [Act.put, List.setIfInBounds_toArray, List.set_cons_zero, List.set_cons_succ])
    refine wpAnyH_ready (rs := [6]) (by kernel_rfl) (by simp) ?_
    refine cons_l (i := 6) rfl (fun K hK => ?_) ?_
    go_simp; (go_at_call 39; with_reducible refine (specEnterL_any ts1 n1 ok _ _ _ _ _ _ _ _ _ _ _ _ ts _ _ _ _ _ _ _ ps xs _ _ _ _ rows _ HN.out hs2 HTS.out ho0.trains HT.out htl2 HP.out hpl2 ho1.at hoi1.at HVOL.out HRN.out hrs2 HRR.out HRT.out ho2.rows HI0.out HI1.out HN1.out HRES.out).mono ?_); rintro e vS ⟨pP, qP, rfl, hoR, hbs⟩; have xvS : Ext s2 vS := Ext.trans (by (repeat' (first | (with_reducible assumption) | (with_reducible exact Ext.refl _) | (with_reducible refine Ext.alloc ?_ _) | (with_reducible refine Ext.drew ?_) | (with_reducible refine Ext.setCell ?_ ?_ _) | (simp; done) | (simp; omega)))) hbs; have zvS := hbs.size; (try have RP := Lib.hid (RP.out.ext hbs))
    refine hK.out _ _ ?_ (fun hH5 => ?_)
    · (try dsimp only)
      (exact HSK.out _ (by (repeat' (first | (with_reducible assumption) | (with_reducible exact Ext.refl _) | (with_reducible refine Ext.alloc ?_ _) | (with_reducible refine Ext.drew ?_) | (with_reducible refine Ext.setCell ?_ ?_ _) | (simp; done) | (simp; omega)))))
    clear hK K hH4
    (try simp only [Act.put, List.setIfInBounds_toArray, List.set_cons_zero, List.set_cons_succ])
    refine take_l 7 (v := ?_) rfl (by kernel_rfl) (by kernel_rfl) (by kernel_rfl) (fun _ _ _ h => h) (by rfl) ?_ (by assumption) ?_
    rotate_left
    · (intro w hSw; (try dsimp only at hSw); go_simp; (try with_reducible rfl))
    (try simp only [Act.put, List.setIfInBounds_toArray, List.set_cons_zero, List.set_cons_succ])
    refine take_l 8 (v := ?_) rfl (by kernel_rfl) (by kernel_rfl) (by kernel_rfl) (fun _ _ _ h => h) (by rfl) ?_ (by assumption) ?_
    rotate_left
    · (intro w hSw; (try dsimp only at hSw); go_simp; (try with_reducible rfl))
    (try simp only [Act.put, List.setIfInBounds_toArray, List.set_cons_zero, List.set_cons_succ])
    refine take_l 9 (v := ?_) rfl (by kernel_rfl) (by kernel_rfl) (by kernel_rfl) (fun _ _ _ h => h) (by rfl) ?_ (by assumption) ?_
    rotate_left
    · (intro w hSw; (try dsimp only at hSw); go_simp; (try with_reducible rfl))
    (try simp only [Act.put, List.setIfInBounds_toArray, List.set_cons_zero, List.set_cons_succ])
    refine wpAnyH_ready (rs := [11]) (by kernel_rfl) (by simp) ?_
    refine cons_l (i := 11) rfl (fun K hK => ?_) ?_
    have hs0 := RP.out.cell (j := 0) (v := (.int .i64 0)) rfl; have hf0 := RP.out.frozen 0; have hs1 := RP.out.cell (j := 1) (v := (.int .i64 0)) rfl; have hf1 := RP.out.frozen 1; have hs2 := RP.out.cell (j := 2) (v := (.int .i64 0)) rfl; have hf2 := RP.out.frozen 2; have hs3 := RP.out.cell (j := 3) (v := (.int .i64 0)) rfl; have hf3 := RP.out.frozen 3; have hs4 := RP.out.cell (j := 4) (v := (.int .i64 0)) rfl; have hf4 := RP.out.frozen 4; have hs5 := RP.out.cell (j := 5) (v := (.int .i64 0)) rfl; have hf5 := RP.out.frozen 5; have hs6 := RP.out.cell (j := 6) (v := (.int .i64 0)) rfl; have hf6 := RP.out.frozen 6; have hs7 := RP.out.cell (j := 7) (v := (.int .i64 0)) rfl; have hf7 := RP.out.frozen 7; have hs8 := RP.out.cell (j := 8) (v := (.int .i64 0)) rfl; have hf8 := RP.out.frozen 8; have hs9 := RP.out.cell (j := 9) (v := (.slice none 0 0)) rfl; have hf9 := RP.out.frozen 9; go_simp
    refine hK.out _ _ ?_ (fun hH6 => ?_)
    · (try dsimp only)
      (exact HSK.out _ (by (repeat' (first | (with_reducible assumption) | (with_reducible exact Ext.refl _) | (with_reducible refine Ext.alloc ?_ _) | (with_reducible refine Ext.drew ?_) | (with_reducible refine Ext.setCell ?_ ?_ _) | (simp; done) | (simp; omega)))))
    clear hK K hH5
    (try simp only [Act.put, List.setIfInBounds_toArray, List.set_cons_zero, List.set_cons_succ])
    refine take_l 12 (v := ?_) rfl (by kernel_rfl) (by kernel_rfl) (by kernel_rfl) (fun _ _ _ h => h) (by rfl) ?_ (by assumption) ?_
    rotate_left
    · (intro w hSw; (try dsimp only at hSw); go_simp; (try with_reducible rfl))
    (try simp only [Act.put, List.setIfInBounds_toArray, List.set_cons_zero, List.set_cons_succ])
    refine wpAnyH_done (by kernel_rfl) ?_ _
    rotate_left
    exact AllReadyH.nil
    exact AllReadyH.nil
    exact AllReadyH.nil
    refine cons_l (i := 10) rfl (fun K hK => ?_) ?_
    go_simp; first | (obtain ⟨bP, hbP⟩ : ∃ x, x = vS.heap.size := ⟨_, rfl⟩; obtain ⟨wP, hwP⟩ : ∃ x, x = vS.alloc (.cells #[.int .i64 0, .int .i64 0, .int .i64 0, .int .i64 0, .int .i64 0, .int .i64 0, .int .i64 0, .int .i64 0, .int .i64 0, .slice none 0 0] 26) := ⟨_, rfl⟩; have halP : Ext vS wP := (show Ext vS (vS.alloc (.cells #[.int .i64 0, .int .i64 0, .int .i64 0, .int .i64 0, .int .i64 0, .int .i64 0, .int .i64 0, .int .i64 0, .int .i64 0, .slice none 0 0] 26)) from (Ext.refl _).alloc _) |> fun h => hwP ▸ h; have RP0 : RowAt (vS.alloc (.cells #[.int .i64 0, .int .i64 0, .int .i64 0, .int .i64 0, .int .i64 0, .int .i64 0, .int .i64 0, .int .i64 0, .int .i64 0, .slice none 0 0] 26)) (vS.heap.size) 26 #[.int .i64 0, .int .i64 0, .int .i64 0, .int .i64 0, .int .i64 0, .int .i64 0, .int .i64 0, .int .i64 0, .int .i64 0, .slice none 0 0] := RowAt.new vS 26 #[.int .i64 0, .int .i64 0, .int .i64 0, .int .i64 0, .int .i64 0, .int .i64 0, .int .i64 0, .int .i64 0, .int .i64 0, .slice none 0 0]; rw [← hwP, ← hbP] at RP0; rw [← hwP]; (try rw [← hbP]); have RP := Lib.hid RP0; have hPlt := RP0.lt; have hPm : vS.heap.size ≤ bP := Nat.le_of_eq hbP.symm; have hPn : bP ≤ vS.heap.size := Nat.le_of_eq hbP; have xP : Ext s2 wP := Ext.trans (by (repeat' (first | (with_reducible assumption) | (with_reducible exact Ext.refl _) | (with_reducible refine Ext.alloc ?_ _) | (with_reducible refine Ext.drew ?_) | (with_reducible refine Ext.setCell ?_ ?_ _) | (simp; done) | (simp; omega)))) halP; clear hbP hwP RP0; (try have ho0 := ho0.ext halP); (try have ho1 := ho1.ext halP); (try have hoi1 := hoi1.ext halP); (try have ho2 := ho2.ext halP); (try have hoR := hoR.ext halP)) | (obtain ⟨bP, hbP⟩ : ∃ x, x = v2.heap.size := ⟨_, rfl⟩; obtain ⟨wP, hwP⟩ : ∃ x, x = v2.alloc (.cells #[.int .i64 0, .int .i64 0, .int .i64 0, .int .i64 0, .int .i64 0, .int .i64 0, .int .i64 0, .int .i64 0, .int .i64 0, .slice none 0 0] 26) := ⟨_, rfl⟩; have halP : Ext v2 wP := (show Ext v2 (v2.alloc (.cells #[.int .i64 0, .int .i64 0, .int .i64 0, .int .i64 0, .int .i64 0, .int .i64 0, .int .i64 0, .int .i64 0, .int .i64 0, .slice none 0 0] 26)) from (Ext.refl _).alloc _) |> fun h => hwP ▸ h; have RP0 : RowAt (v2.alloc (.cells #[.int .i64 0, .int .i64 0, .int .i64 0, .int .i64 0, .int .i64 0, .int .i64 0, .int .i64 0, .int .i64 0, .int .i64 0, .slice none 0 0] 26)) (v2.heap.size) 26 #[.int .i64 0, .int .i64 0, .int .i64 0, .int .i64 0, .int .i64 0, .int .i64 0, .int .i64 0, .int .i64 0, .int .i64 0, .slice none 0 0] := RowAt.new v2 26 #[.int .i64 0, .int .i64 0, .int .i64 0, .int .i64 0, .int .i64 0, .int .i64 0, .int .i64 0, .int .i64 0, .int .i64 0, .slice none 0 0]; rw [← hwP, ← hbP] at RP0; rw [← hwP]; (try rw [← hbP]); have RP := Lib.hid RP0; have hPlt := RP0.lt; have hPm : v2.heap.size ≤ bP := Nat.le_of_eq hbP.symm; have hPn : bP ≤ v2.heap.size := Nat.le_of_eq hbP; have xP : Ext s2 wP := Ext.trans (by (repeat' (first | (with_reducible assumption) | (with_reducible exact Ext.refl _) | (with_reducible refine Ext.alloc ?_ _) | (with_reducible refine Ext.drew ?_) | (with_reducible refine Ext.setCell ?_ ?_ _) | (simp; done) | (simp; omega)))) halP; clear hbP hwP RP0; (try have ho0 := ho0.ext halP); (try have ho1 := ho1.ext halP); (try have hoi1 := hoi1.ext halP); (try have ho2 := ho2.ext halP); (try have hoR := hoR.ext halP)) | (obtain ⟨bP, hbP⟩ : ∃ x, x = v1.heap.size := ⟨_, rfl⟩; obtain ⟨wP, hwP⟩ : ∃ x, x = v1.alloc (.cells #[.int .i64 0, .int .i64 0, .int .i64 0, .int .i64 0, .int .i64 0, .int .i64 0, .int .i64 0, .int .i64 0, .int .i64 0, .slice none 0 0] 26) := ⟨_, rfl⟩; have halP : Ext v1 wP := (show Ext v1 (v1.alloc (.cells #[.int .i64 0, .int .i64 0, .int .i64 0, .int .i64 0, .int .i64 0, .int .i64 0, .int .i64 0, .int .i64 0, .int .i64 0, .slice none 0 0] 26)) from (Ext.refl _).alloc _) |> fun h => hwP ▸ h; have RP0 : RowAt (v1.alloc (.cells #[.int .i64 0, .int .i64 0, .int .i64 0, .int .i64 0, .int .i64 0, .int .i64 0, .int .i64 0, .int .i64 0, .int .i64 0, .slice none 0 0] 26)) (v1.heap.size) 26 #[.int .i64 0, .int .i64 0, .int .i64 0, .int .i64 0, .int .i64 0, .int .i64 0, .int .i64 0, .int .i64 0, .int .i64 0, .slice none 0 0] := RowAt.new v1 26 #[.int .i64 0, .int .i64 0, .int .i64 0, .int .i64 0, .int .i64 0, .int .i64 0, .int .i64 0, .int .i64 0, .int .i64 0, .slice none 0 0]; rw [← hwP, ← hbP] at RP0; rw [← hwP]; (try rw [← hbP]); have RP := Lib.hid RP0; have hPlt := RP0.lt; have hPm : v1.heap.size ≤ bP := Nat.le_of_eq hbP.symm; have hPn : bP ≤ v1.heap.size := Nat.le_of_eq hbP; have xP : Ext s2 wP := Ext.trans (by (repeat' (first | (with_reducible assumption) | (with_reducible exact Ext.refl _) | (with_reducible refine Ext.alloc ?_ _) | (with_reducible refine Ext.drew ?_) | (with_reducible refine Ext.setCell ?_ ?_ _) | (simp; done) | (simp; omega)))) halP; clear hbP hwP RP0; (try have ho0 := ho0.ext halP); (try have ho1 := ho1.ext halP); (try have hoi1 := hoi1.ext halP); (try have ho2 := ho2.ext halP); (try have hoR := hoR.ext halP)) | (obtain ⟨bP, hbP⟩ : ∃ x, x = v0.heap.size := ⟨_, rfl⟩; obtain ⟨wP, hwP⟩ : ∃ x, x = v0.alloc (.cells #[.int .i64 0, .int .i64 0, .int .i64 0, .int .i64 0, .int .i64 0, .int .i64 0, .int .i64 0, .int .i64 0, .int .i64 0, .slice none 0 0] 26) := ⟨_, rfl⟩; have halP : Ext v0 wP := (show Ext v0 (v0.alloc (.cells #[.int .i64 0, .int .i64 0, .int .i64 0, .int .i64 0, .int .i64 0, .int .i64 0, .int .i64 0, .int .i64 0, .int .i64 0, .slice none 0 0] 26)) from (Ext.refl _).alloc _) |> fun h => hwP ▸ h; have RP0 : RowAt (v0.alloc (.cells #[.int .i64 0, .int .i64 0, .int .i64 0, .int .i64 0, .int .i64 0, .int .i64 0, .int .i64 0, .int .i64 0, .int .i64 0, .slice none 0 0] 26)) (v0.heap.size) 26 #[.int .i64 0, .int .i64 0, .int .i64 0, .int .i64 0, .int .i64 0, .int .i64 0, .int .i64 0, .int .i64 0, .int .i64 0, .slice none 0 0] := RowAt.new v0 26 #[.int .i64 0, .int .i64 0, .int .i64 0, .int .i64 0, .int .i64 0, .int .i64 0, .int .i64 0, .int .i64 0, .int .i64 0, .slice none 0 0]; rw [← hwP, ← hbP] at RP0; rw [← hwP]; (try rw [← hbP]); have RP := Lib.hid RP0; have hPlt := RP0.lt; have hPm : v0.heap.size ≤ bP := Nat.le_of_eq hbP.symm; have hPn : bP ≤ v0.heap.size := Nat.le_of_eq hbP; have xP : Ext s2 wP := Ext.trans (by (repeat' (first | (with_reducible assumption) | (with_reducible exact Ext.refl _) | (with_reducible refine Ext.alloc ?_ _) | (with_reducible refine Ext.drew ?_) | (with_reducible refine Ext.setCell ?_ ?_ _) | (simp; done) | (simp; omega)))) halP; clear hbP hwP RP0; (try have ho0 := ho0.ext halP); (try have ho1 := ho1.ext halP); (try have hoi1 := hoi1.ext halP); (try have ho2 := ho2.ext halP); (try have hoR := hoR.ext halP)) | (obtain ⟨bP, hbP⟩ : ∃ x, x = s2.heap.size := ⟨_, rfl⟩; obtain ⟨wP, hwP⟩ : ∃ x, x = (s2.alloc (.cells #[.int .i64 0, .int .i64 0, .int .i64 0, .int .i64 0, .int .i64 0, .int .i64 0, .int .i64 0, .int .i64 0, .int .i64 0, .slice none 0 0] 26)).drew := ⟨_, rfl⟩; have halP : Ext s2 wP := (show Ext s2 ((s2.alloc (.cells #[.int .i64 0, .int .i64 0, .int .i64 0, .int .i64 0, .int .i64 0, .int .i64 0, .int .i64 0, .int .i64 0, .int .i64 0, .slice none 0 0] 26)).drew) from ((Ext.refl _).alloc _).drew) |> fun h => hwP ▸ h; have RP0 : RowAt ((s2.alloc (.cells #[.int .i64 0, .int .i64 0, .int .i64 0, .int .i64 0, .int .i64 0, .int .i64 0, .int .i64 0, .int .i64 0, .int .i64 0, .slice none 0 0] 26)).drew) (s2.heap.size) 26 #[.int .i64 0, .int .i64 0, .int .i64 0, .int .i64 0, .int .i64 0, .int .i64 0, .int .i64 0, .int .i64 0, .int .i64 0, .slice none 0 0] := (RowAt.new s2 26 #[.int .i64 0, .int .i64 0, .int .i64 0, .int .i64 0, .int .i64 0, .int .i64 0, .int .i64 0, .int .i64 0, .int .i64 0, .slice none 0 0]).ext (Ext.refl _).drew; rw [← hwP, ← hbP] at RP0; rw [← hwP]; (try rw [← hbP]); have RP := Lib.hid RP0; have hPlt := RP0.lt; have hPm : s2.heap.size ≤ bP := Nat.le_of_eq hbP.symm; have hPn : bP ≤ s2.heap.size := Nat.le_of_eq hbP; have xP : Ext s2 wP := Ext.trans (by (repeat' (first | (with_reducible assumption) | (with_reducible exact Ext.refl _) | (with_reducible refine Ext.alloc ?_ _) | (with_reducible refine Ext.drew ?_) | (with_reducible refine Ext.setCell ?_ ?_ _) | (simp; done) | (simp; omega)))) halP; clear hbP hwP RP0; (try have ho0 := ho0.ext halP); (try have ho1 := ho1.ext halP); (try have hoi1 := hoi1.ext halP); (try have ho2 := ho2.ext halP); (try have hoR := hoR.ext halP)) | (obtain ⟨bP, hbP⟩ : ∃ x, x = s2.heap.size := ⟨_, rfl⟩; obtain ⟨wP, hwP⟩ : ∃ x, x = s2.drew.alloc (.cells #[.int .i64 0, .int .i64 0, .int .i64 0, .int .i64 0, .int .i64 0, .int .i64 0, .int .i64 0, .int .i64 0, .int .i64 0, .slice none 0 0] 26) := ⟨_, rfl⟩; have halP : Ext s2 wP := (show Ext s2 (s2.drew.alloc (.cells #[.int .i64 0, .int .i64 0, .int .i64 0, .int .i64 0, .int .i64 0, .int .i64 0, .int .i64 0, .int .i64 0, .int .i64 0, .slice none 0 0] 26)) from (Ext.refl _).drew.alloc _) |> fun h => hwP ▸ h; have RP0 : RowAt (s2.drew.alloc (.cells #[.int .i64 0, .int .i64 0, .int .i64 0, .int .i64 0, .int .i64 0, .int .i64 0, .int .i64 0, .int .i64 0, .int .i64 0, .slice none 0 0] 26)) (s2.heap.size) 26 #[.int .i64 0, .int .i64 0, .int .i64 0, .int .i64 0, .int .i64 0, .int .i64 0, .int .i64 0, .int .i64 0, .int .i64 0, .slice none 0 0] := RowAt.new s2 26 #[.int .i64 0, .int .i64 0, .int .i64 0, .int .i64 0, .int .i64 0, .int .i64 0, .int .i64 0, .int .i64 0, .int .i64 0, .slice none 0 0]; rw [← hwP, ← hbP] at RP0; rw [← hwP]; (try rw [← hbP]); have RP := Lib.hid RP0; have hPlt := RP0.lt; have hPm : s2.heap.size ≤ bP := Nat.le_of_eq hbP.symm; have hPn : bP ≤ s2.heap.size := Nat.le_of_eq hbP; have xP : Ext s2 wP := Ext.trans (by (repeat' (first | (with_reducible assumption) | (with_reducible exact Ext.refl _) | (with_reducible refine Ext.alloc ?_ _) | (with_reducible refine Ext.drew ?_) | (with_reducible refine Ext.setCell ?_ ?_ _) | (simp; done) | (simp; omega)))) halP; clear hbP hwP RP0; (try have ho0 := ho0.ext halP); (try have ho1 := ho1.ext halP); (try have hoi1 := hoi1.ext halP); (try have ho2 := ho2.ext halP); (try have hoR := hoR.ext halP))
    refine hK.out _ _ ?_ (fun hH3 => ?_)
    · (try dsimp only)
      (exact HSK.out _ (by (repeat' (first | (with_reducible assumption) | (with_reducible exact Ext.refl _) | (with_reducible refine Ext.alloc ?_ _) | (with_reducible refine Ext.drew ?_) | (with_reducible refine Ext.setCell ?_ ?_ _) | (simp; done) | (simp; omega)))))
    clear hK K hH2
    (try simp only [Act.put, List.setIfInBounds_toArray, List.set_cons_zero, List.set_cons_succ])
    refine wpAnyH_ready (rs := [5]) (by kernel_rfl) (by simp) ?_
    refine cons_l (i := 5) rfl (fun K hK => ?_) ?_
    go_simp; (go_at_call 42; with_reducible refine (toTrain_any _ _ _ _ rows _ HRN.out hrs2 HRR.out (HFR.out.ext (HW0.out.trans (by (repeat' (first | (with_reducible assumption) | (with_reducible exact Ext.refl _) | (with_reducible refine Ext.alloc ?_ _) | (with_reducible refine Ext.drew ?_) | (with_reducible refine Ext.setCell ?_ ?_ _) | (simp; done) | (simp; omega))))))).mono ?_); rintro e v2 ⟨rP2, rfl, ho2, hb2⟩; have xv2 : Ext s2 v2 := Ext.trans (by (repeat' (first | (with_reducible assumption) | (with_reducible exact Ext.refl _) | (with_reducible refine Ext.alloc ?_ _) | (with_reducible refine Ext.drew ?_) | (with_reducible refine Ext.setCell ?_ ?_ _) | (simp; done) | (simp; omega)))) hb2; have zv2 := hb2.size; (try simp only [World.size_drew] at zv2); (try have RP := Lib.hid (RP.out.ext hb2)); have ho0 := ho0.ext hb2; have ho1 := ho1.ext hb2; have hoi1 := hoi1.ext hb2
    refine hK.out _ _ ?_ (fun hH4 => ?_)
    · (try dsimp only)
      (exact HSK.out _ (by (repeat' (first | (with_reducible assumption) | (with_reducible exact Ext.refl _) | (with_reducible refine Ext.alloc ?_ _) | (with_reducible refine Ext.drew ?_) | (with_reducible refine Ext.setCell ?_ ?_ _) | (simp; done) | (simp; omega)))))
    clear hK K hH3
    (try simp only [Act.put, List.setIfInBounds_toArray, List.set_cons_zero, List.set_cons_succ])
    refine wpAnyH_ready (rs := [6]) (by kernel_rfl) (by simp) ?_
    refine cons_l (i := 6) rfl (fun K hK => ?_) ?_
    go_simp; (go_at_call 39; with_reducible refine (specEnterL_any ts1 n1 ok _ _ _ _ _ _ _ _ _ _ _ _ ts _ _ _ _ _ _ _ ps xs _ _ _ _ rows _ HN.out hs2 HTS.out ho0.trains HT.out htl2 HP.out hpl2 ho1.at hoi1.at HVOL.out HRN.out hrs2 HRR.out HRT.out ho2.rows HI0.out HI1.out HN1.out HRES.out).mono ?_); rintro e vS ⟨pP, qP, rfl, hoR, hbs⟩; have xvS : Ext s2 vS := Ext.trans (by (repeat' (first | (with_reducible assumption) | (with_reducible exact Ext.refl _) | (with_reducible refine Ext.alloc ?_ _) | (with_reducible refine Ext.drew ?_) | (with_reducible refine Ext.setCell ?_ ?_ _) | (simp; done) | (simp; omega)))) hbs; have zvS := hbs.size; (try have RP := Lib.hid (RP.out.ext hbs))
    refine hK.out _ _ ?_ (fun hH5 => ?_)
    · (try dsimp only)
      (exact HSK.out _ (by (repeat' (first | (with_reducible assumption) | (with_reducible exact Ext.refl _) | (with_reducible refine Ext.alloc ?_ _) | (with_reducible refine Ext.drew ?_) | (with_reducible refine Ext.setCell ?_ ?_ _) | (simp; done) | (simp; omega)))))
    clear hK K hH4
    (try simp only [Act.put, List.setIfInBounds_toArray, List.set_cons_zero, List.set_cons_succ])
    refine take_l 7 (v := ?_) rfl (by kernel_rfl) (by kernel_rfl) (by kernel_rfl) (fun _ _ _ h => h) (by rfl) ?_ (by assumption) ?_
    rotate_left
    · (intro w hSw; (try dsimp only at hSw); go_simp; (try with_reducible rfl))
    (try simp only [Act.put, List.setIfInBounds_toArray, List.set_cons_zero, List.set_cons_succ])
    refine take_l 8 (v := ?_) rfl (by kernel_rfl) (by kernel_rfl) (by kernel_rfl) (fun _ _ _ h => h) (by rfl) ?_ (by assumption) ?_
    rotate_left
    · (intro w hSw; (try dsimp only at hSw); go_simp; (try with_reducible rfl))
    (try simp only [Act.put, List.setIfInBounds_toArray, List.set_cons_zero, List.set_cons_succ])
    refine take_l 9 (v := ?_) rfl (by kernel_rfl) (by kernel_rfl) (by kernel_rfl) (fun _ _ _ h => h) (by rfl) ?_ (by assumption) ?_
    rotate_left
    · (intro w hSw; (try dsimp only at hSw); go_simp; (try with_reducible rfl))
    (try simp only [Act.put, List.setIfInBounds_toArray, List.set_cons_zero, List.set_cons_succ])
    refine wpAnyH_ready (rs := [11]) (by kernel_rfl) (by simp) ?_
    refine cons_l (i := 11) rfl (fun K hK => ?_) ?_
    have hs0 := RP.out.cell (j := 0) (v := (.int .i64 0)) rfl; have hf0 := RP.out.frozen 0; have hs1 := RP.out.cell (j := 1) (v := (.int .i64 0)) rfl; have hf1 := RP.out.frozen 1; have hs2 := RP.out.cell (j := 2) (v := (.int .i64 0)) rfl; have hf2 := RP.out.frozen 2; have hs3 := RP.out.cell (j := 3) (v := (.int .i64 0)) rfl; have hf3 := RP.out.frozen 3; have hs4 := RP.out.cell (j := 4) (v := (.int .i64 0)) rfl; have hf4 := RP.out.frozen 4; have hs5 := RP.out.cell (j := 5) (v := (.int .i64 0)) rfl; have hf5 := RP.out.frozen 5; have hs6 := RP.out.cell (j := 6) (v := (.int .i64 0)) rfl; have hf6 := RP.out.frozen 6; have hs7 := RP.out.cell (j := 7) (v := (.int .i64 0)) rfl; have hf7 := RP.out.frozen 7; have hs8 := RP.out.cell (j := 8) (v := (.int .i64 0)) rfl; have hf8 := RP.out.frozen 8; have hs9 := RP.out.cell (j := 9) (v := (.slice none 0 0)) rfl; have hf9 := RP.out.frozen 9; go_simp
    refine hK.out _ _ ?_ (fun hH6 => ?_)
    · (try dsimp only)
      (exact HSK.out _ (by (repeat' (first | (with_reducible assumption) | (with_reducible exact Ext.refl _) | (with_reducible refine Ext.alloc ?_ _) | (with_reducible refine Ext.drew ?_) | (with_reducible refine Ext.setCell ?_ ?_ _) | (simp; done) | (simp; omega)))))
    clear hK K hH5
    (try simp only [Act.put, List.setIfInBounds_toArray, List.set_cons_zero, List.set_cons_succ])
    refine take_l 12 (v := ?_) rfl (by kernel_rfl) (by kernel_rfl) (by kernel_rfl) (fun _ _ _ h => h) (by rfl) ?_ (by assumption) ?_
    rotate_left
    · (intro w hSw; (try dsimp only at hSw); go_simp; (try with_reducible rfl))
    (try simp only [Act.put, List.setIfInBounds_toArray, List.set_cons_zero, List.set_cons_succ])
    refine wpAnyH_done (by kernel_rfl) ?_ _
    rotate_left
    exact AllReadyH.nil
    exact AllReadyH.nil
    exact AllReadyH.nil
    exact AllReadyH.nil
    refine cons_l (i := 10) rfl (fun K hK => ?_) ?_
    go_simp; first | (obtain ⟨bP, hbP⟩ : ∃ x, x = vS.heap.size := ⟨_, rfl⟩; obtain ⟨wP, hwP⟩ : ∃ x, x = vS.alloc (.cells #[.int .i64 0, .int .i64 0, .int .i64 0, .int .i64 0, .int .i64 0, .int .i64 0, .int .i64 0, .int .i64 0, .int .i64 0, .slice none 0 0] 26) := ⟨_, rfl⟩; have halP : Ext vS wP := (show Ext vS (vS.alloc (.cells #[.int .i64 0, .int .i64 0, .int .i64 0, .int .i64 0, .int .i64 0, .int .i64 0, .int .i64 0, .int .i64 0, .int .i64 0, .slice none 0 0] 26)) from (Ext.refl _).alloc _) |> fun h => hwP ▸ h; have RP0 : RowAt (vS.alloc (.cells #[.int .i64 0, .int .i64 0, .int .i64 0, .int .i64 0, .int .i64 0, .int .i64 0, .int .i64 0, .int .i64 0, .int .i64 0, .slice none 0 0] 26)) (vS.heap.size) 26 #[.int .i64 0, .int .i64 0, .int .i64 0, .int .i64 0, .int .i64 0, .int .i64 0, .int .i64 0, .int .i64 0, .int .i64 0, .slice none 0 0] := RowAt.new vS 26 #[.int .i64 0, .int .i64 0, .int .i64 0, .int .i64 0, .int .i64 0, .int .i64 0, .int .i64 0, .int .i64 0, .int .i64 0, .slice none 0 0]; rw [← hwP, ← hbP] at RP0; rw [← hwP]; (try rw [← hbP]); have RP := Lib.hid RP0; have hPlt := RP0.lt; have hPm : vS.heap.size ≤ bP := Nat.le_of_eq hbP.symm; have hPn : bP ≤ vS.heap.size := Nat.le_of_eq hbP; have xP : Ext s2 wP := Ext.trans (by (repeat' (first | (with_reducible assumption) | (with_reducible exact Ext.refl _) | (with_reducible refine Ext.alloc ?_ _) | (with_reducible refine Ext.drew ?_) | (with_reducible refine Ext.setCell ?_ ?_ _) | (simp; done) | (simp; omega)))) halP; clear hbP hwP RP0; (try have ho0 := ho0.ext halP); (try have ho1 := ho1.ext halP); (try have hoi1 := hoi1.ext halP); (try have ho2 := ho2.ext halP); (try have hoR := hoR.ext halP)) | (obtain ⟨bP, hbP⟩ : ∃ x, x = v2.heap.size := ⟨_, rfl⟩; obtain ⟨wP, hwP⟩ : ∃ x, x = v2.alloc (.cells #[.int .i64 0, .int .i64 0, .int .i64 0, .int .i64 0, .int .i64 0, .int .i64 0, .int .i64 0, .int .i64 0, .int .i64 0, .slice none 0 0] 26) := ⟨_, rfl⟩; have halP : Ext v2 wP := (show Ext v2 (v2.alloc (.cells #[.int .i64 0, .int .i64 0, .int .i64 0, .int .i64 0, .int .i64 0, .int .i64 0, .int .i64 0, .int .i64 0, .int .i64 0, .slice none 0 0] 26)) from (Ext.refl _).alloc _) |> fun h => hwP ▸ h; have RP0 : RowAt (v2.alloc (.cells #[.int .i64 0, .int .i64 0, .int .i64 0, .int .i64 0, .int .i64 0, .int .i64 0, .int .i64 0, .int .i64 0, .int .i64 0, .slice none 0 0] 26)) (v2.heap.size) 26 #[.int .i64 0, .int .i64 0, .int .i64 0, .int .i64 0, .int .i64 0, .int .i64 0, .int .i64 0, .int .i64 0, .int .i64 0, .slice none 0 0] := RowAt.new v2 26 #[.int .i64 0, .int .i64 0, .int .i64 0, .int .i64 0, .int .i64 0, .int .i64 0, .int .i64 0, .int .i64 0, .int .i64 0, .slice none 0 0]; rw [← hwP, ← hbP] at RP0; rw [← hwP]; (try rw [← hbP]); have RP := Lib.hid RP0; have hPlt := RP0.lt; have hPm : v2.heap.size ≤ bP := Nat.le_of_eq hbP.symm; have hPn : bP ≤ v2.heap.size := Nat.le_of_eq hbP; have xP : Ext s2 wP := Ext.trans (by (repeat' (first | (with_reducible assumption) | (with_reducible exact Ext.refl _) | (with_reducible refine Ext.alloc ?_ _) | (with_reducible refine Ext.drew ?_) | (with_reducible refine Ext.setCell ?_ ?_ _) | (simp; done) | (simp; omega)))) halP; clear hbP hwP RP0; (try have ho0 := ho0.ext halP); (try have ho1 := ho1.ext halP); (try have hoi1 := hoi1.ext halP); (try have ho2 := ho2.ext halP); (try have hoR := hoR.ext halP)) | (obtain ⟨bP, hbP⟩ : ∃ x, x = v1.heap.size := ⟨_, rfl⟩; obtain ⟨wP, hwP⟩ : ∃ x, x = v1.alloc (.cells #[.int .i64 0, .int .i64 0, .int .i64 0, .int .i64 0, .int .i64 0, .int .i64 0, .int .i64 0, .int .i64 0, .int .i64 0, .slice none 0 0] 26) := ⟨_, rfl⟩; have halP : Ext v1 wP := (show Ext v1 (v1.alloc (.cells #[.int .i64 0, .int .i64 0, .int .i64 0, .int .i64 0, .int .i64 0, .int .i64 0, .int .i64 0, .int .i64 0, .int .i64 0, .slice none 0 0] 26)) from (Ext.refl _).alloc _) |> fun h => hwP ▸ h; have RP0 : RowAt (v1.alloc (.cells #[.int .i64 0, .int .i64 0, .int .i64 0, .int .i64 0, .int .i64 0, .int .i64 0, .int .i64 0, .int .i64 0, .int .i64 0, .slice none 0 0] 26)) (v1.heap.size) 26 #[.int .i64 0, .int .i64 0, .int .i64 0, .int .i64 0, .int .i64 0, .int .i64 0, .int .i64 0, .int .i64 0, .int .i64 0, .slice none 0 0] := RowAt.new v1 26 #[.int .i64 0, .int .i64 0, .int .i64 0, .int .i64 0, .int .i64 0, .int .i64 0, .int .i64 0, .int .i64 0, .int .i64 0, .slice none 0 0]; rw [← hwP, ← hbP] at RP0; rw [← hwP]; (try rw [← hbP]); have RP := Lib.hid RP0; have hPlt := RP0.lt; have hPm : v1.heap.size ≤ bP := Nat.le_of_eq hbP.symm; have hPn : bP ≤ v1.heap.size := Nat.le_of_eq hbP; have xP : Ext s2 wP := Ext.trans (by (repeat' (first | (with_reducible assumption) | (with_reducible exact Ext.refl _) | (with_reducible refine Ext.alloc ?_ _) | (with_reducible refine Ext.drew ?_) | (with_reducible refine Ext.setCell ?_ ?_ _) | (simp; done) | (simp; omega)))) halP; clear hbP hwP RP0; (try have ho0 := ho0.ext halP); (try have ho1 := ho1.ext halP); (try have hoi1 := hoi1.ext halP); (try have ho2 := ho2.ext halP); (try have hoR := hoR.ext halP)) | (obtain ⟨bP, hbP⟩ : ∃ x, x = v0.heap.size := ⟨_, rfl⟩; obtain ⟨wP, hwP⟩ : ∃ x, x = v0.alloc (.cells #[.int .i64 0, .int .i64 0, .int .i64 0, .int .i64 0, .int .i64 0, .int .i64 0, .int .i64 0, .int .i64 0, .int .i64 0, .slice none 0 0] 26) := ⟨_, rfl⟩; have halP : Ext v0 wP := (show Ext v0 (v0.alloc (.cells #[.int .i64 0, .int .i64 0, .int .i64 0, .int .i64 0, .int .i64 0, .int .i64 0, .int .i64 0, .int .i64 0, .int .i64 0, .slice none 0 0] 26)) from (Ext.refl _).alloc _) |> fun h => hwP ▸ h; have RP0 : RowAt (v0.alloc (.cells #[.int .i64 0, .int .i64 0, .int .i64 0, .int .i64 0, .int .i64 0, .int .i64 0, .int .i64 0, .int .i64 0, .int .i64 0, .slice none 0 0] 26)) (v0.heap.size) 26 #[.int .i64 0, .int .i64 0, .int .i64 0, .int .i64 0, .int .i64 0, .int .i64 0, .int .i64 0, .int .i64 0, .int .i64 0, .slice none 0 0] := RowAt.new v0 26 #[.int .i64 0, .int .i64 0, .int .i64 0, .int .i64 0, .int .i64 0, .int .i64 0, .int .i64 0, .int .i64 0, .int .i64 0, .slice none 0 0]; rw [← hwP, ← hbP] at RP0; rw [← hwP]; (try rw [← hbP]); have RP := Lib.hid RP0; have hPlt := RP0.lt; have hPm : v0.heap.size ≤ bP := Nat.le_of_eq hbP.symm; have hPn : bP ≤ v0.heap.size := Nat.le_of_eq hbP; have xP : Ext s2 wP := Ext.trans (by (repeat' (first | (with_reducible assumption) | (with_reducible exact Ext.refl _) | (with_reducible refine Ext.alloc ?_ _) | (with_reducible refine Ext.drew ?_) | (with_reducible refine Ext.setCell ?_ ?_ _) | (simp; done) | (simp; omega)))) halP; clear hbP hwP RP0; (try have ho0 := ho0.ext halP); (try have ho1 := ho1.ext halP); (try have hoi1 := hoi1.ext halP); (try have ho2 := ho2.ext halP); (try have hoR := hoR.ext halP)) | (obtain ⟨bP, hbP⟩ : ∃ x, x = s2.heap.size := ⟨_, rfl⟩; obtain ⟨wP, hwP⟩ : ∃ x, x = (s2.alloc (.cells #[.int .i64 0, .int .i64 0, .int .i64 0, .int .i64 0, .int .i64 0, .int .i64 0, .int .i64 0, .int .i64 0, .int .i64 0, .slice none 0 0] 26)).drew := ⟨_, rfl⟩; have halP : Ext s2 wP := (show Ext s2 ((s2.alloc (.cells #[.int .i64 0, .int .i64 0, .int .i64 0, .int .i64 0, .int .i64 0, .int .i64 0, .int .i64 0, .int .i64 0, .int .i64 0, .slice none 0 0] 26)).drew) from ((Ext.refl _).alloc _).drew) |> fun h => hwP ▸ h; have RP0 : RowAt ((s2.alloc (.cells #[.int .i64 0, .int .i64 0, .int .i64 0, .int .i64 0, .int .i64 0, .int .i64 0, .int .i64 0, .int .i64 0, .int .i64 0, .slice none 0 0] 26)).drew) (s2.heap.size) 26 #[.int .i64 0, .int .i64 0, .int .i64 0, .int .i64 0, .int .i64 0, .int .i64 0, .int .i64 0, .int .i64 0, .int .i64 0, .slice none 0 0] := (RowAt.new s2 26 #[.int .i64 0, .int .i64 0, .int .i64 0, .int .i64 0, .int .i64 0, .int .i64 0, .int .i64 0, .int .i64 0, .int .i64 0, .slice none 0 0]).ext (Ext.refl _).drew; rw [← hwP, ← hbP] at RP0; rw [← hwP]; (try rw [← hbP]); have RP := Lib.hid RP0; have hPlt := RP0.lt; have hPm : s2.heap.size ≤ bP := Nat.le_of_eq hbP.symm; have hPn : bP ≤ s2.heap.size := Nat.le_of_eq hbP; have xP : Ext s2 wP := Ext.trans (by (repeat' (first | (with_reducible assumption) | (with_reducible exact Ext.refl _) | (with_reducible refine Ext.alloc ?_ _) | (with_reducible refine Ext.drew ?_) | (with_reducible refine Ext.setCell ?_ ?_ _) | (simp; done) | (simp; omega)))) halP; clear hbP hwP RP0; (try have ho0 := ho0.ext halP); (try have ho1 := ho1.ext halP); (try have hoi1 := hoi1.ext halP); (try have ho2 := ho2.ext halP); (try have hoR := hoR.ext halP)) | (obtain ⟨bP, hbP⟩ : ∃ x, x = s2.heap.size := ⟨_, rfl⟩; obtain ⟨wP, hwP⟩ : ∃ x, x = s2.drew.alloc (.cells #[.int .i64 0, .int .i64 0, .int .i64 0, .int .i64 0, .int .i64 0, .int .i64 0, .int .i64 0, .int .i64 0, .int .i64 0, .slice none 0 0] 26) := ⟨_, rfl⟩; have halP : Ext s2 wP := (show Ext s2 (s2.drew.alloc (.cells #[.int .i64 0, .int .i64 0, .int .i64 0, .int .i64 0, .int .i64 0, .int .i64 0, .int .i64 0, .int .i64 0, .int .i64 0, .slice none 0 0] 26)) from (Ext.refl _).drew.alloc _) |> fun h => hwP ▸ h; have RP0 : RowAt (s2.drew.alloc (.cells #[.int .i64 0, .int .i64 0, .int .i64 0, .int .i64 0, .int .i64 0, .int .i64 0, .int .i64 0, .int .i64 0, .int .i64 0, .slice none 0 0] 26)) (s2.heap.size) 26 #[.int .i64 0, .int .i64 0, .int .i64 0, .int .i64 0, .int .i64 0, .int .i64 0, .int .i64 0, .int .i64 0, .int .i64 0, .slice none 0 0] := RowAt.new s2 26 #[.int .i64 0, .int .i64 0, .int .i64 0, .int .i64 0, .int .i64 0, .int .i64 0, .int .i64 0, .int .i64 0, .int .i64 0, .slice none 0 0]; rw [← hwP, ← hbP] at RP0; rw [← hwP]; (try rw [← hbP]); have RP := Lib.hid RP0; have hPlt := RP0.lt; have hPm : s2.heap.size ≤ bP := Nat.le_of_eq hbP.symm; have hPn : bP ≤ s2.heap.size := Nat.le_of_eq hbP; have xP : Ext s2 wP := Ext.trans (by (repeat' (first | (with_reducible assumption) | (with_reducible exact Ext.refl _) | (with_reducible refine Ext.alloc ?_ _) | (with_reducible refine Ext.drew ?_) | (with_reducible refine Ext.setCell ?_ ?_ _) | (simp; done) | (simp; omega)))) halP; clear hbP hwP RP0; (try have ho0 := ho0.ext halP); (try have ho1 := ho1.ext halP); (try have hoi1 := hoi1.ext halP); (try have ho2 := ho2.ext halP); (try have hoR := hoR.ext halP))
    refine hK.out _ _ ?_ (fun hH2 => ?_)
    · (try dsimp only)
      (exact HSK.out _ (by (repeat' (first | (with_reducible assumption) | (with_reducible exact Ext.refl _) | (with_reducible refine Ext.alloc ?_ _) | (with_reducible refine Ext.drew ?_) | (with_reducible refine Ext.setCell ?_ ?_ _) | (simp; done) | (simp; omega)))))
    clear hK K hH1
    (try simp only [Act.put, List.setIfInBounds_toArray, List.set_cons_zero, List.set_cons_succ])
    refine wpAnyH_ready (rs := [3]) (by kernel_rfl) (by simp) ?_
    refine cons_l (i := 3) rfl (fun K hK => ?_) ?_
    go_simp; (go_at_call 41; with_reducible refine (toReach_any _ _ _ _ _ _ _ ps xs _ HT.out htl2 HP.out hpl2 (HFT.out.ext (HW0.out.trans (by (repeat' (first | (with_reducible assumption) | (with_reducible exact Ext.refl _) | (with_reducible refine Ext.alloc ?_ _) | (with_reducible refine Ext.drew ?_) | (with_reducible refine Ext.setCell ?_ ?_ _) | (simp; done) | (simp; omega)))))) (HFP.out.ext (HW0.out.trans (by (repeat' (first | (with_reducible assumption) | (with_reducible exact Ext.refl _) | (with_reducible refine Ext.alloc ?_ _) | (with_reducible refine Ext.drew ?_) | (with_reducible refine Ext.setCell ?_ ?_ _) | (simp; done) | (simp; omega))))))).mono ?_); rintro e v1 ⟨fP1, gP1, midP1, rfl, hmP1, ho1, hoi1, hb1⟩; have xv1 : Ext s2 v1 := Ext.trans (by (repeat' (first | (with_reducible assumption) | (with_reducible exact Ext.refl _) | (with_reducible refine Ext.alloc ?_ _) | (with_reducible refine Ext.drew ?_) | (with_reducible refine Ext.setCell ?_ ?_ _) | (simp; done) | (simp; omega)))) hb1; have zv1 := hb1.size; (try simp only [World.size_drew] at zv1); (try have RP := Lib.hid (RP.out.ext hb1)); have ho0 := ho0.ext hb1
    refine hK.out _ _ ?_ (fun hH3 => ?_)
    · (try dsimp only)
      (exact HSK.out _ (by (repeat' (first | (with_reducible assumption) | (with_reducible exact Ext.refl _) | (with_reducible refine Ext.alloc ?_ _) | (with_reducible refine Ext.drew ?_) | (with_reducible refine Ext.setCell ?_ ?_ _) | (simp; done) | (simp; omega)))))
    clear hK K hH2
    (try simp only [Act.put, List.setIfInBounds_toArray, List.set_cons_zero, List.set_cons_succ])
    refine wpAnyH_ready (rs := [5]) (by kernel_rfl) (by simp) ?_
    refine cons_l (i := 5) rfl (fun K hK => ?_) ?_
    go_simp; (go_at_call 42; with_reducible refine (toTrain_any _ _ _ _ rows _ HRN.out hrs2 HRR.out (HFR.out.ext (HW0.out.trans (by (repeat' (first | (with_reducible assumption) | (with_reducible exact Ext.refl _) | (with_reducible refine Ext.alloc ?_ _) | (with_reducible refine Ext.drew ?_) | (with_reducible refine Ext.setCell ?_ ?_ _) | (simp; done) | (simp; omega))))))).mono ?_); rintro e v2 ⟨rP2, rfl, ho2, hb2⟩; have xv2 : Ext s2 v2 := Ext.trans (by (repeat' (first | (with_reducible assumption) | (with_reducible exact Ext.refl _) | (with_reducible refine Ext.alloc ?_ _) | (with_reducible refine Ext.drew ?_) | (with_reducible refine Ext.setCell ?_ ?_ _) | (simp; done) | (simp; omega)))) hb2; have zv2 := hb2.size; (try simp only [World.size_drew] at zv2); (try have RP := Lib.hid (RP.out.ext hb2)); have ho0 := ho0.ext hb2; have ho1 := ho1.ext hb2; have hoi1 := hoi1.ext hb2
    refine hK.out _ _ ?_ (fun hH4 => ?_)
    · (try dsimp only)
      (exact HSK.out _ (by (repeat' (first | (with_reducible assumption) | (with_reducible exact Ext.refl _) | (with_reducible refine Ext.alloc ?_ _) | (with_reducible refine Ext.drew ?_) | (with_reducible refine Ext.setCell ?_ ?_ _) | (simp; done) | (simp; omega)))))
    clear hK K hH3
    (try simp only [Act.put, List.setIfInBounds_toArray, List.set_cons_zero, List.set_cons_succ])
    refine wpAnyH_ready (rs := [6]) (by kernel_rfl) (by simp) ?_
    refine cons_l (i := 6) rfl (fun K hK => ?_) ?_
    go_simp; (go_at_call 39; with_reducible refine (specEnterL_any ts1 n1 ok _ _ _ _ _ _ _ _ _ _ _ _ ts _ _ _ _ _ _ _ ps xs _ _ _ _ rows _ HN.out hs2 HTS.out ho0.trains HT.out htl2 HP.out hpl2 ho1.at hoi1.at HVOL.out HRN.out hrs2 HRR.out HRT.out ho2.rows HI0.out HI1.out HN1.out HRES.out).mono ?_); rintro e vS ⟨pP, qP, rfl, hoR, hbs⟩; have xvS : Ext s2 vS := Ext.trans (by (repeat' (first | (with_reducible assumption) | (with_reducible exact Ext.refl _) | (with_reducible refine Ext.alloc ?_ _) | (with_reducible refine Ext.drew ?_) | (with_reducible refine Ext.setCell ?_ ?_ _) | (simp; done) | (simp; omega)))) hbs; have zvS := hbs.size; (try have RP := Lib.hid (RP.out.ext hbs))
    refine hK.out _ _ ?_ (fun hH5 => ?_)
    · (try dsimp only)
      (exact HSK.out _ (by (repeat' (first | (with_reducible assumption) | (with_reducible exact Ext.refl _) | (with_reducible refine Ext.alloc ?_ _) | (with_reducible refine Ext.drew ?_) | (with_reducible refine Ext.setCell ?_ ?_ _) | (simp; done) | (simp; omega)))))
    clear hK K hH4
    (try simp only [Act.put, List.setIfInBounds_toArray, List.set_cons_zero, List.set_cons_succ])
    refine take_l 7 (v := ?_) rfl (by kernel_rfl) (by kernel_rfl) (by kernel_rfl) (fun _ _ _ h => h) (by rfl) ?_ (by assumption) ?_
    rotate_left
    · (intro w hSw; (try dsimp only at hSw); go_simp; (try with_reducible rfl))
    (try simp only [Act.put, List.setIfInBounds_toArray, List.set_cons_zero, List.set_cons_succ])
    refine take_l 8 (v := ?_) rfl (by kernel_rfl) (by kernel_rfl) (by kernel_rfl) (fun _ _ _ h => h) (by rfl) ?_ (by assumption) ?_
    rotate_left
    · (intro w hSw; (try dsimp only at hSw); go_simp; (try with_reducible rfl))
    (try simp only [Act.put, List.setIfInBounds_toArray, List.set_cons_zero, List.set_cons_succ])
    refine take_l 9 (v := ?_) rfl (by kernel_rfl) (by kernel_rfl) (by kernel_rfl) (fun _ _ _ h => h) (by rfl) ?_ (by assumption) ?_
    rotate_left
    · (intro w hSw; (try dsimp only at hSw); go_simp; (try with_reducible rfl))
    (try simp only [Act.put, List.setIfInBounds_toArray, List.set_cons_zero, List.set_cons_succ])
    refine wpAnyH_ready (rs := [11]) (by kernel_rfl) (by simp) ?_
    refine cons_l (i := 11) rfl (fun K hK => ?_) ?_
    have hs0 := RP.out.cell (j := 0) (v := (.int .i64 0)) rfl; have hf0 := RP.out.frozen 0; have hs1 := RP.out.cell (j := 1) (v := (.int .i64 0)) rfl; have hf1 := RP.out.frozen 1; have hs2 := RP.out.cell (j := 2) (v := (.int .i64 0)) rfl; have hf2 := RP.out.frozen 2; have hs3 := RP.out.cell (j := 3) (v := (.int .i64 0)) rfl; have hf3 := RP.out.frozen 3; have hs4 := RP.out.cell (j := 4) (v := (.int .i64 0)) rfl; have hf4 := RP.out.frozen 4; have hs5 := RP.out.cell (j := 5) (v := (.int .i64 0)) rfl; have hf5 := RP.out.frozen 5; have hs6 := RP.out.cell (j := 6) (v := (.int .i64 0)) rfl; have hf6 := RP.out.frozen 6; have hs7 := RP.out.cell (j := 7) (v := (.int .i64 0)) rfl; have hf7 := RP.out.frozen 7; have hs8 := RP.out.cell (j := 8) (v := (.int .i64 0)) rfl; have hf8 := RP.out.frozen 8; have hs9 := RP.out.cell (j := 9) (v := (.slice none 0 0)) rfl; have hf9 := RP.out.frozen 9; go_simp
    refine hK.out _ _ ?_ (fun hH6 => ?_)
    · (try dsimp only)
      (exact HSK.out _ (by (repeat' (first | (with_reducible assumption) | (with_reducible exact Ext.refl _) | (with_reducible refine Ext.alloc ?_ _) | (with_reducible refine Ext.drew ?_) | (with_reducible refine Ext.setCell ?_ ?_ _) | (simp; done) | (simp; omega)))))
    clear hK K hH5
    (try simp only [Act.put, List.setIfInBounds_toArray, List.set_cons_zero, List.set_cons_succ])
    refine take_l 12 (v := ?_) rfl (by kernel_rfl) (by kernel_rfl) (by kernel_rfl) (fun _ _ _ h => h) (by rfl) ?_ (by assumption) ?_
    rotate_left
    · (intro w hSw; (try dsimp only at hSw); go_simp; (try with_reducible rfl))
    (try simp only [Act.put, List.setIfInBounds_toArray, List.set_cons_zero, List.set_cons_succ])
    refine wpAnyH_done (by kernel_rfl) ?_ _
    rotate_left
    exact AllReadyH.nil
    exact AllReadyH.nil
    exact AllReadyH.nil
    exact AllReadyH.nil
    exact AllReadyH.nil
    refine cons_l (i := 10) rfl (fun K hK => ?_) ?_
    go_simp; first | (obtain ⟨bP, hbP⟩ : ∃ x, x = vS.heap.size := ⟨_, rfl⟩; obtain ⟨wP, hwP⟩ : ∃ x, x = vS.alloc (.cells #[.int .i64 0, .int .i64 0, .int .i64 0, .int .i64 0, .int .i64 0, .int .i64 0, .int .i64 0, .int .i64 0, .int .i64 0, .slice none 0 0] 26) := ⟨_, rfl⟩; have halP : Ext vS wP := (show Ext vS (vS.alloc (.cells #[.int .i64 0, .int .i64 0, .int .i64 0, .int .i64 0, .int .i64 0, .int .i64 0, .int .i64 0, .int .i64 0, .int .i64 0, .slice none 0 0] 26)) from (Ext.refl _).alloc _) |> fun h => hwP ▸ h; have RP0 : RowAt (vS.alloc (.cells #[.int .i64 0, .int .i64 0, .int .i64 0, .int .i64 0, .int .i64 0, .int .i64 0, .int .i64 0, .int .i64 0, .int .i64 0, .slice none 0 0] 26)) (vS.heap.size) 26 #[.int .i64 0, .int .i64 0, .int .i64 0, .int .i64 0, .int .i64 0, .int .i64 0, .int .i64 0, .int .i64 0, .int .i64 0, .slice none 0 0] := RowAt.new vS 26 #[.int .i64 0, .int .i64 0, .int .i64 0, .int .i64 0, .int .i64 0, .int .i64 0, .int .i64 0, .int .i64 0, .int .i64 0, .slice none 0 0]; rw [← hwP, ← hbP] at RP0; rw [← hwP]; (try rw [← hbP]); have RP := Lib.hid RP0; have hPlt := RP0.lt; have hPm : vS.heap.size ≤ bP := Nat.le_of_eq hbP.symm; have hPn : bP ≤ vS.heap.size := Nat.le_of_eq hbP; have xP : Ext s2 wP := Ext.trans (by (repeat' (first | (with_reducible assumption) | (with_reducible exact Ext.refl _) | (with_reducible refine Ext.alloc ?_ _) | (with_reducible refine Ext.drew ?_) | (with_reducible refine Ext.setCell ?_ ?_ _) | (simp; done) | (simp; omega)))) halP; clear hbP hwP RP0; (try have ho0 := ho0.ext halP); (try have ho1 := ho1.ext halP); (try have hoi1 := hoi1.ext halP); (try have ho2 := ho2.ext halP); (try have hoR := hoR.ext halP)) | (obtain ⟨bP, hbP⟩ : ∃ x, x = v2.heap.size := ⟨_, rfl⟩; obtain ⟨wP, hwP⟩ : ∃ x, x = v2.alloc (.cells #[.int .i64 0, .int .i64 0, .int .i64 0, .int .i64 0, .int .i64 0, .int .i64 0, .int .i64 0, .int .i64 0, .int .i64 0, .slice none 0 0] 26) := ⟨_, rfl⟩; have halP : Ext v2 wP := (show Ext v2 (v2.alloc (.cells #[.int .i64 0, .int .i64 0, .int .i64 0, .int .i64 0, .int .i64 0, .int .i64 0, .int .i64 0, .int .i64 0, .int .i64 0, .slice none 0 0] 26)) from (Ext.refl _).alloc _) |> fun h => hwP ▸ h; have RP0 : RowAt (v2.alloc (.cells #[.int .i64 0, .int .i64 0, .int .i64 0, .int .i64 0, .int .i64 0, .int .i64 0, .int .i64 0, .int .i64 0, .int .i64 0, .slice none 0 0] 26)) (v2.heap.size) 26 #[.int .i64 0, .int .i64 0, .int .i64 0, .int .i64 0, .int .i64 0, .int .i64 0, .int .i64 0, .int .i64 0, .int .i64 0, .slice none 0 0] := RowAt.new v2 26 #[.int .i64 0, .int .i64 0, .int .i64 0, .int .i64 0, .int .i64 0, .int .i64 0, .int .i64 0, .int .i64 0, .int .i64 0, .slice none 0 0]; rw [← hwP, ← hbP] at RP0; rw [← hwP]; (try rw [← hbP]); have RP := Lib.hid RP0; have hPlt := RP0.lt; have hPm : v2.heap.size ≤ bP := Nat.le_of_eq hbP.symm; have hPn : bP ≤ v2.heap.size := Nat.le_of_eq hbP; have xP : Ext s2 wP := Ext.trans (by (repeat' (first | (with_reducible assumption) | (with_reducible exact Ext.refl _) | (with_reducible refine Ext.alloc ?_ _) | (with_reducible refine Ext.drew ?_) | (with_reducible refine Ext.setCell ?_ ?_ _) | (simp; done) | (simp; omega)))) halP; clear hbP hwP RP0; (try have ho0 := ho0.ext halP); (try have ho1 := ho1.ext halP); (try have hoi1 := hoi1.ext halP); (try have ho2 := ho2.ext halP); (try have hoR := hoR.ext halP)) | (obtain ⟨bP, hbP⟩ : ∃ x, x = v1.heap.size := ⟨_, rfl⟩; obtain ⟨wP, hwP⟩ : ∃ x, x = v1.alloc (.cells #[.int .i64 0, .int .i64 0, .int .i64 0, .int .i64 0, .int .i64 0, .int .i64 0, .int .i64 0, .int .i64 0, .int .i64 0, .slice none 0 0] 26) := ⟨_, rfl⟩; have halP : Ext v1 wP := (show Ext v1 (v1.alloc (.cells #[.int .i64 0, .int .i64 0, .int .i64 0, .int .i64 0, .int .i64 0, .int .i64 0, .int .i64 0, .int .i64 0, .int .i64 0, .slice none 0 0] 26)) from (Ext.refl _).alloc _) |> fun h => hwP ▸ h; have RP0 : RowAt (v1.alloc (.cells #[.int .i64 0, .int .i64 0, .int .i64 0, .int .i64 0, .int .i64 0, .int .i64 0, .int .i64 0, .int .i64 0, .int .i64 0, .slice none 0 0] 26)) (v1.heap.size) 26 #[.int .i64 0, .int .i64 0, .int .i64 0, .int .i64 0, .int .i64 0, .int .i64 0, .int .i64 0, .int .i64 0, .int .i64 0, .slice none 0 0] := RowAt.new v1 26 #[.int .i64 0, .int .i64 0, .int .i64 0, .int .i64 0, .int .i64 0, .int .i64 0, .int .i64 0, .int .i64 0, .int .i64 0, .slice none 0 0]; rw [← hwP, ← hbP] at RP0; rw [← hwP]; (try rw [← hbP]); have RP := Lib.hid RP0; have hPlt := RP0.lt; have hPm : v1.heap.size ≤ bP := Nat.le_of_eq hbP.symm; have hPn : bP ≤ v1.heap.size := Nat.le_of_eq hbP; have xP : Ext s2 wP := Ext.trans (by (repeat' (first | (with_reducible assumption) | (with_reducible exact Ext.refl _) | (with_reducible refine Ext.alloc ?_ _) | (with_reducible refine Ext.drew ?_) | (with_reducible refine Ext.setCell ?_ ?_ _) | (simp; done) | (simp; omega)))) halP; clear hbP hwP RP0; (try have ho0 := ho0.ext halP); (try have ho1 := ho1.ext halP); (try have hoi1 := hoi1.ext halP); (try have ho2 := ho2.ext halP); (try have hoR := hoR.ext halP)) | (obtain ⟨bP, hbP⟩ : ∃ x, x = v0.heap.size := ⟨_, rfl⟩; obtain ⟨wP, hwP⟩ : ∃ x, x = v0.alloc (.cells #[.int .i64 0, .int .i64 0, .int .i64 0, .int .i64 0, .int .i64 0, .int .i64 0, .int .i64 0, .int .i64 0, .int .i64 0, .slice none 0 0] 26) := ⟨_, rfl⟩; have halP : Ext v0 wP := (show Ext v0 (v0.alloc (.cells #[.int .i64 0, .int .i64 0, .int .i64 0, .int .i64 0, .int .i64 0, .int .i64 0, .int .i64 0, .int .i64 0, .int .i64 0, .slice none 0 0] 26)) from (Ext.refl _).alloc _) |> fun h => hwP ▸ h; have RP0 : RowAt (v0.alloc (.cells #[.int .i64 0, .int .i64 0, .int .i64 0, .int .i64 0, .int .i64 0, .int .i64 0, .int .i64 0, .int .i64 0, .int .i64 0, .slice none 0 0] 26)) (v0.heap.size) 26 #[.int .i64 0, .int .i64 0, .int .i64 0, .int .i64 0, .int .i64 0, .int .i64 0, .int .i64 0, .int .i64 0, .int .i64 0, .slice none 0 0] := RowAt.new v0 26 #[.int .i64 0, .int .i64 0, .int .i64 0, .int .i64 0, .int .i64 0, .int .i64 0, .int .i64 0, .int .i64 0, .int .i64 0, .slice none 0 0]; rw [← hwP, ← hbP] at RP0; rw [← hwP]; (try rw [← hbP]); have RP := Lib.hid RP0; have hPlt := RP0.lt; have hPm : v0.heap.size ≤ bP := Nat.le_of_eq hbP.symm; have hPn : bP ≤ v0.heap.size := Nat.le_of_eq hbP; have xP : Ext s2 wP := Ext.trans (by (repeat' (first | (with_reducible assumption) | (with_reducible exact Ext.refl _) | (with_reducible refine Ext.alloc ?_ _) | (with_reducible refine Ext.drew ?_) | (with_reducible refine Ext.setCell ?_ ?_ _) | (simp; done) | (simp; omega)))) halP; clear hbP hwP RP0; (try have ho0 := ho0.ext halP); (try have ho1 := ho1.ext halP); (try have hoi1 := hoi1.ext halP); (try have ho2 := ho2.ext halP); (try have hoR := hoR.ext halP)) | (obtain ⟨bP, hbP⟩ : ∃ x, x = s2.heap.size := ⟨_, rfl⟩; obtain ⟨wP, hwP⟩ : ∃ x, x = (s2.alloc (.cells #[.int .i64 0, .int .i64 0, .int .i64 0, .int .i64 0, .int .i64 0, .int .i64 0, .int .i64 0, .int .i64 0, .int .i64 0, .slice none 0 0] 26)).drew := ⟨_, rfl⟩; have halP : Ext s2 wP := (show Ext s2 ((s2.alloc (.cells #[.int .i64 0, .int .i64 0, .int .i64 0, .int .i64 0, .int .i64 0, .int .i64 0, .int .i64 0, .int .i64 0, .int .i64 0, .slice none 0 0] 26)).drew) from ((Ext.refl _).alloc _).drew) |> fun h => hwP ▸ h; have RP0 : RowAt ((s2.alloc (.cells #[.int .i64 0, .int .i64 0, .int .i64 0, .int .i64 0, .int .i64 0, .int .i64 0, .int .i64 0, .int .i64 0, .int .i64 0, .slice none 0 0] 26)).drew) (s2.heap.size) 26 #[.int .i64 0, .int .i64 0, .int .i64 0, .int .i64 0, .int .i64 0, .int .i64 0, .int .i64 0, .int .i64 0, .int .i64 0, .slice none 0 0] := (RowAt.new s2 26 #[.int .i64 0, .int .i64 0, .int .i64 0, .int .i64 0, .int .i64 0, .int .i64 0, .int .i64 0, .int .i64 0, .int .i64 0, .slice none 0 0]).ext (Ext.refl _).drew; rw [← hwP, ← hbP] at RP0; rw [← hwP]; (try rw [← hbP]); have RP := Lib.hid RP0; have hPlt := RP0.lt; have hPm : s2.heap.size ≤ bP := Nat.le_of_eq hbP.symm; have hPn : bP ≤ s2.heap.size := Nat.le_of_eq hbP; have xP : Ext s2 wP := Ext.trans (by (repeat' (first | (with_reducible assumption) | (with_reducible exact Ext.refl _) | (with_reducible refine Ext.alloc ?_ _) | (with_reducible refine Ext.drew ?_) | (with_reducible refine Ext.setCell ?_ ?_ _) | (simp; done) | (simp; omega)))) halP; clear hbP hwP RP0; (try have ho0 := ho0.ext halP); (try have ho1 := ho1.ext halP); (try have hoi1 := hoi1.ext halP); (try have ho2 := ho2.ext halP); (try have hoR := hoR.ext halP)) | (obtain ⟨bP, hbP⟩ : ∃ x, x = s2.heap.size := ⟨_, rfl⟩; obtain ⟨wP, hwP⟩ : ∃ x, x = s2.drew.alloc (.cells #[.int .i64 0, .int .i64 0, .int .i64 0, .int .i64 0, .int .i64 0, .int .i64 0, .int .i64 0, .int .i64 0, .int .i64 0, .slice none 0 0] 26) := ⟨_, rfl⟩; have halP : Ext s2 wP := (show Ext s2 (s2.drew.alloc (.cells #[.int .i64 0, .int .i64 0, .int .i64 0, .int .i64 0, .int .i64 0, .int .i64 0, .int .i64 0, .int .i64 0, .int .i64 0, .slice none 0 0] 26)) from (Ext.refl _).drew.alloc _) |> fun h => hwP ▸ h; have RP0 : RowAt (s2.drew.alloc (.cells #[.int .i64 0, .int .i64 0, .int .i64 0, .int .i64 0, .int .i64 0, .int .i64 0, .int .i64 0, .int .i64 0, .int .i64 0, .slice none 0 0] 26)) (s2.heap.size) 26 #[.int .i64 0, .int .i64 0, .int .i64 0, .int .i64 0, .int .i64 0, .int .i64 0, .int .i64 0, .int .i64 0, .int .i64 0, .slice none 0 0] := RowAt.new s2 26 #[.int .i64 0, .int .i64 0, .int .i64 0, .int .i64 0, .int .i64 0, .int .i64 0, .int .i64 0, .int .i64 0, .int .i64 0, .slice none 0 0]; rw [← hwP, ← hbP] at RP0; rw [← hwP]; (try rw [← hbP]); have RP := Lib.hid RP0; have hPlt := RP0.lt; have hPm : s2.heap.size ≤ bP := Nat.le_of_eq hbP.symm; have hPn : bP ≤ s2.heap.size := Nat.le_of_eq hbP; have xP : Ext s2 wP := Ext.trans (by (repeat' (first | (with_reducible assumption) | (with_reducible exact Ext.refl _) | (with_reducible refine Ext.alloc ?_ _) | (with_reducible refine Ext.drew ?_) | (with_reducible refine Ext.setCell ?_ ?_ _) | (simp; done) | (simp; omega)))) halP; clear hbP hwP RP0; (try have ho0 := ho0.ext halP); (try have ho1 := ho1.ext halP); (try have hoi1 := hoi1.ext halP); (try have ho2 := ho2.ext halP); (try have hoR := hoR.ext halP))
    refine hK.out _ _ ?_ (fun hH1 => ?_)
    · (try dsimp only)
      (exact HSK.out _ (by (repeat' (first | (with_reducible assumption) | (with_reducible exact Ext.refl _) | (with_reducible refine Ext.alloc ?_ _) | (with_reducible refine Ext.drew ?_) | (with_reducible refine Ext.setCell ?_ ?_ _) | (simp; done) | (simp; omega)))))
    clear hK K hH0
    (try simp only [Act.put, List.setIfInBounds_toArray, List.set_cons_zero, List.set_cons_succ])
    refine wpAnyH_ready (rs := [1]) (by kernel_rfl) (by simp) ?_
    refine cons_l (i := 1) rfl (fun K hK => ?_) ?_
    go_simp; (go_at_call 40; with_reducible refine (toLock_any _ _ _ _ _ _ _ _ _ _ _ _ ts _ HN.out hs2 HTS.out (HF.out.ext (HW0.out.trans (by (repeat' (first | (with_reducible assumption) | (with_reducible exact Ext.refl _) | (with_reducible refine Ext.alloc ?_ _) | (with_reducible refine Ext.drew ?_) | (with_reducible refine Ext.setCell ?_ ?_ _) | (simp; done) | (simp; omega))))))).mono ?_); rintro e v0 ⟨aP0, rfl, ho0, hb0⟩; have xv0 : Ext s2 v0 := Ext.trans (by (repeat' (first | (with_reducible assumption) | (with_reducible exact Ext.refl _) | (with_reducible refine Ext.alloc ?_ _) | (with_reducible refine Ext.drew ?_) | (with_reducible refine Ext.setCell ?_ ?_ _) | (simp; done) | (simp; omega)))) hb0; have zv0 := hb0.size; (try simp only [World.size_drew] at zv0); (try have RP := Lib.hid (RP.out.ext hb0))
    refine hK.out _ _ ?_ (fun hH2 => ?_)
    · (try dsimp only)
      (exact HSK.out _ (by (repeat' (first | (with_reducible assumption) | (with_reducible exact Ext.refl _) | (with_reducible refine Ext.alloc ?_ _) | (with_reducible refine Ext.drew ?_) | (with_reducible refine Ext.setCell ?_ ?_ _) | (simp; done) | (simp; omega)))))
    clear hK K hH1
    (try simp only [Act.put, List.setIfInBounds_toArray, List.set_cons_zero, List.set_cons_succ])
    refine wpAnyH_ready (rs := [3]) (by kernel_rfl) (by simp) ?_
    refine cons_l (i := 3) rfl (fun K hK => ?_) ?_
    go_simp; (go_at_call 41; with_reducible refine (toReach_any _ _ _ _ _ _ _ ps xs _ HT.out htl2 HP.out hpl2 (HFT.out.ext (HW0.out.trans (by (repeat' (first | (with_reducible assumption) | (with_reducible exact Ext.refl _) | (with_reducible refine Ext.alloc ?_ _) | (with_reducible refine Ext.drew ?_) | (with_reducible refine Ext.setCell ?_ ?_ _) | (simp; done) | (simp; omega)))))) (HFP.out.ext (HW0.out.trans (by (repeat' (first | (with_reducible assumption) | (with_reducible exact Ext.refl _) | (with_reducible refine Ext.alloc ?_ _) | (with_reducible refine Ext.drew ?_) | (with_reducible refine Ext.setCell ?_ ?_ _) | (simp; done) | (simp; omega))))))).mono ?_); rintro e v1 ⟨fP1, gP1, midP1, rfl, hmP1, ho1, hoi1, hb1⟩; have xv1 : Ext s2 v1 := Ext.trans (by (repeat' (first | (with_reducible assumption) | (with_reducible exact Ext.refl _) | (with_reducible refine Ext.alloc ?_ _) | (with_reducible refine Ext.drew ?_) | (with_reducible refine Ext.setCell ?_ ?_ _) | (simp; done) | (simp; omega)))) hb1; have zv1 := hb1.size; (try simp only [World.size_drew] at zv1); (try have RP := Lib.hid (RP.out.ext hb1)); have ho0 := ho0.ext hb1
    refine hK.out _ _ ?_ (fun hH3 => ?_)
    · (try dsimp only)
      (exact HSK.out _ (by (repeat' (first | (with_reducible assumption) | (with_reducible exact Ext.refl _) | (with_reducible refine Ext.alloc ?_ _) | (with_reducible refine Ext.drew ?_) | (with_reducible refine Ext.setCell ?_ ?_ _) | (simp; done) | (simp; omega)))))
    clear hK K hH2
    (try simp only [Act.put, List.setIfInBounds_toArray, List.set_cons_zero, List.set_cons_succ])
    refine wpAnyH_ready (rs := [5]) (by kernel_rfl) (by simp) ?_
    refine cons_l (i := 5) rfl (fun K hK => ?_) ?_
    go_simp; (go_at_call 42; with_reducible refine (toTrain_any _ _ _ _ rows _ HRN.out hrs2 HRR.out (HFR.out.ext (HW0.out.trans (by (repeat' (first | (with_reducible assumption) | (with_reducible exact Ext.refl _) | (with_reducible refine Ext.alloc ?_ _) | (with_reducible refine Ext.drew ?_) | (with_reducible refine Ext.setCell ?_ ?_ _) | (simp; done) | (simp; omega))))))).mono ?_); rintro e v2 ⟨rP2, rfl, ho2, hb2⟩; have xv2 : Ext s2 v2 := Ext.trans (by (repeat' (first | (with_reducible assumption) | (with_reducible exact Ext.refl _) | (with_reducible refine Ext.alloc ?_ _) | (with_reducible refine Ext.drew ?_) | (with_reducible refine Ext.setCell ?_ ?_ _) | (simp; done) | (simp; omega)))) hb2; have zv2 := hb2.size; (try simp only [World.size_drew] at zv2); (try have RP := Lib.hid (RP.out.ext hb2)); have ho0 := ho0.ext hb2; have ho1 := ho1.ext hb2; have hoi1 := hoi1.ext hb2
    refine hK.out _ _ ?_ (fun hH4 => ?_)
    · (try dsimp only)
      (exact HSK.out _ (by (repeat' (first | (with_reducible assumption) | (with_reducible exact Ext.refl _) | (with_reducible refine Ext.alloc ?_ _) | (with_reducible refine Ext.drew ?_) | (with_reducible refine Ext.setCell ?_ ?_ _) | (simp; done) | (simp; omega)))))
    clear hK K hH3
    (try simp only [Act.put, List.setIfInBounds_toArray, List.set_cons_zero, List.set_cons_succ])
    refine wpAnyH_ready (rs := [6]) (by kernel_rfl) (by simp) ?_
    refine cons_l (i := 6) rfl (fun K hK => ?_) ?_
    go_simp; (go_at_call 39; with_reducible refine (specEnterL_any ts1 n1 ok _ _ _ _ _ _ _ _ _ _ _ _ ts _ _ _ _ _ _ _ ps xs _ _ _ _ rows _ HN.out hs2 HTS.out ho0.trains HT.out htl2 HP.out hpl2 ho1.at hoi1.at HVOL.out HRN.out hrs2 HRR.out HRT.out ho2.rows HI0.out HI1.out HN1.out HRES.out).mono ?_); rintro e vS ⟨pP, qP, rfl, hoR, hbs⟩; have xvS : Ext s2 vS := Ext.trans (by (repeat' (first | (with_reducible assumption) | (with_reducible exact Ext.refl _) | (with_reducible refine Ext.alloc ?_ _) | (with_reducible refine Ext.drew ?_) | (with_reducible refine Ext.setCell ?_ ?_ _) | (simp; done) | (simp; omega)))) hbs; have zvS := hbs.size; (try have RP := Lib.hid (RP.out.ext hbs))
    refine hK.out _ _ ?_ (fun hH5 => ?_)
    · (try dsimp only)
      (exact HSK.out _ (by (repeat' (first | (with_reducible assumption) | (with_reducible exact Ext.refl _) | (with_reducible refine Ext.alloc ?_ _) | (with_reducible refine Ext.drew ?_) | (with_reducible refine Ext.setCell ?_ ?_ _) | (simp; done) | (simp; omega)))))
    clear hK K hH4
    (try simp only [Act.put, List.setIfInBounds_toArray, List.set_cons_zero, List.set_cons_succ])
    refine take_l 7 (v := ?_) rfl (by kernel_rfl) (by kernel_rfl) (by kernel_rfl) (fun _ _ _ h => h) (by rfl) ?_ (by assumption) ?_
    rotate_left
    · (intro w hSw; (try dsimp only at hSw); go_simp; (try with_reducible rfl))
    (try simp only [Act.put, List.setIfInBounds_toArray, List.set_cons_zero, List.set_cons_succ])
    refine take_l 8 (v := ?_) rfl (by kernel_rfl) (by kernel_rfl) (by kernel_rfl) (fun _ _ _ h => h) (by rfl) ?_ (by assumption) ?_
    rotate_left
    · (intro w hSw; (try dsimp only at hSw); go_simp; (try with_reducible rfl))
    (try simp only [Act.put, List.setIfInBounds_toArray, List.set_cons_zero, List.set_cons_succ])
    refine take_l 9 (v := ?_) rfl (by kernel_rfl) (by kernel_rfl) (by kernel_rfl) (fun _ _ _ h => h) (by rfl) ?_ (by assumption) ?_
    rotate_left
    · (intro w hSw; (try dsimp only at hSw); go_simp; (try with_reducible rfl))
    (try simp only [Act.put, List.setIfInBounds_toArray, List.set_cons_zero, List.set_cons_succ])
    refine wpAnyH_ready (rs := [11]) (by kernel_rfl) (by simp) ?_
    refine cons_l (i := 11) rfl (fun K hK => ?_) ?_
    have hs0 := RP.out.cell (j := 0) (v := (.int .i64 0)) rfl; have hf0 := RP.out.frozen 0; have hs1 := RP.out.cell (j := 1) (v := (.int .i64 0)) rfl; have hf1 := RP.out.frozen 1; have hs2 := RP.out.cell (j := 2) (v := (.int .i64 0)) rfl; have hf2 := RP.out.frozen 2; have hs3 := RP.out.cell (j := 3) (v := (.int .i64 0)) rfl; have hf3 := RP.out.frozen 3; have hs4 := RP.out.cell (j := 4) (v := (.int .i64 0)) rfl; have hf4 := RP.out.frozen 4; have hs5 := RP.out.cell (j := 5) (v := (.int .i64 0)) rfl; have hf5 := RP.out.frozen 5; have hs6 := RP.out.cell (j := 6) (v := (.int .i64 0)) rfl; have hf6 := RP.out.frozen 6; have hs7 := RP.out.cell (j := 7) (v := (.int .i64 0)) rfl; have hf7 := RP.out.frozen 7; have hs8 := RP.out.cell (j := 8) (v := (.int .i64 0)) rfl; have hf8 := RP.out.frozen 8; have hs9 := RP.out.cell (j := 9) (v := (.slice none 0 0)) rfl; have hf9 := RP.out.frozen 9; go_simp
    refine hK.out _ _ ?_ (fun hH6 => ?_)
    · (try dsimp only)
      (exact HSK.out _ (by (repeat' (first | (with_reducible assumption) | (with_reducible exact Ext.refl _) | (with_reducible refine Ext.alloc ?_ _) | (with_reducible refine Ext.drew ?_) | (with_reducible refine Ext.setCell ?_ ?_ _) | (simp; done) | (simp; omega)))))
    clear hK K hH5
    (try simp only [Act.put, List.setIfInBounds_toArray, List.set_cons_zero, List.set_cons_succ])
    refine take_l 12 (v := ?_) rfl (by kernel_rfl) (by kernel_rfl) (by kernel_rfl) (fun _ _ _ h => h) (by rfl) ?_ (by assumption) ?_
    rotate_left
    · (intro w hSw; (try dsimp only at hSw); go_simp; (try with_reducible rfl))
    (try simp only [Act.put, List.setIfInBounds_toArray, List.set_cons_zero, List.set_cons_succ])
    refine wpAnyH_done (by kernel_rfl) ?_ _
    rotate_left
    exact AllReadyH.nil
    exact AllReadyH.nil
    exact AllReadyH.nil
    exact AllReadyH.nil
    exact AllReadyH.nil
    exact AllReadyH.nil
    all_goals
      obtain ⟨yD4, hyd⟩ : ∃ y : Addr, y = ⟨0, 0, none⟩ := ⟨_, rfl⟩; clear hyd
      have RF := RowAt.cast (c' := #[.int .i64 x0, .int .i64 x1, .int .i64 x2, .int .i64 x3, .int .i64 x4, .int .i64 x5, .int .i64 x6, .int .i64 x7, .int .i64 x8, .slice pP n1 qP]) ((((((((((RP.out.set 0 (.int .i64 x0)).set 1 (.int .i64 x1)).set 2 (.int .i64 x2)).set 3 (.int .i64 x3)).set 4 (.int .i64 x4)).set 5 (.int .i64 x5)).set 6 (.int .i64 x6)).set 7 (.int .i64 x7)).set 8 (.int .i64 x8)).set 9 (.slice pP n1 qP)) (by simp)
      have hoF := hoR.keep (Nat.le_refl _) (Nat.le_refl _) (fun B t c h1 h2 hr => ((((((((((hr.other (p := ⟨bP, 0, none⟩) (by dsimp only; omega) (.int .i64 x0)).other (p := ⟨bP, 1, none⟩) (by dsimp only; omega) (.int .i64 x1)).other (p := ⟨bP, 2, none⟩) (by dsimp only; omega) (.int .i64 x2)).other (p := ⟨bP, 3, none⟩) (by dsimp only; omega) (.int .i64 x3)).other (p := ⟨bP, 4, none⟩) (by dsimp only; omega) (.int .i64 x4)).other (p := ⟨bP, 5, none⟩) (by dsimp only; omega) (.int .i64 x5)).other (p := ⟨bP, 6, none⟩) (by dsimp only; omega) (.int .i64 x6)).other (p := ⟨bP, 7, none⟩) (by dsimp only; omega) (.int .i64 x7)).other (p := ⟨bP, 8, none⟩) (by dsimp only; omega) (.int .i64 x8)).other (p := ⟨bP, 9, none⟩) (by dsimp only; omega) (.slice pP n1 qP)))
      refine ⟨bP, pP, qP, aP0, fP1, gP1, rP2, yD4, ⟨(by first | with_reducible exact ((((((((((xvS.setCell (p := ⟨bP, 0, none⟩) (by dsimp only; omega) (.int .i64 x0)).setCell (p := ⟨bP, 1, none⟩) (by dsimp only; omega) (.int .i64 x1)).setCell (p := ⟨bP, 2, none⟩) (by dsimp only; omega) (.int .i64 x2)).setCell (p := ⟨bP, 3, none⟩) (by dsimp only; omega) (.int .i64 x3)).setCell (p := ⟨bP, 4, none⟩) (by dsimp only; omega) (.int .i64 x4)).setCell (p := ⟨bP, 5, none⟩) (by dsimp only; omega) (.int .i64 x5)).setCell (p := ⟨bP, 6, none⟩) (by dsimp only; omega) (.int .i64 x6)).setCell (p := ⟨bP, 7, none⟩) (by dsimp only; omega) (.int .i64 x7)).setCell (p := ⟨bP, 8, none⟩) (by dsimp only; omega) (.int .i64 x8)).setCell (p := ⟨bP, 9, none⟩) (by dsimp only; omega) (.slice pP n1 qP)) | with_reducible exact ((((((((((xP.setCell (p := ⟨bP, 0, none⟩) (by dsimp only; omega) (.int .i64 x0)).setCell (p := ⟨bP, 1, none⟩) (by dsimp only; omega) (.int .i64 x1)).setCell (p := ⟨bP, 2, none⟩) (by dsimp only; omega) (.int .i64 x2)).setCell (p := ⟨bP, 3, none⟩) (by dsimp only; omega) (.int .i64 x3)).setCell (p := ⟨bP, 4, none⟩) (by dsimp only; omega) (.int .i64 x4)).setCell (p := ⟨bP, 5, none⟩) (by dsimp only; omega) (.int .i64 x5)).setCell (p := ⟨bP, 6, none⟩) (by dsimp only; omega) (.int .i64 x6)).setCell (p := ⟨bP, 7, none⟩) (by dsimp only; omega) (.int .i64 x7)).setCell (p := ⟨bP, 8, none⟩) (by dsimp only; omega) (.int .i64 x8)).setCell (p := ⟨bP, 9, none⟩) (by dsimp only; omega) (.slice pP n1 qP))), ⟨by omega, by simp only [size_setCell']; omega⟩, RF, _, _, ?_, ?_, hoF⟩, rfl⟩
      all_goals ((try simp only [size_setCell']); omega)
  case k =>
    intro bP0 pP qP y0 y1 y2 y3 y4 w1 ⟨hb, hblk, hrow, loP0, hiP0, hloP0, hhiP0, ho⟩
    (try dsimp only)
    have lP0 := hblk.1; have nP0 := hblk.2
    have hrq := Lib.hid hrow; have hoq := Lib.hid ho
    clear hrow ho hblk
    have HW1 := Lib.hid (HW0.out.trans hb)
    have BX0_1 := Lib.hid (BX0_0.out.ext hb)
    have BX1_1 := Lib.hid (BX1_0.out.ext hb)
    have BX2_1 := Lib.hid (BX2_0.out.ext hb)
    have zz1 := hb.size
    clear HW0 BX0_0 BX1_0 BX2_0 hb
    have OP_1 := hoq; clear hoq
    have P0_1 := hrq; clear hrq
    have cBX00 : w1.cell? ⟨w.heap.size, 0, none⟩ = some (.int .i64 x0) := BX0_1.out.cell rfl
    have cBX01 : w1.cell? ⟨w.heap.size, 1, none⟩ = some (.int .i64 x1) := BX0_1.out.cell rfl
    have cBX02 : w1.cell? ⟨w.heap.size, 2, none⟩ = some (.int .i64 x2) := BX0_1.out.cell rfl
    have cBX03 : w1.cell? ⟨w.heap.size, 3, none⟩ = some (.int .i64 x3) := BX0_1.out.cell rfl
    have cBX04 : w1.cell? ⟨w.heap.size, 4, none⟩ = some (.int .i64 x4) := BX0_1.out.cell rfl
    have cBX05 : w1.cell? ⟨w.heap.size, 5, none⟩ = some (.int .i64 x5) := BX0_1.out.cell rfl
    have cBX06 : w1.cell? ⟨w.heap.size, 6, none⟩ = some (.int .i64 x6) := BX0_1.out.cell rfl
    have cBX07 : w1.cell? ⟨w.heap.size, 7, none⟩ = some (.int .i64 x7) := BX0_1.out.cell rfl
    have cBX08 : w1.cell? ⟨w.heap.size, 8, none⟩ = some (.int .i64 x8) := BX0_1.out.cell rfl
    have cBX09 : w1.cell? ⟨w.heap.size, 9, none⟩ = some (.slice a n c) := BX0_1.out.cell rfl
    go_wp2_with fail
    with_reducible refine (toLock_any _ _ _ _ _ _ _ _ _ _ _ _ ts _ HN.out hs2 HTS.out (HF.out.ext HW1.out)).mono ?_
    rintro e w2 ⟨aX0, rfl, ho, hb⟩
    clear cBX00 cBX01 cBX02 cBX03 cBX04 cBX05 cBX06 cBX07 cBX08 cBX09
    have hown := Lib.hid ho; clear ho
    have HW2 := Lib.hid (HW1.out.trans hb)
    have BX0_2 := Lib.hid (BX0_1.out.ext hb)
    have BX1_2 := Lib.hid (BX1_1.out.ext hb)
    have BX2_2 := Lib.hid (BX2_1.out.ext hb)
    have P0_2 := Lib.hid (P0_1.out.ext hb)
    have OP_2 := Lib.hid (OP_1.out.ext hb)
    have zz2 := hb.size
    clear HW1 BX0_1 BX1_1 BX2_1 P0_1 OP_1 hb
    have OX0_2 := hown; clear hown
    obtain ⟨bX0, hbX0⟩ : ∃ x, x = w2.heap.size := ⟨_, rfl⟩
    obtain ⟨w3, hw3⟩ : ∃ x, x = w2.alloc (.cells #[.int .i64 x0, .int .i64 x1, .int .i64 x2, .int .i64 x3, .int .i64 x4, .int .i64 x5, .int .i64 x6, .int .i64 x7, .int .i64 x8, .slice (some aX0) n n] 26) := ⟨_, rfl⟩
    have hal := (Ext.refl w2).alloc (.cells #[.int .i64 x0, .int .i64 x1, .int .i64 x2, .int .i64 x3, .int .i64 x4, .int .i64 x5, .int .i64 x6, .int .i64 x7, .int .i64 x8, .slice (some aX0) n n] 26)
    have X0q := Lib.hid (RowAt.new w2 26 #[.int .i64 x0, .int .i64 x1, .int .i64 x2, .int .i64 x3, .int .i64 x4, .int .i64 x5, .int .i64 x6, .int .i64 x7, .int .i64 x8, .slice (some aX0) n n])
    rw [← hw3] at hal X0q
    rw [← hbX0] at X0q
    have lX0 := X0q.out.lt
    have mX0 : w2.heap.size ≤ bX0 := Nat.le_of_eq hbX0.symm
    have nX0 : bX0 ≤ w2.heap.size := Nat.le_of_eq hbX0
    have e0 : (w2.alloc (.cells #[.int .i64 x0, .int .i64 x1, .int .i64 x2, .int .i64 x3, .int .i64 x4, .int .i64 x5, .int .i64 x6, .int .i64 x7, .int .i64 x8, .slice (some aX0) n n] 26)).cell? ⟨w.heap.size + 1, 0, none⟩ = some (.slice ta tn tc) := (BX1_2.out.ext ((Ext.refl _).alloc _)).cell rfl
    have e1 : (w2.alloc (.cells #[.int .i64 x0, .int .i64 x1, .int .i64 x2, .int .i64 x3, .int .i64 x4, .int .i64 x5, .int .i64 x6, .int .i64 x7, .int .i64 x8, .slice (some aX0) n n] 26)).cell? ⟨w.heap.size + 1, 1, none⟩ = some (.int .i64 vol) := (BX1_2.out.ext ((Ext.refl _).alloc _)).cell rfl
    have e2 : (w2.alloc (.cells #[.int .i64 x0, .int .i64 x1, .int .i64 x2, .int .i64 x3, .int .i64 x4, .int .i64 x5, .int .i64 x6, .int .i64 x7, .int .i64 x8, .slice (some aX0) n n] 26)).cell? ⟨w.heap.size + 1, 2, none⟩ = some (.slice pa pn pc) := (BX1_2.out.ext ((Ext.refl _).alloc _)).cell rfl
    go_wp2_with fail
    clear e0 e1 e2
    (try rw [← hw3])
    (try rw [← hbX0])
    clear hw3 hbX0
    have HW3 := Lib.hid (HW2.out.trans hal)
    have BX0_3 := Lib.hid (BX0_2.out.ext hal)
    have BX1_3 := Lib.hid (BX1_2.out.ext hal)
    have BX2_3 := Lib.hid (BX2_2.out.ext hal)
    have P0_3 := Lib.hid (P0_2.out.ext hal)
    have OP_3 := Lib.hid (OP_2.out.ext hal)
    have OX0_3 := Lib.hid (OX0_2.out.ext hal)
    have zz3 := hal.size
    clear HW2 BX0_2 BX1_2 BX2_2 P0_2 OP_2 OX0_2 hal
    have X0_3 := X0q; clear X0q
    with_reducible refine (toReach_any _ _ _ _ _ _ _ ps xs _ HT.out htl2 HP.out hpl2 (HFT.out.ext HW3.out) (HFP.out.ext HW3.out)).mono ?_
    rintro e w4 ⟨fX1, gX1, midX1, rfl, hmX1, ho, hoi, hb⟩
    have hown := Lib.hid (OwnReach.mk hmX1 ho hoi)
    clear ho hoi
    have HW4 := Lib.hid (HW3.out.trans hb)
    have BX0_4 := Lib.hid (BX0_3.out.ext hb)
    have BX1_4 := Lib.hid (BX1_3.out.ext hb)
    have BX2_4 := Lib.hid (BX2_3.out.ext hb)
    have P0_4 := Lib.hid (P0_3.out.ext hb)
    have X0_4 := Lib.hid (X0_3.out.ext hb)
    have OP_4 := Lib.hid (OP_3.out.ext hb)
    have OX0_4 := Lib.hid (OX0_3.out.ext hb)
    have zz4 := hb.size
    clear HW3 BX0_3 BX1_3 BX2_3 P0_3 X0_3 OP_3 OX0_3 hb
    have OX1_4 := hown; clear hown
    obtain ⟨bX1, hbX1⟩ : ∃ x, x = w4.heap.size := ⟨_, rfl⟩
    obtain ⟨w5, hw5⟩ : ∃ x, x = w4.alloc (.cells #[.slice (some fX1) tn tn, .int .i64 vol, .slice (some gX1) pn pn] 33) := ⟨_, rfl⟩
    have hal := (Ext.refl w4).alloc (.cells #[.slice (some fX1) tn tn, .int .i64 vol, .slice (some gX1) pn pn] 33)
    have X1q := Lib.hid (RowAt.new w4 33 #[.slice (some fX1) tn tn, .int .i64 vol, .slice (some gX1) pn pn])
    rw [← hw5] at hal X1q
    rw [← hbX1] at X1q
    have lX1 := X1q.out.lt
    have mX1 : w4.heap.size ≤ bX1 := Nat.le_of_eq hbX1.symm
    have nX1 : bX1 ≤ w4.heap.size := Nat.le_of_eq hbX1
    have e0 : (w4.alloc (.cells #[.slice (some fX1) tn tn, .int .i64 vol, .slice (some gX1) pn pn] 33)).cell? ⟨w.heap.size + 1 + 1, 0, none⟩ = some (.bool u) := (BX2_4.out.ext ((Ext.refl _).alloc _)).cell rfl
    have e1 : (w4.alloc (.cells #[.slice (some fX1) tn tn, .int .i64 vol, .slice (some gX1) pn pn] 33)).cell? ⟨w.heap.size + 1 + 1, 1, none⟩ = some (.slice ra rn rc) := (BX2_4.out.ext ((Ext.refl _).alloc _)).cell rfl
    go_wp2_with fail
    clear e0 e1
    (try rw [← hw5])
    (try rw [← hbX1])
    clear hw5 hbX1
    have HW5 := Lib.hid (HW4.out.trans hal)
    have BX0_5 := Lib.hid (BX0_4.out.ext hal)
    have BX1_5 := Lib.hid (BX1_4.out.ext hal)
    have BX2_5 := Lib.hid (BX2_4.out.ext hal)
    have P0_5 := Lib.hid (P0_4.out.ext hal)
    have X0_5 := Lib.hid (X0_4.out.ext hal)
    have OP_5 := Lib.hid (OP_4.out.ext hal)
    have OX0_5 := Lib.hid (OX0_4.out.ext hal)
    have OX1_5 := Lib.hid (OX1_4.out.ext hal)
    have zz5 := hal.size
    clear HW4 BX0_4 BX1_4 BX2_4 P0_4 X0_4 OP_4 OX0_4 OX1_4 hal
    have X1_5 := X1q; clear X1q
    with_reducible refine (toTrain_any _ _ _ _ rows _ HRN.out hrs2 HRR.out (HFR.out.ext HW5.out)).mono ?_
    rintro e w6 ⟨rX2, rfl, ho, hb⟩
    have hown := Lib.hid ho; clear ho
    have HW6 := Lib.hid (HW5.out.trans hb)
    have BX0_6 := Lib.hid (BX0_5.out.ext hb)
    have BX1_6 := Lib.hid (BX1_5.out.ext hb)
    have BX2_6 := Lib.hid (BX2_5.out.ext hb)
    have P0_6 := Lib.hid (P0_5.out.ext hb)
    have X0_6 := Lib.hid (X0_5.out.ext hb)
    have X1_6 := Lib.hid (X1_5.out.ext hb)
    have OP_6 := Lib.hid (OP_5.out.ext hb)
    have OX0_6 := Lib.hid (OX0_5.out.ext hb)
    have OX1_6 := Lib.hid (OX1_5.out.ext hb)
    have zz6 := hb.size
    clear HW5 BX0_5 BX1_5 BX2_5 P0_5 X0_5 X1_5 OP_5 OX0_5 OX1_5 hb
    have OX2_6 := hown; clear hown
    obtain ⟨bX2, hbX2⟩ : ∃ x, x = w6.heap.size := ⟨_, rfl⟩
    obtain ⟨w7, hw7⟩ : ∃ x, x = w6.alloc (.cells #[.bool u, .slice (some rX2) rn rn] 47) := ⟨_, rfl⟩
    have hal := (Ext.refl w6).alloc (.cells #[.bool u, .slice (some rX2) rn rn] 47)
    have X2q := Lib.hid (RowAt.new w6 47 #[.bool u, .slice (some rX2) rn rn])
    rw [← hw7] at hal X2q
    rw [← hbX2] at X2q
    have lX2 := X2q.out.lt
    have mX2 : w6.heap.size ≤ bX2 := Nat.le_of_eq hbX2.symm
    have nX2 : bX2 ≤ w6.heap.size := Nat.le_of_eq hbX2
    have e0 : (w6.alloc (.cells #[.bool u, .slice (some rX2) rn rn] 47)).cell? ⟨bX0, 0, none⟩ = some (.int .i64 x0) := (X0_6.out.ext ((Ext.refl _).alloc _)).cell rfl
    have e1 : (w6.alloc (.cells #[.bool u, .slice (some rX2) rn rn] 47)).cell? ⟨bX0, 1, none⟩ = some (.int .i64 x1) := (X0_6.out.ext ((Ext.refl _).alloc _)).cell rfl
    have e2 : (w6.alloc (.cells #[.bool u, .slice (some rX2) rn rn] 47)).cell? ⟨bX0, 2, none⟩ = some (.int .i64 x2) := (X0_6.out.ext ((Ext.refl _).alloc _)).cell rfl
    have e3 : (w6.alloc (.cells #[.bool u, .slice (some rX2) rn rn] 47)).cell? ⟨bX0, 3, none⟩ = some (.int .i64 x3) := (X0_6.out.ext ((Ext.refl _).alloc _)).cell rfl
    have e4 : (w6.alloc (.cells #[.bool u, .slice (some rX2) rn rn] 47)).cell? ⟨bX0, 4, none⟩ = some (.int .i64 x4) := (X0_6.out.ext ((Ext.refl _).alloc _)).cell rfl
    have e5 : (w6.alloc (.cells #[.bool u, .slice (some rX2) rn rn] 47)).cell? ⟨bX0, 5, none⟩ = some (.int .i64 x5) := (X0_6.out.ext ((Ext.refl _).alloc _)).cell rfl
    have e6 : (w6.alloc (.cells #[.bool u, .slice (some rX2) rn rn] 47)).cell? ⟨bX0, 6, none⟩ = some (.int .i64 x6) := (X0_6.out.ext ((Ext.refl _).alloc _)).cell rfl
    have e7 : (w6.alloc (.cells #[.bool u, .slice (some rX2) rn rn] 47)).cell? ⟨bX0, 7, none⟩ = some (.int .i64 x7) := (X0_6.out.ext ((Ext.refl _).alloc _)).cell rfl
    have e8 : (w6.alloc (.cells #[.bool u, .slice (some rX2) rn rn] 47)).cell? ⟨bX0, 8, none⟩ = some (.int .i64 x8) := (X0_6.out.ext ((Ext.refl _).alloc _)).cell rfl
    have e9 : (w6.alloc (.cells #[.bool u, .slice (some rX2) rn rn] 47)).cell? ⟨bX0, 9, none⟩ = some (.slice (some aX0) n n) := (X0_6.out.ext ((Ext.refl _).alloc _)).cell rfl
    have e10 : (w6.alloc (.cells #[.bool u, .slice (some rX2) rn rn] 47)).cell? ⟨bX1, 0, none⟩ = some (.slice (some fX1) tn tn) := (X1_6.out.ext ((Ext.refl _).alloc _)).cell rfl
    have e11 : (w6.alloc (.cells #[.bool u, .slice (some rX2) rn rn] 47)).cell? ⟨bX1, 1, none⟩ = some (.int .i64 vol) := (X1_6.out.ext ((Ext.refl _).alloc _)).cell rfl
    have e12 : (w6.alloc (.cells #[.bool u, .slice (some rX2) rn rn] 47)).cell? ⟨bX1, 2, none⟩ = some (.slice (some gX1) pn pn) := (X1_6.out.ext ((Ext.refl _).alloc _)).cell rfl
    have e13 : (w6.alloc (.cells #[.bool u, .slice (some rX2) rn rn] 47)).cell? ⟨w6.heap.size, 0, none⟩ = some (.bool u) := (RowAt.new w6 47 #[.bool u, .slice (some rX2) rn rn]).cell rfl
    have e14 : (w6.alloc (.cells #[.bool u, .slice (some rX2) rn rn] 47)).cell? ⟨w6.heap.size, 1, none⟩ = some (.slice (some rX2) rn rn) := (RowAt.new w6 47 #[.bool u, .slice (some rX2) rn rn]).cell rfl
    go_wp2_with fail
    clear e0 e1 e2 e3 e4 e5 e6 e7 e8 e9 e10 e11 e12 e13 e14
    (try rw [← hw7])
    (try rw [← hbX2])
    clear hw7 hbX2
    have HW7 := Lib.hid (HW6.out.trans hal)
    have BX0_7 := Lib.hid (BX0_6.out.ext hal)
    have BX1_7 := Lib.hid (BX1_6.out.ext hal)
    have BX2_7 := Lib.hid (BX2_6.out.ext hal)
    have P0_7 := Lib.hid (P0_6.out.ext hal)
    have X0_7 := Lib.hid (X0_6.out.ext hal)
    have X1_7 := Lib.hid (X1_6.out.ext hal)
    have OP_7 := Lib.hid (OP_6.out.ext hal)
    have OX0_7 := Lib.hid (OX0_6.out.ext hal)
    have OX1_7 := Lib.hid (OX1_6.out.ext hal)
    have OX2_7 := Lib.hid (OX2_6.out.ext hal)
    have zz7 := hal.size
    clear HW6 BX0_6 BX1_6 BX2_6 P0_6 X0_6 X1_6 OP_6 OX0_6 OX1_6 OX2_6 hal
    have X2_7 := X2q; clear X2q
    with_reducible refine (implEnterL_any ts1 n1 ok _ _ _ _ _ _ _ _ _ _ _ _ ts _ _ _ _ _ _ _ ps xs _ _ _ _ rows _ HN.out hs2 HTS.out OX0_7.out.trains HT.out htl2 HP.out hpl2 OX1_7.out.pts OX1_7.out.ints HVOL.out HRN.out hrs2 HRR.out HRT.out OX2_7.out.rows HI0.out HI1.out HN1.out HRES.out).mono ?_
    rintro e w8 ⟨pG, gc, rfl, ho, hb⟩
    have hop := Lib.hid ho; clear ho
    have HW8 := Lib.hid (HW7.out.trans hb)
    have BX0_8 := Lib.hid (BX0_7.out.ext hb)
    have BX1_8 := Lib.hid (BX1_7.out.ext hb)
    have BX2_8 := Lib.hid (BX2_7.out.ext hb)
    have P0_8 := Lib.hid (P0_7.out.ext hb)
    have X0_8 := Lib.hid (X0_7.out.ext hb)
    have X1_8 := Lib.hid (X1_7.out.ext hb)
    have X2_8 := Lib.hid (X2_7.out.ext hb)
    have OP_8 := Lib.hid (OP_7.out.ext hb)
    have OX0_8 := Lib.hid (OX0_7.out.ext hb)
    have OX1_8 := Lib.hid (OX1_7.out.ext hb)
    have OX2_8 := Lib.hid (OX2_7.out.ext hb)
    have zz8 := hb.size
    clear HW7 BX0_7 BX1_7 BX2_7 P0_7 X0_7 X1_7 X2_7 OP_7 OX0_7 OX1_7 OX2_7 hb
    have OG_8 := hop; clear hop
    obtain ⟨bG0, hbG0⟩ : ∃ x, x = w8.heap.size := ⟨_, rfl⟩
    obtain ⟨w9, hw9⟩ : ∃ x, x = w8.alloc (.cells #[.int .i64 x0, .int .i64 x1, .int .i64 x2, .int .i64 x3, .int .i64 x4, .int .i64 x5, .int .i64 x6, .int .i64 x7, .int .i64 x8, .slice pG n1 gc] 26) := ⟨_, rfl⟩
    have hal := (Ext.refl w8).alloc (.cells #[.int .i64 x0, .int .i64 x1, .int .i64 x2, .int .i64 x3, .int .i64 x4, .int .i64 x5, .int .i64 x6, .int .i64 x7, .int .i64 x8, .slice pG n1 gc] 26)
    have G0q := Lib.hid (RowAt.new w8 26 #[.int .i64 x0, .int .i64 x1, .int .i64 x2, .int .i64 x3, .int .i64 x4, .int .i64 x5, .int .i64 x6, .int .i64 x7, .int .i64 x8, .slice pG n1 gc])
    rw [← hw9] at hal G0q
    rw [← hbG0] at G0q
    have lG0 := G0q.out.lt
    have mG0 : w8.heap.size ≤ bG0 := Nat.le_of_eq hbG0.symm
    have nG0 : bG0 ≤ w8.heap.size := Nat.le_of_eq hbG0
    have e0 : (w8.alloc (.cells #[.int .i64 x0, .int .i64 x1, .int .i64 x2, .int .i64 x3, .int .i64 x4, .int .i64 x5, .int .i64 x6, .int .i64 x7, .int .i64 x8, .slice pG n1 gc] 26)).cell? ⟨w8.heap.size, 0, none⟩ = some (.int .i64 x0) := (RowAt.new w8 26 #[.int .i64 x0, .int .i64 x1, .int .i64 x2, .int .i64 x3, .int .i64 x4, .int .i64 x5, .int .i64 x6, .int .i64 x7, .int .i64 x8, .slice pG n1 gc]).cell rfl
    have e1 : (w8.alloc (.cells #[.int .i64 x0, .int .i64 x1, .int .i64 x2, .int .i64 x3, .int .i64 x4, .int .i64 x5, .int .i64 x6, .int .i64 x7, .int .i64 x8, .slice pG n1 gc] 26)).cell? ⟨w8.heap.size, 1, none⟩ = some (.int .i64 x1) := (RowAt.new w8 26 #[.int .i64 x0, .int .i64 x1, .int .i64 x2, .int .i64 x3, .int .i64 x4, .int .i64 x5, .int .i64 x6, .int .i64 x7, .int .i64 x8, .slice pG n1 gc]).cell rfl
    have e2 : (w8.alloc (.cells #[.int .i64 x0, .int .i64 x1, .int .i64 x2, .int .i64 x3, .int .i64 x4, .int .i64 x5, .int .i64 x6, .int .i64 x7, .int .i64 x8, .slice pG n1 gc] 26)).cell? ⟨w8.heap.size, 2, none⟩ = some (.int .i64 x2) := (RowAt.new w8 26 #[.int .i64 x0, .int .i64 x1, .int .i64 x2, .int .i64 x3, .int .i64 x4, .int .i64 x5, .int .i64 x6, .int .i64 x7, .int .i64 x8, .slice pG n1 gc]).cell rfl
    have e3 : (w8.alloc (.cells #[.int .i64 x0, .int .i64 x1, .int .i64 x2, .int .i64 x3, .int .i64 x4, .int .i64 x5, .int .i64 x6, .int .i64 x7, .int .i64 x8, .slice pG n1 gc] 26)).cell? ⟨w8.heap.size, 3, none⟩ = some (.int .i64 x3) := (RowAt.new w8 26 #[.int .i64 x0, .int .i64 x1, .int .i64 x2, .int .i64 x3, .int .i64 x4, .int .i64 x5, .int .i64 x6, .int .i64 x7, .int .i64 x8, .slice pG n1 gc]).cell rfl
    have e4 : (w8.alloc (.cells #[.int .i64 x0, .int .i64 x1, .int .i64 x2, .int .i64 x3, .int .i64 x4, .int .i64 x5, .int .i64 x6, .int .i64 x7, .int .i64 x8, .slice pG n1 gc] 26)).cell? ⟨w8.heap.size, 4, none⟩ = some (.int .i64 x4) := (RowAt.new w8 26 #[.int .i64 x0, .int .i64 x1, .int .i64 x2, .int .i64 x3, .int .i64 x4, .int .i64 x5, .int .i64 x6, .int .i64 x7, .int .i64 x8, .slice pG n1 gc]).cell rfl
    have e5 : (w8.alloc (.cells #[.int .i64 x0, .int .i64 x1, .int .i64 x2, .int .i64 x3, .int .i64 x4, .int .i64 x5, .int .i64 x6, .int .i64 x7, .int .i64 x8, .slice pG n1 gc] 26)).cell? ⟨w8.heap.size, 5, none⟩ = some (.int .i64 x5) := (RowAt.new w8 26 #[.int .i64 x0, .int .i64 x1, .int .i64 x2, .int .i64 x3, .int .i64 x4, .int .i64 x5, .int .i64 x6, .int .i64 x7, .int .i64 x8, .slice pG n1 gc]).cell rfl
    have e6 : (w8.alloc (.cells #[.int .i64 x0, .int .i64 x1, .int .i64 x2, .int .i64 x3, .int .i64 x4, .int .i64 x5, .int .i64 x6, .int .i64 x7, .int .i64 x8, .slice pG n1 gc] 26)).cell? ⟨w8.heap.size, 6, none⟩ = some (.int .i64 x6) := (RowAt.new w8 26 #[.int .i64 x0, .int .i64 x1, .int .i64 x2, .int .i64 x3, .int .i64 x4, .int .i64 x5, .int .i64 x6, .int .i64 x7, .int .i64 x8, .slice pG n1 gc]).cell rfl
    have e7 : (w8.alloc (.cells #[.int .i64 x0, .int .i64 x1, .int .i64 x2, .int .i64 x3, .int .i64 x4, .int .i64 x5, .int .i64 x6, .int .i64 x7, .int .i64 x8, .slice pG n1 gc] 26)).cell? ⟨w8.heap.size, 7, none⟩ = some (.int .i64 x7) := (RowAt.new w8 26 #[.int .i64 x0, .int .i64 x1, .int .i64 x2, .int .i64 x3, .int .i64 x4, .int .i64 x5, .int .i64 x6, .int .i64 x7, .int .i64 x8, .slice pG n1 gc]).cell rfl
    have e8 : (w8.alloc (.cells #[.int .i64 x0, .int .i64 x1, .int .i64 x2, .int .i64 x3, .int .i64 x4, .int .i64 x5, .int .i64 x6, .int .i64 x7, .int .i64 x8, .slice pG n1 gc] 26)).cell? ⟨w8.heap.size, 8, none⟩ = some (.int .i64 x8) := (RowAt.new w8 26 #[.int .i64 x0, .int .i64 x1, .int .i64 x2, .int .i64 x3, .int .i64 x4, .int .i64 x5, .int .i64 x6, .int .i64 x7, .int .i64 x8, .slice pG n1 gc]).cell rfl
    have e9 : (w8.alloc (.cells #[.int .i64 x0, .int .i64 x1, .int .i64 x2, .int .i64 x3, .int .i64 x4, .int .i64 x5, .int .i64 x6, .int .i64 x7, .int .i64 x8, .slice pG n1 gc] 26)).cell? ⟨w8.heap.size, 9, none⟩ = some (.slice pG n1 gc) := (RowAt.new w8 26 #[.int .i64 x0, .int .i64 x1, .int .i64 x2, .int .i64 x3, .int .i64 x4, .int .i64 x5, .int .i64 x6, .int .i64 x7, .int .i64 x8, .slice pG n1 gc]).cell rfl
    have e10 : (w8.alloc (.cells #[.int .i64 x0, .int .i64 x1, .int .i64 x2, .int .i64 x3, .int .i64 x4, .int .i64 x5, .int .i64 x6, .int .i64 x7, .int .i64 x8, .slice pG n1 gc] 26)).cell? ⟨bP0, 0, none⟩ = some (.int .i64 x0) := (P0_8.out.ext ((Ext.refl _).alloc _)).cell rfl
    have e11 : (w8.alloc (.cells #[.int .i64 x0, .int .i64 x1, .int .i64 x2, .int .i64 x3, .int .i64 x4, .int .i64 x5, .int .i64 x6, .int .i64 x7, .int .i64 x8, .slice pG n1 gc] 26)).cell? ⟨bP0, 1, none⟩ = some (.int .i64 x1) := (P0_8.out.ext ((Ext.refl _).alloc _)).cell rfl
    have e12 : (w8.alloc (.cells #[.int .i64 x0, .int .i64 x1, .int .i64 x2, .int .i64 x3, .int .i64 x4, .int .i64 x5, .int .i64 x6, .int .i64 x7, .int .i64 x8, .slice pG n1 gc] 26)).cell? ⟨bP0, 2, none⟩ = some (.int .i64 x2) := (P0_8.out.ext ((Ext.refl _).alloc _)).cell rfl
    have e13 : (w8.alloc (.cells #[.int .i64 x0, .int .i64 x1, .int .i64 x2, .int .i64 x3, .int .i64 x4, .int .i64 x5, .int .i64 x6, .int .i64 x7, .int .i64 x8, .slice pG n1 gc] 26)).cell? ⟨bP0, 3, none⟩ = some (.int .i64 x3) := (P0_8.out.ext ((Ext.refl _).alloc _)).cell rfl
    have e14 : (w8.alloc (.cells #[.int .i64 x0, .int .i64 x1, .int .i64 x2, .int .i64 x3, .int .i64 x4, .int .i64 x5, .int .i64 x6, .int .i64 x7, .int .i64 x8, .slice pG n1 gc] 26)).cell? ⟨bP0, 4, none⟩ = some (.int .i64 x4) := (P0_8.out.ext ((Ext.refl _).alloc _)).cell rfl
    have e15 : (w8.alloc (.cells #[.int .i64 x0, .int .i64 x1, .int .i64 x2, .int .i64 x3, .int .i64 x4, .int .i64 x5, .int .i64 x6, .int .i64 x7, .int .i64 x8, .slice pG n1 gc] 26)).cell? ⟨bP0, 5, none⟩ = some (.int .i64 x5) := (P0_8.out.ext ((Ext.refl _).alloc _)).cell rfl
    have e16 : (w8.alloc (.cells #[.int .i64 x0, .int .i64 x1, .int .i64 x2, .int .i64 x3, .int .i64 x4, .int .i64 x5, .int .i64 x6, .int .i64 x7, .int .i64 x8, .slice pG n1 gc] 26)).cell? ⟨bP0, 6, none⟩ = some (.int .i64 x6) := (P0_8.out.ext ((Ext.refl _).alloc _)).cell rfl
    have e17 : (w8.alloc (.cells #[.int .i64 x0, .int .i64 x1, .int .i64 x2, .int .i64 x3, .int .i64 x4, .int .i64 x5, .int .i64 x6, .int .i64 x7, .int .i64 x8, .slice pG n1 gc] 26)).cell? ⟨bP0, 7, none⟩ = some (.int .i64 x7) := (P0_8.out.ext ((Ext.refl _).alloc _)).cell rfl
    have e18 : (w8.alloc (.cells #[.int .i64 x0, .int .i64 x1, .int .i64 x2, .int .i64 x3, .int .i64 x4, .int .i64 x5, .int .i64 x6, .int .i64 x7, .int .i64 x8, .slice pG n1 gc] 26)).cell? ⟨bP0, 8, none⟩ = some (.int .i64 x8) := (P0_8.out.ext ((Ext.refl _).alloc _)).cell rfl
    have e19 : (w8.alloc (.cells #[.int .i64 x0, .int .i64 x1, .int .i64 x2, .int .i64 x3, .int .i64 x4, .int .i64 x5, .int .i64 x6, .int .i64 x7, .int .i64 x8, .slice pG n1 gc] 26)).cell? ⟨bP0, 9, none⟩ = some (.slice pP n1 qP) := (P0_8.out.ext ((Ext.refl _).alloc _)).cell rfl
    go_wp2_with fail
    clear e0 e1 e2 e3 e4 e5 e6 e7 e8 e9 e10 e11 e12 e13 e14 e15 e16 e17 e18 e19
    (try rw [← hw9])
    (try rw [← hbG0])
    clear hw9 hbG0
    have HW9 := Lib.hid (HW8.out.trans hal)
    have BX0_9 := Lib.hid (BX0_8.out.ext hal)
    have BX1_9 := Lib.hid (BX1_8.out.ext hal)
    have BX2_9 := Lib.hid (BX2_8.out.ext hal)
    have P0_9 := Lib.hid (P0_8.out.ext hal)
    have X0_9 := Lib.hid (X0_8.out.ext hal)
    have X1_9 := Lib.hid (X1_8.out.ext hal)
    have X2_9 := Lib.hid (X2_8.out.ext hal)
    have OP_9 := Lib.hid (OP_8.out.ext hal)
    have OX0_9 := Lib.hid (OX0_8.out.ext hal)
    have OX1_9 := Lib.hid (OX1_8.out.ext hal)
    have OX2_9 := Lib.hid (OX2_8.out.ext hal)
    have OG_9 := Lib.hid (OG_8.out.ext hal)
    have zz9 := hal.size
    clear HW8 BX0_8 BX1_8 BX2_8 P0_8 X0_8 X1_8 X2_8 OP_8 OX0_8 OX1_8 OX2_8 OG_8 hal
    have G0_9 := G0q; clear G0q
    with_reducible refine (eqLock_same _ _ _ _ _ _ _ _ _ _ _ _ _ _ ts1 _ HN1.out HS1.out OG_9.out.trains OP_9.out.trains).mono ?_
    rintro e w10 ⟨rfl, hb⟩
    have HW10 := Lib.hid (HW9.out.trans hb)
    have BX0_10 := Lib.hid (BX0_9.out.ext hb)
    have BX1_10 := Lib.hid (BX1_9.out.ext hb)
    have BX2_10 := Lib.hid (BX2_9.out.ext hb)
    have P0_10 := Lib.hid (P0_9.out.ext hb)
    have X0_10 := Lib.hid (X0_9.out.ext hb)
    have X1_10 := Lib.hid (X1_9.out.ext hb)
    have X2_10 := Lib.hid (X2_9.out.ext hb)
    have G0_10 := Lib.hid (G0_9.out.ext hb)
    have OP_10 := Lib.hid (OP_9.out.ext hb)
    have OX0_10 := Lib.hid (OX0_9.out.ext hb)
    have OX1_10 := Lib.hid (OX1_9.out.ext hb)
    have OX2_10 := Lib.hid (OX2_9.out.ext hb)
    have OG_10 := Lib.hid (OG_9.out.ext hb)
    have zz10 := hb.size
    clear HW9 BX0_9 BX1_9 BX2_9 P0_9 X0_9 X1_9 X2_9 G0_9 OP_9 OX0_9 OX1_9 OX2_9 OG_9 hb
    have cX00 : w10.cell? ⟨bX0, 0, none⟩ = some (.int .i64 x0) := X0_10.out.cell rfl
    have cX01 : w10.cell? ⟨bX0, 1, none⟩ = some (.int .i64 x1) := X0_10.out.cell rfl
    have cX02 : w10.cell? ⟨bX0, 2, none⟩ = some (.int .i64 x2) := X0_10.out.cell rfl
    have cX03 : w10.cell? ⟨bX0, 3, none⟩ = some (.int .i64 x3) := X0_10.out.cell rfl
    have cX04 : w10.cell? ⟨bX0, 4, none⟩ = some (.int .i64 x4) := X0_10.out.cell rfl
    have cX05 : w10.cell? ⟨bX0, 5, none⟩ = some (.int .i64 x5) := X0_10.out.cell rfl
    have cX06 : w10.cell? ⟨bX0, 6, none⟩ = some (.int .i64 x6) := X0_10.out.cell rfl
    have cX07 : w10.cell? ⟨bX0, 7, none⟩ = some (.int .i64 x7) := X0_10.out.cell rfl
    have cX08 : w10.cell? ⟨bX0, 8, none⟩ = some (.int .i64 x8) := X0_10.out.cell rfl
    have cX09 : w10.cell? ⟨bX0, 9, none⟩ = some (.slice (some aX0) n n) := X0_10.out.cell rfl
    have cBX00 : w10.cell? ⟨w.heap.size, 0, none⟩ = some (.int .i64 x0) := BX0_10.out.cell rfl
    have cBX01 : w10.cell? ⟨w.heap.size, 1, none⟩ = some (.int .i64 x1) := BX0_10.out.cell rfl
    have cBX02 : w10.cell? ⟨w.heap.size, 2, none⟩ = some (.int .i64 x2) := BX0_10.out.cell rfl
    have cBX03 : w10.cell? ⟨w.heap.size, 3, none⟩ = some (.int .i64 x3) := BX0_10.out.cell rfl
    have cBX04 : w10.cell? ⟨w.heap.size, 4, none⟩ = some (.int .i64 x4) := BX0_10.out.cell rfl
    have cBX05 : w10.cell? ⟨w.heap.size, 5, none⟩ = some (.int .i64 x5) := BX0_10.out.cell rfl
    have cBX06 : w10.cell? ⟨w.heap.size, 6, none⟩ = some (.int .i64 x6) := BX0_10.out.cell rfl
    have cBX07 : w10.cell? ⟨w.heap.size, 7, none⟩ = some (.int .i64 x7) := BX0_10.out.cell rfl
    have cBX08 : w10.cell? ⟨w.heap.size, 8, none⟩ = some (.int .i64 x8) := BX0_10.out.cell rfl
    have cBX09 : w10.cell? ⟨w.heap.size, 9, none⟩ = some (.slice a n c) := BX0_10.out.cell rfl
    have hS := Ext.refl w10
    go_wp2_with fail
    go_region_held3 (fun w' => Ext w10 w' ∧ w'.cell? ⟨bX0, 0, none⟩ = some (.int .i64 x0) ∧ w'.cell? ⟨bX0, 1, none⟩ = some (.int .i64 x1) ∧ w'.cell? ⟨bX0, 2, none⟩ = some (.int .i64 x2) ∧ w'.cell? ⟨bX0, 3, none⟩ = some (.int .i64 x3) ∧ w'.cell? ⟨bX0, 4, none⟩ = some (.int .i64 x4) ∧ w'.cell? ⟨bX0, 5, none⟩ = some (.int .i64 x5) ∧ w'.cell? ⟨bX0, 6, none⟩ = some (.int .i64 x6) ∧ w'.cell? ⟨bX0, 7, none⟩ = some (.int .i64 x7) ∧ w'.cell? ⟨bX0, 8, none⟩ = some (.int .i64 x8) ∧ w'.cell? ⟨bX0, 9, none⟩ = some (.slice (some aX0) n n) ∧ w'.cell? ⟨w.heap.size, 0, none⟩ = some (.int .i64 x0) ∧ w'.cell? ⟨w.heap.size, 1, none⟩ = some (.int .i64 x1) ∧ w'.cell? ⟨w.heap.size, 2, none⟩ = some (.int .i64 x2) ∧ w'.cell? ⟨w.heap.size, 3, none⟩ = some (.int .i64 x3) ∧ w'.cell? ⟨w.heap.size, 4, none⟩ = some (.int .i64 x4) ∧ w'.cell? ⟨w.heap.size, 5, none⟩ = some (.int .i64 x5) ∧ w'.cell? ⟨w.heap.size, 6, none⟩ = some (.int .i64 x6) ∧ w'.cell? ⟨w.heap.size, 7, none⟩ = some (.int .i64 x7) ∧ w'.cell? ⟨w.heap.size, 8, none⟩ = some (.int .i64 x8) ∧ w'.cell? ⟨w.heap.size, 9, none⟩ = some (.slice a n c))
      ((repeat' (refine And.intro ?_ ?_)) <;> (first | (exact Ext.cell (w := w10) (by (repeat' (first | (with_reducible exact Ext.refl _) | (with_reducible assumption) | (with_reducible refine Ext.alloc ?_ _) | (with_reducible refine Ext.drewN ?_ _) | (with_reducible refine Ext.drew ?_) | (with_reducible refine Ext.setCell ?_ ?_ _) | (with_reducible exact Nat.le_refl _) | (with_reducible exact Nat.le_succ _) | (with_reducible refine Ext.trans ?_ (by assumption)) | (simp; done) | (simp; omega)))) (by (with_reducible assumption))) | ((repeat' (first | (with_reducible exact Ext.refl _) | (with_reducible assumption) | (with_reducible refine Ext.alloc ?_ _) | (with_reducible refine Ext.drewN ?_ _) | (with_reducible refine Ext.drew ?_) | (with_reducible refine Ext.setCell ?_ ?_ _) | (with_reducible exact Nat.le_refl _) | (with_reducible exact Nat.le_succ _) | (with_reducible refine Ext.trans ?_ (by assumption)) | (simp; done) | (simp; omega))); done)))
      (first
        | (go_at_call 40; with_reducible refine (toLock_any _ _ _ _ _ _ _ _ _ _ _ _ ts _ HN.out hs2 HTS.out (HF.out.ext (HW10.out.trans (by (repeat' (first | (with_reducible exact Ext.refl _) | (with_reducible assumption) | (with_reducible refine Ext.alloc ?_ _) | (with_reducible refine Ext.drewN ?_ _) | (with_reducible refine Ext.drew ?_) | (with_reducible refine Ext.setCell ?_ ?_ _) | (with_reducible exact Nat.le_refl _) | (with_reducible exact Nat.le_succ _) | (with_reducible refine Ext.trans ?_ (by assumption)) | (simp; done) | (simp; omega))))))).mono ?_; rintro e w' ⟨aE0, rfl, ho, hb⟩)
        | (go_at_call 43; with_reducible refine (eqLock_same _ _ _ _ _ _ _ _ _ _ _ _ _ _ ts _ HN.out HS.out (OX0_10.out.trains.ext (by (repeat' (first | (with_reducible exact Ext.refl _) | (with_reducible assumption) | (with_reducible refine Ext.alloc ?_ _) | (with_reducible refine Ext.drewN ?_ _) | (with_reducible refine Ext.drew ?_) | (with_reducible refine Ext.setCell ?_ ?_ _) | (with_reducible exact Nat.le_refl _) | (with_reducible exact Nat.le_succ _) | (with_reducible refine Ext.trans ?_ (by assumption)) | (simp; done) | (simp; omega))))) ho.trains).mono ?_; rintro e w' ⟨rfl, hb'⟩))
    obtain ⟨w11, hwe⟩ : ∃ x, x = w' := ⟨_, rfl⟩
    subst hwe
    have hxx : Ext w10 w11 := by (repeat' (first | (with_reducible exact Ext.refl _) | (with_reducible assumption) | (with_reducible refine Ext.alloc ?_ _) | (with_reducible refine Ext.drewN ?_ _) | (with_reducible refine Ext.drew ?_) | (with_reducible refine Ext.setCell ?_ ?_ _) | (with_reducible exact Nat.le_refl _) | (with_reducible exact Nat.le_succ _) | (with_reducible refine Ext.trans ?_ (by assumption)) | (simp; done) | (simp; omega)))
    clear ho hb hb' hS
    clear cX00 cX01 cX02 cX03 cX04 cX05 cX06 cX07 cX08 cX09 cBX00 cBX01 cBX02 cBX03 cBX04 cBX05 cBX06 cBX07 cBX08 cBX09
    have HW11 := Lib.hid (HW10.out.trans hxx)
    have BX0_11 := Lib.hid (BX0_10.out.ext hxx)
    have BX1_11 := Lib.hid (BX1_10.out.ext hxx)
    have BX2_11 := Lib.hid (BX2_10.out.ext hxx)
    have P0_11 := Lib.hid (P0_10.out.ext hxx)
    have X0_11 := Lib.hid (X0_10.out.ext hxx)
    have X1_11 := Lib.hid (X1_10.out.ext hxx)
    have X2_11 := Lib.hid (X2_10.out.ext hxx)
    have G0_11 := Lib.hid (G0_10.out.ext hxx)
    have OP_11 := Lib.hid (OP_10.out.ext hxx)
    have OX0_11 := Lib.hid (OX0_10.out.ext hxx)
    have OX1_11 := Lib.hid (OX1_10.out.ext hxx)
    have OX2_11 := Lib.hid (OX2_10.out.ext hxx)
    have OG_11 := Lib.hid (OG_10.out.ext hxx)
    have zz11 := hxx.size
    clear HW10 BX0_10 BX1_10 BX2_10 P0_10 X0_10 X1_10 X2_10 G0_10 OP_10 OX0_10 OX1_10 OX2_10 OG_10 hxx
    have cX10 : w11.cell? ⟨bX1, 0, none⟩ = some (.slice (some fX1) tn tn) := X1_11.out.cell rfl
    have cX11 : w11.cell? ⟨bX1, 1, none⟩ = some (.int .i64 vol) := X1_11.out.cell rfl
    have cX12 : w11.cell? ⟨bX1, 2, none⟩ = some (.slice (some gX1) pn pn) := X1_11.out.cell rfl
    have cBX10 : w11.cell? ⟨w.heap.size + 1, 0, none⟩ = some (.slice ta tn tc) := BX1_11.out.cell rfl
    have cBX11 : w11.cell? ⟨w.heap.size + 1, 1, none⟩ = some (.int .i64 vol) := BX1_11.out.cell rfl
    have cBX12 : w11.cell? ⟨w.heap.size + 1, 2, none⟩ = some (.slice pa pn pc) := BX1_11.out.cell rfl
    have hS := Ext.refl w11
    go_wp2_with fail
    go_region_held3 (fun w' => Ext w11 w' ∧ w'.cell? ⟨bX1, 0, none⟩ = some (.slice (some fX1) tn tn) ∧ w'.cell? ⟨bX1, 1, none⟩ = some (.int .i64 vol) ∧ w'.cell? ⟨bX1, 2, none⟩ = some (.slice (some gX1) pn pn) ∧ w'.cell? ⟨w.heap.size + 1, 0, none⟩ = some (.slice ta tn tc) ∧ w'.cell? ⟨w.heap.size + 1, 1, none⟩ = some (.int .i64 vol) ∧ w'.cell? ⟨w.heap.size + 1, 2, none⟩ = some (.slice pa pn pc))
      ((repeat' (refine And.intro ?_ ?_)) <;> (first | (exact Ext.cell (w := w11) (by (repeat' (first | (with_reducible exact Ext.refl _) | (with_reducible assumption) | (with_reducible refine Ext.alloc ?_ _) | (with_reducible refine Ext.drewN ?_ _) | (with_reducible refine Ext.drew ?_) | (with_reducible refine Ext.setCell ?_ ?_ _) | (with_reducible exact Nat.le_refl _) | (with_reducible exact Nat.le_succ _) | (with_reducible refine Ext.trans ?_ (by assumption)) | (simp; done) | (simp; omega)))) (by (with_reducible assumption))) | ((repeat' (first | (with_reducible exact Ext.refl _) | (with_reducible assumption) | (with_reducible refine Ext.alloc ?_ _) | (with_reducible refine Ext.drewN ?_ _) | (with_reducible refine Ext.drew ?_) | (with_reducible refine Ext.setCell ?_ ?_ _) | (with_reducible exact Nat.le_refl _) | (with_reducible exact Nat.le_succ _) | (with_reducible refine Ext.trans ?_ (by assumption)) | (simp; done) | (simp; omega))); done)))
      (first
        | (go_at_call 41; with_reducible refine (toReach_any _ _ _ _ _ _ _ ps xs _ HT.out htl2 HP.out hpl2 (HFT.out.ext (HW11.out.trans (by (repeat' (first | (with_reducible exact Ext.refl _) | (with_reducible assumption) | (with_reducible refine Ext.alloc ?_ _) | (with_reducible refine Ext.drewN ?_ _) | (with_reducible refine Ext.drew ?_) | (with_reducible refine Ext.setCell ?_ ?_ _) | (with_reducible exact Nat.le_refl _) | (with_reducible exact Nat.le_succ _) | (with_reducible refine Ext.trans ?_ (by assumption)) | (simp; done) | (simp; omega)))))) (HFP.out.ext (HW11.out.trans (by (repeat' (first | (with_reducible exact Ext.refl _) | (with_reducible assumption) | (with_reducible refine Ext.alloc ?_ _) | (with_reducible refine Ext.drewN ?_ _) | (with_reducible refine Ext.drew ?_) | (with_reducible refine Ext.setCell ?_ ?_ _) | (with_reducible exact Nat.le_refl _) | (with_reducible exact Nat.le_succ _) | (with_reducible refine Ext.trans ?_ (by assumption)) | (simp; done) | (simp; omega))))))).mono ?_; rintro e w' ⟨fE1, gE1, midE1, rfl, hmE1, ho, hoi, hb⟩)
        | (go_at_call 44; with_reducible refine (eqReach_same _ _ _ _ _ _ _ _ _ _ _ ps xs _ HT.out HTL.out HP.out HPL.out (OX1_11.out.pts.ext (by (repeat' (first | (with_reducible exact Ext.refl _) | (with_reducible assumption) | (with_reducible refine Ext.alloc ?_ _) | (with_reducible refine Ext.drewN ?_ _) | (with_reducible refine Ext.drew ?_) | (with_reducible refine Ext.setCell ?_ ?_ _) | (with_reducible exact Nat.le_refl _) | (with_reducible exact Nat.le_succ _) | (with_reducible refine Ext.trans ?_ (by assumption)) | (simp; done) | (simp; omega))))) (OX1_11.out.ints.ext (by (repeat' (first | (with_reducible exact Ext.refl _) | (with_reducible assumption) | (with_reducible refine Ext.alloc ?_ _) | (with_reducible refine Ext.drewN ?_ _) | (with_reducible refine Ext.drew ?_) | (with_reducible refine Ext.setCell ?_ ?_ _) | (with_reducible exact Nat.le_refl _) | (with_reducible exact Nat.le_succ _) | (with_reducible refine Ext.trans ?_ (by assumption)) | (simp; done) | (simp; omega))))) ho.at hoi.at).mono ?_; rintro e w' ⟨rfl, hb'⟩))
    obtain ⟨w12, hwe⟩ : ∃ x, x = w' := ⟨_, rfl⟩
    subst hwe
    have hxx : Ext w11 w12 := by (repeat' (first | (with_reducible exact Ext.refl _) | (with_reducible assumption) | (with_reducible refine Ext.alloc ?_ _) | (with_reducible refine Ext.drewN ?_ _) | (with_reducible refine Ext.drew ?_) | (with_reducible refine Ext.setCell ?_ ?_ _) | (with_reducible exact Nat.le_refl _) | (with_reducible exact Nat.le_succ _) | (with_reducible refine Ext.trans ?_ (by assumption)) | (simp; done) | (simp; omega)))
    clear ho hb hb' hS hoi
    clear cX10 cX11 cX12 cBX10 cBX11 cBX12
    have HW12 := Lib.hid (HW11.out.trans hxx)
    have BX0_12 := Lib.hid (BX0_11.out.ext hxx)
    have BX1_12 := Lib.hid (BX1_11.out.ext hxx)
    have BX2_12 := Lib.hid (BX2_11.out.ext hxx)
    have P0_12 := Lib.hid (P0_11.out.ext hxx)
    have X0_12 := Lib.hid (X0_11.out.ext hxx)
    have X1_12 := Lib.hid (X1_11.out.ext hxx)
    have X2_12 := Lib.hid (X2_11.out.ext hxx)
    have G0_12 := Lib.hid (G0_11.out.ext hxx)
    have OP_12 := Lib.hid (OP_11.out.ext hxx)
    have OX0_12 := Lib.hid (OX0_11.out.ext hxx)
    have OX1_12 := Lib.hid (OX1_11.out.ext hxx)
    have OX2_12 := Lib.hid (OX2_11.out.ext hxx)
    have OG_12 := Lib.hid (OG_11.out.ext hxx)
    have zz12 := hxx.size
    clear HW11 BX0_11 BX1_11 BX2_11 P0_11 X0_11 X1_11 X2_11 G0_11 OP_11 OX0_11 OX1_11 OX2_11 OG_11 hxx
    have cX20 : w12.cell? ⟨bX2, 0, none⟩ = some (.bool u) := X2_12.out.cell rfl
    have cX21 : w12.cell? ⟨bX2, 1, none⟩ = some (.slice (some rX2) rn rn) := X2_12.out.cell rfl
    have cBX20 : w12.cell? ⟨w.heap.size + 1 + 1, 0, none⟩ = some (.bool u) := BX2_12.out.cell rfl
    have cBX21 : w12.cell? ⟨w.heap.size + 1 + 1, 1, none⟩ = some (.slice ra rn rc) := BX2_12.out.cell rfl
    have hS := Ext.refl w12
    go_wp2_with fail
    go_region_held3 (fun w' => Ext w12 w' ∧ w'.cell? ⟨bX2, 0, none⟩ = some (.bool u) ∧ w'.cell? ⟨bX2, 1, none⟩ = some (.slice (some rX2) rn rn) ∧ w'.cell? ⟨w.heap.size + 1 + 1, 0, none⟩ = some (.bool u) ∧ w'.cell? ⟨w.heap.size + 1 + 1, 1, none⟩ = some (.slice ra rn rc))
      ((repeat' (refine And.intro ?_ ?_)) <;> (first | (exact Ext.cell (w := w12) (by (repeat' (first | (with_reducible exact Ext.refl _) | (with_reducible assumption) | (with_reducible refine Ext.alloc ?_ _) | (with_reducible refine Ext.drewN ?_ _) | (with_reducible refine Ext.drew ?_) | (with_reducible refine Ext.setCell ?_ ?_ _) | (with_reducible exact Nat.le_refl _) | (with_reducible exact Nat.le_succ _) | (with_reducible refine Ext.trans ?_ (by assumption)) | (simp; done) | (simp; omega)))) (by (with_reducible assumption))) | ((repeat' (first | (with_reducible exact Ext.refl _) | (with_reducible assumption) | (with_reducible refine Ext.alloc ?_ _) | (with_reducible refine Ext.drewN ?_ _) | (with_reducible refine Ext.drew ?_) | (with_reducible refine Ext.setCell ?_ ?_ _) | (with_reducible exact Nat.le_refl _) | (with_reducible exact Nat.le_succ _) | (with_reducible refine Ext.trans ?_ (by assumption)) | (simp; done) | (simp; omega))); done)))
      (first
        | (go_at_call 42; with_reducible refine (toTrain_any _ _ _ _ rows _ HRN.out hrs2 HRR.out (HFR.out.ext (HW12.out.trans (by (repeat' (first | (with_reducible exact Ext.refl _) | (with_reducible assumption) | (with_reducible refine Ext.alloc ?_ _) | (with_reducible refine Ext.drewN ?_ _) | (with_reducible refine Ext.drew ?_) | (with_reducible refine Ext.setCell ?_ ?_ _) | (with_reducible exact Nat.le_refl _) | (with_reducible exact Nat.le_succ _) | (with_reducible refine Ext.trans ?_ (by assumption)) | (simp; done) | (simp; omega))))))).mono ?_; rintro e w' ⟨rE2, rfl, ho, hb⟩)
        | (go_at_call 45; with_reducible refine (eqTrain_same _ _ _ _ _ _ rows _ HRN.out HRL.out (OX2_12.out.rows.ext (by (repeat' (first | (with_reducible exact Ext.refl _) | (with_reducible assumption) | (with_reducible refine Ext.alloc ?_ _) | (with_reducible refine Ext.drewN ?_ _) | (with_reducible refine Ext.drew ?_) | (with_reducible refine Ext.setCell ?_ ?_ _) | (with_reducible exact Nat.le_refl _) | (with_reducible exact Nat.le_succ _) | (with_reducible refine Ext.trans ?_ (by assumption)) | (simp; done) | (simp; omega))))) ho.rows).mono ?_; rintro e w' ⟨rfl, hb'⟩))
    obtain ⟨w13, hwe⟩ : ∃ x, x = w' := ⟨_, rfl⟩
    subst hwe
    have hxx : Ext w12 w13 := by (repeat' (first | (with_reducible exact Ext.refl _) | (with_reducible assumption) | (with_reducible refine Ext.alloc ?_ _) | (with_reducible refine Ext.drewN ?_ _) | (with_reducible refine Ext.drew ?_) | (with_reducible refine Ext.setCell ?_ ?_ _) | (with_reducible exact Nat.le_refl _) | (with_reducible exact Nat.le_succ _) | (with_reducible refine Ext.trans ?_ (by assumption)) | (simp; done) | (simp; omega)))
    clear ho hb hb' hS
    clear cX20 cX21 cBX20 cBX21
    have HW13 := Lib.hid (HW12.out.trans hxx)
    have BX0_13 := Lib.hid (BX0_12.out.ext hxx)
    have BX1_13 := Lib.hid (BX1_12.out.ext hxx)
    have BX2_13 := Lib.hid (BX2_12.out.ext hxx)
    have P0_13 := Lib.hid (P0_12.out.ext hxx)
    have X0_13 := Lib.hid (X0_12.out.ext hxx)
    have X1_13 := Lib.hid (X1_12.out.ext hxx)
    have X2_13 := Lib.hid (X2_12.out.ext hxx)
    have G0_13 := Lib.hid (G0_12.out.ext hxx)
    have OP_13 := Lib.hid (OP_12.out.ext hxx)
    have OX0_13 := Lib.hid (OX0_12.out.ext hxx)
    have OX1_13 := Lib.hid (OX1_12.out.ext hxx)
    have OX2_13 := Lib.hid (OX2_12.out.ext hxx)
    have OG_13 := Lib.hid (OG_12.out.ext hxx)
    have zz13 := hxx.size
    clear HW12 BX0_12 BX1_12 BX2_12 P0_12 X0_12 X1_12 X2_12 G0_12 OP_12 OX0_12 OX1_12 OX2_12 OG_12 hxx
    have cX00 : w13.cell? ⟨bX0, 0, none⟩ = some (.int .i64 x0) := X0_13.out.cell rfl
    have cX01 : w13.cell? ⟨bX0, 1, none⟩ = some (.int .i64 x1) := X0_13.out.cell rfl
    have cX02 : w13.cell? ⟨bX0, 2, none⟩ = some (.int .i64 x2) := X0_13.out.cell rfl
    have cX03 : w13.cell? ⟨bX0, 3, none⟩ = some (.int .i64 x3) := X0_13.out.cell rfl
    have cX04 : w13.cell? ⟨bX0, 4, none⟩ = some (.int .i64 x4) := X0_13.out.cell rfl
    have cX05 : w13.cell? ⟨bX0, 5, none⟩ = some (.int .i64 x5) := X0_13.out.cell rfl
    have cX06 : w13.cell? ⟨bX0, 6, none⟩ = some (.int .i64 x6) := X0_13.out.cell rfl
    have cX07 : w13.cell? ⟨bX0, 7, none⟩ = some (.int .i64 x7) := X0_13.out.cell rfl
    have cX08 : w13.cell? ⟨bX0, 8, none⟩ = some (.int .i64 x8) := X0_13.out.cell rfl
    have cX09 : w13.cell? ⟨bX0, 9, none⟩ = some (.slice (some aX0) n n) := X0_13.out.cell rfl
    go_wp2_with fail
    with_reducible refine (markLock_is M0 _ _ _ _ _ _ _ _ _ _ _ _ (w1.heap.size) (w2.heap.size) ts 1 _ HN.out hs2 HTS.out hM0b (by decide) (by decide) (by omega) OX0_13.out HM0.out).mono ?_
    rintro e w14 ⟨rfl, ho, hc⟩
    clear cX00 cX01 cX02 cX03 cX04 cX05 cX06 cX07 cX08 cX09
    have HW14 := Lib.hid (hc.ext HW13.out (by omega))
    have BX0_14 := Lib.hid (BX0_13.out.chg hc (by omega))
    have BX1_14 := Lib.hid (BX1_13.out.chg hc (by omega))
    have BX2_14 := Lib.hid (BX2_13.out.chg hc (by omega))
    have P0_14 := Lib.hid (P0_13.out.chg hc (by omega))
    have X0_14 := Lib.hid (X0_13.out.chg hc (by omega))
    have X1_14 := Lib.hid (X1_13.out.chg hc (by omega))
    have X2_14 := Lib.hid (X2_13.out.chg hc (by omega))
    have G0_14 := Lib.hid (G0_13.out.chg hc (by omega))
    have OP_14 := Lib.hid (OP_13.out.chg hc (by omega))
    have OX0_14 := Lib.hid ho
    have OX1_14 := Lib.hid (OX1_13.out.chg hc (by omega))
    have OX2_14 := Lib.hid (OX2_13.out.chg hc (by omega))
    have OG_14 := Lib.hid (OG_13.out.chg hc (by omega))
    have zz14 := hc.size
    clear HW13 BX0_13 BX1_13 BX2_13 P0_13 X0_13 X1_13 X2_13 G0_13 OP_13 OX0_13 OX1_13 OX2_13 OG_13 hc ho
    have cX10 : w14.cell? ⟨bX1, 0, none⟩ = some (.slice (some fX1) tn tn) := X1_14.out.cell rfl
    have cX11 : w14.cell? ⟨bX1, 1, none⟩ = some (.int .i64 vol) := X1_14.out.cell rfl
    have cX12 : w14.cell? ⟨bX1, 2, none⟩ = some (.slice (some gX1) pn pn) := X1_14.out.cell rfl
    go_wp2_with fail
    with_reducible refine (markReach_any _ _ _ _ _ _ (w3.heap.size) (w4.heap.size) _ ps xs (1 + (M0 : Int)) _ HT.out htl2 HP.out hpl2 (by omega) (by omega) (by omega) OX1_14.out).mono ?_
    rintro e w15 ⟨rfl, ho, hc⟩
    clear cX10 cX11 cX12
    have HW15 := Lib.hid (hc.ext HW14.out (by omega))
    have BX0_15 := Lib.hid (BX0_14.out.chg hc (by omega))
    have BX1_15 := Lib.hid (BX1_14.out.chg hc (by omega))
    have BX2_15 := Lib.hid (BX2_14.out.chg hc (by omega))
    have P0_15 := Lib.hid (P0_14.out.chg hc (by omega))
    have X0_15 := Lib.hid (X0_14.out.chg hc (by omega))
    have X1_15 := Lib.hid (X1_14.out.chg hc (by omega))
    have X2_15 := Lib.hid (X2_14.out.chg hc (by omega))
    have G0_15 := Lib.hid (G0_14.out.chg hc (by omega))
    have OP_15 := Lib.hid (OP_14.out.chg hc (by omega))
    have OX0_15 := Lib.hid (OX0_14.out.chg hc (by omega))
    have OX1_15 := Lib.hid ho
    have OX2_15 := Lib.hid (OX2_14.out.chg hc (by omega))
    have OG_15 := Lib.hid (OG_14.out.chg hc (by omega))
    have zz15 := hc.size
    clear HW14 BX0_14 BX1_14 BX2_14 P0_14 X0_14 X1_14 X2_14 G0_14 OP_14 OX0_14 OX1_14 OX2_14 OG_14 hc ho
    have cX20 : w15.cell? ⟨bX2, 0, none⟩ = some (.bool u) := X2_15.out.cell rfl
    have cX21 : w15.cell? ⟨bX2, 1, none⟩ = some (.slice (some rX2) rn rn) := X2_15.out.cell rfl
    go_wp2_with fail
    with_reducible refine (markTrain_is TR _ _ _ _ (w5.heap.size) (w6.heap.size) rows (1 + (M0 : Int) + 2 * (tn : Int) + (pn : Int)) _ HRN.out hrs2 HRR.out hTRb (by omega) (by omega) (by omega) OX2_15.out HTR.out).mono ?_
    rintro e w16 ⟨rfl, ho, hc⟩
    clear cX20 cX21
    have HW16 := Lib.hid (hc.ext HW15.out (by omega))
    have BX0_16 := Lib.hid (BX0_15.out.chg hc (by omega))
    have BX1_16 := Lib.hid (BX1_15.out.chg hc (by omega))
    have BX2_16 := Lib.hid (BX2_15.out.chg hc (by omega))
    have P0_16 := Lib.hid (P0_15.out.chg hc (by omega))
    have X0_16 := Lib.hid (X0_15.out.chg hc (by omega))
    have X1_16 := Lib.hid (X1_15.out.chg hc (by omega))
    have X2_16 := Lib.hid (X2_15.out.chg hc (by omega))
    have G0_16 := Lib.hid (G0_15.out.chg hc (by omega))
    have OP_16 := Lib.hid (OP_15.out.chg hc (by omega))
    have OX0_16 := Lib.hid (OX0_15.out.chg hc (by omega))
    have OX1_16 := Lib.hid (OX1_15.out.chg hc (by omega))
    have OX2_16 := Lib.hid ho
    have OG_16 := Lib.hid (OG_15.out.chg hc (by omega))
    have zz16 := hc.size
    clear HW15 BX0_15 BX1_15 BX2_15 P0_15 X0_15 X1_15 X2_15 G0_15 OP_15 OX0_15 OX1_15 OX2_15 OG_15 hc ho
    have hd2 : decide (1 + (M0 : Int) + 2 * (tn : Int) + (pn : Int) + 6 * (TR : Int) < 0) = false := by simp; omega
    have cG00 : w16.cell? ⟨bG0, 0, none⟩ = some (.int .i64 x0) := G0_16.out.cell rfl
    have cG01 : w16.cell? ⟨bG0, 1, none⟩ = some (.int .i64 x1) := G0_16.out.cell rfl
    have cG02 : w16.cell? ⟨bG0, 2, none⟩ = some (.int .i64 x2) := G0_16.out.cell rfl
    have cG03 : w16.cell? ⟨bG0, 3, none⟩ = some (.int .i64 x3) := G0_16.out.cell rfl
    have cG04 : w16.cell? ⟨bG0, 4, none⟩ = some (.int .i64 x4) := G0_16.out.cell rfl
    have cG05 : w16.cell? ⟨bG0, 5, none⟩ = some (.int .i64 x5) := G0_16.out.cell rfl
    have cG06 : w16.cell? ⟨bG0, 6, none⟩ = some (.int .i64 x6) := G0_16.out.cell rfl
    have cG07 : w16.cell? ⟨bG0, 7, none⟩ = some (.int .i64 x7) := G0_16.out.cell rfl
    have cG08 : w16.cell? ⟨bG0, 8, none⟩ = some (.int .i64 x8) := G0_16.out.cell rfl
    have cG09 : w16.cell? ⟨bG0, 9, none⟩ = some (.slice pG n1 gc) := G0_16.out.cell rfl
    have cP00 : w16.cell? ⟨bP0, 0, none⟩ = some (.int .i64 x0) := P0_16.out.cell rfl
    have cP01 : w16.cell? ⟨bP0, 1, none⟩ = some (.int .i64 x1) := P0_16.out.cell rfl
    have cP02 : w16.cell? ⟨bP0, 2, none⟩ = some (.int .i64 x2) := P0_16.out.cell rfl
    have cP03 : w16.cell? ⟨bP0, 3, none⟩ = some (.int .i64 x3) := P0_16.out.cell rfl
    have cP04 : w16.cell? ⟨bP0, 4, none⟩ = some (.int .i64 x4) := P0_16.out.cell rfl
    have cP05 : w16.cell? ⟨bP0, 5, none⟩ = some (.int .i64 x5) := P0_16.out.cell rfl
    have cP06 : w16.cell? ⟨bP0, 6, none⟩ = some (.int .i64 x6) := P0_16.out.cell rfl
    have cP07 : w16.cell? ⟨bP0, 7, none⟩ = some (.int .i64 x7) := P0_16.out.cell rfl
    have cP08 : w16.cell? ⟨bP0, 8, none⟩ = some (.int .i64 x8) := P0_16.out.cell rfl
    have cP09 : w16.cell? ⟨bP0, 9, none⟩ = some (.slice pP n1 qP) := P0_16.out.cell rfl
    go_wp2_with fail
    with_reducible refine (eqLock_same _ _ _ _ _ _ _ _ _ _ _ _ _ _ ts1 _ HN1.out HS1.out OG_16.out.trains OP_16.out.trains).mono ?_
    rintro e w17 ⟨rfl, hb⟩
    clear cG00 cG01 cG02 cG03 cG04 cG05 cG06 cG07 cG08 cG09 cP00 cP01 cP02 cP03 cP04 cP05 cP06 cP07 cP08 cP09
    have HW17 := Lib.hid (HW16.out.trans hb)
    have BX0_17 := Lib.hid (BX0_16.out.ext hb)
    have BX1_17 := Lib.hid (BX1_16.out.ext hb)
    have BX2_17 := Lib.hid (BX2_16.out.ext hb)
    have P0_17 := Lib.hid (P0_16.out.ext hb)
    have X0_17 := Lib.hid (X0_16.out.ext hb)
    have X1_17 := Lib.hid (X1_16.out.ext hb)
    have X2_17 := Lib.hid (X2_16.out.ext hb)
    have G0_17 := Lib.hid (G0_16.out.ext hb)
    have OP_17 := Lib.hid (OP_16.out.ext hb)
    have OX0_17 := Lib.hid (OX0_16.out.ext hb)
    have OX1_17 := Lib.hid (OX1_16.out.ext hb)
    have OX2_17 := Lib.hid (OX2_16.out.ext hb)
    have OG_17 := Lib.hid (OG_16.out.ext hb)
    have zz17 := hb.size
    clear HW16 BX0_16 BX1_16 BX2_16 P0_16 X0_16 X1_16 X2_16 G0_16 OP_16 OX0_16 OX1_16 OX2_16 OG_16 hb
    have cG00 : w17.cell? ⟨bG0, 0, none⟩ = some (.int .i64 x0) := G0_17.out.cell rfl
    have cG01 : w17.cell? ⟨bG0, 1, none⟩ = some (.int .i64 x1) := G0_17.out.cell rfl
    have cG02 : w17.cell? ⟨bG0, 2, none⟩ = some (.int .i64 x2) := G0_17.out.cell rfl
    have cG03 : w17.cell? ⟨bG0, 3, none⟩ = some (.int .i64 x3) := G0_17.out.cell rfl
    have cG04 : w17.cell? ⟨bG0, 4, none⟩ = some (.int .i64 x4) := G0_17.out.cell rfl
    have cG05 : w17.cell? ⟨bG0, 5, none⟩ = some (.int .i64 x5) := G0_17.out.cell rfl
    have cG06 : w17.cell? ⟨bG0, 6, none⟩ = some (.int .i64 x6) := G0_17.out.cell rfl
    have cG07 : w17.cell? ⟨bG0, 7, none⟩ = some (.int .i64 x7) := G0_17.out.cell rfl
    have cG08 : w17.cell? ⟨bG0, 8, none⟩ = some (.int .i64 x8) := G0_17.out.cell rfl
    have cG09 : w17.cell? ⟨bG0, 9, none⟩ = some (.slice pG n1 gc) := G0_17.out.cell rfl
    go_wp2_with fail
    with_reducible refine (markLock_is M1 _ _ _ _ _ _ _ _ _ _ _ _ (w7.heap.size) (w8.heap.size) ts1 1 _ HN1.out hs1b HTS1.out hM1b (by decide) (by decide) (by omega) OG_17.out HM1.out).mono ?_
    rintro e w18 ⟨rfl, ho, hc⟩
    clear cG00 cG01 cG02 cG03 cG04 cG05 cG06 cG07 cG08 cG09
    have HW18 := Lib.hid (hc.ext HW17.out (by omega))
    have BX0_18 := Lib.hid (BX0_17.out.chg hc (by omega))
    have BX1_18 := Lib.hid (BX1_17.out.chg hc (by omega))
    have BX2_18 := Lib.hid (BX2_17.out.chg hc (by omega))
    have P0_18 := Lib.hid (P0_17.out.chg hc (by omega))
    have X0_18 := Lib.hid (X0_17.out.chg hc (by omega))
    have X1_18 := Lib.hid (X1_17.out.chg hc (by omega))
    have X2_18 := Lib.hid (X2_17.out.chg hc (by omega))
    have G0_18 := Lib.hid (G0_17.out.chg hc (by omega))
    have OP_18 := Lib.hid (OP_17.out.chg hc (by omega))
    have OX0_18 := Lib.hid (OX0_17.out.chg hc (by omega))
    have OX1_18 := Lib.hid (OX1_17.out.chg hc (by omega))
    have OX2_18 := Lib.hid (OX2_17.out.chg hc (by omega))
    have OG_18 := Lib.hid ho
    have zz18 := hc.size
    clear HW17 BX0_17 BX1_17 BX2_17 P0_17 X0_17 X1_17 X2_17 G0_17 OP_17 OX0_17 OX1_17 OX2_17 OG_17 hc ho
    have cG00 : w18.cell? ⟨bG0, 0, none⟩ = some (.int .i64 x0) := G0_18.out.cell rfl
    have cG01 : w18.cell? ⟨bG0, 1, none⟩ = some (.int .i64 x1) := G0_18.out.cell rfl
    have cG02 : w18.cell? ⟨bG0, 2, none⟩ = some (.int .i64 x2) := G0_18.out.cell rfl
    have cG03 : w18.cell? ⟨bG0, 3, none⟩ = some (.int .i64 x3) := G0_18.out.cell rfl
    have cG04 : w18.cell? ⟨bG0, 4, none⟩ = some (.int .i64 x4) := G0_18.out.cell rfl
    have cG05 : w18.cell? ⟨bG0, 5, none⟩ = some (.int .i64 x5) := G0_18.out.cell rfl
    have cG06 : w18.cell? ⟨bG0, 6, none⟩ = some (.int .i64 x6) := G0_18.out.cell rfl
    have cG07 : w18.cell? ⟨bG0, 7, none⟩ = some (.int .i64 x7) := G0_18.out.cell rfl
    have cG08 : w18.cell? ⟨bG0, 8, none⟩ = some (.int .i64 x8) := G0_18.out.cell rfl
    have cG09 : w18.cell? ⟨bG0, 9, none⟩ = some (.slice pG n1 gc) := G0_18.out.cell rfl
    go_wp2_with fail
    with_reducible refine (heldLock_is M1 _ _ _ _ _ _ _ _ _ _ _ _ ts1 1 _ HN1.out hs1b HTS1.out hM1b (by decide) (by decide) OG_18.out.trains HM1.out).mono ?_
    rintro e w19 ⟨rfl, hb⟩
    clear cG00 cG01 cG02 cG03 cG04 cG05 cG06 cG07 cG08 cG09
    have HW19 := Lib.hid (HW18.out.trans hb)
    have BX0_19 := Lib.hid (BX0_18.out.ext hb)
    have BX1_19 := Lib.hid (BX1_18.out.ext hb)
    have BX2_19 := Lib.hid (BX2_18.out.ext hb)
    have P0_19 := Lib.hid (P0_18.out.ext hb)
    have X0_19 := Lib.hid (X0_18.out.ext hb)
    have X1_19 := Lib.hid (X1_18.out.ext hb)
    have X2_19 := Lib.hid (X2_18.out.ext hb)
    have G0_19 := Lib.hid (G0_18.out.ext hb)
    have OP_19 := Lib.hid (OP_18.out.ext hb)
    have OX0_19 := Lib.hid (OX0_18.out.ext hb)
    have OX1_19 := Lib.hid (OX1_18.out.ext hb)
    have OX2_19 := Lib.hid (OX2_18.out.ext hb)
    have OG_19 := Lib.hid (OG_18.out.ext hb)
    have zz19 := hb.size
    clear HW18 BX0_18 BX1_18 BX2_18 P0_18 X0_18 X1_18 X2_18 G0_18 OP_18 OX0_18 OX1_18 OX2_18 OG_18 hb
    have cBX00 : w19.cell? ⟨w.heap.size, 0, none⟩ = some (.int .i64 x0) := BX0_19.out.cell rfl
    have cBX01 : w19.cell? ⟨w.heap.size, 1, none⟩ = some (.int .i64 x1) := BX0_19.out.cell rfl
    have cBX02 : w19.cell? ⟨w.heap.size, 2, none⟩ = some (.int .i64 x2) := BX0_19.out.cell rfl
    have cBX03 : w19.cell? ⟨w.heap.size, 3, none⟩ = some (.int .i64 x3) := BX0_19.out.cell rfl
    have cBX04 : w19.cell? ⟨w.heap.size, 4, none⟩ = some (.int .i64 x4) := BX0_19.out.cell rfl
    have cBX05 : w19.cell? ⟨w.heap.size, 5, none⟩ = some (.int .i64 x5) := BX0_19.out.cell rfl
    have cBX06 : w19.cell? ⟨w.heap.size, 6, none⟩ = some (.int .i64 x6) := BX0_19.out.cell rfl
    have cBX07 : w19.cell? ⟨w.heap.size, 7, none⟩ = some (.int .i64 x7) := BX0_19.out.cell rfl
    have cBX08 : w19.cell? ⟨w.heap.size, 8, none⟩ = some (.int .i64 x8) := BX0_19.out.cell rfl
    have cBX09 : w19.cell? ⟨w.heap.size, 9, none⟩ = some (.slice a n c) := BX0_19.out.cell rfl
    have cBX10 : w19.cell? ⟨w.heap.size + 1, 0, none⟩ = some (.slice ta tn tc) := BX1_19.out.cell rfl
    have cBX11 : w19.cell? ⟨w.heap.size + 1, 1, none⟩ = some (.int .i64 vol) := BX1_19.out.cell rfl
    have cBX12 : w19.cell? ⟨w.heap.size + 1, 2, none⟩ = some (.slice pa pn pc) := BX1_19.out.cell rfl
    have cBX20 : w19.cell? ⟨w.heap.size + 1 + 1, 0, none⟩ = some (.bool u) := BX2_19.out.cell rfl
    have cBX21 : w19.cell? ⟨w.heap.size + 1 + 1, 1, none⟩ = some (.slice ra rn rc) := BX2_19.out.cell rfl
    go_wp2_with fail
    clear cBX00 cBX01 cBX02 cBX03 cBX04 cBX05 cBX06 cBX07 cBX08 cBX09
    clear cBX10 cBX11 cBX12
    clear cBX20 cBX21
    have HSK := Lib.hid (fun (w' : World) (h : Ext w19 w') => (⟨(BX0_19.out.ext h).cell rfl, (BX0_19.out.ext h).cell rfl, (BX0_19.out.ext h).cell rfl, (BX0_19.out.ext h).cell rfl, (BX0_19.out.ext h).cell rfl, (BX0_19.out.ext h).cell rfl, (BX0_19.out.ext h).cell rfl, (BX0_19.out.ext h).cell rfl, (BX0_19.out.ext h).cell rfl, (BX0_19.out.ext h).cell rfl, (BX1_19.out.ext h).cell rfl, (BX1_19.out.ext h).cell rfl, (BX1_19.out.ext h).cell rfl, (BX2_19.out.ext h).cell rfl, (BX2_19.out.ext h).cell rfl⟩ : w'.cell? ⟨w.heap.size, 0, none⟩ = some (.int .i64 x0) ∧ w'.cell? ⟨w.heap.size, 1, none⟩ = some (.int .i64 x1) ∧ w'.cell? ⟨w.heap.size, 2, none⟩ = some (.int .i64 x2) ∧ w'.cell? ⟨w.heap.size, 3, none⟩ = some (.int .i64 x3) ∧ w'.cell? ⟨w.heap.size, 4, none⟩ = some (.int .i64 x4) ∧ w'.cell? ⟨w.heap.size, 5, none⟩ = some (.int .i64 x5) ∧ w'.cell? ⟨w.heap.size, 6, none⟩ = some (.int .i64 x6) ∧ w'.cell? ⟨w.heap.size, 7, none⟩ = some (.int .i64 x7) ∧ w'.cell? ⟨w.heap.size, 8, none⟩ = some (.int .i64 x8) ∧ w'.cell? ⟨w.heap.size, 9, none⟩ = some (.slice a n c) ∧ w'.cell? ⟨w.heap.size + 1, 0, none⟩ = some (.slice ta tn tc) ∧ w'.cell? ⟨w.heap.size + 1, 1, none⟩ = some (.int .i64 vol) ∧ w'.cell? ⟨w.heap.size + 1, 2, none⟩ = some (.slice pa pn pc) ∧ w'.cell? ⟨w.heap.size + 1 + 1, 0, none⟩ = some (.bool u) ∧ w'.cell? ⟨w.heap.size + 1 + 1, 1, none⟩ = some (.slice ra rn rc)))
    apply wp_ways (G := fun b p q w' => Ext w19 w' ∧ (w19.heap.size ≤ b ∧ b < w'.heap.size) ∧ RowAt w' b 26 #[.int .i64 x0, .int .i64 x1, .int .i64 x2, .int .i64 x3, .int .i64 x4, .int .i64 x5, .int .i64 x6, .int .i64 x7, .int .i64 x8, .slice p n1 q] ∧ ∃ lo hi, w19.heap.size ≤ lo ∧ hi ≤ w'.heap.size ∧ OwnTrains w' lo hi p ts1)
    case h =>
      refine wp_region_held_drew (S := (fun w' => w'.cell? ⟨w.heap.size, 0, none⟩ = some (.int .i64 x0) ∧ w'.cell? ⟨w.heap.size, 1, none⟩ = some (.int .i64 x1) ∧ w'.cell? ⟨w.heap.size, 2, none⟩ = some (.int .i64 x2) ∧ w'.cell? ⟨w.heap.size, 3, none⟩ = some (.int .i64 x3) ∧ w'.cell? ⟨w.heap.size, 4, none⟩ = some (.int .i64 x4) ∧ w'.cell? ⟨w.heap.size, 5, none⟩ = some (.int .i64 x5) ∧ w'.cell? ⟨w.heap.size, 6, none⟩ = some (.int .i64 x6) ∧ w'.cell? ⟨w.heap.size, 7, none⟩ = some (.int .i64 x7) ∧ w'.cell? ⟨w.heap.size, 8, none⟩ = some (.int .i64 x8) ∧ w'.cell? ⟨w.heap.size, 9, none⟩ = some (.slice a n c) ∧ w'.cell? ⟨w.heap.size + 1, 0, none⟩ = some (.slice ta tn tc) ∧ w'.cell? ⟨w.heap.size + 1, 1, none⟩ = some (.int .i64 vol) ∧ w'.cell? ⟨w.heap.size + 1, 2, none⟩ = some (.slice pa pn pc) ∧ w'.cell? ⟨w.heap.size + 1 + 1, 0, none⟩ = some (.bool u) ∧ w'.cell? ⟨w.heap.size + 1 + 1, 1, none⟩ = some (.slice ra rn rc))) (by kernel_rfl) ?_ (fun hH0 => ?_)
      · (try dsimp only)
        (exact HSK.out _ (by (repeat' (first | (with_reducible assumption) | (with_reducible exact Ext.refl _) | (with_reducible refine Ext.alloc ?_ _) | (with_reducible refine Ext.drew ?_) | (with_reducible refine Ext.setCell ?_ ?_ _) | (simp; done) | (simp; omega)))))
      refine take_l 0 (v := ?_) rfl (by kernel_rfl) (by kernel_rfl) (by kernel_rfl) (fun _ _ _ h => h) (by rfl) ?_ (by assumption) ?_
      rotate_left
      · (intro w hSw; (try dsimp only at hSw); go_simp; (try with_reducible rfl))
      (try simp only [Act.put, List.setIfInBounds_toArray, List.set_cons_zero, List.set_cons_succ])
      refine take_l 2 (v := ?_) rfl (by kernel_rfl) (by kernel_rfl) (by kernel_rfl) (fun _ _ _ h => h) (by rfl) ?_ (by assumption) ?_
      rotate_left
      · (intro w hSw; (try dsimp only at hSw); go_simp; (try with_reducible rfl))
      (try simp only [Act.put, List.setIfInBounds_toArray, List.set_cons_zero, List.set_cons_succ])
      refine take_l 4 (v := ?_) rfl (by kernel_rfl) (by kernel_rfl) (by kernel_rfl) (fun _ _ _ h => h) (by rfl) ?_ (by assumption) ?_
      rotate_left
      · (intro w hSw; (try dsimp only at hSw); go_simp; (try with_reducible rfl))
      (try simp only [Act.put, List.setIfInBounds_toArray, List.set_cons_zero, List.set_cons_succ])
      refine wpAnyH_ready (rs := [1, 10]) (by kernel_rfl) (by simp) ?_
      refine cons_l (i := 1) rfl (fun K hK => ?_) ?_
      go_simp; (go_at_call 40; with_reducible refine (toLock_any _ _ _ _ _ _ _ _ _ _ _ _ ts _ HN.out hs2 HTS.out (HF.out.ext (HW19.out.trans (by (repeat' (first | (with_reducible assumption) | (with_reducible exact Ext.refl _) | (with_reducible refine Ext.alloc ?_ _) | (with_reducible refine Ext.drew ?_) | (with_reducible refine Ext.setCell ?_ ?_ _) | (simp; done) | (simp; omega))))))).mono ?_); rintro e v0 ⟨aH0, rfl, ho0, hb0⟩; have xv0 : Ext w19 v0 := Ext.trans (by (repeat' (first | (with_reducible assumption) | (with_reducible exact Ext.refl _) | (with_reducible refine Ext.alloc ?_ _) | (with_reducible refine Ext.drew ?_) | (with_reducible refine Ext.setCell ?_ ?_ _) | (simp; done) | (simp; omega)))) hb0; have zv0 := hb0.size; (try simp only [World.size_drew] at zv0); (try have RP := Lib.hid (RP.out.ext hb0))
      refine hK.out _ _ ?_ (fun hH1 => ?_)
      · (try dsimp only)
        (exact HSK.out _ (by (repeat' (first | (with_reducible assumption) | (with_reducible exact Ext.refl _) | (with_reducible refine Ext.alloc ?_ _) | (with_reducible refine Ext.drew ?_) | (with_reducible refine Ext.setCell ?_ ?_ _) | (simp; done) | (simp; omega)))))
      clear hK K hH0
      (try simp only [Act.put, List.setIfInBounds_toArray, List.set_cons_zero, List.set_cons_succ])
      refine wpAnyH_ready (rs := [3, 10]) (by kernel_rfl) (by simp) ?_
      refine cons_l (i := 3) rfl (fun K hK => ?_) ?_
      go_simp; (go_at_call 41; with_reducible refine (toReach_any _ _ _ _ _ _ _ ps xs _ HT.out htl2 HP.out hpl2 (HFT.out.ext (HW19.out.trans (by (repeat' (first | (with_reducible assumption) | (with_reducible exact Ext.refl _) | (with_reducible refine Ext.alloc ?_ _) | (with_reducible refine Ext.drew ?_) | (with_reducible refine Ext.setCell ?_ ?_ _) | (simp; done) | (simp; omega)))))) (HFP.out.ext (HW19.out.trans (by (repeat' (first | (with_reducible assumption) | (with_reducible exact Ext.refl _) | (with_reducible refine Ext.alloc ?_ _) | (with_reducible refine Ext.drew ?_) | (with_reducible refine Ext.setCell ?_ ?_ _) | (simp; done) | (simp; omega))))))).mono ?_); rintro e v1 ⟨fH1, gH1, midH1, rfl, hmH1, ho1, hoi1, hb1⟩; have xv1 : Ext w19 v1 := Ext.trans (by (repeat' (first | (with_reducible assumption) | (with_reducible exact Ext.refl _) | (with_reducible refine Ext.alloc ?_ _) | (with_reducible refine Ext.drew ?_) | (with_reducible refine Ext.setCell ?_ ?_ _) | (simp; done) | (simp; omega)))) hb1; have zv1 := hb1.size; (try simp only [World.size_drew] at zv1); (try have RP := Lib.hid (RP.out.ext hb1)); have ho0 := ho0.ext hb1
      refine hK.out _ _ ?_ (fun hH2 => ?_)
      · (try dsimp only)
        (exact HSK.out _ (by (repeat' (first | (with_reducible assumption) | (with_reducible exact Ext.refl _) | (with_reducible refine Ext.alloc ?_ _) | (with_reducible refine Ext.drew ?_) | (with_reducible refine Ext.setCell ?_ ?_ _) | (simp; done) | (simp; omega)))))
      clear hK K hH1
      (try simp only [Act.put, List.setIfInBounds_toArray, List.set_cons_zero, List.set_cons_succ])
      refine wpAnyH_ready (rs := [5, 10]) (by kernel_rfl) (by simp) ?_
      refine cons_l (i := 5) rfl (fun K hK => ?_) ?_
      go_simp; (go_at_call 42; with_reducible refine (toTrain_any _ _ _ _ rows _ HRN.out hrs2 HRR.out (HFR.out.ext (HW19.out.trans (by (repeat' (first | (with_reducible assumption) | (with_reducible exact Ext.refl _) | (with_reducible refine Ext.alloc ?_ _) | (with_reducible refine Ext.drew ?_) | (with_reducible refine Ext.setCell ?_ ?_ _) | (simp; done) | (simp; omega))))))).mono ?_); rintro e v2 ⟨rH2, rfl, ho2, hb2⟩; have xv2 : Ext w19 v2 := Ext.trans (by (repeat' (first | (with_reducible assumption) | (with_reducible exact Ext.refl _) | (with_reducible refine Ext.alloc ?_ _) | (with_reducible refine Ext.drew ?_) | (with_reducible refine Ext.setCell ?_ ?_ _) | (simp; done) | (simp; omega)))) hb2; have zv2 := hb2.size; (try simp only [World.size_drew] at zv2); (try have RP := Lib.hid (RP.out.ext hb2)); have ho0 := ho0.ext hb2; have ho1 := ho1.ext hb2; have hoi1 := hoi1.ext hb2
      refine hK.out _ _ ?_ (fun hH3 => ?_)
      · (try dsimp only)
        (exact HSK.out _ (by (repeat' (first | (with_reducible assumption) | (with_reducible exact Ext.refl _) | (with_reducible refine Ext.alloc ?_ _) | (with_reducible refine Ext.drew ?_) | (with_reducible refine Ext.setCell ?_ ?_ _) | (simp; done) | (simp; omega)))))
      clear hK K hH2
      (try simp only [Act.put, List.setIfInBounds_toArray, List.set_cons_zero, List.set_cons_succ])
      refine wpAnyH_ready (rs := [6, 10]) (by kernel_rfl) (by simp) ?_
      refine cons_l (i := 6) rfl (fun K hK => ?_) ?_
      go_simp; (go_at_call 27; with_reducible refine (implEnterL_any ts1 n1 ok _ _ _ _ _ _ _ _ _ _ _ _ ts _ _ _ _ _ _ _ ps xs _ _ _ _ rows _ HN.out hs2 HTS.out ho0.trains HT.out htl2 HP.out hpl2 ho1.at hoi1.at HVOL.out HRN.out hrs2 HRR.out HRT.out ho2.rows HI0.out HI1.out HN1.out HRES.out).mono ?_); rintro e vS ⟨pH, qH, rfl, hoR, hbs⟩; have xvS : Ext w19 vS := Ext.trans (by (repeat' (first | (with_reducible assumption) | (with_reducible exact Ext.refl _) | (with_reducible refine Ext.alloc ?_ _) | (with_reducible refine Ext.drew ?_) | (with_reducible refine Ext.setCell ?_ ?_ _) | (simp; done) | (simp; omega)))) hbs; have zvS := hbs.size; (try have RP := Lib.hid (RP.out.ext hbs))
      refine hK.out _ _ ?_ (fun hH4 => ?_)
      · (try dsimp only)
        (exact HSK.out _ (by (repeat' (first | (with_reducible assumption) | (with_reducible exact Ext.refl _) | (with_reducible refine Ext.alloc ?_ _) | (with_reducible refine Ext.drew ?_) | (with_reducible refine Ext.setCell ?_ ?_ _) | (simp; done) | (simp; omega)))))
      clear hK K hH3
      (try simp only [Act.put, List.setIfInBounds_toArray, List.set_cons_zero, List.set_cons_succ])
      refine take_l 7 (v := ?_) rfl (by kernel_rfl) (by kernel_rfl) (by kernel_rfl) (fun _ _ _ h => h) (by rfl) ?_ (by assumption) ?_
      rotate_left
      · (intro w hSw; (try dsimp only at hSw); go_simp; (try with_reducible rfl))
      (try simp only [Act.put, List.setIfInBounds_toArray, List.set_cons_zero, List.set_cons_succ])
      refine take_l 8 (v := ?_) rfl (by kernel_rfl) (by kernel_rfl) (by kernel_rfl) (fun _ _ _ h => h) (by rfl) ?_ (by assumption) ?_
      rotate_left
      · (intro w hSw; (try dsimp only at hSw); go_simp; (try with_reducible rfl))
      (try simp only [Act.put, List.setIfInBounds_toArray, List.set_cons_zero, List.set_cons_succ])
      refine take_l 9 (v := ?_) rfl (by kernel_rfl) (by kernel_rfl) (by kernel_rfl) (fun _ _ _ h => h) (by rfl) ?_ (by assumption) ?_
      rotate_left
      · (intro w hSw; (try dsimp only at hSw); go_simp; (try with_reducible rfl))
      (try simp only [Act.put, List.setIfInBounds_toArray, List.set_cons_zero, List.set_cons_succ])
      refine wpAnyH_ready (rs := [10]) (by kernel_rfl) (by simp) ?_
      refine cons_l (i := 10) rfl (fun K hK => ?_) ?_
      go_simp; first | (obtain ⟨bP, hbP⟩ : ∃ x, x = vS.heap.size := ⟨_, rfl⟩; obtain ⟨wP, hwP⟩ : ∃ x, x = vS.alloc (.cells #[.int .i64 0, .int .i64 0, .int .i64 0, .int .i64 0, .int .i64 0, .int .i64 0, .int .i64 0, .int .i64 0, .int .i64 0, .slice none 0 0] 26) := ⟨_, rfl⟩; have halP : Ext vS wP := (show Ext vS (vS.alloc (.cells #[.int .i64 0, .int .i64 0, .int .i64 0, .int .i64 0, .int .i64 0, .int .i64 0, .int .i64 0, .int .i64 0, .int .i64 0, .slice none 0 0] 26)) from (Ext.refl _).alloc _) |> fun h => hwP ▸ h; have RP0 : RowAt (vS.alloc (.cells #[.int .i64 0, .int .i64 0, .int .i64 0, .int .i64 0, .int .i64 0, .int .i64 0, .int .i64 0, .int .i64 0, .int .i64 0, .slice none 0 0] 26)) (vS.heap.size) 26 #[.int .i64 0, .int .i64 0, .int .i64 0, .int .i64 0, .int .i64 0, .int .i64 0, .int .i64 0, .int .i64 0, .int .i64 0, .slice none 0 0] := RowAt.new vS 26 #[.int .i64 0, .int .i64 0, .int .i64 0, .int .i64 0, .int .i64 0, .int .i64 0, .int .i64 0, .int .i64 0, .int .i64 0, .slice none 0 0]; rw [← hwP, ← hbP] at RP0; rw [← hwP]; (try rw [← hbP]); have RP := Lib.hid RP0; have hPlt := RP0.lt; have hPm : vS.heap.size ≤ bP := Nat.le_of_eq hbP.symm; have hPn : bP ≤ vS.heap.size := Nat.le_of_eq hbP; have xP : Ext w19 wP := Ext.trans (by (repeat' (first | (with_reducible assumption) | (with_reducible exact Ext.refl _) | (with_reducible refine Ext.alloc ?_ _) | (with_reducible refine Ext.drew ?_) | (with_reducible refine Ext.setCell ?_ ?_ _) | (simp; done) | (simp; omega)))) halP; clear hbP hwP RP0; (try have ho0 := ho0.ext halP); (try have ho1 := ho1.ext halP); (try have hoi1 := hoi1.ext halP); (try have ho2 := ho2.ext halP); (try have hoR := hoR.ext halP)) | (obtain ⟨bP, hbP⟩ : ∃ x, x = v2.heap.size := ⟨_, rfl⟩; obtain ⟨wP, hwP⟩ : ∃ x, x = v2.alloc (.cells #[.int .i64 0, .int .i64 0, .int .i64 0, .int .i64 0, .int .i64 0, .int .i64 0, .int .i64 0, .int .i64 0, .int .i64 0, .slice none 0 0] 26) := ⟨_, rfl⟩; have halP : Ext v2 wP := (show Ext v2 (v2.alloc (.cells #[.int .i64 0, .int .i64 0, .int .i64 0, .int .i64 0, .int .i64 0, .int .i64 0, .int .i64 0, .int .i64 0, .int .i64 0, .slice none 0 0] 26)) from (Ext.refl _).alloc _) |> fun h => hwP ▸ h; have RP0 : RowAt (v2.alloc (.cells #[.int .i64 0, .int .i64 0, .int .i64 0, .int .i64 0, .int .i64 0, .int .i64 0, .int .i64 0, .int .i64 0, .int .i64 0, .slice none 0 0] 26)) (v2.heap.size) 26 #[.int .i64 0, .int .i64 0, .int .i64 0, .int .i64 0, .int .i64 0, .int .i64 0, .int .i64 0, .int .i64 0, .int .i64 0, .slice none 0 0] := RowAt.new v2 26 #[.int .i64 0, .int .i64 0, .int .i64 0, .int .i64 0, .int .i64 0, .int .i64 0, .int .i64 0, .int .i64 0, .int .i64 0, .slice none 0 0]; rw [← hwP, ← hbP] at RP0; rw [← hwP]; (try rw [← hbP]); have RP := Lib.hid RP0; have hPlt := RP0.lt; have hPm : v2.heap.size ≤ bP := Nat.le_of_eq hbP.symm; have hPn : bP ≤ v2.heap.size := Nat.le_of_eq hbP; have xP : Ext w19 wP := Ext.trans (by (repeat' (first | (with_reducible assumption) | (with_reducible exact Ext.refl _) | (with_reducible refine Ext.alloc ?_ _) | (with_reducible refine Ext.drew ?_) | (with_reducible refine Ext.setCell ?_ ?_ _) | (simp; done) | (simp; omega)))) halP; clear hbP hwP RP0; (try have ho0 := ho0.ext halP); (try have ho1 := ho1.ext halP); (try have hoi1 := hoi1.ext halP); (try have ho2 := ho2.ext halP); (try have hoR := hoR.ext halP)) | (obtain ⟨bP, hbP⟩ : ∃ x, x = v1.heap.size := ⟨_, rfl⟩; obtain ⟨wP, hwP⟩ : ∃ x, x = v1.alloc (.cells #[.int .i64 0, .int .i64 0, .int .i64 0, .int .i64 0, .int .i64 0, .int .i64 0, .int .i64 0, .int .i64 0, .int .i64 0, .slice none 0 0] 26) := ⟨_, rfl⟩; have halP : Ext v1 wP := (show Ext v1 (v1.alloc (.cells #[.int .i64 0, .int .i64 0, .int .i64 0, .int .i64 0, .int .i64 0, .int .i64 0, .int .i64 0, .int .i64 0, .int .i64 0, .slice none 0 0] 26)) from (Ext.refl _).alloc _) |> fun h => hwP ▸ h; have RP0 : RowAt (v1.alloc (.cells #[.int .i64 0, .int .i64 0, .int .i64 0, .int .i64 0, .int .i64 0, .int .i64 0, .int .i64 0, .int .i64 0, .int .i64 0, .slice none 0 0] 26)) (v1.heap.size) 26 #[.int .i64 0, .int .i64 0, .int .i64 0, .int .i64 0, .int .i64 0, .int .i64 0, .int .i64 0, .int .i64 0, .int .i64 0, .slice none 0 0] := RowAt.new v1 26 #[.int .i64 0, .int .i64 0, .int .i64 0, .int .i64 0, .int .i64 0, .int .i64 0, .int .i64 0, .int .i64 0, .int .i64 0, .slice none 0 0]; rw [← hwP, ← hbP] at RP0; rw [← hwP]; (try rw [← hbP]); have RP := Lib.hid RP0; have hPlt := RP0.lt; have hPm : v1.heap.size ≤ bP := Nat.le_of_eq hbP.symm; have hPn : bP ≤ v1.heap.size := Nat.le_of_eq hbP; have xP : Ext w19 wP := Ext.trans (by (repeat' (first | (with_reducible assumption) | (with_reducible exact Ext.refl _) | (with_reducible refine Ext.alloc ?_ _) | (with_reducible refine Ext.drew ?_) | (with_reducible refine Ext.setCell ?_ ?_ _) | (simp; done) | (simp; omega)))) halP; clear hbP hwP RP0; (try have ho0 := ho0.ext halP); (try have ho1 := ho1.ext halP); (try have hoi1 := hoi1.ext halP); (try have ho2 := ho2.ext halP); (try have hoR := hoR.ext halP)) | (obtain ⟨bP, hbP⟩ : ∃ x, x = v0.heap.size := ⟨_, rfl⟩; obtain ⟨wP, hwP⟩ : ∃ x, x = v0.alloc (.cells #[.int .i64 0, .int .i64 0, .int .i64 0, .int .i64 0, .int .i64 0, .int .i64 0, .int .i64 0, .int .i64 0, .int .i64 0, .slice none 0 0] 26) := ⟨_, rfl⟩; have halP : Ext v0 wP := (show Ext v0 (v0.alloc (.cells #[.int .i64 0, .int .i64 0, .int .i64 0, .int .i64 0, .int .i64 0, .int .i64 0, .int .i64 0, .int .i64 0, .int .i64 0, .slice none 0 0] 26)) from (Ext.refl _).alloc _) |> fun h => hwP ▸ h; have RP0 : RowAt (v0.alloc (.cells #[.int .i64 0, .int .i64 0, .int .i64 0, .int .i64 0, .int .i64 0, .int .i64 0, .int .i64 0, .int .i64 0, .int .i64 0, .slice none 0 0] 26)) (v0.heap.size) 26 #[.int .i64 0, .int .i64 0, .int .i64 0, .int .i64 0, .int .i64 0, .int .i64 0, .int .i64 0, .int .i64 0, .int .i64 0, .slice none 0 0] := RowAt.new v0 26 #[.int .i64 0, .int .i64 0, .int .i64 0, .int .i64 0, .int .i64 0, .int .i64 0, .int .i64 0, .int .i64 0, .int .i64 0, .slice none 0 0]; rw [← hwP, ← hbP] at RP0; rw [← hwP]; (try rw [← hbP]); have RP := Lib.hid RP0; have hPlt := RP0.lt; have hPm : v0.heap.size ≤ bP := Nat.le_of_eq hbP.symm; have hPn : bP ≤ v0.heap.size := Nat.le_of_eq hbP; have xP : Ext w19 wP := Ext.trans (by (repeat' (first | (with_reducible assumption) | (with_reducible exact Ext.refl _) | (with_reducible refine Ext.alloc ?_ _) | (with_reducible refine Ext.drew ?_) | (with_reducible refine Ext.setCell ?_ ?_ _) | (simp; done) | (simp; omega)))) halP; clear hbP hwP RP0; (try have ho0 := ho0.ext halP); (try have ho1 := ho1.ext halP); (try have hoi1 := hoi1.ext halP); (try have ho2 := ho2.ext halP); (try have hoR := hoR.ext halP)) | (obtain ⟨bP, hbP⟩ : ∃ x, x = w19.heap.size := ⟨_, rfl⟩; obtain ⟨wP, hwP⟩ : ∃ x, x = (w19.alloc (.cells #[.int .i64 0, .int .i64 0, .int .i64 0, .int .i64 0, .int .i64 0, .int .i64 0, .int .i64 0, .int .i64 0, .int .i64 0, .slice none 0 0] 26)).drew := ⟨_, rfl⟩; have halP : Ext w19 wP := (show Ext w19 ((w19.alloc (.cells #[.int .i64 0, .int .i64 0, .int .i64 0, .int .i64 0, .int .i64 0, .int .i64 0, .int .i64 0, .int .i64 0, .int .i64 0, .slice none 0 0] 26)).drew) from ((Ext.refl _).alloc _).drew) |> fun h => hwP ▸ h; have RP0 : RowAt ((w19.alloc (.cells #[.int .i64 0, .int .i64 0, .int .i64 0, .int .i64 0, .int .i64 0, .int .i64 0, .int .i64 0, .int .i64 0, .int .i64 0, .slice none 0 0] 26)).drew) (w19.heap.size) 26 #[.int .i64 0, .int .i64 0, .int .i64 0, .int .i64 0, .int .i64 0, .int .i64 0, .int .i64 0, .int .i64 0, .int .i64 0, .slice none 0 0] := (RowAt.new w19 26 #[.int .i64 0, .int .i64 0, .int .i64 0, .int .i64 0, .int .i64 0, .int .i64 0, .int .i64 0, .int .i64 0, .int .i64 0, .slice none 0 0]).ext (Ext.refl _).drew; rw [← hwP, ← hbP] at RP0; rw [← hwP]; (try rw [← hbP]); have RP := Lib.hid RP0; have hPlt := RP0.lt; have hPm : w19.heap.size ≤ bP := Nat.le_of_eq hbP.symm; have hPn : bP ≤ w19.heap.size := Nat.le_of_eq hbP; have xP : Ext w19 wP := Ext.trans (by (repeat' (first | (with_reducible assumption) | (with_reducible exact Ext.refl _) | (with_reducible refine Ext.alloc ?_ _) | (with_reducible refine Ext.drew ?_) | (with_reducible refine Ext.setCell ?_ ?_ _) | (simp; done) | (simp; omega)))) halP; clear hbP hwP RP0; (try have ho0 := ho0.ext halP); (try have ho1 := ho1.ext halP); (try have hoi1 := hoi1.ext halP); (try have ho2 := ho2.ext halP); (try have hoR := hoR.ext halP)) | (obtain ⟨bP, hbP⟩ : ∃ x, x = w19.heap.size := ⟨_, rfl⟩; obtain ⟨wP, hwP⟩ : ∃ x, x = w19.drew.alloc (.cells #[.int .i64 0, .int .i64 0, .int .i64 0, .int .i64 0, .int .i64 0, .int .i64 0, .int .i64 0, .int .i64 0, .int .i64 0, .slice none 0 0] 26) := ⟨_, rfl⟩; have halP : Ext w19 wP := (show Ext w19 (w19.drew.alloc (.cells #[.int .i64 0, .int .i64 0, .int .i64 0, .int .i64 0, .int .i64 0, .int .i64 0, .int .i64 0, .int .i64 0, .int .i64 0, .slice none 0 0] 26)) from (Ext.refl _).drew.alloc _) |> fun h => hwP ▸ h; have RP0 : RowAt (w19.drew.alloc (.cells #[.int .i64 0, .int .i64 0, .int .i64 0, .int .i64 0, .int .i64 0, .int .i64 0, .int .i64 0, .int .i64 0, .int .i64 0, .slice none 0 0] 26)) (w19.heap.size) 26 #[.int .i64 0, .int .i64 0, .int .i64 0, .int .i64 0, .int .i64 0, .int .i64 0, .int .i64 0, .int .i64 0, .int .i64 0, .slice none 0 0] := RowAt.new w19 26 #[.int .i64 0, .int .i64 0, .int .i64 0, .int .i64 0, .int .i64 0, .int .i64 0, .int .i64 0, .int .i64 0, .int .i64 0, .slice none 0 0]; rw [← hwP, ← hbP] at RP0; rw [← hwP]; (try rw [← hbP]); have RP := Lib.hid RP0; have hPlt := RP0.lt; have hPm : w19.heap.size ≤ bP := Nat.le_of_eq hbP.symm; have hPn : bP ≤ w19.heap.size := Nat.le_of_eq hbP; have xP : Ext w19 wP := Ext.trans (by (repeat' (first | (with_reducible assumption) | (with_reducible exact Ext.refl _) | (with_reducible refine Ext.alloc ?_ _) | (with_reducible refine Ext.drew ?_) | (with_reducible refine Ext.setCell ?_ ?_ _) | (simp; done) | (simp; omega)))) halP; clear hbP hwP RP0; (try have ho0 := ho0.ext halP); (try have ho1 := ho1.ext halP); (try have hoi1 := hoi1.ext halP); (try have ho2 := ho2.ext halP); (try have hoR := hoR.ext halP))
      refine hK.out _ _ ?_ (fun hH5 => ?_)
      · (try dsimp only)
        (exact HSK.out _ (by (repeat' (first | (with_reducible assumption) | (with_reducible exact Ext.refl _) | (with_reducible refine Ext.alloc ?_ _) | (with_reducible refine Ext.drew ?_) | (with_reducible refine Ext.setCell ?_ ?_ _) | (simp; done) | (simp; omega)))))
      clear hK K hH4
      (try simp only [Act.put, List.setIfInBounds_toArray, List.set_cons_zero, List.set_cons_succ])
      refine wpAnyH_ready (rs := [11]) (by kernel_rfl) (by simp) ?_
      refine cons_l (i := 11) rfl (fun K hK => ?_) ?_
      have hs0 := RP.out.cell (j := 0) (v := (.int .i64 0)) rfl; have hf0 := RP.out.frozen 0; have hs1 := RP.out.cell (j := 1) (v := (.int .i64 0)) rfl; have hf1 := RP.out.frozen 1; have hs2 := RP.out.cell (j := 2) (v := (.int .i64 0)) rfl; have hf2 := RP.out.frozen 2; have hs3 := RP.out.cell (j := 3) (v := (.int .i64 0)) rfl; have hf3 := RP.out.frozen 3; have hs4 := RP.out.cell (j := 4) (v := (.int .i64 0)) rfl; have hf4 := RP.out.frozen 4; have hs5 := RP.out.cell (j := 5) (v := (.int .i64 0)) rfl; have hf5 := RP.out.frozen 5; have hs6 := RP.out.cell (j := 6) (v := (.int .i64 0)) rfl; have hf6 := RP.out.frozen 6; have hs7 := RP.out.cell (j := 7) (v := (.int .i64 0)) rfl; have hf7 := RP.out.frozen 7; have hs8 := RP.out.cell (j := 8) (v := (.int .i64 0)) rfl; have hf8 := RP.out.frozen 8; have hs9 := RP.out.cell (j := 9) (v := (.slice none 0 0)) rfl; have hf9 := RP.out.frozen 9; go_simp
      refine hK.out _ _ ?_ (fun hH6 => ?_)
      · (try dsimp only)
        (exact HSK.out _ (by (repeat' (first | (with_reducible assumption) | (with_reducible exact Ext.refl _) | (with_reducible refine Ext.alloc ?_ _) | (with_reducible refine Ext.drew ?_) | (with_reducible refine Ext.setCell ?_ ?_ _) | (simp; done) | (simp; omega)))))
      clear hK K hH5
      (try simp only [Act.put, List.setIfInBounds_toArray, List.set_cons_zero, List.set_cons_succ])
      refine take_l 12 (v := ?_) rfl (by kernel_rfl) (by kernel_rfl) (by kernel_rfl) (fun _ _ _ h => h) (by rfl) ?_ (by assumption) ?_
      rotate_left
      · (intro w hSw; (try dsimp only at hSw); go_simp; (try with_reducible rfl))
      (try simp only [Act.put, List.setIfInBounds_toArray, List.set_cons_zero, List.set_cons_succ])
      refine wpAnyH_done (by kernel_rfl) ?_ _
      rotate_left
      exact AllReadyH.nil
      exact AllReadyH.nil
      refine cons_l (i := 10) rfl (fun K hK => ?_) ?_
      go_simp; first | (obtain ⟨bP, hbP⟩ : ∃ x, x = vS.heap.size := ⟨_, rfl⟩; obtain ⟨wP, hwP⟩ : ∃ x, x = vS.alloc (.cells #[.int .i64 0, .int .i64 0, .int .i64 0, .int .i64 0, .int .i64 0, .int .i64 0, .int .i64 0, .int .i64 0, .int .i64 0, .slice none 0 0] 26) := ⟨_, rfl⟩; have halP : Ext vS wP := (show Ext vS (vS.alloc (.cells #[.int .i64 0, .int .i64 0, .int .i64 0, .int .i64 0, .int .i64 0, .int .i64 0, .int .i64 0, .int .i64 0, .int .i64 0, .slice none 0 0] 26)) from (Ext.refl _).alloc _) |> fun h => hwP ▸ h; have RP0 : RowAt (vS.alloc (.cells #[.int .i64 0, .int .i64 0, .int .i64 0, .int .i64 0, .int .i64 0, .int .i64 0, .int .i64 0, .int .i64 0, .int .i64 0, .slice none 0 0] 26)) (vS.heap.size) 26 #[.int .i64 0, .int .i64 0, .int .i64 0, .int .i64 0, .int .i64 0, .int .i64 0, .int .i64 0, .int .i64 0, .int .i64 0, .slice none 0 0] := RowAt.new vS 26 #[.int .i64 0, .int .i64 0, .int .i64 0, .int .i64 0, .int .i64 0, .int .i64 0, .int .i64 0, .int .i64 0, .int .i64 0, .slice none 0 0]; rw [← hwP, ← hbP] at RP0; rw [← hwP]; (try rw [← hbP]); have RP := Lib.hid RP0; have hPlt := RP0.lt; have hPm : vS.heap.size ≤ bP := Nat.le_of_eq hbP.symm; have hPn : bP ≤ vS.heap.size := Nat.le_of_eq hbP; have xP : Ext w19 wP := Ext.trans (by (repeat' (first | (with_reducible assumption) | (with_reducible exact Ext.refl _) | (with_reducible refine Ext.alloc ?_ _) | (with_reducible refine Ext.drew ?_) | (with_reducible refine Ext.setCell ?_ ?_ _) | (simp; done) | (simp; omega)))) halP; clear hbP hwP RP0; (try have ho0 := ho0.ext halP); (try have ho1 := ho1.ext halP); (try have hoi1 := hoi1.ext halP); (try have ho2 := ho2.ext halP); (try have hoR := hoR.ext halP)) | (obtain ⟨bP, hbP⟩ : ∃ x, x = v2.heap.size := ⟨_, rfl⟩; obtain ⟨wP, hwP⟩ : ∃ x, x = v2.alloc (.cells #[.int .i64 0, .int .i64 0, .int .i64 0, .int .i64 0, .int .i64 0, .int .i64 0, .int .i64 0, .int .i64 0, .int .i64 0, .slice none 0 0] 26) := ⟨_, rfl⟩; have halP : Ext v2 wP := (show Ext v2 (v2.alloc (.cells #[.int .i64 0, .int .i64 0, .int .i64 0, .int .i64 0, .int .i64 0, .int .i64 0, .int .i64 0, .int .i64 0, .int .i64 0, .slice none 0 0] 26)) from (Ext.refl _).alloc _) |> fun h => hwP ▸ h; have RP0 : RowAt (v2.alloc (.cells #[.int .i64 0, .int .i64 0, .int .i64 0, .int .i64 0, .int .i64 0, .int .i64 0, .int .i64 0, .int .i64 0, .int .i64 0, .slice none 0 0] 26)) (v2.heap.size) 26 #[.int .i64 0, .int .i64 0, .int .i64 0, .int .i64 0, .int .i64 0, .int .i64 0, .int .i64 0, .int .i64 0, .int .i64 0, .slice none 0 0] := RowAt.new v2 26 #[.int .i64 0, .int .i64 0, .int .i64 0, .int .i64 0, .int .i64 0, .int .i64 0, .int .i64 0, .int .i64 0, .int .i64 0, .slice none 0 0]; rw [← hwP, ← hbP] at RP0; rw [← hwP]; (try rw [← hbP]); have RP := Lib.hid RP0; have hPlt := RP0.lt; have hPm : v2.heap.size ≤ bP := Nat.le_of_eq hbP.symm; have hPn : bP ≤ v2.heap.size := Nat.le_of_eq hbP; have xP : Ext w19 wP := Ext.trans (by (repeat' (first | (with_reducible assumption) | (with_reducible exact Ext.refl _) | (with_reducible refine Ext.alloc ?_ _) | (with_reducible refine Ext.drew ?_) | (with_reducible refine Ext.setCell ?_ ?_ _) | (simp; done) | (simp; omega)))) halP; clear hbP hwP RP0; (try have ho0 := ho0.ext halP); (try have ho1 := ho1.ext halP); (try have hoi1 := hoi1.ext halP); (try have ho2 := ho2.ext halP); (try have hoR := hoR.ext halP)) | (obtain ⟨bP, hbP⟩ : ∃ x, x = v1.heap.size := ⟨_, rfl⟩; obtain ⟨wP, hwP⟩ : ∃ x, x = v1.alloc (.cells #[.int .i64 0, .int .i64 0, .int .i64 0, .int .i64 0, .int .i64 0, .int .i64 0, .int .i64 0, .int .i64 0, .int .i64 0, .slice none 0 0] 26) := ⟨_, rfl⟩; have halP : Ext v1 wP := (show Ext v1 (v1.alloc (.cells #[.int .i64 0, .int .i64 0, .int .i64 0, .int .i64 0, .int .i64 0, .int .i64 0, .int .i64 0, .int .i64 0, .int .i64 0, .slice none 0 0] 26)) from (Ext.refl _).alloc _) |> fun h => hwP ▸ h; have RP0 : RowAt (v1.alloc (.cells #[.int .i64 0, .int .i64 0, .int .i64 0, .int .i64 0, .int .i64 0, .int .i64 0, .int .i64 0, .int .i64 0, .int .i64 0, .slice none 0 0] 26)) (v1.heap.size) 26 #[.int .i64 0, .int .i64 0, .int .i64 0, .int .i64 0, .int .i64 0, .int .i64 0, .int .i64 0, .int .i64 0, .int .i64 0, .slice none 0 0] := RowAt.new v1 26 #[.int .i64 0, .int .i64 0, .int .i64 0, .int .i64 0, .int .i64 0, .int .i64 0, .int .i64 0, .int .i64 0, .int .i64 0, .slice none 0 0]; rw [← hwP, ← hbP] at RP0; rw [← hwP]; (try rw [← hbP]); have RP := Lib.hid RP0; have hPlt := RP0.lt; have hPm : v1.heap.size ≤ bP := Nat.le_of_eq hbP.symm; have hPn : bP ≤ v1.heap.size := Nat.le_of_eq hbP; have xP : Ext w19 wP := Ext.trans (by (repeat' (first | (with_reducible assumption) | (with_reducible exact Ext.refl _) | (with_reducible refine Ext.alloc ?_ _) | (with_reducible refine Ext.drew ?_) | (with_reducible refine Ext.setCell ?_ ?_ _) | (simp; done) | (simp; omega)))) halP; clear hbP hwP RP0; (try have ho0 := ho0.ext halP); (try have ho1 := ho1.ext halP); (try have hoi1 := hoi1.ext halP); (try have ho2 := ho2.ext halP); (try have hoR := hoR.ext halP)) | (obtain ⟨bP, hbP⟩ : ∃ x, x = v0.heap.size := ⟨_, rfl⟩; obtain ⟨wP, hwP⟩ : ∃ x, x = v0.alloc (.cells #[.int .i64 0, .int .i64 0, .int .i64 0, .int .i64 0, .int .i64 0, .int .i64 0, .int .i64 0, .int .i64 0, .int .i64 0, .slice none 0 0] 26) := ⟨_, rfl⟩; have halP : Ext v0 wP := (show Ext v0 (v0.alloc (.cells #[.int .i64 0, .int .i64 0, .int .i64 0, .int .i64 0, .int .i64 0, .int .i64 0, .int .i64 0, .int .i64 0, .int .i64 0, .slice none 0 0] 26)) from (Ext.refl _).alloc _) |> fun h => hwP ▸ h; have RP0 : RowAt (v0.alloc (.cells #[.int .i64 0, .int .i64 0, .int .i64 0, .int .i64 0, .int .i64 0, .int .i64 0, .int .i64 0, .int .i64 0, .int .i64 0, .slice none 0 0] 26)) (v0.heap.size) 26 #[.int .i64 0, .int .i64 0, .int .i64 0, .int .i64 0, .int .i64 0, .int .i64 0, .int .i64 0, .int .i64 0, .int .i64 0, .slice none 0 0] := RowAt.new v0 26 #[.int .i64 0, .int .i64 0, .int .i64 0, .int .i64 0, .int .i64 0, .int .i64 0, .int .i64 0, .int .i64 0, .int .i64 0, .slice none 0 0]; rw [← hwP, ← hbP] at RP0; rw [← hwP]; (try rw [← hbP]); have RP := Lib.hid RP0; have hPlt := RP0.lt; have hPm : v0.heap.size ≤ bP := Nat.le_of_eq hbP.symm; have hPn : bP ≤ v0.heap.size := Nat.le_of_eq hbP; have xP : Ext w19 wP := Ext.trans (by (repeat' (first | (with_reducible assumption) | (with_reducible exact Ext.refl _) | (with_reducible refine Ext.alloc ?_ _) | (with_reducible refine Ext.drew ?_) | (with_reducible refine Ext.setCell ?_ ?_ _) | (simp; done) | (simp; omega)))) halP; clear hbP hwP RP0; (try have ho0 := ho0.ext halP); (try have ho1 := ho1.ext halP); (try have hoi1 := hoi1.ext halP); (try have ho2 := ho2.ext halP); (try have hoR := hoR.ext halP)) | (obtain ⟨bP, hbP⟩ : ∃ x, x = w19.heap.size := ⟨_, rfl⟩; obtain ⟨wP, hwP⟩ : ∃ x, x = (w19.alloc (.cells #[.int .i64 0, .int .i64 0, .int .i64 0, .int .i64 0, .int .i64 0, .int .i64 0, .int .i64 0, .int .i64 0, .int .i64 0, .slice none 0 0] 26)).drew := ⟨_, rfl⟩; have halP : Ext w19 wP := (show Ext w19 ((w19.alloc (.cells #[.int .i64 0, .int .i64 0, .int .i64 0, .int .i64 0, .int .i64 0, .int .i64 0, .int .i64 0, .int .i64 0, .int .i64 0, .slice none 0 0] 26)).drew) from ((Ext.refl _).alloc _).drew) |> fun h => hwP ▸ h; have RP0 : RowAt ((w19.alloc (.cells #[.int .i64 0, .int .i64 0, .int .i64 0, .int .i64 0, .int .i64 0, .int .i64 0, .int .i64 0, .int .i64 0, .int .i64 0, .slice none 0 0] 26)).drew) (w19.heap.size) 26 #[.int .i64 0, .int .i64 0, .int .i64 0, .int .i64 0, .int .i64 0, .int .i64 0, .int .i64 0, .int .i64 0, .int .i64 0, .slice none 0 0] := (RowAt.new w19 26 #[.int .i64 0, .int .i64 0, .int .i64 0, .int .i64 0, .int .i64 0, .int .i64 0, .int .i64 0, .int .i64 0, .int .i64 0, .slice none 0 0]).ext (Ext.refl _).drew; rw [← hwP, ← hbP] at RP0; rw [← hwP]; (try rw [← hbP]); have RP := Lib.hid RP0; have hPlt := RP0.lt; have hPm : w19.heap.size ≤ bP := Nat.le_of_eq hbP.symm; have hPn : bP ≤ w19.heap.size := Nat.le_of_eq hbP; have xP : Ext w19 wP := Ext.trans (by (repeat' (first | (with_reducible assumption) | (with_reducible exact Ext.refl _) | (with_reducible refine Ext.alloc ?_ _) | (with_reducible refine Ext.drew ?_) | (with_reducible refine Ext.setCell ?_ ?_ _) | (simp; done) | (simp; omega)))) halP; clear hbP hwP RP0; (try have ho0 := ho0.ext halP); (try have ho1 := ho1.ext halP); (try have hoi1 := hoi1.ext halP); (try have ho2 := ho2.ext halP); (try have hoR := hoR.ext halP)) | (obtain ⟨bP, hbP⟩ : ∃ x, x = w19.heap.size := ⟨_, rfl⟩; obtain ⟨wP, hwP⟩ : ∃ x, x = w19.drew.alloc (.cells #[.int .i64 0, .int .i64 0, .int .i64 0, .int .i64 0, .int .i64 0, .int .i64 0, .int .i64 0, .int .i64 0, .int .i64 0, .slice none 0 0] 26) := ⟨_, rfl⟩; have halP : Ext w19 wP := (show Ext w19 (w19.drew.alloc (.cells #[.int .i64 0, .int .i64 0, .int .i64 0, .int .i64 0, .int .i64 0, .int .i64 0, .int .i64 0, .int .i64 0, .int .i64 0, .slice none 0 0] 26)) from (Ext.refl _).drew.alloc _) |> fun h => hwP ▸ h; have RP0 : RowAt (w19.drew.alloc (.cells #[.int .i64 0, .int .i64 0, .int .i64 0, .int .i64 0, .int .i64 0, .int .i64 0, .int .i64 0, .int .i64 0, .int .i64 0, .slice none 0 0] 26)) (w19.heap.size) 26 #[.int .i64 0, .int .i64 0, .int .i64 0, .int .i64 0, .int .i64 0, .int .i64 0, .int .i64 0, .int .i64 0, .int .i64 0, .slice none 0 0] := RowAt.new w19 26 #[.int .i64 0, .int .i64 0, .int .i64 0, .int .i64 0, .int .i64 0, .int .i64 0, .int .i64 0, .int .i64 0, .int .i64 0, .slice none 0 0]; rw [← hwP, ← hbP] at RP0; rw [← hwP]; (try rw [← hbP]); have RP := Lib.hid RP0; have hPlt := RP0.lt; have hPm : w19.heap.size ≤ bP := Nat.le_of_eq hbP.symm; have hPn : bP ≤ w19.heap.size := Nat.le_of_eq hbP; have xP : Ext w19 wP := Ext.trans (by (repeat' (first | (with_reducible assumption) | (with_reducible exact Ext.refl _) | (with_reducible refine Ext.alloc ?_ _) | (with_reducible refine Ext.drew ?_) | (with_reducible refine Ext.setCell ?_ ?_ _) | (simp; done) | (simp; omega)))) halP; clear hbP hwP RP0; (try have ho0 := ho0.ext halP); (try have ho1 := ho1.ext halP); (try have hoi1 := hoi1.ext halP); (try have ho2 := ho2.ext halP); (try have hoR := hoR.ext halP))
      refine hK.out _ _ ?_ (fun hH4 => ?_)
      · (try dsimp only)
        (exact HSK.out _ (by (repeat' (first | (with_reducible assumption) | (with_reducible exact Ext.refl _) | (with_reducible refine Ext.alloc ?_ _) | (with_reducible refine Ext.drew ?_) | (with_reducible refine Ext.setCell ?_ ?_ _) | (simp; done) | (simp; omega)))))
      clear hK K hH3
      (try simp only [Act.put, List.setIfInBounds_toArray, List.set_cons_zero, List.set_cons_succ])
      refine wpAnyH_ready (rs := [6]) (by kernel_rfl) (by simp) ?_
      refine cons_l (i := 6) rfl (fun K hK => ?_) ?_
      go_simp; (go_at_call 27; with_reducible refine (implEnterL_any ts1 n1 ok _ _ _ _ _ _ _ _ _ _ _ _ ts _ _ _ _ _ _ _ ps xs _ _ _ _ rows _ HN.out hs2 HTS.out ho0.trains HT.out htl2 HP.out hpl2 ho1.at hoi1.at HVOL.out HRN.out hrs2 HRR.out HRT.out ho2.rows HI0.out HI1.out HN1.out HRES.out).mono ?_); rintro e vS ⟨pH, qH, rfl, hoR, hbs⟩; have xvS : Ext w19 vS := Ext.trans (by (repeat' (first | (with_reducible assumption) | (with_reducible exact Ext.refl _) | (with_reducible refine Ext.alloc ?_ _) | (with_reducible refine Ext.drew ?_) | (with_reducible refine Ext.setCell ?_ ?_ _) | (simp; done) | (simp; omega)))) hbs; have zvS := hbs.size; (try have RP := Lib.hid (RP.out.ext hbs))
      refine hK.out _ _ ?_ (fun hH5 => ?_)
      · (try dsimp only)
        (exact HSK.out _ (by (repeat' (first | (with_reducible assumption) | (with_reducible exact Ext.refl _) | (with_reducible refine Ext.alloc ?_ _) | (with_reducible refine Ext.drew ?_) | (with_reducible refine Ext.setCell ?_ ?_ _) | (simp; done) | (simp; omega)))))
      clear hK K hH4
      (try simp only [Act.put, List.setIfInBounds_toArray, List.set_cons_zero, List.set_cons_succ])
      refine take_l 7 (v := ?_) rfl (by kernel_rfl) (by kernel_rfl) (by kernel_rfl) (fun _ _ _ h => h) (by rfl) ?_ (by assumption) ?_
      rotate_left
      · (intro w hSw; (try dsimp only at hSw); go_simp; (try with_reducible rfl))
      (try simp only [Act.put, List.setIfInBounds_toArray, List.set_cons_zero, List.set_cons_succ])
      refine take_l 8 (v := ?_) rfl (by kernel_rfl) (by kernel_rfl) (by kernel_rfl) (fun _ _ _ h => h) (by rfl) ?_ (by assumption) ?_
      rotate_left
      · (intro w hSw; (try dsimp only at hSw); go_simp; (try with_reducible rfl))
      (try simp only [Act.put, List.setIfInBounds_toArray, List.set_cons_zero, List.set_cons_succ])
      refine take_l 9 (v := ?_) rfl (by kernel_rfl) (by kernel_rfl) (by kernel_rfl) (fun _ _ _ h => h) (by rfl) ?_ (by assumption) ?_
      rotate_left
      · (intro w hSw; (try dsimp only at hSw); go_simp; (try with_reducible rfl))
      (try simp only [Act.put, List.setIfInBounds_toArray, List.set_cons_zero, List.set_cons_succ])
      refine wpAnyH_ready (rs := [11]) (by kernel_rfl) (by simp) ?_
      refine cons_l (i := 11) rfl (fun K hK => ?_) ?_
      have hs0 := RP.out.cell (j := 0) (v := (.int .i64 0)) rfl; have hf0 := RP.out.frozen 0; have hs1 := RP.out.cell (j := 1) (v := (.int .i64 0)) rfl; have hf1 := RP.out.frozen 1; have hs2 := RP.out.cell (j := 2) (v := (.int .i64 0)) rfl; have hf2 := RP.out.frozen 2; have hs3 := RP.out.cell (j := 3) (v := (.int .i64 0)) rfl; have hf3 := RP.out.frozen 3; have hs4 := RP.out.cell (j := 4) (v := (.int .i64 0)) rfl; have hf4 := RP.out.frozen 4; have hs5 := RP.out.cell (j := 5) (v := (.int .i64 0)) rfl; have hf5 := RP.out.frozen 5; have hs6 := RP.out.cell (j := 6) (v := (.int .i64 0)) rfl; have hf6 := RP.out.frozen 6; have hs7 := RP.out.cell (j := 7) (v := (.int .i64 0)) rfl; have hf7 := RP.out.frozen 7; have hs8 := RP.out.cell (j := 8) (v := (.int .i64 0)) rfl; have hf8 := RP.out.frozen 8; have hs9 := RP.out.cell (j := 9) (v := (.slice none 0 0)) rfl; have hf9 := RP.out.frozen 9; go_simp
      refine hK.out _ _ ?_ (fun hH6 => ?_)
      · (try dsimp only)
        (exact HSK.out _ (by (repeat' (first | (with_reducible assumption) | (with_reducible exact Ext.refl _) | (with_reducible refine Ext.alloc ?_ _) | (with_reducible refine Ext.drew ?_) | (with_reducible refine Ext.setCell ?_ ?_ _) | (simp; done) | (simp; omega)))))
      clear hK K hH5
      (try simp only [Act.put, List.setIfInBounds_toArray, List.set_cons_zero, List.set_cons_succ])
      refine take_l 12 (v := ?_) rfl (by kernel_rfl) (by kernel_rfl) (by kernel_rfl) (fun _ _ _ h => h) (by rfl) ?_ (by assumption) ?_
      rotate_left
      · (intro w hSw; (try dsimp only at hSw); go_simp; (try with_reducible rfl))
      (try simp only [Act.put, List.setIfInBounds_toArray, List.set_cons_zero, List.set_cons_succ])
      refine wpAnyH_done (by kernel_rfl) ?_ _
      rotate_left
      exact AllReadyH.nil
      exact AllReadyH.nil
      exact AllReadyH.nil
      refine cons_l (i := 10) rfl (fun K hK => ?_) ?_
      go_simp; first | (obtain ⟨bP, hbP⟩ : ∃ x, x = vS.heap.size := ⟨_, rfl⟩; obtain ⟨wP, hwP⟩ : ∃ x, x = vS.alloc (.cells #[.int .i64 0, .int .i64 0, .int .i64 0, .int .i64 0, .int .i64 0, .int .i64 0, .int .i64 0, .int .i64 0, .int .i64 0, .slice none 0 0] 26) := ⟨_, rfl⟩; have halP : Ext vS wP := (show Ext vS (vS.alloc (.cells #[.int .i64 0, .int .i64 0, .int .i64 0, .int .i64 0, .int .i64 0, .int .i64 0, .int .i64 0, .int .i64 0, .int .i64 0, .slice none 0 0] 26)) from (Ext.refl _).alloc _) |> fun h => hwP ▸ h; have RP0 : RowAt (vS.alloc (.cells #[.int .i64 0, .int .i64 0, .int .i64 0, .int .i64 0, .int .i64 0, .int .i64 0, .int .i64 0, .int .i64 0, .int .i64 0, .slice none 0 0] 26)) (vS.heap.size) 26 #[.int .i64 0, .int .i64 0, .int .i64 0, .int .i64 0, .int .i64 0, .int .i64 0, .int .i64 0, .int .i64 0, .int .i64 0, .slice none 0 0] := RowAt.new vS 26 #[.int .i64 0, .int .i64 0, .int .i64 0, .int .i64 0, .int .i64 0, .int .i64 0, .int .i64 0, .int .i64 0, .int .i64 0, .slice none 0 0]; rw [← hwP, ← hbP] at RP0; rw [← hwP]; (try rw [← hbP]); have RP := Lib.hid RP0; have hPlt := RP0.lt; have hPm : vS.heap.size ≤ bP := Nat.le_of_eq hbP.symm; have hPn : bP ≤ vS.heap.size := Nat.le_of_eq hbP; have xP : Ext w19 wP := Ext.trans (by (repeat' (first | (with_reducible assumption) | (with_reducible exact Ext.refl _) | (with_reducible refine Ext.alloc ?_ _) | (with_reducible refine Ext.drew ?_) | (with_reducible refine Ext.setCell ?_ ?_ _) | (simp; done) | (simp; omega)))) halP; clear hbP hwP RP0; (try have ho0 := ho0.ext halP); (try have ho1 := ho1.ext halP); (try have hoi1 := hoi1.ext halP); (try have ho2 := ho2.ext halP); (try have hoR := hoR.ext halP)) | (obtain ⟨bP, hbP⟩ : ∃ x, x = v2.heap.size := ⟨_, rfl⟩; obtain ⟨wP, hwP⟩ : ∃ x, x = v2.alloc (.cells #[.int .i64 0, .int .i64 0, .int .i64 0, .int .i64 0, .int .i64 0, .int .i64 0, .int .i64 0, .int .i64 0, .int .i64 0, .slice none 0 0] 26) := ⟨_, rfl⟩; have halP : Ext v2 wP := (show Ext v2 (v2.alloc (.cells #[.int .i64 0, .int .i64 0, .int .i64 0, .int .i64 0, .int .i64 0, .int .i64 0, .int .i64 0, .int .i64 0, .int .i64 0, .slice none 0 0] 26)) from (Ext.refl _).alloc _) |> fun h => hwP ▸ h; have RP0 : RowAt (v2.alloc (.cells #[.int .i64 0, .int .i64 0, .int .i64 0, .int .i64 0, .int .i64 0, .int .i64 0, .int .i64 0, .int .i64 0, .int .i64 0, .slice none 0 0] 26)) (v2.heap.size) 26 #[.int .i64 0, .int .i64 0, .int .i64 0, .int .i64 0, .int .i64 0, .int .i64 0, .int .i64 0, .int .i64 0, .int .i64 0, .slice none 0 0] := RowAt.new v2 26 #[.int .i64 0, .int .i64 0, .int .i64 0, .int .i64 0, .int .i64 0, .int .i64 0, .int .i64 0, .int .i64 0, .int .i64 0, .slice none 0 0]; rw [← hwP, ← hbP] at RP0; rw [← hwP]; (try rw [← hbP]); have RP := Lib.hid RP0; have hPlt := RP0.lt; have hPm : v2.heap.size ≤ bP := Nat.le_of_eq hbP.symm; have hPn : bP ≤ v2.heap.size := Nat.le_of_eq hbP; have xP : Ext w19 wP := Ext.trans (by (repeat' (first | (with_reducible assumption) | (with_reducible exact Ext.refl _) | (with_reducible refine Ext.alloc ?_ _) | (with_reducible refine Ext.drew ?_) | (with_reducible refine Ext.setCell ?_ ?_ _) | (simp; done) | (simp; omega)))) halP; clear hbP hwP RP0; (try have ho0 := ho0.ext halP); (try have ho1 := ho1.ext halP); (try have hoi1 := hoi1.ext halP); (try have ho2 := ho2.ext halP); (try have hoR := hoR.ext halP)) | (obtain ⟨bP, hbP⟩ : ∃ x, x = v1.heap.size := ⟨_, rfl⟩; obtain ⟨wP, hwP⟩ : ∃ x, x = v1.alloc (.cells #[.int .i64 0, .int .i64 0, .int .i64 0, .int .i64 0, .int .i64 0, .int .i64 0, .int .i64 0, .int .i64 0, .int .i64 0, .slice none 0 0] 26) := ⟨_, rfl⟩; have halP : Ext v1 wP := (show Ext v1 (v1.alloc (.cells #[.int .i64 0, .int .i64 0, .int .i64 0, .int .i64 0, .int .i64 0, .int .i64 0, .int .i64 0, .int .i64 0, .int .i64 0, .slice none 0 0] 26)) from (Ext.refl _).alloc _) |> fun h => hwP ▸ h; have RP0 : RowAt (v1.alloc (.cells #[.int .i64 0, .int .i64 0, .int .i64 0, .int .i64 0, .int .i64 0, .int .i64 0, .int .i64 0, .int .i64 0, .int .i64 0, .slice none 0 0] 26)) (v1.heap.size) 26 #[.int .i64 0, .int .i64 0, .int .i64 0, .int .i64 0, .int .i64 0, .int .i64 0, .int .i64 0, .int .i64 0, .int .i64 0, .slice none 0 0] := RowAt.new v1 26 #[.int .i64 0, .int .i64 0, .int .i64 0, .int .i64 0, .int .i64 0, .int .i64 0, .int .i64 0, .int .i64 0, .int .i64 0, .slice none 0 0]; rw [← hwP, ← hbP] at RP0; rw [← hwP]; (try rw [← hbP]); have RP := Lib.hid RP0; have hPlt := RP0.lt; have hPm : v1.heap.size ≤ bP := Nat.le_of_eq hbP.symm; have hPn : bP ≤ v1.heap.size := Nat.le_of_eq hbP; have xP : Ext w19 wP := Ext.trans (by (repeat' (first | (with_reducible assumption) | (with_reducible exact Ext.refl _) | (with_reducible refine Ext.alloc ?_ _) | (with_reducible refine Ext.drew ?_) | (with_reducible refine Ext.setCell ?_ ?_ _) | (simp; done) | (simp; omega)))) halP; clear hbP hwP RP0; (try have ho0 := ho0.ext halP); (try have ho1 := ho1.ext halP); (try have hoi1 := hoi1.ext halP); (try have ho2 := ho2.ext halP); (try have hoR := hoR.ext halP)) | (obtain ⟨bP, hbP⟩ : ∃ x, x = v0.heap.size := ⟨_, rfl⟩; obtain ⟨wP, hwP⟩ : ∃ x, x = v0.alloc (.cells #[.int .i64 0, .int .i64 0, .int .i64 0, .int .i64 0, .int .i64 0, .int .i64 0, .int .i64 0, .int .i64 0, .int .i64 0, .slice none 0 0] 26) := ⟨_, rfl⟩; have halP : Ext v0 wP := (show Ext v0 (v0.alloc (.cells #[.int .i64 0, .int .i64 0, .int .i64 0, .int .i64 0, .int .i64 0, .int .i64 0, .int .i64 0, .int .i64 0, .int .i64 0, .slice none 0 0] 26)) from (Ext.refl _).alloc _) |> fun h => hwP ▸ h; have RP0 : RowAt (v0.alloc (.cells #[.int .i64 0, .int .i64 0, .int .i64 0, .int .i64 0, .int .i64 0, .int .i64 0, .int .i64 0, .int .i64 0, .int .i64 0, .slice none 0 0] 26)) (v0.heap.size) 26 #[.int .i64 0, .int .i64 0, .int .i64 0, .int .i64 0, .int .i64 0, .int .i64 0, .int .i64 0, .int .i64 0, .int .i64 0, .slice none 0 0] := RowAt.new v0 26 #[.int .i64 0, .int .i64 0, .int .i64 0, .int .i64 0, .int .i64 0, .int .i64 0, .int .i64 0, .int .i64 0, .int .i64 0, .slice none 0 0]; rw [← hwP, ← hbP] at RP0; rw [← hwP]; (try rw [← hbP]); have RP := Lib.hid RP0; have hPlt := RP0.lt; have hPm : v0.heap.size ≤ bP := Nat.le_of_eq hbP.symm; have hPn : bP ≤ v0.heap.size := Nat.le_of_eq hbP; have xP : Ext w19 wP := Ext.trans (by (repeat' (first | (with_reducible assumption) | (with_reducible exact Ext.refl _) | (with_reducible refine Ext.alloc ?_ _) | (with_reducible refine Ext.drew ?_) | (with_reducible refine Ext.setCell ?_ ?_ _) | (simp; done) | (simp; omega)))) halP; clear hbP hwP RP0; (try have ho0 := ho0.ext halP); (try have ho1 := ho1.ext halP); (try have hoi1 := hoi1.ext halP); (try have ho2 := ho2.ext halP); (try have hoR := hoR.ext halP)) | (obtain ⟨bP, hbP⟩ : ∃ x, x = w19.heap.size := ⟨_, rfl⟩; obtain ⟨wP, hwP⟩ : ∃ x, x = (w19.alloc (.cells #[.int .i64 0, .int .i64 0, .int .i64 0, .int .i64 0, .int .i64 0, .int .i64 0, .int .i64 0, .int .i64 0, .int .i64 0, .slice none 0 0] 26)).drew := ⟨_, rfl⟩; have halP : Ext w19 wP := (show Ext w19 ((w19.alloc (.cells #[.int .i64 0, .int .i64 0, .int .i64 0, .int .i64 0, .int .i64 0, .int .i64 0, .int .i64 0, .int .i64 0, .int .i64 0, .slice none 0 0] 26)).drew) from ((Ext.refl _).alloc _).drew) |> fun h => hwP ▸ h; have RP0 : RowAt ((w19.alloc (.cells #[.int .i64 0, .int .i64 0, .int .i64 0, .int .i64 0, .int .i64 0, .int .i64 0, .int .i64 0, .int .i64 0, .int .i64 0, .slice none 0 0] 26)).drew) (w19.heap.size) 26 #[.int .i64 0, .int .i64 0, .int .i64 0, .int .i64 0, .int .i64 0, .int .i64 0, .int .i64 0, .int .i64 0, .int .i64 0, .slice none 0 0] := (RowAt.new w19 26 #[.int .i64 0, .int .i64 0, .int .i64 0, .int .i64 0, .int .i64 0, .int .i64 0, .int .i64 0, .int .i64 0, .int .i64 0, .slice none 0 0]).ext (Ext.refl _).drew; rw [← hwP, ← hbP] at RP0; rw [← hwP]; (try rw [← hbP]); have RP := Lib.hid RP0; have hPlt := RP0.lt; have hPm : w19.heap.size ≤ bP := Nat.le_of_eq hbP.symm; have hPn : bP ≤ w19.heap.size := Nat.le_of_eq hbP; have xP : Ext w19 wP := Ext.trans (by (repeat' (first | (with_reducible assumption) | (with_reducible exact Ext.refl _) | (with_reducible refine Ext.alloc ?_ _) | (with_reducible refine Ext.drew ?_) | (with_reducible refine Ext.setCell ?_ ?_ _) | (simp; done) | (simp; omega)))) halP; clear hbP hwP RP0; (try have ho0 := ho0.ext halP); (try have ho1 := ho1.ext halP); (try have hoi1 := hoi1.ext halP); (try have ho2 := ho2.ext halP); (try have hoR := hoR.ext halP)) | (obtain ⟨bP, hbP⟩ : ∃ x, x = w19.heap.size := ⟨_, rfl⟩; obtain ⟨wP, hwP⟩ : ∃ x, x = w19.drew.alloc (.cells #[.int .i64 0, .int .i64 0, .int .i64 0, .int .i64 0, .int .i64 0, .int .i64 0, .int .i64 0, .int .i64 0, .int .i64 0, .slice none 0 0] 26) := ⟨_, rfl⟩; have halP : Ext w19 wP := (show Ext w19 (w19.drew.alloc (.cells #[.int .i64 0, .int .i64 0, .int .i64 0, .int .i64 0, .int .i64 0, .int .i64 0, .int .i64 0, .int .i64 0, .int .i64 0, .slice none 0 0] 26)) from (Ext.refl _).drew.alloc _) |> fun h => hwP ▸ h; have RP0 : RowAt (w19.drew.alloc (.cells #[.int .i64 0, .int .i64 0, .int .i64 0, .int .i64 0, .int .i64 0, .int .i64 0, .int .i64 0, .int .i64 0, .int .i64 0, .slice none 0 0] 26)) (w19.heap.size) 26 #[.int .i64 0, .int .i64 0, .int .i64 0, .int .i64 0, .int .i64 0, .int .i64 0, .int .i64 0, .int .i64 0, .int .i64 0, .slice none 0 0] := RowAt.new w19 26 #[.int .i64 0, .int .i64 0, .int .i64 0, .int .i64 0, .int .i64 0, .int .i64 0, .int .i64 0, .int .i64 0, .int .i64 0, .slice none 0 0]; rw [← hwP, ← hbP] at RP0; rw [← hwP]; (try rw [← hbP]); have RP := Lib.hid RP0; have hPlt := RP0.lt; have hPm : w19.heap.size ≤ bP := Nat.le_of_eq hbP.symm; have hPn : bP ≤ w19.heap.size := Nat.le_of_eq hbP; have xP : Ext w19 wP := Ext.trans (by (repeat' (first | (with_reducible assumption) | (with_reducible exact Ext.refl _) | (with_reducible refine Ext.alloc ?_ _) | (with_reducible refine Ext.drew ?_) | (with_reducible refine Ext.setCell ?_ ?_ _) | (simp; done) | (simp; omega)))) halP; clear hbP hwP RP0; (try have ho0 := ho0.ext halP); (try have ho1 := ho1.ext halP); (try have hoi1 := hoi1.ext halP); (try have ho2 := ho2.ext halP); (try have hoR := hoR.ext halP))
      refine hK.out _ _ ?_ (fun hH3 => ?_)
      · (try dsimp only)
        (exact HSK.out _ (by (repeat' (first | (with_reducible assumption) | (with_reducible exact Ext.refl _) | (with_reducible refine Ext.alloc ?_ _) | (with_reducible refine Ext.drew ?_) | (with_reducible refine Ext.setCell ?_ ?_ _) | (simp; done) | (simp; omega)))))
      clear hK K hH2
      (try simp only [Act.put, List.setIfInBounds_toArray, List.set_cons_zero, List.set_cons_succ])
      refine wpAnyH_ready (rs := [5]) (by kernel_rfl) (by simp) ?_
      refine cons_l (i := 5) rfl (fun K hK => ?_) ?_
      go_simp; (go_at_call 42; with_reducible refine (toTrain_any _ _ _ _ rows _ HRN.out hrs2 HRR.out (HFR.out.ext (HW19.out.trans (by (repeat' (first | (with_reducible assumption) | (with_reducible exact Ext.refl _) | (with_reducible refine Ext.alloc ?_ _) | (with_reducible refine Ext.drew ?_) | (with_reducible refine Ext.setCell ?_ ?_ _) | (simp; done) | (simp; omega))))))).mono ?_); rintro e v2 ⟨rH2, rfl, ho2, hb2⟩; have xv2 : Ext w19 v2 := Ext.trans (by (repeat' (first | (with_reducible assumption) | (with_reducible exact Ext.refl _) | (with_reducible refine Ext.alloc ?_ _) | (with_reducible refine Ext.drew ?_) | (with_reducible refine Ext.setCell ?_ ?_ _) | (simp; done) | (simp; omega)))) hb2; have zv2 := hb2.size; (try simp only [World.size_drew] at zv2); (try have RP := Lib.hid (RP.out.ext hb2)); have ho0 := ho0.ext hb2; have ho1 := ho1.ext hb2; have hoi1 := hoi1.ext hb2
      refine hK.out _ _ ?_ (fun hH4 => ?_)
      · (try dsimp only)
        (exact HSK.out _ (by (repeat' (first | (with_reducible assumption) | (with_reducible exact Ext.refl _) | (with_reducible refine Ext.alloc ?_ _) | (with_reducible refine Ext.drew ?_) | (with_reducible refine Ext.setCell ?_ ?_ _) | (simp; done) | (simp; omega)))))
      clear hK K hH3
      (try simp only [Act.put, List.setIfInBounds_toArray, List.set_cons_zero, List.set_cons_succ])
      refine wpAnyH_ready (rs := [6]) (by kernel_rfl) (by simp) ?_
      refine cons_l (i := 6) rfl (fun K hK => ?_) ?_
      go_simp; (go_at_call 27; with_reducible refine (implEnterL_any ts1 n1 ok _ _ _ _ _ _ _ _ _ _ _ _ ts _ _ _ _ _ _ _ ps xs _ _ _ _ rows _ HN.out hs2 HTS.out ho0.trains HT.out htl2 HP.out hpl2 ho1.at hoi1.at HVOL.out HRN.out hrs2 HRR.out HRT.out ho2.rows HI0.out HI1.out HN1.out HRES.out).mono ?_); rintro e vS ⟨pH, qH, rfl, hoR, hbs⟩; have xvS : Ext w19 vS := Ext.trans (by (repeat' (first | (with_reducible assumption) | (with_reducible exact Ext.refl _) | (with_reducible refine Ext.alloc ?_ _) | (with_reducible refine Ext.drew ?_) | (with_reducible refine Ext.setCell ?_ ?_ _) | (simp; done) | (simp; omega)))) hbs; have zvS := hbs.size; (try have RP := Lib.hid (RP.out.ext hbs))
      refine hK.out _ _ ?_ (fun hH5 => ?_)
      · (try dsimp only)
        (exact HSK.out _ (by (repeat' (first | (with_reducible assumption) | (with_reducible exact Ext.refl _) | (with_reducible refine Ext.alloc ?_ _) | (with_reducible refine Ext.drew ?_) | (with_reducible refine Ext.setCell ?_ ?_ _) | (simp; done) | (simp; omega)))))
      clear hK K hH4
      (try simp only [Act.put, List.setIfInBounds_toArray, List.set_cons_zero, List.set_cons_succ])
      refine take_l 7 (v := ?_) rfl (by kernel_rfl) (by kernel_rfl) (by kernel_rfl) (fun _ _ _ h => h) (by rfl) ?_ (by assumption) ?_
      rotate_left
      · (intro w hSw; (try dsimp only at hSw); go_simp; (try with_reducible rfl))
      (try simp only [Act.put, List.setIfInBounds_toArray, List.set_cons_zero, List.set_cons_succ])
      refine take_l 8 (v := ?_) rfl (by kernel_rfl) (by kernel_rfl) (by kernel_rfl) (fun _ _ _ h => h) (by rfl) ?_ (by assumption) ?_
      rotate_left
      · (intro w hSw; (try dsimp only at hSw); go_simp; (try with_reducible rfl))
      (try simp only [Act.put, List.setIfInBounds_toArray, List.set_cons_zero, List.set_cons_succ])
      refine take_l 9 (v := ?_) rfl (by kernel_rfl) (by kernel_rfl) (by kernel_rfl) (fun _ _ _ h => h) (by rfl) ?_ (by assumption) ?_
      rotate_left
      · (intro w hSw; (try dsimp only at hSw); go_simp; (try with_reducible rfl))
      (try simp only [Act.put, List.setIfInBounds_toArray, List.set_cons_zero, List.set_cons_succ])
      refine wpAnyH_ready (rs := [11]) (by kernel_rfl) (by simp) ?_
      refine cons_l (i := 11) rfl (fun K hK => ?_) ?_
      have hs0 := RP.out.cell (j := 0) (v := (.int .i64 0)) rfl; have hf0 := RP.out.frozen 0; have hs1 := RP.out.cell (j := 1) (v := (.int .i64 0)) rfl; have hf1 := RP.out.frozen 1; have hs2 := RP.out.cell (j := 2) (v := (.int .i64 0)) rfl; have hf2 := RP.out.frozen 2; have hs3 := RP.out.cell (j := 3) (v := (.int .i64 0)) rfl; have hf3 := RP.out.frozen 3; have hs4 := RP.out.cell (j := 4) (v := (.int .i64 0)) rfl; have hf4 := RP.out.frozen 4; have hs5 := RP.out.cell (j := 5) (v := (.int .i64 0)) rfl; have hf5 := RP.out.frozen 5; have hs6 := RP.out.cell (j := 6) (v := (.int .i64 0)) rfl; have hf6 := RP.out.frozen 6; have hs7 := RP.out.cell (j := 7) (v := (.int .i64 0)) rfl; have hf7 := RP.out.frozen 7; have hs8 := RP.out.cell (j := 8) (v := (.int .i64 0)) rfl; have hf8 := RP.out.frozen 8; have hs9 := RP.out.cell (j := 9) (v := (.slice none 0 0)) rfl; have hf9 := RP.out.frozen 9; go_simp
      refine hK.out _ _ ?_ (fun hH6 => ?_)
      · (try dsimp only)
        (exact HSK.out _ (by (repeat' (first | (with_reducible assumption) | (with_reducible exact Ext.refl _) | (with_reducible refine Ext.alloc ?_ _) | (with_reducible refine Ext.drew ?_) | (with_reducible refine Ext.setCell ?_ ?_ _) | (simp; done) | (simp; omega)))))
      clear hK K hH5
      (try simp only [Act.put, List.setIfInBounds_toArray, List.set_cons_zero, List.set_cons_succ])
      refine take_l 12 (v := ?_) rfl (by kernel_rfl) (by kernel_rfl) (by kernel_rfl) (fun _ _ _ h => h) (by rfl) ?_ (by assumption) ?_
      rotate_left
      · (intro w hSw; (try dsimp only at hSw); go_simp; (try with_reducible rfl))
      (try simp only [Act.put, List.setIfInBounds_toArray, List.set_cons_zero, List.set_cons_succ])
      refine wpAnyH_done (by kernel_rfl) ?_ _
      rotate_left
      exact AllReadyH.nil
      exact AllReadyH.nil
      exact AllReadyH.nil
      exact AllReadyH.nil
      refine cons_l (i := 10) rfl (fun K hK => ?_) ?_
      go_simp; first | (obtain ⟨bP, hbP⟩ : ∃ x, x = vS.heap.size := ⟨_, rfl⟩; obtain ⟨wP, hwP⟩ : ∃ x, x = vS.alloc (.cells #[.int .i64 0, .int .i64 0, .int .i64 0, .int .i64 0, .int .i64 0, .int .i64 0, .int .i64 0, .int .i64 0, .int .i64 0, .slice none 0 0] 26) := ⟨_, rfl⟩; have halP : Ext vS wP := (show Ext vS (vS.alloc (.cells #[.int .i64 0, .int .i64 0, .int .i64 0, .int .i64 0, .int .i64 0, .int .i64 0, .int .i64 0, .int .i64 0, .int .i64 0, .slice none 0 0] 26)) from (Ext.refl _).alloc _) |> fun h => hwP ▸ h; have RP0 : RowAt (vS.alloc (.cells #[.int .i64 0, .int .i64 0, .int .i64 0, .int .i64 0, .int .i64 0, .int .i64 0, .int .i64 0, .int .i64 0, .int .i64 0, .slice none 0 0] 26)) (vS.heap.size) 26 #[.int .i64 0, .int .i64 0, .int .i64 0, .int .i64 0, .int .i64 0, .int .i64 0, .int .i64 0, .int .i64 0, .int .i64 0, .slice none 0 0] := RowAt.new vS 26 #[.int .i64 0, .int .i64 0, .int .i64 0, .int .i64 0, .int .i64 0, .int .i64 0, .int .i64 0, .int .i64 0, .int .i64 0, .slice none 0 0]; rw [← hwP, ← hbP] at RP0; rw [← hwP]; (try rw [← hbP]); have RP := Lib.hid RP0; have hPlt := RP0.lt; have hPm : vS.heap.size ≤ bP := Nat.le_of_eq hbP.symm; have hPn : bP ≤ vS.heap.size := Nat.le_of_eq hbP; have xP : Ext w19 wP := Ext.trans (by (repeat' (first | (with_reducible assumption) | (with_reducible exact Ext.refl _) | (with_reducible refine Ext.alloc ?_ _) | (with_reducible refine Ext.drew ?_) | (with_reducible refine Ext.setCell ?_ ?_ _) | (simp; done) | (simp; omega)))) halP; clear hbP hwP RP0; (try have ho0 := ho0.ext halP); (try have ho1 := ho1.ext halP); (try have hoi1 := hoi1.ext halP); (try have ho2 := ho2.ext halP); (try have hoR := hoR.ext halP)) | (obtain ⟨bP, hbP⟩ : ∃ x, x = v2.heap.size := ⟨_, rfl⟩; obtain ⟨wP, hwP⟩ : ∃ x, x = v2.alloc (.cells #[.int .i64 0, .int .i64 0, .int .i64 0, .int .i64 0, .int .i64 0, .int .i64 0, .int .i64 0, .int .i64 0, .int .i64 0, .slice none 0 0] 26) := ⟨_, rfl⟩; have halP : Ext v2 wP := (show Ext v2 (v2.alloc (.cells #[.int .i64 0, .int .i64 0, .int .i64 0, .int .i64 0, .int .i64 0, .int .i64 0, .int .i64 0, .int .i64 0, .int .i64 0, .slice none 0 0] 26)) from (Ext.refl _).alloc _) |> fun h => hwP ▸ h; have RP0 : RowAt (v2.alloc (.cells #[.int .i64 0, .int .i64 0, .int .i64 0, .int .i64 0, .int .i64 0, .int .i64 0, .int .i64 0, .int .i64 0, .int .i64 0, .slice none 0 0] 26)) (v2.heap.size) 26 #[.int .i64 0, .int .i64 0, .int .i64 0, .int .i64 0, .int .i64 0, .int .i64 0, .int .i64 0, .int .i64 0, .int .i64 0, .slice none 0 0] := RowAt.new v2 26 #[.int .i64 0, .int .i64 0, .int .i64 0, .int .i64 0, .int .i64 0, .int .i64 0, .int .i64 0, .int .i64 0, .int .i64 0, .slice none 0 0]; rw [← hwP, ← hbP] at RP0; rw [← hwP]; (try rw [← hbP]); have RP := Lib.hid RP0; have hPlt := RP0.lt; have hPm : v2.heap.size ≤ bP := Nat.le_of_eq hbP.symm; have hPn : bP ≤ v2.heap.size := Nat.le_of_eq hbP; have xP : Ext w19 wP := Ext.trans (by (repeat' (first | (with_reducible assumption) | (with_reducible exact Ext.refl _) | (with_reducible refine Ext.alloc ?_ _) | (with_reducible refine Ext.drew ?_) | (with_reducible refine Ext.setCell ?_ ?_ _) | (simp; done) | (simp; omega)))) halP; clear hbP hwP RP0; (try have ho0 := ho0.ext halP); (try have ho1 := ho1.ext halP); (try have hoi1 := hoi1.ext halP); (try have ho2 := ho2.ext halP); (try have hoR := hoR.ext halP)) | (obtain ⟨bP, hbP⟩ : ∃ x, x = v1.heap.size := ⟨_, rfl⟩; obtain ⟨wP, hwP⟩ : ∃ x, x = v1.alloc (.cells #[.int .i64 0, .int .i64 0, .int .i64 0, .int .i64 0, .int .i64 0, .int .i64 0, .int .i64 0, .int .i64 0, .int .i64 0, .slice none 0 0] 26) := ⟨_, rfl⟩; have halP : Ext v1 wP := (show Ext v1 (v1.alloc (.cells #[.int .i64 0, .int .i64 0, .int .i64 0, .int .i64 0, .int .i64 0, .int .i64 0, .int .i64 0, .int .i64 0, .int .i64 0, .slice none 0 0] 26)) from (Ext.refl _).alloc _) |> fun h => hwP ▸ h; have RP0 : RowAt (v1.alloc (.cells #[.int .i64 0, .int .i64 0, .int .i64 0, .int .i64 0, .int .i64 0, .int .i64 0, .int .i64 0, .int .i64 0, .int .i64 0, .slice none 0 0] 26)) (v1.heap.size) 26 #[.int .i64 0, .int .i64 0, .int .i64 0, .int .i64 0, .int .i64 0, .int .i64 0, .int .i64 0, .int .i64 0, .int .i64 0, .slice none 0 0] := RowAt.new v1 26 #[.int .i64 0, .int .i64 0, .int .i64 0, .int .i64 0, .int .i64 0, .int .i64 0, .int .i64 0, .int .i64 0, .int .i64 0, .slice none 0 0]; rw [← hwP, ← hbP] at RP0; rw [← hwP]; (try rw [← hbP]); have RP := Lib.hid RP0; have hPlt := RP0.lt; have hPm : v1.heap.size ≤ bP := Nat.le_of_eq hbP.symm; have hPn : bP ≤ v1.heap.size := Nat.le_of_eq hbP; have xP : Ext w19 wP := Ext.trans (by (repeat' (first | (with_reducible assumption) | (with_reducible exact Ext.refl _) | (with_reducible refine Ext.alloc ?_ _) | (with_reducible refine Ext.drew ?_) | (with_reducible refine Ext.setCell ?_ ?_ _) | (simp; done) | (simp; omega)))) halP; clear hbP hwP RP0; (try have ho0 := ho0.ext halP); (try have ho1 := ho1.ext halP); (try have hoi1 := hoi1.ext halP); (try have ho2 := ho2.ext halP); (try have hoR := hoR.ext halP)) | (obtain ⟨bP, hbP⟩ : ∃ x, x = v0.heap.size := ⟨_, rfl⟩; obtain ⟨wP, hwP⟩ : ∃ x, x = v0.alloc (.cells #[.int .i64 0, .int .i64 0, .int .i64 0, .int .i64 0, .int .i64 0, .int .i64 0, .int .i64 0, .int .i64 0, .int .i64 0, .slice none 0 0] 26) := ⟨_, rfl⟩; have halP : Ext v0 wP := (show Ext v0 (v0.alloc (.cells #[.int .i64 0, .int .i64 0, .int .i64 0, .int .i64 0, .int .i64 0, .int .i64 0, .int .i64 0, .int .i64 0, .int .i64 0, .slice none 0 0] 26)) from (Ext.refl _).alloc _) |> fun h => hwP ▸ h; have RP0 : RowAt (v0.alloc (.cells #[.int .i64 0, .int .i64 0, .int .i64 0, .int .i64 0, .int .i64 0, .int .i64 0, .int .i64 0, .int .i64 0, .int .i64 0, .slice none 0 0] 26)) (v0.heap.size) 26 #[.int .i64 0, .int .i64 0, .int .i64 0, .int .i64 0, .int .i64 0, .int .i64 0, .int .i64 0, .int .i64 0, .int .i64 0, .slice none 0 0] := RowAt.new v0 26 #[.int .i64 0, .int .i64 0, .int .i64 0, .int .i64 0, .int .i64 0, .int .i64 0, .int .i64 0, .int .i64 0, .int .i64 0, .slice none 0 0]; rw [← hwP, ← hbP] at RP0; rw [← hwP]; (try rw [← hbP]); have RP := Lib.hid RP0; have hPlt := RP0.lt; have hPm : v0.heap.size ≤ bP := Nat.le_of_eq hbP.symm; have hPn : bP ≤ v0.heap.size := Nat.le_of_eq hbP; have xP : Ext w19 wP := Ext.trans (by (repeat' (first | (with_reducible assumption) | (with_reducible exact Ext.refl _) | (with_reducible refine Ext.alloc ?_ _) | (with_reducible refine Ext.drew ?_) | (with_reducible refine Ext.setCell ?_ ?_ _) | (simp; done) | (simp; omega)))) halP; clear hbP hwP RP0; (try have ho0 := ho0.ext halP); (try have ho1 := ho1.ext halP); (try have hoi1 := hoi1.ext halP); (try have ho2 := ho2.ext halP); (try have hoR := hoR.ext halP)) | (obtain ⟨bP, hbP⟩ : ∃ x, x = w19.heap.size := ⟨_, rfl⟩; obtain ⟨wP, hwP⟩ : ∃ x, x = (w19.alloc (.cells #[.int .i64 0, .int .i64 0, .int .i64 0, .int .i64 0, .int .i64 0, .int .i64 0, .int .i64 0, .int .i64 0, .int .i64 0, .slice none 0 0] 26)).drew := ⟨_, rfl⟩; have halP : Ext w19 wP := (show Ext w19 ((w19.alloc (.cells #[.int .i64 0, .int .i64 0, .int .i64 0, .int .i64 0, .int .i64 0, .int .i64 0, .int .i64 0, .int .i64 0, .int .i64 0, .slice none 0 0] 26)).drew) from ((Ext.refl _).alloc _).drew) |> fun h => hwP ▸ h; have RP0 : RowAt ((w19.alloc (.cells #[.int .i64 0, .int .i64 0, .int .i64 0, .int .i64 0, .int .i64 0, .int .i64 0, .int .i64 0, .int .i64 0, .int .i64 0, .slice none 0 0] 26)).drew) (w19.heap.size) 26 #[.int .i64 0, .int .i64 0, .int .i64 0, .int .i64 0, .int .i64 0, .int .i64 0, .int .i64 0, .int .i64 0, .int .i64 0, .slice none 0 0] := (RowAt.new w19 26 #[.int .i64 0, .int .i64 0, .int .i64 0, .int .i64 0, .int .i64 0, .int .i64 0, .int .i64 0, .int .i64 0, .int .i64 0, .slice none 0 0]).ext (Ext.refl _).drew; rw [← hwP, ← hbP] at RP0; rw [← hwP]; (try rw [← hbP]); have RP := Lib.hid RP0; have hPlt := RP0.lt; have hPm : w19.heap.size ≤ bP := Nat.le_of_eq hbP.symm; have hPn : bP ≤ w19.heap.size := Nat.le_of_eq hbP; have xP : Ext w19 wP := Ext.trans (by (repeat' (first | (with_reducible assumption) | (with_reducible exact Ext.refl _) | (with_reducible refine Ext.alloc ?_ _) | (with_reducible refine Ext.drew ?_) | (with_reducible refine Ext.setCell ?_ ?_ _) | (simp; done) | (simp; omega)))) halP; clear hbP hwP RP0; (try have ho0 := ho0.ext halP); (try have ho1 := ho1.ext halP); (try have hoi1 := hoi1.ext halP); (try have ho2 := ho2.ext halP); (try have hoR := hoR.ext halP)) | (obtain ⟨bP, hbP⟩ : ∃ x, x = w19.heap.size := ⟨_, rfl⟩; obtain ⟨wP, hwP⟩ : ∃ x, x = w19.drew.alloc (.cells #[.int .i64 0, .int .i64 0, .int .i64 0, .int .i64 0, .int .i64 0, .int .i64 0, .int .i64 0, .int .i64 0, .int .i64 0, .slice none 0 0] 26) := ⟨_, rfl⟩; have halP : Ext w19 wP := (show Ext w19 (w19.drew.alloc (.cells #[.int .i64 0, .int .i64 0, .int .i64 0, .int .i64 0, .int .i64 0, .int .i64 0, .int .i64 0, .int .i64 0, .int .i64 0, .slice none 0 0] 26)) from (Ext.refl _).drew.alloc _) |> fun h => hwP ▸ h; have RP0 : RowAt (w19.drew.alloc (.cells #[.int .i64 0, .int .i64 0, .int .i64 0, .int .i64 0, .int .i64 0, .int .i64 0, .int .i64 0, .int .i64 0, .int .i64 0, .slice none 0 0] 26)) (w19.heap.size) 26 #[.int .i64 0, .int .i64 0, .int .i64 0, .int .i64 0, .int .i64 0, .int .i64 0, .int .i64 0, .int .i64 0, .int .i64 0, .slice none 0 0] := RowAt.new w19 26 #[.int .i64 0, .int .i64 0, .int .i64 0, .int .i64 0, .int .i64 0, .int .i64 0, .int .i64 0, .int .i64 0, .int .i64 0, .slice none 0 0]; rw [← hwP, ← hbP] at RP0; rw [← hwP]; (try rw [← hbP]); have RP := Lib.hid RP0; have hPlt := RP0.lt; have hPm : w19.heap.size ≤ bP := Nat.le_of_eq hbP.symm; have hPn : bP ≤ w19.heap.size := Nat.le_of_eq hbP; have xP : Ext w19 wP := Ext.trans (by (repeat' (first | (with_reducible assumption) | (with_reducible exact Ext.refl _) | (with_reducible refine Ext.alloc ?_ _) | (with_reducible refine Ext.drew ?_) | (with_reducible refine Ext.setCell ?_ ?_ _) | (simp; done) | (simp; omega)))) halP; clear hbP hwP RP0; (try have ho0 := ho0.ext halP); (try have ho1 := ho1.ext halP); (try have hoi1 := hoi1.ext halP); (try have ho2 := ho2.ext halP); (try have hoR := hoR.ext halP))
      refine hK.out _ _ ?_ (fun hH2 => ?_)
      · (try dsimp only)
        (exact HSK.out _ (by (repeat' (first | (with_reducible assumption) | (with_reducible exact Ext.refl _) | (with_reducible refine Ext.alloc ?_ _) | (with_reducible refine Ext.drew ?_) | (with_reducible refine Ext.setCell ?_ ?_ _) | (simp; done) | (simp; omega)))))
      clear hK K hH1
      (try simp only [Act.put, List.setIfInBounds_toArray, List.set_cons_zero, List.set_cons_succ])
      refine wpAnyH_ready (rs := [3]) (by kernel_rfl) (by simp) ?_
      refine cons_l (i := 3) rfl (fun K hK => ?_) ?_
      go_simp; (go_at_call 41; with_reducible refine (toReach_any _ _ _ _ _ _ _ ps xs _ HT.out htl2 HP.out hpl2 (HFT.out.ext (HW19.out.trans (by (repeat' (first | (with_reducible assumption) | (with_reducible exact Ext.refl _) | (with_reducible refine Ext.alloc ?_ _) | (with_reducible refine Ext.drew ?_) | (with_reducible refine Ext.setCell ?_ ?_ _) | (simp; done) | (simp; omega)))))) (HFP.out.ext (HW19.out.trans (by (repeat' (first | (with_reducible assumption) | (with_reducible exact Ext.refl _) | (with_reducible refine Ext.alloc ?_ _) | (with_reducible refine Ext.drew ?_) | (with_reducible refine Ext.setCell ?_ ?_ _) | (simp; done) | (simp; omega))))))).mono ?_); rintro e v1 ⟨fH1, gH1, midH1, rfl, hmH1, ho1, hoi1, hb1⟩; have xv1 : Ext w19 v1 := Ext.trans (by (repeat' (first | (with_reducible assumption) | (with_reducible exact Ext.refl _) | (with_reducible refine Ext.alloc ?_ _) | (with_reducible refine Ext.drew ?_) | (with_reducible refine Ext.setCell ?_ ?_ _) | (simp; done) | (simp; omega)))) hb1; have zv1 := hb1.size; (try simp only [World.size_drew] at zv1); (try have RP := Lib.hid (RP.out.ext hb1)); have ho0 := ho0.ext hb1
      refine hK.out _ _ ?_ (fun hH3 => ?_)
      · (try dsimp only)
        (exact HSK.out _ (by (repeat' (first | (with_reducible assumption) | (with_reducible exact Ext.refl _) | (with_reducible refine Ext.alloc ?_ _) | (with_reducible refine Ext.drew ?_) | (with_reducible refine Ext.setCell ?_ ?_ _) | (simp; done) | (simp; omega)))))
      clear hK K hH2
      (try simp only [Act.put, List.setIfInBounds_toArray, List.set_cons_zero, List.set_cons_succ])
      refine wpAnyH_ready (rs := [5]) (by kernel_rfl) (by simp) ?_
      refine cons_l (i := 5) rfl (fun K hK => ?_) ?_
      go_simp; (go_at_call 42; with_reducible refine (toTrain_any _ _ _ _ rows _ HRN.out hrs2 HRR.out (HFR.out.ext (HW19.out.trans (by (repeat' (first | (with_reducible assumption) | (with_reducible exact Ext.refl _) | (with_reducible refine Ext.alloc ?_ _) | (with_reducible refine Ext.drew ?_) | (with_reducible refine Ext.setCell ?_ ?_ _) | (simp; done) | (simp; omega))))))).mono ?_); rintro e v2 ⟨rH2, rfl, ho2, hb2⟩; have xv2 : Ext w19 v2 := Ext.trans (by (repeat' (first | (with_reducible assumption) | (with_reducible exact Ext.refl _) | (with_reducible refine Ext.alloc ?_ _) | (with_reducible refine Ext.drew ?_) | (with_reducible refine Ext.setCell ?_ ?_ _) | (simp; done) | (simp; omega)))) hb2; have zv2 := hb2.size; (try simp only [World.size_drew] at zv2); (try have RP := Lib.hid (RP.out.ext hb2)); have ho0 := ho0.ext hb2; have ho1 := ho1.ext hb2; have hoi1 := hoi1.ext hb2
      refine hK.out _ _ ?_ (fun hH4 => ?_)
      · (try dsimp only)
        (exact HSK.out _ (by (repeat' (first | (with_reducible assumption) | (with_reducible exact Ext.refl _) | (with_reducible refine Ext.alloc ?_ _) | (with_reducible refine Ext.drew ?_) | (with_reducible refine Ext.setCell ?_ ?_ _) | (simp; done) | (simp; omega)))))
      clear hK K hH3
      (try simp only [Act.put, List.setIfInBounds_toArray, List.set_cons_zero, List.set_cons_succ])
      refine wpAnyH_ready (rs := [6]) (by kernel_rfl) (by simp) ?_
      refine cons_l (i := 6) rfl (fun K hK => ?_) ?_
      go_simp; (go_at_call 27; with_reducible refine (implEnterL_any ts1 n1 ok _ _ _ _ _ _ _ _ _ _ _ _ ts _ _ _ _ _ _ _ ps xs _ _ _ _ rows _ HN.out hs2 HTS.out ho0.trains HT.out htl2 HP.out hpl2 ho1.at hoi1.at HVOL.out HRN.out hrs2 HRR.out HRT.out ho2.rows HI0.out HI1.out HN1.out HRES.out).mono ?_); rintro e vS ⟨pH, qH, rfl, hoR, hbs⟩; have xvS : Ext w19 vS := Ext.trans (by (repeat' (first | (with_reducible assumption) | (with_reducible exact Ext.refl _) | (with_reducible refine Ext.alloc ?_ _) | (with_reducible refine Ext.drew ?_) | (with_reducible refine Ext.setCell ?_ ?_ _) | (simp; done) | (simp; omega)))) hbs; have zvS := hbs.size; (try have RP := Lib.hid (RP.out.ext hbs))
      refine hK.out _ _ ?_ (fun hH5 => ?_)
      · (try dsimp only)
        (exact HSK.out _ (by (repeat' (first | (with_reducible assumption) | (with_reducible exact Ext.refl _) | (with_reducible refine Ext.alloc ?_ _) | (with_reducible refine Ext.drew ?_) | (with_reducible refine Ext.setCell ?_ ?_ _) | (simp; done) | (simp; omega)))))
      clear hK K hH4
      (try simp only [Act.put, List.setIfInBounds_toArray, List.set_cons_zero, List.set_cons_succ])
      refine take_l 7 (v := ?_) rfl (by kernel_rfl) (by kernel_rfl) (by kernel_rfl) (fun _ _ _ h => h) (by rfl) ?_ (by assumption) ?_
      rotate_left
      · (intro w hSw; (try dsimp only at hSw); go_simp; (try with_reducible rfl))
      (try simp only [Act.put, List.setIfInBounds_toArray, List.set_cons_zero, List.set_cons_succ])
      refine take_l 8 (v := ?_) rfl (by kernel_rfl) (by kernel_rfl) (by kernel_rfl) (fun _ _ _ h => h) (by rfl) ?_ (by assumption) ?_
      rotate_left
      · (intro w hSw; (try dsimp only at hSw); go_simp; (try with_reducible rfl))
      (try simp only [Act.put, List.setIfInBounds_toArray, List.set_cons_zero, List.set_cons_succ])
      refine take_l 9 (v := ?_) rfl (by kernel_rfl) (by kernel_rfl) (by kernel_rfl) (fun _ _ _ h => h) (by rfl) ?_ (by assumption) ?_
      rotate_left
      · (intro w hSw; (try dsimp only at hSw); go_simp; (try with_reducible rfl))
      (try simp only [Act.put, List.setIfInBounds_toArray, List.set_cons_zero, List.set_cons_succ])
      refine wpAnyH_ready (rs := [11]) (by kernel_rfl) (by simp) ?_
      refine cons_l (i := 11) rfl (fun K hK => ?_) ?_
      have hs0 := RP.out.cell (j := 0) (v := (.int .i64 0)) rfl; have hf0 := RP.out.frozen 0; have hs1 := RP.out.cell (j := 1) (v := (.int .i64 0)) rfl; have hf1 := RP.out.frozen 1; have hs2 := RP.out.cell (j := 2) (v := (.int .i64 0)) rfl; have hf2 := RP.out.frozen 2; have hs3 := RP.out.cell (j := 3) (v := (.int .i64 0)) rfl; have hf3 := RP.out.frozen 3; have hs4 := RP.out.cell (j := 4) (v := (.int .i64 0)) rfl; have hf4 := RP.out.frozen 4; have hs5 := RP.out.cell (j := 5) (v := (.int .i64 0)) rfl; have hf5 := RP.out.frozen 5; have hs6 := RP.out.cell (j := 6) (v := (.int .i64 0)) rfl; have hf6 := RP.out.frozen 6; have hs7 := RP.out.cell (j := 7) (v := (.int .i64 0)) rfl; have hf7 := RP.out.frozen 7; have hs8 := RP.out.cell (j := 8) (v := (.int .i64 0)) rfl; have hf8 := RP.out.frozen 8; have hs9 := RP.out.cell (j := 9) (v := (.slice none 0 0)) rfl; have hf9 := RP.out.frozen 9; go_simp
      refine hK.out _ _ ?_ (fun hH6 => ?_)
      · (try dsimp only)
        (exact HSK.out _ (by (repeat' (first | (with_reducible assumption) | (with_reducible exact Ext.refl _) | (with_reducible refine Ext.alloc ?_ _) | (with_reducible refine Ext.drew ?_) | (with_reducible refine Ext.setCell ?_ ?_ _) | (simp; done) | (simp; omega)))))
      clear hK K hH5
      (try simp only [Act.put, List.setIfInBounds_toArray, List.set_cons_zero, List.set_cons_succ])
      refine take_l 12 (v := ?_) rfl (by kernel_rfl) (by kernel_rfl) (by kernel_rfl) (fun _ _ _ h => h) (by rfl) ?_ (by assumption) ?_
      rotate_left
      · (intro w hSw; (try dsimp only at hSw); go_simp; (try with_reducible rfl))
      (try simp only [Act.put, List.setIfInBounds_toArray, List.set_cons_zero, List.set_cons_succ])
      refine wpAnyH_done (by kernel_rfl) ?_ _
      rotate_left
      exact AllReadyH.nil
      exact AllReadyH.nil
      exact AllReadyH.nil
      exact AllReadyH.nil
      exact AllReadyH.nil
      refine cons_l (i := 10) rfl (fun K hK => ?_) ?_
      go_simp; first | (obtain ⟨bP, hbP⟩ : ∃ x, x = vS.heap.size := ⟨_, rfl⟩; obtain ⟨wP, hwP⟩ : ∃ x, x = vS.alloc (.cells #[.int .i64 0, .int .i64 0, .int .i64 0, .int .i64 0, .int .i64 0, .int .i64 0, .int .i64 0, .int .i64 0, .int .i64 0, .slice none 0 0] 26) := ⟨_, rfl⟩; have halP : Ext vS wP := (show Ext vS (vS.alloc (.cells #[.int .i64 0, .int .i64 0, .int .i64 0, .int .i64 0, .int .i64 0, .int .i64 0, .int .i64 0, .int .i64 0, .int .i64 0, .slice none 0 0] 26)) from (Ext.refl _).alloc _) |> fun h => hwP ▸ h; have RP0 : RowAt (vS.alloc (.cells #[.int .i64 0, .int .i64 0, .int .i64 0, .int .i64 0, .int .i64 0, .int .i64 0, .int .i64 0, .int .i64 0, .int .i64 0, .slice none 0 0] 26)) (vS.heap.size) 26 #[.int .i64 0, .int .i64 0, .int .i64 0, .int .i64 0, .int .i64 0, .int .i64 0, .int .i64 0, .int .i64 0, .int .i64 0, .slice none 0 0] := RowAt.new vS 26 #[.int .i64 0, .int .i64 0, .int .i64 0, .int .i64 0, .int .i64 0, .int .i64 0, .int .i64 0, .int .i64 0, .int .i64 0, .slice none 0 0]; rw [← hwP, ← hbP] at RP0; rw [← hwP]; (try rw [← hbP]); have RP := Lib.hid RP0; have hPlt := RP0.lt; have hPm : vS.heap.size ≤ bP := Nat.le_of_eq hbP.symm; have hPn : bP ≤ vS.heap.size := Nat.le_of_eq hbP; have xP : Ext w19 wP := Ext.trans (by (repeat' (first | (with_reducible assumption) | (with_reducible exact Ext.refl _) | (with_reducible refine Ext.alloc ?_ _) | (with_reducible refine Ext.drew ?_) | (with_reducible refine Ext.setCell ?_ ?_ _) | (simp; done) | (simp; omega)))) halP; clear hbP hwP RP0; (try have ho0 := ho0.ext halP); (try have ho1 := ho1.ext halP); (try have hoi1 := hoi1.ext halP); (try have ho2 := ho2.ext halP); (try have hoR := hoR.ext halP)) | (obtain ⟨bP, hbP⟩ : ∃ x, x = v2.heap.size := ⟨_, rfl⟩; obtain ⟨wP, hwP⟩ : ∃ x, x = v2.alloc (.cells #[.int .i64 0, .int .i64 0, .int .i64 0, .int .i64 0, .int .i64 0, .int .i64 0, .int .i64 0, .int .i64 0, .int .i64 0, .slice none 0 0] 26) := ⟨_, rfl⟩; have halP : Ext v2 wP := (show Ext v2 (v2.alloc (.cells #[.int .i64 0, .int .i64 0, .int .i64 0, .int .i64 0, .int .i64 0, .int .i64 0, .int .i64 0, .int .i64 0, .int .i64 0, .slice none 0 0] 26)) from (Ext.refl _).alloc _) |> fun h => hwP ▸ h; have RP0 : RowAt (v2.alloc (.cells #[.int .i64 0, .int .i64 0, .int .i64 0, .int .i64 0, .int .i64 0, .int .i64 0, .int .i64 0, .int .i64 0, .int .i64 0, .slice none 0 0] 26)) (v2.heap.size) 26 #[.int .i64 0, .int .i64 0, .int .i64 0, .int .i64 0, .int .i64 0, .int .i64 0, .int .i64 0, .int .i64 0, .int .i64 0, .slice none 0 0] := RowAt.new v2 26 #[.int .i64 0, .int .i64 0, .int .i64 0, .int .i64 0, .int .i64 0, .int .i64 0, .int .i64 0, .int .i64 0, .int .i64 0, .slice none 0 0]; rw [← hwP, ← hbP] at RP0; rw [← hwP]; (try rw [← hbP]); have RP := Lib.hid RP0; have hPlt := RP0.lt; have hPm : v2.heap.size ≤ bP := Nat.le_of_eq hbP.symm; have hPn : bP ≤ v2.heap.size := Nat.le_of_eq hbP; have xP : Ext w19 wP := Ext.trans (by (repeat' (first | (with_reducible assumption) | (with_reducible exact Ext.refl _) | (with_reducible refine Ext.alloc ?_ _) | (with_reducible refine Ext.drew ?_) | (with_reducible refine Ext.setCell ?_ ?_ _) | (simp; done) | (simp; omega)))) halP; clear hbP hwP RP0; (try have ho0 := ho0.ext halP); (try have ho1 := ho1.ext halP); (try have hoi1 := hoi1.ext halP); (try have ho2 := ho2.ext halP); (try have hoR := hoR.ext halP)) | (obtain ⟨bP, hbP⟩ : ∃ x, x = v1.heap.size := ⟨_, rfl⟩; obtain ⟨wP, hwP⟩ : ∃ x, x = v1.alloc (.cells #[.int .i64 0, .int .i64 0, .int .i64 0, .int .i64 0, .int .i64 0, .int .i64 0, .int .i64 0, .int .i64 0, .int .i64 0, .slice none 0 0] 26) := ⟨_, rfl⟩; have halP : Ext v1 wP := (show Ext v1 (v1.alloc (.cells #[.int .i64 0, .int .i64 0, .int .i64 0, .int .i64 0, .int .i64 0, .int .i64 0, .int .i64 0, .int .i64 0, .int .i64 0, .slice none 0 0] 26)) from (Ext.refl _).alloc _) |> fun h => hwP ▸ h; have RP0 : RowAt (v1.alloc (.cells #[.int .i64 0, .int .i64 0, .int .i64 0, .int .i64 0, .int .i64 0, .int .i64 0, .int .i64 0, .int .i64 0, .int .i64 0, .slice none 0 0] 26)) (v1.heap.size) 26 #[.int .i64 0, .int .i64 0, .int .i64 0, .int .i64 0, .int .i64 0, .int .i64 0, .int .i64 0, .int .i64 0, .int .i64 0, .slice none 0 0] := RowAt.new v1 26 #[.int .i64 0, .int .i64 0, .int .i64 0, .int .i64 0, .int .i64 0, .int .i64 0, .int .i64 0, .int .i64 0, .int .i64 0, .slice none 0 0]; rw [← hwP, ← hbP] at RP0; rw [← hwP]; (try rw [← hbP]); have RP := Lib.hid RP0; have hPlt := RP0.lt; have hPm : v1.heap.size ≤ bP := Nat.le_of_eq hbP.symm; have hPn : bP ≤ v1.heap.size := Nat.le_of_eq hbP; have xP : Ext w19 wP := Ext.trans (by (repeat' (first | (with_reducible assumption) | (with_reducible exact Ext.refl _) | (with_reducible refine Ext.alloc ?_ _) | (with_reducible refine Ext.drew ?_) | (with_reducible refine Ext.setCell ?_ ?_ _) | (simp; done) | (simp; omega)))) halP; clear hbP hwP RP0; (try have ho0 := ho0.ext halP); (try have ho1 := ho1.ext halP); (try have hoi1 := hoi1.ext halP); (try have ho2 := ho2.ext halP); (try have hoR := hoR.ext halP)) | (obtain ⟨bP, hbP⟩ : ∃ x, x = v0.heap.size := ⟨_, rfl⟩; obtain ⟨wP, hwP⟩ : ∃ x, x = v0.alloc (.cells #[.int .i64 0, .int .i64 0, .int .i64 0, .int .i64 0, .int .i64 0, .int .i64 0, .int .i64 0, .int .i64 0, .int .i64 0, .slice none 0 0] 26) := ⟨_, rfl⟩; have halP : Ext v0 wP := (show Ext v0 (v0.alloc (.cells #[.int .i64 0, .int .i64 0, .int .i64 0, .int .i64 0, .int .i64 0, .int .i64 0, .int .i64 0, .int .i64 0, .int .i64 0, .slice none 0 0] 26)) from (Ext.refl _).alloc _) |> fun h => hwP ▸ h; have RP0 : RowAt (v0.alloc (.cells #[.int .i64 0, .int .i64 0, .int .i64 0, .int .i64 0, .int .i64 0, .int .i64 0, .int .i64 0, .int .i64 0, .int .i64 0, .slice none 0 0] 26)) (v0.heap.size) 26 #[.int .i64 0, .int .i64 0, .int .i64 0, .int .i64 0, .int .i64 0, .int .i64 0, .int .i64 0, .int .i64 0, .int .i64 0, .slice none 0 0] := RowAt.new v0 26 #[.int .i64 0, .int .i64 0, .int .i64 0, .int .i64 0, .int .i64 0, .int .i64 0, .int .i64 0, .int .i64 0, .int .i64 0, .slice none 0 0]; rw [← hwP, ← hbP] at RP0; rw [← hwP]; (try rw [← hbP]); have RP := Lib.hid RP0; have hPlt := RP0.lt; have hPm : v0.heap.size ≤ bP := Nat.le_of_eq hbP.symm; have hPn : bP ≤ v0.heap.size := Nat.le_of_eq hbP; have xP : Ext w19 wP := Ext.trans (by (repeat' (first | (with_reducible assumption) | (with_reducible exact Ext.refl _) | (with_reducible refine Ext.alloc ?_ _) | (with_reducible refine Ext.drew ?_) | (with_reducible refine Ext.setCell ?_ ?_ _) | (simp; done) | (simp; omega)))) halP; clear hbP hwP RP0; (try have ho0 := ho0.ext halP); (try have ho1 := ho1.ext halP); (try have hoi1 := hoi1.ext halP); (try have ho2 := ho2.ext halP); (try have hoR := hoR.ext halP)) | (obtain ⟨bP, hbP⟩ : ∃ x, x = w19.heap.size := ⟨_, rfl⟩; obtain ⟨wP, hwP⟩ : ∃ x, x = (w19.alloc (.cells #[.int .i64 0, .int .i64 0, .int .i64 0, .int .i64 0, .int .i64 0, .int .i64 0, .int .i64 0, .int .i64 0, .int .i64 0, .slice none 0 0] 26)).drew := ⟨_, rfl⟩; have halP : Ext w19 wP := (show Ext w19 ((w19.alloc (.cells #[.int .i64 0, .int .i64 0, .int .i64 0, .int .i64 0, .int .i64 0, .int .i64 0, .int .i64 0, .int .i64 0, .int .i64 0, .slice none 0 0] 26)).drew) from ((Ext.refl _).alloc _).drew) |> fun h => hwP ▸ h; have RP0 : RowAt ((w19.alloc (.cells #[.int .i64 0, .int .i64 0, .int .i64 0, .int .i64 0, .int .i64 0, .int .i64 0, .int .i64 0, .int .i64 0, .int .i64 0, .slice none 0 0] 26)).drew) (w19.heap.size) 26 #[.int .i64 0, .int .i64 0, .int .i64 0, .int .i64 0, .int .i64 0, .int .i64 0, .int .i64 0, .int .i64 0, .int .i64 0, .slice none 0 0] := (RowAt.new w19 26 #[.int .i64 0, .int .i64 0, .int .i64 0, .int .i64 0, .int .i64 0, .int .i64 0, .int .i64 0, .int .i64 0, .int .i64 0, .slice none 0 0]).ext (Ext.refl _).drew; rw [← hwP, ← hbP] at RP0; rw [← hwP]; (try rw [← hbP]); have RP := Lib.hid RP0; have hPlt := RP0.lt; have hPm : w19.heap.size ≤ bP := Nat.le_of_eq hbP.symm; have hPn : bP ≤ w19.heap.size := Nat.le_of_eq hbP; have xP : Ext w19 wP := Ext.trans (by (repeat' (first | (with_reducible assumption) | (with_reducible exact Ext.refl _) | (with_reducible refine Ext.alloc ?_ _) | (with_reducible refine Ext.drew ?_) | (with_reducible refine Ext.setCell ?_ ?_ _) | (simp; done) | (simp; omega)))) halP; clear hbP hwP RP0; (try have ho0 := ho0.ext halP); (try have ho1 := ho1.ext halP); (try have hoi1 := hoi1.ext halP); (try have ho2 := ho2.ext halP); (try have hoR := hoR.ext halP)) | (obtain ⟨bP, hbP⟩ : ∃ x, x = w19.heap.size := ⟨_, rfl⟩; obtain ⟨wP, hwP⟩ : ∃ x, x = w19.drew.alloc (.cells #[.int .i64 0, .int .i64 0, .int .i64 0, .int .i64 0, .int .i64 0, .int .i64 0, .int .i64 0, .int .i64 0, .int .i64 0, .slice none 0 0] 26) := ⟨_, rfl⟩; have halP : Ext w19 wP := (show Ext w19 (w19.drew.alloc (.cells #[.int .i64 0, .int .i64 0, .int .i64 0, .int .i64 0, .int .i64 0, .int .i64 0, .int .i64 0, .int .i64 0, .int .i64 0, .slice none 0 0] 26)) from (Ext.refl _).drew.alloc _) |> fun h => hwP ▸ h; have RP0 : RowAt (w19.drew.alloc (.cells #[.int .i64 0, .int .i64 0, .int .i64 0, .int .i64 0, .int .i64 0, .int .i64 0, .int .i64 0, .int .i64 0, .int .i64 0, .slice none 0 0] 26)) (w19.heap.size) 26 #[.int .i64 0, .int .i64 0, .int .i64 0, .int .i64 0, .int .i64 0, .int .i64 0, .int .i64 0, .int .i64 0, .int .i64 0, .slice none 0 0] := RowAt.new w19 26 #[.int .i64 0, .int .i64 0, .int .i64 0, .int .i64 0, .int .i64 0, .int .i64 0, .int .i64 0, .int .i64 0, .int .i64 0, .slice none 0 0]; rw [← hwP, ← hbP] at RP0; rw [← hwP]; (try rw [← hbP]); have RP := Lib.hid RP0; have hPlt := RP0.lt; have hPm : w19.heap.size ≤ bP := Nat.le_of_eq hbP.symm; have hPn : bP ≤ w19.heap.size := Nat.le_of_eq hbP; have xP : Ext w19 wP := Ext.trans (by (repeat' (first | (with_reducible assumption) | (with_reducible exact Ext.refl _) | (with_reducible refine Ext.alloc ?_ _) | (with_reducible refine Ext.drew ?_) | (with_reducible refine Ext.setCell ?_ ?_ _) | (simp; done) | (simp; omega)))) halP; clear hbP hwP RP0; (try have ho0 := ho0.ext halP); (try have ho1 := ho1.ext halP); (try have hoi1 := hoi1.ext halP); (try have ho2 := ho2.ext halP); (try have hoR := hoR.ext halP))
      refine hK.out _ _ ?_ (fun hH1 => ?_)
      · (try dsimp only)
        (exact HSK.out _ (by (repeat' (first | (with_reducible assumption) | (with_reducible exact Ext.refl _) | (with_reducible refine Ext.alloc ?_ _) | (with_reducible refine Ext.drew ?_) | (with_reducible refine Ext.setCell ?_ ?_ _) | (simp; done) | (simp; omega)))))
      clear hK K hH0
      (try simp only [Act.put, List.setIfInBounds_toArray, List.set_cons_zero, List.set_cons_succ])
      refine wpAnyH_ready (rs := [1]) (by kernel_rfl) (by simp) ?_
      refine cons_l (i := 1) rfl (fun K hK => ?_) ?_
      go_simp; (go_at_call 40; with_reducible refine (toLock_any _ _ _ _ _ _ _ _ _ _ _ _ ts _ HN.out hs2 HTS.out (HF.out.ext (HW19.out.trans (by (repeat' (first | (with_reducible assumption) | (with_reducible exact Ext.refl _) | (with_reducible refine Ext.alloc ?_ _) | (with_reducible refine Ext.drew ?_) | (with_reducible refine Ext.setCell ?_ ?_ _) | (simp; done) | (simp; omega))))))).mono ?_); rintro e v0 ⟨aH0, rfl, ho0, hb0⟩; have xv0 : Ext w19 v0 := Ext.trans (by (repeat' (first | (with_reducible assumption) | (with_reducible exact Ext.refl _) | (with_reducible refine Ext.alloc ?_ _) | (with_reducible refine Ext.drew ?_) | (with_reducible refine Ext.setCell ?_ ?_ _) | (simp; done) | (simp; omega)))) hb0; have zv0 := hb0.size; (try simp only [World.size_drew] at zv0); (try have RP := Lib.hid (RP.out.ext hb0))
      refine hK.out _ _ ?_ (fun hH2 => ?_)
      · (try dsimp only)
        (exact HSK.out _ (by (repeat' (first | (with_reducible assumption) | (with_reducible exact Ext.refl _) | (with_reducible refine Ext.alloc ?_ _) | (with_reducible refine Ext.drew ?_) | (with_reducible refine Ext.setCell ?_ ?_ _) | (simp; done) | (simp; omega)))))
      clear hK K hH1
      (try simp only [Act.put, List.setIfInBounds_toArray, List.set_cons_zero, List.set_cons_succ])
      refine wpAnyH_ready (rs := [3]) (by kernel_rfl) (by simp) ?_
      refine cons_l (i := 3) rfl (fun K hK => ?_) ?_
      go_simp; (go_at_call 41; with_reducible refine (toReach_any _ _ _ _ _ _ _ ps xs _ HT.out htl2 HP.out hpl2 (HFT.out.ext (HW19.out.trans (by (repeat' (first | (with_reducible assumption) | (with_reducible exact Ext.refl _) | (with_reducible refine Ext.alloc ?_ _) | (with_reducible refine Ext.drew ?_) | (with_reducible refine Ext.setCell ?_ ?_ _) | (simp; done) | (simp; omega)))))) (HFP.out.ext (HW19.out.trans (by (repeat' (first | (with_reducible assumption) | (with_reducible exact Ext.refl _) | (with_reducible refine Ext.alloc ?_ _) | (with_reducible refine Ext.drew ?_) | (with_reducible refine Ext.setCell ?_ ?_ _) | (simp; done) | (simp; omega))))))).mono ?_); rintro e v1 ⟨fH1, gH1, midH1, rfl, hmH1, ho1, hoi1, hb1⟩; have xv1 : Ext w19 v1 := Ext.trans (by (repeat' (first | (with_reducible assumption) | (with_reducible exact Ext.refl _) | (with_reducible refine Ext.alloc ?_ _) | (with_reducible refine Ext.drew ?_) | (with_reducible refine Ext.setCell ?_ ?_ _) | (simp; done) | (simp; omega)))) hb1; have zv1 := hb1.size; (try simp only [World.size_drew] at zv1); (try have RP := Lib.hid (RP.out.ext hb1)); have ho0 := ho0.ext hb1
      refine hK.out _ _ ?_ (fun hH3 => ?_)
      · (try dsimp only)
        (exact HSK.out _ (by (repeat' (first | (with_reducible assumption) | (with_reducible exact Ext.refl _) | (with_reducible refine Ext.alloc ?_ _) | (with_reducible refine Ext.drew ?_) | (with_reducible refine Ext.setCell ?_ ?_ _) | (simp; done) | (simp; omega)))))
      clear hK K hH2
      (try simp only [Act.put, List.setIfInBounds_toArray, List.set_cons_zero, List.set_cons_succ])
      refine wpAnyH_ready (rs := [5]) (by kernel_rfl) (by simp) ?_
      refine cons_l (i := 5) rfl (fun K hK => ?_) ?_
      go_simp; (go_at_call 42; with_reducible refine (toTrain_any _ _ _ _ rows _ HRN.out hrs2 HRR.out (HFR.out.ext (HW19.out.trans (by (repeat' (first | (with_reducible assumption) | (with_reducible exact Ext.refl _) | (with_reducible refine Ext.alloc ?_ _) | (with_reducible refine Ext.drew ?_) | (with_reducible refine Ext.setCell ?_ ?_ _) | (simp; done) | (simp; omega))))))).mono ?_); rintro e v2 ⟨rH2, rfl, ho2, hb2⟩; have xv2 : Ext w19 v2 := Ext.trans (by (repeat' (first | (with_reducible assumption) | (with_reducible exact Ext.refl _) | (with_reducible refine Ext.alloc ?_ _) | (with_reducible refine Ext.drew ?_) | (with_reducible refine Ext.setCell ?_ ?_ _) | (simp; done) | (simp; omega)))) hb2; have zv2 := hb2.size; (try simp only [World.size_drew] at zv2); (try have RP := Lib.hid (RP.out.ext hb2)); have ho0 := ho0.ext hb2; have ho1 := ho1.ext hb2; have hoi1 := hoi1.ext hb2
      refine hK.out _ _ ?_ (fun hH4 => ?_)
      · (try dsimp only)
        (exact HSK.out _ (by (repeat' (first | (with_reducible assumption) | (with_reducible exact Ext.refl _) | (with_reducible refine Ext.alloc ?_ _) | (with_reducible refine Ext.drew ?_) | (with_reducible refine Ext.setCell ?_ ?_ _) | (simp; done) | (simp; omega)))))
      clear hK K hH3
      (try simp only [Act.put, List.setIfInBounds_toArray, List.set_cons_zero, List.set_cons_succ])
      refine wpAnyH_ready (rs := [6]) (by kernel_rfl) (by simp) ?_
      refine cons_l (i := 6) rfl (fun K hK => ?_) ?_
      go_simp; (go_at_call 27; with_reducible refine (implEnterL_any ts1 n1 ok _ _ _ _ _ _ _ _ _ _ _ _ ts _ _ _ _ _ _ _ ps xs _ _ _ _ rows _ HN.out hs2 HTS.out ho0.trains HT.out htl2 HP.out hpl2 ho1.at hoi1.at HVOL.out HRN.out hrs2 HRR.out HRT.out ho2.rows HI0.out HI1.out HN1.out HRES.out).mono ?_); rintro e vS ⟨pH, qH, rfl, hoR, hbs⟩; have xvS : Ext w19 vS := Ext.trans (by (repeat' (first | (with_reducible assumption) | (with_reducible exact Ext.refl _) | (with_reducible refine Ext.alloc ?_ _) | (with_reducible refine Ext.drew ?_) | (with_reducible refine Ext.setCell ?_ ?_ _) | (simp; done) | (simp; omega)))) hbs; have zvS := hbs.size; (try have RP := Lib.hid (RP.out.ext hbs))
      refine hK.out _ _ ?_ (fun hH5 => ?_)
      · (try dsimp only)
        (exact HSK.out _ (by (repeat' (first | (with_reducible assumption) | (with_reducible exact Ext.refl _) | (with_reducible refine Ext.alloc ?_ _) | (with_reducible refine Ext.drew ?_) | (with_reducible refine Ext.setCell ?_ ?_ _) | (simp; done) | (simp; omega)))))
      clear hK K hH4
      (try simp only [Act.put, List.setIfInBounds_toArray, List.set_cons_zero, List.set_cons_succ])
      refine take_l 7 (v := ?_) rfl (by kernel_rfl) (by kernel_rfl) (by kernel_rfl) (fun _ _ _ h => h) (by rfl) ?_ (by assumption) ?_
      rotate_left
      · (intro w hSw; (try dsimp only at hSw); go_simp; (try with_reducible rfl))
      (try simp only [Act.put, List.setIfInBounds_toArray, List.set_cons_zero, List.set_cons_succ])
      refine take_l 8 (v := ?_) rfl (by kernel_rfl) (by kernel_rfl) (by kernel_rfl) (fun _ _ _ h => h) (by rfl) ?_ (by assumption) ?_
      rotate_left
      · (intro w hSw; (try dsimp only at hSw); go_simp; (try with_reducible rfl))
      (try simp only [Act.put, List.setIfInBounds_toArray, List.set_cons_zero, List.set_cons_succ])
      refine take_l 9 (v := ?_) rfl (by kernel_rfl) (by kernel_rfl) (by kernel_rfl) (fun _ _ _ h => h) (by rfl) ?_ (by assumption) ?_
      rotate_left
      · (intro w hSw; (try dsimp only at hSw); go_simp; (try with_reducible rfl))
      (try simp only [Act.put, List.setIfInBounds_toArray, List.set_cons_zero, List.set_cons_succ])
      refine wpAnyH_ready (rs := [11]) (by kernel_rfl) (by simp) ?_
      refine cons_l (i := 11) rfl (fun K hK => ?_) ?_
      have hs0 := RP.out.cell (j := 0) (v := (.int .i64 0)) rfl; have hf0 := RP.out.frozen 0; have hs1 := RP.out.cell (j := 1) (v := (.int .i64 0)) rfl; have hf1 := RP.out.frozen 1; have hs2 := RP.out.cell (j := 2) (v := (.int .i64 0)) rfl; have hf2 := RP.out.frozen 2; have hs3 := RP.out.cell (j := 3) (v := (.int .i64 0)) rfl; have hf3 := RP.out.frozen 3; have hs4 := RP.out.cell (j := 4) (v := (.int .i64 0)) rfl; have hf4 := RP.out.frozen 4; have hs5 := RP.out.cell (j := 5) (v := (.int .i64 0)) rfl; have hf5 := RP.out.frozen 5; have hs6 := RP.out.cell (j := 6) (v := (.int .i64 0)) rfl; have hf6 := RP.out.frozen 6; have hs7 := RP.out.cell (j := 7) (v := (.int .i64 0)) rfl; have hf7 := RP.out.frozen 7; have hs8 := RP.out.cell (j := 8) (v := (.int .i64 0)) rfl; have hf8 := RP.out.frozen 8; have hs9 := RP.out.cell (j := 9) (v := (.slice none 0 0)) rfl; have hf9 := RP.out.frozen 9; go_simp
      refine hK.out _ _ ?_ (fun hH6 => ?_)
      · (try dsimp only)
        (exact HSK.out _ (by (repeat' (first | (with_reducible assumption) | (with_reducible exact Ext.refl _) | (with_reducible refine Ext.alloc ?_ _) | (with_reducible refine Ext.drew ?_) | (with_reducible refine Ext.setCell ?_ ?_ _) | (simp; done) | (simp; omega)))))
      clear hK K hH5
      (try simp only [Act.put, List.setIfInBounds_toArray, List.set_cons_zero, List.set_cons_succ])
      refine take_l 12 (v := ?_) rfl (by kernel_rfl) (by kernel_rfl) (by kernel_rfl) (fun _ _ _ h => h) (by rfl) ?_ (by assumption) ?_
      rotate_left
      · (intro w hSw; (try dsimp only at hSw); go_simp; (try with_reducible rfl))
      (try simp only [Act.put, List.setIfInBounds_toArray, List.set_cons_zero, List.set_cons_succ])
      refine wpAnyH_done (by kernel_rfl) ?_ _
      rotate_left
      exact AllReadyH.nil
      exact AllReadyH.nil
      exact AllReadyH.nil
      exact AllReadyH.nil
      exact AllReadyH.nil
      exact AllReadyH.nil
      all_goals
        obtain ⟨yD4, hyd⟩ : ∃ y : Addr, y = ⟨0, 0, none⟩ := ⟨_, rfl⟩; clear hyd
        have RF := RowAt.cast (c' := #[.int .i64 x0, .int .i64 x1, .int .i64 x2, .int .i64 x3, .int .i64 x4, .int .i64 x5, .int .i64 x6, .int .i64 x7, .int .i64 x8, .slice pH n1 qH]) ((((((((((RP.out.set 0 (.int .i64 x0)).set 1 (.int .i64 x1)).set 2 (.int .i64 x2)).set 3 (.int .i64 x3)).set 4 (.int .i64 x4)).set 5 (.int .i64 x5)).set 6 (.int .i64 x6)).set 7 (.int .i64 x7)).set 8 (.int .i64 x8)).set 9 (.slice pH n1 qH)) (by simp)
        have hoF := hoR.keep (Nat.le_refl _) (Nat.le_refl _) (fun B t c h1 h2 hr => ((((((((((hr.other (p := ⟨bP, 0, none⟩) (by dsimp only; omega) (.int .i64 x0)).other (p := ⟨bP, 1, none⟩) (by dsimp only; omega) (.int .i64 x1)).other (p := ⟨bP, 2, none⟩) (by dsimp only; omega) (.int .i64 x2)).other (p := ⟨bP, 3, none⟩) (by dsimp only; omega) (.int .i64 x3)).other (p := ⟨bP, 4, none⟩) (by dsimp only; omega) (.int .i64 x4)).other (p := ⟨bP, 5, none⟩) (by dsimp only; omega) (.int .i64 x5)).other (p := ⟨bP, 6, none⟩) (by dsimp only; omega) (.int .i64 x6)).other (p := ⟨bP, 7, none⟩) (by dsimp only; omega) (.int .i64 x7)).other (p := ⟨bP, 8, none⟩) (by dsimp only; omega) (.int .i64 x8)).other (p := ⟨bP, 9, none⟩) (by dsimp only; omega) (.slice pH n1 qH)))
        refine ⟨bP, pH, qH, aH0, fH1, gH1, rH2, yD4, ⟨(by first | with_reducible exact ((((((((((xvS.setCell (p := ⟨bP, 0, none⟩) (by dsimp only; omega) (.int .i64 x0)).setCell (p := ⟨bP, 1, none⟩) (by dsimp only; omega) (.int .i64 x1)).setCell (p := ⟨bP, 2, none⟩) (by dsimp only; omega) (.int .i64 x2)).setCell (p := ⟨bP, 3, none⟩) (by dsimp only; omega) (.int .i64 x3)).setCell (p := ⟨bP, 4, none⟩) (by dsimp only; omega) (.int .i64 x4)).setCell (p := ⟨bP, 5, none⟩) (by dsimp only; omega) (.int .i64 x5)).setCell (p := ⟨bP, 6, none⟩) (by dsimp only; omega) (.int .i64 x6)).setCell (p := ⟨bP, 7, none⟩) (by dsimp only; omega) (.int .i64 x7)).setCell (p := ⟨bP, 8, none⟩) (by dsimp only; omega) (.int .i64 x8)).setCell (p := ⟨bP, 9, none⟩) (by dsimp only; omega) (.slice pH n1 qH)) | with_reducible exact ((((((((((xP.setCell (p := ⟨bP, 0, none⟩) (by dsimp only; omega) (.int .i64 x0)).setCell (p := ⟨bP, 1, none⟩) (by dsimp only; omega) (.int .i64 x1)).setCell (p := ⟨bP, 2, none⟩) (by dsimp only; omega) (.int .i64 x2)).setCell (p := ⟨bP, 3, none⟩) (by dsimp only; omega) (.int .i64 x3)).setCell (p := ⟨bP, 4, none⟩) (by dsimp only; omega) (.int .i64 x4)).setCell (p := ⟨bP, 5, none⟩) (by dsimp only; omega) (.int .i64 x5)).setCell (p := ⟨bP, 6, none⟩) (by dsimp only; omega) (.int .i64 x6)).setCell (p := ⟨bP, 7, none⟩) (by dsimp only; omega) (.int .i64 x7)).setCell (p := ⟨bP, 8, none⟩) (by dsimp only; omega) (.int .i64 x8)).setCell (p := ⟨bP, 9, none⟩) (by dsimp only; omega) (.slice pH n1 qH))), ⟨by omega, by simp only [size_setCell']; omega⟩, RF, _, _, ?_, ?_, hoF⟩, rfl⟩
        all_goals ((try simp only [size_setCell']); omega)
    case k =>
      intro bH0 pH qH y0 y1 y2 y3 y4 w20 ⟨hb, hblk, hrow, loH0, hiH0, hloH0, hhiH0, ho⟩
      (try dsimp only)
      have lH0 := hblk.1; have nH0 := hblk.2
      have hrq := Lib.hid hrow; have hoq := Lib.hid ho
      clear hrow ho hblk
      have HW20 := Lib.hid (HW19.out.trans hb)
      have BX0_20 := Lib.hid (BX0_19.out.ext hb)
      have BX1_20 := Lib.hid (BX1_19.out.ext hb)
      have BX2_20 := Lib.hid (BX2_19.out.ext hb)
      have P0_20 := Lib.hid (P0_19.out.ext hb)
      have X0_20 := Lib.hid (X0_19.out.ext hb)
      have X1_20 := Lib.hid (X1_19.out.ext hb)
      have X2_20 := Lib.hid (X2_19.out.ext hb)
      have G0_20 := Lib.hid (G0_19.out.ext hb)
      have OP_20 := Lib.hid (OP_19.out.ext hb)
      have OX0_20 := Lib.hid (OX0_19.out.ext hb)
      have OX1_20 := Lib.hid (OX1_19.out.ext hb)
      have OX2_20 := Lib.hid (OX2_19.out.ext hb)
      have OG_20 := Lib.hid (OG_19.out.ext hb)
      have zz20 := hb.size
      clear HW19 BX0_19 BX1_19 BX2_19 P0_19 X0_19 X1_19 X2_19 G0_19 OP_19 OX0_19 OX1_19 OX2_19 OG_19 hb
      have OH_20 := hoq; clear hoq
      have H0_20 := hrq; clear hrq
      have cH00 : w20.cell? ⟨bH0, 0, none⟩ = some (.int .i64 x0) := H0_20.out.cell rfl
      have cH01 : w20.cell? ⟨bH0, 1, none⟩ = some (.int .i64 x1) := H0_20.out.cell rfl
      have cH02 : w20.cell? ⟨bH0, 2, none⟩ = some (.int .i64 x2) := H0_20.out.cell rfl
      have cH03 : w20.cell? ⟨bH0, 3, none⟩ = some (.int .i64 x3) := H0_20.out.cell rfl
      have cH04 : w20.cell? ⟨bH0, 4, none⟩ = some (.int .i64 x4) := H0_20.out.cell rfl
      have cH05 : w20.cell? ⟨bH0, 5, none⟩ = some (.int .i64 x5) := H0_20.out.cell rfl
      have cH06 : w20.cell? ⟨bH0, 6, none⟩ = some (.int .i64 x6) := H0_20.out.cell rfl
      have cH07 : w20.cell? ⟨bH0, 7, none⟩ = some (.int .i64 x7) := H0_20.out.cell rfl
      have cH08 : w20.cell? ⟨bH0, 8, none⟩ = some (.int .i64 x8) := H0_20.out.cell rfl
      have cH09 : w20.cell? ⟨bH0, 9, none⟩ = some (.slice pH n1 qH) := H0_20.out.cell rfl
      have cP00 : w20.cell? ⟨bP0, 0, none⟩ = some (.int .i64 x0) := P0_20.out.cell rfl
      have cP01 : w20.cell? ⟨bP0, 1, none⟩ = some (.int .i64 x1) := P0_20.out.cell rfl
      have cP02 : w20.cell? ⟨bP0, 2, none⟩ = some (.int .i64 x2) := P0_20.out.cell rfl
      have cP03 : w20.cell? ⟨bP0, 3, none⟩ = some (.int .i64 x3) := P0_20.out.cell rfl
      have cP04 : w20.cell? ⟨bP0, 4, none⟩ = some (.int .i64 x4) := P0_20.out.cell rfl
      have cP05 : w20.cell? ⟨bP0, 5, none⟩ = some (.int .i64 x5) := P0_20.out.cell rfl
      have cP06 : w20.cell? ⟨bP0, 6, none⟩ = some (.int .i64 x6) := P0_20.out.cell rfl
      have cP07 : w20.cell? ⟨bP0, 7, none⟩ = some (.int .i64 x7) := P0_20.out.cell rfl
      have cP08 : w20.cell? ⟨bP0, 8, none⟩ = some (.int .i64 x8) := P0_20.out.cell rfl
      have cP09 : w20.cell? ⟨bP0, 9, none⟩ = some (.slice pP n1 qP) := P0_20.out.cell rfl
      go_wp2_with fail
      with_reducible refine (eqLock_same _ _ _ _ _ _ _ _ _ _ _ _ _ _ ts1 _ HN1.out HS1.out OH_20.out.trains OP_20.out.trains).mono ?_
      rintro e w21 ⟨rfl, hb⟩
      clear cH00 cH01 cH02 cH03 cH04 cH05 cH06 cH07 cH08 cH09 cP00 cP01 cP02 cP03 cP04 cP05 cP06 cP07 cP08 cP09
      have HW21 := Lib.hid (HW20.out.trans hb)
      have BX0_21 := Lib.hid (BX0_20.out.ext hb)
      have BX1_21 := Lib.hid (BX1_20.out.ext hb)
      have BX2_21 := Lib.hid (BX2_20.out.ext hb)
      have P0_21 := Lib.hid (P0_20.out.ext hb)
      have X0_21 := Lib.hid (X0_20.out.ext hb)
      have X1_21 := Lib.hid (X1_20.out.ext hb)
      have X2_21 := Lib.hid (X2_20.out.ext hb)
      have G0_21 := Lib.hid (G0_20.out.ext hb)
      have H0_21 := Lib.hid (H0_20.out.ext hb)
      have OP_21 := Lib.hid (OP_20.out.ext hb)
      have OX0_21 := Lib.hid (OX0_20.out.ext hb)
      have OX1_21 := Lib.hid (OX1_20.out.ext hb)
      have OX2_21 := Lib.hid (OX2_20.out.ext hb)
      have OG_21 := Lib.hid (OG_20.out.ext hb)
      have OH_21 := Lib.hid (OH_20.out.ext hb)
      have zz21 := hb.size
      clear HW20 BX0_20 BX1_20 BX2_20 P0_20 X0_20 X1_20 X2_20 G0_20 H0_20 OP_20 OX0_20 OX1_20 OX2_20 OG_20 OH_20 hb
      have cG00 : w21.cell? ⟨bG0, 0, none⟩ = some (.int .i64 x0) := G0_21.out.cell rfl
      have cG01 : w21.cell? ⟨bG0, 1, none⟩ = some (.int .i64 x1) := G0_21.out.cell rfl
      have cG02 : w21.cell? ⟨bG0, 2, none⟩ = some (.int .i64 x2) := G0_21.out.cell rfl
      have cG03 : w21.cell? ⟨bG0, 3, none⟩ = some (.int .i64 x3) := G0_21.out.cell rfl
      have cG04 : w21.cell? ⟨bG0, 4, none⟩ = some (.int .i64 x4) := G0_21.out.cell rfl
      have cG05 : w21.cell? ⟨bG0, 5, none⟩ = some (.int .i64 x5) := G0_21.out.cell rfl
      have cG06 : w21.cell? ⟨bG0, 6, none⟩ = some (.int .i64 x6) := G0_21.out.cell rfl
      have cG07 : w21.cell? ⟨bG0, 7, none⟩ = some (.int .i64 x7) := G0_21.out.cell rfl
      have cG08 : w21.cell? ⟨bG0, 8, none⟩ = some (.int .i64 x8) := G0_21.out.cell rfl
      have cG09 : w21.cell? ⟨bG0, 9, none⟩ = some (.slice pG n1 gc) := G0_21.out.cell rfl
      go_wp2_with fail
      with_reducible refine (heldLock_is M1 _ _ _ _ _ _ _ _ _ _ _ _ ts1 1 _ HN1.out hs1b HTS1.out hM1b (by decide) (by decide) OG_21.out.trains HM1.out).mono ?_
      rintro e w22 ⟨rfl, hb⟩
      clear cG00 cG01 cG02 cG03 cG04 cG05 cG06 cG07 cG08 cG09
      have HW22 := Lib.hid (HW21.out.trans hb)
      have BX0_22 := Lib.hid (BX0_21.out.ext hb)
      have BX1_22 := Lib.hid (BX1_21.out.ext hb)
      have BX2_22 := Lib.hid (BX2_21.out.ext hb)
      have P0_22 := Lib.hid (P0_21.out.ext hb)
      have X0_22 := Lib.hid (X0_21.out.ext hb)
      have X1_22 := Lib.hid (X1_21.out.ext hb)
      have X2_22 := Lib.hid (X2_21.out.ext hb)
      have G0_22 := Lib.hid (G0_21.out.ext hb)
      have H0_22 := Lib.hid (H0_21.out.ext hb)
      have OP_22 := Lib.hid (OP_21.out.ext hb)
      have OX0_22 := Lib.hid (OX0_21.out.ext hb)
      have OX1_22 := Lib.hid (OX1_21.out.ext hb)
      have OX2_22 := Lib.hid (OX2_21.out.ext hb)
      have OG_22 := Lib.hid (OG_21.out.ext hb)
      have OH_22 := Lib.hid (OH_21.out.ext hb)
      have zz22 := hb.size
      clear HW21 BX0_21 BX1_21 BX2_21 P0_21 X0_21 X1_21 X2_21 G0_21 H0_21 OP_21 OX0_21 OX1_21 OX2_21 OG_21 OH_21 hb
      have hx := HW22.out
      go_wp2
      go_ret
      exact ⟨rfl, hx⟩

theorem own : ownKnob Try.prog.godebug = none := by kernel_rfl
theorem laidOut : laidOutB Try.prog = true := Head.laidOut

set_option maxRecDepth 100000 in
theorem contract (H : Type) (enc : TypeId × Value → H) (W : World) (base : Nat) (args : Array Value) (ds gs : List (DataW H)) (before : List MemPlace)
    (hval : ∀ (j : Nat) t v, Try.f6.params[j]? = some t → args[j]? = some v → Value.okWide Try.prog W .any base t v)
    (hW : DataW.Whole enc Try.prog Try.f6.params.toList Rows.fnExactEnterLockSpec.vars false W args.toList ds gs before) :
    Calls Try.prog 6 args W fun e W' => ∃ v, e = .returned v ∧ Rows.fnExactEnterLockSpec.post enc Try.prog Try.f6 false true false false W args v W' := by
  have hW' := hW
  obtain ⟨p, q, hA0, hV, rfl, hfz, hnd⟩ := hW
  have hA : DataW.TrodAll enc Try.prog W 0 (fun _ => true) true Try.f6.params.toList args.toList ds p := hA0
  rw [Try.params6] at hA hval
  obtain ⟨v0, vs0, d0, ds0, p0, q0, hargs, rfl, rfl, h0, r0⟩ := trodAll_cons hA
  obtain ⟨v1, vs1, d1, ds1, p1, q1, rfl, rfl, rfl, h1, r1⟩ := trodAll_cons r0
  obtain ⟨v2, vs2, d2, ds2, p2, q2, rfl, rfl, rfl, h2, r2⟩ := trodAll_cons r1
  obtain ⟨rfl, rfl, rfl⟩ := trodAll_nil r2
  obtain rfl : args = #[v0, v1, v2] := by cases args; simp_all
  obtain ⟨rfl, rfl⟩ := trodVars_none hV
  have hv0 := hval 0 59 v0 rfl rfl
  have hv1 := hval 1 62 v1 rfl rfl
  have hv2 := hval 2 65 v2 rfl rfl
  clear hA0 hA
  obtain ⟨x0, x1, x2, x3, x4, x5, x6, x7, x8, ts, a, c, rfl, hmax, hts, wi0, wi1⟩ := open_lock hv0 h0
  obtain ⟨ps, vol, xs, ta, pa, tc, pc, rfl, htl, hpl, hft, hfp, hvol, _, _⟩ := open_reach hv1 h1
  obtain ⟨u, rows, ra, rc, rfl, hrs, hfr⟩ := open_train hv2 h2
  refine (walk x0 x1 x2 x3 x4 x5 x6 x7 x8 a _ c ts ta pa _ tc _ pc vol ps xs u ra _ rc rows W rfl hmax hts wi0 wi1 rfl htl rfl hpl hft hfp hvol rfl hrs hfr).mono fun e W' ⟨he, hb⟩ => ?_
  subst he
  exact ⟨_, rfl, law_post laidOut rfl (by kernel_rfl) rfl Try.underlying4 hW' rfl rfl rfl hb.below⟩

set_option maxRecDepth 100000 in
theorem lifted (os : Os) (started : os.Started) (H : Type) (enc : TypeId × Value → H) :
    ReturnsInHanded {} Try.checked os 6 .any (Rows.fnExactEnterLockSpec.pre6 enc Try.prog Try.f6 Rows.fnExactEnterLockRow.domain false) (Rows.fnExactEnterLockSpec.post enc Try.prog Try.f6 false true false false) := by
  refine returnsInHanded_of_change (C := Try.checked) own started (by kernel_rfl) Try.func6
    (ChangeSpec.witness6 (enc := enc) (C := Try.checked) false ⟨#[], #[.agg #[.int .i64 0, .int .i64 0, .int .i64 0, .int .i64 0, .int .i64 0, .int .i64 0, .int .i64 0, .int .i64 0, .int .i64 0, .slice none 0 0], .agg #[.slice none 0 0, .int .i64 0, .slice none 0 0], .agg #[.bool false, .slice none 0 0]], []⟩ 8 (by kernel_rfl) (by kernel_rfl) (by kernel_rfl) (by kernel_rfl)) ?_
  intro W base args ds gs before hval hW _ _
  exact contract H enc W base args ds gs before hval hW

theorem closed : joinedFacts Try.prog 6 Try.f6 Rows.fnExactEnterLockSpec Rows.fnExactEnterLockRow = true := by
  unfold joinedFacts
  rw [Head.laidOut, Head.mapsRowed, Head.stopsHeard, Head.mayEnter, Head.liftsFinal, Head.make, Head.plainKeys]
  kernel_rfl
theorem proved : Rows.FnExactEnterLockSaid :=
  OpenClaim.holds_of_wide 6 Try.f6 rfl rfl rfl rfl rfl rfl rfl ⟨rfl, rfl, rfl, rfl, rfl⟩ rfl rfl rfl rfl rfl (by kernel_rfl) Try.func6 closed
    (of_decide_eq_true (by kernel_rfl)) (by unfold Func.isWrapper; first | (rw [if_pos (by decide +kernel)]; kernel_rfl) | (rw [if_neg (by decide +kernel)]; exact ⟨rfl, rfl⟩))
    (fun os started H enc _ => lifted os started H enc)
end Go.Proofs.Ytphhjfcmglhlfaa.lawEnterLock
