/- FillLock on both sides: the program's. -/
import Derived.Test.YtmppoflgbmabpaaProg
import Derived.Test.YtmppoflgbmabpaaM6
namespace Go.Proofs.Ytmppoflgbmabpaa
open Go.RowKit
set_option linter.unusedSimpArgs false
set_option linter.unusedVariables false

/-- What FillLock answers: the water in the chamber and in the reach. -/
noncomputable def fillRes (x0 x1 x2 x3 x4 x5 x6 x7 x8 : Int) (ts : List Tn) (ps : List Pt) (vol : Int) (xs : List Int) : Int × Int :=
  if lockOk x0 x1 x2 x3 x4 x5 x6 x7 x8 ts && (reachOk ps vol xs && decide (x8 = 0)) then
    (if levelOf ps vol xs ≤ chamber x0 x1 x2 x3 x4 x5 x6 x7 x8 ts then (x7, vol) else
      if 1000000000 < x7 + min (min (x5 * (levelOf ps vol xs - chamber x0 x1 x2 x3 x4 x5 x6 x7 x8 ts)) x6) vol then (x7, vol) else
        (x7 + min (min (x5 * (levelOf ps vol xs - chamber x0 x1 x2 x3 x4 x5 x6 x7 x8 ts)) x6) vol, vol - min (min (x5 * (levelOf ps vol xs - chamber x0 x1 x2 x3 x4 x5 x6 x7 x8 ts)) x6) vol)) else (x7, vol)

/-! ### What copies a lock and a reach -/

set_option maxRecDepth 100000 in
set_option maxHeartbeats 4000000 in
theorem implFill_any (wa vo : Int) (x0 x1 x2 x3 x4 x5 x6 x7 x8 : Int) (a : Option Addr) (n c : Nat) (ts : List Tn) (ta pa : Option Addr) (tn tc pn pc : Nat) (vol : Int) (ps : List Pt) (xs : List Int) (w : World) (hn : n = ts.length) (hs : n ≤ 1048576) (hts : ∀ t ∈ ts, SmallT t) (hf : TrainsAt w a ts) (ht : tn = ps.length) (htl : tn ≤ 1048576) (hp : pn = xs.length) (hpl : pn ≤ 1048576) (hft : FlatAt w ptCells 2 ta ps) (hfp : IntsAt w pa xs) (hvol : -9223372036854775808 ≤ vol ∧ vol ≤ 9223372036854775807) (hct : True) (hcp : True) (hres : fillRes x0 x1 x2 x3 x4 x5 x6 x7 x8 ts ps vol xs = (wa, vo)) :
    Calls Try.prog 10 #[.agg #[.int .i64 x0, .int .i64 x1, .int .i64 x2, .int .i64 x3, .int .i64 x4, .int .i64 x5, .int .i64 x6, .int .i64 x7, .int .i64 x8, .slice a n c], .agg #[.slice ta tn tc, .int .i64 vol, .slice pa pn pc]] w fun e w' => ∃ a' c' a1 c1 a2 c2, e = .returned (.tuple #[.agg #[.int .i64 x0, .int .i64 x1, .int .i64 x2, .int .i64 x3, .int .i64 x4, .int .i64 x5, .int .i64 x6, .int .i64 wa, .int .i64 x8, .slice a' n c'], .agg #[.slice a1 tn c1, .int .i64 vo, .slice a2 pn c2]]) ∧ LockReach w w' ts ps xs a' a1 tn c1 a2 pn c2 ∧ Ext w w' := by
  obtain ⟨k1, hk1⟩ : ∃ k, lockOk x0 x1 x2 x3 x4 x5 x6 x7 x8 ts = k := ⟨_, rfl⟩
  obtain ⟨k2, hk2⟩ : ∃ k, reachOk ps vol xs = k := ⟨_, rfl⟩
  obtain ⟨k4, hk4⟩ : ∃ k, decide (x8 = 0) = k := ⟨_, rfl⟩
  obtain ⟨ch, hch⟩ : ∃ v, chamber x0 x1 x2 x3 x4 x5 x6 x7 x8 ts = v := ⟨_, rfl⟩
  obtain ⟨lev, hlev⟩ : ∃ v, levelOf ps vol xs = v := ⟨_, rfl⟩
  have hchb := chamber_b x0 x1 x2 x3 x4 x5 x6 x7 x8 ts
  rw [hch] at hchb
  have hlb := levelOf_b ps vol xs
  rw [hlev] at hlb
  unfold fillRes at hres
  rw [hk1, hk2, hk4, hch, hlev] at hres
  have h8 : (x8 == 0) = k4 := by rw [← hk4]; rfl
  have h8n : (x8 != 0) = !k4 := by rw [← h8]; rfl
  have hkb : k1 = true → ((1 ≤ x5 ∧ x5 ≤ 10000) ∧ (0 ≤ x7 ∧ x7 ≤ 1000000000)) ∧ (1 ≤ x6 ∧ x6 ≤ 100000) := fun h => by rw [h] at hk1; exact ⟨⟨(lockOk_bounds hk1).2.1, (lockOk_bounds hk1).2.2⟩, lockOk_rate hk1⟩
  have hvb : k2 = true → 0 ≤ vol ∧ vol ≤ 1000000000 := fun h => by rw [h] at hk2; exact (reachOk_parts hk2).2.1
  have HK1 := Lib.hid hk1; clear hk1
  have HK2 := Lib.hid hk2; clear hk2
  have HCH := Lib.hid hch; clear hch
  have HLV := Lib.hid hlev; clear hlev
  clear hk4
  have HCT := Lib.hid hct; clear hct
  have HCP := Lib.hid hcp; clear hcp
  have HN := Lib.hid hn; clear hn
  have HS := Lib.hid hs; clear hs
  have HTS := Lib.hid hts; clear hts
  have HF := Lib.hid hf; clear hf
  have HT := Lib.hid ht; clear ht
  have HP := Lib.hid hp; clear hp
  have HFT := Lib.hid hft; clear hft
  have HFP := Lib.hid hfp; clear hfp
  have HTL := Lib.hid (show tn ≤ maxLen by unfold maxLen; omega)
  have HPL := Lib.hid (show pn ≤ maxLen by unfold maxLen; omega)
  have B0I := Lib.hid (show RowAt ((((w.alloc (.cells #[.int .i64 x0, .int .i64 x1, .int .i64 x2, .int .i64 x3, .int .i64 x4, .int .i64 x5, .int .i64 x6, .int .i64 x7, .int .i64 x8, .slice a n c] 26)).alloc (.cells #[.slice ta tn tc, .int .i64 vol, .slice pa pn pc] 33)).alloc (.cells #[.int .i64 0, .int .i64 0, .int .i64 0, .int .i64 0, .int .i64 0, .int .i64 0, .int .i64 0, .int .i64 0, .int .i64 0, .slice none 0 0] 26)).alloc (.cells #[.slice none 0 0, .int .i64 0, .slice none 0 0] 33)) (w.heap.size) 26 #[.int .i64 x0, .int .i64 x1, .int .i64 x2, .int .i64 x3, .int .i64 x4, .int .i64 x5, .int .i64 x6, .int .i64 x7, .int .i64 x8, .slice a n c] from by
    have h := (RowAt.new w 26 #[.int .i64 x0, .int .i64 x1, .int .i64 x2, .int .i64 x3, .int .i64 x4, .int .i64 x5, .int .i64 x6, .int .i64 x7, .int .i64 x8, .slice a n c]).ext ((((Ext.refl _).alloc (.cells #[.slice ta tn tc, .int .i64 vol, .slice pa pn pc] 33)).alloc (.cells #[.int .i64 0, .int .i64 0, .int .i64 0, .int .i64 0, .int .i64 0, .int .i64 0, .int .i64 0, .int .i64 0, .int .i64 0, .slice none 0 0] 26)).alloc (.cells #[.slice none 0 0, .int .i64 0, .slice none 0 0] 33))
    exact h)
  have B1I := Lib.hid (show RowAt ((((w.alloc (.cells #[.int .i64 x0, .int .i64 x1, .int .i64 x2, .int .i64 x3, .int .i64 x4, .int .i64 x5, .int .i64 x6, .int .i64 x7, .int .i64 x8, .slice a n c] 26)).alloc (.cells #[.slice ta tn tc, .int .i64 vol, .slice pa pn pc] 33)).alloc (.cells #[.int .i64 0, .int .i64 0, .int .i64 0, .int .i64 0, .int .i64 0, .int .i64 0, .int .i64 0, .int .i64 0, .int .i64 0, .slice none 0 0] 26)).alloc (.cells #[.slice none 0 0, .int .i64 0, .slice none 0 0] 33)) (w.heap.size + 1) 33 #[.slice ta tn tc, .int .i64 vol, .slice pa pn pc] from by
    have h := (RowAt.new (w.alloc (.cells #[.int .i64 x0, .int .i64 x1, .int .i64 x2, .int .i64 x3, .int .i64 x4, .int .i64 x5, .int .i64 x6, .int .i64 x7, .int .i64 x8, .slice a n c] 26)) 33 #[.slice ta tn tc, .int .i64 vol, .slice pa pn pc]).ext (((Ext.refl _).alloc (.cells #[.int .i64 0, .int .i64 0, .int .i64 0, .int .i64 0, .int .i64 0, .int .i64 0, .int .i64 0, .int .i64 0, .int .i64 0, .slice none 0 0] 26)).alloc (.cells #[.slice none 0 0, .int .i64 0, .slice none 0 0] 33))
    simp only [World.size_alloc] at h
    exact h)
  have RES0I := Lib.hid (show RowAt ((((w.alloc (.cells #[.int .i64 x0, .int .i64 x1, .int .i64 x2, .int .i64 x3, .int .i64 x4, .int .i64 x5, .int .i64 x6, .int .i64 x7, .int .i64 x8, .slice a n c] 26)).alloc (.cells #[.slice ta tn tc, .int .i64 vol, .slice pa pn pc] 33)).alloc (.cells #[.int .i64 0, .int .i64 0, .int .i64 0, .int .i64 0, .int .i64 0, .int .i64 0, .int .i64 0, .int .i64 0, .int .i64 0, .slice none 0 0] 26)).alloc (.cells #[.slice none 0 0, .int .i64 0, .slice none 0 0] 33)) (w.heap.size + 1 + 1) 26 #[.int .i64 0, .int .i64 0, .int .i64 0, .int .i64 0, .int .i64 0, .int .i64 0, .int .i64 0, .int .i64 0, .int .i64 0, .slice none 0 0] from by
    have h := (RowAt.new ((w.alloc (.cells #[.int .i64 x0, .int .i64 x1, .int .i64 x2, .int .i64 x3, .int .i64 x4, .int .i64 x5, .int .i64 x6, .int .i64 x7, .int .i64 x8, .slice a n c] 26)).alloc (.cells #[.slice ta tn tc, .int .i64 vol, .slice pa pn pc] 33)) 26 #[.int .i64 0, .int .i64 0, .int .i64 0, .int .i64 0, .int .i64 0, .int .i64 0, .int .i64 0, .int .i64 0, .int .i64 0, .slice none 0 0]).ext ((Ext.refl _).alloc (.cells #[.slice none 0 0, .int .i64 0, .slice none 0 0] 33))
    simp only [World.size_alloc] at h
    exact h)
  have RES1I := Lib.hid (show RowAt ((((w.alloc (.cells #[.int .i64 x0, .int .i64 x1, .int .i64 x2, .int .i64 x3, .int .i64 x4, .int .i64 x5, .int .i64 x6, .int .i64 x7, .int .i64 x8, .slice a n c] 26)).alloc (.cells #[.slice ta tn tc, .int .i64 vol, .slice pa pn pc] 33)).alloc (.cells #[.int .i64 0, .int .i64 0, .int .i64 0, .int .i64 0, .int .i64 0, .int .i64 0, .int .i64 0, .int .i64 0, .int .i64 0, .slice none 0 0] 26)).alloc (.cells #[.slice none 0 0, .int .i64 0, .slice none 0 0] 33)) (w.heap.size + 1 + 1 + 1) 33 #[.slice none 0 0, .int .i64 0, .slice none 0 0] from by
    have h := (RowAt.new (((w.alloc (.cells #[.int .i64 x0, .int .i64 x1, .int .i64 x2, .int .i64 x3, .int .i64 x4, .int .i64 x5, .int .i64 x6, .int .i64 x7, .int .i64 x8, .slice a n c] 26)).alloc (.cells #[.slice ta tn tc, .int .i64 vol, .slice pa pn pc] 33)).alloc (.cells #[.int .i64 0, .int .i64 0, .int .i64 0, .int .i64 0, .int .i64 0, .int .i64 0, .int .i64 0, .int .i64 0, .int .i64 0, .slice none 0 0] 26)) 33 #[.slice none 0 0, .int .i64 0, .slice none 0 0]).ext (Ext.refl _)
    simp only [World.size_alloc] at h
    exact h)
  have HE0 := Lib.hid (show Ext w ((((w.alloc (.cells #[.int .i64 x0, .int .i64 x1, .int .i64 x2, .int .i64 x3, .int .i64 x4, .int .i64 x5, .int .i64 x6, .int .i64 x7, .int .i64 x8, .slice a n c] 26)).alloc (.cells #[.slice ta tn tc, .int .i64 vol, .slice pa pn pc] 33)).alloc (.cells #[.int .i64 0, .int .i64 0, .int .i64 0, .int .i64 0, .int .i64 0, .int .i64 0, .int .i64 0, .int .i64 0, .int .i64 0, .slice none 0 0] 26)).alloc (.cells #[.slice none 0 0, .int .i64 0, .slice none 0 0] 33)) from (((((Ext.refl w).alloc _).alloc _).alloc _).alloc _))
  go_enter Try.func10, Try.ntmps10
  have B0_0 := B0I
  have B1_0 := B1I
  have RES0_0 := RES0I
  have RES1_0 := RES1I
  have HW0 := HE0
  go_wp2_with fail
  have HO0 := Lib.hid (Ext.refl ((((w.alloc (.cells #[.int .i64 x0, .int .i64 x1, .int .i64 x2, .int .i64 x3, .int .i64 x4, .int .i64 x5, .int .i64 x6, .int .i64 x7, .int .i64 x8, .slice a n c] 26)).alloc (.cells #[.slice ta tn tc, .int .i64 vol, .slice pa pn pc] 33)).alloc (.cells #[.int .i64 0, .int .i64 0, .int .i64 0, .int .i64 0, .int .i64 0, .int .i64 0, .int .i64 0, .int .i64 0, .int .i64 0, .slice none 0 0] 26)).alloc (.cells #[.slice none 0 0, .int .i64 0, .slice none 0 0] 33)))
  obtain ⟨wz, hwz⟩ : ∃ x, x = ((((w.alloc (.cells #[.int .i64 x0, .int .i64 x1, .int .i64 x2, .int .i64 x3, .int .i64 x4, .int .i64 x5, .int .i64 x6, .int .i64 x7, .int .i64 x8, .slice a n c] 26)).alloc (.cells #[.slice ta tn tc, .int .i64 vol, .slice pa pn pc] 33)).alloc (.cells #[.int .i64 0, .int .i64 0, .int .i64 0, .int .i64 0, .int .i64 0, .int .i64 0, .int .i64 0, .int .i64 0, .int .i64 0, .slice none 0 0] 26)).alloc (.cells #[.slice none 0 0, .int .i64 0, .slice none 0 0] 33)) := ⟨_, rfl⟩
  rw [← hwz] at HW0 B0_0 B1_0 RES0_0 RES1_0
  (try rw [← hwz])
  have zw : w.heap.size + 1 + 1 + 1 < wz.heap.size := RES1_0.out.lt
  clear hwz
  have HSK := Lib.hid (fun (w' : World) (h : Ext wz w') => (⟨(B0_0.out.ext h).cell rfl, (B0_0.out.ext h).cell rfl, (B0_0.out.ext h).cell rfl, (B0_0.out.ext h).cell rfl, (B0_0.out.ext h).cell rfl, (B0_0.out.ext h).cell rfl, (B0_0.out.ext h).cell rfl, (B0_0.out.ext h).cell rfl, (B0_0.out.ext h).cell rfl, (B0_0.out.ext h).cell rfl, (B1_0.out.ext h).cell rfl, (B1_0.out.ext h).cell rfl, (B1_0.out.ext h).cell rfl⟩ : w'.cell? ⟨w.heap.size, 0, none⟩ = some (.int .i64 x0) ∧ w'.cell? ⟨w.heap.size, 1, none⟩ = some (.int .i64 x1) ∧ w'.cell? ⟨w.heap.size, 2, none⟩ = some (.int .i64 x2) ∧ w'.cell? ⟨w.heap.size, 3, none⟩ = some (.int .i64 x3) ∧ w'.cell? ⟨w.heap.size, 4, none⟩ = some (.int .i64 x4) ∧ w'.cell? ⟨w.heap.size, 5, none⟩ = some (.int .i64 x5) ∧ w'.cell? ⟨w.heap.size, 6, none⟩ = some (.int .i64 x6) ∧ w'.cell? ⟨w.heap.size, 7, none⟩ = some (.int .i64 x7) ∧ w'.cell? ⟨w.heap.size, 8, none⟩ = some (.int .i64 x8) ∧ w'.cell? ⟨w.heap.size, 9, none⟩ = some (.slice a n c) ∧ w'.cell? ⟨w.heap.size + 1, 0, none⟩ = some (.slice ta tn tc) ∧ w'.cell? ⟨w.heap.size + 1, 1, none⟩ = some (.int .i64 vol) ∧ w'.cell? ⟨w.heap.size + 1, 2, none⟩ = some (.slice pa pn pc)))
  refine wp_region_held_drew (S := (fun w' => w'.cell? ⟨w.heap.size, 0, none⟩ = some (.int .i64 x0) ∧ w'.cell? ⟨w.heap.size, 1, none⟩ = some (.int .i64 x1) ∧ w'.cell? ⟨w.heap.size, 2, none⟩ = some (.int .i64 x2) ∧ w'.cell? ⟨w.heap.size, 3, none⟩ = some (.int .i64 x3) ∧ w'.cell? ⟨w.heap.size, 4, none⟩ = some (.int .i64 x4) ∧ w'.cell? ⟨w.heap.size, 5, none⟩ = some (.int .i64 x5) ∧ w'.cell? ⟨w.heap.size, 6, none⟩ = some (.int .i64 x6) ∧ w'.cell? ⟨w.heap.size, 7, none⟩ = some (.int .i64 x7) ∧ w'.cell? ⟨w.heap.size, 8, none⟩ = some (.int .i64 x8) ∧ w'.cell? ⟨w.heap.size, 9, none⟩ = some (.slice a n c) ∧ w'.cell? ⟨w.heap.size + 1, 0, none⟩ = some (.slice ta tn tc) ∧ w'.cell? ⟨w.heap.size + 1, 1, none⟩ = some (.int .i64 vol) ∧ w'.cell? ⟨w.heap.size + 1, 2, none⟩ = some (.slice pa pn pc))) (by kernel_rfl) ?_ (fun hH0 => ?_)
  · exact HSK.out _ (Ext.refl _).drew
  apply cut_any2 (G := fun b1 b2 p q p1 q1 p2 q2 w' => Ext wz w' ∧ (wz.heap.size ≤ b1 ∧ b1 < w'.heap.size) ∧ (wz.heap.size ≤ b2 ∧ b2 < w'.heap.size) ∧ b1 ≠ b2 ∧ RowAt w' b1 26 #[.int .i64 0, .int .i64 0, .int .i64 0, .int .i64 0, .int .i64 0, .int .i64 0, .int .i64 0, .int .i64 0, .int .i64 0, .slice none 0 0] ∧ RowAt w' b2 33 #[.slice none 0 0, .int .i64 0, .slice none 0 0] ∧ ∃ lo1 hi1 lo2 hi2, (wz.heap.size ≤ lo1 ∧ lo1 ≤ hi1 ∧ hi1 ≤ lo2 ∧ lo2 ≤ hi2 ∧ hi2 ≤ w'.heap.size) ∧ ((b1 < lo1 ∨ hi1 ≤ b1) ∧ (b1 < lo2 ∨ hi2 ≤ b1) ∧ (b2 < lo1 ∨ hi1 ≤ b2) ∧ (b2 < lo2 ∨ hi2 ≤ b2)) ∧ OwnTrains w' lo1 hi1 p ts ∧ OwnReach w' lo2 hi2 p1 tn q1 p2 pn q2 ps xs)
  case h =>
    intro hcut
    obtain ⟨yd0, hyd⟩ : ∃ y : Addr, y = ⟨0, 0, none⟩ := ⟨_, rfl⟩; clear hyd
    obtain ⟨yd1, hyd⟩ : ∃ y : Addr, y = ⟨0, 0, none⟩ := ⟨_, rfl⟩; clear hyd
    obtain ⟨yd2, hyd⟩ : ∃ y : Addr, y = ⟨0, 0, none⟩ := ⟨_, rfl⟩; clear hyd
    obtain ⟨yd3, hyd⟩ : ∃ y : Addr, y = ⟨0, 0, none⟩ := ⟨_, rfl⟩; clear hyd
    obtain ⟨yd4, hyd⟩ : ∃ y : Addr, y = ⟨0, 0, none⟩ := ⟨_, rfl⟩; clear hyd
    obtain ⟨u0, hu⟩ : ∃ x, x = wz.drew := ⟨_, rfl⟩
    have x0 : Ext wz u0 := (by rw [hu]; exact (Ext.refl _).drew)
    (try rw [← hu] at hH0)
    (try rw [← hu])
    have z0 : wz.heap.size ≤ u0.heap.size := x0.size
    clear hu
    refine take_l 0 (v := ?_) rfl (by kernel_rfl) (by kernel_rfl) (by kernel_rfl) (fun _ _ _ h => h) (by rfl) ?_ (by assumption) ?_
    rotate_left
    · (intro w hSw; (try dsimp only at hSw); go_simp; (try with_reducible rfl))
    (try simp only [Act.put, List.setIfInBounds_toArray, List.set_cons_zero, List.set_cons_succ])
    refine take_l 2 (v := ?_) rfl (by kernel_rfl) (by kernel_rfl) (by kernel_rfl) (fun _ _ _ h => h) (by rfl) ?_ (by assumption) ?_
    rotate_left
    · (intro w hSw; (try dsimp only at hSw); go_simp; (try with_reducible rfl))
    (try simp only [Act.put, List.setIfInBounds_toArray, List.set_cons_zero, List.set_cons_succ])
    refine wpAnyH_ready (rs := [1, 4, 5]) (by kernel_rfl) (by simp) ?_
    refine cons_l (i := 1) rfl (fun K hK => ?_) ?_
    go_simp; (go_at_call 30; with_reducible refine (copyLock_any _ _ _ _ _ _ _ _ _ _ _ _ ts _ HN.out HS.out HTS.out (HF.out.ext (HW0.out.trans x0))).mono ?_)
    rintro e u1 ⟨p, q, es, rfl, hg1, g1⟩
    have x1 := x0.trans g1; have z1 := g1.size
    refine hK.out _ _ ?_ (fun hH1 => ?_)
    · (try dsimp only)
      exact HSK.out _ x1
    clear hK K hH0
    (try simp only [Act.put, List.setIfInBounds_toArray, List.set_cons_zero, List.set_cons_succ])
    refine wpAnyH_ready (rs := [3, 4, 5]) (by kernel_rfl) (by simp) ?_
    refine cons_l (i := 3) rfl (fun K hK => ?_) ?_
    go_simp; (go_at_call 31; with_reducible refine (copyReach_any _ _ _ _ _ _ _ ps xs _ HT.out htl HP.out hpl (HFT.out.ext (HW0.out.trans x1)) (HFP.out.ext (HW0.out.trans x1)) HCT.out HCP.out).mono ?_)
    rintro e u2 ⟨a1, c1, a2, c2, rfl, hg2, g2⟩
    have x2 := x1.trans g2; have z2 := g2.size
    refine hK.out _ _ ?_ (fun hH2 => ?_)
    · (try dsimp only)
      exact HSK.out _ x2
    clear hK K hH1
    (try simp only [Act.put, List.setIfInBounds_toArray, List.set_cons_zero, List.set_cons_succ])
    refine wpAnyH_ready (rs := [4, 5]) (by kernel_rfl) (by simp) ?_
    refine cons_l (i := 4) rfl (fun K hK => ?_) ?_
    go_simp; obtain ⟨bX, u3, hu, hb, g3, kX, mX, nX, lX⟩ := alloc_named u2 26 #[.int .i64 0, .int .i64 0, .int .i64 0, .int .i64 0, .int .i64 0, .int .i64 0, .int .i64 0, .int .i64 0, .int .i64 0, .slice none 0 0]; rw [← hu]; (try rw [← hb]); clear hu hb
    have x3 := x2.trans g3; have z3 := g3.size; have KX := Lib.hid kX; clear kX
    refine hK.out _ _ ?_ (fun hH3 => ?_)
    · (try dsimp only)
      exact HSK.out _ x3
    clear hK K hH2
    (try simp only [Act.put, List.setIfInBounds_toArray, List.set_cons_zero, List.set_cons_succ])
    refine wpAnyH_ready (rs := [5]) (by kernel_rfl) (by simp) ?_
    refine cons_l (i := 5) rfl (fun K hK => ?_) ?_
    go_simp; obtain ⟨bY, u4, hu, hb, g4, kY, mY, nY, lY⟩ := alloc_named u3 33 #[.slice none 0 0, .int .i64 0, .slice none 0 0]; rw [← hu]; (try rw [← hb]); clear hu hb
    have x4 := x3.trans g4; have z4 := g4.size; have KY := Lib.hid kY; clear kY
    refine hK.out _ _ ?_ (fun hH4 => ?_)
    · (try dsimp only)
      exact HSK.out _ x4
    clear hK K hH3
    (try simp only [Act.put, List.setIfInBounds_toArray, List.set_cons_zero, List.set_cons_succ])
    exact hcut _ _ ⟨bX, bY, p, q, a1, c1, a2, c2, yd0, yd1, yd2, yd3, yd4, ⟨x4, ⟨by omega, by omega⟩, ⟨by omega, by omega⟩, by omega, (KX.out.ext (g4)), KY.out, u0.heap.size, u1.heap.size, u1.heap.size, u2.heap.size, by omega, by omega, (hg1.ownAt.ext (g2.trans (g3.trans (g4)))), (hg2.ext (g3.trans (g4)))⟩, rfl⟩
    exact AllReadyH.nil
    refine cons_l (i := 5) rfl (fun K hK => ?_) ?_
    go_simp; obtain ⟨bY, u3, hu, hb, g3, kY, mY, nY, lY⟩ := alloc_named u2 33 #[.slice none 0 0, .int .i64 0, .slice none 0 0]; rw [← hu]; (try rw [← hb]); clear hu hb
    have x3 := x2.trans g3; have z3 := g3.size; have KY := Lib.hid kY; clear kY
    refine hK.out _ _ ?_ (fun hH3 => ?_)
    · (try dsimp only)
      exact HSK.out _ x3
    clear hK K hH2
    (try simp only [Act.put, List.setIfInBounds_toArray, List.set_cons_zero, List.set_cons_succ])
    refine wpAnyH_ready (rs := [4]) (by kernel_rfl) (by simp) ?_
    refine cons_l (i := 4) rfl (fun K hK => ?_) ?_
    go_simp; obtain ⟨bX, u4, hu, hb, g4, kX, mX, nX, lX⟩ := alloc_named u3 26 #[.int .i64 0, .int .i64 0, .int .i64 0, .int .i64 0, .int .i64 0, .int .i64 0, .int .i64 0, .int .i64 0, .int .i64 0, .slice none 0 0]; rw [← hu]; (try rw [← hb]); clear hu hb
    have x4 := x3.trans g4; have z4 := g4.size; have KX := Lib.hid kX; clear kX
    refine hK.out _ _ ?_ (fun hH4 => ?_)
    · (try dsimp only)
      exact HSK.out _ x4
    clear hK K hH3
    (try simp only [Act.put, List.setIfInBounds_toArray, List.set_cons_zero, List.set_cons_succ])
    exact hcut _ _ ⟨bX, bY, p, q, a1, c1, a2, c2, yd0, yd1, yd2, yd3, yd4, ⟨x4, ⟨by omega, by omega⟩, ⟨by omega, by omega⟩, by omega, KX.out, (KY.out.ext (g4)), u0.heap.size, u1.heap.size, u1.heap.size, u2.heap.size, by omega, by omega, (hg1.ownAt.ext (g2.trans (g3.trans (g4)))), (hg2.ext (g3.trans (g4)))⟩, rfl⟩
    exact AllReadyH.nil
    exact AllReadyH.nil
    refine cons_l (i := 4) rfl (fun K hK => ?_) ?_
    go_simp; obtain ⟨bX, u2, hu, hb, g2, kX, mX, nX, lX⟩ := alloc_named u1 26 #[.int .i64 0, .int .i64 0, .int .i64 0, .int .i64 0, .int .i64 0, .int .i64 0, .int .i64 0, .int .i64 0, .int .i64 0, .slice none 0 0]; rw [← hu]; (try rw [← hb]); clear hu hb
    have x2 := x1.trans g2; have z2 := g2.size; have KX := Lib.hid kX; clear kX
    refine hK.out _ _ ?_ (fun hH2 => ?_)
    · (try dsimp only)
      exact HSK.out _ x2
    clear hK K hH1
    (try simp only [Act.put, List.setIfInBounds_toArray, List.set_cons_zero, List.set_cons_succ])
    refine wpAnyH_ready (rs := [3, 5]) (by kernel_rfl) (by simp) ?_
    refine cons_l (i := 3) rfl (fun K hK => ?_) ?_
    go_simp; (go_at_call 31; with_reducible refine (copyReach_any _ _ _ _ _ _ _ ps xs _ HT.out htl HP.out hpl (HFT.out.ext (HW0.out.trans x2)) (HFP.out.ext (HW0.out.trans x2)) HCT.out HCP.out).mono ?_)
    rintro e u3 ⟨a1, c1, a2, c2, rfl, hg2, g3⟩
    have x3 := x2.trans g3; have z3 := g3.size
    refine hK.out _ _ ?_ (fun hH3 => ?_)
    · (try dsimp only)
      exact HSK.out _ x3
    clear hK K hH2
    (try simp only [Act.put, List.setIfInBounds_toArray, List.set_cons_zero, List.set_cons_succ])
    refine wpAnyH_ready (rs := [5]) (by kernel_rfl) (by simp) ?_
    refine cons_l (i := 5) rfl (fun K hK => ?_) ?_
    go_simp; obtain ⟨bY, u4, hu, hb, g4, kY, mY, nY, lY⟩ := alloc_named u3 33 #[.slice none 0 0, .int .i64 0, .slice none 0 0]; rw [← hu]; (try rw [← hb]); clear hu hb
    have x4 := x3.trans g4; have z4 := g4.size; have KY := Lib.hid kY; clear kY
    refine hK.out _ _ ?_ (fun hH4 => ?_)
    · (try dsimp only)
      exact HSK.out _ x4
    clear hK K hH3
    (try simp only [Act.put, List.setIfInBounds_toArray, List.set_cons_zero, List.set_cons_succ])
    exact hcut _ _ ⟨bX, bY, p, q, a1, c1, a2, c2, yd0, yd1, yd2, yd3, yd4, ⟨x4, ⟨by omega, by omega⟩, ⟨by omega, by omega⟩, by omega, (KX.out.ext (g3.trans (g4))), KY.out, u0.heap.size, u1.heap.size, u2.heap.size, u3.heap.size, by omega, by omega, (hg1.ownAt.ext (g2.trans (g3.trans (g4)))), (hg2.ext (g4))⟩, rfl⟩
    exact AllReadyH.nil
    refine cons_l (i := 5) rfl (fun K hK => ?_) ?_
    go_simp; obtain ⟨bY, u3, hu, hb, g3, kY, mY, nY, lY⟩ := alloc_named u2 33 #[.slice none 0 0, .int .i64 0, .slice none 0 0]; rw [← hu]; (try rw [← hb]); clear hu hb
    have x3 := x2.trans g3; have z3 := g3.size; have KY := Lib.hid kY; clear kY
    refine hK.out _ _ ?_ (fun hH3 => ?_)
    · (try dsimp only)
      exact HSK.out _ x3
    clear hK K hH2
    (try simp only [Act.put, List.setIfInBounds_toArray, List.set_cons_zero, List.set_cons_succ])
    refine wpAnyH_ready (rs := [3]) (by kernel_rfl) (by simp) ?_
    refine cons_l (i := 3) rfl (fun K hK => ?_) ?_
    go_simp; (go_at_call 31; with_reducible refine (copyReach_any _ _ _ _ _ _ _ ps xs _ HT.out htl HP.out hpl (HFT.out.ext (HW0.out.trans x3)) (HFP.out.ext (HW0.out.trans x3)) HCT.out HCP.out).mono ?_)
    rintro e u4 ⟨a1, c1, a2, c2, rfl, hg2, g4⟩
    have x4 := x3.trans g4; have z4 := g4.size
    refine hK.out _ _ ?_ (fun hH4 => ?_)
    · (try dsimp only)
      exact HSK.out _ x4
    clear hK K hH3
    (try simp only [Act.put, List.setIfInBounds_toArray, List.set_cons_zero, List.set_cons_succ])
    exact hcut _ _ ⟨bX, bY, p, q, a1, c1, a2, c2, yd0, yd1, yd2, yd3, yd4, ⟨x4, ⟨by omega, by omega⟩, ⟨by omega, by omega⟩, by omega, (KX.out.ext (g3.trans (g4))), (KY.out.ext (g4)), u0.heap.size, u1.heap.size, u3.heap.size, u4.heap.size, by omega, by omega, (hg1.ownAt.ext (g2.trans (g3.trans (g4)))), hg2⟩, rfl⟩
    exact AllReadyH.nil
    exact AllReadyH.nil
    refine cons_l (i := 5) rfl (fun K hK => ?_) ?_
    go_simp; obtain ⟨bY, u2, hu, hb, g2, kY, mY, nY, lY⟩ := alloc_named u1 33 #[.slice none 0 0, .int .i64 0, .slice none 0 0]; rw [← hu]; (try rw [← hb]); clear hu hb
    have x2 := x1.trans g2; have z2 := g2.size; have KY := Lib.hid kY; clear kY
    refine hK.out _ _ ?_ (fun hH2 => ?_)
    · (try dsimp only)
      exact HSK.out _ x2
    clear hK K hH1
    (try simp only [Act.put, List.setIfInBounds_toArray, List.set_cons_zero, List.set_cons_succ])
    refine wpAnyH_ready (rs := [3, 4]) (by kernel_rfl) (by simp) ?_
    refine cons_l (i := 3) rfl (fun K hK => ?_) ?_
    go_simp; (go_at_call 31; with_reducible refine (copyReach_any _ _ _ _ _ _ _ ps xs _ HT.out htl HP.out hpl (HFT.out.ext (HW0.out.trans x2)) (HFP.out.ext (HW0.out.trans x2)) HCT.out HCP.out).mono ?_)
    rintro e u3 ⟨a1, c1, a2, c2, rfl, hg2, g3⟩
    have x3 := x2.trans g3; have z3 := g3.size
    refine hK.out _ _ ?_ (fun hH3 => ?_)
    · (try dsimp only)
      exact HSK.out _ x3
    clear hK K hH2
    (try simp only [Act.put, List.setIfInBounds_toArray, List.set_cons_zero, List.set_cons_succ])
    refine wpAnyH_ready (rs := [4]) (by kernel_rfl) (by simp) ?_
    refine cons_l (i := 4) rfl (fun K hK => ?_) ?_
    go_simp; obtain ⟨bX, u4, hu, hb, g4, kX, mX, nX, lX⟩ := alloc_named u3 26 #[.int .i64 0, .int .i64 0, .int .i64 0, .int .i64 0, .int .i64 0, .int .i64 0, .int .i64 0, .int .i64 0, .int .i64 0, .slice none 0 0]; rw [← hu]; (try rw [← hb]); clear hu hb
    have x4 := x3.trans g4; have z4 := g4.size; have KX := Lib.hid kX; clear kX
    refine hK.out _ _ ?_ (fun hH4 => ?_)
    · (try dsimp only)
      exact HSK.out _ x4
    clear hK K hH3
    (try simp only [Act.put, List.setIfInBounds_toArray, List.set_cons_zero, List.set_cons_succ])
    exact hcut _ _ ⟨bX, bY, p, q, a1, c1, a2, c2, yd0, yd1, yd2, yd3, yd4, ⟨x4, ⟨by omega, by omega⟩, ⟨by omega, by omega⟩, by omega, KX.out, (KY.out.ext (g3.trans (g4))), u0.heap.size, u1.heap.size, u2.heap.size, u3.heap.size, by omega, by omega, (hg1.ownAt.ext (g2.trans (g3.trans (g4)))), (hg2.ext (g4))⟩, rfl⟩
    exact AllReadyH.nil
    refine cons_l (i := 4) rfl (fun K hK => ?_) ?_
    go_simp; obtain ⟨bX, u3, hu, hb, g3, kX, mX, nX, lX⟩ := alloc_named u2 26 #[.int .i64 0, .int .i64 0, .int .i64 0, .int .i64 0, .int .i64 0, .int .i64 0, .int .i64 0, .int .i64 0, .int .i64 0, .slice none 0 0]; rw [← hu]; (try rw [← hb]); clear hu hb
    have x3 := x2.trans g3; have z3 := g3.size; have KX := Lib.hid kX; clear kX
    refine hK.out _ _ ?_ (fun hH3 => ?_)
    · (try dsimp only)
      exact HSK.out _ x3
    clear hK K hH2
    (try simp only [Act.put, List.setIfInBounds_toArray, List.set_cons_zero, List.set_cons_succ])
    refine wpAnyH_ready (rs := [3]) (by kernel_rfl) (by simp) ?_
    refine cons_l (i := 3) rfl (fun K hK => ?_) ?_
    go_simp; (go_at_call 31; with_reducible refine (copyReach_any _ _ _ _ _ _ _ ps xs _ HT.out htl HP.out hpl (HFT.out.ext (HW0.out.trans x3)) (HFP.out.ext (HW0.out.trans x3)) HCT.out HCP.out).mono ?_)
    rintro e u4 ⟨a1, c1, a2, c2, rfl, hg2, g4⟩
    have x4 := x3.trans g4; have z4 := g4.size
    refine hK.out _ _ ?_ (fun hH4 => ?_)
    · (try dsimp only)
      exact HSK.out _ x4
    clear hK K hH3
    (try simp only [Act.put, List.setIfInBounds_toArray, List.set_cons_zero, List.set_cons_succ])
    exact hcut _ _ ⟨bX, bY, p, q, a1, c1, a2, c2, yd0, yd1, yd2, yd3, yd4, ⟨x4, ⟨by omega, by omega⟩, ⟨by omega, by omega⟩, by omega, (KX.out.ext (g4)), (KY.out.ext (g3.trans (g4))), u0.heap.size, u1.heap.size, u3.heap.size, u4.heap.size, by omega, by omega, (hg1.ownAt.ext (g2.trans (g3.trans (g4)))), hg2⟩, rfl⟩
    exact AllReadyH.nil
    exact AllReadyH.nil
    exact AllReadyH.nil
    refine cons_l (i := 4) rfl (fun K hK => ?_) ?_
    go_simp; obtain ⟨bX, u1, hu, hb, g1, kX, mX, nX, lX⟩ := alloc_named u0 26 #[.int .i64 0, .int .i64 0, .int .i64 0, .int .i64 0, .int .i64 0, .int .i64 0, .int .i64 0, .int .i64 0, .int .i64 0, .slice none 0 0]; rw [← hu]; (try rw [← hb]); clear hu hb
    have x1 := x0.trans g1; have z1 := g1.size; have KX := Lib.hid kX; clear kX
    refine hK.out _ _ ?_ (fun hH1 => ?_)
    · (try dsimp only)
      exact HSK.out _ x1
    clear hK K hH0
    (try simp only [Act.put, List.setIfInBounds_toArray, List.set_cons_zero, List.set_cons_succ])
    refine wpAnyH_ready (rs := [1, 5]) (by kernel_rfl) (by simp) ?_
    refine cons_l (i := 1) rfl (fun K hK => ?_) ?_
    go_simp; (go_at_call 30; with_reducible refine (copyLock_any _ _ _ _ _ _ _ _ _ _ _ _ ts _ HN.out HS.out HTS.out (HF.out.ext (HW0.out.trans x1))).mono ?_)
    rintro e u2 ⟨p, q, es, rfl, hg1, g2⟩
    have x2 := x1.trans g2; have z2 := g2.size
    refine hK.out _ _ ?_ (fun hH2 => ?_)
    · (try dsimp only)
      exact HSK.out _ x2
    clear hK K hH1
    (try simp only [Act.put, List.setIfInBounds_toArray, List.set_cons_zero, List.set_cons_succ])
    refine wpAnyH_ready (rs := [3, 5]) (by kernel_rfl) (by simp) ?_
    refine cons_l (i := 3) rfl (fun K hK => ?_) ?_
    go_simp; (go_at_call 31; with_reducible refine (copyReach_any _ _ _ _ _ _ _ ps xs _ HT.out htl HP.out hpl (HFT.out.ext (HW0.out.trans x2)) (HFP.out.ext (HW0.out.trans x2)) HCT.out HCP.out).mono ?_)
    rintro e u3 ⟨a1, c1, a2, c2, rfl, hg2, g3⟩
    have x3 := x2.trans g3; have z3 := g3.size
    refine hK.out _ _ ?_ (fun hH3 => ?_)
    · (try dsimp only)
      exact HSK.out _ x3
    clear hK K hH2
    (try simp only [Act.put, List.setIfInBounds_toArray, List.set_cons_zero, List.set_cons_succ])
    refine wpAnyH_ready (rs := [5]) (by kernel_rfl) (by simp) ?_
    refine cons_l (i := 5) rfl (fun K hK => ?_) ?_
    go_simp; obtain ⟨bY, u4, hu, hb, g4, kY, mY, nY, lY⟩ := alloc_named u3 33 #[.slice none 0 0, .int .i64 0, .slice none 0 0]; rw [← hu]; (try rw [← hb]); clear hu hb
    have x4 := x3.trans g4; have z4 := g4.size; have KY := Lib.hid kY; clear kY
    refine hK.out _ _ ?_ (fun hH4 => ?_)
    · (try dsimp only)
      exact HSK.out _ x4
    clear hK K hH3
    (try simp only [Act.put, List.setIfInBounds_toArray, List.set_cons_zero, List.set_cons_succ])
    exact hcut _ _ ⟨bX, bY, p, q, a1, c1, a2, c2, yd0, yd1, yd2, yd3, yd4, ⟨x4, ⟨by omega, by omega⟩, ⟨by omega, by omega⟩, by omega, (KX.out.ext (g2.trans (g3.trans (g4)))), KY.out, u1.heap.size, u2.heap.size, u2.heap.size, u3.heap.size, by omega, by omega, (hg1.ownAt.ext (g3.trans (g4))), (hg2.ext (g4))⟩, rfl⟩
    exact AllReadyH.nil
    refine cons_l (i := 5) rfl (fun K hK => ?_) ?_
    go_simp; obtain ⟨bY, u3, hu, hb, g3, kY, mY, nY, lY⟩ := alloc_named u2 33 #[.slice none 0 0, .int .i64 0, .slice none 0 0]; rw [← hu]; (try rw [← hb]); clear hu hb
    have x3 := x2.trans g3; have z3 := g3.size; have KY := Lib.hid kY; clear kY
    refine hK.out _ _ ?_ (fun hH3 => ?_)
    · (try dsimp only)
      exact HSK.out _ x3
    clear hK K hH2
    (try simp only [Act.put, List.setIfInBounds_toArray, List.set_cons_zero, List.set_cons_succ])
    refine wpAnyH_ready (rs := [3]) (by kernel_rfl) (by simp) ?_
    refine cons_l (i := 3) rfl (fun K hK => ?_) ?_
    go_simp; (go_at_call 31; with_reducible refine (copyReach_any _ _ _ _ _ _ _ ps xs _ HT.out htl HP.out hpl (HFT.out.ext (HW0.out.trans x3)) (HFP.out.ext (HW0.out.trans x3)) HCT.out HCP.out).mono ?_)
    rintro e u4 ⟨a1, c1, a2, c2, rfl, hg2, g4⟩
    have x4 := x3.trans g4; have z4 := g4.size
    refine hK.out _ _ ?_ (fun hH4 => ?_)
    · (try dsimp only)
      exact HSK.out _ x4
    clear hK K hH3
    (try simp only [Act.put, List.setIfInBounds_toArray, List.set_cons_zero, List.set_cons_succ])
    exact hcut _ _ ⟨bX, bY, p, q, a1, c1, a2, c2, yd0, yd1, yd2, yd3, yd4, ⟨x4, ⟨by omega, by omega⟩, ⟨by omega, by omega⟩, by omega, (KX.out.ext (g2.trans (g3.trans (g4)))), (KY.out.ext (g4)), u1.heap.size, u2.heap.size, u3.heap.size, u4.heap.size, by omega, by omega, (hg1.ownAt.ext (g3.trans (g4))), hg2⟩, rfl⟩
    exact AllReadyH.nil
    exact AllReadyH.nil
    refine cons_l (i := 5) rfl (fun K hK => ?_) ?_
    go_simp; obtain ⟨bY, u2, hu, hb, g2, kY, mY, nY, lY⟩ := alloc_named u1 33 #[.slice none 0 0, .int .i64 0, .slice none 0 0]; rw [← hu]; (try rw [← hb]); clear hu hb
    have x2 := x1.trans g2; have z2 := g2.size; have KY := Lib.hid kY; clear kY
    refine hK.out _ _ ?_ (fun hH2 => ?_)
    · (try dsimp only)
      exact HSK.out _ x2
    clear hK K hH1
    (try simp only [Act.put, List.setIfInBounds_toArray, List.set_cons_zero, List.set_cons_succ])
    refine wpAnyH_ready (rs := [1]) (by kernel_rfl) (by simp) ?_
    refine cons_l (i := 1) rfl (fun K hK => ?_) ?_
    go_simp; (go_at_call 30; with_reducible refine (copyLock_any _ _ _ _ _ _ _ _ _ _ _ _ ts _ HN.out HS.out HTS.out (HF.out.ext (HW0.out.trans x2))).mono ?_)
    rintro e u3 ⟨p, q, es, rfl, hg1, g3⟩
    have x3 := x2.trans g3; have z3 := g3.size
    refine hK.out _ _ ?_ (fun hH3 => ?_)
    · (try dsimp only)
      exact HSK.out _ x3
    clear hK K hH2
    (try simp only [Act.put, List.setIfInBounds_toArray, List.set_cons_zero, List.set_cons_succ])
    refine wpAnyH_ready (rs := [3]) (by kernel_rfl) (by simp) ?_
    refine cons_l (i := 3) rfl (fun K hK => ?_) ?_
    go_simp; (go_at_call 31; with_reducible refine (copyReach_any _ _ _ _ _ _ _ ps xs _ HT.out htl HP.out hpl (HFT.out.ext (HW0.out.trans x3)) (HFP.out.ext (HW0.out.trans x3)) HCT.out HCP.out).mono ?_)
    rintro e u4 ⟨a1, c1, a2, c2, rfl, hg2, g4⟩
    have x4 := x3.trans g4; have z4 := g4.size
    refine hK.out _ _ ?_ (fun hH4 => ?_)
    · (try dsimp only)
      exact HSK.out _ x4
    clear hK K hH3
    (try simp only [Act.put, List.setIfInBounds_toArray, List.set_cons_zero, List.set_cons_succ])
    exact hcut _ _ ⟨bX, bY, p, q, a1, c1, a2, c2, yd0, yd1, yd2, yd3, yd4, ⟨x4, ⟨by omega, by omega⟩, ⟨by omega, by omega⟩, by omega, (KX.out.ext (g2.trans (g3.trans (g4)))), (KY.out.ext (g3.trans (g4))), u2.heap.size, u3.heap.size, u3.heap.size, u4.heap.size, by omega, by omega, (hg1.ownAt.ext (g4)), hg2⟩, rfl⟩
    exact AllReadyH.nil
    exact AllReadyH.nil
    exact AllReadyH.nil
    refine cons_l (i := 5) rfl (fun K hK => ?_) ?_
    go_simp; obtain ⟨bY, u1, hu, hb, g1, kY, mY, nY, lY⟩ := alloc_named u0 33 #[.slice none 0 0, .int .i64 0, .slice none 0 0]; rw [← hu]; (try rw [← hb]); clear hu hb
    have x1 := x0.trans g1; have z1 := g1.size; have KY := Lib.hid kY; clear kY
    refine hK.out _ _ ?_ (fun hH1 => ?_)
    · (try dsimp only)
      exact HSK.out _ x1
    clear hK K hH0
    (try simp only [Act.put, List.setIfInBounds_toArray, List.set_cons_zero, List.set_cons_succ])
    refine wpAnyH_ready (rs := [1, 4]) (by kernel_rfl) (by simp) ?_
    refine cons_l (i := 1) rfl (fun K hK => ?_) ?_
    go_simp; (go_at_call 30; with_reducible refine (copyLock_any _ _ _ _ _ _ _ _ _ _ _ _ ts _ HN.out HS.out HTS.out (HF.out.ext (HW0.out.trans x1))).mono ?_)
    rintro e u2 ⟨p, q, es, rfl, hg1, g2⟩
    have x2 := x1.trans g2; have z2 := g2.size
    refine hK.out _ _ ?_ (fun hH2 => ?_)
    · (try dsimp only)
      exact HSK.out _ x2
    clear hK K hH1
    (try simp only [Act.put, List.setIfInBounds_toArray, List.set_cons_zero, List.set_cons_succ])
    refine wpAnyH_ready (rs := [3, 4]) (by kernel_rfl) (by simp) ?_
    refine cons_l (i := 3) rfl (fun K hK => ?_) ?_
    go_simp; (go_at_call 31; with_reducible refine (copyReach_any _ _ _ _ _ _ _ ps xs _ HT.out htl HP.out hpl (HFT.out.ext (HW0.out.trans x2)) (HFP.out.ext (HW0.out.trans x2)) HCT.out HCP.out).mono ?_)
    rintro e u3 ⟨a1, c1, a2, c2, rfl, hg2, g3⟩
    have x3 := x2.trans g3; have z3 := g3.size
    refine hK.out _ _ ?_ (fun hH3 => ?_)
    · (try dsimp only)
      exact HSK.out _ x3
    clear hK K hH2
    (try simp only [Act.put, List.setIfInBounds_toArray, List.set_cons_zero, List.set_cons_succ])
    refine wpAnyH_ready (rs := [4]) (by kernel_rfl) (by simp) ?_
    refine cons_l (i := 4) rfl (fun K hK => ?_) ?_
    go_simp; obtain ⟨bX, u4, hu, hb, g4, kX, mX, nX, lX⟩ := alloc_named u3 26 #[.int .i64 0, .int .i64 0, .int .i64 0, .int .i64 0, .int .i64 0, .int .i64 0, .int .i64 0, .int .i64 0, .int .i64 0, .slice none 0 0]; rw [← hu]; (try rw [← hb]); clear hu hb
    have x4 := x3.trans g4; have z4 := g4.size; have KX := Lib.hid kX; clear kX
    refine hK.out _ _ ?_ (fun hH4 => ?_)
    · (try dsimp only)
      exact HSK.out _ x4
    clear hK K hH3
    (try simp only [Act.put, List.setIfInBounds_toArray, List.set_cons_zero, List.set_cons_succ])
    exact hcut _ _ ⟨bX, bY, p, q, a1, c1, a2, c2, yd0, yd1, yd2, yd3, yd4, ⟨x4, ⟨by omega, by omega⟩, ⟨by omega, by omega⟩, by omega, KX.out, (KY.out.ext (g2.trans (g3.trans (g4)))), u1.heap.size, u2.heap.size, u2.heap.size, u3.heap.size, by omega, by omega, (hg1.ownAt.ext (g3.trans (g4))), (hg2.ext (g4))⟩, rfl⟩
    exact AllReadyH.nil
    refine cons_l (i := 4) rfl (fun K hK => ?_) ?_
    go_simp; obtain ⟨bX, u3, hu, hb, g3, kX, mX, nX, lX⟩ := alloc_named u2 26 #[.int .i64 0, .int .i64 0, .int .i64 0, .int .i64 0, .int .i64 0, .int .i64 0, .int .i64 0, .int .i64 0, .int .i64 0, .slice none 0 0]; rw [← hu]; (try rw [← hb]); clear hu hb
    have x3 := x2.trans g3; have z3 := g3.size; have KX := Lib.hid kX; clear kX
    refine hK.out _ _ ?_ (fun hH3 => ?_)
    · (try dsimp only)
      exact HSK.out _ x3
    clear hK K hH2
    (try simp only [Act.put, List.setIfInBounds_toArray, List.set_cons_zero, List.set_cons_succ])
    refine wpAnyH_ready (rs := [3]) (by kernel_rfl) (by simp) ?_
    refine cons_l (i := 3) rfl (fun K hK => ?_) ?_
    go_simp; (go_at_call 31; with_reducible refine (copyReach_any _ _ _ _ _ _ _ ps xs _ HT.out htl HP.out hpl (HFT.out.ext (HW0.out.trans x3)) (HFP.out.ext (HW0.out.trans x3)) HCT.out HCP.out).mono ?_)
    rintro e u4 ⟨a1, c1, a2, c2, rfl, hg2, g4⟩
    have x4 := x3.trans g4; have z4 := g4.size
    refine hK.out _ _ ?_ (fun hH4 => ?_)
    · (try dsimp only)
      exact HSK.out _ x4
    clear hK K hH3
    (try simp only [Act.put, List.setIfInBounds_toArray, List.set_cons_zero, List.set_cons_succ])
    exact hcut _ _ ⟨bX, bY, p, q, a1, c1, a2, c2, yd0, yd1, yd2, yd3, yd4, ⟨x4, ⟨by omega, by omega⟩, ⟨by omega, by omega⟩, by omega, (KX.out.ext (g4)), (KY.out.ext (g2.trans (g3.trans (g4)))), u1.heap.size, u2.heap.size, u3.heap.size, u4.heap.size, by omega, by omega, (hg1.ownAt.ext (g3.trans (g4))), hg2⟩, rfl⟩
    exact AllReadyH.nil
    exact AllReadyH.nil
    refine cons_l (i := 4) rfl (fun K hK => ?_) ?_
    go_simp; obtain ⟨bX, u2, hu, hb, g2, kX, mX, nX, lX⟩ := alloc_named u1 26 #[.int .i64 0, .int .i64 0, .int .i64 0, .int .i64 0, .int .i64 0, .int .i64 0, .int .i64 0, .int .i64 0, .int .i64 0, .slice none 0 0]; rw [← hu]; (try rw [← hb]); clear hu hb
    have x2 := x1.trans g2; have z2 := g2.size; have KX := Lib.hid kX; clear kX
    refine hK.out _ _ ?_ (fun hH2 => ?_)
    · (try dsimp only)
      exact HSK.out _ x2
    clear hK K hH1
    (try simp only [Act.put, List.setIfInBounds_toArray, List.set_cons_zero, List.set_cons_succ])
    refine wpAnyH_ready (rs := [1]) (by kernel_rfl) (by simp) ?_
    refine cons_l (i := 1) rfl (fun K hK => ?_) ?_
    go_simp; (go_at_call 30; with_reducible refine (copyLock_any _ _ _ _ _ _ _ _ _ _ _ _ ts _ HN.out HS.out HTS.out (HF.out.ext (HW0.out.trans x2))).mono ?_)
    rintro e u3 ⟨p, q, es, rfl, hg1, g3⟩
    have x3 := x2.trans g3; have z3 := g3.size
    refine hK.out _ _ ?_ (fun hH3 => ?_)
    · (try dsimp only)
      exact HSK.out _ x3
    clear hK K hH2
    (try simp only [Act.put, List.setIfInBounds_toArray, List.set_cons_zero, List.set_cons_succ])
    refine wpAnyH_ready (rs := [3]) (by kernel_rfl) (by simp) ?_
    refine cons_l (i := 3) rfl (fun K hK => ?_) ?_
    go_simp; (go_at_call 31; with_reducible refine (copyReach_any _ _ _ _ _ _ _ ps xs _ HT.out htl HP.out hpl (HFT.out.ext (HW0.out.trans x3)) (HFP.out.ext (HW0.out.trans x3)) HCT.out HCP.out).mono ?_)
    rintro e u4 ⟨a1, c1, a2, c2, rfl, hg2, g4⟩
    have x4 := x3.trans g4; have z4 := g4.size
    refine hK.out _ _ ?_ (fun hH4 => ?_)
    · (try dsimp only)
      exact HSK.out _ x4
    clear hK K hH3
    (try simp only [Act.put, List.setIfInBounds_toArray, List.set_cons_zero, List.set_cons_succ])
    exact hcut _ _ ⟨bX, bY, p, q, a1, c1, a2, c2, yd0, yd1, yd2, yd3, yd4, ⟨x4, ⟨by omega, by omega⟩, ⟨by omega, by omega⟩, by omega, (KX.out.ext (g3.trans (g4))), (KY.out.ext (g2.trans (g3.trans (g4)))), u2.heap.size, u3.heap.size, u3.heap.size, u4.heap.size, by omega, by omega, (hg1.ownAt.ext (g4)), hg2⟩, rfl⟩
    exact AllReadyH.nil
    exact AllReadyH.nil
    exact AllReadyH.nil
    exact AllReadyH.nil
  case k =>
    intro bX bY p q a1 c1 a2 c2 y0 y1 y2 y3 y4 wc ⟨hx, hb1, hb2, hbn, hrow, hrow2, lo1, hi1, lo2, hi2, hlo, hbo, ho1, ho2⟩
    have hHc := HSK.out wc hx
    have HX := Lib.hid hx; have zwc := hx.size; clear hx
    have xwbX := hb1.1; have xwbY := hb2.1
    have KB0 := Lib.hid (B0_0.out.ext HX.out)
    have KB1 := Lib.hid (B1_0.out.ext HX.out)
    have KX := Lib.hid hrow; have KY := Lib.hid hrow2; have OT := Lib.hid ho1; have OR := Lib.hid ho2; clear hrow hrow2 ho1 ho2
    refine wpAnyH_ready (rs := [6]) (by kernel_rfl) (by simp) ?_
    refine cons_l (i := 6) rfl (fun K hK => ?_) ?_
    (have hs0 := KX.out.cell (j := 0) (v := .int .i64 0) rfl; have hf0 := KX.out.frozen 0; have hs1 := KX.out.cell (j := 1) (v := .int .i64 0) rfl; have hf1 := KX.out.frozen 1; have hs2 := KX.out.cell (j := 2) (v := .int .i64 0) rfl; have hf2 := KX.out.frozen 2; have hs3 := KX.out.cell (j := 3) (v := .int .i64 0) rfl; have hf3 := KX.out.frozen 3; have hs4 := KX.out.cell (j := 4) (v := .int .i64 0) rfl; have hf4 := KX.out.frozen 4; have hs5 := KX.out.cell (j := 5) (v := .int .i64 0) rfl; have hf5 := KX.out.frozen 5; have hs6 := KX.out.cell (j := 6) (v := .int .i64 0) rfl; have hf6 := KX.out.frozen 6; have hs7 := KX.out.cell (j := 7) (v := .int .i64 0) rfl; have hf7 := KX.out.frozen 7; have hs8 := KX.out.cell (j := 8) (v := .int .i64 0) rfl; have hf8 := KX.out.frozen 8; have hs9 := KX.out.cell (j := 9) (v := .slice none 0 0) rfl; have hf9 := KX.out.frozen 9; go_simp; clear hs0 hf0 hs1 hf1 hs2 hf2 hs3 hf3 hs4 hf4 hs5 hf5 hs6 hf6 hs7 hf7 hs8 hf8 hs9 hf9; obtain ⟨wn, hwn⟩ : ∃ x, x = putAt wc (bX) 0 [.int .i64 x0, .int .i64 x1, .int .i64 x2, .int .i64 x3, .int .i64 x4, .int .i64 x5, .int .i64 x6, .int .i64 x7, .int .i64 x8, .slice p n q] := ⟨_, rfl⟩; have en : ((((((((((wc.setCell ⟨bX, 0, none⟩ (.int .i64 x0)).setCell ⟨bX, 1, none⟩ (.int .i64 x1)).setCell ⟨bX, 2, none⟩ (.int .i64 x2)).setCell ⟨bX, 3, none⟩ (.int .i64 x3)).setCell ⟨bX, 4, none⟩ (.int .i64 x4)).setCell ⟨bX, 5, none⟩ (.int .i64 x5)).setCell ⟨bX, 6, none⟩ (.int .i64 x6)).setCell ⟨bX, 7, none⟩ (.int .i64 x7)).setCell ⟨bX, 8, none⟩ (.int .i64 x8)).setCell ⟨bX, 9, none⟩ (.slice p n q)) = wn := (by rw [hwn]; rfl); rw [en]; clear en; have zz6 : wc.heap.size ≤ wn.heap.size := (by rw [hwn, put_size]; exact Nat.le_refl _); (first | replace HX := Lib.hid (show Ext wz wn by rw [hwn]; exact put_ext (by first | assumption | omega) _ _ _ HX.out) | skip); (try replace KB0 := Lib.hid (show RowAt wn (w.heap.size) 26 _ by rw [hwn]; exact put_other (by omega) _ _ _ KB0.out)); (try replace KB1 := Lib.hid (show RowAt wn (w.heap.size + 1) 33 _ by rw [hwn]; exact put_other (by omega) _ _ _ KB1.out)); replace KX := Lib.hid (RowAt.cast (c' := #[.int .i64 x0, .int .i64 x1, .int .i64 x2, .int .i64 x3, .int .i64 x4, .int .i64 x5, .int .i64 x6, .int .i64 x7, .int .i64 x8, .slice p n q]) (show RowAt wn (bX) 26 (putArr #[.int .i64 0, .int .i64 0, .int .i64 0, .int .i64 0, .int .i64 0, .int .i64 0, .int .i64 0, .int .i64 0, .int .i64 0, .slice none 0 0] 0 [.int .i64 x0, .int .i64 x1, .int .i64 x2, .int .i64 x3, .int .i64 x4, .int .i64 x5, .int .i64 x6, .int .i64 x7, .int .i64 x8, .slice p n q]) by rw [hwn]; exact put_at _ _ _ _ KX.out) (by simp [putArr])); (try replace KY := Lib.hid (show RowAt wn (bY) 33 _ by rw [hwn]; exact put_other (by omega) _ _ _ KY.out)); (try replace OT := Lib.hid (OT.out.keep (w' := wn) (Nat.le_refl _) (Nat.le_refl _) (by rw [hwn]; exact put_kept (by omega)))); (try replace OR := Lib.hid (OR.out.keep (w' := wn) (Nat.le_refl _) (Nat.le_refl _) (by rw [hwn]; exact put_kept (by omega)))); clear hwn; obtain ⟨wc, hq⟩ : ∃ x, x = wn := ⟨_, rfl⟩; subst hq)
    refine hK.out _ _ ?_ (fun hHd => ?_)
    · (try dsimp only)
      exact ⟨KB0.out.cell rfl, KB0.out.cell rfl, KB0.out.cell rfl, KB0.out.cell rfl, KB0.out.cell rfl, KB0.out.cell rfl, KB0.out.cell rfl, KB0.out.cell rfl, KB0.out.cell rfl, KB0.out.cell rfl, KB1.out.cell rfl, KB1.out.cell rfl, KB1.out.cell rfl⟩
    clear hK K hHc
    have hHc := hHd; clear hHd
    (try simp only [Act.put, List.setIfInBounds_toArray, List.set_cons_zero, List.set_cons_succ])
    refine wpAnyH_ready (rs := [7]) (by kernel_rfl) (by simp) ?_
    refine cons_l (i := 7) rfl (fun K hK => ?_) ?_
    (have hs0 := KY.out.cell (j := 0) (v := .slice none 0 0) rfl; have hf0 := KY.out.frozen 0; have hs1 := KY.out.cell (j := 1) (v := .int .i64 0) rfl; have hf1 := KY.out.frozen 1; have hs2 := KY.out.cell (j := 2) (v := .slice none 0 0) rfl; have hf2 := KY.out.frozen 2; go_simp; clear hs0 hf0 hs1 hf1 hs2 hf2; obtain ⟨wn, hwn⟩ : ∃ x, x = putAt wc (bY) 0 [.slice a1 tn c1, .int .i64 vol, .slice a2 pn c2] := ⟨_, rfl⟩; have en : (((wc.setCell ⟨bY, 0, none⟩ (.slice a1 tn c1)).setCell ⟨bY, 1, none⟩ (.int .i64 vol)).setCell ⟨bY, 2, none⟩ (.slice a2 pn c2)) = wn := (by rw [hwn]; rfl); rw [en]; clear en; have zz7 : wc.heap.size ≤ wn.heap.size := (by rw [hwn, put_size]; exact Nat.le_refl _); (first | replace HX := Lib.hid (show Ext wz wn by rw [hwn]; exact put_ext (by first | assumption | omega) _ _ _ HX.out) | skip); (try replace KB0 := Lib.hid (show RowAt wn (w.heap.size) 26 _ by rw [hwn]; exact put_other (by omega) _ _ _ KB0.out)); (try replace KB1 := Lib.hid (show RowAt wn (w.heap.size + 1) 33 _ by rw [hwn]; exact put_other (by omega) _ _ _ KB1.out)); (try replace KX := Lib.hid (show RowAt wn (bX) 26 _ by rw [hwn]; exact put_other (by omega) _ _ _ KX.out)); replace KY := Lib.hid (RowAt.cast (c' := #[.slice a1 tn c1, .int .i64 vol, .slice a2 pn c2]) (show RowAt wn (bY) 33 (putArr #[.slice none 0 0, .int .i64 0, .slice none 0 0] 0 [.slice a1 tn c1, .int .i64 vol, .slice a2 pn c2]) by rw [hwn]; exact put_at _ _ _ _ KY.out) (by simp [putArr])); (try replace OT := Lib.hid (OT.out.keep (w' := wn) (Nat.le_refl _) (Nat.le_refl _) (by rw [hwn]; exact put_kept (by omega)))); (try replace OR := Lib.hid (OR.out.keep (w' := wn) (Nat.le_refl _) (Nat.le_refl _) (by rw [hwn]; exact put_kept (by omega)))); clear hwn; obtain ⟨wc, hq⟩ : ∃ x, x = wn := ⟨_, rfl⟩; subst hq)
    refine hK.out _ _ ?_ (fun hHd => ?_)
    · (try dsimp only)
      exact ⟨KB0.out.cell rfl, KB0.out.cell rfl, KB0.out.cell rfl, KB0.out.cell rfl, KB0.out.cell rfl, KB0.out.cell rfl, KB0.out.cell rfl, KB0.out.cell rfl, KB0.out.cell rfl, KB0.out.cell rfl, KB1.out.cell rfl, KB1.out.cell rfl, KB1.out.cell rfl⟩
    clear hK K hHc
    have hHc := hHd; clear hHd
    (try simp only [Act.put, List.setIfInBounds_toArray, List.set_cons_zero, List.set_cons_succ])
    refine wpAnyH_done (by kernel_rfl) ?_ _
    rotate_left
    exact AllReadyH.nil
    exact AllReadyH.nil
    obtain ⟨w1, hq⟩ : ∃ x, x = wc := ⟨_, rfl⟩; subst hq
    clear hHc HSK KB0 KB1
    have hb := HX.out; clear HX
    (try dsimp only)
    have HW1 := Lib.hid (HW0.out.trans hb)
    have B0_1 := Lib.hid (B0_0.out.ext hb)
    have B1_1 := Lib.hid (B1_0.out.ext hb)
    have RES0_1 := Lib.hid (RES0_0.out.ext hb)
    have RES1_1 := Lib.hid (RES1_0.out.ext hb)
    have zz1 := hb.size
    clear HW0 B0_0 B1_0 RES0_0 RES1_0 hb
    have X_1 := KX; clear KX
    have Y_1 := KY; clear KY
    have OT_1 := OT; clear OT
    have OR_1 := OR; clear OR
    cases k1
    · obtain ⟨rfl, rfl⟩ : x7 = wa ∧ vol = vo := by simpa using hres
      clear hres
      have cB00 : ∀ y : Aft w1, y.1.cell? ⟨w.heap.size, 0, none⟩ = some (.int .i64 x0) := fun y => (B0_1.out.ext y.2).cell rfl
      have cB01 : ∀ y : Aft w1, y.1.cell? ⟨w.heap.size, 1, none⟩ = some (.int .i64 x1) := fun y => (B0_1.out.ext y.2).cell rfl
      have cB02 : ∀ y : Aft w1, y.1.cell? ⟨w.heap.size, 2, none⟩ = some (.int .i64 x2) := fun y => (B0_1.out.ext y.2).cell rfl
      have cB03 : ∀ y : Aft w1, y.1.cell? ⟨w.heap.size, 3, none⟩ = some (.int .i64 x3) := fun y => (B0_1.out.ext y.2).cell rfl
      have cB04 : ∀ y : Aft w1, y.1.cell? ⟨w.heap.size, 4, none⟩ = some (.int .i64 x4) := fun y => (B0_1.out.ext y.2).cell rfl
      have cB05 : ∀ y : Aft w1, y.1.cell? ⟨w.heap.size, 5, none⟩ = some (.int .i64 x5) := fun y => (B0_1.out.ext y.2).cell rfl
      have cB06 : ∀ y : Aft w1, y.1.cell? ⟨w.heap.size, 6, none⟩ = some (.int .i64 x6) := fun y => (B0_1.out.ext y.2).cell rfl
      have cB07 : ∀ y : Aft w1, y.1.cell? ⟨w.heap.size, 7, none⟩ = some (.int .i64 x7) := fun y => (B0_1.out.ext y.2).cell rfl
      have cB08 : ∀ y : Aft w1, y.1.cell? ⟨w.heap.size, 8, none⟩ = some (.int .i64 x8) := fun y => (B0_1.out.ext y.2).cell rfl
      have cB09 : ∀ y : Aft w1, y.1.cell? ⟨w.heap.size, 9, none⟩ = some (.slice a n c) := fun y => (B0_1.out.ext y.2).cell rfl
      have cB10 : ∀ y : Aft w1, y.1.cell? ⟨w.heap.size + 1, 0, none⟩ = some (.slice ta tn tc) := fun y => (B1_1.out.ext y.2).cell rfl
      have cB11 : ∀ y : Aft w1, y.1.cell? ⟨w.heap.size + 1, 1, none⟩ = some (.int .i64 vol) := fun y => (B1_1.out.ext y.2).cell rfl
      have cB12 : ∀ y : Aft w1, y.1.cell? ⟨w.heap.size + 1, 2, none⟩ = some (.slice pa pn pc) := fun y => (B1_1.out.ext y.2).cell rfl
      go_wp2_with fail
      (refine wp_region_aft w1 (Ext.refl _) (by kernel_rfl) (by kernel_rfl) ?_; (repeat (go_big_quiet_step ((first | (go_at_call 21; exact aft_call (implLockOk_any false _ _ _ _ _ _ _ _ _ _ _ _ ts _ HN.out HS.out HTS.out (HF.out.ext (HW1.out.trans (Subtype.property _))) HK1.out)))))); refine wpQuiet_nil ?_; intro w2 hx2)
      clear cB00 cB01 cB02 cB03 cB04 cB05 cB06 cB07 cB08 cB09 cB10 cB11 cB12
      obtain ⟨w2, hq⟩ : ∃ x, x = w2 := ⟨_, rfl⟩; subst hq
      have HW2 := Lib.hid (HW1.out.trans hx2)
      have B0_2 := Lib.hid (B0_1.out.ext hx2)
      have B1_2 := Lib.hid (B1_1.out.ext hx2)
      have RES0_2 := Lib.hid (RES0_1.out.ext hx2)
      have RES1_2 := Lib.hid (RES1_1.out.ext hx2)
      have X_2 := Lib.hid (X_1.out.ext hx2)
      have Y_2 := Lib.hid (Y_1.out.ext hx2)
      have OT_2 := Lib.hid (OT_1.out.ext hx2)
      have OR_2 := Lib.hid (OR_1.out.ext hx2)
      have zz2 := hx2.size
      clear HW1 B0_1 B1_1 RES0_1 RES1_1 X_1 Y_1 OT_1 OR_1 hx2
      go_wp2_with fail
      have KX := X_2
      have KY := Y_2
      have KRES0 := RES0_2
      have KRES1 := RES1_2
      have OOT := OT_2
      have OOR := OR_2
      have HWX := HW2
      refine wp_region_held_drew (S := (fun w' => w'.cell? ⟨bX, 0, none⟩ = some (.int .i64 x0) ∧ w'.cell? ⟨bX, 1, none⟩ = some (.int .i64 x1) ∧ w'.cell? ⟨bX, 2, none⟩ = some (.int .i64 x2) ∧ w'.cell? ⟨bX, 3, none⟩ = some (.int .i64 x3) ∧ w'.cell? ⟨bX, 4, none⟩ = some (.int .i64 x4) ∧ w'.cell? ⟨bX, 5, none⟩ = some (.int .i64 x5) ∧ w'.cell? ⟨bX, 6, none⟩ = some (.int .i64 x6) ∧ w'.cell? ⟨bX, 7, none⟩ = some (.int .i64 x7) ∧ w'.cell? ⟨bX, 8, none⟩ = some (.int .i64 x8) ∧ w'.cell? ⟨bX, 9, none⟩ = some (.slice p n q) ∧ w'.cell? ⟨bY, 0, none⟩ = some (.slice a1 tn c1) ∧ w'.cell? ⟨bY, 1, none⟩ = some (.int .i64 vol) ∧ w'.cell? ⟨bY, 2, none⟩ = some (.slice a2 pn c2))) (by kernel_rfl) ?_ (fun hH0 => ?_)
      · (try dsimp only)
        (exact ⟨KX.out.cell rfl, KX.out.cell rfl, KX.out.cell rfl, KX.out.cell rfl, KX.out.cell rfl, KX.out.cell rfl, KX.out.cell rfl, KX.out.cell rfl, KX.out.cell rfl, KX.out.cell rfl, KY.out.cell rfl, KY.out.cell rfl, KY.out.cell rfl⟩)
      (obtain ⟨wc, hwc⟩ : ∃ x, x = w2.drew := ⟨_, rfl⟩; have hdr : Ext w2 wc := (by rw [hwc]; exact (Ext.refl _).drew); (try rw [← hwc] at hH0); (try rw [← hwc]); have zdr : w2.heap.size ≤ wc.heap.size := hdr.size; have HX := Lib.hid hdr; have KX := Lib.hid (X_2.out.ext hdr); have KY := Lib.hid (Y_2.out.ext hdr); have KRES0 := Lib.hid (RES0_2.out.ext hdr); have KRES1 := Lib.hid (RES1_2.out.ext hdr); have OOT := Lib.hid (OT_2.out.ext hdr); have OOR := Lib.hid (OR_2.out.ext hdr); clear hwc hdr; replace HWX := Lib.hid (HWX.out.trans HX.out))
      refine take_l 0 (v := ?_) rfl (by kernel_rfl) (by kernel_rfl) (by kernel_rfl) (fun _ _ _ h => h) (by rfl) ?_ (by assumption) ?_
      rotate_left
      · (intro w hSw; (try dsimp only at hSw); go_simp; (try with_reducible rfl))
      (try simp only [Act.put, List.setIfInBounds_toArray, List.set_cons_zero, List.set_cons_succ])
      refine take_l 1 (v := ?_) rfl (by kernel_rfl) (by kernel_rfl) (by kernel_rfl) (fun _ _ _ h => h) (by rfl) ?_ (by assumption) ?_
      rotate_left
      · (intro w hSw; (try dsimp only at hSw); go_simp; (try with_reducible rfl))
      (try simp only [Act.put, List.setIfInBounds_toArray, List.set_cons_zero, List.set_cons_succ])
      refine wpAnyH_ready (rs := [2]) (by kernel_rfl) (by simp) ?_
      refine cons_l (i := 2) rfl (fun K hK => ?_) ?_
      (have hs0 := KRES0.out.cell (j := 0) (v := .int .i64 0) rfl; have hf0 := KRES0.out.frozen 0; have hs1 := KRES0.out.cell (j := 1) (v := .int .i64 0) rfl; have hf1 := KRES0.out.frozen 1; have hs2 := KRES0.out.cell (j := 2) (v := .int .i64 0) rfl; have hf2 := KRES0.out.frozen 2; have hs3 := KRES0.out.cell (j := 3) (v := .int .i64 0) rfl; have hf3 := KRES0.out.frozen 3; have hs4 := KRES0.out.cell (j := 4) (v := .int .i64 0) rfl; have hf4 := KRES0.out.frozen 4; have hs5 := KRES0.out.cell (j := 5) (v := .int .i64 0) rfl; have hf5 := KRES0.out.frozen 5; have hs6 := KRES0.out.cell (j := 6) (v := .int .i64 0) rfl; have hf6 := KRES0.out.frozen 6; have hs7 := KRES0.out.cell (j := 7) (v := .int .i64 0) rfl; have hf7 := KRES0.out.frozen 7; have hs8 := KRES0.out.cell (j := 8) (v := .int .i64 0) rfl; have hf8 := KRES0.out.frozen 8; have hs9 := KRES0.out.cell (j := 9) (v := .slice none 0 0) rfl; have hf9 := KRES0.out.frozen 9; go_simp; clear hs0 hf0 hs1 hf1 hs2 hf2 hs3 hf3 hs4 hf4 hs5 hf5 hs6 hf6 hs7 hf7 hs8 hf8 hs9 hf9; obtain ⟨wn, hwn⟩ : ∃ x, x = putAt wc (w.heap.size + 1 + 1) 0 [.int .i64 x0, .int .i64 x1, .int .i64 x2, .int .i64 x3, .int .i64 x4, .int .i64 x5, .int .i64 x6, .int .i64 x7, .int .i64 x8, .slice p n q] := ⟨_, rfl⟩; have en : ((((((((((wc.setCell ⟨w.heap.size + 1 + 1, 0, none⟩ (.int .i64 x0)).setCell ⟨w.heap.size + 1 + 1, 1, none⟩ (.int .i64 x1)).setCell ⟨w.heap.size + 1 + 1, 2, none⟩ (.int .i64 x2)).setCell ⟨w.heap.size + 1 + 1, 3, none⟩ (.int .i64 x3)).setCell ⟨w.heap.size + 1 + 1, 4, none⟩ (.int .i64 x4)).setCell ⟨w.heap.size + 1 + 1, 5, none⟩ (.int .i64 x5)).setCell ⟨w.heap.size + 1 + 1, 6, none⟩ (.int .i64 x6)).setCell ⟨w.heap.size + 1 + 1, 7, none⟩ (.int .i64 x7)).setCell ⟨w.heap.size + 1 + 1, 8, none⟩ (.int .i64 x8)).setCell ⟨w.heap.size + 1 + 1, 9, none⟩ (.slice p n q)) = wn := (by rw [hwn]; rfl); rw [en]; clear en; have zz2 : wc.heap.size ≤ wn.heap.size := (by rw [hwn, put_size]; exact Nat.le_refl _); (first | replace HX := Lib.hid (show Ext w2 wn by rw [hwn]; exact put_ext (by first | assumption | omega) _ _ _ HX.out) | skip); (try replace KX := Lib.hid (show RowAt wn (bX) 26 _ by rw [hwn]; exact put_other (by omega) _ _ _ KX.out)); (try replace KY := Lib.hid (show RowAt wn (bY) 33 _ by rw [hwn]; exact put_other (by omega) _ _ _ KY.out)); replace KRES0 := Lib.hid (RowAt.cast (c' := #[.int .i64 x0, .int .i64 x1, .int .i64 x2, .int .i64 x3, .int .i64 x4, .int .i64 x5, .int .i64 x6, .int .i64 x7, .int .i64 x8, .slice p n q]) (show RowAt wn (w.heap.size + 1 + 1) 26 (putArr #[.int .i64 0, .int .i64 0, .int .i64 0, .int .i64 0, .int .i64 0, .int .i64 0, .int .i64 0, .int .i64 0, .int .i64 0, .slice none 0 0] 0 [.int .i64 x0, .int .i64 x1, .int .i64 x2, .int .i64 x3, .int .i64 x4, .int .i64 x5, .int .i64 x6, .int .i64 x7, .int .i64 x8, .slice p n q]) by rw [hwn]; exact put_at _ _ _ _ KRES0.out) (by simp [putArr])); (try replace KRES1 := Lib.hid (show RowAt wn (w.heap.size + 1 + 1 + 1) 33 _ by rw [hwn]; exact put_other (by omega) _ _ _ KRES1.out)); (try replace OOT := Lib.hid (OOT.out.keep (w' := wn) (Nat.le_refl _) (Nat.le_refl _) (by rw [hwn]; exact put_kept (by omega)))); (try replace OOR := Lib.hid (OOR.out.keep (w' := wn) (Nat.le_refl _) (Nat.le_refl _) (by rw [hwn]; exact put_kept (by omega)))); (try replace HWX := Lib.hid (show Ext _ wn by rw [hwn]; exact put_ext (by omega) _ _ _ HWX.out)); clear hwn; obtain ⟨wc, hq⟩ : ∃ x, x = wn := ⟨_, rfl⟩; subst hq)
      refine hK.out _ _ ?_ (fun hH1 => ?_)
      · (try dsimp only)
        (exact ⟨KX.out.cell rfl, KX.out.cell rfl, KX.out.cell rfl, KX.out.cell rfl, KX.out.cell rfl, KX.out.cell rfl, KX.out.cell rfl, KX.out.cell rfl, KX.out.cell rfl, KX.out.cell rfl, KY.out.cell rfl, KY.out.cell rfl, KY.out.cell rfl⟩)
      clear hK K hH0
      (try simp only [Act.put, List.setIfInBounds_toArray, List.set_cons_zero, List.set_cons_succ])
      refine wpAnyH_ready (rs := [3]) (by kernel_rfl) (by simp) ?_
      refine cons_l (i := 3) rfl (fun K hK => ?_) ?_
      (have hs0 := KRES1.out.cell (j := 0) (v := .slice none 0 0) rfl; have hf0 := KRES1.out.frozen 0; have hs1 := KRES1.out.cell (j := 1) (v := .int .i64 0) rfl; have hf1 := KRES1.out.frozen 1; have hs2 := KRES1.out.cell (j := 2) (v := .slice none 0 0) rfl; have hf2 := KRES1.out.frozen 2; go_simp; clear hs0 hf0 hs1 hf1 hs2 hf2; obtain ⟨wn, hwn⟩ : ∃ x, x = putAt wc (w.heap.size + 1 + 1 + 1) 0 [.slice a1 tn c1, .int .i64 vol, .slice a2 pn c2] := ⟨_, rfl⟩; have en : (((wc.setCell ⟨w.heap.size + 1 + 1 + 1, 0, none⟩ (.slice a1 tn c1)).setCell ⟨w.heap.size + 1 + 1 + 1, 1, none⟩ (.int .i64 vol)).setCell ⟨w.heap.size + 1 + 1 + 1, 2, none⟩ (.slice a2 pn c2)) = wn := (by rw [hwn]; rfl); rw [en]; clear en; have zz3 : wc.heap.size ≤ wn.heap.size := (by rw [hwn, put_size]; exact Nat.le_refl _); (first | replace HX := Lib.hid (show Ext w2 wn by rw [hwn]; exact put_ext (by first | assumption | omega) _ _ _ HX.out) | skip); (try replace KX := Lib.hid (show RowAt wn (bX) 26 _ by rw [hwn]; exact put_other (by omega) _ _ _ KX.out)); (try replace KY := Lib.hid (show RowAt wn (bY) 33 _ by rw [hwn]; exact put_other (by omega) _ _ _ KY.out)); (try replace KRES0 := Lib.hid (show RowAt wn (w.heap.size + 1 + 1) 26 _ by rw [hwn]; exact put_other (by omega) _ _ _ KRES0.out)); replace KRES1 := Lib.hid (RowAt.cast (c' := #[.slice a1 tn c1, .int .i64 vol, .slice a2 pn c2]) (show RowAt wn (w.heap.size + 1 + 1 + 1) 33 (putArr #[.slice none 0 0, .int .i64 0, .slice none 0 0] 0 [.slice a1 tn c1, .int .i64 vol, .slice a2 pn c2]) by rw [hwn]; exact put_at _ _ _ _ KRES1.out) (by simp [putArr])); (try replace OOT := Lib.hid (OOT.out.keep (w' := wn) (Nat.le_refl _) (Nat.le_refl _) (by rw [hwn]; exact put_kept (by omega)))); (try replace OOR := Lib.hid (OOR.out.keep (w' := wn) (Nat.le_refl _) (Nat.le_refl _) (by rw [hwn]; exact put_kept (by omega)))); (try replace HWX := Lib.hid (show Ext _ wn by rw [hwn]; exact put_ext (by omega) _ _ _ HWX.out)); clear hwn; obtain ⟨wc, hq⟩ : ∃ x, x = wn := ⟨_, rfl⟩; subst hq)
      refine hK.out _ _ ?_ (fun hH2 => ?_)
      · (try dsimp only)
        (exact ⟨KX.out.cell rfl, KX.out.cell rfl, KX.out.cell rfl, KX.out.cell rfl, KX.out.cell rfl, KX.out.cell rfl, KX.out.cell rfl, KX.out.cell rfl, KX.out.cell rfl, KX.out.cell rfl, KY.out.cell rfl, KY.out.cell rfl, KY.out.cell rfl⟩)
      clear hK K hH1
      (try simp only [Act.put, List.setIfInBounds_toArray, List.set_cons_zero, List.set_cons_succ])
      refine wpAnyH_done (by kernel_rfl) ?_ _
      rotate_left
      exact AllReadyH.nil
      exact AllReadyH.nil
      go_wp2
      have q0_0 : wc.cell? ⟨w.heap.size + 1 + 1, 0, none⟩ = some (.int .i64 x0) := KRES0.out.cell rfl
      have q0_1 : wc.cell? ⟨w.heap.size + 1 + 1, 1, none⟩ = some (.int .i64 x1) := KRES0.out.cell rfl
      have q0_2 : wc.cell? ⟨w.heap.size + 1 + 1, 2, none⟩ = some (.int .i64 x2) := KRES0.out.cell rfl
      have q0_3 : wc.cell? ⟨w.heap.size + 1 + 1, 3, none⟩ = some (.int .i64 x3) := KRES0.out.cell rfl
      have q0_4 : wc.cell? ⟨w.heap.size + 1 + 1, 4, none⟩ = some (.int .i64 x4) := KRES0.out.cell rfl
      have q0_5 : wc.cell? ⟨w.heap.size + 1 + 1, 5, none⟩ = some (.int .i64 x5) := KRES0.out.cell rfl
      have q0_6 : wc.cell? ⟨w.heap.size + 1 + 1, 6, none⟩ = some (.int .i64 x6) := KRES0.out.cell rfl
      have q0_7 : wc.cell? ⟨w.heap.size + 1 + 1, 7, none⟩ = some (.int .i64 x7) := KRES0.out.cell rfl
      have q0_8 : wc.cell? ⟨w.heap.size + 1 + 1, 8, none⟩ = some (.int .i64 x8) := KRES0.out.cell rfl
      have q0_9 : wc.cell? ⟨w.heap.size + 1 + 1, 9, none⟩ = some (.slice p n q) := KRES0.out.cell rfl
      have q1_0 : wc.cell? ⟨w.heap.size + 1 + 1 + 1, 0, none⟩ = some (.slice a1 tn c1) := KRES1.out.cell rfl
      have q1_1 : wc.cell? ⟨w.heap.size + 1 + 1 + 1, 1, none⟩ = some (.int .i64 vol) := KRES1.out.cell rfl
      have q1_2 : wc.cell? ⟨w.heap.size + 1 + 1 + 1, 2, none⟩ = some (.slice a2 pn c2) := KRES1.out.cell rfl
      refine bodyPost_ret (v := .tuple #[.agg #[.int .i64 x0, .int .i64 x1, .int .i64 x2, .int .i64 x3, .int .i64 x4, .int .i64 x5, .int .i64 x6, .int .i64 x7, .int .i64 x8, .slice p n q], .agg #[.slice a1 tn c1, .int .i64 vol, .slice a2 pn c2]]) (by simp [results, Try.results10, go_sem, *]) rfl ⟨p, q, _, _, _, _, rfl, LockReach.mk (lo1 := lo1) (hi1 := hi1) (lo2 := lo2) (hi2 := hi2) (by omega) (by omega) (by omega) (by omega) (by omega) OOT.out OOR.out, HWX.out⟩
    cases k2
    · obtain ⟨rfl, rfl⟩ : x7 = wa ∧ vol = vo := by simpa using hres
      clear hres
      have cB00 : ∀ y : Aft w1, y.1.cell? ⟨w.heap.size, 0, none⟩ = some (.int .i64 x0) := fun y => (B0_1.out.ext y.2).cell rfl
      have cB01 : ∀ y : Aft w1, y.1.cell? ⟨w.heap.size, 1, none⟩ = some (.int .i64 x1) := fun y => (B0_1.out.ext y.2).cell rfl
      have cB02 : ∀ y : Aft w1, y.1.cell? ⟨w.heap.size, 2, none⟩ = some (.int .i64 x2) := fun y => (B0_1.out.ext y.2).cell rfl
      have cB03 : ∀ y : Aft w1, y.1.cell? ⟨w.heap.size, 3, none⟩ = some (.int .i64 x3) := fun y => (B0_1.out.ext y.2).cell rfl
      have cB04 : ∀ y : Aft w1, y.1.cell? ⟨w.heap.size, 4, none⟩ = some (.int .i64 x4) := fun y => (B0_1.out.ext y.2).cell rfl
      have cB05 : ∀ y : Aft w1, y.1.cell? ⟨w.heap.size, 5, none⟩ = some (.int .i64 x5) := fun y => (B0_1.out.ext y.2).cell rfl
      have cB06 : ∀ y : Aft w1, y.1.cell? ⟨w.heap.size, 6, none⟩ = some (.int .i64 x6) := fun y => (B0_1.out.ext y.2).cell rfl
      have cB07 : ∀ y : Aft w1, y.1.cell? ⟨w.heap.size, 7, none⟩ = some (.int .i64 x7) := fun y => (B0_1.out.ext y.2).cell rfl
      have cB08 : ∀ y : Aft w1, y.1.cell? ⟨w.heap.size, 8, none⟩ = some (.int .i64 x8) := fun y => (B0_1.out.ext y.2).cell rfl
      have cB09 : ∀ y : Aft w1, y.1.cell? ⟨w.heap.size, 9, none⟩ = some (.slice a n c) := fun y => (B0_1.out.ext y.2).cell rfl
      have cB10 : ∀ y : Aft w1, y.1.cell? ⟨w.heap.size + 1, 0, none⟩ = some (.slice ta tn tc) := fun y => (B1_1.out.ext y.2).cell rfl
      have cB11 : ∀ y : Aft w1, y.1.cell? ⟨w.heap.size + 1, 1, none⟩ = some (.int .i64 vol) := fun y => (B1_1.out.ext y.2).cell rfl
      have cB12 : ∀ y : Aft w1, y.1.cell? ⟨w.heap.size + 1, 2, none⟩ = some (.slice pa pn pc) := fun y => (B1_1.out.ext y.2).cell rfl
      go_wp2_with fail
      (refine wp_region_aft w1 (Ext.refl _) (by kernel_rfl) (by kernel_rfl) ?_; (repeat (go_big_quiet_step ((first | (go_at_call 21; exact aft_call (implLockOk_any true _ _ _ _ _ _ _ _ _ _ _ _ ts _ HN.out HS.out HTS.out (HF.out.ext (HW1.out.trans (Subtype.property _))) HK1.out)) | (go_at_call 29; exact aft_call (implReachOk_is false _ _ _ _ _ _ _ ps xs _ HT.out HTL.out HP.out HPL.out (HFT.out.ext (HW1.out.trans (Subtype.property _))) (HFP.out.ext (HW1.out.trans (Subtype.property _))) hvol HK2.out)))))); refine wpQuiet_nil ?_; intro w2 hx2)
      clear cB00 cB01 cB02 cB03 cB04 cB05 cB06 cB07 cB08 cB09 cB10 cB11 cB12
      obtain ⟨w2, hq⟩ : ∃ x, x = w2 := ⟨_, rfl⟩; subst hq
      have HW2 := Lib.hid (HW1.out.trans hx2)
      have B0_2 := Lib.hid (B0_1.out.ext hx2)
      have B1_2 := Lib.hid (B1_1.out.ext hx2)
      have RES0_2 := Lib.hid (RES0_1.out.ext hx2)
      have RES1_2 := Lib.hid (RES1_1.out.ext hx2)
      have X_2 := Lib.hid (X_1.out.ext hx2)
      have Y_2 := Lib.hid (Y_1.out.ext hx2)
      have OT_2 := Lib.hid (OT_1.out.ext hx2)
      have OR_2 := Lib.hid (OR_1.out.ext hx2)
      have zz2 := hx2.size
      clear HW1 B0_1 B1_1 RES0_1 RES1_1 X_1 Y_1 OT_1 OR_1 hx2
      go_wp2_with fail
      have KX := X_2
      have KY := Y_2
      have KRES0 := RES0_2
      have KRES1 := RES1_2
      have OOT := OT_2
      have OOR := OR_2
      have HWX := HW2
      refine wp_region_held_drew (S := (fun w' => w'.cell? ⟨bX, 0, none⟩ = some (.int .i64 x0) ∧ w'.cell? ⟨bX, 1, none⟩ = some (.int .i64 x1) ∧ w'.cell? ⟨bX, 2, none⟩ = some (.int .i64 x2) ∧ w'.cell? ⟨bX, 3, none⟩ = some (.int .i64 x3) ∧ w'.cell? ⟨bX, 4, none⟩ = some (.int .i64 x4) ∧ w'.cell? ⟨bX, 5, none⟩ = some (.int .i64 x5) ∧ w'.cell? ⟨bX, 6, none⟩ = some (.int .i64 x6) ∧ w'.cell? ⟨bX, 7, none⟩ = some (.int .i64 x7) ∧ w'.cell? ⟨bX, 8, none⟩ = some (.int .i64 x8) ∧ w'.cell? ⟨bX, 9, none⟩ = some (.slice p n q) ∧ w'.cell? ⟨bY, 0, none⟩ = some (.slice a1 tn c1) ∧ w'.cell? ⟨bY, 1, none⟩ = some (.int .i64 vol) ∧ w'.cell? ⟨bY, 2, none⟩ = some (.slice a2 pn c2))) (by kernel_rfl) ?_ (fun hH0 => ?_)
      · (try dsimp only)
        (exact ⟨KX.out.cell rfl, KX.out.cell rfl, KX.out.cell rfl, KX.out.cell rfl, KX.out.cell rfl, KX.out.cell rfl, KX.out.cell rfl, KX.out.cell rfl, KX.out.cell rfl, KX.out.cell rfl, KY.out.cell rfl, KY.out.cell rfl, KY.out.cell rfl⟩)
      (obtain ⟨wc, hwc⟩ : ∃ x, x = w2.drew := ⟨_, rfl⟩; have hdr : Ext w2 wc := (by rw [hwc]; exact (Ext.refl _).drew); (try rw [← hwc] at hH0); (try rw [← hwc]); have zdr : w2.heap.size ≤ wc.heap.size := hdr.size; have HX := Lib.hid hdr; have KX := Lib.hid (X_2.out.ext hdr); have KY := Lib.hid (Y_2.out.ext hdr); have KRES0 := Lib.hid (RES0_2.out.ext hdr); have KRES1 := Lib.hid (RES1_2.out.ext hdr); have OOT := Lib.hid (OT_2.out.ext hdr); have OOR := Lib.hid (OR_2.out.ext hdr); clear hwc hdr; replace HWX := Lib.hid (HWX.out.trans HX.out))
      refine take_l 0 (v := ?_) rfl (by kernel_rfl) (by kernel_rfl) (by kernel_rfl) (fun _ _ _ h => h) (by rfl) ?_ (by assumption) ?_
      rotate_left
      · (intro w hSw; (try dsimp only at hSw); go_simp; (try with_reducible rfl))
      (try simp only [Act.put, List.setIfInBounds_toArray, List.set_cons_zero, List.set_cons_succ])
      refine take_l 1 (v := ?_) rfl (by kernel_rfl) (by kernel_rfl) (by kernel_rfl) (fun _ _ _ h => h) (by rfl) ?_ (by assumption) ?_
      rotate_left
      · (intro w hSw; (try dsimp only at hSw); go_simp; (try with_reducible rfl))
      (try simp only [Act.put, List.setIfInBounds_toArray, List.set_cons_zero, List.set_cons_succ])
      refine wpAnyH_ready (rs := [2]) (by kernel_rfl) (by simp) ?_
      refine cons_l (i := 2) rfl (fun K hK => ?_) ?_
      (have hs0 := KRES0.out.cell (j := 0) (v := .int .i64 0) rfl; have hf0 := KRES0.out.frozen 0; have hs1 := KRES0.out.cell (j := 1) (v := .int .i64 0) rfl; have hf1 := KRES0.out.frozen 1; have hs2 := KRES0.out.cell (j := 2) (v := .int .i64 0) rfl; have hf2 := KRES0.out.frozen 2; have hs3 := KRES0.out.cell (j := 3) (v := .int .i64 0) rfl; have hf3 := KRES0.out.frozen 3; have hs4 := KRES0.out.cell (j := 4) (v := .int .i64 0) rfl; have hf4 := KRES0.out.frozen 4; have hs5 := KRES0.out.cell (j := 5) (v := .int .i64 0) rfl; have hf5 := KRES0.out.frozen 5; have hs6 := KRES0.out.cell (j := 6) (v := .int .i64 0) rfl; have hf6 := KRES0.out.frozen 6; have hs7 := KRES0.out.cell (j := 7) (v := .int .i64 0) rfl; have hf7 := KRES0.out.frozen 7; have hs8 := KRES0.out.cell (j := 8) (v := .int .i64 0) rfl; have hf8 := KRES0.out.frozen 8; have hs9 := KRES0.out.cell (j := 9) (v := .slice none 0 0) rfl; have hf9 := KRES0.out.frozen 9; go_simp; clear hs0 hf0 hs1 hf1 hs2 hf2 hs3 hf3 hs4 hf4 hs5 hf5 hs6 hf6 hs7 hf7 hs8 hf8 hs9 hf9; obtain ⟨wn, hwn⟩ : ∃ x, x = putAt wc (w.heap.size + 1 + 1) 0 [.int .i64 x0, .int .i64 x1, .int .i64 x2, .int .i64 x3, .int .i64 x4, .int .i64 x5, .int .i64 x6, .int .i64 x7, .int .i64 x8, .slice p n q] := ⟨_, rfl⟩; have en : ((((((((((wc.setCell ⟨w.heap.size + 1 + 1, 0, none⟩ (.int .i64 x0)).setCell ⟨w.heap.size + 1 + 1, 1, none⟩ (.int .i64 x1)).setCell ⟨w.heap.size + 1 + 1, 2, none⟩ (.int .i64 x2)).setCell ⟨w.heap.size + 1 + 1, 3, none⟩ (.int .i64 x3)).setCell ⟨w.heap.size + 1 + 1, 4, none⟩ (.int .i64 x4)).setCell ⟨w.heap.size + 1 + 1, 5, none⟩ (.int .i64 x5)).setCell ⟨w.heap.size + 1 + 1, 6, none⟩ (.int .i64 x6)).setCell ⟨w.heap.size + 1 + 1, 7, none⟩ (.int .i64 x7)).setCell ⟨w.heap.size + 1 + 1, 8, none⟩ (.int .i64 x8)).setCell ⟨w.heap.size + 1 + 1, 9, none⟩ (.slice p n q)) = wn := (by rw [hwn]; rfl); rw [en]; clear en; have zz2 : wc.heap.size ≤ wn.heap.size := (by rw [hwn, put_size]; exact Nat.le_refl _); (first | replace HX := Lib.hid (show Ext w2 wn by rw [hwn]; exact put_ext (by first | assumption | omega) _ _ _ HX.out) | skip); (try replace KX := Lib.hid (show RowAt wn (bX) 26 _ by rw [hwn]; exact put_other (by omega) _ _ _ KX.out)); (try replace KY := Lib.hid (show RowAt wn (bY) 33 _ by rw [hwn]; exact put_other (by omega) _ _ _ KY.out)); replace KRES0 := Lib.hid (RowAt.cast (c' := #[.int .i64 x0, .int .i64 x1, .int .i64 x2, .int .i64 x3, .int .i64 x4, .int .i64 x5, .int .i64 x6, .int .i64 x7, .int .i64 x8, .slice p n q]) (show RowAt wn (w.heap.size + 1 + 1) 26 (putArr #[.int .i64 0, .int .i64 0, .int .i64 0, .int .i64 0, .int .i64 0, .int .i64 0, .int .i64 0, .int .i64 0, .int .i64 0, .slice none 0 0] 0 [.int .i64 x0, .int .i64 x1, .int .i64 x2, .int .i64 x3, .int .i64 x4, .int .i64 x5, .int .i64 x6, .int .i64 x7, .int .i64 x8, .slice p n q]) by rw [hwn]; exact put_at _ _ _ _ KRES0.out) (by simp [putArr])); (try replace KRES1 := Lib.hid (show RowAt wn (w.heap.size + 1 + 1 + 1) 33 _ by rw [hwn]; exact put_other (by omega) _ _ _ KRES1.out)); (try replace OOT := Lib.hid (OOT.out.keep (w' := wn) (Nat.le_refl _) (Nat.le_refl _) (by rw [hwn]; exact put_kept (by omega)))); (try replace OOR := Lib.hid (OOR.out.keep (w' := wn) (Nat.le_refl _) (Nat.le_refl _) (by rw [hwn]; exact put_kept (by omega)))); (try replace HWX := Lib.hid (show Ext _ wn by rw [hwn]; exact put_ext (by omega) _ _ _ HWX.out)); clear hwn; obtain ⟨wc, hq⟩ : ∃ x, x = wn := ⟨_, rfl⟩; subst hq)
      refine hK.out _ _ ?_ (fun hH1 => ?_)
      · (try dsimp only)
        (exact ⟨KX.out.cell rfl, KX.out.cell rfl, KX.out.cell rfl, KX.out.cell rfl, KX.out.cell rfl, KX.out.cell rfl, KX.out.cell rfl, KX.out.cell rfl, KX.out.cell rfl, KX.out.cell rfl, KY.out.cell rfl, KY.out.cell rfl, KY.out.cell rfl⟩)
      clear hK K hH0
      (try simp only [Act.put, List.setIfInBounds_toArray, List.set_cons_zero, List.set_cons_succ])
      refine wpAnyH_ready (rs := [3]) (by kernel_rfl) (by simp) ?_
      refine cons_l (i := 3) rfl (fun K hK => ?_) ?_
      (have hs0 := KRES1.out.cell (j := 0) (v := .slice none 0 0) rfl; have hf0 := KRES1.out.frozen 0; have hs1 := KRES1.out.cell (j := 1) (v := .int .i64 0) rfl; have hf1 := KRES1.out.frozen 1; have hs2 := KRES1.out.cell (j := 2) (v := .slice none 0 0) rfl; have hf2 := KRES1.out.frozen 2; go_simp; clear hs0 hf0 hs1 hf1 hs2 hf2; obtain ⟨wn, hwn⟩ : ∃ x, x = putAt wc (w.heap.size + 1 + 1 + 1) 0 [.slice a1 tn c1, .int .i64 vol, .slice a2 pn c2] := ⟨_, rfl⟩; have en : (((wc.setCell ⟨w.heap.size + 1 + 1 + 1, 0, none⟩ (.slice a1 tn c1)).setCell ⟨w.heap.size + 1 + 1 + 1, 1, none⟩ (.int .i64 vol)).setCell ⟨w.heap.size + 1 + 1 + 1, 2, none⟩ (.slice a2 pn c2)) = wn := (by rw [hwn]; rfl); rw [en]; clear en; have zz3 : wc.heap.size ≤ wn.heap.size := (by rw [hwn, put_size]; exact Nat.le_refl _); (first | replace HX := Lib.hid (show Ext w2 wn by rw [hwn]; exact put_ext (by first | assumption | omega) _ _ _ HX.out) | skip); (try replace KX := Lib.hid (show RowAt wn (bX) 26 _ by rw [hwn]; exact put_other (by omega) _ _ _ KX.out)); (try replace KY := Lib.hid (show RowAt wn (bY) 33 _ by rw [hwn]; exact put_other (by omega) _ _ _ KY.out)); (try replace KRES0 := Lib.hid (show RowAt wn (w.heap.size + 1 + 1) 26 _ by rw [hwn]; exact put_other (by omega) _ _ _ KRES0.out)); replace KRES1 := Lib.hid (RowAt.cast (c' := #[.slice a1 tn c1, .int .i64 vol, .slice a2 pn c2]) (show RowAt wn (w.heap.size + 1 + 1 + 1) 33 (putArr #[.slice none 0 0, .int .i64 0, .slice none 0 0] 0 [.slice a1 tn c1, .int .i64 vol, .slice a2 pn c2]) by rw [hwn]; exact put_at _ _ _ _ KRES1.out) (by simp [putArr])); (try replace OOT := Lib.hid (OOT.out.keep (w' := wn) (Nat.le_refl _) (Nat.le_refl _) (by rw [hwn]; exact put_kept (by omega)))); (try replace OOR := Lib.hid (OOR.out.keep (w' := wn) (Nat.le_refl _) (Nat.le_refl _) (by rw [hwn]; exact put_kept (by omega)))); (try replace HWX := Lib.hid (show Ext _ wn by rw [hwn]; exact put_ext (by omega) _ _ _ HWX.out)); clear hwn; obtain ⟨wc, hq⟩ : ∃ x, x = wn := ⟨_, rfl⟩; subst hq)
      refine hK.out _ _ ?_ (fun hH2 => ?_)
      · (try dsimp only)
        (exact ⟨KX.out.cell rfl, KX.out.cell rfl, KX.out.cell rfl, KX.out.cell rfl, KX.out.cell rfl, KX.out.cell rfl, KX.out.cell rfl, KX.out.cell rfl, KX.out.cell rfl, KX.out.cell rfl, KY.out.cell rfl, KY.out.cell rfl, KY.out.cell rfl⟩)
      clear hK K hH1
      (try simp only [Act.put, List.setIfInBounds_toArray, List.set_cons_zero, List.set_cons_succ])
      refine wpAnyH_done (by kernel_rfl) ?_ _
      rotate_left
      exact AllReadyH.nil
      exact AllReadyH.nil
      go_wp2
      have q0_0 : wc.cell? ⟨w.heap.size + 1 + 1, 0, none⟩ = some (.int .i64 x0) := KRES0.out.cell rfl
      have q0_1 : wc.cell? ⟨w.heap.size + 1 + 1, 1, none⟩ = some (.int .i64 x1) := KRES0.out.cell rfl
      have q0_2 : wc.cell? ⟨w.heap.size + 1 + 1, 2, none⟩ = some (.int .i64 x2) := KRES0.out.cell rfl
      have q0_3 : wc.cell? ⟨w.heap.size + 1 + 1, 3, none⟩ = some (.int .i64 x3) := KRES0.out.cell rfl
      have q0_4 : wc.cell? ⟨w.heap.size + 1 + 1, 4, none⟩ = some (.int .i64 x4) := KRES0.out.cell rfl
      have q0_5 : wc.cell? ⟨w.heap.size + 1 + 1, 5, none⟩ = some (.int .i64 x5) := KRES0.out.cell rfl
      have q0_6 : wc.cell? ⟨w.heap.size + 1 + 1, 6, none⟩ = some (.int .i64 x6) := KRES0.out.cell rfl
      have q0_7 : wc.cell? ⟨w.heap.size + 1 + 1, 7, none⟩ = some (.int .i64 x7) := KRES0.out.cell rfl
      have q0_8 : wc.cell? ⟨w.heap.size + 1 + 1, 8, none⟩ = some (.int .i64 x8) := KRES0.out.cell rfl
      have q0_9 : wc.cell? ⟨w.heap.size + 1 + 1, 9, none⟩ = some (.slice p n q) := KRES0.out.cell rfl
      have q1_0 : wc.cell? ⟨w.heap.size + 1 + 1 + 1, 0, none⟩ = some (.slice a1 tn c1) := KRES1.out.cell rfl
      have q1_1 : wc.cell? ⟨w.heap.size + 1 + 1 + 1, 1, none⟩ = some (.int .i64 vol) := KRES1.out.cell rfl
      have q1_2 : wc.cell? ⟨w.heap.size + 1 + 1 + 1, 2, none⟩ = some (.slice a2 pn c2) := KRES1.out.cell rfl
      refine bodyPost_ret (v := .tuple #[.agg #[.int .i64 x0, .int .i64 x1, .int .i64 x2, .int .i64 x3, .int .i64 x4, .int .i64 x5, .int .i64 x6, .int .i64 x7, .int .i64 x8, .slice p n q], .agg #[.slice a1 tn c1, .int .i64 vol, .slice a2 pn c2]]) (by simp [results, Try.results10, go_sem, *]) rfl ⟨p, q, _, _, _, _, rfl, LockReach.mk (lo1 := lo1) (hi1 := hi1) (lo2 := lo2) (hi2 := hi2) (by omega) (by omega) (by omega) (by omega) (by omega) OOT.out OOR.out, HWX.out⟩
    cases k4
    · obtain ⟨rfl, rfl⟩ : x7 = wa ∧ vol = vo := by simpa using hres
      clear hres
      have cB00 : ∀ y : Aft w1, y.1.cell? ⟨w.heap.size, 0, none⟩ = some (.int .i64 x0) := fun y => (B0_1.out.ext y.2).cell rfl
      have cB01 : ∀ y : Aft w1, y.1.cell? ⟨w.heap.size, 1, none⟩ = some (.int .i64 x1) := fun y => (B0_1.out.ext y.2).cell rfl
      have cB02 : ∀ y : Aft w1, y.1.cell? ⟨w.heap.size, 2, none⟩ = some (.int .i64 x2) := fun y => (B0_1.out.ext y.2).cell rfl
      have cB03 : ∀ y : Aft w1, y.1.cell? ⟨w.heap.size, 3, none⟩ = some (.int .i64 x3) := fun y => (B0_1.out.ext y.2).cell rfl
      have cB04 : ∀ y : Aft w1, y.1.cell? ⟨w.heap.size, 4, none⟩ = some (.int .i64 x4) := fun y => (B0_1.out.ext y.2).cell rfl
      have cB05 : ∀ y : Aft w1, y.1.cell? ⟨w.heap.size, 5, none⟩ = some (.int .i64 x5) := fun y => (B0_1.out.ext y.2).cell rfl
      have cB06 : ∀ y : Aft w1, y.1.cell? ⟨w.heap.size, 6, none⟩ = some (.int .i64 x6) := fun y => (B0_1.out.ext y.2).cell rfl
      have cB07 : ∀ y : Aft w1, y.1.cell? ⟨w.heap.size, 7, none⟩ = some (.int .i64 x7) := fun y => (B0_1.out.ext y.2).cell rfl
      have cB08 : ∀ y : Aft w1, y.1.cell? ⟨w.heap.size, 8, none⟩ = some (.int .i64 x8) := fun y => (B0_1.out.ext y.2).cell rfl
      have cB09 : ∀ y : Aft w1, y.1.cell? ⟨w.heap.size, 9, none⟩ = some (.slice a n c) := fun y => (B0_1.out.ext y.2).cell rfl
      have cB10 : ∀ y : Aft w1, y.1.cell? ⟨w.heap.size + 1, 0, none⟩ = some (.slice ta tn tc) := fun y => (B1_1.out.ext y.2).cell rfl
      have cB11 : ∀ y : Aft w1, y.1.cell? ⟨w.heap.size + 1, 1, none⟩ = some (.int .i64 vol) := fun y => (B1_1.out.ext y.2).cell rfl
      have cB12 : ∀ y : Aft w1, y.1.cell? ⟨w.heap.size + 1, 2, none⟩ = some (.slice pa pn pc) := fun y => (B1_1.out.ext y.2).cell rfl
      go_wp2_with fail
      (refine wp_region_aft w1 (Ext.refl _) (by kernel_rfl) (by kernel_rfl) ?_; (repeat (go_big_quiet_step ((first | (go_at_call 21; exact aft_call (implLockOk_any true _ _ _ _ _ _ _ _ _ _ _ _ ts _ HN.out HS.out HTS.out (HF.out.ext (HW1.out.trans (Subtype.property _))) HK1.out)) | (go_at_call 29; exact aft_call (implReachOk_is true _ _ _ _ _ _ _ ps xs _ HT.out HTL.out HP.out HPL.out (HFT.out.ext (HW1.out.trans (Subtype.property _))) (HFP.out.ext (HW1.out.trans (Subtype.property _))) hvol HK2.out)))))); refine wpQuiet_nil ?_; intro w2 hx2)
      clear cB00 cB01 cB02 cB03 cB04 cB05 cB06 cB07 cB08 cB09 cB10 cB11 cB12
      obtain ⟨w2, hq⟩ : ∃ x, x = w2 := ⟨_, rfl⟩; subst hq
      have HW2 := Lib.hid (HW1.out.trans hx2)
      have B0_2 := Lib.hid (B0_1.out.ext hx2)
      have B1_2 := Lib.hid (B1_1.out.ext hx2)
      have RES0_2 := Lib.hid (RES0_1.out.ext hx2)
      have RES1_2 := Lib.hid (RES1_1.out.ext hx2)
      have X_2 := Lib.hid (X_1.out.ext hx2)
      have Y_2 := Lib.hid (Y_1.out.ext hx2)
      have OT_2 := Lib.hid (OT_1.out.ext hx2)
      have OR_2 := Lib.hid (OR_1.out.ext hx2)
      have zz2 := hx2.size
      clear HW1 B0_1 B1_1 RES0_1 RES1_1 X_1 Y_1 OT_1 OR_1 hx2
      have cB00 : w2.cell? ⟨w.heap.size, 0, none⟩ = some (.int .i64 x0) := B0_2.out.cell rfl
      have cB01 : w2.cell? ⟨w.heap.size, 1, none⟩ = some (.int .i64 x1) := B0_2.out.cell rfl
      have cB02 : w2.cell? ⟨w.heap.size, 2, none⟩ = some (.int .i64 x2) := B0_2.out.cell rfl
      have cB03 : w2.cell? ⟨w.heap.size, 3, none⟩ = some (.int .i64 x3) := B0_2.out.cell rfl
      have cB04 : w2.cell? ⟨w.heap.size, 4, none⟩ = some (.int .i64 x4) := B0_2.out.cell rfl
      have cB05 : w2.cell? ⟨w.heap.size, 5, none⟩ = some (.int .i64 x5) := B0_2.out.cell rfl
      have cB06 : w2.cell? ⟨w.heap.size, 6, none⟩ = some (.int .i64 x6) := B0_2.out.cell rfl
      have cB07 : w2.cell? ⟨w.heap.size, 7, none⟩ = some (.int .i64 x7) := B0_2.out.cell rfl
      have cB08 : w2.cell? ⟨w.heap.size, 8, none⟩ = some (.int .i64 x8) := B0_2.out.cell rfl
      have cB09 : w2.cell? ⟨w.heap.size, 9, none⟩ = some (.slice a n c) := B0_2.out.cell rfl
      go_wp2_with fail
      have KX := X_2
      have KY := Y_2
      have KRES0 := RES0_2
      have KRES1 := RES1_2
      have OOT := OT_2
      have OOR := OR_2
      have HWX := HW2
      refine wp_region_held_drew (S := (fun w' => w'.cell? ⟨bX, 0, none⟩ = some (.int .i64 x0) ∧ w'.cell? ⟨bX, 1, none⟩ = some (.int .i64 x1) ∧ w'.cell? ⟨bX, 2, none⟩ = some (.int .i64 x2) ∧ w'.cell? ⟨bX, 3, none⟩ = some (.int .i64 x3) ∧ w'.cell? ⟨bX, 4, none⟩ = some (.int .i64 x4) ∧ w'.cell? ⟨bX, 5, none⟩ = some (.int .i64 x5) ∧ w'.cell? ⟨bX, 6, none⟩ = some (.int .i64 x6) ∧ w'.cell? ⟨bX, 7, none⟩ = some (.int .i64 x7) ∧ w'.cell? ⟨bX, 8, none⟩ = some (.int .i64 x8) ∧ w'.cell? ⟨bX, 9, none⟩ = some (.slice p n q) ∧ w'.cell? ⟨bY, 0, none⟩ = some (.slice a1 tn c1) ∧ w'.cell? ⟨bY, 1, none⟩ = some (.int .i64 vol) ∧ w'.cell? ⟨bY, 2, none⟩ = some (.slice a2 pn c2))) (by kernel_rfl) ?_ (fun hH0 => ?_)
      · (try dsimp only)
        (exact ⟨KX.out.cell rfl, KX.out.cell rfl, KX.out.cell rfl, KX.out.cell rfl, KX.out.cell rfl, KX.out.cell rfl, KX.out.cell rfl, KX.out.cell rfl, KX.out.cell rfl, KX.out.cell rfl, KY.out.cell rfl, KY.out.cell rfl, KY.out.cell rfl⟩)
      (obtain ⟨wc, hwc⟩ : ∃ x, x = w2.drew := ⟨_, rfl⟩; have hdr : Ext w2 wc := (by rw [hwc]; exact (Ext.refl _).drew); (try rw [← hwc] at hH0); (try rw [← hwc]); have zdr : w2.heap.size ≤ wc.heap.size := hdr.size; have HX := Lib.hid hdr; have KX := Lib.hid (X_2.out.ext hdr); have KY := Lib.hid (Y_2.out.ext hdr); have KRES0 := Lib.hid (RES0_2.out.ext hdr); have KRES1 := Lib.hid (RES1_2.out.ext hdr); have OOT := Lib.hid (OT_2.out.ext hdr); have OOR := Lib.hid (OR_2.out.ext hdr); clear hwc hdr; replace HWX := Lib.hid (HWX.out.trans HX.out))
      refine take_l 0 (v := ?_) rfl (by kernel_rfl) (by kernel_rfl) (by kernel_rfl) (fun _ _ _ h => h) (by rfl) ?_ (by assumption) ?_
      rotate_left
      · (intro w hSw; (try dsimp only at hSw); go_simp; (try with_reducible rfl))
      (try simp only [Act.put, List.setIfInBounds_toArray, List.set_cons_zero, List.set_cons_succ])
      refine take_l 1 (v := ?_) rfl (by kernel_rfl) (by kernel_rfl) (by kernel_rfl) (fun _ _ _ h => h) (by rfl) ?_ (by assumption) ?_
      rotate_left
      · (intro w hSw; (try dsimp only at hSw); go_simp; (try with_reducible rfl))
      (try simp only [Act.put, List.setIfInBounds_toArray, List.set_cons_zero, List.set_cons_succ])
      refine wpAnyH_ready (rs := [2]) (by kernel_rfl) (by simp) ?_
      refine cons_l (i := 2) rfl (fun K hK => ?_) ?_
      (have hs0 := KRES0.out.cell (j := 0) (v := .int .i64 0) rfl; have hf0 := KRES0.out.frozen 0; have hs1 := KRES0.out.cell (j := 1) (v := .int .i64 0) rfl; have hf1 := KRES0.out.frozen 1; have hs2 := KRES0.out.cell (j := 2) (v := .int .i64 0) rfl; have hf2 := KRES0.out.frozen 2; have hs3 := KRES0.out.cell (j := 3) (v := .int .i64 0) rfl; have hf3 := KRES0.out.frozen 3; have hs4 := KRES0.out.cell (j := 4) (v := .int .i64 0) rfl; have hf4 := KRES0.out.frozen 4; have hs5 := KRES0.out.cell (j := 5) (v := .int .i64 0) rfl; have hf5 := KRES0.out.frozen 5; have hs6 := KRES0.out.cell (j := 6) (v := .int .i64 0) rfl; have hf6 := KRES0.out.frozen 6; have hs7 := KRES0.out.cell (j := 7) (v := .int .i64 0) rfl; have hf7 := KRES0.out.frozen 7; have hs8 := KRES0.out.cell (j := 8) (v := .int .i64 0) rfl; have hf8 := KRES0.out.frozen 8; have hs9 := KRES0.out.cell (j := 9) (v := .slice none 0 0) rfl; have hf9 := KRES0.out.frozen 9; go_simp; clear hs0 hf0 hs1 hf1 hs2 hf2 hs3 hf3 hs4 hf4 hs5 hf5 hs6 hf6 hs7 hf7 hs8 hf8 hs9 hf9; obtain ⟨wn, hwn⟩ : ∃ x, x = putAt wc (w.heap.size + 1 + 1) 0 [.int .i64 x0, .int .i64 x1, .int .i64 x2, .int .i64 x3, .int .i64 x4, .int .i64 x5, .int .i64 x6, .int .i64 x7, .int .i64 x8, .slice p n q] := ⟨_, rfl⟩; have en : ((((((((((wc.setCell ⟨w.heap.size + 1 + 1, 0, none⟩ (.int .i64 x0)).setCell ⟨w.heap.size + 1 + 1, 1, none⟩ (.int .i64 x1)).setCell ⟨w.heap.size + 1 + 1, 2, none⟩ (.int .i64 x2)).setCell ⟨w.heap.size + 1 + 1, 3, none⟩ (.int .i64 x3)).setCell ⟨w.heap.size + 1 + 1, 4, none⟩ (.int .i64 x4)).setCell ⟨w.heap.size + 1 + 1, 5, none⟩ (.int .i64 x5)).setCell ⟨w.heap.size + 1 + 1, 6, none⟩ (.int .i64 x6)).setCell ⟨w.heap.size + 1 + 1, 7, none⟩ (.int .i64 x7)).setCell ⟨w.heap.size + 1 + 1, 8, none⟩ (.int .i64 x8)).setCell ⟨w.heap.size + 1 + 1, 9, none⟩ (.slice p n q)) = wn := (by rw [hwn]; rfl); rw [en]; clear en; have zz2 : wc.heap.size ≤ wn.heap.size := (by rw [hwn, put_size]; exact Nat.le_refl _); (first | replace HX := Lib.hid (show Ext w2 wn by rw [hwn]; exact put_ext (by first | assumption | omega) _ _ _ HX.out) | skip); (try replace KX := Lib.hid (show RowAt wn (bX) 26 _ by rw [hwn]; exact put_other (by omega) _ _ _ KX.out)); (try replace KY := Lib.hid (show RowAt wn (bY) 33 _ by rw [hwn]; exact put_other (by omega) _ _ _ KY.out)); replace KRES0 := Lib.hid (RowAt.cast (c' := #[.int .i64 x0, .int .i64 x1, .int .i64 x2, .int .i64 x3, .int .i64 x4, .int .i64 x5, .int .i64 x6, .int .i64 x7, .int .i64 x8, .slice p n q]) (show RowAt wn (w.heap.size + 1 + 1) 26 (putArr #[.int .i64 0, .int .i64 0, .int .i64 0, .int .i64 0, .int .i64 0, .int .i64 0, .int .i64 0, .int .i64 0, .int .i64 0, .slice none 0 0] 0 [.int .i64 x0, .int .i64 x1, .int .i64 x2, .int .i64 x3, .int .i64 x4, .int .i64 x5, .int .i64 x6, .int .i64 x7, .int .i64 x8, .slice p n q]) by rw [hwn]; exact put_at _ _ _ _ KRES0.out) (by simp [putArr])); (try replace KRES1 := Lib.hid (show RowAt wn (w.heap.size + 1 + 1 + 1) 33 _ by rw [hwn]; exact put_other (by omega) _ _ _ KRES1.out)); (try replace OOT := Lib.hid (OOT.out.keep (w' := wn) (Nat.le_refl _) (Nat.le_refl _) (by rw [hwn]; exact put_kept (by omega)))); (try replace OOR := Lib.hid (OOR.out.keep (w' := wn) (Nat.le_refl _) (Nat.le_refl _) (by rw [hwn]; exact put_kept (by omega)))); (try replace HWX := Lib.hid (show Ext _ wn by rw [hwn]; exact put_ext (by omega) _ _ _ HWX.out)); clear hwn; obtain ⟨wc, hq⟩ : ∃ x, x = wn := ⟨_, rfl⟩; subst hq)
      refine hK.out _ _ ?_ (fun hH1 => ?_)
      · (try dsimp only)
        (exact ⟨KX.out.cell rfl, KX.out.cell rfl, KX.out.cell rfl, KX.out.cell rfl, KX.out.cell rfl, KX.out.cell rfl, KX.out.cell rfl, KX.out.cell rfl, KX.out.cell rfl, KX.out.cell rfl, KY.out.cell rfl, KY.out.cell rfl, KY.out.cell rfl⟩)
      clear hK K hH0
      (try simp only [Act.put, List.setIfInBounds_toArray, List.set_cons_zero, List.set_cons_succ])
      refine wpAnyH_ready (rs := [3]) (by kernel_rfl) (by simp) ?_
      refine cons_l (i := 3) rfl (fun K hK => ?_) ?_
      (have hs0 := KRES1.out.cell (j := 0) (v := .slice none 0 0) rfl; have hf0 := KRES1.out.frozen 0; have hs1 := KRES1.out.cell (j := 1) (v := .int .i64 0) rfl; have hf1 := KRES1.out.frozen 1; have hs2 := KRES1.out.cell (j := 2) (v := .slice none 0 0) rfl; have hf2 := KRES1.out.frozen 2; go_simp; clear hs0 hf0 hs1 hf1 hs2 hf2; obtain ⟨wn, hwn⟩ : ∃ x, x = putAt wc (w.heap.size + 1 + 1 + 1) 0 [.slice a1 tn c1, .int .i64 vol, .slice a2 pn c2] := ⟨_, rfl⟩; have en : (((wc.setCell ⟨w.heap.size + 1 + 1 + 1, 0, none⟩ (.slice a1 tn c1)).setCell ⟨w.heap.size + 1 + 1 + 1, 1, none⟩ (.int .i64 vol)).setCell ⟨w.heap.size + 1 + 1 + 1, 2, none⟩ (.slice a2 pn c2)) = wn := (by rw [hwn]; rfl); rw [en]; clear en; have zz3 : wc.heap.size ≤ wn.heap.size := (by rw [hwn, put_size]; exact Nat.le_refl _); (first | replace HX := Lib.hid (show Ext w2 wn by rw [hwn]; exact put_ext (by first | assumption | omega) _ _ _ HX.out) | skip); (try replace KX := Lib.hid (show RowAt wn (bX) 26 _ by rw [hwn]; exact put_other (by omega) _ _ _ KX.out)); (try replace KY := Lib.hid (show RowAt wn (bY) 33 _ by rw [hwn]; exact put_other (by omega) _ _ _ KY.out)); (try replace KRES0 := Lib.hid (show RowAt wn (w.heap.size + 1 + 1) 26 _ by rw [hwn]; exact put_other (by omega) _ _ _ KRES0.out)); replace KRES1 := Lib.hid (RowAt.cast (c' := #[.slice a1 tn c1, .int .i64 vol, .slice a2 pn c2]) (show RowAt wn (w.heap.size + 1 + 1 + 1) 33 (putArr #[.slice none 0 0, .int .i64 0, .slice none 0 0] 0 [.slice a1 tn c1, .int .i64 vol, .slice a2 pn c2]) by rw [hwn]; exact put_at _ _ _ _ KRES1.out) (by simp [putArr])); (try replace OOT := Lib.hid (OOT.out.keep (w' := wn) (Nat.le_refl _) (Nat.le_refl _) (by rw [hwn]; exact put_kept (by omega)))); (try replace OOR := Lib.hid (OOR.out.keep (w' := wn) (Nat.le_refl _) (Nat.le_refl _) (by rw [hwn]; exact put_kept (by omega)))); (try replace HWX := Lib.hid (show Ext _ wn by rw [hwn]; exact put_ext (by omega) _ _ _ HWX.out)); clear hwn; obtain ⟨wc, hq⟩ : ∃ x, x = wn := ⟨_, rfl⟩; subst hq)
      refine hK.out _ _ ?_ (fun hH2 => ?_)
      · (try dsimp only)
        (exact ⟨KX.out.cell rfl, KX.out.cell rfl, KX.out.cell rfl, KX.out.cell rfl, KX.out.cell rfl, KX.out.cell rfl, KX.out.cell rfl, KX.out.cell rfl, KX.out.cell rfl, KX.out.cell rfl, KY.out.cell rfl, KY.out.cell rfl, KY.out.cell rfl⟩)
      clear hK K hH1
      (try simp only [Act.put, List.setIfInBounds_toArray, List.set_cons_zero, List.set_cons_succ])
      refine wpAnyH_done (by kernel_rfl) ?_ _
      rotate_left
      exact AllReadyH.nil
      exact AllReadyH.nil
      go_wp2
      have q0_0 : wc.cell? ⟨w.heap.size + 1 + 1, 0, none⟩ = some (.int .i64 x0) := KRES0.out.cell rfl
      have q0_1 : wc.cell? ⟨w.heap.size + 1 + 1, 1, none⟩ = some (.int .i64 x1) := KRES0.out.cell rfl
      have q0_2 : wc.cell? ⟨w.heap.size + 1 + 1, 2, none⟩ = some (.int .i64 x2) := KRES0.out.cell rfl
      have q0_3 : wc.cell? ⟨w.heap.size + 1 + 1, 3, none⟩ = some (.int .i64 x3) := KRES0.out.cell rfl
      have q0_4 : wc.cell? ⟨w.heap.size + 1 + 1, 4, none⟩ = some (.int .i64 x4) := KRES0.out.cell rfl
      have q0_5 : wc.cell? ⟨w.heap.size + 1 + 1, 5, none⟩ = some (.int .i64 x5) := KRES0.out.cell rfl
      have q0_6 : wc.cell? ⟨w.heap.size + 1 + 1, 6, none⟩ = some (.int .i64 x6) := KRES0.out.cell rfl
      have q0_7 : wc.cell? ⟨w.heap.size + 1 + 1, 7, none⟩ = some (.int .i64 x7) := KRES0.out.cell rfl
      have q0_8 : wc.cell? ⟨w.heap.size + 1 + 1, 8, none⟩ = some (.int .i64 x8) := KRES0.out.cell rfl
      have q0_9 : wc.cell? ⟨w.heap.size + 1 + 1, 9, none⟩ = some (.slice p n q) := KRES0.out.cell rfl
      have q1_0 : wc.cell? ⟨w.heap.size + 1 + 1 + 1, 0, none⟩ = some (.slice a1 tn c1) := KRES1.out.cell rfl
      have q1_1 : wc.cell? ⟨w.heap.size + 1 + 1 + 1, 1, none⟩ = some (.int .i64 vol) := KRES1.out.cell rfl
      have q1_2 : wc.cell? ⟨w.heap.size + 1 + 1 + 1, 2, none⟩ = some (.slice a2 pn c2) := KRES1.out.cell rfl
      refine bodyPost_ret (v := .tuple #[.agg #[.int .i64 x0, .int .i64 x1, .int .i64 x2, .int .i64 x3, .int .i64 x4, .int .i64 x5, .int .i64 x6, .int .i64 x7, .int .i64 x8, .slice p n q], .agg #[.slice a1 tn c1, .int .i64 vol, .slice a2 pn c2]]) (by simp [results, Try.results10, go_sem, *]) rfl ⟨p, q, _, _, _, _, rfl, LockReach.mk (lo1 := lo1) (hi1 := hi1) (lo2 := lo2) (hi2 := hi2) (by omega) (by omega) (by omega) (by omega) (by omega) OOT.out OOR.out, HWX.out⟩
    simp only [Bool.and_self, if_true] at hres
    obtain ⟨⟨h5, h7⟩, h6⟩ := hkb rfl
    have hvb' := hvb rfl
    clear hkb hvb
    by_cases hcl : lev ≤ ch
    · rw [if_pos hcl] at hres
      obtain ⟨rfl, rfl⟩ := Prod.mk.inj hres
      clear hres
      have e1 : decide (lev ≤ ch) = true := by simpa using hcl
      have cB00 : ∀ y : Aft w1, y.1.cell? ⟨w.heap.size, 0, none⟩ = some (.int .i64 x0) := fun y => (B0_1.out.ext y.2).cell rfl
      have cB01 : ∀ y : Aft w1, y.1.cell? ⟨w.heap.size, 1, none⟩ = some (.int .i64 x1) := fun y => (B0_1.out.ext y.2).cell rfl
      have cB02 : ∀ y : Aft w1, y.1.cell? ⟨w.heap.size, 2, none⟩ = some (.int .i64 x2) := fun y => (B0_1.out.ext y.2).cell rfl
      have cB03 : ∀ y : Aft w1, y.1.cell? ⟨w.heap.size, 3, none⟩ = some (.int .i64 x3) := fun y => (B0_1.out.ext y.2).cell rfl
      have cB04 : ∀ y : Aft w1, y.1.cell? ⟨w.heap.size, 4, none⟩ = some (.int .i64 x4) := fun y => (B0_1.out.ext y.2).cell rfl
      have cB05 : ∀ y : Aft w1, y.1.cell? ⟨w.heap.size, 5, none⟩ = some (.int .i64 x5) := fun y => (B0_1.out.ext y.2).cell rfl
      have cB06 : ∀ y : Aft w1, y.1.cell? ⟨w.heap.size, 6, none⟩ = some (.int .i64 x6) := fun y => (B0_1.out.ext y.2).cell rfl
      have cB07 : ∀ y : Aft w1, y.1.cell? ⟨w.heap.size, 7, none⟩ = some (.int .i64 x7) := fun y => (B0_1.out.ext y.2).cell rfl
      have cB08 : ∀ y : Aft w1, y.1.cell? ⟨w.heap.size, 8, none⟩ = some (.int .i64 x8) := fun y => (B0_1.out.ext y.2).cell rfl
      have cB09 : ∀ y : Aft w1, y.1.cell? ⟨w.heap.size, 9, none⟩ = some (.slice a n c) := fun y => (B0_1.out.ext y.2).cell rfl
      have cB10 : ∀ y : Aft w1, y.1.cell? ⟨w.heap.size + 1, 0, none⟩ = some (.slice ta tn tc) := fun y => (B1_1.out.ext y.2).cell rfl
      have cB11 : ∀ y : Aft w1, y.1.cell? ⟨w.heap.size + 1, 1, none⟩ = some (.int .i64 vol) := fun y => (B1_1.out.ext y.2).cell rfl
      have cB12 : ∀ y : Aft w1, y.1.cell? ⟨w.heap.size + 1, 2, none⟩ = some (.slice pa pn pc) := fun y => (B1_1.out.ext y.2).cell rfl
      go_wp2_with fail
      (refine wp_region_aft w1 (Ext.refl _) (by kernel_rfl) (by kernel_rfl) ?_; (repeat (go_big_quiet_step ((first | (go_at_call 21; exact aft_call (implLockOk_any true _ _ _ _ _ _ _ _ _ _ _ _ ts _ HN.out HS.out HTS.out (HF.out.ext (HW1.out.trans (Subtype.property _))) HK1.out)) | (go_at_call 29; exact aft_call (implReachOk_is true _ _ _ _ _ _ _ ps xs _ HT.out HTL.out HP.out HPL.out (HFT.out.ext (HW1.out.trans (Subtype.property _))) (HFP.out.ext (HW1.out.trans (Subtype.property _))) hvol HK2.out)) | (go_at_call 11; exact aft_call (implChamber_any ch _ _ _ _ _ _ _ _ _ _ _ _ ts _ HN.out HS.out HTS.out (HF.out.ext (HW1.out.trans (Subtype.property _))) HCH.out)) | (go_at_call 12; exact aft_call (implLevel_is lev _ _ _ _ _ _ _ ps xs _ HT.out HTL.out HP.out HPL.out (HFT.out.ext (HW1.out.trans (Subtype.property _))) (HFP.out.ext (HW1.out.trans (Subtype.property _))) hvol HLV.out)))))); refine wpQuiet_nil ?_; intro w2 hx2)
      clear cB00 cB01 cB02 cB03 cB04 cB05 cB06 cB07 cB08 cB09 cB10 cB11 cB12
      obtain ⟨w2, hq⟩ : ∃ x, x = w2 := ⟨_, rfl⟩; subst hq
      have HW2 := Lib.hid (HW1.out.trans hx2)
      have B0_2 := Lib.hid (B0_1.out.ext hx2)
      have B1_2 := Lib.hid (B1_1.out.ext hx2)
      have RES0_2 := Lib.hid (RES0_1.out.ext hx2)
      have RES1_2 := Lib.hid (RES1_1.out.ext hx2)
      have X_2 := Lib.hid (X_1.out.ext hx2)
      have Y_2 := Lib.hid (Y_1.out.ext hx2)
      have OT_2 := Lib.hid (OT_1.out.ext hx2)
      have OR_2 := Lib.hid (OR_1.out.ext hx2)
      have zz2 := hx2.size
      clear HW1 B0_1 B1_1 RES0_1 RES1_1 X_1 Y_1 OT_1 OR_1 hx2
      go_wp2_with fail
      have KX := X_2
      have KY := Y_2
      have KRES0 := RES0_2
      have KRES1 := RES1_2
      have OOT := OT_2
      have OOR := OR_2
      have HWX := HW2
      refine wp_region_held_drew (S := (fun w' => w'.cell? ⟨bX, 0, none⟩ = some (.int .i64 x0) ∧ w'.cell? ⟨bX, 1, none⟩ = some (.int .i64 x1) ∧ w'.cell? ⟨bX, 2, none⟩ = some (.int .i64 x2) ∧ w'.cell? ⟨bX, 3, none⟩ = some (.int .i64 x3) ∧ w'.cell? ⟨bX, 4, none⟩ = some (.int .i64 x4) ∧ w'.cell? ⟨bX, 5, none⟩ = some (.int .i64 x5) ∧ w'.cell? ⟨bX, 6, none⟩ = some (.int .i64 x6) ∧ w'.cell? ⟨bX, 7, none⟩ = some (.int .i64 x7) ∧ w'.cell? ⟨bX, 8, none⟩ = some (.int .i64 x8) ∧ w'.cell? ⟨bX, 9, none⟩ = some (.slice p n q) ∧ w'.cell? ⟨bY, 0, none⟩ = some (.slice a1 tn c1) ∧ w'.cell? ⟨bY, 1, none⟩ = some (.int .i64 vol) ∧ w'.cell? ⟨bY, 2, none⟩ = some (.slice a2 pn c2))) (by kernel_rfl) ?_ (fun hH0 => ?_)
      · (try dsimp only)
        (exact ⟨KX.out.cell rfl, KX.out.cell rfl, KX.out.cell rfl, KX.out.cell rfl, KX.out.cell rfl, KX.out.cell rfl, KX.out.cell rfl, KX.out.cell rfl, KX.out.cell rfl, KX.out.cell rfl, KY.out.cell rfl, KY.out.cell rfl, KY.out.cell rfl⟩)
      (obtain ⟨wc, hwc⟩ : ∃ x, x = w2.drew := ⟨_, rfl⟩; have hdr : Ext w2 wc := (by rw [hwc]; exact (Ext.refl _).drew); (try rw [← hwc] at hH0); (try rw [← hwc]); have zdr : w2.heap.size ≤ wc.heap.size := hdr.size; have HX := Lib.hid hdr; have KX := Lib.hid (X_2.out.ext hdr); have KY := Lib.hid (Y_2.out.ext hdr); have KRES0 := Lib.hid (RES0_2.out.ext hdr); have KRES1 := Lib.hid (RES1_2.out.ext hdr); have OOT := Lib.hid (OT_2.out.ext hdr); have OOR := Lib.hid (OR_2.out.ext hdr); clear hwc hdr; replace HWX := Lib.hid (HWX.out.trans HX.out))
      refine take_l 0 (v := ?_) rfl (by kernel_rfl) (by kernel_rfl) (by kernel_rfl) (fun _ _ _ h => h) (by rfl) ?_ (by assumption) ?_
      rotate_left
      · (intro w hSw; (try dsimp only at hSw); go_simp; (try with_reducible rfl))
      (try simp only [Act.put, List.setIfInBounds_toArray, List.set_cons_zero, List.set_cons_succ])
      refine take_l 1 (v := ?_) rfl (by kernel_rfl) (by kernel_rfl) (by kernel_rfl) (fun _ _ _ h => h) (by rfl) ?_ (by assumption) ?_
      rotate_left
      · (intro w hSw; (try dsimp only at hSw); go_simp; (try with_reducible rfl))
      (try simp only [Act.put, List.setIfInBounds_toArray, List.set_cons_zero, List.set_cons_succ])
      refine wpAnyH_ready (rs := [2]) (by kernel_rfl) (by simp) ?_
      refine cons_l (i := 2) rfl (fun K hK => ?_) ?_
      (have hs0 := KRES0.out.cell (j := 0) (v := .int .i64 0) rfl; have hf0 := KRES0.out.frozen 0; have hs1 := KRES0.out.cell (j := 1) (v := .int .i64 0) rfl; have hf1 := KRES0.out.frozen 1; have hs2 := KRES0.out.cell (j := 2) (v := .int .i64 0) rfl; have hf2 := KRES0.out.frozen 2; have hs3 := KRES0.out.cell (j := 3) (v := .int .i64 0) rfl; have hf3 := KRES0.out.frozen 3; have hs4 := KRES0.out.cell (j := 4) (v := .int .i64 0) rfl; have hf4 := KRES0.out.frozen 4; have hs5 := KRES0.out.cell (j := 5) (v := .int .i64 0) rfl; have hf5 := KRES0.out.frozen 5; have hs6 := KRES0.out.cell (j := 6) (v := .int .i64 0) rfl; have hf6 := KRES0.out.frozen 6; have hs7 := KRES0.out.cell (j := 7) (v := .int .i64 0) rfl; have hf7 := KRES0.out.frozen 7; have hs8 := KRES0.out.cell (j := 8) (v := .int .i64 0) rfl; have hf8 := KRES0.out.frozen 8; have hs9 := KRES0.out.cell (j := 9) (v := .slice none 0 0) rfl; have hf9 := KRES0.out.frozen 9; go_simp; clear hs0 hf0 hs1 hf1 hs2 hf2 hs3 hf3 hs4 hf4 hs5 hf5 hs6 hf6 hs7 hf7 hs8 hf8 hs9 hf9; obtain ⟨wn, hwn⟩ : ∃ x, x = putAt wc (w.heap.size + 1 + 1) 0 [.int .i64 x0, .int .i64 x1, .int .i64 x2, .int .i64 x3, .int .i64 x4, .int .i64 x5, .int .i64 x6, .int .i64 x7, .int .i64 x8, .slice p n q] := ⟨_, rfl⟩; have en : ((((((((((wc.setCell ⟨w.heap.size + 1 + 1, 0, none⟩ (.int .i64 x0)).setCell ⟨w.heap.size + 1 + 1, 1, none⟩ (.int .i64 x1)).setCell ⟨w.heap.size + 1 + 1, 2, none⟩ (.int .i64 x2)).setCell ⟨w.heap.size + 1 + 1, 3, none⟩ (.int .i64 x3)).setCell ⟨w.heap.size + 1 + 1, 4, none⟩ (.int .i64 x4)).setCell ⟨w.heap.size + 1 + 1, 5, none⟩ (.int .i64 x5)).setCell ⟨w.heap.size + 1 + 1, 6, none⟩ (.int .i64 x6)).setCell ⟨w.heap.size + 1 + 1, 7, none⟩ (.int .i64 x7)).setCell ⟨w.heap.size + 1 + 1, 8, none⟩ (.int .i64 x8)).setCell ⟨w.heap.size + 1 + 1, 9, none⟩ (.slice p n q)) = wn := (by rw [hwn]; rfl); rw [en]; clear en; have zz2 : wc.heap.size ≤ wn.heap.size := (by rw [hwn, put_size]; exact Nat.le_refl _); (first | replace HX := Lib.hid (show Ext w2 wn by rw [hwn]; exact put_ext (by first | assumption | omega) _ _ _ HX.out) | skip); (try replace KX := Lib.hid (show RowAt wn (bX) 26 _ by rw [hwn]; exact put_other (by omega) _ _ _ KX.out)); (try replace KY := Lib.hid (show RowAt wn (bY) 33 _ by rw [hwn]; exact put_other (by omega) _ _ _ KY.out)); replace KRES0 := Lib.hid (RowAt.cast (c' := #[.int .i64 x0, .int .i64 x1, .int .i64 x2, .int .i64 x3, .int .i64 x4, .int .i64 x5, .int .i64 x6, .int .i64 x7, .int .i64 x8, .slice p n q]) (show RowAt wn (w.heap.size + 1 + 1) 26 (putArr #[.int .i64 0, .int .i64 0, .int .i64 0, .int .i64 0, .int .i64 0, .int .i64 0, .int .i64 0, .int .i64 0, .int .i64 0, .slice none 0 0] 0 [.int .i64 x0, .int .i64 x1, .int .i64 x2, .int .i64 x3, .int .i64 x4, .int .i64 x5, .int .i64 x6, .int .i64 x7, .int .i64 x8, .slice p n q]) by rw [hwn]; exact put_at _ _ _ _ KRES0.out) (by simp [putArr])); (try replace KRES1 := Lib.hid (show RowAt wn (w.heap.size + 1 + 1 + 1) 33 _ by rw [hwn]; exact put_other (by omega) _ _ _ KRES1.out)); (try replace OOT := Lib.hid (OOT.out.keep (w' := wn) (Nat.le_refl _) (Nat.le_refl _) (by rw [hwn]; exact put_kept (by omega)))); (try replace OOR := Lib.hid (OOR.out.keep (w' := wn) (Nat.le_refl _) (Nat.le_refl _) (by rw [hwn]; exact put_kept (by omega)))); (try replace HWX := Lib.hid (show Ext _ wn by rw [hwn]; exact put_ext (by omega) _ _ _ HWX.out)); clear hwn; obtain ⟨wc, hq⟩ : ∃ x, x = wn := ⟨_, rfl⟩; subst hq)
      refine hK.out _ _ ?_ (fun hH1 => ?_)
      · (try dsimp only)
        (exact ⟨KX.out.cell rfl, KX.out.cell rfl, KX.out.cell rfl, KX.out.cell rfl, KX.out.cell rfl, KX.out.cell rfl, KX.out.cell rfl, KX.out.cell rfl, KX.out.cell rfl, KX.out.cell rfl, KY.out.cell rfl, KY.out.cell rfl, KY.out.cell rfl⟩)
      clear hK K hH0
      (try simp only [Act.put, List.setIfInBounds_toArray, List.set_cons_zero, List.set_cons_succ])
      refine wpAnyH_ready (rs := [3]) (by kernel_rfl) (by simp) ?_
      refine cons_l (i := 3) rfl (fun K hK => ?_) ?_
      (have hs0 := KRES1.out.cell (j := 0) (v := .slice none 0 0) rfl; have hf0 := KRES1.out.frozen 0; have hs1 := KRES1.out.cell (j := 1) (v := .int .i64 0) rfl; have hf1 := KRES1.out.frozen 1; have hs2 := KRES1.out.cell (j := 2) (v := .slice none 0 0) rfl; have hf2 := KRES1.out.frozen 2; go_simp; clear hs0 hf0 hs1 hf1 hs2 hf2; obtain ⟨wn, hwn⟩ : ∃ x, x = putAt wc (w.heap.size + 1 + 1 + 1) 0 [.slice a1 tn c1, .int .i64 vol, .slice a2 pn c2] := ⟨_, rfl⟩; have en : (((wc.setCell ⟨w.heap.size + 1 + 1 + 1, 0, none⟩ (.slice a1 tn c1)).setCell ⟨w.heap.size + 1 + 1 + 1, 1, none⟩ (.int .i64 vol)).setCell ⟨w.heap.size + 1 + 1 + 1, 2, none⟩ (.slice a2 pn c2)) = wn := (by rw [hwn]; rfl); rw [en]; clear en; have zz3 : wc.heap.size ≤ wn.heap.size := (by rw [hwn, put_size]; exact Nat.le_refl _); (first | replace HX := Lib.hid (show Ext w2 wn by rw [hwn]; exact put_ext (by first | assumption | omega) _ _ _ HX.out) | skip); (try replace KX := Lib.hid (show RowAt wn (bX) 26 _ by rw [hwn]; exact put_other (by omega) _ _ _ KX.out)); (try replace KY := Lib.hid (show RowAt wn (bY) 33 _ by rw [hwn]; exact put_other (by omega) _ _ _ KY.out)); (try replace KRES0 := Lib.hid (show RowAt wn (w.heap.size + 1 + 1) 26 _ by rw [hwn]; exact put_other (by omega) _ _ _ KRES0.out)); replace KRES1 := Lib.hid (RowAt.cast (c' := #[.slice a1 tn c1, .int .i64 vol, .slice a2 pn c2]) (show RowAt wn (w.heap.size + 1 + 1 + 1) 33 (putArr #[.slice none 0 0, .int .i64 0, .slice none 0 0] 0 [.slice a1 tn c1, .int .i64 vol, .slice a2 pn c2]) by rw [hwn]; exact put_at _ _ _ _ KRES1.out) (by simp [putArr])); (try replace OOT := Lib.hid (OOT.out.keep (w' := wn) (Nat.le_refl _) (Nat.le_refl _) (by rw [hwn]; exact put_kept (by omega)))); (try replace OOR := Lib.hid (OOR.out.keep (w' := wn) (Nat.le_refl _) (Nat.le_refl _) (by rw [hwn]; exact put_kept (by omega)))); (try replace HWX := Lib.hid (show Ext _ wn by rw [hwn]; exact put_ext (by omega) _ _ _ HWX.out)); clear hwn; obtain ⟨wc, hq⟩ : ∃ x, x = wn := ⟨_, rfl⟩; subst hq)
      refine hK.out _ _ ?_ (fun hH2 => ?_)
      · (try dsimp only)
        (exact ⟨KX.out.cell rfl, KX.out.cell rfl, KX.out.cell rfl, KX.out.cell rfl, KX.out.cell rfl, KX.out.cell rfl, KX.out.cell rfl, KX.out.cell rfl, KX.out.cell rfl, KX.out.cell rfl, KY.out.cell rfl, KY.out.cell rfl, KY.out.cell rfl⟩)
      clear hK K hH1
      (try simp only [Act.put, List.setIfInBounds_toArray, List.set_cons_zero, List.set_cons_succ])
      refine wpAnyH_done (by kernel_rfl) ?_ _
      rotate_left
      exact AllReadyH.nil
      exact AllReadyH.nil
      go_wp2
      have q0_0 : wc.cell? ⟨w.heap.size + 1 + 1, 0, none⟩ = some (.int .i64 x0) := KRES0.out.cell rfl
      have q0_1 : wc.cell? ⟨w.heap.size + 1 + 1, 1, none⟩ = some (.int .i64 x1) := KRES0.out.cell rfl
      have q0_2 : wc.cell? ⟨w.heap.size + 1 + 1, 2, none⟩ = some (.int .i64 x2) := KRES0.out.cell rfl
      have q0_3 : wc.cell? ⟨w.heap.size + 1 + 1, 3, none⟩ = some (.int .i64 x3) := KRES0.out.cell rfl
      have q0_4 : wc.cell? ⟨w.heap.size + 1 + 1, 4, none⟩ = some (.int .i64 x4) := KRES0.out.cell rfl
      have q0_5 : wc.cell? ⟨w.heap.size + 1 + 1, 5, none⟩ = some (.int .i64 x5) := KRES0.out.cell rfl
      have q0_6 : wc.cell? ⟨w.heap.size + 1 + 1, 6, none⟩ = some (.int .i64 x6) := KRES0.out.cell rfl
      have q0_7 : wc.cell? ⟨w.heap.size + 1 + 1, 7, none⟩ = some (.int .i64 x7) := KRES0.out.cell rfl
      have q0_8 : wc.cell? ⟨w.heap.size + 1 + 1, 8, none⟩ = some (.int .i64 x8) := KRES0.out.cell rfl
      have q0_9 : wc.cell? ⟨w.heap.size + 1 + 1, 9, none⟩ = some (.slice p n q) := KRES0.out.cell rfl
      have q1_0 : wc.cell? ⟨w.heap.size + 1 + 1 + 1, 0, none⟩ = some (.slice a1 tn c1) := KRES1.out.cell rfl
      have q1_1 : wc.cell? ⟨w.heap.size + 1 + 1 + 1, 1, none⟩ = some (.int .i64 vol) := KRES1.out.cell rfl
      have q1_2 : wc.cell? ⟨w.heap.size + 1 + 1 + 1, 2, none⟩ = some (.slice a2 pn c2) := KRES1.out.cell rfl
      refine bodyPost_ret (v := .tuple #[.agg #[.int .i64 x0, .int .i64 x1, .int .i64 x2, .int .i64 x3, .int .i64 x4, .int .i64 x5, .int .i64 x6, .int .i64 x7, .int .i64 x8, .slice p n q], .agg #[.slice a1 tn c1, .int .i64 vol, .slice a2 pn c2]]) (by simp [results, Try.results10, go_sem, *]) rfl ⟨p, q, _, _, _, _, rfl, LockReach.mk (lo1 := lo1) (hi1 := hi1) (lo2 := lo2) (hi2 := hi2) (by omega) (by omega) (by omega) (by omega) (by omega) OOT.out OOR.out, HWX.out⟩
    rw [if_neg hcl] at hres
    have e1 : decide (lev ≤ ch) = false := by simpa using hcl
    obtain ⟨P, hP⟩ : ∃ P, x5 * (lev - ch) = P := ⟨_, rfl⟩
    have hPb : 0 ≤ P ∧ P ≤ 10000000000000 := by
      have p1 := Int.mul_nonneg (show (0 : Int) ≤ x5 by omega) (show (0 : Int) ≤ lev - ch by omega)
      have p2 := Int.mul_le_mul h5.2 (show lev - ch ≤ 1000000000 by omega) (by omega) (by omega)
      omega
    rw [hP] at hres
    obtain ⟨am, hAM⟩ : ∃ am, (if x6 < P then x6 else P) = am := ⟨_, rfl⟩
    have hamb : 0 ≤ am ∧ am ≤ 100000 := by rw [← hAM]; split <;> omega
    have hm1 : min P x6 = am := by rw [← hAM]; split <;> omega
    rw [hm1] at hres
    obtain ⟨tk, htk⟩ : ∃ tk, min am vol = tk := ⟨_, rfl⟩
    rw [htk] at hres
    have htkb : 0 ≤ tk ∧ tk ≤ 100000 := by omega
    have HTK := Lib.hid htk; clear htk hm1
    have wv1 : IntKind.i64.wrap (lev - ch) = lev - ch := IntWalk.i64_in _ (by omega)
    have wv2 : IntKind.i64.wrap P = P := IntWalk.i64_in _ (by omega)
    have wv3 : IntKind.i64.wrap (x7 + tk) = x7 + tk := IntWalk.i64_in _ (by omega)
    have cB00 : ∀ y : Aft w1, y.1.cell? ⟨w.heap.size, 0, none⟩ = some (.int .i64 x0) := fun y => (B0_1.out.ext y.2).cell rfl
    have cB01 : ∀ y : Aft w1, y.1.cell? ⟨w.heap.size, 1, none⟩ = some (.int .i64 x1) := fun y => (B0_1.out.ext y.2).cell rfl
    have cB02 : ∀ y : Aft w1, y.1.cell? ⟨w.heap.size, 2, none⟩ = some (.int .i64 x2) := fun y => (B0_1.out.ext y.2).cell rfl
    have cB03 : ∀ y : Aft w1, y.1.cell? ⟨w.heap.size, 3, none⟩ = some (.int .i64 x3) := fun y => (B0_1.out.ext y.2).cell rfl
    have cB04 : ∀ y : Aft w1, y.1.cell? ⟨w.heap.size, 4, none⟩ = some (.int .i64 x4) := fun y => (B0_1.out.ext y.2).cell rfl
    have cB05 : ∀ y : Aft w1, y.1.cell? ⟨w.heap.size, 5, none⟩ = some (.int .i64 x5) := fun y => (B0_1.out.ext y.2).cell rfl
    have cB06 : ∀ y : Aft w1, y.1.cell? ⟨w.heap.size, 6, none⟩ = some (.int .i64 x6) := fun y => (B0_1.out.ext y.2).cell rfl
    have cB07 : ∀ y : Aft w1, y.1.cell? ⟨w.heap.size, 7, none⟩ = some (.int .i64 x7) := fun y => (B0_1.out.ext y.2).cell rfl
    have cB08 : ∀ y : Aft w1, y.1.cell? ⟨w.heap.size, 8, none⟩ = some (.int .i64 x8) := fun y => (B0_1.out.ext y.2).cell rfl
    have cB09 : ∀ y : Aft w1, y.1.cell? ⟨w.heap.size, 9, none⟩ = some (.slice a n c) := fun y => (B0_1.out.ext y.2).cell rfl
    have cB10 : ∀ y : Aft w1, y.1.cell? ⟨w.heap.size + 1, 0, none⟩ = some (.slice ta tn tc) := fun y => (B1_1.out.ext y.2).cell rfl
    have cB11 : ∀ y : Aft w1, y.1.cell? ⟨w.heap.size + 1, 1, none⟩ = some (.int .i64 vol) := fun y => (B1_1.out.ext y.2).cell rfl
    have cB12 : ∀ y : Aft w1, y.1.cell? ⟨w.heap.size + 1, 2, none⟩ = some (.slice pa pn pc) := fun y => (B1_1.out.ext y.2).cell rfl
    go_wp2_with fail
    (refine wp_region_aft w1 (Ext.refl _) (by kernel_rfl) (by kernel_rfl) ?_; (repeat (go_big_quiet_step ((first | (go_at_call 21; exact aft_call (implLockOk_any true _ _ _ _ _ _ _ _ _ _ _ _ ts _ HN.out HS.out HTS.out (HF.out.ext (HW1.out.trans (Subtype.property _))) HK1.out)) | (go_at_call 29; exact aft_call (implReachOk_is true _ _ _ _ _ _ _ ps xs _ HT.out HTL.out HP.out HPL.out (HFT.out.ext (HW1.out.trans (Subtype.property _))) (HFP.out.ext (HW1.out.trans (Subtype.property _))) hvol HK2.out)) | (go_at_call 11; exact aft_call (implChamber_any ch _ _ _ _ _ _ _ _ _ _ _ _ ts _ HN.out HS.out HTS.out (HF.out.ext (HW1.out.trans (Subtype.property _))) HCH.out)) | (go_at_call 12; exact aft_call (implLevel_is lev _ _ _ _ _ _ _ ps xs _ HT.out HTL.out HP.out HPL.out (HFT.out.ext (HW1.out.trans (Subtype.property _))) (HFP.out.ext (HW1.out.trans (Subtype.property _))) hvol HLV.out)))))); refine wpQuiet_nil ?_; intro w2 hx2)
    clear cB00 cB01 cB02 cB03 cB04 cB05 cB06 cB07 cB08 cB09 cB10 cB11 cB12
    obtain ⟨w2, hq⟩ : ∃ x, x = w2 := ⟨_, rfl⟩; subst hq
    have HW2 := Lib.hid (HW1.out.trans hx2)
    have B0_2 := Lib.hid (B0_1.out.ext hx2)
    have B1_2 := Lib.hid (B1_1.out.ext hx2)
    have RES0_2 := Lib.hid (RES0_1.out.ext hx2)
    have RES1_2 := Lib.hid (RES1_1.out.ext hx2)
    have X_2 := Lib.hid (X_1.out.ext hx2)
    have Y_2 := Lib.hid (Y_1.out.ext hx2)
    have OT_2 := Lib.hid (OT_1.out.ext hx2)
    have OR_2 := Lib.hid (OR_1.out.ext hx2)
    have zz2 := hx2.size
    clear HW1 B0_1 B1_1 RES0_1 RES1_1 X_1 Y_1 OT_1 OR_1 hx2
    have cB00 : ∀ y : Aft w2, y.1.cell? ⟨w.heap.size, 0, none⟩ = some (.int .i64 x0) := fun y => (B0_2.out.ext y.2).cell rfl
    have cB01 : ∀ y : Aft w2, y.1.cell? ⟨w.heap.size, 1, none⟩ = some (.int .i64 x1) := fun y => (B0_2.out.ext y.2).cell rfl
    have cB02 : ∀ y : Aft w2, y.1.cell? ⟨w.heap.size, 2, none⟩ = some (.int .i64 x2) := fun y => (B0_2.out.ext y.2).cell rfl
    have cB03 : ∀ y : Aft w2, y.1.cell? ⟨w.heap.size, 3, none⟩ = some (.int .i64 x3) := fun y => (B0_2.out.ext y.2).cell rfl
    have cB04 : ∀ y : Aft w2, y.1.cell? ⟨w.heap.size, 4, none⟩ = some (.int .i64 x4) := fun y => (B0_2.out.ext y.2).cell rfl
    have cB05 : ∀ y : Aft w2, y.1.cell? ⟨w.heap.size, 5, none⟩ = some (.int .i64 x5) := fun y => (B0_2.out.ext y.2).cell rfl
    have cB06 : ∀ y : Aft w2, y.1.cell? ⟨w.heap.size, 6, none⟩ = some (.int .i64 x6) := fun y => (B0_2.out.ext y.2).cell rfl
    have cB07 : ∀ y : Aft w2, y.1.cell? ⟨w.heap.size, 7, none⟩ = some (.int .i64 x7) := fun y => (B0_2.out.ext y.2).cell rfl
    have cB08 : ∀ y : Aft w2, y.1.cell? ⟨w.heap.size, 8, none⟩ = some (.int .i64 x8) := fun y => (B0_2.out.ext y.2).cell rfl
    have cB09 : ∀ y : Aft w2, y.1.cell? ⟨w.heap.size, 9, none⟩ = some (.slice a n c) := fun y => (B0_2.out.ext y.2).cell rfl
    have cB10 : ∀ y : Aft w2, y.1.cell? ⟨w.heap.size + 1, 0, none⟩ = some (.slice ta tn tc) := fun y => (B1_2.out.ext y.2).cell rfl
    have cB11 : ∀ y : Aft w2, y.1.cell? ⟨w.heap.size + 1, 1, none⟩ = some (.int .i64 vol) := fun y => (B1_2.out.ext y.2).cell rfl
    have cB12 : ∀ y : Aft w2, y.1.cell? ⟨w.heap.size + 1, 2, none⟩ = some (.slice pa pn pc) := fun y => (B1_2.out.ext y.2).cell rfl
    go_wp2_with fail
    (refine wp_region_aft w2 (Ext.refl _) (by kernel_rfl) (by kernel_rfl) ?_; (repeat (go_big_quiet_step ((first | (go_at_call 11; exact aft_call (implChamber_any ch _ _ _ _ _ _ _ _ _ _ _ _ ts _ HN.out HS.out HTS.out (HF.out.ext (HW2.out.trans (Subtype.property _))) HCH.out)) | (go_at_call 12; exact aft_call (implLevel_is lev _ _ _ _ _ _ _ ps xs _ HT.out HTL.out HP.out HPL.out (HFT.out.ext (HW2.out.trans (Subtype.property _))) (HFP.out.ext (HW2.out.trans (Subtype.property _))) hvol HLV.out)))))); refine wpQuiet_nil ?_; intro w2 hx2)
    clear cB00 cB01 cB02 cB03 cB04 cB05 cB06 cB07 cB08 cB09 cB10 cB11 cB12
    obtain ⟨w3, hq⟩ : ∃ x, x = w2 := ⟨_, rfl⟩; subst hq
    have HW3 := Lib.hid (HW2.out.trans hx2)
    have B0_3 := Lib.hid (B0_2.out.ext hx2)
    have B1_3 := Lib.hid (B1_2.out.ext hx2)
    have RES0_3 := Lib.hid (RES0_2.out.ext hx2)
    have RES1_3 := Lib.hid (RES1_2.out.ext hx2)
    have X_3 := Lib.hid (X_2.out.ext hx2)
    have Y_3 := Lib.hid (Y_2.out.ext hx2)
    have OT_3 := Lib.hid (OT_2.out.ext hx2)
    have OR_3 := Lib.hid (OR_2.out.ext hx2)
    have zz3 := hx2.size
    clear HW2 B0_2 B1_2 RES0_2 RES1_2 X_2 Y_2 OT_2 OR_2 hx2
    have cB10 : w3.cell? ⟨w.heap.size + 1, 0, none⟩ = some (.slice ta tn tc) := B1_3.out.cell rfl
    have cB11 : w3.cell? ⟨w.heap.size + 1, 1, none⟩ = some (.int .i64 vol) := B1_3.out.cell rfl
    have cB12 : w3.cell? ⟨w.heap.size + 1, 2, none⟩ = some (.slice pa pn pc) := B1_3.out.cell rfl
    go_wp2_with fail
    with_reducible refine (implTakeOff_any tk am _ _ _ _ _ _ _ ps xs _ HT.out htl HP.out hpl (HFT.out.ext HW3.out) (HFP.out.ext HW3.out) hvol HCT.out HCP.out HK2.out (by omega) HTK.out).mono ?_
    rintro e w4 ⟨a3, c3, a4, c4, rfl, hg3, hb⟩
    clear cB10 cB11 cB12
    have hown := Lib.hid (hg3); clear hg3
    have HW4 := Lib.hid (HW3.out.trans hb)
    have B0_4 := Lib.hid (B0_3.out.ext hb)
    have B1_4 := Lib.hid (B1_3.out.ext hb)
    have RES0_4 := Lib.hid (RES0_3.out.ext hb)
    have RES1_4 := Lib.hid (RES1_3.out.ext hb)
    have X_4 := Lib.hid (X_3.out.ext hb)
    have Y_4 := Lib.hid (Y_3.out.ext hb)
    have OT_4 := Lib.hid (OT_3.out.ext hb)
    have OR_4 := Lib.hid (OR_3.out.ext hb)
    have zz4 := hb.size
    clear HW3 B0_3 B1_3 RES0_3 RES1_3 X_3 Y_3 OT_3 OR_3 hb
    have OA_4 := hown; clear hown
    by_cases hov : 1000000000 < x7 + tk
    · rw [if_pos hov] at hres
      obtain ⟨rfl, rfl⟩ := Prod.mk.inj hres
      clear hres
      have e2 : decide (1000000000 < x7 + tk) = true := by simpa using hov
      obtain ⟨bA, hbA⟩ : ∃ x, x = w4.heap.size := ⟨_, rfl⟩
      obtain ⟨w5, hw5⟩ : ∃ x, x = w4.alloc (.cells #[.slice a3 tn c3, .int .i64 (vol - tk), .slice a4 pn c4] 33) := ⟨_, rfl⟩
      have hal := (Ext.refl w4).alloc (.cells #[.slice a3 tn c3, .int .i64 (vol - tk), .slice a4 pn c4] 33)
      have Aq := Lib.hid (RowAt.new w4 33 #[.slice a3 tn c3, .int .i64 (vol - tk), .slice a4 pn c4])
      rw [← hw5] at hal Aq
      rw [← hbA] at Aq
      have lA := Aq.out.lt
      have mA : w4.heap.size ≤ bA := Nat.le_of_eq hbA.symm
      have nA : bA ≤ w4.heap.size := Nat.le_of_eq hbA
      have e0 : (w4.alloc (.cells #[.slice a3 tn c3, .int .i64 (vol - tk), .slice a4 pn c4] 33)).cell? ⟨w.heap.size, 0, none⟩ = some (.int .i64 x0) := (B0_4.out.ext ((Ext.refl _).alloc _)).cell rfl
      have e1 : (w4.alloc (.cells #[.slice a3 tn c3, .int .i64 (vol - tk), .slice a4 pn c4] 33)).cell? ⟨w.heap.size, 1, none⟩ = some (.int .i64 x1) := (B0_4.out.ext ((Ext.refl _).alloc _)).cell rfl
      have e2 : (w4.alloc (.cells #[.slice a3 tn c3, .int .i64 (vol - tk), .slice a4 pn c4] 33)).cell? ⟨w.heap.size, 2, none⟩ = some (.int .i64 x2) := (B0_4.out.ext ((Ext.refl _).alloc _)).cell rfl
      have e3 : (w4.alloc (.cells #[.slice a3 tn c3, .int .i64 (vol - tk), .slice a4 pn c4] 33)).cell? ⟨w.heap.size, 3, none⟩ = some (.int .i64 x3) := (B0_4.out.ext ((Ext.refl _).alloc _)).cell rfl
      have e4 : (w4.alloc (.cells #[.slice a3 tn c3, .int .i64 (vol - tk), .slice a4 pn c4] 33)).cell? ⟨w.heap.size, 4, none⟩ = some (.int .i64 x4) := (B0_4.out.ext ((Ext.refl _).alloc _)).cell rfl
      have e5 : (w4.alloc (.cells #[.slice a3 tn c3, .int .i64 (vol - tk), .slice a4 pn c4] 33)).cell? ⟨w.heap.size, 5, none⟩ = some (.int .i64 x5) := (B0_4.out.ext ((Ext.refl _).alloc _)).cell rfl
      have e6 : (w4.alloc (.cells #[.slice a3 tn c3, .int .i64 (vol - tk), .slice a4 pn c4] 33)).cell? ⟨w.heap.size, 6, none⟩ = some (.int .i64 x6) := (B0_4.out.ext ((Ext.refl _).alloc _)).cell rfl
      have e7 : (w4.alloc (.cells #[.slice a3 tn c3, .int .i64 (vol - tk), .slice a4 pn c4] 33)).cell? ⟨w.heap.size, 7, none⟩ = some (.int .i64 x7) := (B0_4.out.ext ((Ext.refl _).alloc _)).cell rfl
      have e8 : (w4.alloc (.cells #[.slice a3 tn c3, .int .i64 (vol - tk), .slice a4 pn c4] 33)).cell? ⟨w.heap.size, 8, none⟩ = some (.int .i64 x8) := (B0_4.out.ext ((Ext.refl _).alloc _)).cell rfl
      have e9 : (w4.alloc (.cells #[.slice a3 tn c3, .int .i64 (vol - tk), .slice a4 pn c4] 33)).cell? ⟨w.heap.size, 9, none⟩ = some (.slice a n c) := (B0_4.out.ext ((Ext.refl _).alloc _)).cell rfl
      go_wp2_with fail
      clear e0 e1 e2 e3 e4 e5 e6 e7 e8 e9
      (try rw [← hw5])
      (try rw [← hbA])
      clear hw5 hbA
      have HW5 := Lib.hid (HW4.out.trans hal)
      have B0_5 := Lib.hid (B0_4.out.ext hal)
      have B1_5 := Lib.hid (B1_4.out.ext hal)
      have RES0_5 := Lib.hid (RES0_4.out.ext hal)
      have RES1_5 := Lib.hid (RES1_4.out.ext hal)
      have X_5 := Lib.hid (X_4.out.ext hal)
      have Y_5 := Lib.hid (Y_4.out.ext hal)
      have OT_5 := Lib.hid (OT_4.out.ext hal)
      have OR_5 := Lib.hid (OR_4.out.ext hal)
      have OA_5 := Lib.hid (OA_4.out.ext hal)
      have zz5 := hal.size
      clear HW4 B0_4 B1_4 RES0_4 RES1_4 X_4 Y_4 OT_4 OR_4 OA_4 hal
      have A_5 := Aq; clear Aq
      have KX := X_5
      have KY := Y_5
      have KRES0 := RES0_5
      have KRES1 := RES1_5
      have OOT := OT_5
      have OOR := OR_5
      have OOA := OA_5
      have HWX := HW5
      refine wp_region_held_drew (S := (fun w' => w'.cell? ⟨bX, 0, none⟩ = some (.int .i64 x0) ∧ w'.cell? ⟨bX, 1, none⟩ = some (.int .i64 x1) ∧ w'.cell? ⟨bX, 2, none⟩ = some (.int .i64 x2) ∧ w'.cell? ⟨bX, 3, none⟩ = some (.int .i64 x3) ∧ w'.cell? ⟨bX, 4, none⟩ = some (.int .i64 x4) ∧ w'.cell? ⟨bX, 5, none⟩ = some (.int .i64 x5) ∧ w'.cell? ⟨bX, 6, none⟩ = some (.int .i64 x6) ∧ w'.cell? ⟨bX, 7, none⟩ = some (.int .i64 x7) ∧ w'.cell? ⟨bX, 8, none⟩ = some (.int .i64 x8) ∧ w'.cell? ⟨bX, 9, none⟩ = some (.slice p n q) ∧ w'.cell? ⟨bY, 0, none⟩ = some (.slice a1 tn c1) ∧ w'.cell? ⟨bY, 1, none⟩ = some (.int .i64 vol) ∧ w'.cell? ⟨bY, 2, none⟩ = some (.slice a2 pn c2))) (by kernel_rfl) ?_ (fun hH0 => ?_)
      · (try dsimp only)
        (exact ⟨KX.out.cell rfl, KX.out.cell rfl, KX.out.cell rfl, KX.out.cell rfl, KX.out.cell rfl, KX.out.cell rfl, KX.out.cell rfl, KX.out.cell rfl, KX.out.cell rfl, KX.out.cell rfl, KY.out.cell rfl, KY.out.cell rfl, KY.out.cell rfl⟩)
      (obtain ⟨wc, hwc⟩ : ∃ x, x = w5.drew := ⟨_, rfl⟩; have hdr : Ext w5 wc := (by rw [hwc]; exact (Ext.refl _).drew); (try rw [← hwc] at hH0); (try rw [← hwc]); have zdr : w5.heap.size ≤ wc.heap.size := hdr.size; have HX := Lib.hid hdr; have KX := Lib.hid (X_5.out.ext hdr); have KY := Lib.hid (Y_5.out.ext hdr); have KRES0 := Lib.hid (RES0_5.out.ext hdr); have KRES1 := Lib.hid (RES1_5.out.ext hdr); have OOT := Lib.hid (OT_5.out.ext hdr); have OOR := Lib.hid (OR_5.out.ext hdr); have OOA := Lib.hid (OA_5.out.ext hdr); clear hwc hdr; replace HWX := Lib.hid (HWX.out.trans HX.out))
      refine take_l 0 (v := ?_) rfl (by kernel_rfl) (by kernel_rfl) (by kernel_rfl) (fun _ _ _ h => h) (by rfl) ?_ (by assumption) ?_
      rotate_left
      · (intro w hSw; (try dsimp only at hSw); go_simp; (try with_reducible rfl))
      (try simp only [Act.put, List.setIfInBounds_toArray, List.set_cons_zero, List.set_cons_succ])
      refine take_l 1 (v := ?_) rfl (by kernel_rfl) (by kernel_rfl) (by kernel_rfl) (fun _ _ _ h => h) (by rfl) ?_ (by assumption) ?_
      rotate_left
      · (intro w hSw; (try dsimp only at hSw); go_simp; (try with_reducible rfl))
      (try simp only [Act.put, List.setIfInBounds_toArray, List.set_cons_zero, List.set_cons_succ])
      refine wpAnyH_ready (rs := [2]) (by kernel_rfl) (by simp) ?_
      refine cons_l (i := 2) rfl (fun K hK => ?_) ?_
      (have hs0 := KRES0.out.cell (j := 0) (v := .int .i64 0) rfl; have hf0 := KRES0.out.frozen 0; have hs1 := KRES0.out.cell (j := 1) (v := .int .i64 0) rfl; have hf1 := KRES0.out.frozen 1; have hs2 := KRES0.out.cell (j := 2) (v := .int .i64 0) rfl; have hf2 := KRES0.out.frozen 2; have hs3 := KRES0.out.cell (j := 3) (v := .int .i64 0) rfl; have hf3 := KRES0.out.frozen 3; have hs4 := KRES0.out.cell (j := 4) (v := .int .i64 0) rfl; have hf4 := KRES0.out.frozen 4; have hs5 := KRES0.out.cell (j := 5) (v := .int .i64 0) rfl; have hf5 := KRES0.out.frozen 5; have hs6 := KRES0.out.cell (j := 6) (v := .int .i64 0) rfl; have hf6 := KRES0.out.frozen 6; have hs7 := KRES0.out.cell (j := 7) (v := .int .i64 0) rfl; have hf7 := KRES0.out.frozen 7; have hs8 := KRES0.out.cell (j := 8) (v := .int .i64 0) rfl; have hf8 := KRES0.out.frozen 8; have hs9 := KRES0.out.cell (j := 9) (v := .slice none 0 0) rfl; have hf9 := KRES0.out.frozen 9; go_simp; clear hs0 hf0 hs1 hf1 hs2 hf2 hs3 hf3 hs4 hf4 hs5 hf5 hs6 hf6 hs7 hf7 hs8 hf8 hs9 hf9; obtain ⟨wn, hwn⟩ : ∃ x, x = putAt wc (w.heap.size + 1 + 1) 0 [.int .i64 x0, .int .i64 x1, .int .i64 x2, .int .i64 x3, .int .i64 x4, .int .i64 x5, .int .i64 x6, .int .i64 x7, .int .i64 x8, .slice p n q] := ⟨_, rfl⟩; have en : ((((((((((wc.setCell ⟨w.heap.size + 1 + 1, 0, none⟩ (.int .i64 x0)).setCell ⟨w.heap.size + 1 + 1, 1, none⟩ (.int .i64 x1)).setCell ⟨w.heap.size + 1 + 1, 2, none⟩ (.int .i64 x2)).setCell ⟨w.heap.size + 1 + 1, 3, none⟩ (.int .i64 x3)).setCell ⟨w.heap.size + 1 + 1, 4, none⟩ (.int .i64 x4)).setCell ⟨w.heap.size + 1 + 1, 5, none⟩ (.int .i64 x5)).setCell ⟨w.heap.size + 1 + 1, 6, none⟩ (.int .i64 x6)).setCell ⟨w.heap.size + 1 + 1, 7, none⟩ (.int .i64 x7)).setCell ⟨w.heap.size + 1 + 1, 8, none⟩ (.int .i64 x8)).setCell ⟨w.heap.size + 1 + 1, 9, none⟩ (.slice p n q)) = wn := (by rw [hwn]; rfl); rw [en]; clear en; have zz2 : wc.heap.size ≤ wn.heap.size := (by rw [hwn, put_size]; exact Nat.le_refl _); (first | replace HX := Lib.hid (show Ext w5 wn by rw [hwn]; exact put_ext (by first | assumption | omega) _ _ _ HX.out) | skip); (try replace KX := Lib.hid (show RowAt wn (bX) 26 _ by rw [hwn]; exact put_other (by omega) _ _ _ KX.out)); (try replace KY := Lib.hid (show RowAt wn (bY) 33 _ by rw [hwn]; exact put_other (by omega) _ _ _ KY.out)); replace KRES0 := Lib.hid (RowAt.cast (c' := #[.int .i64 x0, .int .i64 x1, .int .i64 x2, .int .i64 x3, .int .i64 x4, .int .i64 x5, .int .i64 x6, .int .i64 x7, .int .i64 x8, .slice p n q]) (show RowAt wn (w.heap.size + 1 + 1) 26 (putArr #[.int .i64 0, .int .i64 0, .int .i64 0, .int .i64 0, .int .i64 0, .int .i64 0, .int .i64 0, .int .i64 0, .int .i64 0, .slice none 0 0] 0 [.int .i64 x0, .int .i64 x1, .int .i64 x2, .int .i64 x3, .int .i64 x4, .int .i64 x5, .int .i64 x6, .int .i64 x7, .int .i64 x8, .slice p n q]) by rw [hwn]; exact put_at _ _ _ _ KRES0.out) (by simp [putArr])); (try replace KRES1 := Lib.hid (show RowAt wn (w.heap.size + 1 + 1 + 1) 33 _ by rw [hwn]; exact put_other (by omega) _ _ _ KRES1.out)); (try replace OOT := Lib.hid (OOT.out.keep (w' := wn) (Nat.le_refl _) (Nat.le_refl _) (by rw [hwn]; exact put_kept (by omega)))); (try replace OOR := Lib.hid (OOR.out.keep (w' := wn) (Nat.le_refl _) (Nat.le_refl _) (by rw [hwn]; exact put_kept (by omega)))); (try replace OOA := Lib.hid (OOA.out.keep (w' := wn) (Nat.le_refl _) (Nat.le_refl _) (by rw [hwn]; exact put_kept (by omega)))); (try replace HWX := Lib.hid (show Ext _ wn by rw [hwn]; exact put_ext (by omega) _ _ _ HWX.out)); clear hwn; obtain ⟨wc, hq⟩ : ∃ x, x = wn := ⟨_, rfl⟩; subst hq)
      refine hK.out _ _ ?_ (fun hH1 => ?_)
      · (try dsimp only)
        (exact ⟨KX.out.cell rfl, KX.out.cell rfl, KX.out.cell rfl, KX.out.cell rfl, KX.out.cell rfl, KX.out.cell rfl, KX.out.cell rfl, KX.out.cell rfl, KX.out.cell rfl, KX.out.cell rfl, KY.out.cell rfl, KY.out.cell rfl, KY.out.cell rfl⟩)
      clear hK K hH0
      (try simp only [Act.put, List.setIfInBounds_toArray, List.set_cons_zero, List.set_cons_succ])
      refine wpAnyH_ready (rs := [3]) (by kernel_rfl) (by simp) ?_
      refine cons_l (i := 3) rfl (fun K hK => ?_) ?_
      (have hs0 := KRES1.out.cell (j := 0) (v := .slice none 0 0) rfl; have hf0 := KRES1.out.frozen 0; have hs1 := KRES1.out.cell (j := 1) (v := .int .i64 0) rfl; have hf1 := KRES1.out.frozen 1; have hs2 := KRES1.out.cell (j := 2) (v := .slice none 0 0) rfl; have hf2 := KRES1.out.frozen 2; go_simp; clear hs0 hf0 hs1 hf1 hs2 hf2; obtain ⟨wn, hwn⟩ : ∃ x, x = putAt wc (w.heap.size + 1 + 1 + 1) 0 [.slice a1 tn c1, .int .i64 vol, .slice a2 pn c2] := ⟨_, rfl⟩; have en : (((wc.setCell ⟨w.heap.size + 1 + 1 + 1, 0, none⟩ (.slice a1 tn c1)).setCell ⟨w.heap.size + 1 + 1 + 1, 1, none⟩ (.int .i64 vol)).setCell ⟨w.heap.size + 1 + 1 + 1, 2, none⟩ (.slice a2 pn c2)) = wn := (by rw [hwn]; rfl); rw [en]; clear en; have zz3 : wc.heap.size ≤ wn.heap.size := (by rw [hwn, put_size]; exact Nat.le_refl _); (first | replace HX := Lib.hid (show Ext w5 wn by rw [hwn]; exact put_ext (by first | assumption | omega) _ _ _ HX.out) | skip); (try replace KX := Lib.hid (show RowAt wn (bX) 26 _ by rw [hwn]; exact put_other (by omega) _ _ _ KX.out)); (try replace KY := Lib.hid (show RowAt wn (bY) 33 _ by rw [hwn]; exact put_other (by omega) _ _ _ KY.out)); (try replace KRES0 := Lib.hid (show RowAt wn (w.heap.size + 1 + 1) 26 _ by rw [hwn]; exact put_other (by omega) _ _ _ KRES0.out)); replace KRES1 := Lib.hid (RowAt.cast (c' := #[.slice a1 tn c1, .int .i64 vol, .slice a2 pn c2]) (show RowAt wn (w.heap.size + 1 + 1 + 1) 33 (putArr #[.slice none 0 0, .int .i64 0, .slice none 0 0] 0 [.slice a1 tn c1, .int .i64 vol, .slice a2 pn c2]) by rw [hwn]; exact put_at _ _ _ _ KRES1.out) (by simp [putArr])); (try replace OOT := Lib.hid (OOT.out.keep (w' := wn) (Nat.le_refl _) (Nat.le_refl _) (by rw [hwn]; exact put_kept (by omega)))); (try replace OOR := Lib.hid (OOR.out.keep (w' := wn) (Nat.le_refl _) (Nat.le_refl _) (by rw [hwn]; exact put_kept (by omega)))); (try replace OOA := Lib.hid (OOA.out.keep (w' := wn) (Nat.le_refl _) (Nat.le_refl _) (by rw [hwn]; exact put_kept (by omega)))); (try replace HWX := Lib.hid (show Ext _ wn by rw [hwn]; exact put_ext (by omega) _ _ _ HWX.out)); clear hwn; obtain ⟨wc, hq⟩ : ∃ x, x = wn := ⟨_, rfl⟩; subst hq)
      refine hK.out _ _ ?_ (fun hH2 => ?_)
      · (try dsimp only)
        (exact ⟨KX.out.cell rfl, KX.out.cell rfl, KX.out.cell rfl, KX.out.cell rfl, KX.out.cell rfl, KX.out.cell rfl, KX.out.cell rfl, KX.out.cell rfl, KX.out.cell rfl, KX.out.cell rfl, KY.out.cell rfl, KY.out.cell rfl, KY.out.cell rfl⟩)
      clear hK K hH1
      (try simp only [Act.put, List.setIfInBounds_toArray, List.set_cons_zero, List.set_cons_succ])
      refine wpAnyH_done (by kernel_rfl) ?_ _
      rotate_left
      exact AllReadyH.nil
      exact AllReadyH.nil
      go_wp2
      have q0_0 : wc.cell? ⟨w.heap.size + 1 + 1, 0, none⟩ = some (.int .i64 x0) := KRES0.out.cell rfl
      have q0_1 : wc.cell? ⟨w.heap.size + 1 + 1, 1, none⟩ = some (.int .i64 x1) := KRES0.out.cell rfl
      have q0_2 : wc.cell? ⟨w.heap.size + 1 + 1, 2, none⟩ = some (.int .i64 x2) := KRES0.out.cell rfl
      have q0_3 : wc.cell? ⟨w.heap.size + 1 + 1, 3, none⟩ = some (.int .i64 x3) := KRES0.out.cell rfl
      have q0_4 : wc.cell? ⟨w.heap.size + 1 + 1, 4, none⟩ = some (.int .i64 x4) := KRES0.out.cell rfl
      have q0_5 : wc.cell? ⟨w.heap.size + 1 + 1, 5, none⟩ = some (.int .i64 x5) := KRES0.out.cell rfl
      have q0_6 : wc.cell? ⟨w.heap.size + 1 + 1, 6, none⟩ = some (.int .i64 x6) := KRES0.out.cell rfl
      have q0_7 : wc.cell? ⟨w.heap.size + 1 + 1, 7, none⟩ = some (.int .i64 x7) := KRES0.out.cell rfl
      have q0_8 : wc.cell? ⟨w.heap.size + 1 + 1, 8, none⟩ = some (.int .i64 x8) := KRES0.out.cell rfl
      have q0_9 : wc.cell? ⟨w.heap.size + 1 + 1, 9, none⟩ = some (.slice p n q) := KRES0.out.cell rfl
      have q1_0 : wc.cell? ⟨w.heap.size + 1 + 1 + 1, 0, none⟩ = some (.slice a1 tn c1) := KRES1.out.cell rfl
      have q1_1 : wc.cell? ⟨w.heap.size + 1 + 1 + 1, 1, none⟩ = some (.int .i64 vol) := KRES1.out.cell rfl
      have q1_2 : wc.cell? ⟨w.heap.size + 1 + 1 + 1, 2, none⟩ = some (.slice a2 pn c2) := KRES1.out.cell rfl
      refine bodyPost_ret (v := .tuple #[.agg #[.int .i64 x0, .int .i64 x1, .int .i64 x2, .int .i64 x3, .int .i64 x4, .int .i64 x5, .int .i64 x6, .int .i64 x7, .int .i64 x8, .slice p n q], .agg #[.slice a1 tn c1, .int .i64 vol, .slice a2 pn c2]]) (by simp [results, Try.results10, go_sem, *]) rfl ⟨p, q, _, _, _, _, rfl, LockReach.mk (lo1 := lo1) (hi1 := hi1) (lo2 := lo2) (hi2 := hi2) (by omega) (by omega) (by omega) (by omega) (by omega) OOT.out OOR.out, HWX.out⟩
    rw [if_neg hov] at hres
    obtain ⟨rfl, rfl⟩ := Prod.mk.inj hres
    clear hres
    have e2 : decide (1000000000 < x7 + tk) = false := by simpa using hov
    obtain ⟨bA, hbA⟩ : ∃ x, x = w4.heap.size := ⟨_, rfl⟩
    obtain ⟨w5, hw5⟩ : ∃ x, x = w4.alloc (.cells #[.slice a3 tn c3, .int .i64 (vol - tk), .slice a4 pn c4] 33) := ⟨_, rfl⟩
    have hal := (Ext.refl w4).alloc (.cells #[.slice a3 tn c3, .int .i64 (vol - tk), .slice a4 pn c4] 33)
    have Aq := Lib.hid (RowAt.new w4 33 #[.slice a3 tn c3, .int .i64 (vol - tk), .slice a4 pn c4])
    rw [← hw5] at hal Aq
    rw [← hbA] at Aq
    have lA := Aq.out.lt
    have mA : w4.heap.size ≤ bA := Nat.le_of_eq hbA.symm
    have nA : bA ≤ w4.heap.size := Nat.le_of_eq hbA
    have e0 : (w4.alloc (.cells #[.slice a3 tn c3, .int .i64 (vol - tk), .slice a4 pn c4] 33)).cell? ⟨w.heap.size, 0, none⟩ = some (.int .i64 x0) := (B0_4.out.ext ((Ext.refl _).alloc _)).cell rfl
    have e1 : (w4.alloc (.cells #[.slice a3 tn c3, .int .i64 (vol - tk), .slice a4 pn c4] 33)).cell? ⟨w.heap.size, 1, none⟩ = some (.int .i64 x1) := (B0_4.out.ext ((Ext.refl _).alloc _)).cell rfl
    have e2 : (w4.alloc (.cells #[.slice a3 tn c3, .int .i64 (vol - tk), .slice a4 pn c4] 33)).cell? ⟨w.heap.size, 2, none⟩ = some (.int .i64 x2) := (B0_4.out.ext ((Ext.refl _).alloc _)).cell rfl
    have e3 : (w4.alloc (.cells #[.slice a3 tn c3, .int .i64 (vol - tk), .slice a4 pn c4] 33)).cell? ⟨w.heap.size, 3, none⟩ = some (.int .i64 x3) := (B0_4.out.ext ((Ext.refl _).alloc _)).cell rfl
    have e4 : (w4.alloc (.cells #[.slice a3 tn c3, .int .i64 (vol - tk), .slice a4 pn c4] 33)).cell? ⟨w.heap.size, 4, none⟩ = some (.int .i64 x4) := (B0_4.out.ext ((Ext.refl _).alloc _)).cell rfl
    have e5 : (w4.alloc (.cells #[.slice a3 tn c3, .int .i64 (vol - tk), .slice a4 pn c4] 33)).cell? ⟨w.heap.size, 5, none⟩ = some (.int .i64 x5) := (B0_4.out.ext ((Ext.refl _).alloc _)).cell rfl
    have e6 : (w4.alloc (.cells #[.slice a3 tn c3, .int .i64 (vol - tk), .slice a4 pn c4] 33)).cell? ⟨w.heap.size, 6, none⟩ = some (.int .i64 x6) := (B0_4.out.ext ((Ext.refl _).alloc _)).cell rfl
    have e7 : (w4.alloc (.cells #[.slice a3 tn c3, .int .i64 (vol - tk), .slice a4 pn c4] 33)).cell? ⟨w.heap.size, 7, none⟩ = some (.int .i64 x7) := (B0_4.out.ext ((Ext.refl _).alloc _)).cell rfl
    have e8 : (w4.alloc (.cells #[.slice a3 tn c3, .int .i64 (vol - tk), .slice a4 pn c4] 33)).cell? ⟨w.heap.size, 8, none⟩ = some (.int .i64 x8) := (B0_4.out.ext ((Ext.refl _).alloc _)).cell rfl
    have e9 : (w4.alloc (.cells #[.slice a3 tn c3, .int .i64 (vol - tk), .slice a4 pn c4] 33)).cell? ⟨w.heap.size, 9, none⟩ = some (.slice a n c) := (B0_4.out.ext ((Ext.refl _).alloc _)).cell rfl
    have e10 : (w4.alloc (.cells #[.slice a3 tn c3, .int .i64 (vol - tk), .slice a4 pn c4] 33)).cell? ⟨bX, 0, none⟩ = some (.int .i64 x0) := (X_4.out.ext ((Ext.refl _).alloc _)).cell rfl
    have e11 : (w4.alloc (.cells #[.slice a3 tn c3, .int .i64 (vol - tk), .slice a4 pn c4] 33)).cell? ⟨bX, 1, none⟩ = some (.int .i64 x1) := (X_4.out.ext ((Ext.refl _).alloc _)).cell rfl
    have e12 : (w4.alloc (.cells #[.slice a3 tn c3, .int .i64 (vol - tk), .slice a4 pn c4] 33)).cell? ⟨bX, 2, none⟩ = some (.int .i64 x2) := (X_4.out.ext ((Ext.refl _).alloc _)).cell rfl
    have e13 : (w4.alloc (.cells #[.slice a3 tn c3, .int .i64 (vol - tk), .slice a4 pn c4] 33)).cell? ⟨bX, 3, none⟩ = some (.int .i64 x3) := (X_4.out.ext ((Ext.refl _).alloc _)).cell rfl
    have e14 : (w4.alloc (.cells #[.slice a3 tn c3, .int .i64 (vol - tk), .slice a4 pn c4] 33)).cell? ⟨bX, 4, none⟩ = some (.int .i64 x4) := (X_4.out.ext ((Ext.refl _).alloc _)).cell rfl
    have e15 : (w4.alloc (.cells #[.slice a3 tn c3, .int .i64 (vol - tk), .slice a4 pn c4] 33)).cell? ⟨bX, 5, none⟩ = some (.int .i64 x5) := (X_4.out.ext ((Ext.refl _).alloc _)).cell rfl
    have e16 : (w4.alloc (.cells #[.slice a3 tn c3, .int .i64 (vol - tk), .slice a4 pn c4] 33)).cell? ⟨bX, 6, none⟩ = some (.int .i64 x6) := (X_4.out.ext ((Ext.refl _).alloc _)).cell rfl
    have e17 : (w4.alloc (.cells #[.slice a3 tn c3, .int .i64 (vol - tk), .slice a4 pn c4] 33)).cell? ⟨bX, 7, none⟩ = some (.int .i64 x7) := (X_4.out.ext ((Ext.refl _).alloc _)).cell rfl
    have e18 : (w4.alloc (.cells #[.slice a3 tn c3, .int .i64 (vol - tk), .slice a4 pn c4] 33)).cell? ⟨bX, 8, none⟩ = some (.int .i64 x8) := (X_4.out.ext ((Ext.refl _).alloc _)).cell rfl
    have e19 : (w4.alloc (.cells #[.slice a3 tn c3, .int .i64 (vol - tk), .slice a4 pn c4] 33)).cell? ⟨bX, 9, none⟩ = some (.slice p n q) := (X_4.out.ext ((Ext.refl _).alloc _)).cell rfl
    have e20 : (w4.alloc (.cells #[.slice a3 tn c3, .int .i64 (vol - tk), .slice a4 pn c4] 33)).frozen? ⟨bX, 7, none⟩ = false := (X_4.out.ext ((Ext.refl _).alloc _)).frozen 7
    go_wp2_with fail
    clear e0 e1 e2 e3 e4 e5 e6 e7 e8 e9 e10 e11 e12 e13 e14 e15 e16 e17 e18 e19 e20
    (try rw [← hw5])
    (try rw [← hbA])
    clear hw5 hbA
    have HW5 := Lib.hid (HW4.out.trans hal)
    have B0_5 := Lib.hid (B0_4.out.ext hal)
    have B1_5 := Lib.hid (B1_4.out.ext hal)
    have RES0_5 := Lib.hid (RES0_4.out.ext hal)
    have RES1_5 := Lib.hid (RES1_4.out.ext hal)
    have X_5 := Lib.hid (X_4.out.ext hal)
    have Y_5 := Lib.hid (Y_4.out.ext hal)
    have OT_5 := Lib.hid (OT_4.out.ext hal)
    have OR_5 := Lib.hid (OR_4.out.ext hal)
    have OA_5 := Lib.hid (OA_4.out.ext hal)
    have zz5 := hal.size
    clear HW4 B0_4 B1_4 RES0_4 RES1_4 X_4 Y_4 OT_4 OR_4 OA_4 hal
    have A_5 := Aq; clear Aq
    obtain ⟨w6, hwn⟩ : ∃ x, x = putAt w5 bX 7 [.int .i64 (x7 + tk)] := ⟨_, rfl⟩
    have en : w5.setCell ⟨bX, 7, none⟩ (.int .i64 (x7 + tk)) = w6 := (by rw [hwn]; rfl)
    rw [en]; clear en
    have zz6 : w5.heap.size ≤ w6.heap.size := (by rw [hwn, put_size]; exact Nat.le_refl _)
    have HW6 := Lib.hid (show Ext w w6 by rw [hwn]; exact put_ext (by omega) _ _ _ HW5.out)
    have B0_6 := Lib.hid (show RowAt w6 (w.heap.size) 26 #[.int .i64 x0, .int .i64 x1, .int .i64 x2, .int .i64 x3, .int .i64 x4, .int .i64 x5, .int .i64 x6, .int .i64 x7, .int .i64 x8, .slice a n c] by rw [hwn]; exact put_other (by omega) _ _ _ B0_5.out)
    have B1_6 := Lib.hid (show RowAt w6 (w.heap.size + 1) 33 #[.slice ta tn tc, .int .i64 vol, .slice pa pn pc] by rw [hwn]; exact put_other (by omega) _ _ _ B1_5.out)
    have RES0_6 := Lib.hid (show RowAt w6 (w.heap.size + 1 + 1) 26 #[.int .i64 0, .int .i64 0, .int .i64 0, .int .i64 0, .int .i64 0, .int .i64 0, .int .i64 0, .int .i64 0, .int .i64 0, .slice none 0 0] by rw [hwn]; exact put_other (by omega) _ _ _ RES0_5.out)
    have RES1_6 := Lib.hid (show RowAt w6 (w.heap.size + 1 + 1 + 1) 33 #[.slice none 0 0, .int .i64 0, .slice none 0 0] by rw [hwn]; exact put_other (by omega) _ _ _ RES1_5.out)
    have X_6 := Lib.hid (RowAt.cast (c' := #[.int .i64 x0, .int .i64 x1, .int .i64 x2, .int .i64 x3, .int .i64 x4, .int .i64 x5, .int .i64 x6, .int .i64 (x7 + tk), .int .i64 x8, .slice p n q]) (show RowAt w6 bX 26 (putArr #[.int .i64 x0, .int .i64 x1, .int .i64 x2, .int .i64 x3, .int .i64 x4, .int .i64 x5, .int .i64 x6, .int .i64 x7, .int .i64 x8, .slice p n q] 7 [.int .i64 (x7 + tk)]) by rw [hwn]; exact put_at _ _ _ _ X_5.out) (by simp [putArr]))
    have Y_6 := Lib.hid (show RowAt w6 (bY) 33 #[.slice a1 tn c1, .int .i64 vol, .slice a2 pn c2] by rw [hwn]; exact put_other (by omega) _ _ _ Y_5.out)
    have A_6 := Lib.hid (show RowAt w6 (bA) 33 #[.slice a3 tn c3, .int .i64 (vol - tk), .slice a4 pn c4] by rw [hwn]; exact put_other (by omega) _ _ _ A_5.out)
    have OT_6 := Lib.hid (OT_5.out.keep (w' := w6) (Nat.le_refl _) (Nat.le_refl _) (by rw [hwn]; exact put_kept (by omega)))
    have OR_6 := Lib.hid (OR_5.out.keep (w' := w6) (Nat.le_refl _) (Nat.le_refl _) (by rw [hwn]; exact put_kept (by omega)))
    have OA_6 := Lib.hid (OA_5.out.keep (w' := w6) (Nat.le_refl _) (Nat.le_refl _) (by rw [hwn]; exact put_kept (by omega)))
    clear hwn HW5 B0_5 B1_5 RES0_5 RES1_5 X_5 Y_5 A_5 OT_5 OR_5 OA_5
    have KX := X_6
    have KA := A_6
    have KRES0 := RES0_6
    have KRES1 := RES1_6
    have OOT := OT_6
    have OOR := OR_6
    have OOA := OA_6
    have HWX := HW6
    refine wp_region_held_drew (S := (fun w' => w'.cell? ⟨bX, 0, none⟩ = some (.int .i64 x0) ∧ w'.cell? ⟨bX, 1, none⟩ = some (.int .i64 x1) ∧ w'.cell? ⟨bX, 2, none⟩ = some (.int .i64 x2) ∧ w'.cell? ⟨bX, 3, none⟩ = some (.int .i64 x3) ∧ w'.cell? ⟨bX, 4, none⟩ = some (.int .i64 x4) ∧ w'.cell? ⟨bX, 5, none⟩ = some (.int .i64 x5) ∧ w'.cell? ⟨bX, 6, none⟩ = some (.int .i64 x6) ∧ w'.cell? ⟨bX, 7, none⟩ = some (.int .i64 (x7 + tk)) ∧ w'.cell? ⟨bX, 8, none⟩ = some (.int .i64 x8) ∧ w'.cell? ⟨bX, 9, none⟩ = some (.slice p n q) ∧ w'.cell? ⟨bA, 0, none⟩ = some (.slice a3 tn c3) ∧ w'.cell? ⟨bA, 1, none⟩ = some (.int .i64 (vol - tk)) ∧ w'.cell? ⟨bA, 2, none⟩ = some (.slice a4 pn c4))) (by kernel_rfl) ?_ (fun hH0 => ?_)
    · (try dsimp only)
      (exact ⟨KX.out.cell rfl, KX.out.cell rfl, KX.out.cell rfl, KX.out.cell rfl, KX.out.cell rfl, KX.out.cell rfl, KX.out.cell rfl, KX.out.cell rfl, KX.out.cell rfl, KX.out.cell rfl, KA.out.cell rfl, KA.out.cell rfl, KA.out.cell rfl⟩)
    (obtain ⟨wc, hwc⟩ : ∃ x, x = w6.drew := ⟨_, rfl⟩; have hdr : Ext w6 wc := (by rw [hwc]; exact (Ext.refl _).drew); (try rw [← hwc] at hH0); (try rw [← hwc]); have zdr : w6.heap.size ≤ wc.heap.size := hdr.size; have HX := Lib.hid hdr; have KX := Lib.hid (X_6.out.ext hdr); have KA := Lib.hid (A_6.out.ext hdr); have KRES0 := Lib.hid (RES0_6.out.ext hdr); have KRES1 := Lib.hid (RES1_6.out.ext hdr); have OOT := Lib.hid (OT_6.out.ext hdr); have OOR := Lib.hid (OR_6.out.ext hdr); have OOA := Lib.hid (OA_6.out.ext hdr); clear hwc hdr; replace HWX := Lib.hid (HWX.out.trans HX.out))
    refine take_l 0 (v := ?_) rfl (by kernel_rfl) (by kernel_rfl) (by kernel_rfl) (fun _ _ _ h => h) (by rfl) ?_ (by assumption) ?_
    rotate_left
    · (intro w hSw; (try dsimp only at hSw); go_simp; (try with_reducible rfl))
    (try simp only [Act.put, List.setIfInBounds_toArray, List.set_cons_zero, List.set_cons_succ])
    refine take_l 1 (v := ?_) rfl (by kernel_rfl) (by kernel_rfl) (by kernel_rfl) (fun _ _ _ h => h) (by rfl) ?_ (by assumption) ?_
    rotate_left
    · (intro w hSw; (try dsimp only at hSw); go_simp; (try with_reducible rfl))
    (try simp only [Act.put, List.setIfInBounds_toArray, List.set_cons_zero, List.set_cons_succ])
    refine wpAnyH_ready (rs := [2]) (by kernel_rfl) (by simp) ?_
    refine cons_l (i := 2) rfl (fun K hK => ?_) ?_
    (have hs0 := KRES0.out.cell (j := 0) (v := .int .i64 0) rfl; have hf0 := KRES0.out.frozen 0; have hs1 := KRES0.out.cell (j := 1) (v := .int .i64 0) rfl; have hf1 := KRES0.out.frozen 1; have hs2 := KRES0.out.cell (j := 2) (v := .int .i64 0) rfl; have hf2 := KRES0.out.frozen 2; have hs3 := KRES0.out.cell (j := 3) (v := .int .i64 0) rfl; have hf3 := KRES0.out.frozen 3; have hs4 := KRES0.out.cell (j := 4) (v := .int .i64 0) rfl; have hf4 := KRES0.out.frozen 4; have hs5 := KRES0.out.cell (j := 5) (v := .int .i64 0) rfl; have hf5 := KRES0.out.frozen 5; have hs6 := KRES0.out.cell (j := 6) (v := .int .i64 0) rfl; have hf6 := KRES0.out.frozen 6; have hs7 := KRES0.out.cell (j := 7) (v := .int .i64 0) rfl; have hf7 := KRES0.out.frozen 7; have hs8 := KRES0.out.cell (j := 8) (v := .int .i64 0) rfl; have hf8 := KRES0.out.frozen 8; have hs9 := KRES0.out.cell (j := 9) (v := .slice none 0 0) rfl; have hf9 := KRES0.out.frozen 9; go_simp; clear hs0 hf0 hs1 hf1 hs2 hf2 hs3 hf3 hs4 hf4 hs5 hf5 hs6 hf6 hs7 hf7 hs8 hf8 hs9 hf9; obtain ⟨wn, hwn⟩ : ∃ x, x = putAt wc (w.heap.size + 1 + 1) 0 [.int .i64 x0, .int .i64 x1, .int .i64 x2, .int .i64 x3, .int .i64 x4, .int .i64 x5, .int .i64 x6, .int .i64 (x7 + tk), .int .i64 x8, .slice p n q] := ⟨_, rfl⟩; have en : ((((((((((wc.setCell ⟨w.heap.size + 1 + 1, 0, none⟩ (.int .i64 x0)).setCell ⟨w.heap.size + 1 + 1, 1, none⟩ (.int .i64 x1)).setCell ⟨w.heap.size + 1 + 1, 2, none⟩ (.int .i64 x2)).setCell ⟨w.heap.size + 1 + 1, 3, none⟩ (.int .i64 x3)).setCell ⟨w.heap.size + 1 + 1, 4, none⟩ (.int .i64 x4)).setCell ⟨w.heap.size + 1 + 1, 5, none⟩ (.int .i64 x5)).setCell ⟨w.heap.size + 1 + 1, 6, none⟩ (.int .i64 x6)).setCell ⟨w.heap.size + 1 + 1, 7, none⟩ (.int .i64 (x7 + tk))).setCell ⟨w.heap.size + 1 + 1, 8, none⟩ (.int .i64 x8)).setCell ⟨w.heap.size + 1 + 1, 9, none⟩ (.slice p n q)) = wn := (by rw [hwn]; rfl); rw [en]; clear en; have zz2 : wc.heap.size ≤ wn.heap.size := (by rw [hwn, put_size]; exact Nat.le_refl _); (first | replace HX := Lib.hid (show Ext w6 wn by rw [hwn]; exact put_ext (by first | assumption | omega) _ _ _ HX.out) | skip); (try replace KX := Lib.hid (show RowAt wn (bX) 26 _ by rw [hwn]; exact put_other (by omega) _ _ _ KX.out)); (try replace KA := Lib.hid (show RowAt wn (bA) 33 _ by rw [hwn]; exact put_other (by omega) _ _ _ KA.out)); replace KRES0 := Lib.hid (RowAt.cast (c' := #[.int .i64 x0, .int .i64 x1, .int .i64 x2, .int .i64 x3, .int .i64 x4, .int .i64 x5, .int .i64 x6, .int .i64 (x7 + tk), .int .i64 x8, .slice p n q]) (show RowAt wn (w.heap.size + 1 + 1) 26 (putArr #[.int .i64 0, .int .i64 0, .int .i64 0, .int .i64 0, .int .i64 0, .int .i64 0, .int .i64 0, .int .i64 0, .int .i64 0, .slice none 0 0] 0 [.int .i64 x0, .int .i64 x1, .int .i64 x2, .int .i64 x3, .int .i64 x4, .int .i64 x5, .int .i64 x6, .int .i64 (x7 + tk), .int .i64 x8, .slice p n q]) by rw [hwn]; exact put_at _ _ _ _ KRES0.out) (by simp [putArr])); (try replace KRES1 := Lib.hid (show RowAt wn (w.heap.size + 1 + 1 + 1) 33 _ by rw [hwn]; exact put_other (by omega) _ _ _ KRES1.out)); (try replace OOT := Lib.hid (OOT.out.keep (w' := wn) (Nat.le_refl _) (Nat.le_refl _) (by rw [hwn]; exact put_kept (by omega)))); (try replace OOR := Lib.hid (OOR.out.keep (w' := wn) (Nat.le_refl _) (Nat.le_refl _) (by rw [hwn]; exact put_kept (by omega)))); (try replace OOA := Lib.hid (OOA.out.keep (w' := wn) (Nat.le_refl _) (Nat.le_refl _) (by rw [hwn]; exact put_kept (by omega)))); (try replace HWX := Lib.hid (show Ext _ wn by rw [hwn]; exact put_ext (by omega) _ _ _ HWX.out)); clear hwn; obtain ⟨wc, hq⟩ : ∃ x, x = wn := ⟨_, rfl⟩; subst hq)
    refine hK.out _ _ ?_ (fun hH1 => ?_)
    · (try dsimp only)
      (exact ⟨KX.out.cell rfl, KX.out.cell rfl, KX.out.cell rfl, KX.out.cell rfl, KX.out.cell rfl, KX.out.cell rfl, KX.out.cell rfl, KX.out.cell rfl, KX.out.cell rfl, KX.out.cell rfl, KA.out.cell rfl, KA.out.cell rfl, KA.out.cell rfl⟩)
    clear hK K hH0
    (try simp only [Act.put, List.setIfInBounds_toArray, List.set_cons_zero, List.set_cons_succ])
    refine wpAnyH_ready (rs := [3]) (by kernel_rfl) (by simp) ?_
    refine cons_l (i := 3) rfl (fun K hK => ?_) ?_
    (have hs0 := KRES1.out.cell (j := 0) (v := .slice none 0 0) rfl; have hf0 := KRES1.out.frozen 0; have hs1 := KRES1.out.cell (j := 1) (v := .int .i64 0) rfl; have hf1 := KRES1.out.frozen 1; have hs2 := KRES1.out.cell (j := 2) (v := .slice none 0 0) rfl; have hf2 := KRES1.out.frozen 2; go_simp; clear hs0 hf0 hs1 hf1 hs2 hf2; obtain ⟨wn, hwn⟩ : ∃ x, x = putAt wc (w.heap.size + 1 + 1 + 1) 0 [.slice a3 tn c3, .int .i64 (vol - tk), .slice a4 pn c4] := ⟨_, rfl⟩; have en : (((wc.setCell ⟨w.heap.size + 1 + 1 + 1, 0, none⟩ (.slice a3 tn c3)).setCell ⟨w.heap.size + 1 + 1 + 1, 1, none⟩ (.int .i64 (vol - tk))).setCell ⟨w.heap.size + 1 + 1 + 1, 2, none⟩ (.slice a4 pn c4)) = wn := (by rw [hwn]; rfl); rw [en]; clear en; have zz3 : wc.heap.size ≤ wn.heap.size := (by rw [hwn, put_size]; exact Nat.le_refl _); (first | replace HX := Lib.hid (show Ext w6 wn by rw [hwn]; exact put_ext (by first | assumption | omega) _ _ _ HX.out) | skip); (try replace KX := Lib.hid (show RowAt wn (bX) 26 _ by rw [hwn]; exact put_other (by omega) _ _ _ KX.out)); (try replace KA := Lib.hid (show RowAt wn (bA) 33 _ by rw [hwn]; exact put_other (by omega) _ _ _ KA.out)); (try replace KRES0 := Lib.hid (show RowAt wn (w.heap.size + 1 + 1) 26 _ by rw [hwn]; exact put_other (by omega) _ _ _ KRES0.out)); replace KRES1 := Lib.hid (RowAt.cast (c' := #[.slice a3 tn c3, .int .i64 (vol - tk), .slice a4 pn c4]) (show RowAt wn (w.heap.size + 1 + 1 + 1) 33 (putArr #[.slice none 0 0, .int .i64 0, .slice none 0 0] 0 [.slice a3 tn c3, .int .i64 (vol - tk), .slice a4 pn c4]) by rw [hwn]; exact put_at _ _ _ _ KRES1.out) (by simp [putArr])); (try replace OOT := Lib.hid (OOT.out.keep (w' := wn) (Nat.le_refl _) (Nat.le_refl _) (by rw [hwn]; exact put_kept (by omega)))); (try replace OOR := Lib.hid (OOR.out.keep (w' := wn) (Nat.le_refl _) (Nat.le_refl _) (by rw [hwn]; exact put_kept (by omega)))); (try replace OOA := Lib.hid (OOA.out.keep (w' := wn) (Nat.le_refl _) (Nat.le_refl _) (by rw [hwn]; exact put_kept (by omega)))); (try replace HWX := Lib.hid (show Ext _ wn by rw [hwn]; exact put_ext (by omega) _ _ _ HWX.out)); clear hwn; obtain ⟨wc, hq⟩ : ∃ x, x = wn := ⟨_, rfl⟩; subst hq)
    refine hK.out _ _ ?_ (fun hH2 => ?_)
    · (try dsimp only)
      (exact ⟨KX.out.cell rfl, KX.out.cell rfl, KX.out.cell rfl, KX.out.cell rfl, KX.out.cell rfl, KX.out.cell rfl, KX.out.cell rfl, KX.out.cell rfl, KX.out.cell rfl, KX.out.cell rfl, KA.out.cell rfl, KA.out.cell rfl, KA.out.cell rfl⟩)
    clear hK K hH1
    (try simp only [Act.put, List.setIfInBounds_toArray, List.set_cons_zero, List.set_cons_succ])
    refine wpAnyH_done (by kernel_rfl) ?_ _
    rotate_left
    exact AllReadyH.nil
    exact AllReadyH.nil
    go_wp2
    have q0_0 : wc.cell? ⟨w.heap.size + 1 + 1, 0, none⟩ = some (.int .i64 x0) := KRES0.out.cell rfl
    have q0_1 : wc.cell? ⟨w.heap.size + 1 + 1, 1, none⟩ = some (.int .i64 x1) := KRES0.out.cell rfl
    have q0_2 : wc.cell? ⟨w.heap.size + 1 + 1, 2, none⟩ = some (.int .i64 x2) := KRES0.out.cell rfl
    have q0_3 : wc.cell? ⟨w.heap.size + 1 + 1, 3, none⟩ = some (.int .i64 x3) := KRES0.out.cell rfl
    have q0_4 : wc.cell? ⟨w.heap.size + 1 + 1, 4, none⟩ = some (.int .i64 x4) := KRES0.out.cell rfl
    have q0_5 : wc.cell? ⟨w.heap.size + 1 + 1, 5, none⟩ = some (.int .i64 x5) := KRES0.out.cell rfl
    have q0_6 : wc.cell? ⟨w.heap.size + 1 + 1, 6, none⟩ = some (.int .i64 x6) := KRES0.out.cell rfl
    have q0_7 : wc.cell? ⟨w.heap.size + 1 + 1, 7, none⟩ = some (.int .i64 (x7 + tk)) := KRES0.out.cell rfl
    have q0_8 : wc.cell? ⟨w.heap.size + 1 + 1, 8, none⟩ = some (.int .i64 x8) := KRES0.out.cell rfl
    have q0_9 : wc.cell? ⟨w.heap.size + 1 + 1, 9, none⟩ = some (.slice p n q) := KRES0.out.cell rfl
    have q1_0 : wc.cell? ⟨w.heap.size + 1 + 1 + 1, 0, none⟩ = some (.slice a3 tn c3) := KRES1.out.cell rfl
    have q1_1 : wc.cell? ⟨w.heap.size + 1 + 1 + 1, 1, none⟩ = some (.int .i64 (vol - tk)) := KRES1.out.cell rfl
    have q1_2 : wc.cell? ⟨w.heap.size + 1 + 1 + 1, 2, none⟩ = some (.slice a4 pn c4) := KRES1.out.cell rfl
    refine bodyPost_ret (v := .tuple #[.agg #[.int .i64 x0, .int .i64 x1, .int .i64 x2, .int .i64 x3, .int .i64 x4, .int .i64 x5, .int .i64 x6, .int .i64 (x7 + tk), .int .i64 x8, .slice p n q], .agg #[.slice a3 tn c3, .int .i64 (vol - tk), .slice a4 pn c4]]) (by simp [results, Try.results10, go_sem, *]) rfl ⟨p, q, _, _, _, _, rfl, LockReach.mk (lo1 := lo1) (hi1 := hi1) (lo2 := w3.heap.size) (hi2 := w4.heap.size) (by omega) (by omega) (by omega) (by omega) (by omega) OOT.out OOA.out, HWX.out⟩
end Go.Proofs.Ytmppoflgbmabpaa
