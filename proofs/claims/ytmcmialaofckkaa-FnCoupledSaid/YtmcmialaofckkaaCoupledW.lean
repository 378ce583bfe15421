/- FnCoupled: the walk. -/
import Derived.Test.YtmcmialaofckkaaProg
import Derived.Test.YtmcmialaofckkaaCoupled
namespace Go.Proofs.Ytmcmialaofckkaa
open Go.RowKit
set_option linter.unusedSimpArgs false
set_option linter.unusedVariables false

theorem two_at {w : World} {R : Nat} {t1 t2 t3 : TypeId} (h1 : RowAt w R t1 #[.int .i64 90, .int .i64 7, .int .i64 3, .int .i64 40, .int .i64 1, .int .i64 0]) (h2 : RowAt w (R + 1) t2 #[.int .i64 91, .int .i64 5, .int .i64 20, .int .i64 4, .int .i64 9, .int .i64 2])
    (h3 : RowAt w (R + 1 + 1) t3 #[.slice (some ⟨R, 0, none⟩) 1 1, .slice (some ⟨R + 1, 0, none⟩) 1 1]) : RowsAt w (some ⟨R + 1 + 1, 0, none⟩) twoRows := fun k hk => by
  have hk2 : k < 2 := hk
  rcases (by omega : k = 0 ∨ k = 1) with rfl | rfl
  · refine ⟨R + 1 + 1, 0, some ⟨R, 0, none⟩, 1, rfl, h3.cell rfl, ⟨(show 1 ≤ maxLen by decide), fun h => by cases h⟩, fun j hj => ?_⟩
    have hj0 : j = 0 := by simpa [twoRows] using hj
    subst hj0
    refine ⟨R, 0, rfl, fun j v hv => ?_⟩
    rw [Nat.zero_mul, Nat.add_zero, Nat.zero_add]
    exact h1.cell (by simpa [bCells, twoRows] using hv)
  · refine ⟨R + 1 + 1, 0, some ⟨R + 1, 0, none⟩, 1, rfl, h3.cell rfl, ⟨(show 1 ≤ maxLen by decide), fun h => by cases h⟩, fun j hj => ?_⟩
    have hj0 : j = 0 := by simpa [twoRows] using hj
    subst hj0
    refine ⟨R + 1, 0, rfl, fun j v hv => ?_⟩
    rw [Nat.zero_mul, Nat.add_zero, Nat.zero_add]
    exact h2.cell (by simpa [bCells, twoRows] using hv)

theorem news5 (w : World) (t0 t1 t2 t3 t4 : TypeId) (c0 c1 c2 c3 c4 : Array Value) : ∀ w', (((((w.alloc (.cells c0 t0)).alloc (.cells c1 t1)).alloc (.cells c2 t2)).alloc (.cells c3 t3)).alloc (.cells c4 t4)) = w' →
    RowAt w' w.heap.size t0 c0 ∧ RowAt w' (w.heap.size + 1) t1 c1 ∧ RowAt w' (w.heap.size + 1 + 1) t2 c2 ∧ RowAt w' (w.heap.size + 1 + 1 + 1) t3 c3 ∧ RowAt w' (w.heap.size + 1 + 1 + 1 + 1) t4 c4 ∧ Ext w w' := by
  rintro w' rfl
  have e1 := Ext.refl (w.alloc (.cells c0 t0))
  have e2 := Ext.refl ((w.alloc (.cells c0 t0)).alloc (.cells c1 t1))
  have e3 := Ext.refl (((w.alloc (.cells c0 t0)).alloc (.cells c1 t1)).alloc (.cells c2 t2))
  have e4 := Ext.refl ((((w.alloc (.cells c0 t0)).alloc (.cells c1 t1)).alloc (.cells c2 t2)).alloc (.cells c3 t3))
  have r1 := RowAt.new (w.alloc (.cells c0 t0)) t1 c1
  have r2 := RowAt.new ((w.alloc (.cells c0 t0)).alloc (.cells c1 t1)) t2 c2
  have r3 := RowAt.new (((w.alloc (.cells c0 t0)).alloc (.cells c1 t1)).alloc (.cells c2 t2)) t3 c3
  have r4 := RowAt.new ((((w.alloc (.cells c0 t0)).alloc (.cells c1 t1)).alloc (.cells c2 t2)).alloc (.cells c3 t3)) t4 c4
  simp only [World.size_alloc] at r1 r2 r3 r4
  exact ⟨(RowAt.new w t0 c0).ext ((((e1.alloc _).alloc _).alloc _).alloc _), r1.ext (((e2.alloc _).alloc _).alloc _), r2.ext ((e3.alloc _).alloc _), r3.ext (e4.alloc _), r4, (((((Ext.refl w).alloc _).alloc _).alloc _).alloc _).alloc _⟩

theorem mostLen_le : ∀ (r : List Bt) (s : Int), 0 ≤ s → s ≤ 200 → (∀ b ∈ r, 1 ≤ b.len ∧ b.len ≤ 200) → 0 ≤ mostLen s r ∧ mostLen s r ≤ 200
  | [], _, h0, h1, _ => ⟨h0, h1⟩
  | b :: r, s, h0, h1, hb => by
    have h2 := hb b (by simp)
    exact mostLen_le r (if s < b.len then b.len else s) (by split <;> omega) (by split <;> omega) (fun c hc => hb c (by simp [hc]))
theorem lenGo_le : ∀ (rows : List (List Bt)) (s : Int), 0 ≤ s → (∀ r ∈ rows, ∀ b ∈ r, 1 ≤ b.len ∧ b.len ≤ 200) → 0 ≤ lenGo s rows ∧ lenGo s rows ≤ s + 200 * rows.length
  | [], s, h0, _ => by simp [lenGo]; exact h0
  | r :: rows, s, h0, hb => by
    have h2 := mostLen_le r 0 (by decide) (by decide) (hb r (by simp))
    have h3 := lenGo_le rows (s + mostLen 0 r) (by omega) (fun q hq => hb q (by simp [hq]))
    have e : lenGo s (r :: rows) = lenGo (s + mostLen 0 r) rows := rfl
    rw [e, List.length_cons]
    push_cast
    omega
theorem lengthOf_le {rows : List (List Bt)} (hok : trainOk rows = true) (h : rows.length ≤ 4) : 0 ≤ lengthOf rows ∧ lengthOf rows ≤ 800 := by
  have := lenGo_le rows 0 (by decide) (fun r hr b hb => (bOk_bounds (trainOk_boats hok hr hb)).2.1)
  rw [lengthOf, if_pos hok]
  omega
theorem idsOf_le {rows : List (List Bt)} (h : rows.flatten.length ≤ 4) : (idsOf rows).length ≤ 4 := by
  rw [idsOf]
  split
  · rw [List.length_map]; exact h
  · exact Nat.zero_le _

set_option maxHeartbeats 8000000 in
set_option maxRecDepth 100000 in
theorem coupled_any (a : Option Addr) (n c : Nat) (xs : List Int) (w : World) (hn : n = xs.length) (hs : n ≤ maxLen) (hf : BytesAt w a xs) :
    Calls Try.prog 7 #[.slice a n c] w fun e w' => e = .returned (.bool true) ∧ Ext w w' := by
  have HS := Lib.hid hs
  have HF := Lib.hid hf; clear hf
  have HN := Lib.hid hn; clear hn
  by_cases hsz : (1048576 : Int) < n
  · have hd : decide ((1048576 : Int) < n) = true := by simpa using hsz
    go_enter Try.func7, Try.ntmps7
    go_wp2_with ((go_at_call 15; refine (big_any _ _ _ _ HS.out).mono ?_; rintro e w' ⟨rfl, rfl⟩))
    go_ret
    exact ⟨rfl, by (repeat' (first | (with_reducible exact Ext.refl _) | (with_reducible assumption) | (with_reducible refine Ext.alloc ?_ _) | (with_reducible refine Ext.drewN ?_ _) | (with_reducible refine Ext.drew ?_) | (with_reducible refine Ext.setCell ?_ ?_ _) | (with_reducible exact Nat.le_refl _) | (with_reducible exact Nat.le_succ _) | (with_reducible refine Ext.trans ?_ (by assumption)) | (simp; done) | (simp; omega)))⟩
  have hs2 : n ≤ 1048576 := by omega
  have hd : decide ((1048576 : Int) < n) = false := by simpa using hsz
  go_enter Try.func7, Try.ntmps7
  go_wp2_with fail
  refine (big_any _ _ _ _ HS.out).mono ?_
  rintro e w1 ⟨rfl, rfl⟩
  go_wp2_with fail
  refine (DrawTrain_any _ _ _ xs _ HN.out hs2 HF.out).mono ?_
  rintro e w2 ⟨u, a2, c2, k, rows, hk, hgood, rfl, how, hx2⟩
  have HX2 := Lib.hid hx2; clear hx2
  have HR := Lib.hid how.rows
  have HCP := Lib.hid (coupled_all u hgood hk.1 hk.2)
  have hlen : rows.length ≤ 4 := by have := hgood.small.1; omega
  have HL := Lib.hid (show rows.flatten.length ≤ 1048576 by rw [hgood.1]; omega)
  have HRL := Lib.hid (show ∀ r ∈ rows, r.length ≤ 1048576 from fun r hr => by have := hgood.small.2 r hr; omega)
  have hok := hgood.ok (by decide) (by decide) hk.1 (by omega)
  have hlb := lengthOf_le hok (by have := hgood.small.1; omega)
  have hib := idsOf_le (rows := rows) (by rw [hgood.1]; exact hk.2)
  clear how hgood
  obtain ⟨m, hm⟩ : ∃ m, rows.length = m := ⟨_, rfl⟩
  have hdiv := HCP.out.div
  rw [hm] at hlen hdiv ⊢
  have HDIV := Lib.hid hdiv; clear hdiv
  have HM := Lib.hid hm.symm; clear hm
  go_wp2_with fail
  obtain ⟨w3, hw3⟩ : ∃ w3, (((((w2.alloc (.cells #[.bool u, .slice a2 m c2] 26)).alloc (.cells #[.int .i64 90, .int .i64 7, .int .i64 3, .int .i64 40, .int .i64 1, .int .i64 0] 32)).alloc (.cells #[.int .i64 91, .int .i64 5, .int .i64 20, .int .i64 4, .int .i64 9, .int .i64 2] 32)).alloc (.cells #[.slice (some ⟨w2.heap.size + 1, 0, none⟩) 1 1, .slice (some ⟨w2.heap.size + 1 + 1, 0, none⟩) 1 1] 33)).alloc (.cells #[.bool u, .slice (some ⟨w2.heap.size + 1 + 1 + 1, 0, none⟩) 2 2] 26)) = w3 := ⟨_, rfl⟩
  obtain ⟨q0, q1, q2, q3, q4, q5⟩ := news5 w2 _ _ _ _ _ _ _ _ _ _ w3 hw3
  rw [hw3]
  have HA := Lib.hid q0
  have HTW := Lib.hid (two_at q1 q2 q3)
  have HB := Lib.hid q4
  have HX3 := Lib.hid q5
  clear hw3 q0 q1 q2 q3 q4 q5
  obtain ⟨A, hA⟩ : ∃ A, w2.heap.size = A := ⟨_, rfl⟩
  rw [hA] at HA HTW HB ⊢
  clear hA
  have HR3 := Lib.hid (HR.out.ext HX3.out)
  have HT2L := Lib.hid (show ∀ r ∈ twoRows, r.length ≤ 1048576 by decide)
  have HT2F := Lib.hid (show twoRows.flatten.length ≤ 1048576 by decide)
  have HT2N := Lib.hid (show 2 = twoRows.length from rfl)
  have hm2 : m ≤ 1048576 := by omega
  refine (implCoupleC_any u true (rows ++ twoRows) (m + 2) u u _ _ _ _ _ _ rows twoRows _ HM.out hm2 HRL.out HL.out HR3.out HT2N.out (by decide) HT2L.out HT2F.out HTW.out HCP.out.cou (by rw [List.length_append, ← HM.out]; rfl)).mono ?_
  rintro e w4 ⟨a4, c4, rfl, ho4, hx4, hc40, hc41⟩
  have HX4 := Lib.hid hx4
  have HR4 := Lib.hid ho4.rows
  clear ho4 hx4
  obtain ⟨a0, a1⟩ := (⟨(HA.out.ext HX4.out).cell rfl, (HA.out.ext HX4.out).cell rfl⟩ : w4.cell? ⟨A, 0, none⟩ = some (.bool u) ∧ w4.cell? ⟨A, 1, none⟩ = some (.slice a2 m c2))
  have eT := (Ext.refl w4).alloc (.cells #[.bool u, .slice a4 (m + 2) c4] 26)
  have rT := RowAt.new w4 26 #[.bool u, .slice a4 (m + 2) c4]
  have HAT := Lib.hid (HA.out.ext (HX4.out.trans eT))
  have a0' := HAT.out.cell (j := 0) (v := .bool u) rfl
  have a1' := HAT.out.cell (j := 1) (v := .slice a2 m c2) rfl
  go_wp2_with fail
  have HCN := Lib.hid (show m + 2 = (rows ++ twoRows).length by rw [List.length_append, ← HM.out]; rfl)
  have hcm : m + 2 ≤ 1048576 := by omega
  have HCF := Lib.hid (show (rows ++ twoRows).flatten.length ≤ 1048576 by have := (trainOk_true HCP.out.ok).2.2.2.1; omega)
  have HCL := Lib.hid (show ∀ r ∈ rows ++ twoRows, r.length ≤ 1048576 from fun r hr => by
    rcases List.mem_append.1 hr with h | h
    · exact HRL.out r h
    · exact HT2L.out r h)
  refine (implDivideC_any u true rows twoRows m 2 u _ _ _ (rows ++ twoRows) m _ HCN.out hc40 hcm hc41 HCL.out HCF.out (HR4.out.ext eT) HDIV.out HM.out rfl).mono ?_
  rintro e w5 ⟨a5, c5, a6, c6, mid, rfl, o5, o6, _, hx5⟩
  have HX5 := Lib.hid hx5
  have HTT := Lib.hid (rT.ext hx5)
  have eX := ((Ext.refl w5).alloc (.cells #[.bool u, .slice a5 m c5] 26)).alloc (.cells #[.bool u, .slice a6 2 c6] 26)
  have r7 := (RowAt.new w5 26 #[.bool u, .slice a5 m c5]).ext ((Ext.refl _).alloc (.cells #[.bool u, .slice a6 2 c6] 26))
  have r8 := RowAt.new (w5.alloc (.cells #[.bool u, .slice a5 m c5] 26)) 26 #[.bool u, .slice a6 2 c6]
  rw [World.size_alloc] at r8
  have H7 := Lib.hid r7
  have H8 := Lib.hid r8
  have HO5 := Lib.hid (o5.rows.ext eX)
  have HO6 := Lib.hid (o6.rows.ext eX)
  clear o5 o6 hx5 r7 r8 a0 a1 a0' a1'
  have HX45 := Lib.hid (eT.trans (HX5.out.trans eX))
  have HTX := Lib.hid (HTT.out.ext eX)
  have a0 := (HA.out.ext (HX4.out.trans HX45.out)).cell (j := 0) (v := .bool u) rfl
  have a1 := (HA.out.ext (HX4.out.trans HX45.out)).cell (j := 1) (v := .slice a2 m c2) rfl
  go_wp2_with fail
  refine (implCoupleC_any false false [] 0 u u _ _ _ _ _ _ rows rows _ HM.out hm2 HRL.out HL.out (HR3.out.ext (HX4.out.trans HX45.out)) HM.out hm2 HRL.out HL.out (HR3.out.ext (HX4.out.trans HX45.out)) HCP.out.no rfl).mono ?_
  rintro e w6 ⟨a9, c9, rfl, _, hx6, _, _⟩
  have e6 := hx6.trans ((Ext.refl w6).alloc (.cells #[.bool false, .slice a9 0 c9] 26))
  go_wp2_with fail
  have HX7 := Lib.hid (HX3.out.trans (HX4.out.trans (HX45.out.trans e6)))
  have HA7 := Lib.hid (HA.out.ext (HX4.out.trans (HX45.out.trans e6)))
  have HB7 := Lib.hid (HB.out.ext (HX4.out.trans (HX45.out.trans e6)))
  have HTW7 := Lib.hid (HTW.out.ext (HX4.out.trans (HX45.out.trans e6)))
  have HR7 := Lib.hid (HR3.out.ext (HX4.out.trans (HX45.out.trans e6)))
  have HC7 := Lib.hid (HR4.out.ext (HX45.out.trans e6))
  have HT7 := Lib.hid (HTX.out.ext e6)
  have O5 := Lib.hid (HO5.out.ext e6)
  have O6 := Lib.hid (HO6.out.ext e6)
  have H77 := Lib.hid (H7.out.ext e6)
  have H87 := Lib.hid (H8.out.ext e6)
  obtain ⟨w7, hw7⟩ : ∃ w7, w6.alloc (.cells #[.bool false, .slice a9 0 c9] 26) = w7 := ⟨_, rfl⟩
  rw [hw7] at HX7 HA7 HB7 HTW7 HR7 HC7 HT7 O5 O6 H77 H87
  rw [hw7]
  obtain ⟨X, hX⟩ : ∃ X, w5.heap.size = X := ⟨_, rfl⟩
  rw [hX] at H77 H87
  rw [hX]
  obtain ⟨T, hT⟩ : ∃ T, w4.heap.size = T := ⟨_, rfl⟩
  rw [hT] at HT7
  rw [hT]
  clear hw7 hX hT e6 hx6 eX eT rT a0 a1 HO5 HO6 H7 H8 HTX HTT HX45 HX5 HAT HR4 HX4 HR3
  obtain ⟨li, hli⟩ : ∃ li, (idsOf rows).length = li := ⟨_, rfl⟩
  have HLI := Lib.hid hli.symm
  have HLI2 := Lib.hid (show li + 2 = (idsOf (rows ++ twoRows)).length by rw [HCP.out.ids, hli])
  rw [hli] at hib
  clear hli
  obtain ⟨LA, hLA⟩ : ∃ LA, lengthOf rows = LA := ⟨_, rfl⟩
  have HLA := Lib.hid hLA
  have HLEN := Lib.hid (show lengthOf (rows ++ twoRows) = LA + 12 by rw [HCP.out.len, hLA])
  rw [hLA] at hlb
  clear hLA
  obtain ⟨WV, hWV⟩ : ∃ WV, widthOf (rows ++ twoRows) = WV := ⟨_, rfl⟩
  have HWV := Lib.hid hWV
  have hw20 := HCP.out.wid
  rw [hWV] at hw20
  clear hWV
  have hwl : IntKind.i64.wrap (LA + 12) = LA + 12 := IntWalk.i64_in _ (by omega)
  have hwi : IntKind.i64.wrap ((li : Int) + 2) = (li : Int) + 2 := IntWalk.i64_in _ (by omega)
  have HSK := Lib.hid (fun (w' : World) (h : Ext w7 w') => (⟨⟨(HA7.out.ext h).cell rfl, (HA7.out.ext h).cell rfl⟩, ⟨(HB7.out.ext h).cell rfl, (HB7.out.ext h).cell rfl⟩, ⟨(HT7.out.ext h).cell rfl, (HT7.out.ext h).cell rfl⟩, ⟨(H77.out.ext h).cell rfl, (H77.out.ext h).cell rfl⟩, ⟨(H87.out.ext h).cell rfl, (H87.out.ext h).cell rfl⟩⟩ : ((w'.cell? ⟨A, 0, none⟩ = some (.bool u) ∧ w'.cell? ⟨A, 1, none⟩ = some (.slice a2 m c2)) ∧ (w'.cell? ⟨A + 1 + 1 + 1 + 1, 0, none⟩ = some (.bool u) ∧ w'.cell? ⟨A + 1 + 1 + 1 + 1, 1, none⟩ = some (.slice (some ⟨A + 1 + 1 + 1, 0, none⟩) 2 2)) ∧ (w'.cell? ⟨T, 0, none⟩ = some (.bool u) ∧ w'.cell? ⟨T, 1, none⟩ = some (.slice a4 (m + 2) c4)) ∧ (w'.cell? ⟨X, 0, none⟩ = some (.bool u) ∧ w'.cell? ⟨X, 1, none⟩ = some (.slice a5 m c5)) ∧ (w'.cell? ⟨X + 1, 0, none⟩ = some (.bool u) ∧ w'.cell? ⟨X + 1, 1, none⟩ = some (.slice a6 2 c6)))))
  refine wp_region_held_drew (S := (fun w' => (w'.cell? ⟨A, 0, none⟩ = some (.bool u) ∧ w'.cell? ⟨A, 1, none⟩ = some (.slice a2 m c2)) ∧ (w'.cell? ⟨A + 1 + 1 + 1 + 1, 0, none⟩ = some (.bool u) ∧ w'.cell? ⟨A + 1 + 1 + 1 + 1, 1, none⟩ = some (.slice (some ⟨A + 1 + 1 + 1, 0, none⟩) 2 2)) ∧ (w'.cell? ⟨T, 0, none⟩ = some (.bool u) ∧ w'.cell? ⟨T, 1, none⟩ = some (.slice a4 (m + 2) c4)) ∧ (w'.cell? ⟨X, 0, none⟩ = some (.bool u) ∧ w'.cell? ⟨X, 1, none⟩ = some (.slice a5 m c5)) ∧ (w'.cell? ⟨X + 1, 0, none⟩ = some (.bool u) ∧ w'.cell? ⟨X + 1, 1, none⟩ = some (.slice a6 2 c6)))) (by kernel_rfl) ?_ (fun hH0 => ?_)
  · (try dsimp only)
    (exact HSK.out _ (by (repeat' (first | (with_reducible exact Ext.refl _) | (with_reducible assumption) | (with_reducible refine Ext.alloc ?_ _) | (with_reducible refine Ext.drewN ?_ _) | (with_reducible refine Ext.drew ?_) | (with_reducible refine Ext.setCell ?_ ?_ _) | (with_reducible exact Nat.le_refl _) | (with_reducible exact Nat.le_succ _) | (with_reducible refine Ext.trans ?_ (by assumption)) | (simp; done) | (simp; omega)))))
  refine take_l 0 (v := ?_) rfl (by kernel_rfl) (by kernel_rfl) (by kernel_rfl) (fun _ _ _ h => h) (by rfl) ?_ (by assumption) ?_
  rotate_left
  · (intro w hSw; (try dsimp only at hSw); go_simp; (try with_reducible rfl))
  (try simp only [Act.put, List.setIfInBounds_toArray, List.set_cons_zero, List.set_cons_succ])
  refine take_l 1 (v := ?_) rfl (by kernel_rfl) (by kernel_rfl) (by kernel_rfl) (fun _ _ _ h => h) (by rfl) ?_ (by assumption) ?_
  rotate_left
  · (intro w hSw; (try dsimp only at hSw); go_simp; (try with_reducible rfl))
  (try simp only [Act.put, List.setIfInBounds_toArray, List.set_cons_zero, List.set_cons_succ])
  refine take_l 2 (v := ?_) rfl (by kernel_rfl) (by kernel_rfl) (by kernel_rfl) (fun _ _ _ h => h) (by rfl) ?_ (by assumption) ?_
  rotate_left
  · (intro w hSw; (try dsimp only at hSw); go_simp; (try with_reducible rfl))
  (try simp only [Act.put, List.setIfInBounds_toArray, List.set_cons_zero, List.set_cons_succ])
  refine take_l 3 (v := ?_) rfl (by kernel_rfl) (by kernel_rfl) (by kernel_rfl) (fun _ _ _ h => h) (by rfl) ?_ (by assumption) ?_
  rotate_left
  · (intro w hSw; (try dsimp only at hSw); go_simp; (try with_reducible rfl))
  (try simp only [Act.put, List.setIfInBounds_toArray, List.set_cons_zero, List.set_cons_succ])
  refine take_l 4 (v := ?_) rfl (by kernel_rfl) (by kernel_rfl) (by kernel_rfl) (fun _ _ _ h => h) (by rfl) ?_ (by assumption) ?_
  rotate_left
  · (intro w hSw; (try dsimp only at hSw); go_simp; (try with_reducible rfl))
  (try simp only [Act.put, List.setIfInBounds_toArray, List.set_cons_zero, List.set_cons_succ])
  refine take_l 5 (v := ?_) rfl (by kernel_rfl) (by kernel_rfl) (by kernel_rfl) (fun _ _ _ h => h) (by rfl) ?_ (by assumption) ?_
  rotate_left
  · (intro w hSw; (try dsimp only at hSw); go_simp; (try with_reducible rfl))
  (try simp only [Act.put, List.setIfInBounds_toArray, List.set_cons_zero, List.set_cons_succ])
  refine take_l 6 (v := ?_) rfl (by kernel_rfl) (by kernel_rfl) (by kernel_rfl) (fun _ _ _ h => h) (by rfl) ?_ (by assumption) ?_
  rotate_left
  · (intro w hSw; (try dsimp only at hSw); go_simp; (try with_reducible rfl))
  (try simp only [Act.put, List.setIfInBounds_toArray, List.set_cons_zero, List.set_cons_succ])
  refine take_l 7 (v := ?_) rfl (by kernel_rfl) (by kernel_rfl) (by kernel_rfl) (fun _ _ _ h => h) (by rfl) ?_ (by assumption) ?_
  rotate_left
  · (intro w hSw; (try dsimp only at hSw); go_simp; (try with_reducible rfl))
  (try simp only [Act.put, List.setIfInBounds_toArray, List.set_cons_zero, List.set_cons_succ])
  refine take_l 8 (v := ?_) rfl (by kernel_rfl) (by kernel_rfl) (by kernel_rfl) (fun _ _ _ h => h) (by rfl) ?_ (by assumption) ?_
  rotate_left
  · (intro w hSw; (try dsimp only at hSw); go_simp; (try with_reducible rfl))
  (try simp only [Act.put, List.setIfInBounds_toArray, List.set_cons_zero, List.set_cons_succ])
  refine take_l 9 (v := ?_) rfl (by kernel_rfl) (by kernel_rfl) (by kernel_rfl) (fun _ _ _ h => h) (by rfl) ?_ (by assumption) ?_
  rotate_left
  · (intro w hSw; (try dsimp only at hSw); go_simp; (try with_reducible rfl))
  (try simp only [Act.put, List.setIfInBounds_toArray, List.set_cons_zero, List.set_cons_succ])
  refine take_l 10 (v := ?_) rfl (by kernel_rfl) (by kernel_rfl) (by kernel_rfl) (fun _ _ _ h => h) (by rfl) ?_ (by assumption) ?_
  rotate_left
  · (intro w hSw; (try dsimp only at hSw); go_simp; (try with_reducible rfl))
  (try simp only [Act.put, List.setIfInBounds_toArray, List.set_cons_zero, List.set_cons_succ])
  refine wpAnyH_ready (rs := [11]) (by kernel_rfl) (by simp) ?_
  refine cons_l (i := 11) rfl (fun K hK => ?_) ?_
  go_simp; (go_at_call 37; with_reducible refine (sameTrains_same u _ _ _ _ _ rows _ HM.out hm2 HL.out (O5.out.ext (by (repeat' (first | (with_reducible exact Ext.refl _) | (with_reducible assumption) | (with_reducible refine Ext.alloc ?_ _) | (with_reducible refine Ext.drewN ?_ _) | (with_reducible refine Ext.drew ?_) | (with_reducible refine Ext.setCell ?_ ?_ _) | (with_reducible exact Nat.le_refl _) | (with_reducible exact Nat.le_succ _) | (with_reducible refine Ext.trans ?_ (by assumption)) | (simp; done) | (simp; omega))))) (HR7.out.ext (by (repeat' (first | (with_reducible exact Ext.refl _) | (with_reducible assumption) | (with_reducible refine Ext.alloc ?_ _) | (with_reducible refine Ext.drewN ?_ _) | (with_reducible refine Ext.drew ?_) | (with_reducible refine Ext.setCell ?_ ?_ _) | (with_reducible exact Nat.le_refl _) | (with_reducible exact Nat.le_succ _) | (with_reducible refine Ext.trans ?_ (by assumption)) | (simp; done) | (simp; omega)))))).mono ?_); rintro e wa ⟨rfl, hba⟩; have xa : Ext w7 wa := Ext.trans (by (repeat' (first | (with_reducible exact Ext.refl _) | (with_reducible assumption) | (with_reducible refine Ext.alloc ?_ _) | (with_reducible refine Ext.drewN ?_ _) | (with_reducible refine Ext.drew ?_) | (with_reducible refine Ext.setCell ?_ ?_ _) | (with_reducible exact Nat.le_refl _) | (with_reducible exact Nat.le_succ _) | (with_reducible refine Ext.trans ?_ (by assumption)) | (simp; done) | (simp; omega)))) hba
  refine hK.out _ _ ?_ (fun hH1 => ?_)
  · (try dsimp only)
    (exact HSK.out _ (by (repeat' (first | (with_reducible exact Ext.refl _) | (with_reducible assumption) | (with_reducible refine Ext.alloc ?_ _) | (with_reducible refine Ext.drewN ?_ _) | (with_reducible refine Ext.drew ?_) | (with_reducible refine Ext.setCell ?_ ?_ _) | (with_reducible exact Nat.le_refl _) | (with_reducible exact Nat.le_succ _) | (with_reducible refine Ext.trans ?_ (by assumption)) | (simp; done) | (simp; omega)))))
  clear hK K hH0
  (try simp only [Act.put, List.setIfInBounds_toArray, List.set_cons_zero, List.set_cons_succ])
  refine take_l 12 (v := ?_) rfl (by kernel_rfl) (by kernel_rfl) (by kernel_rfl) (fun _ _ _ h => h) (by rfl) ?_ (by assumption) ?_
  rotate_left
  · (intro w hSw; (try dsimp only at hSw); go_simp; (try with_reducible rfl))
  (try simp only [Act.put, List.setIfInBounds_toArray, List.set_cons_zero, List.set_cons_succ])
  refine take_l 13 (v := ?_) rfl (by kernel_rfl) (by kernel_rfl) (by kernel_rfl) (fun _ _ _ h => h) (by rfl) ?_ (by assumption) ?_
  rotate_left
  · (intro w hSw; (try dsimp only at hSw); go_simp; (try with_reducible rfl))
  (try simp only [Act.put, List.setIfInBounds_toArray, List.set_cons_zero, List.set_cons_succ])
  refine take_l 14 (v := ?_) rfl (by kernel_rfl) (by kernel_rfl) (by kernel_rfl) (fun _ _ _ h => h) (by rfl) ?_ (by assumption) ?_
  rotate_left
  · (intro w hSw; (try dsimp only at hSw); go_simp; (try with_reducible rfl))
  (try simp only [Act.put, List.setIfInBounds_toArray, List.set_cons_zero, List.set_cons_succ])
  refine take_l 15 (v := ?_) rfl (by kernel_rfl) (by kernel_rfl) (by kernel_rfl) (fun _ _ _ h => h) (by rfl) ?_ (by assumption) ?_
  rotate_left
  · (intro w hSw; (try dsimp only at hSw); go_simp; (try with_reducible rfl))
  (try simp only [Act.put, List.setIfInBounds_toArray, List.set_cons_zero, List.set_cons_succ])
  refine wpAnyH_ready (rs := [16]) (by kernel_rfl) (by simp) ?_
  refine cons_l (i := 16) rfl (fun K hK => ?_) ?_
  go_simp; (go_at_call 37; with_reducible refine (sameTrains_same u _ _ _ _ _ twoRows _ HT2N.out (by decide) HT2F.out (O6.out.ext (by (repeat' (first | (with_reducible exact Ext.refl _) | (with_reducible assumption) | (with_reducible refine Ext.alloc ?_ _) | (with_reducible refine Ext.drewN ?_ _) | (with_reducible refine Ext.drew ?_) | (with_reducible refine Ext.setCell ?_ ?_ _) | (with_reducible exact Nat.le_refl _) | (with_reducible exact Nat.le_succ _) | (with_reducible refine Ext.trans ?_ (by assumption)) | (simp; done) | (simp; omega))))) (HTW7.out.ext (by (repeat' (first | (with_reducible exact Ext.refl _) | (with_reducible assumption) | (with_reducible refine Ext.alloc ?_ _) | (with_reducible refine Ext.drewN ?_ _) | (with_reducible refine Ext.drew ?_) | (with_reducible refine Ext.setCell ?_ ?_ _) | (with_reducible exact Nat.le_refl _) | (with_reducible exact Nat.le_succ _) | (with_reducible refine Ext.trans ?_ (by assumption)) | (simp; done) | (simp; omega)))))).mono ?_); rintro e wb ⟨rfl, hbb⟩; have xb : Ext w7 wb := Ext.trans (by (repeat' (first | (with_reducible exact Ext.refl _) | (with_reducible assumption) | (with_reducible refine Ext.alloc ?_ _) | (with_reducible refine Ext.drewN ?_ _) | (with_reducible refine Ext.drew ?_) | (with_reducible refine Ext.setCell ?_ ?_ _) | (with_reducible exact Nat.le_refl _) | (with_reducible exact Nat.le_succ _) | (with_reducible refine Ext.trans ?_ (by assumption)) | (simp; done) | (simp; omega)))) hbb
  refine hK.out _ _ ?_ (fun hH2 => ?_)
  · (try dsimp only)
    (exact HSK.out _ (by (repeat' (first | (with_reducible exact Ext.refl _) | (with_reducible assumption) | (with_reducible refine Ext.alloc ?_ _) | (with_reducible refine Ext.drewN ?_ _) | (with_reducible refine Ext.drew ?_) | (with_reducible refine Ext.setCell ?_ ?_ _) | (with_reducible exact Nat.le_refl _) | (with_reducible exact Nat.le_succ _) | (with_reducible refine Ext.trans ?_ (by assumption)) | (simp; done) | (simp; omega)))))
  clear hK K hH1
  (try simp only [Act.put, List.setIfInBounds_toArray, List.set_cons_zero, List.set_cons_succ])
  refine take_l 17 (v := ?_) rfl (by kernel_rfl) (by kernel_rfl) (by kernel_rfl) (fun _ _ _ h => h) (by rfl) ?_ (by assumption) ?_
  rotate_left
  · (intro w hSw; (try dsimp only at hSw); go_simp; (try with_reducible rfl))
  (try simp only [Act.put, List.setIfInBounds_toArray, List.set_cons_zero, List.set_cons_succ])
  refine take_l 18 (v := ?_) rfl (by kernel_rfl) (by kernel_rfl) (by kernel_rfl) (fun _ _ _ h => h) (by rfl) ?_ (by assumption) ?_
  rotate_left
  · (intro w hSw; (try dsimp only at hSw); go_simp; (try with_reducible rfl))
  (try simp only [Act.put, List.setIfInBounds_toArray, List.set_cons_zero, List.set_cons_succ])
  refine take_l 19 (v := ?_) rfl (by kernel_rfl) (by kernel_rfl) (by kernel_rfl) (fun _ _ _ h => h) (by rfl) ?_ (by assumption) ?_
  rotate_left
  · (intro w hSw; (try dsimp only at hSw); go_simp; (try with_reducible rfl))
  (try simp only [Act.put, List.setIfInBounds_toArray, List.set_cons_zero, List.set_cons_succ])
  refine take_l 21 (v := ?_) rfl (by kernel_rfl) (by kernel_rfl) (by kernel_rfl) (fun _ _ _ h => h) (by rfl) ?_ (by assumption) ?_
  rotate_left
  · (intro w hSw; (try dsimp only at hSw); go_simp; (try with_reducible rfl))
  (try simp only [Act.put, List.setIfInBounds_toArray, List.set_cons_zero, List.set_cons_succ])
  refine wpAnyH_ready (rs := [20]) (by kernel_rfl) (by simp) ?_
  refine cons_l (i := 20) rfl (fun K hK => ?_) ?_
  go_simp; (go_at_call 38; with_reducible refine (implLengthOf_any _ _ _ _ (rows ++ twoRows) _ HCN.out hcm HCF.out (HC7.out.ext (by (repeat' (first | (with_reducible exact Ext.refl _) | (with_reducible assumption) | (with_reducible refine Ext.alloc ?_ _) | (with_reducible refine Ext.drewN ?_ _) | (with_reducible refine Ext.drew ?_) | (with_reducible refine Ext.setCell ?_ ?_ _) | (with_reducible exact Nat.le_refl _) | (with_reducible exact Nat.le_succ _) | (with_reducible refine Ext.trans ?_ (by assumption)) | (simp; done) | (simp; omega)))))).mono ?_); rintro e wc ⟨rfl, hbc⟩; have xc : Ext w7 wc := Ext.trans (by (repeat' (first | (with_reducible exact Ext.refl _) | (with_reducible assumption) | (with_reducible refine Ext.alloc ?_ _) | (with_reducible refine Ext.drewN ?_ _) | (with_reducible refine Ext.drew ?_) | (with_reducible refine Ext.setCell ?_ ?_ _) | (with_reducible exact Nat.le_refl _) | (with_reducible exact Nat.le_succ _) | (with_reducible refine Ext.trans ?_ (by assumption)) | (simp; done) | (simp; omega)))) hbc; rw [HLEN.out]
  refine hK.out _ _ ?_ (fun hH3 => ?_)
  · (try dsimp only)
    (exact HSK.out _ (by (repeat' (first | (with_reducible exact Ext.refl _) | (with_reducible assumption) | (with_reducible refine Ext.alloc ?_ _) | (with_reducible refine Ext.drewN ?_ _) | (with_reducible refine Ext.drew ?_) | (with_reducible refine Ext.setCell ?_ ?_ _) | (with_reducible exact Nat.le_refl _) | (with_reducible exact Nat.le_succ _) | (with_reducible refine Ext.trans ?_ (by assumption)) | (simp; done) | (simp; omega)))))
  clear hK K hH2
  (try simp only [Act.put, List.setIfInBounds_toArray, List.set_cons_zero, List.set_cons_succ])
  refine wpAnyH_ready (rs := [22]) (by kernel_rfl) (by simp) ?_
  refine cons_l (i := 22) rfl (fun K hK => ?_) ?_
  go_simp; (go_at_call 38; with_reducible refine (implLengthOf_any _ _ _ _ rows _ HM.out hm2 HL.out (HR7.out.ext (by (repeat' (first | (with_reducible exact Ext.refl _) | (with_reducible assumption) | (with_reducible refine Ext.alloc ?_ _) | (with_reducible refine Ext.drewN ?_ _) | (with_reducible refine Ext.drew ?_) | (with_reducible refine Ext.setCell ?_ ?_ _) | (with_reducible exact Nat.le_refl _) | (with_reducible exact Nat.le_succ _) | (with_reducible refine Ext.trans ?_ (by assumption)) | (simp; done) | (simp; omega)))))).mono ?_); rintro e wd ⟨rfl, hbd⟩; have xd : Ext w7 wd := Ext.trans (by (repeat' (first | (with_reducible exact Ext.refl _) | (with_reducible assumption) | (with_reducible refine Ext.alloc ?_ _) | (with_reducible refine Ext.drewN ?_ _) | (with_reducible refine Ext.drew ?_) | (with_reducible refine Ext.setCell ?_ ?_ _) | (with_reducible exact Nat.le_refl _) | (with_reducible exact Nat.le_succ _) | (with_reducible refine Ext.trans ?_ (by assumption)) | (simp; done) | (simp; omega)))) hbd; rw [HLA.out]
  refine hK.out _ _ ?_ (fun hH4 => ?_)
  · (try dsimp only)
    (exact HSK.out _ (by (repeat' (first | (with_reducible exact Ext.refl _) | (with_reducible assumption) | (with_reducible refine Ext.alloc ?_ _) | (with_reducible refine Ext.drewN ?_ _) | (with_reducible refine Ext.drew ?_) | (with_reducible refine Ext.setCell ?_ ?_ _) | (with_reducible exact Nat.le_refl _) | (with_reducible exact Nat.le_succ _) | (with_reducible refine Ext.trans ?_ (by assumption)) | (simp; done) | (simp; omega)))))
  clear hK K hH3
  (try simp only [Act.put, List.setIfInBounds_toArray, List.set_cons_zero, List.set_cons_succ])
  refine take_l 23 (v := ?_) rfl (by kernel_rfl) (by kernel_rfl) (by kernel_rfl) (fun _ _ _ h => h) (by rfl) ?_ (by assumption) ?_
  rotate_left
  · (intro w hSw; (try dsimp only at hSw); go_simp; (try with_reducible rfl))
  (try simp only [Act.put, List.setIfInBounds_toArray, List.set_cons_zero, List.set_cons_succ])
  refine take_l 24 (v := ?_) rfl (by kernel_rfl) (by kernel_rfl) (by kernel_rfl) (fun _ _ _ h => h) (by rfl) ?_ (by assumption) ?_
  rotate_left
  · (intro w hSw; (try dsimp only at hSw); go_simp; (try with_reducible rfl))
  (try simp only [Act.put, List.setIfInBounds_toArray, List.set_cons_zero, List.set_cons_succ])
  refine take_l 25 (v := ?_) rfl (by kernel_rfl) (by kernel_rfl) (by kernel_rfl) (fun _ _ _ h => h) (by rfl) ?_ (by assumption) ?_
  rotate_left
  · (intro w hSw; (try dsimp only at hSw); go_simp; (try with_reducible rfl))
  (try simp only [Act.put, List.setIfInBounds_toArray, List.set_cons_zero, List.set_cons_succ])
  refine take_l 26 (v := ?_) rfl (by kernel_rfl) (by kernel_rfl) (by kernel_rfl) (fun _ _ _ h => h) (by rfl) ?_ (by assumption) ?_
  rotate_left
  · (intro w hSw; (try dsimp only at hSw); go_simp; (try with_reducible rfl))
  (try simp only [Act.put, List.setIfInBounds_toArray, List.set_cons_zero, List.set_cons_succ])
  refine take_l 27 (v := ?_) rfl (by kernel_rfl) (by kernel_rfl) (by kernel_rfl) (fun _ _ _ h => h) (by rfl) ?_ (by assumption) ?_
  rotate_left
  · (intro w hSw; (try dsimp only at hSw); go_simp; (try with_reducible rfl))
  (try simp only [Act.put, List.setIfInBounds_toArray, List.set_cons_zero, List.set_cons_succ])
  refine wpAnyH_ready (rs := [28]) (by kernel_rfl) (by simp) ?_
  refine cons_l (i := 28) rfl (fun K hK => ?_) ?_
  go_simp; (go_at_call 24; with_reducible refine (implWidthOf_any _ _ _ _ (rows ++ twoRows) _ HCN.out hcm HCF.out (HC7.out.ext (by (repeat' (first | (with_reducible exact Ext.refl _) | (with_reducible assumption) | (with_reducible refine Ext.alloc ?_ _) | (with_reducible refine Ext.drewN ?_ _) | (with_reducible refine Ext.drew ?_) | (with_reducible refine Ext.setCell ?_ ?_ _) | (with_reducible exact Nat.le_refl _) | (with_reducible exact Nat.le_succ _) | (with_reducible refine Ext.trans ?_ (by assumption)) | (simp; done) | (simp; omega)))))).mono ?_); rintro e we ⟨rfl, hbe⟩; have xe : Ext w7 we := Ext.trans (by (repeat' (first | (with_reducible exact Ext.refl _) | (with_reducible assumption) | (with_reducible refine Ext.alloc ?_ _) | (with_reducible refine Ext.drewN ?_ _) | (with_reducible refine Ext.drew ?_) | (with_reducible refine Ext.setCell ?_ ?_ _) | (with_reducible exact Nat.le_refl _) | (with_reducible exact Nat.le_succ _) | (with_reducible refine Ext.trans ?_ (by assumption)) | (simp; done) | (simp; omega)))) hbe; rw [HWV.out]
  refine hK.out _ _ ?_ (fun hH5 => ?_)
  · (try dsimp only)
    (exact HSK.out _ (by (repeat' (first | (with_reducible exact Ext.refl _) | (with_reducible assumption) | (with_reducible refine Ext.alloc ?_ _) | (with_reducible refine Ext.drewN ?_ _) | (with_reducible refine Ext.drew ?_) | (with_reducible refine Ext.setCell ?_ ?_ _) | (with_reducible exact Nat.le_refl _) | (with_reducible exact Nat.le_succ _) | (with_reducible refine Ext.trans ?_ (by assumption)) | (simp; done) | (simp; omega)))))
  clear hK K hH4
  (try simp only [Act.put, List.setIfInBounds_toArray, List.set_cons_zero, List.set_cons_succ])
  refine take_l 29 (v := ?_) rfl (by kernel_rfl) (by kernel_rfl) (by kernel_rfl) (fun _ _ _ h => h) (by rfl) ?_ (by assumption) ?_
  rotate_left
  · (intro w hSw; (try dsimp only at hSw); go_simp; (try with_reducible rfl))
  (try simp only [Act.put, List.setIfInBounds_toArray, List.set_cons_zero, List.set_cons_succ])
  refine take_l 30 (v := ?_) rfl (by kernel_rfl) (by kernel_rfl) (by kernel_rfl) (fun _ _ _ h => h) (by rfl) ?_ (by assumption) ?_
  rotate_left
  · (intro w hSw; (try dsimp only at hSw); go_simp; (try with_reducible rfl))
  (try simp only [Act.put, List.setIfInBounds_toArray, List.set_cons_zero, List.set_cons_succ])
  refine take_l 31 (v := ?_) rfl (by kernel_rfl) (by kernel_rfl) (by kernel_rfl) (fun _ _ _ h => h) (by rfl) ?_ (by assumption) ?_
  rotate_left
  · (intro w hSw; (try dsimp only at hSw); go_simp; (try with_reducible rfl))
  (try simp only [Act.put, List.setIfInBounds_toArray, List.set_cons_zero, List.set_cons_succ])
  refine take_l 32 (v := ?_) rfl (by kernel_rfl) (by kernel_rfl) (by kernel_rfl) (fun _ _ _ h => h) (by rfl) ?_ (by assumption) ?_
  rotate_left
  · (intro w hSw; (try dsimp only at hSw); go_simp; (try with_reducible rfl))
  (try simp only [Act.put, List.setIfInBounds_toArray, List.set_cons_zero, List.set_cons_succ])
  refine wpAnyH_ready (rs := [33]) (by kernel_rfl) (by simp) ?_
  refine cons_l (i := 33) rfl (fun K hK => ?_) ?_
  go_simp; (go_at_call 39; with_reducible refine (implDraughtOf_any _ _ _ _ (rows ++ twoRows) _ HCN.out hcm HCF.out (HC7.out.ext (by (repeat' (first | (with_reducible exact Ext.refl _) | (with_reducible assumption) | (with_reducible refine Ext.alloc ?_ _) | (with_reducible refine Ext.drewN ?_ _) | (with_reducible refine Ext.drew ?_) | (with_reducible refine Ext.setCell ?_ ?_ _) | (with_reducible exact Nat.le_refl _) | (with_reducible exact Nat.le_succ _) | (with_reducible refine Ext.trans ?_ (by assumption)) | (simp; done) | (simp; omega)))))).mono ?_); rintro e wf ⟨rfl, hbf⟩; have xf : Ext w7 wf := Ext.trans (by (repeat' (first | (with_reducible exact Ext.refl _) | (with_reducible assumption) | (with_reducible refine Ext.alloc ?_ _) | (with_reducible refine Ext.drewN ?_ _) | (with_reducible refine Ext.drew ?_) | (with_reducible refine Ext.setCell ?_ ?_ _) | (with_reducible exact Nat.le_refl _) | (with_reducible exact Nat.le_succ _) | (with_reducible refine Ext.trans ?_ (by assumption)) | (simp; done) | (simp; omega)))) hbf; rw [HCP.out.dra]
  refine hK.out _ _ ?_ (fun hH6 => ?_)
  · (try dsimp only)
    (exact HSK.out _ (by (repeat' (first | (with_reducible exact Ext.refl _) | (with_reducible assumption) | (with_reducible refine Ext.alloc ?_ _) | (with_reducible refine Ext.drewN ?_ _) | (with_reducible refine Ext.drew ?_) | (with_reducible refine Ext.setCell ?_ ?_ _) | (with_reducible exact Nat.le_refl _) | (with_reducible exact Nat.le_succ _) | (with_reducible refine Ext.trans ?_ (by assumption)) | (simp; done) | (simp; omega)))))
  clear hK K hH5
  (try simp only [Act.put, List.setIfInBounds_toArray, List.set_cons_zero, List.set_cons_succ])
  refine take_l 34 (v := ?_) rfl (by kernel_rfl) (by kernel_rfl) (by kernel_rfl) (fun _ _ _ h => h) (by rfl) ?_ (by assumption) ?_
  rotate_left
  · (intro w hSw; (try dsimp only at hSw); go_simp; (try with_reducible rfl))
  (try simp only [Act.put, List.setIfInBounds_toArray, List.set_cons_zero, List.set_cons_succ])
  refine take_l 35 (v := ?_) rfl (by kernel_rfl) (by kernel_rfl) (by kernel_rfl) (fun _ _ _ h => h) (by rfl) ?_ (by assumption) ?_
  rotate_left
  · (intro w hSw; (try dsimp only at hSw); go_simp; (try with_reducible rfl))
  (try simp only [Act.put, List.setIfInBounds_toArray, List.set_cons_zero, List.set_cons_succ])
  refine take_l 36 (v := ?_) rfl (by kernel_rfl) (by kernel_rfl) (by kernel_rfl) (fun _ _ _ h => h) (by rfl) ?_ (by assumption) ?_
  rotate_left
  · (intro w hSw; (try dsimp only at hSw); go_simp; (try with_reducible rfl))
  (try simp only [Act.put, List.setIfInBounds_toArray, List.set_cons_zero, List.set_cons_succ])
  refine take_l 37 (v := ?_) rfl (by kernel_rfl) (by kernel_rfl) (by kernel_rfl) (fun _ _ _ h => h) (by rfl) ?_ (by assumption) ?_
  rotate_left
  · (intro w hSw; (try dsimp only at hSw); go_simp; (try with_reducible rfl))
  (try simp only [Act.put, List.setIfInBounds_toArray, List.set_cons_zero, List.set_cons_succ])
  refine wpAnyH_ready (rs := [38]) (by kernel_rfl) (by simp) ?_
  refine cons_l (i := 38) rfl (fun K hK => ?_) ?_
  go_simp; (go_at_call 40; with_reducible refine (implSpeedOf_any _ _ _ _ (rows ++ twoRows) _ HCN.out hcm HCF.out (HC7.out.ext (by (repeat' (first | (with_reducible exact Ext.refl _) | (with_reducible assumption) | (with_reducible refine Ext.alloc ?_ _) | (with_reducible refine Ext.drewN ?_ _) | (with_reducible refine Ext.drew ?_) | (with_reducible refine Ext.setCell ?_ ?_ _) | (with_reducible exact Nat.le_refl _) | (with_reducible exact Nat.le_succ _) | (with_reducible refine Ext.trans ?_ (by assumption)) | (simp; done) | (simp; omega)))))).mono ?_); rintro e wg ⟨rfl, hbg⟩; have xg : Ext w7 wg := Ext.trans (by (repeat' (first | (with_reducible exact Ext.refl _) | (with_reducible assumption) | (with_reducible refine Ext.alloc ?_ _) | (with_reducible refine Ext.drewN ?_ _) | (with_reducible refine Ext.drew ?_) | (with_reducible refine Ext.setCell ?_ ?_ _) | (with_reducible exact Nat.le_refl _) | (with_reducible exact Nat.le_succ _) | (with_reducible refine Ext.trans ?_ (by assumption)) | (simp; done) | (simp; omega)))) hbg; rw [HCP.out.spd]
  refine hK.out _ _ ?_ (fun hH7 => ?_)
  · (try dsimp only)
    (exact HSK.out _ (by (repeat' (first | (with_reducible exact Ext.refl _) | (with_reducible assumption) | (with_reducible refine Ext.alloc ?_ _) | (with_reducible refine Ext.drewN ?_ _) | (with_reducible refine Ext.drew ?_) | (with_reducible refine Ext.setCell ?_ ?_ _) | (with_reducible exact Nat.le_refl _) | (with_reducible exact Nat.le_succ _) | (with_reducible refine Ext.trans ?_ (by assumption)) | (simp; done) | (simp; omega)))))
  clear hK K hH6
  (try simp only [Act.put, List.setIfInBounds_toArray, List.set_cons_zero, List.set_cons_succ])
  refine take_l 39 (v := ?_) rfl (by kernel_rfl) (by kernel_rfl) (by kernel_rfl) (fun _ _ _ h => h) (by rfl) ?_ (by assumption) ?_
  rotate_left
  · (intro w hSw; (try dsimp only at hSw); go_simp; (try with_reducible rfl))
  (try simp only [Act.put, List.setIfInBounds_toArray, List.set_cons_zero, List.set_cons_succ])
  refine take_l 40 (v := ?_) rfl (by kernel_rfl) (by kernel_rfl) (by kernel_rfl) (fun _ _ _ h => h) (by rfl) ?_ (by assumption) ?_
  rotate_left
  · (intro w hSw; (try dsimp only at hSw); go_simp; (try with_reducible rfl))
  (try simp only [Act.put, List.setIfInBounds_toArray, List.set_cons_zero, List.set_cons_succ])
  refine take_l 41 (v := ?_) rfl (by kernel_rfl) (by kernel_rfl) (by kernel_rfl) (fun _ _ _ h => h) (by rfl) ?_ (by assumption) ?_
  rotate_left
  · (intro w hSw; (try dsimp only at hSw); go_simp; (try with_reducible rfl))
  (try simp only [Act.put, List.setIfInBounds_toArray, List.set_cons_zero, List.set_cons_succ])
  refine take_l 42 (v := ?_) rfl (by kernel_rfl) (by kernel_rfl) (by kernel_rfl) (fun _ _ _ h => h) (by rfl) ?_ (by assumption) ?_
  rotate_left
  · (intro w hSw; (try dsimp only at hSw); go_simp; (try with_reducible rfl))
  (try simp only [Act.put, List.setIfInBounds_toArray, List.set_cons_zero, List.set_cons_succ])
  refine wpAnyH_ready (rs := [43]) (by kernel_rfl) (by simp) ?_
  refine cons_l (i := 43) rfl (fun K hK => ?_) ?_
  go_simp; (go_at_call 41; with_reducible refine (implClassOf_any _ _ _ _ (rows ++ twoRows) _ HCN.out hcm HCF.out (HC7.out.ext (by (repeat' (first | (with_reducible exact Ext.refl _) | (with_reducible assumption) | (with_reducible refine Ext.alloc ?_ _) | (with_reducible refine Ext.drewN ?_ _) | (with_reducible refine Ext.drew ?_) | (with_reducible refine Ext.setCell ?_ ?_ _) | (with_reducible exact Nat.le_refl _) | (with_reducible exact Nat.le_succ _) | (with_reducible refine Ext.trans ?_ (by assumption)) | (simp; done) | (simp; omega)))))).mono ?_); rintro e wh ⟨rfl, hbh⟩; have xh : Ext w7 wh := Ext.trans (by (repeat' (first | (with_reducible exact Ext.refl _) | (with_reducible assumption) | (with_reducible refine Ext.alloc ?_ _) | (with_reducible refine Ext.drewN ?_ _) | (with_reducible refine Ext.drew ?_) | (with_reducible refine Ext.setCell ?_ ?_ _) | (with_reducible exact Nat.le_refl _) | (with_reducible exact Nat.le_succ _) | (with_reducible refine Ext.trans ?_ (by assumption)) | (simp; done) | (simp; omega)))) hbh; rw [HCP.out.cls]
  refine hK.out _ _ ?_ (fun hH8 => ?_)
  · (try dsimp only)
    (exact HSK.out _ (by (repeat' (first | (with_reducible exact Ext.refl _) | (with_reducible assumption) | (with_reducible refine Ext.alloc ?_ _) | (with_reducible refine Ext.drewN ?_ _) | (with_reducible refine Ext.drew ?_) | (with_reducible refine Ext.setCell ?_ ?_ _) | (with_reducible exact Nat.le_refl _) | (with_reducible exact Nat.le_succ _) | (with_reducible refine Ext.trans ?_ (by assumption)) | (simp; done) | (simp; omega)))))
  clear hK K hH7
  (try simp only [Act.put, List.setIfInBounds_toArray, List.set_cons_zero, List.set_cons_succ])
  refine take_l 44 (v := ?_) rfl (by kernel_rfl) (by kernel_rfl) (by kernel_rfl) (fun _ _ _ h => h) (by rfl) ?_ (by assumption) ?_
  rotate_left
  · (intro w hSw; (try dsimp only at hSw); go_simp; (try with_reducible rfl))
  (try simp only [Act.put, List.setIfInBounds_toArray, List.set_cons_zero, List.set_cons_succ])
  refine take_l 45 (v := ?_) rfl (by kernel_rfl) (by kernel_rfl) (by kernel_rfl) (fun _ _ _ h => h) (by rfl) ?_ (by assumption) ?_
  rotate_left
  · (intro w hSw; (try dsimp only at hSw); go_simp; (try with_reducible rfl))
  (try simp only [Act.put, List.setIfInBounds_toArray, List.set_cons_zero, List.set_cons_succ])
  refine take_l 46 (v := ?_) rfl (by kernel_rfl) (by kernel_rfl) (by kernel_rfl) (fun _ _ _ h => h) (by rfl) ?_ (by assumption) ?_
  rotate_left
  · (intro w hSw; (try dsimp only at hSw); go_simp; (try with_reducible rfl))
  (try simp only [Act.put, List.setIfInBounds_toArray, List.set_cons_zero, List.set_cons_succ])
  refine take_l 47 (v := ?_) rfl (by kernel_rfl) (by kernel_rfl) (by kernel_rfl) (fun _ _ _ h => h) (by rfl) ?_ (by assumption) ?_
  rotate_left
  · (intro w hSw; (try dsimp only at hSw); go_simp; (try with_reducible rfl))
  (try simp only [Act.put, List.setIfInBounds_toArray, List.set_cons_zero, List.set_cons_succ])
  refine take_l 50 (v := ?_) rfl (by kernel_rfl) (by kernel_rfl) (by kernel_rfl) (fun _ _ _ h => h) (by rfl) ?_ (by assumption) ?_
  rotate_left
  · (intro w hSw; (try dsimp only at hSw); go_simp; (try with_reducible rfl))
  (try simp only [Act.put, List.setIfInBounds_toArray, List.set_cons_zero, List.set_cons_succ])
  refine wpAnyH_ready (rs := [48]) (by kernel_rfl) (by simp) ?_
  refine cons_l (i := 48) rfl (fun K hK => ?_) ?_
  go_simp; (go_at_call 23; with_reducible refine (implIdsOf_is (idsOf (rows ++ twoRows)) (li + 2) _ _ _ _ (rows ++ twoRows) _ HCN.out hcm HCF.out (HC7.out.ext (by (repeat' (first | (with_reducible exact Ext.refl _) | (with_reducible assumption) | (with_reducible refine Ext.alloc ?_ _) | (with_reducible refine Ext.drewN ?_ _) | (with_reducible refine Ext.drew ?_) | (with_reducible refine Ext.setCell ?_ ?_ _) | (with_reducible exact Nat.le_refl _) | (with_reducible exact Nat.le_succ _) | (with_reducible refine Ext.trans ?_ (by assumption)) | (simp; done) | (simp; omega))))) rfl HLI2.out).mono ?_); rintro e wi ⟨ai, ci, rfl, _, hbi⟩; have xi : Ext w7 wi := Ext.trans (by (repeat' (first | (with_reducible exact Ext.refl _) | (with_reducible assumption) | (with_reducible refine Ext.alloc ?_ _) | (with_reducible refine Ext.drewN ?_ _) | (with_reducible refine Ext.drew ?_) | (with_reducible refine Ext.setCell ?_ ?_ _) | (with_reducible exact Nat.le_refl _) | (with_reducible exact Nat.le_succ _) | (with_reducible refine Ext.trans ?_ (by assumption)) | (simp; done) | (simp; omega)))) hbi
  refine hK.out _ _ ?_ (fun hH9 => ?_)
  · (try dsimp only)
    (exact HSK.out _ (by (repeat' (first | (with_reducible exact Ext.refl _) | (with_reducible assumption) | (with_reducible refine Ext.alloc ?_ _) | (with_reducible refine Ext.drewN ?_ _) | (with_reducible refine Ext.drew ?_) | (with_reducible refine Ext.setCell ?_ ?_ _) | (with_reducible exact Nat.le_refl _) | (with_reducible exact Nat.le_succ _) | (with_reducible refine Ext.trans ?_ (by assumption)) | (simp; done) | (simp; omega)))))
  clear hK K hH8
  (try simp only [Act.put, List.setIfInBounds_toArray, List.set_cons_zero, List.set_cons_succ])
  refine take_l 49 (v := ?_) rfl (by kernel_rfl) (by kernel_rfl) (by kernel_rfl) (fun _ _ _ h => h) (by rfl) ?_ (by assumption) ?_
  rotate_left
  · (intro w hSw; (try dsimp only at hSw); go_simp; (try with_reducible rfl))
  (try simp only [Act.put, List.setIfInBounds_toArray, List.set_cons_zero, List.set_cons_succ])
  refine wpAnyH_ready (rs := [51]) (by kernel_rfl) (by simp) ?_
  refine cons_l (i := 51) rfl (fun K hK => ?_) ?_
  go_simp; (go_at_call 23; with_reducible refine (implIdsOf_is (idsOf rows) li _ _ _ _ rows _ HM.out hm2 HL.out (HR7.out.ext (by (repeat' (first | (with_reducible exact Ext.refl _) | (with_reducible assumption) | (with_reducible refine Ext.alloc ?_ _) | (with_reducible refine Ext.drewN ?_ _) | (with_reducible refine Ext.drew ?_) | (with_reducible refine Ext.setCell ?_ ?_ _) | (with_reducible exact Nat.le_refl _) | (with_reducible exact Nat.le_succ _) | (with_reducible refine Ext.trans ?_ (by assumption)) | (simp; done) | (simp; omega))))) rfl HLI.out).mono ?_); rintro e wj ⟨aj, cj, rfl, _, hbj⟩; have xj : Ext w7 wj := Ext.trans (by (repeat' (first | (with_reducible exact Ext.refl _) | (with_reducible assumption) | (with_reducible refine Ext.alloc ?_ _) | (with_reducible refine Ext.drewN ?_ _) | (with_reducible refine Ext.drew ?_) | (with_reducible refine Ext.setCell ?_ ?_ _) | (with_reducible exact Nat.le_refl _) | (with_reducible exact Nat.le_succ _) | (with_reducible refine Ext.trans ?_ (by assumption)) | (simp; done) | (simp; omega)))) hbj
  refine hK.out _ _ ?_ (fun hH10 => ?_)
  · (try dsimp only)
    (exact HSK.out _ (by (repeat' (first | (with_reducible exact Ext.refl _) | (with_reducible assumption) | (with_reducible refine Ext.alloc ?_ _) | (with_reducible refine Ext.drewN ?_ _) | (with_reducible refine Ext.drew ?_) | (with_reducible refine Ext.setCell ?_ ?_ _) | (with_reducible exact Nat.le_refl _) | (with_reducible exact Nat.le_succ _) | (with_reducible refine Ext.trans ?_ (by assumption)) | (simp; done) | (simp; omega)))))
  clear hK K hH9
  (try simp only [Act.put, List.setIfInBounds_toArray, List.set_cons_zero, List.set_cons_succ])
  refine take_l 52 (v := ?_) rfl (by kernel_rfl) (by kernel_rfl) (by kernel_rfl) (fun _ _ _ h => h) (by rfl) ?_ (by assumption) ?_
  rotate_left
  · (intro w hSw; (try dsimp only at hSw); go_simp; (try with_reducible rfl))
  (try simp only [Act.put, List.setIfInBounds_toArray, List.set_cons_zero, List.set_cons_succ])
  refine take_l 53 (v := ?_) rfl (by kernel_rfl) (by kernel_rfl) (by kernel_rfl) (fun _ _ _ h => h) (by rfl) ?_ (by assumption) ?_
  rotate_left
  · (intro w hSw; (try dsimp only at hSw); go_simp; (try with_reducible rfl))
  (try simp only [Act.put, List.setIfInBounds_toArray, List.set_cons_zero, List.set_cons_succ])
  refine take_l 54 (v := ?_) rfl (by kernel_rfl) (by kernel_rfl) (by kernel_rfl) (fun _ _ _ h => h) (by rfl) ?_ (by assumption) ?_
  rotate_left
  · (intro w hSw; (try dsimp only at hSw); go_simp; (try with_reducible rfl))
  (try simp only [Act.put, List.setIfInBounds_toArray, List.set_cons_zero, List.set_cons_succ])
  refine take_l 55 (v := ?_) rfl (by kernel_rfl) (by kernel_rfl) (by kernel_rfl) (fun _ _ _ h => h) (by rfl) ?_ (by assumption) ?_
  rotate_left
  · (intro w hSw; (try dsimp only at hSw); go_simp; (try with_reducible rfl))
  (try simp only [Act.put, List.setIfInBounds_toArray, List.set_cons_zero, List.set_cons_succ])
  refine take_l 56 (v := ?_) rfl (by kernel_rfl) (by kernel_rfl) (by kernel_rfl) (fun _ _ _ h => h) (by rfl) ?_ (by assumption) ?_
  rotate_left
  · (intro w hSw; (try dsimp only at hSw); go_simp; (try with_reducible rfl))
  (try simp only [Act.put, List.setIfInBounds_toArray, List.set_cons_zero, List.set_cons_succ])
  refine take_l 57 (v := ?_) rfl (by kernel_rfl) (by kernel_rfl) (by kernel_rfl) (fun _ _ _ h => h) (by rfl) ?_ (by assumption) ?_
  rotate_left
  · (intro w hSw; (try dsimp only at hSw); go_simp; (try with_reducible rfl))
  (try simp only [Act.put, List.setIfInBounds_toArray, List.set_cons_zero, List.set_cons_succ])
  refine wpAnyH_ready (rs := [58]) (by kernel_rfl) (by simp) ?_
  refine cons_l (i := 58) rfl (fun K hK => ?_) ?_
  go_simp; (go_at_call 42; with_reducible refine (implTrainOk_any _ _ _ _ (rows ++ twoRows) _ HCN.out hcm HCF.out (HC7.out.ext (by (repeat' (first | (with_reducible exact Ext.refl _) | (with_reducible assumption) | (with_reducible refine Ext.alloc ?_ _) | (with_reducible refine Ext.drewN ?_ _) | (with_reducible refine Ext.drew ?_) | (with_reducible refine Ext.setCell ?_ ?_ _) | (with_reducible exact Nat.le_refl _) | (with_reducible exact Nat.le_succ _) | (with_reducible refine Ext.trans ?_ (by assumption)) | (simp; done) | (simp; omega)))))).mono ?_); rintro e wk ⟨rfl, hbk⟩; have xk : Ext w7 wk := Ext.trans (by (repeat' (first | (with_reducible exact Ext.refl _) | (with_reducible assumption) | (with_reducible refine Ext.alloc ?_ _) | (with_reducible refine Ext.drewN ?_ _) | (with_reducible refine Ext.drew ?_) | (with_reducible refine Ext.setCell ?_ ?_ _) | (with_reducible exact Nat.le_refl _) | (with_reducible exact Nat.le_succ _) | (with_reducible refine Ext.trans ?_ (by assumption)) | (simp; done) | (simp; omega)))) hbk; rw [HCP.out.ok]
  refine hK.out _ _ ?_ (fun hH11 => ?_)
  · (try dsimp only)
    (exact HSK.out _ (by (repeat' (first | (with_reducible exact Ext.refl _) | (with_reducible assumption) | (with_reducible refine Ext.alloc ?_ _) | (with_reducible refine Ext.drewN ?_ _) | (with_reducible refine Ext.drew ?_) | (with_reducible refine Ext.setCell ?_ ?_ _) | (with_reducible exact Nat.le_refl _) | (with_reducible exact Nat.le_succ _) | (with_reducible refine Ext.trans ?_ (by assumption)) | (simp; done) | (simp; omega)))))
  clear hK K hH10
  (try simp only [Act.put, List.setIfInBounds_toArray, List.set_cons_zero, List.set_cons_succ])
  refine take_l 59 (v := ?_) rfl (by kernel_rfl) (by kernel_rfl) (by kernel_rfl) (fun _ _ _ h => h) (by rfl) ?_ (by assumption) ?_
  rotate_left
  · (intro w hSw; (try dsimp only at hSw); go_simp; (try with_reducible rfl))
  (try simp only [Act.put, List.setIfInBounds_toArray, List.set_cons_zero, List.set_cons_succ])
  refine take_l 60 (v := ?_) rfl (by kernel_rfl) (by kernel_rfl) (by kernel_rfl) (fun _ _ _ h => h) (by rfl) ?_ (by assumption) ?_
  rotate_left
  · (intro w hSw; (try dsimp only at hSw); go_simp; (try with_reducible rfl))
  (try simp only [Act.put, List.setIfInBounds_toArray, List.set_cons_zero, List.set_cons_succ])
  refine wpAnyH_done (by kernel_rfl) ?_ _
  rotate_left
  exact AllReadyH.nil
  exact AllReadyH.nil
  exact AllReadyH.nil
  exact AllReadyH.nil
  exact AllReadyH.nil
  exact AllReadyH.nil
  exact AllReadyH.nil
  exact AllReadyH.nil
  exact AllReadyH.nil
  exact AllReadyH.nil
  exact AllReadyH.nil
  all_goals
    go_wp2
    go_ret
    exact ⟨rfl, HX2.out.trans (HX7.out.trans xk)⟩
end Go.Proofs.Ytmcmialaofckkaa
