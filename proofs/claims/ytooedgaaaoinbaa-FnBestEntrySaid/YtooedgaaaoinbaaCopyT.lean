/- Copies of trains and of locks, on both sides. -/
import Derived.Test.YtooedgaaaoinbaaProg
import Derived.Test.YtooedgaaaoinbaaCopy
import Derived.Test.YtooedgaaaoinbaaGrowT
import Derived.Test.YtooedgaaaoinbaaLock
namespace Go.Proofs.Ytooedgaaaoinbaa
open Go.RowKit
set_option linter.unusedSimpArgs false
set_option linter.unusedVariables false

theorem one_trainC (w : World) (u : Bool) (v : Value) : ∀ ad, (some ⟨w.heap.size, 0, none⟩ : Option Addr) = some ad → ∀ (j : Nat) x, ([(u, v)].flatMap eC)[j]? = some x → (w.alloc (.cells #[.bool u, v] 36)).cell? (ad.add j) = some x := by
  intro ad e j x hx
  cases e
  rw [add_plain rfl, Nat.zero_add]
  match j, hx with
  | 0, hx => cases hx; exact (RowAt.new w 36 #[.bool u, v]).cell rfl
  | 1, hx => cases hx; exact (RowAt.new w 36 #[.bool u, v]).cell rfl
  | j + 2, hx => simp [eC] at hx

set_option maxRecDepth 100000 in
set_option maxHeartbeats 1000000 in
theorem copyTrain_any (u : Bool) (a : Option Addr) (n c : Nat) (rows : List (List Bt)) (w : World) (hn : n = rows.length) (hs : n ≤ 1048576) (hrs : ∀ r ∈ rows, r.length ≤ 1048576) (hf : RowsAt w a rows) :
    Calls Try.prog 67 #[.agg #[.bool u, .slice a n c]] w fun e w' => ∃ a' c', e = .returned (.agg #[.bool u, .slice a' n c']) ∧ OwnRows w' w.heap.size w'.heap.size a' rows ∧ Ext w w' := by
  have HF := Lib.hid hf; clear hf
  have HN := Lib.hid hn; clear hn
  have HR := Lib.hid hrs; clear hrs
  have R0 := (RowAt.new w 36 #[.bool u, .slice a n c]).ext ((Ext.refl _).alloc (.cells #[.bool false, .slice none 0 0] 36))
  have R1 := RowAt.new (w.alloc (.cells #[.bool u, .slice a n c] 36)) 36 #[.bool false, .slice none 0 0]
  rw [World.size_alloc] at R1
  have E0 := ((Ext.refl w).alloc (.cells #[.bool u, .slice a n c] 36)).alloc (.cells #[.bool false, .slice none 0 0] 36)
  go_enter Try.func67, Try.ntmps67
  go_wp2_with fail
  have zz := E0.size
  have hS := Ext.refl ((w.alloc (.cells #[.bool u, .slice a n c] 36)).alloc (.cells #[.bool false, .slice none 0 0] 36))
  have HR0 := Lib.hid R0
  have HR1 := Lib.hid R1
  have HE0 := Lib.hid E0
  obtain ⟨W, hW⟩ : ∃ x, x = ((w.alloc (.cells #[.bool u, .slice a n c] 36)).alloc (.cells #[.bool false, .slice none 0 0] 36)) := ⟨_, rfl⟩
  have hWs : W.heap.size = w.heap.size + 1 + 1 := by rw [hW]; simp
  rw [← hW] at HR0 HR1 HE0 hS
  (try rw [← hW])
  clear hW R0 R1 E0 zz
  have c0 : W.cell? ⟨w.heap.size, 0, none⟩ = some (.bool u) := HR0.out.cell rfl
  have c1 : W.cell? ⟨w.heap.size, 1, none⟩ = some (.slice a n c) := HR0.out.cell rfl
  have k0 : W.cell? ⟨w.heap.size + 1, 0, none⟩ = some (.bool false) := HR1.out.cell rfl
  have k1 : W.cell? ⟨w.heap.size + 1, 1, none⟩ = some (.slice none 0 0) := HR1.out.cell rfl
  have f0 := HR1.out.frozen 0
  have f1 := HR1.out.frozen 1
  refine wp_region_held_drew (S := (fun w' => w'.cell? ⟨w.heap.size, 0, none⟩ = some (.bool u) ∧ w'.cell? ⟨w.heap.size, 1, none⟩ = some (.slice a n c))) (by kernel_rfl) ?_ (fun hH0 => ?_)
  · (try dsimp only)
    ((refine And.intro ?_ ?_) <;> (first | (with_reducible assumption) | exact (((HR0.out.ext x4).other (p := ⟨w.heap.size + 1, 0, none⟩) (by simp) (.bool u)).other (p := ⟨w.heap.size + 1, 1, none⟩) (by simp) (.slice a4 n c4)).cell rfl | exact (HR0.out.ext x4).cell rfl | exact (HR0.out.ext (Ext.refl _).drew).cell rfl))
  refine take_l 0 (v := ?_) rfl (by kernel_rfl) (by kernel_rfl) (by kernel_rfl) (fun _ _ _ h => h) (by rfl) ?_ (by assumption) ?_
  rotate_left
  · (intro w hSw; (try dsimp only at hSw); go_simp; (try with_reducible rfl))
  (try simp only [Act.put, List.setIfInBounds_toArray, List.set_cons_zero, List.set_cons_succ])
  refine take_l 1 (v := ?_) rfl (by kernel_rfl) (by kernel_rfl) (by kernel_rfl) (fun _ _ _ h => h) (by rfl) ?_ (by assumption) ?_
  rotate_left
  · (intro w hSw; (try dsimp only at hSw); go_simp; (try with_reducible rfl))
  (try simp only [Act.put, List.setIfInBounds_toArray, List.set_cons_zero, List.set_cons_succ])
  refine take_l 2 (v := ?_) rfl (by kernel_rfl) (by kernel_rfl) (by kernel_rfl) (fun _ _ _ h => h) (by rfl) ?_ (by assumption) ?_
  rotate_left
  · (intro w hSw; (try dsimp only at hSw); go_simp; (try with_reducible rfl))
  (try simp only [Act.put, List.setIfInBounds_toArray, List.set_cons_zero, List.set_cons_succ])
  refine take_l 3 (v := ?_) rfl (by kernel_rfl) (by kernel_rfl) (by kernel_rfl) (fun _ _ _ h => h) (by rfl) ?_ (by assumption) ?_
  rotate_left
  · (intro w hSw; (try dsimp only at hSw); go_simp; (try with_reducible rfl))
  (try simp only [Act.put, List.setIfInBounds_toArray, List.set_cons_zero, List.set_cons_succ])
  refine wpAnyH_ready (rs := [4]) (by kernel_rfl) (by simp) ?_
  refine cons_l (i := 4) rfl (fun K hK => ?_) ?_
  go_simp; (go_at_call 117; refine (copyRows_any _ _ _ rows _ HN.out hs HR.out (HF.out.ext (HE0.out.trans (by (repeat' (first | (with_reducible exact Ext.refl _) | (with_reducible assumption) | (with_reducible refine Ext.alloc ?_ _) | (with_reducible refine Ext.drewN ?_ _) | (with_reducible refine Ext.drew ?_) | (with_reducible refine Ext.setCell ?_ ?_ _) | (with_reducible exact Nat.le_refl _) | (with_reducible exact Nat.le_succ _) | (with_reducible refine Ext.trans ?_ (by assumption)) | (simp; done) | (simp; omega))))))).mono ?_); rintro e w4 ⟨a4, c4, vs, rfl, hg4, hb4⟩; have x4 : Ext W w4 := Ext.trans (by (repeat' (first | (with_reducible exact Ext.refl _) | (with_reducible assumption) | (with_reducible refine Ext.alloc ?_ _) | (with_reducible refine Ext.drewN ?_ _) | (with_reducible refine Ext.drew ?_) | (with_reducible refine Ext.setCell ?_ ?_ _) | (with_reducible exact Nat.le_refl _) | (with_reducible exact Nat.le_succ _) | (with_reducible refine Ext.trans ?_ (by assumption)) | (simp; done) | (simp; omega)))) hb4; have HG4 := Lib.hid hg4; have k04 := x4.cell k0; have k14 := x4.cell k1; have f04 := (HR1.out.ext x4).frozen 0; have f14 := (HR1.out.ext x4).frozen 1; clear hg4
  refine hK.out _ _ ?_ (fun hH1 => ?_)
  · (try dsimp only)
    ((refine And.intro ?_ ?_) <;> (first | (with_reducible assumption) | exact (((HR0.out.ext x4).other (p := ⟨w.heap.size + 1, 0, none⟩) (by simp) (.bool u)).other (p := ⟨w.heap.size + 1, 1, none⟩) (by simp) (.slice a4 n c4)).cell rfl | exact (HR0.out.ext x4).cell rfl | exact (HR0.out.ext (Ext.refl _).drew).cell rfl))
  clear hK K hH0
  (try simp only [Act.put, List.setIfInBounds_toArray, List.set_cons_zero, List.set_cons_succ])
  refine take_l 5 (v := ?_) rfl (by kernel_rfl) (by kernel_rfl) (by kernel_rfl) (fun _ _ _ h => h) (by rfl) ?_ (by assumption) ?_
  rotate_left
  · (intro w hSw; (try dsimp only at hSw); go_simp; (try with_reducible rfl))
  (try simp only [Act.put, List.setIfInBounds_toArray, List.set_cons_zero, List.set_cons_succ])
  refine wpAnyH_ready (rs := [6]) (by kernel_rfl) (by simp) ?_
  refine cons_l (i := 6) rfl (fun K hK => ?_) ?_
  go_simp
  refine hK.out _ _ ?_ (fun hH2 => ?_)
  · (try dsimp only)
    ((refine And.intro ?_ ?_) <;> (first | (with_reducible assumption) | exact (((HR0.out.ext x4).other (p := ⟨w.heap.size + 1, 0, none⟩) (by simp) (.bool u)).other (p := ⟨w.heap.size + 1, 1, none⟩) (by simp) (.slice a4 n c4)).cell rfl | exact (HR0.out.ext x4).cell rfl | exact (HR0.out.ext (Ext.refl _).drew).cell rfl))
  clear hK K hH1
  (try simp only [Act.put, List.setIfInBounds_toArray, List.set_cons_zero, List.set_cons_succ])
  refine wpAnyH_done (by kernel_rfl) ?_ _
  rotate_left
  exact AllReadyH.nil
  exact AllReadyH.nil
  all_goals
    have zz := x4.size
    have hdz : W.drew.heap.size = W.heap.size := by simp
    have hdl : w.heap.size ≤ W.drew.heap.size := by rw [hdz, hWs]; omega
    have T1 := ((HR1.out.ext x4).set 0 (.bool u)).set 1 (.slice a4 n c4)
    have q0 : ((w4.setCell ⟨w.heap.size + 1, 0, none⟩ (.bool u)).setCell ⟨w.heap.size + 1, 1, none⟩ (.slice a4 n c4)).cell? ⟨w.heap.size + 1, 0, none⟩ = some (.bool u) := T1.cell rfl
    have q1 : ((w4.setCell ⟨w.heap.size + 1, 0, none⟩ (.bool u)).setCell ⟨w.heap.size + 1, 1, none⟩ (.slice a4 n c4)).cell? ⟨w.heap.size + 1, 1, none⟩ = some (.slice a4 n c4) := T1.cell rfl
    go_wp2
    refine bodyPost_ret (v := .agg #[.bool u, .slice a4 n c4]) (by simp [results, Try.results67, go_sem, *]) rfl ⟨a4, c4, rfl, ?_, ((HE0.out.trans x4).setCell (by dsimp only; omega) _).setCell (by dsimp only; omega) _⟩
    obtain ⟨a5, c5, e5, _, how⟩ := ((HG4.out.set (p := ⟨w.heap.size + 1, 0, none⟩) (.inl (by show w.heap.size + 1 < _; rw [hdz]; omega)) (.bool u)).set (p := ⟨w.heap.size + 1, 1, none⟩) (.inl (by show w.heap.size + 1 < _; rw [hdz]; omega)) (.slice a4 n c4)).own
    injection e5 with q5 _ _
    subst q5
    exact how.wide hdl (by first | exact Nat.le_refl _ | (simp only [size_setCell']; exact Nat.le_refl _))

set_option maxRecDepth 100000 in
set_option maxHeartbeats 2000000 in
theorem copyTrains_any (a : Option Addr) (n c : Nat) (ts : List Tn) (w : World) (hn : n = ts.length) (hs : n ≤ 1048576) (hts : ∀ t ∈ ts, SmallT t) (hf : TrainsAt w a ts) :
    Calls Try.prog 66 #[.slice a n c] w fun e w' => ∃ a' c' es, e = .returned (.slice a' n c') ∧ GT w' w.heap.size w'.heap.size (.slice a' n c') es ts ∧ Ext w w' := by
  have HF := Lib.hid hf; clear hf
  have HN := Lib.hid hn; clear hn
  have HR := Lib.hid hts; clear hts
  go_enter Try.func66, Try.ntmps66
  go_wp2
  go_loopw [3, 8] (fun v i wr => ∃ (k : Nat) (es : List (Bool × Value)) (done : List Tn), k ≤ n ∧ i = .int .i64 k ∧ Ext w wr ∧ Hid (done = ts.take k) ∧ Hid (GT wr w.heap.size wr.heap.size v es done)) (fun _ i _ => n - (intOf i).toNat)
  case atStart => exact ⟨0, [], [], Nat.zero_le _, rfl, by (repeat' (first | (with_reducible exact Ext.refl _) | (with_reducible assumption) | (with_reducible refine Ext.alloc ?_ _) | (with_reducible refine Ext.drewN ?_ _) | (with_reducible refine Ext.drew ?_) | (with_reducible refine Ext.setCell ?_ ?_ _) | (with_reducible exact Nat.le_refl _) | (with_reducible exact Nat.le_succ _) | (with_reducible refine Ext.trans ?_ (by assumption)) | (simp; done) | (simp; omega))), rfl, GT.nil _ _ _⟩
  case round =>
    obtain ⟨k, es, done, hk, rfl, hr, hdone, hgt⟩ := hrel
    by_cases hlt : k < n
    · have hlt' : k < ts.length := by rw [← HN.out]; exact hlt
      obtain ⟨b, off, a', c', rfl, hc0, hc1, hml, hfr⟩ := HF.out k hlt'
      have HRX := Lib.hid hr
      have e0 := HRX.out.cell hc0
      have e1 := HRX.out.cell hc1
      have HFR := Lib.hid (hfr.ext HRX.out); clear hfr hc0 hc1
      obtain ⟨g1, g2, g3⟩ := HR.out ts[k] (List.getElem_mem _)
      have HD := Lib.hid (show done ++ [ts[k]] = ts.take (k + 1) by rw [List.take_succ_eq_append_getElem hlt', hdone.out])
      have hdl : done.length = k := by rw [hdone.out, List.length_take]; omega
      have HDL := Lib.hid hdl
      obtain ⟨t, ht⟩ : ∃ t, ts[k] = t := ⟨_, rfl⟩
      rw [ht] at e0 e1 HFR HD g1 g2 hml
      clear ht hdone hdl g3
      obtain ⟨u, rows⟩ := t
      dsimp only at e0 e1 HFR HD g1 g2 hml
      obtain ⟨m, hm⟩ : ∃ m, m = rows.length := ⟨_, rfl⟩
      rw [← hm] at e1 g1 hml
      have HM := Lib.hid hm; clear hm
      have HG2 := Lib.hid g2; clear g2
      have HML := Lib.hid hml; clear hml
      have hsz := HRX.out.size
      go_wp2_with fail
      refine (copyTrain_any _ _ m _ rows _ HM.out g1 HG2.out (HFR.out.ext ((Ext.refl wr).alloc (.cells #[.bool u, .slice a' m c'] 36)))).mono ?_
      rintro e w1 ⟨ua, uc, rfl, hou, hb1⟩
      have HOU := Lib.hid hou
      have HX1 := Lib.hid (((Ext.refl wr).alloc (.cells #[.bool u, .slice a' m c'] 36)).trans hb1)
      have hs1 := hb1.size
      simp only [World.size_alloc] at hs1 hou HOU
      have HX2 := Lib.hid (HX1.out.trans ((Ext.refl w1).alloc (.cells #[.bool u, .slice ua m uc] 36)))
      have HX3 := Lib.hid ((Ext.refl w1).alloc (.cells #[.bool u, .slice ua m uc] 36))
      have YG := Lib.hid (hgt.out.ext HX2.out)
      have HOW := Lib.hid YG.out.2.1
      rw [HDL.out] at HOW
      have HOT := Lib.hid (one_trainC w1 u (.slice ua m uc))
      have HVL := Lib.hid (show ∀ g, Value.ownBlock _ = some g → w.heap.size ≤ g from fun g hg => (ownsRow_lt HOW.out hg).1)
      clear hou hb1
      go_wp2_with (at_builtin; refine wpList_plain rfl fun K hK => wp_append_trains _ _ rfl (w.heap.size) _ k es rfl HOW.out _ 1 1 rfl [(u, .slice ua m uc)] rfl (fun h => by cases h) HOT.out (fun e he => by cases List.mem_singleton.1 he; rfl) (by omega) (by simp; omega) ?_)
      intro v' w5 hown5 hgrow5 hat5
      have hs5 := hgrow5.size
      simp only [World.size_alloc] at hs5
      have HG5 := Lib.hid (GT.push (P := wr.heap.size + 1) (Q := w1.heap.size) (u := u) (rows := rows) (a' := ua) (c := uc) YG.out (by omega) (by omega) (by simp) (HOU.out.ext HX3.out) (by rw [← HM.out]; exact HML.out) (by rw [← HM.out, HDL.out, List.flatMap_append]; simpa using hown5) hgrow5 (by simpa using hat5) (by simp; omega))
      rw [HD.out] at HG5
      have hx5 : Ext w w5 := Ext.own2 (hr.trans HX2.out) hgrow5 HOW.out (Nat.le_refl _)
      clear hown5 hgrow5 hat5 HOT HOW YG
      refine hK _ _ ?_
      clear hK K
      go_wp2
      go_roundw
      case rel => exact ⟨k + 1, _, _, by omega, by go_num, hx5, rfl, HG5.out⟩
      case measure => simp [intOf]; omega
    · have hkn : k = n := by omega
      have HD : done = ts := by rw [hdone.out, hkn, HN.out, List.take_length]
      clear hdone
      obtain ⟨a9, c9, rfl, _, _⟩ := hgt.out.own
      have HG := Lib.hid hgt.out
      rw [HD, ← HN.out] at HG
      have hnn := Lib.hid (show done.length = n by rw [HD, HN.out])
      clear HD
      go_wp2
      go_ret
      exact ⟨a9, c9, es, by (show Ending.returned (Value.slice a9 done.length c9) = _); rw [hnn.out], HG.out, hr⟩

set_option maxRecDepth 100000 in
set_option maxHeartbeats 2000000 in
theorem copyLock_any (x0 x1 x2 x3 x4 x5 x6 x7 x8 : Int) (a : Option Addr) (n c : Nat) (ts : List Tn) (w : World) (hn : n = ts.length) (hs : n ≤ 1048576) (hts : ∀ t ∈ ts, SmallT t) (hf : TrainsAt w a ts) :
    Calls Try.prog 63 #[.agg #[.int .i64 x0, .int .i64 x1, .int .i64 x2, .int .i64 x3, .int .i64 x4, .int .i64 x5, .int .i64 x6, .int .i64 x7, .int .i64 x8, .slice a n c]] w fun e w' => ∃ a' c' es, e = .returned (.agg #[.int .i64 x0, .int .i64 x1, .int .i64 x2, .int .i64 x3, .int .i64 x4, .int .i64 x5, .int .i64 x6, .int .i64 x7, .int .i64 x8, .slice a' n c']) ∧ GT w' w.heap.size w'.heap.size (.slice a' n c') es ts ∧ Ext w w' := by
  have HF := Lib.hid hf; clear hf
  have HN := Lib.hid hn; clear hn
  have HR := Lib.hid hts; clear hts
  have R0 := (RowAt.new w 33 #[.int .i64 x0, .int .i64 x1, .int .i64 x2, .int .i64 x3, .int .i64 x4, .int .i64 x5, .int .i64 x6, .int .i64 x7, .int .i64 x8, .slice a n c]).ext ((Ext.refl _).alloc (.cells #[.int .i64 0, .int .i64 0, .int .i64 0, .int .i64 0, .int .i64 0, .int .i64 0, .int .i64 0, .int .i64 0, .int .i64 0, .slice none 0 0] 33))
  have R1 := RowAt.new (w.alloc (.cells #[.int .i64 x0, .int .i64 x1, .int .i64 x2, .int .i64 x3, .int .i64 x4, .int .i64 x5, .int .i64 x6, .int .i64 x7, .int .i64 x8, .slice a n c] 33)) 33 #[.int .i64 0, .int .i64 0, .int .i64 0, .int .i64 0, .int .i64 0, .int .i64 0, .int .i64 0, .int .i64 0, .int .i64 0, .slice none 0 0]
  rw [World.size_alloc] at R1
  have HR0 := Lib.hid R0
  have HR1 := Lib.hid R1
  have HE0 := Lib.hid (((Ext.refl w).alloc (.cells #[.int .i64 x0, .int .i64 x1, .int .i64 x2, .int .i64 x3, .int .i64 x4, .int .i64 x5, .int .i64 x6, .int .i64 x7, .int .i64 x8, .slice a n c] 33)).alloc (.cells #[.int .i64 0, .int .i64 0, .int .i64 0, .int .i64 0, .int .i64 0, .int .i64 0, .int .i64 0, .int .i64 0, .int .i64 0, .slice none 0 0] 33))
  clear R0 R1
  go_enter Try.func63, Try.ntmps63
  go_wp2_with fail
  refine (copyTrains_any _ _ _ ts _ HN.out hs HR.out (HF.out.ext HE0.out)).mono ?_
  rintro e w1 ⟨a1, c1, es, rfl, hg1, hb1⟩
  have z1 := hb1.size
  simp only [World.size_alloc] at z1 hg1
  have HG1 := Lib.hid hg1
  have S0 := HR0.out.ext hb1
  have S1 := Lib.hid (HR1.out.ext hb1)
  have HE1 := Lib.hid (HE0.out.trans hb1)
  have c9 : w1.cell? ⟨w.heap.size, 9, none⟩ = some (.slice a n c) := S0.cell rfl
  have f9 := S0.frozen 9
  have S2 := S0.set 9 (.slice a1 n c1)
  have S3 := S1.out.other (p := ⟨w.heap.size, 9, none⟩) (by simp) (.slice a1 n c1)
  have p0 : (w1.setCell ⟨w.heap.size, 9, none⟩ (.slice a1 n c1)).cell? ⟨w.heap.size, 0, none⟩ = some (.int .i64 x0) := S2.cell rfl
  have p1 : (w1.setCell ⟨w.heap.size, 9, none⟩ (.slice a1 n c1)).cell? ⟨w.heap.size, 1, none⟩ = some (.int .i64 x1) := S2.cell rfl
  have p2 : (w1.setCell ⟨w.heap.size, 9, none⟩ (.slice a1 n c1)).cell? ⟨w.heap.size, 2, none⟩ = some (.int .i64 x2) := S2.cell rfl
  have p3 : (w1.setCell ⟨w.heap.size, 9, none⟩ (.slice a1 n c1)).cell? ⟨w.heap.size, 3, none⟩ = some (.int .i64 x3) := S2.cell rfl
  have p4 : (w1.setCell ⟨w.heap.size, 9, none⟩ (.slice a1 n c1)).cell? ⟨w.heap.size, 4, none⟩ = some (.int .i64 x4) := S2.cell rfl
  have p5 : (w1.setCell ⟨w.heap.size, 9, none⟩ (.slice a1 n c1)).cell? ⟨w.heap.size, 5, none⟩ = some (.int .i64 x5) := S2.cell rfl
  have p6 : (w1.setCell ⟨w.heap.size, 9, none⟩ (.slice a1 n c1)).cell? ⟨w.heap.size, 6, none⟩ = some (.int .i64 x6) := S2.cell rfl
  have p7 : (w1.setCell ⟨w.heap.size, 9, none⟩ (.slice a1 n c1)).cell? ⟨w.heap.size, 7, none⟩ = some (.int .i64 x7) := S2.cell rfl
  have p8 : (w1.setCell ⟨w.heap.size, 9, none⟩ (.slice a1 n c1)).cell? ⟨w.heap.size, 8, none⟩ = some (.int .i64 x8) := S2.cell rfl
  have p9 : (w1.setCell ⟨w.heap.size, 9, none⟩ (.slice a1 n c1)).cell? ⟨w.heap.size, 9, none⟩ = some (.slice a1 n c1) := S2.cell rfl
  have r0 : (w1.setCell ⟨w.heap.size, 9, none⟩ (.slice a1 n c1)).cell? ⟨w.heap.size + 1, 0, none⟩ = some (.int .i64 0) := S3.cell rfl
  have g0 := S3.frozen 0
  have r1 : (w1.setCell ⟨w.heap.size, 9, none⟩ (.slice a1 n c1)).cell? ⟨w.heap.size + 1, 1, none⟩ = some (.int .i64 0) := S3.cell rfl
  have g1 := S3.frozen 1
  have r2 : (w1.setCell ⟨w.heap.size, 9, none⟩ (.slice a1 n c1)).cell? ⟨w.heap.size + 1, 2, none⟩ = some (.int .i64 0) := S3.cell rfl
  have g2 := S3.frozen 2
  have r3 : (w1.setCell ⟨w.heap.size, 9, none⟩ (.slice a1 n c1)).cell? ⟨w.heap.size + 1, 3, none⟩ = some (.int .i64 0) := S3.cell rfl
  have g3 := S3.frozen 3
  have r4 : (w1.setCell ⟨w.heap.size, 9, none⟩ (.slice a1 n c1)).cell? ⟨w.heap.size + 1, 4, none⟩ = some (.int .i64 0) := S3.cell rfl
  have g4 := S3.frozen 4
  have r5 : (w1.setCell ⟨w.heap.size, 9, none⟩ (.slice a1 n c1)).cell? ⟨w.heap.size + 1, 5, none⟩ = some (.int .i64 0) := S3.cell rfl
  have g5 := S3.frozen 5
  have r6 : (w1.setCell ⟨w.heap.size, 9, none⟩ (.slice a1 n c1)).cell? ⟨w.heap.size + 1, 6, none⟩ = some (.int .i64 0) := S3.cell rfl
  have g6 := S3.frozen 6
  have r7 : (w1.setCell ⟨w.heap.size, 9, none⟩ (.slice a1 n c1)).cell? ⟨w.heap.size + 1, 7, none⟩ = some (.int .i64 0) := S3.cell rfl
  have g7 := S3.frozen 7
  have r8 : (w1.setCell ⟨w.heap.size, 9, none⟩ (.slice a1 n c1)).cell? ⟨w.heap.size + 1, 8, none⟩ = some (.int .i64 0) := S3.cell rfl
  have g8 := S3.frozen 8
  have r9 : (w1.setCell ⟨w.heap.size, 9, none⟩ (.slice a1 n c1)).cell? ⟨w.heap.size + 1, 9, none⟩ = some (.slice none 0 0) := S3.cell rfl
  have g9 := S3.frozen 9
  have HE2 := Lib.hid (HE1.out.setCell (p := ⟨w.heap.size, 9, none⟩) (by simp) (.slice a1 n c1))
  clear hg1 hb1 S0 S2 S3
  go_wp2
  refine bodyPost_ret (v := .agg #[.int .i64 x0, .int .i64 x1, .int .i64 x2, .int .i64 x3, .int .i64 x4, .int .i64 x5, .int .i64 x6, .int .i64 x7, .int .i64 x8, .slice a1 n c1]) (by simp [results, Try.results63, go_sem, *]) rfl ⟨a1, c1, es, rfl, ?_, ?_⟩
  · exact (((((((((((HG1.out.set (p := ⟨w.heap.size, 9, none⟩) (.inl (by dsimp only; omega)) _).set (p := ⟨w.heap.size + 1, 0, none⟩) (.inl (by dsimp only; omega)) _).set (p := ⟨w.heap.size + 1, 1, none⟩) (.inl (by dsimp only; omega)) _).set (p := ⟨w.heap.size + 1, 2, none⟩) (.inl (by dsimp only; omega)) _).set (p := ⟨w.heap.size + 1, 3, none⟩) (.inl (by dsimp only; omega)) _).set (p := ⟨w.heap.size + 1, 4, none⟩) (.inl (by dsimp only; omega)) _).set (p := ⟨w.heap.size + 1, 5, none⟩) (.inl (by dsimp only; omega)) _).set (p := ⟨w.heap.size + 1, 6, none⟩) (.inl (by dsimp only; omega)) _).set (p := ⟨w.heap.size + 1, 7, none⟩) (.inl (by dsimp only; omega)) _).set (p := ⟨w.heap.size + 1, 8, none⟩) (.inl (by dsimp only; omega)) _).set (p := ⟨w.heap.size + 1, 9, none⟩) (.inl (by dsimp only; omega)) _).wide (by omega) (by simp only [size_setCell']; exact Nat.le_refl _)
  · exact ((((((((((HE2.out.setCell (p := ⟨w.heap.size + 1, 0, none⟩) (by dsimp only; omega) _).setCell (p := ⟨w.heap.size + 1, 1, none⟩) (by dsimp only; omega) _).setCell (p := ⟨w.heap.size + 1, 2, none⟩) (by dsimp only; omega) _).setCell (p := ⟨w.heap.size + 1, 3, none⟩) (by dsimp only; omega) _).setCell (p := ⟨w.heap.size + 1, 4, none⟩) (by dsimp only; omega) _).setCell (p := ⟨w.heap.size + 1, 5, none⟩) (by dsimp only; omega) _).setCell (p := ⟨w.heap.size + 1, 6, none⟩) (by dsimp only; omega) _).setCell (p := ⟨w.heap.size + 1, 7, none⟩) (by dsimp only; omega) _).setCell (p := ⟨w.heap.size + 1, 8, none⟩) (by dsimp only; omega) _).setCell (p := ⟨w.heap.size + 1, 9, none⟩) (by dsimp only; omega) _)

set_option maxRecDepth 100000 in
set_option maxHeartbeats 4000000 in
theorem l05Copy_any (x0 x1 x2 x3 x4 x5 x6 x7 x8 : Int) (a : Option Addr) (n c : Nat) (ts : List Tn) (w : World) (hn : n = ts.length) (hs : n ≤ 1048576) (hts : ∀ t ∈ ts, SmallT t) (hf : TrainsAt w a ts) :
    Calls Try.prog 57 #[.agg #[.int .i64 x0, .int .i64 x1, .int .i64 x2, .int .i64 x3, .int .i64 x4, .int .i64 x5, .int .i64 x6, .int .i64 x7, .int .i64 x8, .slice a n c]] w fun e w' => ∃ a' c' es, e = .returned (.agg #[.int .i64 x0, .int .i64 x1, .int .i64 x2, .int .i64 x3, .int .i64 x4, .int .i64 x5, .int .i64 x6, .int .i64 x7, .int .i64 x8, .slice a' n c']) ∧ GT w' w.heap.size w'.heap.size (.slice a' n c') es ts ∧ Ext w w' := by
  have HF := Lib.hid hf; clear hf
  have HN := Lib.hid hn; clear hn
  have HR := Lib.hid hts; clear hts
  have R0 := (RowAt.new w 33 #[.int .i64 x0, .int .i64 x1, .int .i64 x2, .int .i64 x3, .int .i64 x4, .int .i64 x5, .int .i64 x6, .int .i64 x7, .int .i64 x8, .slice a n c]).ext (((Ext.refl _).alloc (.cells #[.int .i64 0, .int .i64 0, .int .i64 0, .int .i64 0, .int .i64 0, .int .i64 0, .int .i64 0, .int .i64 0, .int .i64 0, .slice none 0 0] 33)).alloc (.cells #[] 36))
  have R1 := (RowAt.new (w.alloc (.cells #[.int .i64 x0, .int .i64 x1, .int .i64 x2, .int .i64 x3, .int .i64 x4, .int .i64 x5, .int .i64 x6, .int .i64 x7, .int .i64 x8, .slice a n c] 33)) 33 #[.int .i64 0, .int .i64 0, .int .i64 0, .int .i64 0, .int .i64 0, .int .i64 0, .int .i64 0, .int .i64 0, .int .i64 0, .slice none 0 0]).ext ((Ext.refl _).alloc (.cells #[] 36))
  rw [World.size_alloc] at R1
  have HR0 := Lib.hid R0
  have HR1 := Lib.hid R1
  have HE0 := Lib.hid ((((Ext.refl w).alloc (.cells #[.int .i64 x0, .int .i64 x1, .int .i64 x2, .int .i64 x3, .int .i64 x4, .int .i64 x5, .int .i64 x6, .int .i64 x7, .int .i64 x8, .slice a n c] 33)).alloc (.cells #[.int .i64 0, .int .i64 0, .int .i64 0, .int .i64 0, .int .i64 0, .int .i64 0, .int .i64 0, .int .i64 0, .int .i64 0, .slice none 0 0] 33)).alloc (.cells #[] 36))
  have HG0 := Lib.hid (show GT (((w.alloc (.cells #[.int .i64 x0, .int .i64 x1, .int .i64 x2, .int .i64 x3, .int .i64 x4, .int .i64 x5, .int .i64 x6, .int .i64 x7, .int .i64 x8, .slice a n c] 33)).alloc (.cells #[.int .i64 0, .int .i64 0, .int .i64 0, .int .i64 0, .int .i64 0, .int .i64 0, .int .i64 0, .int .i64 0, .int .i64 0, .slice none 0 0] 33)).alloc (.cells #[] 36)) (w.heap.size + 1 + 1) (w.heap.size + 1 + 1 + 1) (.slice (some ⟨w.heap.size + 1 + 1, 0, none⟩) 0 0) [] [] from by
    have h := GT.lit ((w.alloc (.cells #[.int .i64 x0, .int .i64 x1, .int .i64 x2, .int .i64 x3, .int .i64 x4, .int .i64 x5, .int .i64 x6, .int .i64 x7, .int .i64 x8, .slice a n c] 33)).alloc (.cells #[.int .i64 0, .int .i64 0, .int .i64 0, .int .i64 0, .int .i64 0, .int .i64 0, .int .i64 0, .int .i64 0, .int .i64 0, .slice none 0 0] 33)) (Nat.lt_succ_self _)
    simp only [World.size_alloc] at h
    exact h)
  clear R0 R1
  go_enter Try.func57, Try.ntmps57
  go_wp2
  go_loopw [3, 4] (fun v i wr => ∃ (k : Nat) (es : List (Bool × Value)) (done : List Tn), k ≤ n ∧ i = .int .i64 k ∧ Hid (Ext w wr) ∧ Hid (RowAt wr w.heap.size 33 #[.int .i64 x0, .int .i64 x1, .int .i64 x2, .int .i64 x3, .int .i64 x4, .int .i64 x5, .int .i64 x6, .int .i64 x7, .int .i64 x8, .slice a n c]) ∧ Hid (RowAt wr (w.heap.size + 1) 33 #[.int .i64 0, .int .i64 0, .int .i64 0, .int .i64 0, .int .i64 0, .int .i64 0, .int .i64 0, .int .i64 0, .int .i64 0, .slice none 0 0]) ∧ w.heap.size + 1 + 1 < wr.heap.size ∧ Hid (done = ts.take k) ∧ Hid (GT wr (w.heap.size + 1 + 1) wr.heap.size v es done)) (fun _ i _ => n - (intOf i).toNat)
  case atStart => exact ⟨0, [], [], Nat.zero_le _, rfl, HE0.out, HR0.out, HR1.out, by simp, rfl, HG0.out.wide (Nat.le_refl _) (by simp)⟩
  case round =>
    clear HE0 HR0 HR1 HG0
    obtain ⟨k, es, done, hk, rfl, hr, hr0, hr1, hzz, hdone, hgt⟩ := hrel
    have t9 : wr.cell? ⟨w.heap.size, 9, none⟩ = some (.slice a n c) := hr0.out.cell rfl
    by_cases hlt : k < n
    · have hlt' : k < ts.length := by rw [← HN.out]; exact hlt
      obtain ⟨b, off, a', c', rfl, hc0, hc1, hml, hfr⟩ := HF.out k hlt'
      have HRX := Lib.hid hr.out
      have e0 := HRX.out.cell hc0
      have e1 := HRX.out.cell hc1
      have HFR := Lib.hid (hfr.ext HRX.out); clear hfr hc0 hc1
      obtain ⟨g1, g2, g3⟩ := HR.out ts[k] (List.getElem_mem _)
      have HD := Lib.hid (show done ++ [ts[k]] = ts.take (k + 1) by rw [List.take_succ_eq_append_getElem hlt', hdone.out])
      have hdl : done.length = k := by rw [hdone.out, List.length_take]; omega
      have HDL := Lib.hid hdl
      obtain ⟨t, ht⟩ : ∃ t, ts[k] = t := ⟨_, rfl⟩
      rw [ht] at e0 e1 HFR HD g1 g2 hml
      clear ht hdone hdl g3
      obtain ⟨u, rows⟩ := t
      dsimp only at e0 e1 HFR HD g1 g2 hml
      obtain ⟨m, hm⟩ : ∃ m, m = rows.length := ⟨_, rfl⟩
      rw [← hm] at e1 g1 hml
      have HM := Lib.hid hm; clear hm
      have HG2 := Lib.hid g2; clear g2
      have HML := Lib.hid hml; clear hml
      have hsz := HRX.out.size
      go_wp2_with fail
      refine (l04Copy_any _ _ m _ rows _ HM.out g1 HG2.out HFR.out).mono ?_
      rintro e w1 ⟨ua, uc, vs, rfl, hgr, hb1⟩
      obtain ⟨q1, q2, q3, _, hou⟩ := hgr.own
      injection q3 with q4 q5 q6
      subst q4
      clear hgr q5 q6
      have HOU := Lib.hid hou
      have HX1 := Lib.hid (hb1)
      have hs1 := hb1.size
      skip
      have HX2 := Lib.hid (HX1.out.trans ((Ext.refl w1).alloc (.cells #[.bool u, .slice ua m uc] 36)))
      have HX3 := Lib.hid ((Ext.refl w1).alloc (.cells #[.bool u, .slice ua m uc] 36))
      have YG := Lib.hid (hgt.out.ext HX2.out)
      have HOW := Lib.hid YG.out.2.1
      rw [HDL.out] at HOW
      have HOT := Lib.hid (one_trainC w1 u (.slice ua m uc))
      have HVL := Lib.hid (show ∀ g, Value.ownBlock _ = some g → w.heap.size + 1 + 1 ≤ g from fun g hg => (ownsRow_lt HOW.out hg).1)
      clear hou hb1
      go_wp2_with (at_builtin; refine wpList_plain rfl fun K hK => wp_append_trains _ _ rfl (w.heap.size + 1 + 1) _ k es rfl HOW.out _ 1 1 rfl [(u, .slice ua m uc)] rfl (fun h => by cases h) HOT.out (fun e he => by cases List.mem_singleton.1 he; rfl) (by omega) (by simp; omega) ?_)
      intro v' w5 hown5 hgrow5 hat5
      have hs5 := hgrow5.size
      simp only [World.size_alloc] at hs5
      have HG5 := Lib.hid (GT.push (P := wr.heap.size) (Q := w1.heap.size) (u := u) (rows := rows) (a' := ua) (c := uc) YG.out (Nat.le_refl _) (by omega) (by simp) (HOU.out.ext HX3.out) (by rw [← HM.out]; exact HML.out) (by rw [← HM.out, HDL.out, List.flatMap_append]; simpa using hown5) hgrow5 (by simpa using hat5) (by simp; omega))
      rw [HD.out] at HG5
      have hx5 := Lib.hid (Ext.own2 (hr.out.trans HX2.out) hgrow5 HOW.out (by omega))
      have k0 := Lib.hid ((hr0.out.ext HX2.out).kept hgrow5 (fun e => by have := HVL.out _ e; omega))
      have k1 := Lib.hid ((hr1.out.ext HX2.out).kept hgrow5 (fun e => by have := HVL.out _ e; omega))
      clear hown5 hgrow5 hat5 HOT HOW YG
      refine hK _ _ ?_
      clear hK K
      go_wp2
      go_roundw
      case rel => exact ⟨k + 1, _, _, by omega, by go_num, hx5.out, k0.out, k1.out, by omega, rfl, HG5.out⟩
      case measure => simp [intOf]; omega
    · have hkn : k = n := by omega
      have HD : done = ts := by rw [hdone.out, hkn, HN.out, List.take_length]
      clear hdone
      obtain ⟨a1, c1, rfl, _, _⟩ := hgt.out.own
      have HG1 := Lib.hid hgt.out
      have hnn : done.length = n := by rw [HD, HN.out]
      rw [HD, ← HN.out] at HG1
      have f9 := hr0.out.frozen 9
      have S2 := hr0.out.set 9 (.slice a1 n c1)
      have S3 := hr1.out.other (p := ⟨w.heap.size, 9, none⟩) (by simp) (.slice a1 n c1)
      rw [hnn]
      have p0 : (wr.setCell ⟨w.heap.size, 9, none⟩ (.slice a1 n c1)).cell? ⟨w.heap.size, 0, none⟩ = some (.int .i64 x0) := S2.cell rfl
      have p1 : (wr.setCell ⟨w.heap.size, 9, none⟩ (.slice a1 n c1)).cell? ⟨w.heap.size, 1, none⟩ = some (.int .i64 x1) := S2.cell rfl
      have p2 : (wr.setCell ⟨w.heap.size, 9, none⟩ (.slice a1 n c1)).cell? ⟨w.heap.size, 2, none⟩ = some (.int .i64 x2) := S2.cell rfl
      have p3 : (wr.setCell ⟨w.heap.size, 9, none⟩ (.slice a1 n c1)).cell? ⟨w.heap.size, 3, none⟩ = some (.int .i64 x3) := S2.cell rfl
      have p4 : (wr.setCell ⟨w.heap.size, 9, none⟩ (.slice a1 n c1)).cell? ⟨w.heap.size, 4, none⟩ = some (.int .i64 x4) := S2.cell rfl
      have p5 : (wr.setCell ⟨w.heap.size, 9, none⟩ (.slice a1 n c1)).cell? ⟨w.heap.size, 5, none⟩ = some (.int .i64 x5) := S2.cell rfl
      have p6 : (wr.setCell ⟨w.heap.size, 9, none⟩ (.slice a1 n c1)).cell? ⟨w.heap.size, 6, none⟩ = some (.int .i64 x6) := S2.cell rfl
      have p7 : (wr.setCell ⟨w.heap.size, 9, none⟩ (.slice a1 n c1)).cell? ⟨w.heap.size, 7, none⟩ = some (.int .i64 x7) := S2.cell rfl
      have p8 : (wr.setCell ⟨w.heap.size, 9, none⟩ (.slice a1 n c1)).cell? ⟨w.heap.size, 8, none⟩ = some (.int .i64 x8) := S2.cell rfl
      have p9 : (wr.setCell ⟨w.heap.size, 9, none⟩ (.slice a1 n c1)).cell? ⟨w.heap.size, 9, none⟩ = some (.slice a1 n c1) := S2.cell rfl
      have r0 : (wr.setCell ⟨w.heap.size, 9, none⟩ (.slice a1 n c1)).cell? ⟨w.heap.size + 1, 0, none⟩ = some (.int .i64 0) := S3.cell rfl
      have g0 := S3.frozen 0
      have r1 : (wr.setCell ⟨w.heap.size, 9, none⟩ (.slice a1 n c1)).cell? ⟨w.heap.size + 1, 1, none⟩ = some (.int .i64 0) := S3.cell rfl
      have g1 := S3.frozen 1
      have r2 : (wr.setCell ⟨w.heap.size, 9, none⟩ (.slice a1 n c1)).cell? ⟨w.heap.size + 1, 2, none⟩ = some (.int .i64 0) := S3.cell rfl
      have g2 := S3.frozen 2
      have r3 : (wr.setCell ⟨w.heap.size, 9, none⟩ (.slice a1 n c1)).cell? ⟨w.heap.size + 1, 3, none⟩ = some (.int .i64 0) := S3.cell rfl
      have g3 := S3.frozen 3
      have r4 : (wr.setCell ⟨w.heap.size, 9, none⟩ (.slice a1 n c1)).cell? ⟨w.heap.size + 1, 4, none⟩ = some (.int .i64 0) := S3.cell rfl
      have g4 := S3.frozen 4
      have r5 : (wr.setCell ⟨w.heap.size, 9, none⟩ (.slice a1 n c1)).cell? ⟨w.heap.size + 1, 5, none⟩ = some (.int .i64 0) := S3.cell rfl
      have g5 := S3.frozen 5
      have r6 : (wr.setCell ⟨w.heap.size, 9, none⟩ (.slice a1 n c1)).cell? ⟨w.heap.size + 1, 6, none⟩ = some (.int .i64 0) := S3.cell rfl
      have g6 := S3.frozen 6
      have r7 : (wr.setCell ⟨w.heap.size, 9, none⟩ (.slice a1 n c1)).cell? ⟨w.heap.size + 1, 7, none⟩ = some (.int .i64 0) := S3.cell rfl
      have g7 := S3.frozen 7
      have r8 : (wr.setCell ⟨w.heap.size, 9, none⟩ (.slice a1 n c1)).cell? ⟨w.heap.size + 1, 8, none⟩ = some (.int .i64 0) := S3.cell rfl
      have g8 := S3.frozen 8
      have r9 : (wr.setCell ⟨w.heap.size, 9, none⟩ (.slice a1 n c1)).cell? ⟨w.heap.size + 1, 9, none⟩ = some (.slice none 0 0) := S3.cell rfl
      have g9 := S3.frozen 9
      have HE2 := Lib.hid (hr.out.setCell (p := ⟨w.heap.size, 9, none⟩) (by simp) (.slice a1 n c1))
      clear S2 S3 HD hnn
      go_wp2
      refine bodyPost_ret (v := .agg #[.int .i64 x0, .int .i64 x1, .int .i64 x2, .int .i64 x3, .int .i64 x4, .int .i64 x5, .int .i64 x6, .int .i64 x7, .int .i64 x8, .slice a1 n c1]) (by simp [results, Try.results57, go_sem, *]) rfl ⟨a1, c1, es, rfl, ?_, ?_⟩
      · exact (((((((((((HG1.out.set (p := ⟨w.heap.size, 9, none⟩) (.inl (by dsimp only; omega)) _).set (p := ⟨w.heap.size + 1, 0, none⟩) (.inl (by dsimp only; omega)) _).set (p := ⟨w.heap.size + 1, 1, none⟩) (.inl (by dsimp only; omega)) _).set (p := ⟨w.heap.size + 1, 2, none⟩) (.inl (by dsimp only; omega)) _).set (p := ⟨w.heap.size + 1, 3, none⟩) (.inl (by dsimp only; omega)) _).set (p := ⟨w.heap.size + 1, 4, none⟩) (.inl (by dsimp only; omega)) _).set (p := ⟨w.heap.size + 1, 5, none⟩) (.inl (by dsimp only; omega)) _).set (p := ⟨w.heap.size + 1, 6, none⟩) (.inl (by dsimp only; omega)) _).set (p := ⟨w.heap.size + 1, 7, none⟩) (.inl (by dsimp only; omega)) _).set (p := ⟨w.heap.size + 1, 8, none⟩) (.inl (by dsimp only; omega)) _).set (p := ⟨w.heap.size + 1, 9, none⟩) (.inl (by dsimp only; omega)) _).wide (by omega) (by simp only [size_setCell']; exact Nat.le_refl _)
      · exact ((((((((((HE2.out.setCell (p := ⟨w.heap.size + 1, 0, none⟩) (by dsimp only; omega) _).setCell (p := ⟨w.heap.size + 1, 1, none⟩) (by dsimp only; omega) _).setCell (p := ⟨w.heap.size + 1, 2, none⟩) (by dsimp only; omega) _).setCell (p := ⟨w.heap.size + 1, 3, none⟩) (by dsimp only; omega) _).setCell (p := ⟨w.heap.size + 1, 4, none⟩) (by dsimp only; omega) _).setCell (p := ⟨w.heap.size + 1, 5, none⟩) (by dsimp only; omega) _).setCell (p := ⟨w.heap.size + 1, 6, none⟩) (by dsimp only; omega) _).setCell (p := ⟨w.heap.size + 1, 7, none⟩) (by dsimp only; omega) _).setCell (p := ⟨w.heap.size + 1, 8, none⟩) (by dsimp only; omega) _).setCell (p := ⟨w.heap.size + 1, 9, none⟩) (by dsimp only; omega) _)
end Go.Proofs.Ytooedgaaaoinbaa

