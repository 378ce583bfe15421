/- ComesBefore: what it computes, on both sides. -/
import Derived.Test.YtjjikcjhnglkaaaProg
import Derived.Test.YtjjikcjhnglkaaaRank
import Derived.Test.YtjjikcjhnglkaaaIds
import Derived.Test.YtjjikcjhnglkaaaReg
namespace Go.Proofs.Ytjjikcjhnglkaaa
open Go.RowKit
set_option linter.unusedSimpArgs false
set_option linter.unusedVariables false

def firstId (rows : List (List Bt)) : Int := (idsOf rows).headD 0
def comesBefore (ra rb : List (List Bt)) (sa ba sb bb now : Int) : Bool :=
  if rankOf ra sa ba now = 3 ∨ rankOf rb sb bb now = 3 then false
  else if rankOf ra sa ba now ≠ rankOf rb sb bb now then decide (rankOf ra sa ba now < rankOf rb sb bb now)
  else if rankOf ra sa ba now = -1 ∧ ba ≠ bb then decide (ba < bb)
  else if sa ≠ sb then decide (sa < sb)
  else decide (firstId ra < firstId rb)
theorem rank_ok {rows : List (List Bt)} {si bo now : Int} (h : rankOf rows si bo now ≠ 3) : trainOk rows = true := by
  unfold rankOf at h
  split at h
  · rename_i h1
    have := h1.1
    unfold callOk at this
    rw [Bool.and_eq_true, Bool.and_eq_true] at this
    exact this.1.1
  · exact absurd rfl h
theorem ids_head {rows : List (List Bt)} (h : trainOk rows = true) : ∃ t, idsOf rows = firstId rows :: t := by
  obtain ⟨b0, r, rs, hr⟩ := trainOk_head h
  have hi : idsOf rows = rows.flatten.map Bt.id := by rw [idsOf, h]; rfl
  unfold firstId
  rw [hi, hr]
  exact ⟨_, rfl⟩
/-- IdsOf of a valid train: a list whose first element reads. -/
theorem OwnInts.first {w : World} {base : Nat} {v : Value} {rows : List (List Bt)} (hok : trainOk rows = true) (h : OwnInts w base v (idsOf rows)) :
    ∃ b off k c, v = .slice (some ⟨b, off, none⟩) (k + 1) c ∧ w.cell? ⟨b, off, none⟩ = some (.int .i64 (firstId rows)) := by
  obtain ⟨t, ht⟩ := ids_head hok
  obtain ⟨a, c, rfl, hi, _⟩ := h.read
  rw [ht] at hi ⊢
  obtain ⟨b, off, e, hc⟩ := hi 0 (by simp)
  subst e
  exact ⟨b, off, t.length, c, rfl, by simpa using hc⟩

theorem implIdsOf_first (u : Bool) (a : Option Addr) (n c : Nat) (rows : List (List Bt)) (w : World) (hok : trainOk rows = true) (hn : n = rows.length) (hs : n ≤ 1048576) (ht : rows.flatten.length ≤ 1048576) (hf : RowsAt w a rows) :
    Calls Try.prog 16 #[.agg #[.bool u, .slice a n c]] w fun e w' => ∃ b off k c, e = .returned (.slice (some ⟨b, off, none⟩) (k + 1) c) ∧ w'.cell? ⟨b, off, none⟩ = some (.int .i64 (firstId rows)) ∧ Ext w w' :=
  (implIdsOf_any u a n c rows w hn hs ht hf).mono fun e w' ⟨v, he, ho, hx⟩ => by
    obtain ⟨b, off, k, c, rfl, hc⟩ := ho.first hok
    exact ⟨b, off, k, c, he, hc, hx⟩
theorem implRankOf_is (x : Int) (u : Bool) (a : Option Addr) (n c : Nat) (si bo now : Int) (rows : List (List Bt)) (w : World) (hn : n = rows.length) (hs : n ≤ 1048576) (ht : rows.flatten.length ≤ 1048576) (hf : RowsAt w a rows) (hx : rankOf rows si bo now = x) :
    Calls Try.prog 13 #[.agg #[.bool u, .slice a n c, .int .i64 si, .int .i64 bo], .int .i64 now] w fun e w' => e = .returned (.int .i64 x) ∧ Ext w w' := by
  subst hx
  exact implRankOf_any u a n c si bo now rows w hn hs ht hf
set_option maxRecDepth 100000 in
set_option maxHeartbeats 4000000 in
theorem implComesBefore_any (ua ub : Bool) (aa ab : Option Addr) (na ca nb cb : Nat) (sa ba sb bb now : Int) (ra rb : List (List Bt)) (w : World) (hna : na = ra.length) (hsa : na ≤ 1048576) (hta : ra.flatten.length ≤ 1048576) (hfa : RowsAt w aa ra) (hnb : nb = rb.length) (hsb : nb ≤ 1048576) (htb : rb.flatten.length ≤ 1048576) (hfb : RowsAt w ab rb) :
    Calls Try.prog 8 #[.agg #[.bool ua, .slice aa na ca, .int .i64 sa, .int .i64 ba], .agg #[.bool ub, .slice ab nb cb, .int .i64 sb, .int .i64 bb], .int .i64 now] w fun e w' => e = .returned (.bool (comesBefore ra rb sa ba sb bb now)) ∧ Ext w w' := by
  have HFA := Lib.hid hfa; clear hfa
  have HFB := Lib.hid hfb; clear hfb
  have HNA := Lib.hid hna; clear hna
  have HNB := Lib.hid hnb; clear hnb
  have HSA := Lib.hid hsa; clear hsa
  have HSB := Lib.hid hsb; clear hsb
  have HTA := Lib.hid hta; clear hta
  have HTB := Lib.hid htb; clear htb
  obtain ⟨x, hx⟩ : ∃ x, rankOf ra sa ba now = x := ⟨_, rfl⟩
  obtain ⟨y, hy⟩ : ∃ y, rankOf rb sb bb now = y := ⟨_, rfl⟩
  obtain ⟨R, hR⟩ : ∃ R, comesBefore ra rb sa ba sb bb now = R := ⟨_, rfl⟩
  rw [hR]
  have hRR : R = if x = 3 ∨ y = 3 then false else if x ≠ y then decide (x < y) else if x = -1 ∧ ba ≠ bb then decide (ba < bb) else if sa ≠ sb then decide (sa < sb) else decide (firstId ra < firstId rb) := by
    rw [← hR, comesBefore, hx, hy]
  have hoka : x ≠ 3 → trainOk ra = true := fun h => rank_ok (hx ▸ h)
  have hokb : y ≠ 3 → trainOk rb = true := fun h => rank_ok (hy ▸ h)
  have HOKA := Lib.hid hoka; clear hoka
  have HOKB := Lib.hid hokb; clear hokb
  have HX := Lib.hid hx; clear hx
  have HY := Lib.hid hy; clear hy
  have HRR := Lib.hid hRR; clear hRR hR
  have A0 := (RowAt.new w 34 #[.bool ua, .slice aa na ca, .int .i64 sa, .int .i64 ba]).ext ((Ext.refl _).alloc (.cells #[.bool ub, .slice ab nb cb, .int .i64 sb, .int .i64 bb] 34))
  have B0 := RowAt.new (w.alloc (.cells #[.bool ua, .slice aa na ca, .int .i64 sa, .int .i64 ba] 34)) 34 #[.bool ub, .slice ab nb cb, .int .i64 sb, .int .i64 bb]
  rw [World.size_alloc] at B0
  have hw2 : Ext w ((w.alloc (.cells #[.bool ua, .slice aa na ca, .int .i64 sa, .int .i64 ba] 34)).alloc (.cells #[.bool ub, .slice ab nb cb, .int .i64 sb, .int .i64 bb] 34)) := ((Ext.refl w).alloc _).alloc _
  obtain ⟨W, hW⟩ : ∃ W, (w.alloc (.cells #[.bool ua, .slice aa na ca, .int .i64 sa, .int .i64 ba] 34)).alloc (.cells #[.bool ub, .slice ab nb cb, .int .i64 sb, .int .i64 bb] 34) = W := ⟨_, rfl⟩
  rw [hW] at A0 B0 hw2
  have HW := Lib.hid hW; clear hW
  have p0 : ∀ x : Aft W, x.1.cell? ⟨w.heap.size, 0, none⟩ = some (.bool ua) := fun x => (A0.ext x.2).cell rfl
  have p1 : ∀ x : Aft W, x.1.cell? ⟨w.heap.size, 1, none⟩ = some (.slice aa na ca) := fun x => (A0.ext x.2).cell rfl
  have p2 : ∀ x : Aft W, x.1.cell? ⟨w.heap.size, 2, none⟩ = some (.int .i64 sa) := fun x => (A0.ext x.2).cell rfl
  have p3 : ∀ x : Aft W, x.1.cell? ⟨w.heap.size, 3, none⟩ = some (.int .i64 ba) := fun x => (A0.ext x.2).cell rfl
  have q0 : ∀ x : Aft W, x.1.cell? ⟨w.heap.size + 1, 0, none⟩ = some (.bool ub) := fun x => (B0.ext x.2).cell rfl
  have q1 : ∀ x : Aft W, x.1.cell? ⟨w.heap.size + 1, 1, none⟩ = some (.slice ab nb cb) := fun x => (B0.ext x.2).cell rfl
  have q2 : ∀ x : Aft W, x.1.cell? ⟨w.heap.size + 1, 2, none⟩ = some (.int .i64 sb) := fun x => (B0.ext x.2).cell rfl
  have q3 : ∀ x : Aft W, x.1.cell? ⟨w.heap.size + 1, 3, none⟩ = some (.int .i64 bb) := fun x => (B0.ext x.2).cell rfl
  have HA0 := Lib.hid A0; clear A0
  have HB0 := Lib.hid B0; clear B0
  have HW2 := Lib.hid hw2
  go_enter Try.func8, Try.ntmps8
  go_wp2_with fail
  rw [HW.out]
  (refine wp_region_aft W (Ext.refl _) (by kernel_rfl) (by kernel_rfl) ?_; (repeat (go_big_quiet_step ((go_at_call 13; first | exact aft_call (implRankOf_is x _ _ _ _ _ _ _ ra _ HNA.out HSA.out HTA.out (HFA.out.ext (HW2.out.trans (Subtype.property _))) HX.out) | exact aft_call (implRankOf_is y _ _ _ _ _ _ _ rb _ HNB.out HSB.out HTB.out (HFB.out.ext (HW2.out.trans (Subtype.property _))) HY.out))))); refine wpQuiet_nil ?_; intro w2 hx2)
  have HX2 := Lib.hid hx2
  have hw22 : Ext w w2 := hw2.trans hx2
  have r0 := p0 ⟨w2, hx2⟩
  have r1 := p1 ⟨w2, hx2⟩
  have r2 := p2 ⟨w2, hx2⟩
  have r3 := p3 ⟨w2, hx2⟩
  have s0 := q0 ⟨w2, hx2⟩
  have s1 := q1 ⟨w2, hx2⟩
  have s2 := q2 ⟨w2, hx2⟩
  have s3 := q3 ⟨w2, hx2⟩
  dsimp only at r0 r1 r2 r3 s0 s1 s2 s3
  clear p0 p1 p2 p3 q0 q1 q2 q3
  by_cases hx3 : x = 3
  · have hR := Lib.hid (show R = false by rw [HRR.out, if_pos (.inl hx3)])
    have d1 : (x == 3) = true := by simpa using hx3
    go_wp2
    go_ret
    exact ⟨ret_bool hR.out.symm, by (repeat' (first | (with_reducible exact Ext.refl _) | (with_reducible assumption) | (with_reducible refine Ext.alloc ?_ _) | (with_reducible refine Ext.drewN ?_ _) | (with_reducible refine Ext.drew ?_) | (with_reducible refine Ext.setCell ?_ ?_ _) | (with_reducible exact Nat.le_refl _) | (with_reducible exact Nat.le_succ _) | (with_reducible refine Ext.trans ?_ (by assumption)) | (simp; done) | (simp; omega)))⟩
  have d1 : (x == 3) = false := by simpa using hx3
  by_cases hy3 : y = 3
  · have hR := Lib.hid (show R = false by rw [HRR.out, if_pos (.inr hy3)])
    have d2 : (y == 3) = true := by simpa using hy3
    go_wp2
    go_ret
    exact ⟨ret_bool hR.out.symm, by (repeat' (first | (with_reducible exact Ext.refl _) | (with_reducible assumption) | (with_reducible refine Ext.alloc ?_ _) | (with_reducible refine Ext.drewN ?_ _) | (with_reducible refine Ext.drew ?_) | (with_reducible refine Ext.setCell ?_ ?_ _) | (with_reducible exact Nat.le_refl _) | (with_reducible exact Nat.le_succ _) | (with_reducible refine Ext.trans ?_ (by assumption)) | (simp; done) | (simp; omega)))⟩
  have d2 : (y == 3) = false := by simpa using hy3
  have hR1 : R = if x ≠ y then decide (x < y) else if x = -1 ∧ ba ≠ bb then decide (ba < bb) else if sa ≠ sb then decide (sa < sb) else decide (firstId ra < firstId rb) := by rw [HRR.out, if_neg (by omega)]
  have OKA := Lib.hid (HOKA.out hx3)
  have OKB := Lib.hid (HOKB.out hy3)
  by_cases hxy : x = y
  case neg =>
    have hR := Lib.hid (show R = decide (x < y) by rw [hR1, if_pos hxy])
    clear hR1
    have d3 : (x == y) = false := by simpa using hxy
    go_wp2
    go_ret
    exact ⟨ret_bool hR.out.symm, by (repeat' (first | (with_reducible exact Ext.refl _) | (with_reducible assumption) | (with_reducible refine Ext.alloc ?_ _) | (with_reducible refine Ext.drewN ?_ _) | (with_reducible refine Ext.drew ?_) | (with_reducible refine Ext.setCell ?_ ?_ _) | (with_reducible exact Nat.le_refl _) | (with_reducible exact Nat.le_succ _) | (with_reducible refine Ext.trans ?_ (by assumption)) | (simp; done) | (simp; omega)))⟩
  have hR2 : R = if x = -1 ∧ ba ≠ bb then decide (ba < bb) else if sa ≠ sb then decide (sa < sb) else decide (firstId ra < firstId rb) := by rw [hR1, if_neg (by omega)]
  clear hR1
  subst hxy
  by_cases hb : x = -1 ∧ ba ≠ bb
  · have hR := Lib.hid (show R = decide (ba < bb) by rw [hR2, if_pos hb])
    clear hR2
    obtain ⟨hx1, hb1⟩ := hb
    subst hx1
    have d4 : (ba == bb) = false := by simpa using hb1
    go_wp2
    go_ret
    exact ⟨ret_bool hR.out.symm, by (repeat' (first | (with_reducible exact Ext.refl _) | (with_reducible assumption) | (with_reducible refine Ext.alloc ?_ _) | (with_reducible refine Ext.drewN ?_ _) | (with_reducible refine Ext.drew ?_) | (with_reducible refine Ext.setCell ?_ ?_ _) | (with_reducible exact Nat.le_refl _) | (with_reducible exact Nat.le_succ _) | (with_reducible refine Ext.trans ?_ (by assumption)) | (simp; done) | (simp; omega)))⟩
  have hR3 : R = if sa ≠ sb then decide (sa < sb) else decide (firstId ra < firstId rb) := by rw [hR2, if_neg hb]
  clear hR2
  have d5 : (x == -1) = false ∨ ((x == -1) = true ∧ (ba == bb) = true) := by
    by_cases h1 : x = -1
    · right
      refine ⟨by simpa using h1, ?_⟩
      have : ba = bb := by
        by_cases h2 : ba = bb
        · exact h2
        · exact absurd ⟨h1, h2⟩ hb
      simpa using this
    · left
      simpa using h1
  clear hb
  by_cases hs : sa = sb
  case neg =>
    have hR := Lib.hid (show R = decide (sa < sb) by rw [hR3, if_pos hs])
    clear hR3
    have d6 : (sa == sb) = false := by simpa using hs
    rcases d5 with d5 | ⟨d5, d7⟩
    all_goals
      go_wp2
      go_ret
      exact ⟨ret_bool hR.out.symm, by (repeat' (first | (with_reducible exact Ext.refl _) | (with_reducible assumption) | (with_reducible refine Ext.alloc ?_ _) | (with_reducible refine Ext.drewN ?_ _) | (with_reducible refine Ext.drew ?_) | (with_reducible refine Ext.setCell ?_ ?_ _) | (with_reducible exact Nat.le_refl _) | (with_reducible exact Nat.le_succ _) | (with_reducible refine Ext.trans ?_ (by assumption)) | (simp; done) | (simp; omega)))⟩
  have hR := Lib.hid (show R = decide (firstId ra < firstId rb) by rw [hR3, if_neg (by omega)])
  clear hR3
  have d6 : (sa == sb) = true := by simpa using hs
  have hE2 := Ext.refl w2
  rcases d5 with d5 | ⟨d5, d7⟩
  all_goals
    go_wp2_with fail
    refine wp_region_held_drew (S := (fun w' => Ext w2 w' ∧ w'.cell? ⟨w.heap.size, 0, none⟩ = some (.bool ua) ∧ w'.cell? ⟨w.heap.size, 1, none⟩ = some (.slice aa na ca) ∧ w'.cell? ⟨w.heap.size + 1, 0, none⟩ = some (.bool ub) ∧ w'.cell? ⟨w.heap.size + 1, 1, none⟩ = some (.slice ab nb cb))) (by kernel_rfl) ?_ (fun hH0 => ?_)
    · (try dsimp only)
      ((repeat' (refine And.intro ?_ ?_)) <;> (first | (exact Ext.cell (w := w2) (by (repeat' (first | (with_reducible exact Ext.refl _) | (with_reducible assumption) | (with_reducible refine Ext.alloc ?_ _) | (with_reducible refine Ext.drewN ?_ _) | (with_reducible refine Ext.drew ?_) | (with_reducible refine Ext.setCell ?_ ?_ _) | (with_reducible exact Nat.le_refl _) | (with_reducible exact Nat.le_succ _) | (with_reducible refine Ext.trans ?_ (by assumption)) | (simp; done) | (simp; omega)))) (by assumption)) | ((repeat' (first | (with_reducible exact Ext.refl _) | (with_reducible assumption) | (with_reducible refine Ext.alloc ?_ _) | (with_reducible refine Ext.drewN ?_ _) | (with_reducible refine Ext.drew ?_) | (with_reducible refine Ext.setCell ?_ ?_ _) | (with_reducible exact Nat.le_refl _) | (with_reducible exact Nat.le_succ _) | (with_reducible refine Ext.trans ?_ (by assumption)) | (simp; done) | (simp; omega))); done)))
    refine take_l 0 (v := ?_) rfl (by kernel_rfl) (by kernel_rfl) (by kernel_rfl) (fun _ _ _ h => h) (by rfl) ?_ (by assumption) ?_
    rotate_left
    · (intro w hSw; (try dsimp only at hSw); go_simp; (try with_reducible rfl))
    (try simp only [Act.put, List.setIfInBounds_toArray, List.set_cons_zero, List.set_cons_succ])
    refine take_l 1 (v := ?_) rfl (by kernel_rfl) (by kernel_rfl) (by kernel_rfl) (fun _ _ _ h => h) (by rfl) ?_ (by assumption) ?_
    rotate_left
    · (intro w hSw; (try dsimp only at hSw); go_simp; (try with_reducible rfl))
    (try simp only [Act.put, List.setIfInBounds_toArray, List.set_cons_zero, List.set_cons_succ])
    refine take_l 5 (v := ?_) rfl (by kernel_rfl) (by kernel_rfl) (by kernel_rfl) (fun _ _ _ h => h) (by rfl) ?_ (by assumption) ?_
    rotate_left
    · (intro w hSw; (try dsimp only at hSw); go_simp; (try with_reducible rfl))
    (try simp only [Act.put, List.setIfInBounds_toArray, List.set_cons_zero, List.set_cons_succ])
    refine take_l 6 (v := ?_) rfl (by kernel_rfl) (by kernel_rfl) (by kernel_rfl) (fun _ _ _ h => h) (by rfl) ?_ (by assumption) ?_
    rotate_left
    · (intro w hSw; (try dsimp only at hSw); go_simp; (try with_reducible rfl))
    (try simp only [Act.put, List.setIfInBounds_toArray, List.set_cons_zero, List.set_cons_succ])
    refine wpAnyH_ready (rs := [2]) (by kernel_rfl) (by simp) ?_
    refine cons_l (i := 2) rfl (fun K hK => ?_) ?_
    go_simp; (go_at_call 16; with_reducible refine (implIdsOf_first _ _ _ _ ra _ OKA.out HNA.out HSA.out HTA.out (HFA.out.ext (hw22.trans (by (repeat' (first | (with_reducible exact Ext.refl _) | (with_reducible assumption) | (with_reducible refine Ext.alloc ?_ _) | (with_reducible refine Ext.drewN ?_ _) | (with_reducible refine Ext.drew ?_) | (with_reducible refine Ext.setCell ?_ ?_ _) | (with_reducible exact Nat.le_refl _) | (with_reducible exact Nat.le_succ _) | (with_reducible refine Ext.trans ?_ (by assumption)) | (simp; done) | (simp; omega))))))).mono ?_); rintro e w' ⟨b3, off3, k3, c3, rfl, hcA, hxA⟩
    refine hK.out _ _ ?_ (fun hH1 => ?_)
    · (try dsimp only)
      ((repeat' (refine And.intro ?_ ?_)) <;> (first | (exact Ext.cell (w := w2) (by (repeat' (first | (with_reducible exact Ext.refl _) | (with_reducible assumption) | (with_reducible refine Ext.alloc ?_ _) | (with_reducible refine Ext.drewN ?_ _) | (with_reducible refine Ext.drew ?_) | (with_reducible refine Ext.setCell ?_ ?_ _) | (with_reducible exact Nat.le_refl _) | (with_reducible exact Nat.le_succ _) | (with_reducible refine Ext.trans ?_ (by assumption)) | (simp; done) | (simp; omega)))) (by assumption)) | ((repeat' (first | (with_reducible exact Ext.refl _) | (with_reducible assumption) | (with_reducible refine Ext.alloc ?_ _) | (with_reducible refine Ext.drewN ?_ _) | (with_reducible refine Ext.drew ?_) | (with_reducible refine Ext.setCell ?_ ?_ _) | (with_reducible exact Nat.le_refl _) | (with_reducible exact Nat.le_succ _) | (with_reducible refine Ext.trans ?_ (by assumption)) | (simp; done) | (simp; omega))); done)))
    clear hK K hH0
    (try simp only [Act.put, List.setIfInBounds_toArray, List.set_cons_zero, List.set_cons_succ])
    refine take_l 3 (v := ?_) rfl (by kernel_rfl) (by kernel_rfl) (by kernel_rfl) (fun _ _ _ h => h) (by rfl) ?_ (by assumption) ?_
    rotate_left
    · (intro w hSw; (try dsimp only at hSw); go_simp; (try with_reducible rfl))
    (try simp only [Act.put, List.setIfInBounds_toArray, List.set_cons_zero, List.set_cons_succ])
    refine wpAnyH_ready (rs := [4, 7]) (by kernel_rfl) (by simp) ?_
    refine cons_l (i := 4) rfl (fun K hK => ?_) ?_
    go_simp
    refine hK.out _ _ ?_ (fun hH2 => ?_)
    · (try dsimp only)
      ((repeat' (refine And.intro ?_ ?_)) <;> (first | (exact Ext.cell (w := w2) (by (repeat' (first | (with_reducible exact Ext.refl _) | (with_reducible assumption) | (with_reducible refine Ext.alloc ?_ _) | (with_reducible refine Ext.drewN ?_ _) | (with_reducible refine Ext.drew ?_) | (with_reducible refine Ext.setCell ?_ ?_ _) | (with_reducible exact Nat.le_refl _) | (with_reducible exact Nat.le_succ _) | (with_reducible refine Ext.trans ?_ (by assumption)) | (simp; done) | (simp; omega)))) (by assumption)) | ((repeat' (first | (with_reducible exact Ext.refl _) | (with_reducible assumption) | (with_reducible refine Ext.alloc ?_ _) | (with_reducible refine Ext.drewN ?_ _) | (with_reducible refine Ext.drew ?_) | (with_reducible refine Ext.setCell ?_ ?_ _) | (with_reducible exact Nat.le_refl _) | (with_reducible exact Nat.le_succ _) | (with_reducible refine Ext.trans ?_ (by assumption)) | (simp; done) | (simp; omega))); done)))
    clear hK K hH1
    (try simp only [Act.put, List.setIfInBounds_toArray, List.set_cons_zero, List.set_cons_succ])
    refine wpAnyH_ready (rs := [7]) (by kernel_rfl) (by simp) ?_
    refine cons_l (i := 7) rfl (fun K hK => ?_) ?_
    go_simp; (go_at_call 16; with_reducible refine (implIdsOf_first _ _ _ _ rb _ OKB.out HNB.out HSB.out HTB.out (HFB.out.ext (hw22.trans (by (repeat' (first | (with_reducible exact Ext.refl _) | (with_reducible assumption) | (with_reducible refine Ext.alloc ?_ _) | (with_reducible refine Ext.drewN ?_ _) | (with_reducible refine Ext.drew ?_) | (with_reducible refine Ext.setCell ?_ ?_ _) | (with_reducible exact Nat.le_refl _) | (with_reducible exact Nat.le_succ _) | (with_reducible refine Ext.trans ?_ (by assumption)) | (simp; done) | (simp; omega))))))).mono ?_); rintro e w' ⟨b4, off4, k4, c4, rfl, hcB, hxB⟩; have hcA' := Ext.cell hxB hcA
    refine hK.out _ _ ?_ (fun hH3 => ?_)
    · (try dsimp only)
      ((repeat' (refine And.intro ?_ ?_)) <;> (first | (exact Ext.cell (w := w2) (by (repeat' (first | (with_reducible exact Ext.refl _) | (with_reducible assumption) | (with_reducible refine Ext.alloc ?_ _) | (with_reducible refine Ext.drewN ?_ _) | (with_reducible refine Ext.drew ?_) | (with_reducible refine Ext.setCell ?_ ?_ _) | (with_reducible exact Nat.le_refl _) | (with_reducible exact Nat.le_succ _) | (with_reducible refine Ext.trans ?_ (by assumption)) | (simp; done) | (simp; omega)))) (by assumption)) | ((repeat' (first | (with_reducible exact Ext.refl _) | (with_reducible assumption) | (with_reducible refine Ext.alloc ?_ _) | (with_reducible refine Ext.drewN ?_ _) | (with_reducible refine Ext.drew ?_) | (with_reducible refine Ext.setCell ?_ ?_ _) | (with_reducible exact Nat.le_refl _) | (with_reducible exact Nat.le_succ _) | (with_reducible refine Ext.trans ?_ (by assumption)) | (simp; done) | (simp; omega))); done)))
    clear hK K hH2
    (try simp only [Act.put, List.setIfInBounds_toArray, List.set_cons_zero, List.set_cons_succ])
    refine take_l 8 (v := ?_) rfl (by kernel_rfl) (by kernel_rfl) (by kernel_rfl) (fun _ _ _ h => h) (by rfl) ?_ (by assumption) ?_
    rotate_left
    · (intro w hSw; (try dsimp only at hSw); go_simp; (try with_reducible rfl))
    (try simp only [Act.put, List.setIfInBounds_toArray, List.set_cons_zero, List.set_cons_succ])
    refine wpAnyH_ready (rs := [9]) (by kernel_rfl) (by simp) ?_
    refine cons_l (i := 9) rfl (fun K hK => ?_) ?_
    go_simp
    refine hK.out _ _ ?_ (fun hH4 => ?_)
    · (try dsimp only)
      ((repeat' (refine And.intro ?_ ?_)) <;> (first | (exact Ext.cell (w := w2) (by (repeat' (first | (with_reducible exact Ext.refl _) | (with_reducible assumption) | (with_reducible refine Ext.alloc ?_ _) | (with_reducible refine Ext.drewN ?_ _) | (with_reducible refine Ext.drew ?_) | (with_reducible refine Ext.setCell ?_ ?_ _) | (with_reducible exact Nat.le_refl _) | (with_reducible exact Nat.le_succ _) | (with_reducible refine Ext.trans ?_ (by assumption)) | (simp; done) | (simp; omega)))) (by assumption)) | ((repeat' (first | (with_reducible exact Ext.refl _) | (with_reducible assumption) | (with_reducible refine Ext.alloc ?_ _) | (with_reducible refine Ext.drewN ?_ _) | (with_reducible refine Ext.drew ?_) | (with_reducible refine Ext.setCell ?_ ?_ _) | (with_reducible exact Nat.le_refl _) | (with_reducible exact Nat.le_succ _) | (with_reducible refine Ext.trans ?_ (by assumption)) | (simp; done) | (simp; omega))); done)))
    clear hK K hH3
    (try simp only [Act.put, List.setIfInBounds_toArray, List.set_cons_zero, List.set_cons_succ])
    refine take_l 10 (v := ?_) rfl (by kernel_rfl) (by kernel_rfl) (by kernel_rfl) (fun _ _ _ h => h) (by rfl) ?_ (by assumption) ?_
    rotate_left
    · (intro w hSw; (try dsimp only at hSw); go_simp; (try with_reducible rfl))
    (try simp only [Act.put, List.setIfInBounds_toArray, List.set_cons_zero, List.set_cons_succ])
    refine take_l 11 (v := ?_) rfl (by kernel_rfl) (by kernel_rfl) (by kernel_rfl) (fun _ _ _ h => h) (by rfl) ?_ (by assumption) ?_
    rotate_left
    · (intro w hSw; (try dsimp only at hSw); go_simp; (try with_reducible rfl))
    (try simp only [Act.put, List.setIfInBounds_toArray, List.set_cons_zero, List.set_cons_succ])
    refine wpAnyH_done (by kernel_rfl) ?_ _
    rotate_left
    exact AllReadyH.nil
    exact AllReadyH.nil
    refine cons_l (i := 7) rfl (fun K hK => ?_) ?_
    go_simp; (go_at_call 16; with_reducible refine (implIdsOf_first _ _ _ _ rb _ OKB.out HNB.out HSB.out HTB.out (HFB.out.ext (hw22.trans (by (repeat' (first | (with_reducible exact Ext.refl _) | (with_reducible assumption) | (with_reducible refine Ext.alloc ?_ _) | (with_reducible refine Ext.drewN ?_ _) | (with_reducible refine Ext.drew ?_) | (with_reducible refine Ext.setCell ?_ ?_ _) | (with_reducible exact Nat.le_refl _) | (with_reducible exact Nat.le_succ _) | (with_reducible refine Ext.trans ?_ (by assumption)) | (simp; done) | (simp; omega))))))).mono ?_); rintro e w' ⟨b4, off4, k4, c4, rfl, hcB, hxB⟩; have hcA' := Ext.cell hxB hcA
    refine hK.out _ _ ?_ (fun hH2 => ?_)
    · (try dsimp only)
      ((repeat' (refine And.intro ?_ ?_)) <;> (first | (exact Ext.cell (w := w2) (by (repeat' (first | (with_reducible exact Ext.refl _) | (with_reducible assumption) | (with_reducible refine Ext.alloc ?_ _) | (with_reducible refine Ext.drewN ?_ _) | (with_reducible refine Ext.drew ?_) | (with_reducible refine Ext.setCell ?_ ?_ _) | (with_reducible exact Nat.le_refl _) | (with_reducible exact Nat.le_succ _) | (with_reducible refine Ext.trans ?_ (by assumption)) | (simp; done) | (simp; omega)))) (by assumption)) | ((repeat' (first | (with_reducible exact Ext.refl _) | (with_reducible assumption) | (with_reducible refine Ext.alloc ?_ _) | (with_reducible refine Ext.drewN ?_ _) | (with_reducible refine Ext.drew ?_) | (with_reducible refine Ext.setCell ?_ ?_ _) | (with_reducible exact Nat.le_refl _) | (with_reducible exact Nat.le_succ _) | (with_reducible refine Ext.trans ?_ (by assumption)) | (simp; done) | (simp; omega))); done)))
    clear hK K hH1
    (try simp only [Act.put, List.setIfInBounds_toArray, List.set_cons_zero, List.set_cons_succ])
    refine take_l 8 (v := ?_) rfl (by kernel_rfl) (by kernel_rfl) (by kernel_rfl) (fun _ _ _ h => h) (by rfl) ?_ (by assumption) ?_
    rotate_left
    · (intro w hSw; (try dsimp only at hSw); go_simp; (try with_reducible rfl))
    (try simp only [Act.put, List.setIfInBounds_toArray, List.set_cons_zero, List.set_cons_succ])
    refine wpAnyH_ready (rs := [4, 9]) (by kernel_rfl) (by simp) ?_
    refine cons_l (i := 4) rfl (fun K hK => ?_) ?_
    go_simp
    refine hK.out _ _ ?_ (fun hH3 => ?_)
    · (try dsimp only)
      ((repeat' (refine And.intro ?_ ?_)) <;> (first | (exact Ext.cell (w := w2) (by (repeat' (first | (with_reducible exact Ext.refl _) | (with_reducible assumption) | (with_reducible refine Ext.alloc ?_ _) | (with_reducible refine Ext.drewN ?_ _) | (with_reducible refine Ext.drew ?_) | (with_reducible refine Ext.setCell ?_ ?_ _) | (with_reducible exact Nat.le_refl _) | (with_reducible exact Nat.le_succ _) | (with_reducible refine Ext.trans ?_ (by assumption)) | (simp; done) | (simp; omega)))) (by assumption)) | ((repeat' (first | (with_reducible exact Ext.refl _) | (with_reducible assumption) | (with_reducible refine Ext.alloc ?_ _) | (with_reducible refine Ext.drewN ?_ _) | (with_reducible refine Ext.drew ?_) | (with_reducible refine Ext.setCell ?_ ?_ _) | (with_reducible exact Nat.le_refl _) | (with_reducible exact Nat.le_succ _) | (with_reducible refine Ext.trans ?_ (by assumption)) | (simp; done) | (simp; omega))); done)))
    clear hK K hH2
    (try simp only [Act.put, List.setIfInBounds_toArray, List.set_cons_zero, List.set_cons_succ])
    refine wpAnyH_ready (rs := [9]) (by kernel_rfl) (by simp) ?_
    refine cons_l (i := 9) rfl (fun K hK => ?_) ?_
    go_simp
    refine hK.out _ _ ?_ (fun hH4 => ?_)
    · (try dsimp only)
      ((repeat' (refine And.intro ?_ ?_)) <;> (first | (exact Ext.cell (w := w2) (by (repeat' (first | (with_reducible exact Ext.refl _) | (with_reducible assumption) | (with_reducible refine Ext.alloc ?_ _) | (with_reducible refine Ext.drewN ?_ _) | (with_reducible refine Ext.drew ?_) | (with_reducible refine Ext.setCell ?_ ?_ _) | (with_reducible exact Nat.le_refl _) | (with_reducible exact Nat.le_succ _) | (with_reducible refine Ext.trans ?_ (by assumption)) | (simp; done) | (simp; omega)))) (by assumption)) | ((repeat' (first | (with_reducible exact Ext.refl _) | (with_reducible assumption) | (with_reducible refine Ext.alloc ?_ _) | (with_reducible refine Ext.drewN ?_ _) | (with_reducible refine Ext.drew ?_) | (with_reducible refine Ext.setCell ?_ ?_ _) | (with_reducible exact Nat.le_refl _) | (with_reducible exact Nat.le_succ _) | (with_reducible refine Ext.trans ?_ (by assumption)) | (simp; done) | (simp; omega))); done)))
    clear hK K hH3
    (try simp only [Act.put, List.setIfInBounds_toArray, List.set_cons_zero, List.set_cons_succ])
    refine take_l 10 (v := ?_) rfl (by kernel_rfl) (by kernel_rfl) (by kernel_rfl) (fun _ _ _ h => h) (by rfl) ?_ (by assumption) ?_
    rotate_left
    · (intro w hSw; (try dsimp only at hSw); go_simp; (try with_reducible rfl))
    (try simp only [Act.put, List.setIfInBounds_toArray, List.set_cons_zero, List.set_cons_succ])
    refine take_l 11 (v := ?_) rfl (by kernel_rfl) (by kernel_rfl) (by kernel_rfl) (fun _ _ _ h => h) (by rfl) ?_ (by assumption) ?_
    rotate_left
    · (intro w hSw; (try dsimp only at hSw); go_simp; (try with_reducible rfl))
    (try simp only [Act.put, List.setIfInBounds_toArray, List.set_cons_zero, List.set_cons_succ])
    refine wpAnyH_done (by kernel_rfl) ?_ _
    rotate_left
    exact AllReadyH.nil
    refine cons_l (i := 9) rfl (fun K hK => ?_) ?_
    go_simp
    refine hK.out _ _ ?_ (fun hH3 => ?_)
    · (try dsimp only)
      ((repeat' (refine And.intro ?_ ?_)) <;> (first | (exact Ext.cell (w := w2) (by (repeat' (first | (with_reducible exact Ext.refl _) | (with_reducible assumption) | (with_reducible refine Ext.alloc ?_ _) | (with_reducible refine Ext.drewN ?_ _) | (with_reducible refine Ext.drew ?_) | (with_reducible refine Ext.setCell ?_ ?_ _) | (with_reducible exact Nat.le_refl _) | (with_reducible exact Nat.le_succ _) | (with_reducible refine Ext.trans ?_ (by assumption)) | (simp; done) | (simp; omega)))) (by assumption)) | ((repeat' (first | (with_reducible exact Ext.refl _) | (with_reducible assumption) | (with_reducible refine Ext.alloc ?_ _) | (with_reducible refine Ext.drewN ?_ _) | (with_reducible refine Ext.drew ?_) | (with_reducible refine Ext.setCell ?_ ?_ _) | (with_reducible exact Nat.le_refl _) | (with_reducible exact Nat.le_succ _) | (with_reducible refine Ext.trans ?_ (by assumption)) | (simp; done) | (simp; omega))); done)))
    clear hK K hH2
    (try simp only [Act.put, List.setIfInBounds_toArray, List.set_cons_zero, List.set_cons_succ])
    refine wpAnyH_ready (rs := [4]) (by kernel_rfl) (by simp) ?_
    refine cons_l (i := 4) rfl (fun K hK => ?_) ?_
    go_simp
    refine hK.out _ _ ?_ (fun hH4 => ?_)
    · (try dsimp only)
      ((repeat' (refine And.intro ?_ ?_)) <;> (first | (exact Ext.cell (w := w2) (by (repeat' (first | (with_reducible exact Ext.refl _) | (with_reducible assumption) | (with_reducible refine Ext.alloc ?_ _) | (with_reducible refine Ext.drewN ?_ _) | (with_reducible refine Ext.drew ?_) | (with_reducible refine Ext.setCell ?_ ?_ _) | (with_reducible exact Nat.le_refl _) | (with_reducible exact Nat.le_succ _) | (with_reducible refine Ext.trans ?_ (by assumption)) | (simp; done) | (simp; omega)))) (by assumption)) | ((repeat' (first | (with_reducible exact Ext.refl _) | (with_reducible assumption) | (with_reducible refine Ext.alloc ?_ _) | (with_reducible refine Ext.drewN ?_ _) | (with_reducible refine Ext.drew ?_) | (with_reducible refine Ext.setCell ?_ ?_ _) | (with_reducible exact Nat.le_refl _) | (with_reducible exact Nat.le_succ _) | (with_reducible refine Ext.trans ?_ (by assumption)) | (simp; done) | (simp; omega))); done)))
    clear hK K hH3
    (try simp only [Act.put, List.setIfInBounds_toArray, List.set_cons_zero, List.set_cons_succ])
    refine take_l 10 (v := ?_) rfl (by kernel_rfl) (by kernel_rfl) (by kernel_rfl) (fun _ _ _ h => h) (by rfl) ?_ (by assumption) ?_
    rotate_left
    · (intro w hSw; (try dsimp only at hSw); go_simp; (try with_reducible rfl))
    (try simp only [Act.put, List.setIfInBounds_toArray, List.set_cons_zero, List.set_cons_succ])
    refine take_l 11 (v := ?_) rfl (by kernel_rfl) (by kernel_rfl) (by kernel_rfl) (fun _ _ _ h => h) (by rfl) ?_ (by assumption) ?_
    rotate_left
    · (intro w hSw; (try dsimp only at hSw); go_simp; (try with_reducible rfl))
    (try simp only [Act.put, List.setIfInBounds_toArray, List.set_cons_zero, List.set_cons_succ])
    refine wpAnyH_done (by kernel_rfl) ?_ _
    rotate_left
    exact AllReadyH.nil
    exact AllReadyH.nil
    exact AllReadyH.nil
    exact AllReadyH.nil
    all_goals
      go_wp2
      go_ret
      exact ⟨ret_bool hR.out.symm, hw22.trans (by (repeat' (first | (with_reducible exact Ext.refl _) | (with_reducible assumption) | (with_reducible refine Ext.alloc ?_ _) | (with_reducible refine Ext.drewN ?_ _) | (with_reducible refine Ext.drew ?_) | (with_reducible refine Ext.setCell ?_ ?_ _) | (with_reducible exact Nat.le_refl _) | (with_reducible exact Nat.le_succ _) | (with_reducible refine Ext.trans ?_ (by assumption)) | (simp; done) | (simp; omega))))⟩
end Go.Proofs.Ytjjikcjhnglkaaa
