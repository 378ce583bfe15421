/- DivideTrain, on both sides. -/
import Derived.Test.YtmcmialaofckkaaProg
import Derived.Test.YtmcmialaofckkaaCopy
namespace Go.Proofs.Ytmcmialaofckkaa
open Go.RowKit
set_option linter.unusedSimpArgs false
set_option linter.unusedVariables false

theorem RowsAt.take {w : World} {a : Option Addr} {rows : List (List Bt)} (h : RowsAt w a rows) (k : Nat) : RowsAt w a (rows.take k) := fun j hj => by
  have hj' : j < rows.length := by rw [List.length_take] at hj; omega
  obtain ⟨b, off, a', c, e, hc, hl, hf⟩ := h j hj'
  refine ⟨b, off, a', c, e, ?_⟩
  simp only [List.getElem_take]
  exact ⟨hc, hl, hf⟩
theorem RowsAt.drop {w : World} {b off : Nat} {rows : List (List Bt)} (h : RowsAt w (some ⟨b, off, none⟩) rows) (k : Nat) : RowsAt w (some ⟨b, off + k, none⟩) (rows.drop k) := fun j hj => by
  have hj' : k + j < rows.length := by rw [List.length_drop] at hj; omega
  obtain ⟨b', off', a', c, e, hc, hl, hf⟩ := h (k + j) hj'
  cases e
  refine ⟨b, off + k, a', c, rfl, ?_⟩
  simp only [List.getElem_drop]
  exact ⟨by rw [Nat.add_assoc]; exact hc, hl, hf⟩
/-- What DivideTrain answers: up, the rows of both trains, whether it can be divided. -/
def divRes (u : Bool) (rows : List (List Bt)) (k : Int) : Bool × List (List Bt) × List (List Bt) × Bool :=
  if trainOk rows = true ∧ 1 ≤ k ∧ k ≤ (rows.length : Int) - 1 then (u, rows.take k.toNat, rows.drop k.toNat, true) else (false, [], [], false)
/-- Two trains that have been laid, each in blocks of its own. -/
def Two (w w' : World) (u1 R : Bool) (r1 r2 : List (List Bt)) (n1 n2 : Nat) (e : Ending) : Prop :=
  ∃ a1 c1 a2 c2 mid, e = .returned (.tuple #[.agg #[.bool u1, .slice a1 n1 c1], .agg #[.bool u1, .slice a2 n2 c2], .bool R]) ∧ OwnRows w' w.heap.size mid a1 r1 ∧ OwnRows w' mid w'.heap.size a2 r2 ∧ (w.heap.size ≤ mid ∧ mid ≤ w'.heap.size) ∧ Ext w w'
theorem Two.zero {w w' : World} {n1 n2 : Nat} (h1 : n1 = 0) (h2 : n2 = 0) (hx : Ext w w') : Two w w' false false [] [] n1 n2 (.returned (.tuple #[.agg #[.bool false, .slice none 0 0], .agg #[.bool false, .slice none 0 0], .bool false])) := by
  subst h1 h2
  exact ⟨none, 0, none, 0, w.heap.size, rfl, .inl rfl, .inl rfl, ⟨Nat.le_refl _, hx.size⟩, hx⟩
theorem GR.ownAt {w : World} {lo hi n : Nat} {a : Option Addr} {c : Nat} {vs : List Value} {rows : List (List Bt)} (h : GR w lo hi (.slice a n c) vs rows) : OwnRows w lo hi a rows := by
  obtain ⟨a', c', e, _, ho⟩ := h.own
  injection e with ea _ _
  rw [ea]
  exact ho

set_option maxRecDepth 100000 in
set_option maxHeartbeats 4000000 in
theorem implDivideC_any (u1 R : Bool) (r1 r2 : List (List Bt)) (n1 n2 : Nat) (u : Bool) (a : Option Addr) (n c : Nat) (rows : List (List Bt)) (k : Int) (w : World) (hn : n = rows.length) (hnc : n ≤ c) (hns : n ≤ 1048576) (hc2 : c ≤ 9223372036854775807) (hrs : ∀ r ∈ rows, r.length ≤ 1048576) (ht : rows.flatten.length ≤ 1048576) (hf : RowsAt w a rows)
    (hR : divRes u rows k = (u1, r1, r2, R)) (hn1 : n1 = r1.length) (hn2 : n2 = r2.length) :
    Calls Try.prog 34 #[.agg #[.bool u, .slice a n c], .int .i64 k] w fun e w' => Two w w' u1 R r1 r2 n1 n2 e := by
  have HS := Lib.hid (show n ≤ 1048576 by omega)
  have HT := Lib.hid ht; clear ht
  have HRS := Lib.hid hrs; clear hrs
  obtain ⟨t, htr⟩ : ∃ t, trainOk rows = t := ⟨_, rfl⟩
  have OK := Lib.hid htr
  have HF := Lib.hid hf; clear hf
  by_cases hgood : t = true ∧ 1 ≤ k ∧ k ≤ (n : Int) - 1
  · obtain ⟨rfl, hk1, hk2⟩ := hgood
    have e1 : divRes u rows k = (u, rows.take k.toNat, rows.drop k.toNat, true) := by unfold divRes; rw [if_pos ⟨htr, hk1, by rw [← hn]; exact hk2⟩]
    rw [e1] at hR
    clear e1
    injection hR with hu hR
    injection hR with hr1 hR
    injection hR with hr2 hR
    subst hu hR
    obtain ⟨q, rfl⟩ : ∃ q : Nat, k = q := ⟨k.toNat, by omega⟩
    rw [Int.toNat_natCast] at hr1 hr2
    have HN1 := Lib.hid (show n1 = q by rw [hn1, ← hr1, List.length_take]; omega)
    have HN2 := Lib.hid (show n2 = n - q by rw [hn2, ← hr2, List.length_drop]; omega)
    obtain ⟨b, off, rfl⟩ : ∃ b off, a = some ⟨b, off, none⟩ := by
      obtain ⟨b, off, _, _, e, _⟩ := HF.out 0 (by omega)
      exact ⟨b, off, e⟩
    have HF1 := Lib.hid (hr1 ▸ HF.out.take q)
    have HF2 := Lib.hid (hr2 ▸ HF.out.drop q)
    have HL1 := Lib.hid (show q = r1.length by rw [← hn1]; exact HN1.out.symm)
    have HL2 := Lib.hid (show n - q = r2.length by rw [← hn2]; exact HN2.out.symm)
    have HRS1 := Lib.hid (show ∀ r ∈ r1, r.length ≤ 1048576 from fun r hr => HRS.out r (by rw [← hr1] at hr; exact List.mem_of_mem_take hr))
    have HRS2 := Lib.hid (show ∀ r ∈ r2, r.length ≤ 1048576 from fun r hr => HRS.out r (by rw [← hr2] at hr; exact List.mem_of_mem_drop hr))
    clear hr1 hr2 hn1 hn2 htr
    have HN := Lib.hid hn; clear hn
    have i0 : (0 : Int) ≤ (q : Int) := by omega
    have i1 : (q : Int) ≤ (n : Int) := by omega
    have i2 : (q : Int) ≤ (c : Int) := by omega
    have i3 : (n : Int) ≤ (c : Int) := by omega
    have i6 : ¬ c = q := by omega
    have i4 : decide ((q : Int) < 1) = false := by simp; omega
    have i5 : decide ((n : Int) - 1 < (q : Int)) = false := by simp; omega
    go_enter Try.func34, Try.ntmps34
    go_wp2_with fail
    (with_reducible refine (OK.out ▸ implTrainOk_any _ _ _ _ rows _ HN.out HS.out HT.out (HF.out.ext (by (repeat' (first | (with_reducible exact Ext.refl _) | (with_reducible assumption) | (with_reducible refine Ext.alloc ?_ _) | (with_reducible refine Ext.drewN ?_ _) | (with_reducible refine Ext.drew ?_) | (with_reducible refine Ext.setCell ?_ ?_ _) | (with_reducible exact Nat.le_refl _) | (with_reducible exact Nat.le_succ _) | (with_reducible refine Ext.trans ?_ (by assumption)) | (simp; done) | (simp; omega)))))).mono ?_); rintro e w1 ⟨rfl, hb1⟩
    have x0_1 := hb1
    obtain ⟨hc0_1, hf0_1⟩ := bcell x0_1.below
    have z0_1_0 : w.heap.size < w1.heap.size := by have h := x0_1.size; simp at h; omega
    have z0_1_1 : w.heap.size + 1 < w1.heap.size := by have h := x0_1.size; simp at h; omega
    have z0_1_2 : w.heap.size + 1 + 1 < w1.heap.size := by have h := x0_1.size; simp at h; omega
    go_wp2_with fail
    have b0 := (((RowAt.new w 26 #[.bool u, .slice (some ⟨b, off, none⟩) n c]).ext (((Ext.refl _).alloc _).alloc _)).ext x0_1)
    have t0 : w1.cell? ⟨w.heap.size, 0, none⟩ = some (.bool u) := b0.cell rfl
    have t1 : w1.cell? ⟨w.heap.size, 1, none⟩ = some (.slice (some ⟨b, off, none⟩) n c) := b0.cell rfl
    have hw1 : Ext w w1 := Ext.trans ((((Ext.refl w).alloc _).alloc _).alloc _) x0_1
    have b1 := (RowAt.new (w.alloc (.cells #[.bool u, .slice (some ⟨b, off, none⟩) n c] 26)) 26 #[.bool false, .slice none 0 0]).ext (((Ext.refl _).alloc (.cells #[.bool false, .slice none 0 0] 26)).trans x0_1)
    have b2 := (RowAt.new ((w.alloc (.cells #[.bool u, .slice (some ⟨b, off, none⟩) n c] 26)).alloc (.cells #[.bool false, .slice none 0 0] 26)) 26 #[.bool false, .slice none 0 0]).ext x0_1
    rw [World.size_alloc] at b1
    rw [World.size_alloc, World.size_alloc] at b2
    have z2 := b2.lt
    have HB1 := Lib.hid b1; clear b1
    have HB2 := Lib.hid b2; clear b2
    clear b0
    have hE1 := Ext.refl w1
    refine wp_region_held_drew (S := (fun w' => Ext w1 w' ∧ w'.cell? ⟨w.heap.size, 0, none⟩ = some (.bool u) ∧ w'.cell? ⟨w.heap.size, 1, none⟩ = some (.slice (some ⟨b, off, none⟩) n c))) (by kernel_rfl) ?_ (fun hH0 => ?_)
    · (try dsimp only)
      ((repeat' (refine And.intro ?_ ?_)) <;> (first | (with_reducible assumption) | (exact Ext.cell (w := w1) (by (repeat' (first | (with_reducible exact Ext.refl _) | (with_reducible assumption) | (with_reducible refine Ext.alloc ?_ _) | (with_reducible refine Ext.drewN ?_ _) | (with_reducible refine Ext.drew ?_) | (with_reducible refine Ext.setCell ?_ ?_ _) | (with_reducible exact Nat.le_refl _) | (with_reducible exact Nat.le_succ _) | (with_reducible refine Ext.trans ?_ (by assumption)) | (simp; done) | (simp; omega)))) t0) | (exact Ext.cell (w := w1) (by (repeat' (first | (with_reducible exact Ext.refl _) | (with_reducible assumption) | (with_reducible refine Ext.alloc ?_ _) | (with_reducible refine Ext.drewN ?_ _) | (with_reducible refine Ext.drew ?_) | (with_reducible refine Ext.setCell ?_ ?_ _) | (with_reducible exact Nat.le_refl _) | (with_reducible exact Nat.le_succ _) | (with_reducible refine Ext.trans ?_ (by assumption)) | (simp; done) | (simp; omega)))) t1) | ((repeat' (first | (with_reducible exact Ext.refl _) | (with_reducible assumption) | (with_reducible refine Ext.alloc ?_ _) | (with_reducible refine Ext.drewN ?_ _) | (with_reducible refine Ext.drew ?_) | (with_reducible refine Ext.setCell ?_ ?_ _) | (with_reducible exact Nat.le_refl _) | (with_reducible exact Nat.le_succ _) | (with_reducible refine Ext.trans ?_ (by assumption)) | (simp; done) | (simp; omega))); done)))
    refine take_l 0 (v := ?_) rfl (by kernel_rfl) (by kernel_rfl) (by kernel_rfl) (fun _ _ _ h => h) (by rfl) ?_ (by assumption) ?_
    rotate_left
    · (intro w hSw; (try dsimp only at hSw); go_simp; (try with_reducible rfl))
    (try simp only [Act.put, List.setIfInBounds_toArray, List.set_cons_zero, List.set_cons_succ])
    refine take_l 1 (v := ?_) rfl (by kernel_rfl) (by kernel_rfl) (by kernel_rfl) (fun _ _ _ h => h) (by rfl) ?_ (by assumption) ?_
    rotate_left
    · (intro w hSw; (try dsimp only at hSw); go_simp; (try with_reducible rfl))
    (try simp only [Act.put, List.setIfInBounds_toArray, List.set_cons_zero, List.set_cons_succ])
    refine take_l 2 (v := ?_) rfl (by kernel_rfl) (by kernel_rfl) (by kernel_rfl) (fun _ _ _ h => h) (by rfl) ?_ (by assumption) ?_
    rotate_left
    · (intro w hSw; (try dsimp only at hSw); go_simp; (try with_reducible rfl))
    (try simp only [Act.put, List.setIfInBounds_toArray, List.set_cons_zero, List.set_cons_succ])
    refine take_l 3 (v := ?_) rfl (by kernel_rfl) (by kernel_rfl) (by kernel_rfl) (fun _ _ _ h => h) (by rfl) ?_ (by assumption) ?_
    rotate_left
    · (intro w hSw; (try dsimp only at hSw); go_simp; (try with_reducible rfl))
    (try simp only [Act.put, List.setIfInBounds_toArray, List.set_cons_zero, List.set_cons_succ])
    refine take_l 4 (v := ?_) rfl (by kernel_rfl) (by kernel_rfl) (by kernel_rfl) (fun _ _ _ h => h) (by rfl) ?_ (by assumption) ?_
    rotate_left
    · (intro w hSw; (try dsimp only at hSw); go_simp; (try with_reducible rfl))
    (try simp only [Act.put, List.setIfInBounds_toArray, List.set_cons_zero, List.set_cons_succ])
    refine take_l 5 (v := ?_) rfl (by kernel_rfl) (by kernel_rfl) (by kernel_rfl) (fun _ _ _ h => h) (by rfl) ?_ (by assumption) ?_
    rotate_left
    · (intro w hSw; (try dsimp only at hSw); go_simp; (try with_reducible rfl))
    (try simp only [Act.put, List.setIfInBounds_toArray, List.set_cons_zero, List.set_cons_succ])
    refine wpAnyH_ready (rs := [6, 8]) (by kernel_rfl) (by simp) ?_
    refine cons_l (i := 6) rfl (fun K hK => ?_) ?_
    go_simp; (go_at_call 74; with_reducible refine (copyRows_any _ q c r1 _ HL1.out (by omega) HRS1.out (HF1.out.ext (hw1.trans (by (repeat' (first | (with_reducible exact Ext.refl _) | (with_reducible assumption) | (with_reducible refine Ext.alloc ?_ _) | (with_reducible refine Ext.drewN ?_ _) | (with_reducible refine Ext.drew ?_) | (with_reducible refine Ext.setCell ?_ ?_ _) | (with_reducible exact Nat.le_refl _) | (with_reducible exact Nat.le_succ _) | (with_reducible refine Ext.trans ?_ (by assumption)) | (simp; done) | (simp; omega))))))).mono ?_); rintro e w' ⟨a6, c6, vs6, rfl, hg6, hb6⟩; have hs6 := hb6.size; (try simp at hs6); obtain ⟨hcQ, hfQ⟩ := bcell hb6.below; have zQ : w1.heap.size < w'.heap.size + 1 := by omega; (try have zR : w1.heap.size < w'.heap.size := by omega)
    refine hK.out _ _ ?_ (fun hH1 => ?_)
    · (try dsimp only)
      ((repeat' (refine And.intro ?_ ?_)) <;> (first | (with_reducible assumption) | (exact Ext.cell (w := w1) (by (repeat' (first | (with_reducible exact Ext.refl _) | (with_reducible assumption) | (with_reducible refine Ext.alloc ?_ _) | (with_reducible refine Ext.drewN ?_ _) | (with_reducible refine Ext.drew ?_) | (with_reducible refine Ext.setCell ?_ ?_ _) | (with_reducible exact Nat.le_refl _) | (with_reducible exact Nat.le_succ _) | (with_reducible refine Ext.trans ?_ (by assumption)) | (simp; done) | (simp; omega)))) t0) | (exact Ext.cell (w := w1) (by (repeat' (first | (with_reducible exact Ext.refl _) | (with_reducible assumption) | (with_reducible refine Ext.alloc ?_ _) | (with_reducible refine Ext.drewN ?_ _) | (with_reducible refine Ext.drew ?_) | (with_reducible refine Ext.setCell ?_ ?_ _) | (with_reducible exact Nat.le_refl _) | (with_reducible exact Nat.le_succ _) | (with_reducible refine Ext.trans ?_ (by assumption)) | (simp; done) | (simp; omega)))) t1) | ((repeat' (first | (with_reducible exact Ext.refl _) | (with_reducible assumption) | (with_reducible refine Ext.alloc ?_ _) | (with_reducible refine Ext.drewN ?_ _) | (with_reducible refine Ext.drew ?_) | (with_reducible refine Ext.setCell ?_ ?_ _) | (with_reducible exact Nat.le_refl _) | (with_reducible exact Nat.le_succ _) | (with_reducible refine Ext.trans ?_ (by assumption)) | (simp; done) | (simp; omega))); done)))
    clear hK K hH0
    (try simp only [Act.put, List.setIfInBounds_toArray, List.set_cons_zero, List.set_cons_succ])
    refine take_l 7 (v := ?_) rfl (by kernel_rfl) (by kernel_rfl) (by kernel_rfl) (fun _ _ _ h => h) (by rfl) ?_ (by assumption) ?_
    rotate_left
    · (intro w hSw; (try dsimp only at hSw); go_simp; (try with_reducible rfl))
    (try simp only [Act.put, List.setIfInBounds_toArray, List.set_cons_zero, List.set_cons_succ])
    refine wpAnyH_ready (rs := [8]) (by kernel_rfl) (by simp) ?_
    refine cons_l (i := 8) rfl (fun K hK => ?_) ?_
    go_simp
    refine hK.out _ _ ?_ (fun hH2 => ?_)
    · (try dsimp only)
      ((repeat' (refine And.intro ?_ ?_)) <;> (first | (with_reducible assumption) | (exact Ext.cell (w := w1) (by (repeat' (first | (with_reducible exact Ext.refl _) | (with_reducible assumption) | (with_reducible refine Ext.alloc ?_ _) | (with_reducible refine Ext.drewN ?_ _) | (with_reducible refine Ext.drew ?_) | (with_reducible refine Ext.setCell ?_ ?_ _) | (with_reducible exact Nat.le_refl _) | (with_reducible exact Nat.le_succ _) | (with_reducible refine Ext.trans ?_ (by assumption)) | (simp; done) | (simp; omega)))) t0) | (exact Ext.cell (w := w1) (by (repeat' (first | (with_reducible exact Ext.refl _) | (with_reducible assumption) | (with_reducible refine Ext.alloc ?_ _) | (with_reducible refine Ext.drewN ?_ _) | (with_reducible refine Ext.drew ?_) | (with_reducible refine Ext.setCell ?_ ?_ _) | (with_reducible exact Nat.le_refl _) | (with_reducible exact Nat.le_succ _) | (with_reducible refine Ext.trans ?_ (by assumption)) | (simp; done) | (simp; omega)))) t1) | ((repeat' (first | (with_reducible exact Ext.refl _) | (with_reducible assumption) | (with_reducible refine Ext.alloc ?_ _) | (with_reducible refine Ext.drewN ?_ _) | (with_reducible refine Ext.drew ?_) | (with_reducible refine Ext.setCell ?_ ?_ _) | (with_reducible exact Nat.le_refl _) | (with_reducible exact Nat.le_succ _) | (with_reducible refine Ext.trans ?_ (by assumption)) | (simp; done) | (simp; omega))); done)))
    clear hK K hH1
    (try simp only [Act.put, List.setIfInBounds_toArray, List.set_cons_zero, List.set_cons_succ])
    refine wpAnyH_ready (rs := [9]) (by kernel_rfl) (by simp) ?_
    refine cons_l (i := 9) rfl (fun K hK => ?_) ?_
    go_simp
    refine hK.out _ _ ?_ (fun hH3 => ?_)
    · (try dsimp only)
      ((repeat' (refine And.intro ?_ ?_)) <;> (first | (with_reducible assumption) | (exact Ext.cell (w := w1) (by (repeat' (first | (with_reducible exact Ext.refl _) | (with_reducible assumption) | (with_reducible refine Ext.alloc ?_ _) | (with_reducible refine Ext.drewN ?_ _) | (with_reducible refine Ext.drew ?_) | (with_reducible refine Ext.setCell ?_ ?_ _) | (with_reducible exact Nat.le_refl _) | (with_reducible exact Nat.le_succ _) | (with_reducible refine Ext.trans ?_ (by assumption)) | (simp; done) | (simp; omega)))) t0) | (exact Ext.cell (w := w1) (by (repeat' (first | (with_reducible exact Ext.refl _) | (with_reducible assumption) | (with_reducible refine Ext.alloc ?_ _) | (with_reducible refine Ext.drewN ?_ _) | (with_reducible refine Ext.drew ?_) | (with_reducible refine Ext.setCell ?_ ?_ _) | (with_reducible exact Nat.le_refl _) | (with_reducible exact Nat.le_succ _) | (with_reducible refine Ext.trans ?_ (by assumption)) | (simp; done) | (simp; omega)))) t1) | ((repeat' (first | (with_reducible exact Ext.refl _) | (with_reducible assumption) | (with_reducible refine Ext.alloc ?_ _) | (with_reducible refine Ext.drewN ?_ _) | (with_reducible refine Ext.drew ?_) | (with_reducible refine Ext.setCell ?_ ?_ _) | (with_reducible exact Nat.le_refl _) | (with_reducible exact Nat.le_succ _) | (with_reducible refine Ext.trans ?_ (by assumption)) | (simp; done) | (simp; omega))); done)))
    clear hK K hH2
    (try simp only [Act.put, List.setIfInBounds_toArray, List.set_cons_zero, List.set_cons_succ])
    refine wpAnyH_done (by kernel_rfl) ?_ _
    rotate_left
    exact AllReadyH.nil
    exact AllReadyH.nil
    refine cons_l (i := 8) rfl (fun K hK => ?_) ?_
    go_simp
    refine hK.out _ _ ?_ (fun hH1 => ?_)
    · (try dsimp only)
      ((repeat' (refine And.intro ?_ ?_)) <;> (first | (with_reducible assumption) | (exact Ext.cell (w := w1) (by (repeat' (first | (with_reducible exact Ext.refl _) | (with_reducible assumption) | (with_reducible refine Ext.alloc ?_ _) | (with_reducible refine Ext.drewN ?_ _) | (with_reducible refine Ext.drew ?_) | (with_reducible refine Ext.setCell ?_ ?_ _) | (with_reducible exact Nat.le_refl _) | (with_reducible exact Nat.le_succ _) | (with_reducible refine Ext.trans ?_ (by assumption)) | (simp; done) | (simp; omega)))) t0) | (exact Ext.cell (w := w1) (by (repeat' (first | (with_reducible exact Ext.refl _) | (with_reducible assumption) | (with_reducible refine Ext.alloc ?_ _) | (with_reducible refine Ext.drewN ?_ _) | (with_reducible refine Ext.drew ?_) | (with_reducible refine Ext.setCell ?_ ?_ _) | (with_reducible exact Nat.le_refl _) | (with_reducible exact Nat.le_succ _) | (with_reducible refine Ext.trans ?_ (by assumption)) | (simp; done) | (simp; omega)))) t1) | ((repeat' (first | (with_reducible exact Ext.refl _) | (with_reducible assumption) | (with_reducible refine Ext.alloc ?_ _) | (with_reducible refine Ext.drewN ?_ _) | (with_reducible refine Ext.drew ?_) | (with_reducible refine Ext.setCell ?_ ?_ _) | (with_reducible exact Nat.le_refl _) | (with_reducible exact Nat.le_succ _) | (with_reducible refine Ext.trans ?_ (by assumption)) | (simp; done) | (simp; omega))); done)))
    clear hK K hH0
    (try simp only [Act.put, List.setIfInBounds_toArray, List.set_cons_zero, List.set_cons_succ])
    refine wpAnyH_ready (rs := [6]) (by kernel_rfl) (by simp) ?_
    refine cons_l (i := 6) rfl (fun K hK => ?_) ?_
    go_simp; (go_at_call 74; with_reducible refine (copyRows_any _ q c r1 _ HL1.out (by omega) HRS1.out (HF1.out.ext (hw1.trans (by (repeat' (first | (with_reducible exact Ext.refl _) | (with_reducible assumption) | (with_reducible refine Ext.alloc ?_ _) | (with_reducible refine Ext.drewN ?_ _) | (with_reducible refine Ext.drew ?_) | (with_reducible refine Ext.setCell ?_ ?_ _) | (with_reducible exact Nat.le_refl _) | (with_reducible exact Nat.le_succ _) | (with_reducible refine Ext.trans ?_ (by assumption)) | (simp; done) | (simp; omega))))))).mono ?_); rintro e w' ⟨a6, c6, vs6, rfl, hg6, hb6⟩; have hs6 := hb6.size; (try simp at hs6); obtain ⟨hcQ, hfQ⟩ := bcell hb6.below; have zQ : w1.heap.size < w'.heap.size + 1 := by omega; (try have zR : w1.heap.size < w'.heap.size := by omega)
    refine hK.out _ _ ?_ (fun hH2 => ?_)
    · (try dsimp only)
      ((repeat' (refine And.intro ?_ ?_)) <;> (first | (with_reducible assumption) | (exact Ext.cell (w := w1) (by (repeat' (first | (with_reducible exact Ext.refl _) | (with_reducible assumption) | (with_reducible refine Ext.alloc ?_ _) | (with_reducible refine Ext.drewN ?_ _) | (with_reducible refine Ext.drew ?_) | (with_reducible refine Ext.setCell ?_ ?_ _) | (with_reducible exact Nat.le_refl _) | (with_reducible exact Nat.le_succ _) | (with_reducible refine Ext.trans ?_ (by assumption)) | (simp; done) | (simp; omega)))) t0) | (exact Ext.cell (w := w1) (by (repeat' (first | (with_reducible exact Ext.refl _) | (with_reducible assumption) | (with_reducible refine Ext.alloc ?_ _) | (with_reducible refine Ext.drewN ?_ _) | (with_reducible refine Ext.drew ?_) | (with_reducible refine Ext.setCell ?_ ?_ _) | (with_reducible exact Nat.le_refl _) | (with_reducible exact Nat.le_succ _) | (with_reducible refine Ext.trans ?_ (by assumption)) | (simp; done) | (simp; omega)))) t1) | ((repeat' (first | (with_reducible exact Ext.refl _) | (with_reducible assumption) | (with_reducible refine Ext.alloc ?_ _) | (with_reducible refine Ext.drewN ?_ _) | (with_reducible refine Ext.drew ?_) | (with_reducible refine Ext.setCell ?_ ?_ _) | (with_reducible exact Nat.le_refl _) | (with_reducible exact Nat.le_succ _) | (with_reducible refine Ext.trans ?_ (by assumption)) | (simp; done) | (simp; omega))); done)))
    clear hK K hH1
    (try simp only [Act.put, List.setIfInBounds_toArray, List.set_cons_zero, List.set_cons_succ])
    refine take_l 7 (v := ?_) rfl (by kernel_rfl) (by kernel_rfl) (by kernel_rfl) (fun _ _ _ h => h) (by rfl) ?_ (by assumption) ?_
    rotate_left
    · (intro w hSw; (try dsimp only at hSw); go_simp; (try with_reducible rfl))
    (try simp only [Act.put, List.setIfInBounds_toArray, List.set_cons_zero, List.set_cons_succ])
    refine wpAnyH_ready (rs := [9]) (by kernel_rfl) (by simp) ?_
    refine cons_l (i := 9) rfl (fun K hK => ?_) ?_
    go_simp
    refine hK.out _ _ ?_ (fun hH3 => ?_)
    · (try dsimp only)
      ((repeat' (refine And.intro ?_ ?_)) <;> (first | (with_reducible assumption) | (exact Ext.cell (w := w1) (by (repeat' (first | (with_reducible exact Ext.refl _) | (with_reducible assumption) | (with_reducible refine Ext.alloc ?_ _) | (with_reducible refine Ext.drewN ?_ _) | (with_reducible refine Ext.drew ?_) | (with_reducible refine Ext.setCell ?_ ?_ _) | (with_reducible exact Nat.le_refl _) | (with_reducible exact Nat.le_succ _) | (with_reducible refine Ext.trans ?_ (by assumption)) | (simp; done) | (simp; omega)))) t0) | (exact Ext.cell (w := w1) (by (repeat' (first | (with_reducible exact Ext.refl _) | (with_reducible assumption) | (with_reducible refine Ext.alloc ?_ _) | (with_reducible refine Ext.drewN ?_ _) | (with_reducible refine Ext.drew ?_) | (with_reducible refine Ext.setCell ?_ ?_ _) | (with_reducible exact Nat.le_refl _) | (with_reducible exact Nat.le_succ _) | (with_reducible refine Ext.trans ?_ (by assumption)) | (simp; done) | (simp; omega)))) t1) | ((repeat' (first | (with_reducible exact Ext.refl _) | (with_reducible assumption) | (with_reducible refine Ext.alloc ?_ _) | (with_reducible refine Ext.drewN ?_ _) | (with_reducible refine Ext.drew ?_) | (with_reducible refine Ext.setCell ?_ ?_ _) | (with_reducible exact Nat.le_refl _) | (with_reducible exact Nat.le_succ _) | (with_reducible refine Ext.trans ?_ (by assumption)) | (simp; done) | (simp; omega))); done)))
    clear hK K hH2
    (try simp only [Act.put, List.setIfInBounds_toArray, List.set_cons_zero, List.set_cons_succ])
    refine wpAnyH_done (by kernel_rfl) ?_ _
    rotate_left
    exact AllReadyH.nil
    exact AllReadyH.nil
    exact AllReadyH.nil
    all_goals
      first
        | (have hx3 : Ext w1 (w'.alloc (.cells #[.bool u, .slice a6 q c6] 26)) := hH3.1
           have hr3 := RowAt.new w' 26 #[.bool u, .slice a6 q c6]
           have hg3 := (hg6.ext ((Ext.refl w').alloc (.cells #[.bool u, .slice a6 q c6] 26))).wide (lo' := w1.heap.size) (hi' := (w'.alloc (.cells #[.bool u, .slice a6 q c6] 26)).heap.size) (by simp) (by simp)
           have hB : w1.heap.size ≤ w'.heap.size := by omega
           clear hH3 hg6 hb6 hcQ hfQ hs6 zQ
           try clear zR
           generalize w'.heap.size = B1 at hr3 hB ⊢
           generalize (w'.alloc (.cells #[.bool u, .slice a6 q c6] 26)) = w3 at hr3 hx3 hg3 ⊢
           clear w')
        | (have hx3 : Ext w1 ((w'.setCell ⟨w1.heap.size, 0, none⟩ (.bool u)).setCell ⟨w1.heap.size, 1, none⟩ (.slice a6 q c6)) := hH3.1
           have hr3 : RowAt ((w'.setCell ⟨w1.heap.size, 0, none⟩ (.bool u)).setCell ⟨w1.heap.size, 1, none⟩ (.slice a6 q c6)) w1.heap.size 26 #[.bool u, .slice a6 q c6] := (((RowAt.new w1 26 #[.bool false, .slice none 0 0]).ext (((Ext.refl _).drew).trans hb6)).set 0 (.bool u)).set 1 (.slice a6 q c6)
           have hg3 := ((hg6.set (p := ⟨w1.heap.size, 0, none⟩) (.inl (by simp)) (.bool u)).set (p := ⟨w1.heap.size, 1, none⟩) (.inl (by simp)) (.slice a6 q c6)).wide (lo' := w1.heap.size) (hi' := ((w'.setCell ⟨w1.heap.size, 0, none⟩ (.bool u)).setCell ⟨w1.heap.size, 1, none⟩ (.slice a6 q c6)).heap.size) (by simp) (by simp [size_setCell'])
           have hB : w1.heap.size ≤ w1.heap.size := Nat.le_refl _
           clear hH3 hg6 hb6 hcQ hfQ hs6 zQ
           try clear zR
           generalize ((w'.setCell ⟨w1.heap.size, 0, none⟩ (.bool u)).setCell ⟨w1.heap.size, 1, none⟩ (.slice a6 q c6)) = w3 at hr3 hx3 hg3 ⊢
           clear w'
           obtain ⟨B1, hB1⟩ : ∃ B, B = w1.heap.size := ⟨_, rfl⟩
           rw [← hB1] at hr3 ⊢
           replace hB : w1.heap.size ≤ B1 := by omega
           clear hB1)
    all_goals
      have t30 := hx3.cell t0
      have t31 := hx3.cell t1
      have hw3 := hw1.trans hx3
      have zB1 := hr3.lt
      have zs3 := hx3.size
      have HR3 := Lib.hid hr3; clear hr3
      have HG3 := Lib.hid hg3; clear hg3
      have hE3 := Ext.refl w3
      go_wp2_with fail
      refine wp_region_held_drew (S := (fun w' => Ext w3 w' ∧ w'.cell? ⟨w.heap.size, 0, none⟩ = some (.bool u) ∧ w'.cell? ⟨w.heap.size, 1, none⟩ = some (.slice (some ⟨b, off, none⟩) n c))) (by kernel_rfl) ?_ (fun hH0 => ?_)
      · (try dsimp only)
        ((repeat' (refine And.intro ?_ ?_)) <;> (first | (with_reducible assumption) | (exact Ext.cell (w := w3) (by (repeat' (first | (with_reducible exact Ext.refl _) | (with_reducible assumption) | (with_reducible refine Ext.alloc ?_ _) | (with_reducible refine Ext.drewN ?_ _) | (with_reducible refine Ext.drew ?_) | (with_reducible refine Ext.setCell ?_ ?_ _) | (with_reducible exact Nat.le_refl _) | (with_reducible exact Nat.le_succ _) | (with_reducible refine Ext.trans ?_ (by assumption)) | (simp; done) | (simp; omega)))) t30) | (exact Ext.cell (w := w3) (by (repeat' (first | (with_reducible exact Ext.refl _) | (with_reducible assumption) | (with_reducible refine Ext.alloc ?_ _) | (with_reducible refine Ext.drewN ?_ _) | (with_reducible refine Ext.drew ?_) | (with_reducible refine Ext.setCell ?_ ?_ _) | (with_reducible exact Nat.le_refl _) | (with_reducible exact Nat.le_succ _) | (with_reducible refine Ext.trans ?_ (by assumption)) | (simp; done) | (simp; omega)))) t31) | ((repeat' (first | (with_reducible exact Ext.refl _) | (with_reducible assumption) | (with_reducible refine Ext.alloc ?_ _) | (with_reducible refine Ext.drewN ?_ _) | (with_reducible refine Ext.drew ?_) | (with_reducible refine Ext.setCell ?_ ?_ _) | (with_reducible exact Nat.le_refl _) | (with_reducible exact Nat.le_succ _) | (with_reducible refine Ext.trans ?_ (by assumption)) | (simp; done) | (simp; omega))); done)))
      refine take_l 0 (v := ?_) rfl (by kernel_rfl) (by kernel_rfl) (by kernel_rfl) (fun _ _ _ h => h) (by rfl) ?_ (by assumption) ?_
      rotate_left
      · (intro w hSw; (try dsimp only at hSw); go_simp; (try with_reducible rfl))
      (try simp only [Act.put, List.setIfInBounds_toArray, List.set_cons_zero, List.set_cons_succ])
      refine take_l 1 (v := ?_) rfl (by kernel_rfl) (by kernel_rfl) (by kernel_rfl) (fun _ _ _ h => h) (by rfl) ?_ (by assumption) ?_
      rotate_left
      · (intro w hSw; (try dsimp only at hSw); go_simp; (try with_reducible rfl))
      (try simp only [Act.put, List.setIfInBounds_toArray, List.set_cons_zero, List.set_cons_succ])
      refine take_l 2 (v := ?_) rfl (by kernel_rfl) (by kernel_rfl) (by kernel_rfl) (fun _ _ _ h => h) (by rfl) ?_ (by assumption) ?_
      rotate_left
      · (intro w hSw; (try dsimp only at hSw); go_simp; (try with_reducible rfl))
      (try simp only [Act.put, List.setIfInBounds_toArray, List.set_cons_zero, List.set_cons_succ])
      refine take_l 3 (v := ?_) rfl (by kernel_rfl) (by kernel_rfl) (by kernel_rfl) (fun _ _ _ h => h) (by rfl) ?_ (by assumption) ?_
      rotate_left
      · (intro w hSw; (try dsimp only at hSw); go_simp; (try with_reducible rfl))
      (try simp only [Act.put, List.setIfInBounds_toArray, List.set_cons_zero, List.set_cons_succ])
      refine take_l 4 (v := ?_) rfl (by kernel_rfl) (by kernel_rfl) (by kernel_rfl) (fun _ _ _ h => h) (by rfl) ?_ (by assumption) ?_
      rotate_left
      · (intro w hSw; (try dsimp only at hSw); go_simp; (try with_reducible rfl))
      (try simp only [Act.put, List.setIfInBounds_toArray, List.set_cons_zero, List.set_cons_succ])
      refine take_l 5 (v := ?_) rfl (by kernel_rfl) (by kernel_rfl) (by kernel_rfl) (fun _ _ _ h => h) (by rfl) ?_ (by assumption) ?_
      rotate_left
      · (intro w hSw; (try dsimp only at hSw); go_simp; (try with_reducible rfl))
      (try simp only [Act.put, List.setIfInBounds_toArray, List.set_cons_zero, List.set_cons_succ])
      refine wpAnyH_ready (rs := [6, 8]) (by kernel_rfl) (by simp) ?_
      refine cons_l (i := 6) rfl (fun K hK => ?_) ?_
      go_simp; (go_at_call 74; with_reducible refine (copyRows_any _ (n - q) (c - q) r2 _ HL2.out (by omega) HRS2.out (HF2.out.ext (hw3.trans (by (repeat' (first | (with_reducible exact Ext.refl _) | (with_reducible assumption) | (with_reducible refine Ext.alloc ?_ _) | (with_reducible refine Ext.drewN ?_ _) | (with_reducible refine Ext.drew ?_) | (with_reducible refine Ext.setCell ?_ ?_ _) | (with_reducible exact Nat.le_refl _) | (with_reducible exact Nat.le_succ _) | (with_reducible refine Ext.trans ?_ (by assumption)) | (simp; done) | (simp; omega))))))).mono ?_); rintro e w' ⟨a7, c7, vs7, rfl, hg7, hb7⟩; have hs7 := hb7.size; (try simp at hs7); obtain ⟨hcQ, hfQ⟩ := bcell hb7.below; have zQ : w3.heap.size < w'.heap.size + 1 := by omega; (try have zR : w3.heap.size < w'.heap.size := by omega)
      refine hK.out _ _ ?_ (fun hH1 => ?_)
      · (try dsimp only)
        ((repeat' (refine And.intro ?_ ?_)) <;> (first | (with_reducible assumption) | (exact Ext.cell (w := w3) (by (repeat' (first | (with_reducible exact Ext.refl _) | (with_reducible assumption) | (with_reducible refine Ext.alloc ?_ _) | (with_reducible refine Ext.drewN ?_ _) | (with_reducible refine Ext.drew ?_) | (with_reducible refine Ext.setCell ?_ ?_ _) | (with_reducible exact Nat.le_refl _) | (with_reducible exact Nat.le_succ _) | (with_reducible refine Ext.trans ?_ (by assumption)) | (simp; done) | (simp; omega)))) t30) | (exact Ext.cell (w := w3) (by (repeat' (first | (with_reducible exact Ext.refl _) | (with_reducible assumption) | (with_reducible refine Ext.alloc ?_ _) | (with_reducible refine Ext.drewN ?_ _) | (with_reducible refine Ext.drew ?_) | (with_reducible refine Ext.setCell ?_ ?_ _) | (with_reducible exact Nat.le_refl _) | (with_reducible exact Nat.le_succ _) | (with_reducible refine Ext.trans ?_ (by assumption)) | (simp; done) | (simp; omega)))) t31) | ((repeat' (first | (with_reducible exact Ext.refl _) | (with_reducible assumption) | (with_reducible refine Ext.alloc ?_ _) | (with_reducible refine Ext.drewN ?_ _) | (with_reducible refine Ext.drew ?_) | (with_reducible refine Ext.setCell ?_ ?_ _) | (with_reducible exact Nat.le_refl _) | (with_reducible exact Nat.le_succ _) | (with_reducible refine Ext.trans ?_ (by assumption)) | (simp; done) | (simp; omega))); done)))
      clear hK K hH0
      (try simp only [Act.put, List.setIfInBounds_toArray, List.set_cons_zero, List.set_cons_succ])
      refine take_l 7 (v := ?_) rfl (by kernel_rfl) (by kernel_rfl) (by kernel_rfl) (fun _ _ _ h => h) (by rfl) ?_ (by assumption) ?_
      rotate_left
      · (intro w hSw; (try dsimp only at hSw); go_simp; (try with_reducible rfl))
      (try simp only [Act.put, List.setIfInBounds_toArray, List.set_cons_zero, List.set_cons_succ])
      refine wpAnyH_ready (rs := [8]) (by kernel_rfl) (by simp) ?_
      refine cons_l (i := 8) rfl (fun K hK => ?_) ?_
      go_simp
      refine hK.out _ _ ?_ (fun hH2 => ?_)
      · (try dsimp only)
        ((repeat' (refine And.intro ?_ ?_)) <;> (first | (with_reducible assumption) | (exact Ext.cell (w := w3) (by (repeat' (first | (with_reducible exact Ext.refl _) | (with_reducible assumption) | (with_reducible refine Ext.alloc ?_ _) | (with_reducible refine Ext.drewN ?_ _) | (with_reducible refine Ext.drew ?_) | (with_reducible refine Ext.setCell ?_ ?_ _) | (with_reducible exact Nat.le_refl _) | (with_reducible exact Nat.le_succ _) | (with_reducible refine Ext.trans ?_ (by assumption)) | (simp; done) | (simp; omega)))) t30) | (exact Ext.cell (w := w3) (by (repeat' (first | (with_reducible exact Ext.refl _) | (with_reducible assumption) | (with_reducible refine Ext.alloc ?_ _) | (with_reducible refine Ext.drewN ?_ _) | (with_reducible refine Ext.drew ?_) | (with_reducible refine Ext.setCell ?_ ?_ _) | (with_reducible exact Nat.le_refl _) | (with_reducible exact Nat.le_succ _) | (with_reducible refine Ext.trans ?_ (by assumption)) | (simp; done) | (simp; omega)))) t31) | ((repeat' (first | (with_reducible exact Ext.refl _) | (with_reducible assumption) | (with_reducible refine Ext.alloc ?_ _) | (with_reducible refine Ext.drewN ?_ _) | (with_reducible refine Ext.drew ?_) | (with_reducible refine Ext.setCell ?_ ?_ _) | (with_reducible exact Nat.le_refl _) | (with_reducible exact Nat.le_succ _) | (with_reducible refine Ext.trans ?_ (by assumption)) | (simp; done) | (simp; omega))); done)))
      clear hK K hH1
      (try simp only [Act.put, List.setIfInBounds_toArray, List.set_cons_zero, List.set_cons_succ])
      refine wpAnyH_ready (rs := [9]) (by kernel_rfl) (by simp) ?_
      refine cons_l (i := 9) rfl (fun K hK => ?_) ?_
      go_simp
      refine hK.out _ _ ?_ (fun hH3 => ?_)
      · (try dsimp only)
        ((repeat' (refine And.intro ?_ ?_)) <;> (first | (with_reducible assumption) | (exact Ext.cell (w := w3) (by (repeat' (first | (with_reducible exact Ext.refl _) | (with_reducible assumption) | (with_reducible refine Ext.alloc ?_ _) | (with_reducible refine Ext.drewN ?_ _) | (with_reducible refine Ext.drew ?_) | (with_reducible refine Ext.setCell ?_ ?_ _) | (with_reducible exact Nat.le_refl _) | (with_reducible exact Nat.le_succ _) | (with_reducible refine Ext.trans ?_ (by assumption)) | (simp; done) | (simp; omega)))) t30) | (exact Ext.cell (w := w3) (by (repeat' (first | (with_reducible exact Ext.refl _) | (with_reducible assumption) | (with_reducible refine Ext.alloc ?_ _) | (with_reducible refine Ext.drewN ?_ _) | (with_reducible refine Ext.drew ?_) | (with_reducible refine Ext.setCell ?_ ?_ _) | (with_reducible exact Nat.le_refl _) | (with_reducible exact Nat.le_succ _) | (with_reducible refine Ext.trans ?_ (by assumption)) | (simp; done) | (simp; omega)))) t31) | ((repeat' (first | (with_reducible exact Ext.refl _) | (with_reducible assumption) | (with_reducible refine Ext.alloc ?_ _) | (with_reducible refine Ext.drewN ?_ _) | (with_reducible refine Ext.drew ?_) | (with_reducible refine Ext.setCell ?_ ?_ _) | (with_reducible exact Nat.le_refl _) | (with_reducible exact Nat.le_succ _) | (with_reducible refine Ext.trans ?_ (by assumption)) | (simp; done) | (simp; omega))); done)))
      clear hK K hH2
      (try simp only [Act.put, List.setIfInBounds_toArray, List.set_cons_zero, List.set_cons_succ])
      refine wpAnyH_done (by kernel_rfl) ?_ _
      rotate_left
      exact AllReadyH.nil
      exact AllReadyH.nil
      refine cons_l (i := 8) rfl (fun K hK => ?_) ?_
      go_simp
      refine hK.out _ _ ?_ (fun hH1 => ?_)
      · (try dsimp only)
        ((repeat' (refine And.intro ?_ ?_)) <;> (first | (with_reducible assumption) | (exact Ext.cell (w := w3) (by (repeat' (first | (with_reducible exact Ext.refl _) | (with_reducible assumption) | (with_reducible refine Ext.alloc ?_ _) | (with_reducible refine Ext.drewN ?_ _) | (with_reducible refine Ext.drew ?_) | (with_reducible refine Ext.setCell ?_ ?_ _) | (with_reducible exact Nat.le_refl _) | (with_reducible exact Nat.le_succ _) | (with_reducible refine Ext.trans ?_ (by assumption)) | (simp; done) | (simp; omega)))) t30) | (exact Ext.cell (w := w3) (by (repeat' (first | (with_reducible exact Ext.refl _) | (with_reducible assumption) | (with_reducible refine Ext.alloc ?_ _) | (with_reducible refine Ext.drewN ?_ _) | (with_reducible refine Ext.drew ?_) | (with_reducible refine Ext.setCell ?_ ?_ _) | (with_reducible exact Nat.le_refl _) | (with_reducible exact Nat.le_succ _) | (with_reducible refine Ext.trans ?_ (by assumption)) | (simp; done) | (simp; omega)))) t31) | ((repeat' (first | (with_reducible exact Ext.refl _) | (with_reducible assumption) | (with_reducible refine Ext.alloc ?_ _) | (with_reducible refine Ext.drewN ?_ _) | (with_reducible refine Ext.drew ?_) | (with_reducible refine Ext.setCell ?_ ?_ _) | (with_reducible exact Nat.le_refl _) | (with_reducible exact Nat.le_succ _) | (with_reducible refine Ext.trans ?_ (by assumption)) | (simp; done) | (simp; omega))); done)))
      clear hK K hH0
      (try simp only [Act.put, List.setIfInBounds_toArray, List.set_cons_zero, List.set_cons_succ])
      refine wpAnyH_ready (rs := [6]) (by kernel_rfl) (by simp) ?_
      refine cons_l (i := 6) rfl (fun K hK => ?_) ?_
      go_simp; (go_at_call 74; with_reducible refine (copyRows_any _ (n - q) (c - q) r2 _ HL2.out (by omega) HRS2.out (HF2.out.ext (hw3.trans (by (repeat' (first | (with_reducible exact Ext.refl _) | (with_reducible assumption) | (with_reducible refine Ext.alloc ?_ _) | (with_reducible refine Ext.drewN ?_ _) | (with_reducible refine Ext.drew ?_) | (with_reducible refine Ext.setCell ?_ ?_ _) | (with_reducible exact Nat.le_refl _) | (with_reducible exact Nat.le_succ _) | (with_reducible refine Ext.trans ?_ (by assumption)) | (simp; done) | (simp; omega))))))).mono ?_); rintro e w' ⟨a7, c7, vs7, rfl, hg7, hb7⟩; have hs7 := hb7.size; (try simp at hs7); obtain ⟨hcQ, hfQ⟩ := bcell hb7.below; have zQ : w3.heap.size < w'.heap.size + 1 := by omega; (try have zR : w3.heap.size < w'.heap.size := by omega)
      refine hK.out _ _ ?_ (fun hH2 => ?_)
      · (try dsimp only)
        ((repeat' (refine And.intro ?_ ?_)) <;> (first | (with_reducible assumption) | (exact Ext.cell (w := w3) (by (repeat' (first | (with_reducible exact Ext.refl _) | (with_reducible assumption) | (with_reducible refine Ext.alloc ?_ _) | (with_reducible refine Ext.drewN ?_ _) | (with_reducible refine Ext.drew ?_) | (with_reducible refine Ext.setCell ?_ ?_ _) | (with_reducible exact Nat.le_refl _) | (with_reducible exact Nat.le_succ _) | (with_reducible refine Ext.trans ?_ (by assumption)) | (simp; done) | (simp; omega)))) t30) | (exact Ext.cell (w := w3) (by (repeat' (first | (with_reducible exact Ext.refl _) | (with_reducible assumption) | (with_reducible refine Ext.alloc ?_ _) | (with_reducible refine Ext.drewN ?_ _) | (with_reducible refine Ext.drew ?_) | (with_reducible refine Ext.setCell ?_ ?_ _) | (with_reducible exact Nat.le_refl _) | (with_reducible exact Nat.le_succ _) | (with_reducible refine Ext.trans ?_ (by assumption)) | (simp; done) | (simp; omega)))) t31) | ((repeat' (first | (with_reducible exact Ext.refl _) | (with_reducible assumption) | (with_reducible refine Ext.alloc ?_ _) | (with_reducible refine Ext.drewN ?_ _) | (with_reducible refine Ext.drew ?_) | (with_reducible refine Ext.setCell ?_ ?_ _) | (with_reducible exact Nat.le_refl _) | (with_reducible exact Nat.le_succ _) | (with_reducible refine Ext.trans ?_ (by assumption)) | (simp; done) | (simp; omega))); done)))
      clear hK K hH1
      (try simp only [Act.put, List.setIfInBounds_toArray, List.set_cons_zero, List.set_cons_succ])
      refine take_l 7 (v := ?_) rfl (by kernel_rfl) (by kernel_rfl) (by kernel_rfl) (fun _ _ _ h => h) (by rfl) ?_ (by assumption) ?_
      rotate_left
      · (intro w hSw; (try dsimp only at hSw); go_simp; (try with_reducible rfl))
      (try simp only [Act.put, List.setIfInBounds_toArray, List.set_cons_zero, List.set_cons_succ])
      refine wpAnyH_ready (rs := [9]) (by kernel_rfl) (by simp) ?_
      refine cons_l (i := 9) rfl (fun K hK => ?_) ?_
      go_simp
      refine hK.out _ _ ?_ (fun hH3 => ?_)
      · (try dsimp only)
        ((repeat' (refine And.intro ?_ ?_)) <;> (first | (with_reducible assumption) | (exact Ext.cell (w := w3) (by (repeat' (first | (with_reducible exact Ext.refl _) | (with_reducible assumption) | (with_reducible refine Ext.alloc ?_ _) | (with_reducible refine Ext.drewN ?_ _) | (with_reducible refine Ext.drew ?_) | (with_reducible refine Ext.setCell ?_ ?_ _) | (with_reducible exact Nat.le_refl _) | (with_reducible exact Nat.le_succ _) | (with_reducible refine Ext.trans ?_ (by assumption)) | (simp; done) | (simp; omega)))) t30) | (exact Ext.cell (w := w3) (by (repeat' (first | (with_reducible exact Ext.refl _) | (with_reducible assumption) | (with_reducible refine Ext.alloc ?_ _) | (with_reducible refine Ext.drewN ?_ _) | (with_reducible refine Ext.drew ?_) | (with_reducible refine Ext.setCell ?_ ?_ _) | (with_reducible exact Nat.le_refl _) | (with_reducible exact Nat.le_succ _) | (with_reducible refine Ext.trans ?_ (by assumption)) | (simp; done) | (simp; omega)))) t31) | ((repeat' (first | (with_reducible exact Ext.refl _) | (with_reducible assumption) | (with_reducible refine Ext.alloc ?_ _) | (with_reducible refine Ext.drewN ?_ _) | (with_reducible refine Ext.drew ?_) | (with_reducible refine Ext.setCell ?_ ?_ _) | (with_reducible exact Nat.le_refl _) | (with_reducible exact Nat.le_succ _) | (with_reducible refine Ext.trans ?_ (by assumption)) | (simp; done) | (simp; omega))); done)))
      clear hK K hH2
      (try simp only [Act.put, List.setIfInBounds_toArray, List.set_cons_zero, List.set_cons_succ])
      refine wpAnyH_done (by kernel_rfl) ?_ _
      rotate_left
      exact AllReadyH.nil
      exact AllReadyH.nil
      exact AllReadyH.nil
      all_goals
        first
          | (have hx5 : Ext w3 (w'.alloc (.cells #[.bool u, .slice a7 (n - q) c7] 26)) := hH3.1
             have hr5 := RowAt.new w' 26 #[.bool u, .slice a7 (n - q) c7]
             have hg5 := (hg7.ext ((Ext.refl w').alloc (.cells #[.bool u, .slice a7 (n - q) c7] 26))).wide (lo' := w3.heap.size) (hi' := (w'.alloc (.cells #[.bool u, .slice a7 (n - q) c7] 26)).heap.size) (by simp) (by simp)
             have hB2 : w3.heap.size ≤ w'.heap.size := by omega
             clear hH3 hg7 hb7 hcQ hfQ hs7 zQ
             try clear zR
             generalize w'.heap.size = B2 at hr5 hB2 ⊢
             generalize (w'.alloc (.cells #[.bool u, .slice a7 (n - q) c7] 26)) = w5 at hr5 hx5 hg5 ⊢
             clear w')
          | (have hx5 : Ext w3 ((w'.setCell ⟨w3.heap.size, 0, none⟩ (.bool u)).setCell ⟨w3.heap.size, 1, none⟩ (.slice a7 (n - q) c7)) := hH3.1
             have hr5 : RowAt ((w'.setCell ⟨w3.heap.size, 0, none⟩ (.bool u)).setCell ⟨w3.heap.size, 1, none⟩ (.slice a7 (n - q) c7)) w3.heap.size 26 #[.bool u, .slice a7 (n - q) c7] := (((RowAt.new w3 26 #[.bool false, .slice none 0 0]).ext (((Ext.refl _).drew).trans hb7)).set 0 (.bool u)).set 1 (.slice a7 (n - q) c7)
             have hg5 := ((hg7.set (p := ⟨w3.heap.size, 0, none⟩) (.inl (by simp)) (.bool u)).set (p := ⟨w3.heap.size, 1, none⟩) (.inl (by simp)) (.slice a7 (n - q) c7)).wide (lo' := w3.heap.size) (hi' := ((w'.setCell ⟨w3.heap.size, 0, none⟩ (.bool u)).setCell ⟨w3.heap.size, 1, none⟩ (.slice a7 (n - q) c7)).heap.size) (by simp) (by simp [size_setCell'])
             clear hH3 hg7 hb7 hcQ hfQ hs7 zQ
             try clear zR
             generalize ((w'.setCell ⟨w3.heap.size, 0, none⟩ (.bool u)).setCell ⟨w3.heap.size, 1, none⟩ (.slice a7 (n - q) c7)) = w5 at hr5 hx5 hg5 ⊢
             clear w'
             obtain ⟨B2, hB2⟩ : ∃ B, B = w3.heap.size := ⟨_, rfl⟩
             rw [← hB2] at hr5 ⊢
             replace hB2 : w3.heap.size ≤ B2 := by omega)
      all_goals
        have r3 := HR3.out.ext hx5
        have m10 : w5.cell? ⟨B1, 0, none⟩ = some (.bool u) := r3.cell rfl
        have m11 : w5.cell? ⟨B1, 1, none⟩ = some (.slice a6 q c6) := r3.cell rfl
        have m20 : w5.cell? ⟨B2, 0, none⟩ = some (.bool u) := hr5.cell rfl
        have m21 : w5.cell? ⟨B2, 1, none⟩ = some (.slice a7 (n - q) c7) := hr5.cell rfl
        have q1 := HB1.out.ext (hx3.trans hx5)
        have q2 := HB2.out.ext (hx3.trans hx5)
        have q10 : w5.cell? ⟨w.heap.size + 1, 0, none⟩ = some (.bool false) := q1.cell rfl
        have q11 : w5.cell? ⟨w.heap.size + 1, 1, none⟩ = some (.slice none 0 0) := q1.cell rfl
        have q20 : w5.cell? ⟨w.heap.size + 1 + 1, 0, none⟩ = some (.bool false) := q2.cell rfl
        have q21 : w5.cell? ⟨w.heap.size + 1 + 1, 1, none⟩ = some (.slice none 0 0) := q2.cell rfl
        have f10 := q1.frozen 0
        have f11 := q1.frozen 1
        have f20 := q2.frozen 0
        have f21 := q2.frozen 1
        have zs5 := hx5.size
        have HG5 := Lib.hid hg5; clear hg5
        have HR5 := Lib.hid hr5; clear hr5
        have hw5 := hw3.trans hx5
        clear r3 q1 q2
        go_wp2_with fail
        refine wp_region_held_drew (S := (fun w' => w'.cell? ⟨B1, 0, none⟩ = some (.bool u) ∧ w'.cell? ⟨B1, 1, none⟩ = some (.slice a6 q c6) ∧ w'.cell? ⟨B2, 0, none⟩ = some (.bool u) ∧ w'.cell? ⟨B2, 1, none⟩ = some (.slice a7 (n - q) c7))) (by kernel_rfl) ?_ (fun hH0 => ?_)
        · (try dsimp only)
          (refine ⟨?_, ?_, ?_, ?_⟩ <;> (repeat' (first | (with_reducible assumption) | (with_reducible refine cell_set ?_ ?_) | (with_reducible refine cell_drew ?_) | (dsimp only; omega))))
        refine take_l 0 (v := ?_) rfl (by kernel_rfl) (by kernel_rfl) (by kernel_rfl) (fun _ _ _ h => h) (by rfl) ?_ (by assumption) ?_
        rotate_left
        · (intro w hSw; (try dsimp only at hSw); go_simp; (try with_reducible rfl))
        (try simp only [Act.put, List.setIfInBounds_toArray, List.set_cons_zero, List.set_cons_succ])
        refine take_l 1 (v := ?_) rfl (by kernel_rfl) (by kernel_rfl) (by kernel_rfl) (fun _ _ _ h => h) (by rfl) ?_ (by assumption) ?_
        rotate_left
        · (intro w hSw; (try dsimp only at hSw); go_simp; (try with_reducible rfl))
        (try simp only [Act.put, List.setIfInBounds_toArray, List.set_cons_zero, List.set_cons_succ])
        refine wpAnyH_ready (rs := [2]) (by kernel_rfl) (by simp) ?_
        refine cons_l (i := 2) rfl (fun K hK => ?_) ?_
        go_simp
        refine hK.out _ _ ?_ (fun hH1 => ?_)
        · (try dsimp only)
          (refine ⟨?_, ?_, ?_, ?_⟩ <;> (repeat' (first | (with_reducible assumption) | (with_reducible refine cell_set ?_ ?_) | (with_reducible refine cell_drew ?_) | (dsimp only; omega))))
        clear hK K hH0
        (try simp only [Act.put, List.setIfInBounds_toArray, List.set_cons_zero, List.set_cons_succ])
        refine wpAnyH_ready (rs := [3]) (by kernel_rfl) (by simp) ?_
        refine cons_l (i := 3) rfl (fun K hK => ?_) ?_
        go_simp
        refine hK.out _ _ ?_ (fun hH2 => ?_)
        · (try dsimp only)
          (refine ⟨?_, ?_, ?_, ?_⟩ <;> (repeat' (first | (with_reducible assumption) | (with_reducible refine cell_set ?_ ?_) | (with_reducible refine cell_drew ?_) | (dsimp only; omega))))
        clear hK K hH1
        (try simp only [Act.put, List.setIfInBounds_toArray, List.set_cons_zero, List.set_cons_succ])
        refine take_l 4 (v := ?_) rfl (by kernel_rfl) (by kernel_rfl) (by kernel_rfl) (fun _ _ _ h => h) (by rfl) ?_ (by assumption) ?_
        rotate_left
        · (intro w hSw; (try dsimp only at hSw); go_simp; (try with_reducible rfl))
        (try simp only [Act.put, List.setIfInBounds_toArray, List.set_cons_zero, List.set_cons_succ])
        refine wpAnyH_done (by kernel_rfl) ?_ _
        rotate_left
        exact AllReadyH.nil
        exact AllReadyH.nil
        all_goals
          go_wp2
          refine bodyPost_ret (v := .tuple #[.agg #[.bool u, .slice a6 q c6], .agg #[.bool u, .slice a7 (n - q) c7], .bool true]) (by simp [results, Try.results34, go_sem, *]) rfl ?_
          refine ⟨a6, c6, a7, c7, w3.heap.size, by rw [HN1.out, HN2.out], ?_, ?_, ⟨hw3.size, ?_⟩, ?_⟩
          · exact (((((HG3.out.ext hx5).set (p := ⟨w.heap.size + 1, 0, none⟩) (.inl (by simp; try omega)) _).set (p := ⟨w.heap.size + 1, 1, none⟩) (.inl (by simp; try omega)) _).set (p := ⟨w.heap.size + 1 + 1, 0, none⟩) (.inl (by simp; try omega)) _).set (p := ⟨w.heap.size + 1 + 1, 1, none⟩) (.inl (by simp; try omega)) _).ownAt.wide (by omega) (Nat.le_refl _)
          · exact (((((HG5.out.set (p := ⟨w.heap.size + 1, 0, none⟩) (.inl (by simp; try omega)) _).set (p := ⟨w.heap.size + 1, 1, none⟩) (.inl (by simp; try omega)) _).set (p := ⟨w.heap.size + 1 + 1, 0, none⟩) (.inl (by simp; try omega)) _).set (p := ⟨w.heap.size + 1 + 1, 1, none⟩) (.inl (by simp; try omega)) _).wide (Nat.le_refl _) (by simp [size_setCell'])).ownAt
          · simp [size_setCell']; omega
          · (repeat' (first | (with_reducible exact Ext.refl _) | (with_reducible assumption) | (with_reducible refine Ext.alloc ?_ _) | (with_reducible refine Ext.drewN ?_ _) | (with_reducible refine Ext.drew ?_) | (with_reducible refine Ext.setCell ?_ ?_ _) | (with_reducible exact Nat.le_refl _) | (with_reducible exact Nat.le_succ _) | (with_reducible refine Ext.trans ?_ (by assumption)) | (simp; done) | (simp; omega)))
  · have e1 : divRes u rows k = (false, [], [], false) := by unfold divRes; rw [if_neg (by rw [htr, ← hn]; exact hgood)]
    rw [e1] at hR
    injection hR with hu hR
    injection hR with hr1 hR
    injection hR with hr2 hR
    subst hu hR hr1 hr2
    clear e1 htr
    have HN1 := Lib.hid (show n1 = 0 from hn1)
    have HN2 := Lib.hid (show n2 = 0 from hn2)
    clear hn1 hn2
    have HN := Lib.hid hn; clear hn
    rcases (by cases t <;> simp at hgood ⊢ <;> omega : t = false ∨ (t = true ∧ k < 1) ∨ (t = true ∧ 1 ≤ k ∧ (n : Int) - 1 < k)) with rfl | ⟨rfl, hk⟩ | ⟨rfl, hk1, hk⟩
    all_goals
      clear hgood
      go_enter Try.func34, Try.ntmps34
      go_wp2_with fail
      (with_reducible refine (OK.out ▸ implTrainOk_any _ _ _ _ rows _ HN.out HS.out HT.out (HF.out.ext (by (repeat' (first | (with_reducible exact Ext.refl _) | (with_reducible assumption) | (with_reducible refine Ext.alloc ?_ _) | (with_reducible refine Ext.drewN ?_ _) | (with_reducible refine Ext.drew ?_) | (with_reducible refine Ext.setCell ?_ ?_ _) | (with_reducible exact Nat.le_refl _) | (with_reducible exact Nat.le_succ _) | (with_reducible refine Ext.trans ?_ (by assumption)) | (simp; done) | (simp; omega)))))).mono ?_); rintro e w1 ⟨rfl, hb1⟩
      have x0_1 := hb1
      obtain ⟨hc0_1, hf0_1⟩ := bcell x0_1.below
      have z0_1_0 : w.heap.size < w1.heap.size := by have h := x0_1.size; simp at h; omega
      have z0_1_1 : w.heap.size + 1 < w1.heap.size := by have h := x0_1.size; simp at h; omega
      have z0_1_2 : w.heap.size + 1 + 1 < w1.heap.size := by have h := x0_1.size; simp at h; omega
      go_wp2
      refine bodyPost_ret (v := .tuple #[.agg #[.bool false, .slice none 0 0], .agg #[.bool false, .slice none 0 0], .bool false]) (by simp [results, Try.results34, go_sem, *]) rfl (Two.zero HN1.out HN2.out (by (repeat' (first | (with_reducible exact Ext.refl _) | (with_reducible assumption) | (with_reducible refine Ext.alloc ?_ _) | (with_reducible refine Ext.drewN ?_ _) | (with_reducible refine Ext.drew ?_) | (with_reducible refine Ext.setCell ?_ ?_ _) | (with_reducible exact Nat.le_refl _) | (with_reducible exact Nat.le_succ _) | (with_reducible refine Ext.trans ?_ (by assumption)) | (simp; done) | (simp; omega)))))
theorem implDivide_any (u1 R : Bool) (r1 r2 : List (List Bt)) (n1 n2 : Nat) (u : Bool) (a : Option Addr) (n c : Nat) (rows : List (List Bt)) (k : Int) (w : World) (hn : n = rows.length) (hnc : n ≤ c) (hc2 : c ≤ 1048576) (hrs : ∀ r ∈ rows, r.length ≤ 1048576) (ht : rows.flatten.length ≤ 1048576) (hf : RowsAt w a rows)
    (hR : divRes u rows k = (u1, r1, r2, R)) (hn1 : n1 = r1.length) (hn2 : n2 = r2.length) :
    Calls Try.prog 34 #[.agg #[.bool u, .slice a n c], .int .i64 k] w fun e w' => Two w w' u1 R r1 r2 n1 n2 e :=
  implDivideC_any u1 R r1 r2 n1 n2 u a n c rows k w hn hnc (by omega) (by omega) hrs ht hf hR hn1 hn2
end Go.Proofs.Ytmcmialaofckkaa
