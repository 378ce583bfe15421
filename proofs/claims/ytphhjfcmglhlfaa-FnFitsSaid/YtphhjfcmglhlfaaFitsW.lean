/- Trains that fit into a chamber fit without the last one, and into a longer chamber. -/
import Derived.Test.YtphhjfcmglhlfaaProg
import Derived.Test.YtphhjfcmglhlfaaDrawLk
import Derived.Deep.RegionHeld3
namespace Go.Proofs.Ytphhjfcmglhlfaa
open Go.RowKit
set_option linter.unusedSimpArgs false
set_option linter.unusedVariables false

theorem TrainsAt.take {w : World} {a : Option Addr} {ts : List Tn} (h : TrainsAt w a ts) (j : Nat) : TrainsAt w a (ts.take j) := fun k hk => by
  have hk2 : k < ts.length := by rw [List.length_take] at hk; omega
  rw [List.getElem_take]
  exact h k hk2
theorem GT.cap {w : World} {lo hi n c : Nat} {a : Option Addr} {es : List (Bool × Value)} {ts : List Tn} (h : GT w lo hi (.slice a n c) es ts) : n ≤ c ∧ c ≤ 9223372036854775807 := by
  rcases h.2.1.2 with ⟨e, hn⟩ | ⟨g, cap, cur, e, hb, hheap, hnc, hcm, hcs, htake⟩
  · injection e with e1 e2 e3
    omega
  · injection e with e1 e2 e3
    unfold maxLen at hcm
    omega
theorem fitB_longer {L L' W : Int} (h : L ≤ L') : ∀ (ts : List Tn) (k : Nat) (tot wide long : Int), fitB L W k tot wide long ts = true → fitB L' W k tot wide long ts = true
  | [], k, tot, wide, long, hf => by
    simp only [fitB, decide_eq_true_eq] at hf ⊢
    omega
  | t :: ts, k, tot, wide, long, hf => by
    unfold fitB at hf ⊢
    split
    · rw [if_pos (by assumption)] at hf
      cases hf
    · rename_i h1
      rw [if_neg h1] at hf
      split
      · rename_i h2
        rw [if_pos h2] at hf
        exact fitB_longer h ts _ _ _ _ hf
      · rename_i h2
        rw [if_neg h2] at hf
        exact fitB_longer h ts _ _ _ _ hf
theorem fits_longer {L L' W : Int} {ts : List Tn} (h : L ≤ L') (hf : fits L W ts = true) : fits L' W ts = true := by
  unfold fits at hf ⊢
  rw [Bool.and_eq_true] at hf ⊢
  exact ⟨hf.1, fitB_longer h ts _ _ _ _ hf.2⟩
theorem fitB_init {L W : Int} (t : Tn) : ∀ (ts : List Tn) (k : Nat) (tot wide long : Int), fitB L W k tot wide long (ts ++ [t]) = true → fitB L W k tot wide long ts = true
  | [], k, tot, wide, long, hf => by
    have hb := lengthOf_b t.2
    simp only [List.nil_append, fitB] at hf ⊢
    split at hf
    · cases hf
    · split at hf
      · simp only [decide_eq_true_eq] at hf ⊢
        split at hf <;> omega
      · simp only [decide_eq_true_eq] at hf ⊢
        omega
  | x :: ts, k, tot, wide, long, hf => by
    rw [List.cons_append] at hf
    unfold fitB at hf ⊢
    split
    · rw [if_pos (by assumption)] at hf
      cases hf
    · rename_i h1
      rw [if_neg h1] at hf
      split
      · rename_i h2
        rw [if_pos h2] at hf
        exact fitB_init t ts _ _ _ _ hf
      · rename_i h2
        rw [if_neg h2] at hf
        exact fitB_init t ts _ _ _ _ hf
theorem difGo_init (b : List Int) : ∀ (a : List (List Int)) (seen : List Int), difGo seen (a ++ [b]) = true → difGo seen a = true
  | [], seen, _ => rfl
  | x :: a, seen, h => by
    rw [List.cons_append] at h
    unfold difGo at h ⊢
    first
      | (rw [Bool.and_eq_true] at h ⊢; exact ⟨h.1, difGo_init b a _ h.2⟩)
      | (split at h <;> first | cases h | (split <;> first | contradiction | exact difGo_init b a _ h))
theorem distinct_init {ts : List Tn} {t : Tn} (h : distinct (ts ++ [t]) = true) : distinct ts = true := by
  unfold distinct at h ⊢
  simp only [Bool.and_eq_true, decide_eq_true_eq, List.length_append, allOk, List.all_append, tIds, List.map_append, List.map_cons, List.map_nil] at h ⊢
  exact ⟨⟨by have := h.1.1; omega, h.1.2.1⟩, difGo_init _ _ _ h.2⟩
theorem fits_init {L W : Int} {ts : List Tn} {t : Tn} (h : fits L W (ts ++ [t]) = true) : fits L W ts = true := by
  unfold fits at h ⊢
  rw [Bool.and_eq_true] at h ⊢
  exact ⟨distinct_init h.1, fitB_init t ts _ _ _ _ h.2⟩
theorem fits_nil {L W : Int} (h : 0 ≤ L) : fits L W [] = true := by simp [fits, distinct, allOk, tIds, difGo, fitB]; exact h
theorem fits_take {L W : Int} {ts : List Tn} {j : Nat} (hj : j < ts.length) (h : fits L W (ts.take (j + 1)) = true) : fits L W (ts.take j) = true := by
  rw [List.take_succ_eq_append_getElem hj] at h
  exact fits_init h

set_option maxRecDepth 100000 in
set_option maxHeartbeats 1000000 in
theorem fitsw_any (a : Option Addr) (n c : Nat) (xs : List Int) (w : World) (hn : n = xs.length) (hs : n ≤ maxLen) (hf : BytesAt w a xs) :
    Calls Try.prog 14 #[.slice a n c] w fun e w' => e = .returned (.bool true) ∧ Ext w w' := by
  have HS := Lib.hid hs
  have HF := Lib.hid hf; clear hf
  have HN := Lib.hid hn; clear hn
  by_cases hsz : (1048576 : Int) < n
  · have hd : decide ((1048576 : Int) < n) = true := by simpa using hsz
    go_enter Try.func14, Try.ntmps14
    go_wp2_with ((go_at_call 15; refine (big_any _ _ _ _ HS.out).mono ?_; rintro e w' ⟨rfl, rfl⟩))
    go_ret
    exact ⟨rfl, by (repeat' (first | (with_reducible exact Ext.refl _) | (with_reducible assumption) | (with_reducible refine Ext.alloc ?_ _) | (with_reducible refine Ext.drewN ?_ _) | (with_reducible refine Ext.drew ?_) | (with_reducible refine Ext.setCell ?_ ?_ _) | (with_reducible exact Nat.le_refl _) | (with_reducible exact Nat.le_succ _) | (with_reducible refine Ext.trans ?_ (by assumption)) | (simp; done) | (simp; omega)))⟩
  have hs2 : n ≤ 1048576 := by omega
  have hd : decide ((1048576 : Int) < n) = false := by simpa using hsz
  go_enter Try.func14, Try.ntmps14
  go_wp2_with fail
  refine (big_any _ _ _ _ HS.out).mono ?_
  rintro e w1 ⟨rfl, rfl⟩
  go_wp2_with fail
  refine (DrawLock_any _ _ _ xs _ HN.out hs2 HF.out).mono ?_
  rintro e w2 ⟨x0, x1, x2, x3, x4, x5, x6, x7, x8, a1, n1, c1, lo1, hi1, es, ts, a2, n2, c2, lo2, es2, qs, K, hlk, hins, hn1, hq, hn2, hl1, hl2, hl3, rfl, hg1, hg2, hx2⟩
  have HX2 := Lib.hid hx2
  have HQ := Lib.hid hq
  have HN2 := Lib.hid hn2
  have hn5 : n2 ≤ 5 := by have := hq.1; have := hq.2.1; omega
  have hcap := hg2.cap
  have eA := (Ext.refl w2).alloc (.cells #[.int .i64 x0, .int .i64 x1, .int .i64 x2, .int .i64 x3, .int .i64 x4, .int .i64 x5, .int .i64 x6, .int .i64 x7, .int .i64 x8, .slice a1 n1 c1] 26)
  have HTQ := Lib.hid (show TrainsAt (w2.alloc (.cells #[.int .i64 x0, .int .i64 x1, .int .i64 x2, .int .i64 x3, .int .i64 x4, .int .i64 x5, .int .i64 x6, .int .i64 x7, .int .i64 x8, .slice a1 n1 c1] 26)) a2 qs from by
    obtain ⟨a', c', e', h'⟩ := hg2.trains
    injection e' with e1 _ _
    rw [e1]
    exact h'.ext eA)
  have HRL := Lib.hid (RowAt.new w2 26 #[.int .i64 x0, .int .i64 x1, .int .i64 x2, .int .i64 x3, .int .i64 x4, .int .i64 x5, .int .i64 x6, .int .i64 x7, .int .i64 x8, .slice a1 n1 c1])
  have HXA := Lib.hid (hx2.trans eA)
  have hb0 := hlk.h0
  have hb1 := hlk.h1
  have hi0 : I64 x0 := by unfold I64; omega
  have hi1 : I64 x1 := by unfold I64; omega
  obtain ⟨Lb, hLb⟩ : ∃ x, x = w2.heap.size := ⟨_, rfl⟩
  rw [← hLb] at HRL
  obtain ⟨wA, hwA⟩ : ∃ x, x = (w2.alloc (.cells #[.int .i64 x0, .int .i64 x1, .int .i64 x2, .int .i64 x3, .int .i64 x4, .int .i64 x5, .int .i64 x6, .int .i64 x7, .int .i64 x8, .slice a1 n1 c1] 26)) := ⟨_, rfl⟩
  rw [← hwA] at HRL HTQ HXA
  have hsA : wA.heap.size = Lb + 1 := by rw [hwA, hLb]; simp
  clear hlk hins hn1 hq hn2 hl1 hl2 hl3 hg1 hg2 hx2 eA
  go_wp2_with fail
  (try rw [← hLb])
  (try rw [← hwA])
  clear hLb hwA HX2
  go_loopw [5] (fun i wr => ∃ (j : Nat), j ≤ n2 ∧ i = .int .i64 j ∧ Ext wA wr) (fun i _ => (intOf i).toNat)
  case atStart => exact ⟨n2, Nat.le_refl _, rfl, Ext.refl _⟩
  case round =>
    obtain ⟨j, hj, rfl, hr⟩ := hrel
    have HR := Lib.hid hr
    have HB := HRL.out.ext hr
    have d0 : wr.cell? ⟨Lb, 0, none⟩ = some (.int .i64 x0) := HB.cell rfl
    have d1 : wr.cell? ⟨Lb, 1, none⟩ = some (.int .i64 x1) := HB.cell rfl
    have d2 : wr.cell? ⟨Lb, 2, none⟩ = some (.int .i64 x2) := HB.cell rfl
    have d3 : wr.cell? ⟨Lb, 3, none⟩ = some (.int .i64 x3) := HB.cell rfl
    have d4 : wr.cell? ⟨Lb, 4, none⟩ = some (.int .i64 x4) := HB.cell rfl
    have d5 : wr.cell? ⟨Lb, 5, none⟩ = some (.int .i64 x5) := HB.cell rfl
    have d6 : wr.cell? ⟨Lb, 6, none⟩ = some (.int .i64 x6) := HB.cell rfl
    have d7 : wr.cell? ⟨Lb, 7, none⟩ = some (.int .i64 x7) := HB.cell rfl
    have d8 : wr.cell? ⟨Lb, 8, none⟩ = some (.int .i64 x8) := HB.cell rfl
    have d9 : wr.cell? ⟨Lb, 9, none⟩ = some (.slice a1 n1 c1) := HB.cell rfl
    have zL := HB.lt
    clear HB
    by_cases hlt : 0 < j
    · obtain ⟨jj, rfl⟩ : ∃ jj, j = jj + 1 := ⟨j - 1, by omega⟩
      obtain ⟨R, hR⟩ : ∃ R, fits x0 x1 (qs.take (jj + 1)) = R := ⟨_, rfl⟩
      have HRR := Lib.hid hR; clear hR
      have HLN := Lib.hid (show jj + 1 = (qs.take (jj + 1)).length by rw [List.length_take, ← HN2.out]; omega)
      have HSM := Lib.hid (show ∀ t ∈ qs.take (jj + 1), SmallT t from fun t ht => HQ.out.small t (List.mem_of_mem_take ht))
      have s0 : (0 : Int) ≤ (jj : Int) + 1 := by omega
      have s1 : (jj : Int) + 1 ≤ (c2 : Int) := by omega
      have hS := Ext.refl wr
      go_wp2_with fail
      go_region_held3 (fun w' => Ext wr w' ∧ w'.cell? ⟨Lb, 0, none⟩ = some (.int .i64 x0) ∧ w'.cell? ⟨Lb, 1, none⟩ = some (.int .i64 x1) ∧ w'.cell? ⟨Lb, 2, none⟩ = some (.int .i64 x2) ∧ w'.cell? ⟨Lb, 3, none⟩ = some (.int .i64 x3) ∧ w'.cell? ⟨Lb, 4, none⟩ = some (.int .i64 x4) ∧ w'.cell? ⟨Lb, 5, none⟩ = some (.int .i64 x5) ∧ w'.cell? ⟨Lb, 6, none⟩ = some (.int .i64 x6) ∧ w'.cell? ⟨Lb, 7, none⟩ = some (.int .i64 x7) ∧ w'.cell? ⟨Lb, 8, none⟩ = some (.int .i64 x8) ∧ w'.cell? ⟨Lb, 9, none⟩ = some (.slice a1 n1 c1))
        ((repeat' (refine And.intro ?_ ?_)) <;> (first | (exact Ext.cell (w := wr) (by (repeat' (first | (with_reducible exact Ext.refl _) | (with_reducible assumption) | (with_reducible refine Ext.alloc ?_ _) | (with_reducible refine Ext.drewN ?_ _) | (with_reducible refine Ext.drew ?_) | (with_reducible refine Ext.setCell ?_ ?_ _) | (with_reducible exact Nat.le_refl _) | (with_reducible exact Nat.le_succ _) | (with_reducible refine Ext.trans ?_ (by assumption)) | (simp; done) | (simp; omega)))) (by (with_reducible assumption))) | ((repeat' (first | (with_reducible exact Ext.refl _) | (with_reducible assumption) | (with_reducible refine Ext.alloc ?_ _) | (with_reducible refine Ext.drewN ?_ _) | (with_reducible refine Ext.drew ?_) | (with_reducible refine Ext.setCell ?_ ?_ _) | (with_reducible exact Nat.le_refl _) | (with_reducible exact Nat.le_succ _) | (with_reducible refine Ext.trans ?_ (by assumption)) | (simp; done) | (simp; omega))); done)))
        (first | (go_at_call 34; refine (implFits_any R _ _ _ _ _ _ _ _ _ _ _ _ _ _ _ (qs.take (jj + 1)) _ HLN.out (by omega) HSM.out ((HTQ.out.take _).ext (HR.out.trans (by (repeat' (first | (with_reducible exact Ext.refl _) | (with_reducible assumption) | (with_reducible refine Ext.alloc ?_ _) | (with_reducible refine Ext.drewN ?_ _) | (with_reducible refine Ext.drew ?_) | (with_reducible refine Ext.setCell ?_ ?_ _) | (with_reducible exact Nat.le_refl _) | (with_reducible exact Nat.le_succ _) | (with_reducible refine Ext.trans ?_ (by assumption)) | (simp; done) | (simp; omega)))))) HRR.out hi0 hi1).mono ?_; rintro e w' ⟨rfl, hb7⟩))
      obtain ⟨w5, hw5⟩ : ∃ x, x = w' := ⟨_, rfl⟩
      subst hw5
      have hr5 : Ext wr w5 := by (repeat' (first | (with_reducible exact Ext.refl _) | (with_reducible assumption) | (with_reducible refine Ext.alloc ?_ _) | (with_reducible refine Ext.drewN ?_ _) | (with_reducible refine Ext.drew ?_) | (with_reducible refine Ext.setCell ?_ ?_ _) | (with_reducible exact Nat.le_refl _) | (with_reducible exact Nat.le_succ _) | (with_reducible refine Ext.trans ?_ (by assumption)) | (simp; done) | (simp; omega)))
      have HR5 := Lib.hid (HR.out.trans hr5)
      clear hS hb7 d0 d1 d2 d3 d4 d5 d6 d7 d8 d9
      cases R
      · go_wp2
        go_roundw
        case rel => exact ⟨jj, by omega, by go_num, HR5.out⟩
        case measure => simp [intOf]
      · have HB := HRL.out.ext HR5.out
        have zL5 := HB.lt
        have HB5 := Lib.hid HB
        have d0 : w5.cell? ⟨Lb, 0, none⟩ = some (.int .i64 x0) := HB5.out.cell rfl
        have d1 : w5.cell? ⟨Lb, 1, none⟩ = some (.int .i64 x1) := HB5.out.cell rfl
        have d2 : w5.cell? ⟨Lb, 2, none⟩ = some (.int .i64 x2) := HB5.out.cell rfl
        have d3 : w5.cell? ⟨Lb, 3, none⟩ = some (.int .i64 x3) := HB5.out.cell rfl
        have d4 : w5.cell? ⟨Lb, 4, none⟩ = some (.int .i64 x4) := HB5.out.cell rfl
        have d5 : w5.cell? ⟨Lb, 5, none⟩ = some (.int .i64 x5) := HB5.out.cell rfl
        have d6 : w5.cell? ⟨Lb, 6, none⟩ = some (.int .i64 x6) := HB5.out.cell rfl
        have d7 : w5.cell? ⟨Lb, 7, none⟩ = some (.int .i64 x7) := HB5.out.cell rfl
        have d8 : w5.cell? ⟨Lb, 8, none⟩ = some (.int .i64 x8) := HB5.out.cell rfl
        have d9 : w5.cell? ⟨Lb, 9, none⟩ = some (.slice a1 n1 c1) := HB5.out.cell rfl
        have HXB := Lib.hid (RowAt.new w5 26 #[.int .i64 x0, .int .i64 x1, .int .i64 x2, .int .i64 x3, .int .i64 x4, .int .i64 x5, .int .i64 x6, .int .i64 x7, .int .i64 x8, .slice a1 n1 c1])
        have eX := (Ext.refl w5).alloc (.cells #[.int .i64 x0, .int .i64 x1, .int .i64 x2, .int .i64 x3, .int .i64 x4, .int .i64 x5, .int .i64 x6, .int .i64 x7, .int .i64 x8, .slice a1 n1 c1] 26)
        clear HB
        go_wp2_with fail
        obtain ⟨X, hX⟩ : ∃ x, x = w5.heap.size := ⟨_, rfl⟩
        obtain ⟨w6, hw6⟩ : ∃ x, x = w5.alloc (.cells #[.int .i64 x0, .int .i64 x1, .int .i64 x2, .int .i64 x3, .int .i64 x4, .int .i64 x5, .int .i64 x6, .int .i64 x7, .int .i64 x8, .slice a1 n1 c1] 26) := ⟨_, rfl⟩
        rw [← hw6] at eX HXB
        rw [← hX] at HXB
        (try rw [← hX])
        (try rw [← hw6])
        have HR6 := Lib.hid (HR5.out.trans eX)
        have HB6 := Lib.hid (HB5.out.ext eX)
        have zLX : Lb < X := by omega
        clear hw6 hX eX d0 d1 d2 d3 d4 d5 d6 d7 d8 d9
        have d0 : w6.cell? ⟨Lb, 0, none⟩ = some (.int .i64 x0) := HB6.out.cell rfl
        have y0 : w6.cell? ⟨X, 0, none⟩ = some (.int .i64 x0) := HXB.out.cell rfl
        have f0 := HXB.out.frozen 0
        have hS := Ext.refl w6
        go_region_held3 (fun w' => w'.cell? ⟨Lb, 0, none⟩ = some (.int .i64 x0))
          (first | (with_reducible assumption) | (simp (disch := omega) [World.cell?_setCell_ne, *]; done) | exact HB6.out.cell rfl | exact (HB6.out.other (p := ⟨X, 0, none⟩) (by dsimp only; omega) _).cell rfl)
          (first | (go_at_call 17; refine (at_any _ _ _ xs 0 _ HN.out hs2 (by decide) (by decide) (HF.out.ext (HXA.out.trans (HR6.out.trans (by (repeat' (first | (with_reducible exact Ext.refl _) | (with_reducible assumption) | (with_reducible refine Ext.alloc ?_ _) | (with_reducible refine Ext.drewN ?_ _) | (with_reducible refine Ext.drew ?_) | (with_reducible refine Ext.setCell ?_ ?_ _) | (with_reducible exact Nat.le_refl _) | (with_reducible exact Nat.le_succ _) | (with_reducible refine Ext.trans ?_ (by assumption)) | (simp; done) | (simp; omega)))))))).mono ?_; rintro e w' ⟨z, hz0, hz255, rfl, rfl⟩))
        have hwz : IntKind.i64.wrap (x0 + z) = x0 + z := IntWalk.i64_in (x0 + z) (by omega)
        rw [hwz]
        have HB7 := Lib.hid ((HB6.out.other (p := ⟨X, 0, none⟩) (by dsimp only; omega) (.int .i64 (x0 + z))).ext (Ext.refl _).drew)
        have HX7 := Lib.hid ((HXB.out.set 0 (.int .i64 (x0 + z))).ext (Ext.refl _).drew)
        have HR7 := Lib.hid (show Ext wA (w6.setCell ⟨X, 0, none⟩ (.int .i64 (x0 + z))).drew from (HR6.out.setCell (by dsimp only; omega) _).drew)
        obtain ⟨w7, hw7⟩ : ∃ x, x = (w6.setCell ⟨X, 0, none⟩ (.int .i64 (x0 + z))).drew := ⟨_, rfl⟩
        rw [← hw7] at HB7 HX7 HR7
        rw [← hw7]
        clear hw7 hwz d0 y0 f0 hS HB6 HXB HR6
        have d0 : w7.cell? ⟨Lb, 0, none⟩ = some (.int .i64 x0) := HB7.out.cell rfl
        have d1 : w7.cell? ⟨Lb, 1, none⟩ = some (.int .i64 x1) := HB7.out.cell rfl
        have d2 : w7.cell? ⟨Lb, 2, none⟩ = some (.int .i64 x2) := HB7.out.cell rfl
        have d3 : w7.cell? ⟨Lb, 3, none⟩ = some (.int .i64 x3) := HB7.out.cell rfl
        have d4 : w7.cell? ⟨Lb, 4, none⟩ = some (.int .i64 x4) := HB7.out.cell rfl
        have d5 : w7.cell? ⟨Lb, 5, none⟩ = some (.int .i64 x5) := HB7.out.cell rfl
        have d6 : w7.cell? ⟨Lb, 6, none⟩ = some (.int .i64 x6) := HB7.out.cell rfl
        have d7 : w7.cell? ⟨Lb, 7, none⟩ = some (.int .i64 x7) := HB7.out.cell rfl
        have d8 : w7.cell? ⟨Lb, 8, none⟩ = some (.int .i64 x8) := HB7.out.cell rfl
        have d9 : w7.cell? ⟨Lb, 9, none⟩ = some (.slice a1 n1 c1) := HB7.out.cell rfl
        have y0 : w7.cell? ⟨X, 0, none⟩ = some (.int .i64 (x0 + z)) := HX7.out.cell rfl
        have y1 : w7.cell? ⟨X, 1, none⟩ = some (.int .i64 x1) := HX7.out.cell rfl
        have y2 : w7.cell? ⟨X, 2, none⟩ = some (.int .i64 x2) := HX7.out.cell rfl
        have y3 : w7.cell? ⟨X, 3, none⟩ = some (.int .i64 x3) := HX7.out.cell rfl
        have y4 : w7.cell? ⟨X, 4, none⟩ = some (.int .i64 x4) := HX7.out.cell rfl
        have y5 : w7.cell? ⟨X, 5, none⟩ = some (.int .i64 x5) := HX7.out.cell rfl
        have y6 : w7.cell? ⟨X, 6, none⟩ = some (.int .i64 x6) := HX7.out.cell rfl
        have y7 : w7.cell? ⟨X, 7, none⟩ = some (.int .i64 x7) := HX7.out.cell rfl
        have y8 : w7.cell? ⟨X, 8, none⟩ = some (.int .i64 x8) := HX7.out.cell rfl
        have y9 : w7.cell? ⟨X, 9, none⟩ = some (.slice a1 n1 c1) := HX7.out.cell rfl
        have HA1 := Lib.hid (fits_take (by rw [← HN2.out]; omega) HRR.out)
        have HA2 := Lib.hid (fits_longer (show x0 ≤ x0 + z by omega) HRR.out)
        have HLN1 := Lib.hid (show jj = (qs.take jj).length by rw [List.length_take, ← HN2.out]; omega)
        have HSM1 := Lib.hid (show ∀ t ∈ qs.take jj, SmallT t from fun t ht => HQ.out.small t (List.mem_of_mem_take ht))
        have hi2 : I64 (x0 + z) := by unfold I64; omega
        have s2 : (0 : Int) ≤ (jj : Int) := by omega
        have s4 := IntWalk.i64_in (jj : Int) (by omega)
        have s5 := IntWalk.i64_in ((jj : Int) + 1) (by omega)
        have s3 : (jj : Int) ≤ (c2 : Int) := by omega
        have hS := Ext.refl w7
        go_wp2_with fail
        go_region_held3 (fun w' => Ext w7 w' ∧ w'.cell? ⟨Lb, 0, none⟩ = some (.int .i64 x0) ∧ w'.cell? ⟨Lb, 1, none⟩ = some (.int .i64 x1) ∧ w'.cell? ⟨Lb, 2, none⟩ = some (.int .i64 x2) ∧ w'.cell? ⟨Lb, 3, none⟩ = some (.int .i64 x3) ∧ w'.cell? ⟨Lb, 4, none⟩ = some (.int .i64 x4) ∧ w'.cell? ⟨Lb, 5, none⟩ = some (.int .i64 x5) ∧ w'.cell? ⟨Lb, 6, none⟩ = some (.int .i64 x6) ∧ w'.cell? ⟨Lb, 7, none⟩ = some (.int .i64 x7) ∧ w'.cell? ⟨Lb, 8, none⟩ = some (.int .i64 x8) ∧ w'.cell? ⟨Lb, 9, none⟩ = some (.slice a1 n1 c1) ∧ w'.cell? ⟨X, 0, none⟩ = some (.int .i64 (x0 + z)) ∧ w'.cell? ⟨X, 1, none⟩ = some (.int .i64 x1) ∧ w'.cell? ⟨X, 2, none⟩ = some (.int .i64 x2) ∧ w'.cell? ⟨X, 3, none⟩ = some (.int .i64 x3) ∧ w'.cell? ⟨X, 4, none⟩ = some (.int .i64 x4) ∧ w'.cell? ⟨X, 5, none⟩ = some (.int .i64 x5) ∧ w'.cell? ⟨X, 6, none⟩ = some (.int .i64 x6) ∧ w'.cell? ⟨X, 7, none⟩ = some (.int .i64 x7) ∧ w'.cell? ⟨X, 8, none⟩ = some (.int .i64 x8) ∧ w'.cell? ⟨X, 9, none⟩ = some (.slice a1 n1 c1))
          ((repeat' (refine And.intro ?_ ?_)) <;> (first | (exact Ext.cell (w := w7) (by (repeat' (first | (with_reducible exact Ext.refl _) | (with_reducible assumption) | (with_reducible refine Ext.alloc ?_ _) | (with_reducible refine Ext.drewN ?_ _) | (with_reducible refine Ext.drew ?_) | (with_reducible refine Ext.setCell ?_ ?_ _) | (with_reducible exact Nat.le_refl _) | (with_reducible exact Nat.le_succ _) | (with_reducible refine Ext.trans ?_ (by assumption)) | (simp; done) | (simp; omega)))) (by (with_reducible assumption))) | ((repeat' (first | (with_reducible exact Ext.refl _) | (with_reducible assumption) | (with_reducible refine Ext.alloc ?_ _) | (with_reducible refine Ext.drewN ?_ _) | (with_reducible refine Ext.drew ?_) | (with_reducible refine Ext.setCell ?_ ?_ _) | (with_reducible exact Nat.le_refl _) | (with_reducible exact Nat.le_succ _) | (with_reducible refine Ext.trans ?_ (by assumption)) | (simp; done) | (simp; omega))); done)))
          (first
            | (go_at_call 34; with_reducible refine (implFits_any true x0 _ _ _ _ _ _ _ _ _ _ _ _ _ _ (qs.take jj) _ HLN1.out (by omega) HSM1.out ((HTQ.out.take _).ext (HR7.out.trans (by (repeat' (first | (with_reducible exact Ext.refl _) | (with_reducible assumption) | (with_reducible refine Ext.alloc ?_ _) | (with_reducible refine Ext.drewN ?_ _) | (with_reducible refine Ext.drew ?_) | (with_reducible refine Ext.setCell ?_ ?_ _) | (with_reducible exact Nat.le_refl _) | (with_reducible exact Nat.le_succ _) | (with_reducible refine Ext.trans ?_ (by assumption)) | (simp; done) | (simp; omega)))))) HA1.out hi0 hi1).mono ?_; rintro e w' ⟨rfl, hb7⟩)
            | (go_at_call 34; with_reducible refine (implFits_any true (x0 + z) _ _ _ _ _ _ _ _ _ _ _ _ _ _ (qs.take (jj + 1)) _ HLN.out (by omega) HSM.out ((HTQ.out.take _).ext (HR7.out.trans (by (repeat' (first | (with_reducible exact Ext.refl _) | (with_reducible assumption) | (with_reducible refine Ext.alloc ?_ _) | (with_reducible refine Ext.drewN ?_ _) | (with_reducible refine Ext.drew ?_) | (with_reducible refine Ext.setCell ?_ ?_ _) | (with_reducible exact Nat.le_refl _) | (with_reducible exact Nat.le_succ _) | (with_reducible refine Ext.trans ?_ (by assumption)) | (simp; done) | (simp; omega)))))) HA2.out hi2 hi1).mono ?_; rintro e w' ⟨rfl, hb8⟩))
        all_goals
          have hr8 : Ext w7 w' := by (repeat' (first | (with_reducible exact Ext.refl _) | (with_reducible assumption) | (with_reducible refine Ext.alloc ?_ _) | (with_reducible refine Ext.drewN ?_ _) | (with_reducible refine Ext.drew ?_) | (with_reducible refine Ext.setCell ?_ ?_ _) | (with_reducible exact Nat.le_refl _) | (with_reducible exact Nat.le_succ _) | (with_reducible refine Ext.trans ?_ (by assumption)) | (simp; done) | (simp; omega)))
          go_wp2
          go_roundw
          case rel => exact ⟨jj, by omega, by go_num, HR7.out.trans hr8⟩
          case measure => simp [intOf]
    · go_wp2_with fail
      have HF0 := Lib.hid (fits_nil (W := x1) (show (0 : Int) ≤ x0 by omega))
      refine (implFits_any true _ _ _ _ _ _ _ _ _ _ _ _ _ _ _ [] _ rfl (Nat.zero_le _) (fun t h => by cases h) (fun k h => absurd h (Nat.not_lt_zero _)) HF0.out hi0 hi1).mono ?_
      rintro e w6 ⟨rfl, hb6⟩
      go_wp2
      go_ret
      exact ⟨rfl, HXA.out.trans (HR.out.trans hb6)⟩
end Go.Proofs.Ytphhjfcmglhlfaa
