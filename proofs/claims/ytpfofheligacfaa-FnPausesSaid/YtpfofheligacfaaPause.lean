/- What the functions on pauses compute. -/
import Derived.Test.YtpfofheligacfaaProg
import Derived.Test.YtpfofheligacfaaLib
import Derived.Test.YtpfofheligacfaaMem
import Derived.Test.YtpfofheligacfaaFlat
namespace Go.Proofs.Ytpfofheligacfaa
open Go.RowKit
set_option linter.unusedSimpArgs false
set_option linter.unusedVariables false

def pCells (p : Int × Int) : List Value := [.int .i64 p.1, .int .i64 p.2]

set_option maxHeartbeats 400000 in
theorem szPauseS_any (a : Option Addr) (n c : Nat) (left : Int) (hn : n ≤ maxLen) (h0 : 0 ≤ left) (h1 : left ≤ 9223372036854775807) (w : World) :
    Calls Try.prog 36 #[.slice a n c, .int .i64 left] w fun e w' => e = .returned (.int .i64 (if left < n then -1 else left - n)) ∧ Ext w w' := by
  unfold maxLen at hn
  by_cases h : left < n
  all_goals
    go_enter Try.func36, Try.ntmps36
    go_wp2
    go_ret
    exact ⟨ret_int (by simp [h]), by (repeat' (first | (with_reducible exact Ext.refl _) | (with_reducible assumption) | (with_reducible refine Ext.alloc ?_ _) | (with_reducible refine Ext.drewN ?_ _) | (with_reducible refine Ext.drew ?_) | (with_reducible refine Ext.setCell ?_ ?_ _) | (with_reducible exact Nat.le_refl _) | (with_reducible exact Nat.le_succ _) | (with_reducible refine Ext.trans ?_ (by assumption)) | (simp; done) | (simp; omega)))⟩

set_option maxHeartbeats 400000 in
theorem toPause_any (x y : Int) (w : World) :
    Calls Try.prog 49 #[.agg #[.int .i64 x, .int .i64 y]] w fun e w' => e = .returned (.agg #[.int .i64 x, .int .i64 y]) ∧ Ext w w' := by
  go_enter Try.func49, Try.ntmps49
  go_wp2
  exact bodyPost_ret (v := .agg #[.int .i64 x, .int .i64 y]) (by simp [results, Try.results49, go_sem]) rfl ⟨rfl, by (repeat' (first | (with_reducible exact Ext.refl _) | (with_reducible assumption) | (with_reducible refine Ext.alloc ?_ _) | (with_reducible refine Ext.drewN ?_ _) | (with_reducible refine Ext.drew ?_) | (with_reducible refine Ext.setCell ?_ ?_ _) | (with_reducible exact Nat.le_refl _) | (with_reducible exact Nat.le_succ _) | (with_reducible refine Ext.trans ?_ (by assumption)) | (simp; done) | (simp; omega)))⟩
set_option maxHeartbeats 400000 in
theorem eqPause_same (x y : Int) (w : World) :
    Calls Try.prog 50 #[.agg #[.int .i64 x, .int .i64 y], .agg #[.int .i64 x, .int .i64 y]] w fun e w' => e = .returned (.bool true) ∧ Ext w w' := by
  go_enter Try.func50, Try.ntmps50
  go_wp2
  go_ret
  exact ⟨rfl, by (repeat' (first | (with_reducible exact Ext.refl _) | (with_reducible assumption) | (with_reducible refine Ext.alloc ?_ _) | (with_reducible refine Ext.drewN ?_ _) | (with_reducible refine Ext.drew ?_) | (with_reducible refine Ext.setCell ?_ ?_ _) | (with_reducible exact Nat.le_refl _) | (with_reducible exact Nat.le_succ _) | (with_reducible refine Ext.trans ?_ (by assumption)) | (simp; done) | (simp; omega)))⟩

theorem info_pause : (Try.prog.info? 66).map (fun i => (i.zero, i.size, i.bytes)) = some (some (.agg #[.int .i64 0, .int .i64 0]), 2, 16) := by kernel_rfl

set_option maxHeartbeats 1000000 in
theorem toPauseS_any (a : Option Addr) (n c : Nat) (ps : List (Int × Int)) (w : World) (hn : n = ps.length) (hs : n ≤ 1048576) (hf : FlatAt w pCells 2 a ps) :
    Calls Try.prog 38 #[.slice a n c] w fun e w' => e = .returned (.slice (some ⟨w.heap.size, 0, none⟩) n n) ∧ FlatAt w' pCells 2 (some ⟨w.heap.size, 0, none⟩) ps ∧ Ext w w' := by
  obtain ⟨i0, hi, hz0, hz1, hz2⟩ := info_parts info_pause
  have hmk := fun W => run_make_rowN (P := Try.prog) 55 66 i0 _ Try.underlying55 hi hz0 .i64 .i64 n n (Nat.le_refl _) (by rw [hz2]; omega) (by omega) W
  rw [hz1] at hmk
  clear hi hz0 hz1 hz2
  have HF := Lib.hid hf; clear hf
  have HN := Lib.hid hn; clear hn
  go_enter Try.func38, Try.ntmps38
  go_wp2
  go_loopw [4] (fun i wr => ∃ (k : Nat) (cc : Array Value), k ≤ n ∧ i = .int .i64 k ∧ Ext w wr ∧ RowAt wr w.heap.size 66 cc ∧ Hid (cc.size = n * 2) ∧ Hid (∀ j (h : j < ps.length), j < k → cc[j * 2]? = some (.int .i64 ps[j].1) ∧ cc[j * 2 + 1]? = some (.int .i64 ps[j].2))) (fun i _ => n - (intOf i).toNat)
  case atStart => exact ⟨0, _, Nat.zero_le _, rfl, by (repeat' (first | (with_reducible exact Ext.refl _) | (with_reducible assumption) | (with_reducible refine Ext.alloc ?_ _) | (with_reducible refine Ext.drewN ?_ _) | (with_reducible refine Ext.drew ?_) | (with_reducible refine Ext.setCell ?_ ?_ _) | (with_reducible exact Nat.le_refl _) | (with_reducible exact Nat.le_succ _) | (with_reducible refine Ext.trans ?_ (by assumption)) | (simp; done) | (simp; omega))), RowAt.new _ _ _, by (show _ = _); rw [size_madeCells], fun _ _ h => absurd h (Nat.not_lt_zero _)⟩
  case round =>
    obtain ⟨k, cc, hk, rfl, hr, hrow, hsz, hfill⟩ := hrel
    by_cases hlt : k < n
    · have hlt' : k < ps.length := by rw [← HN.out]; exact hlt
      obtain ⟨b, off, rfl, hcell⟩ := HF.out.get k hlt'
      have e1 : ∀ w', Ext w w' → w'.cell? ⟨b, off + k * 2, none⟩ = some (.int .i64 ps[k].1) := hcell 0 _ rfl
      have e2 : ∀ w', Ext w w' → w'.cell? ⟨b, off + k * 2 + 1, none⟩ = some (.int .i64 ps[k].2) := hcell 1 _ rfl
      obtain ⟨v1, hv1⟩ : ∃ v, cc[k * 2]? = some v := ⟨_, Array.getElem?_eq_getElem (by have := hsz.out; omega)⟩
      obtain ⟨v2, hv2⟩ : ∃ v, cc[k * 2 + 1]? = some v := ⟨_, Array.getElem?_eq_getElem (by have := hsz.out; omega)⟩
      clear hcell
      go_wp2_with fail
      refine (toPause_any _ _ _).mono ?_
      rintro e w1 ⟨rfl, hb1⟩
      have r1 := hrow.ext hb1
      have g1 := r1.cell hv1
      have g2 := r1.cell hv2
      have f1 := r1.frozen (k * 2)
      have f2 := r1.frozen (k * 2 + 1)
      have HV1 := Lib.hid hv1; clear hv1
      have HV2 := Lib.hid hv2; clear hv2
      go_wp2
      go_roundw
      case rel =>
        refine ⟨k + 1, _, by omega, by go_num, by (repeat' (first | (with_reducible exact Ext.refl _) | (with_reducible assumption) | (with_reducible refine Ext.alloc ?_ _) | (with_reducible refine Ext.drewN ?_ _) | (with_reducible refine Ext.drew ?_) | (with_reducible refine Ext.setCell ?_ ?_ _) | (with_reducible exact Nat.le_refl _) | (with_reducible exact Nat.le_succ _) | (with_reducible refine Ext.trans ?_ (by assumption)) | (simp; done) | (simp; omega))), (r1.set _ _).set _ _, by (show _ = _); simpa using hsz.out, fun j hj hjk => ?_⟩
        have hs2 := hsz.out
        by_cases hjk' : j = k
        · subst hjk'
          constructor
          · rw [Array.getElem?_setIfInBounds_ne (by omega), Array.getElem?_setIfInBounds_self_of_lt (by omega)]
          · rw [Array.getElem?_setIfInBounds_self_of_lt (by simp; omega)]
        · have := hfill.out j hj (by omega)
          rw [Array.getElem?_setIfInBounds_ne (by omega), Array.getElem?_setIfInBounds_ne (by omega), Array.getElem?_setIfInBounds_ne (by omega), Array.getElem?_setIfInBounds_ne (by omega)]
          exact this
      case measure => simp [intOf]; omega
    · go_wp2
      go_ret
      have hkn : k = n := by omega
      refine ⟨rfl, fun j hj => ⟨_, _, rfl, ?_⟩, by (repeat' (first | (with_reducible exact Ext.refl _) | (with_reducible assumption) | (with_reducible refine Ext.alloc ?_ _) | (with_reducible refine Ext.drewN ?_ _) | (with_reducible refine Ext.drew ?_) | (with_reducible refine Ext.setCell ?_ ?_ _) | (with_reducible exact Nat.le_refl _) | (with_reducible exact Nat.le_succ _) | (with_reducible refine Ext.trans ?_ (by assumption)) | (simp; done) | (simp; omega)))⟩
      have := hfill.out j hj (by rw [hkn, HN.out]; exact hj)
      intro i v hv
      rw [Nat.zero_add]
      match i, hv with
      | 0, hv => cases hv; exact hrow.cell this.1
      | 1, hv => cases hv; exact hrow.cell this.2

set_option maxHeartbeats 1000000 in
theorem eqPauseS_same (a a' : Option Addr) (n c c' : Nat) (ps : List (Int × Int)) (w : World) (hn : n = ps.length) (hs : n ≤ maxLen) (hf : FlatAt w pCells 2 a ps) (hf' : FlatAt w pCells 2 a' ps) :
    Calls Try.prog 40 #[.slice a n c, .slice a' n c'] w fun e w' => e = .returned (.bool true) ∧ Ext w w' := by
  unfold maxLen at hs
  have HF := Lib.hid hf; clear hf
  have HF' := Lib.hid hf'; clear hf'
  have HN := Lib.hid hn; clear hn
  go_enter Try.func40, Try.ntmps40
  go_wp2
  go_loopw [5] (fun i wr => ∃ (k : Nat), k ≤ n ∧ i = .int .i64 k ∧ Ext w wr) (fun i _ => n - (intOf i).toNat)
  case atStart => exact ⟨0, Nat.zero_le _, rfl, by (repeat' (first | (with_reducible exact Ext.refl _) | (with_reducible assumption) | (with_reducible refine Ext.alloc ?_ _) | (with_reducible refine Ext.drewN ?_ _) | (with_reducible refine Ext.drew ?_) | (with_reducible refine Ext.setCell ?_ ?_ _) | (with_reducible exact Nat.le_refl _) | (with_reducible exact Nat.le_succ _) | (with_reducible refine Ext.trans ?_ (by assumption)) | (simp; done) | (simp; omega)))⟩
  case round =>
    obtain ⟨k, hk, rfl, hr⟩ := hrel
    by_cases hlt : k < n
    · have hlt' : k < ps.length := by rw [← HN.out]; exact hlt
      obtain ⟨b, off, rfl, hcell⟩ := HF.out.get k hlt'
      obtain ⟨b', off', rfl, hcell'⟩ := HF'.out.get k hlt'
      have e1 : ∀ x : Aft wr, x.1.cell? ⟨b, off + k * 2, none⟩ = some (.int .i64 ps[k].1) := fun x => hcell 0 _ rfl _ (hr.trans x.2)
      have e2 : ∀ x : Aft wr, x.1.cell? ⟨b, off + k * 2 + 1, none⟩ = some (.int .i64 ps[k].2) := fun x => hcell 1 _ rfl _ (hr.trans x.2)
      have e3 : ∀ x : Aft wr, x.1.cell? ⟨b', off' + k * 2, none⟩ = some (.int .i64 ps[k].1) := fun x => hcell' 0 _ rfl _ (hr.trans x.2)
      have e4 : ∀ x : Aft wr, x.1.cell? ⟨b', off' + k * 2 + 1, none⟩ = some (.int .i64 ps[k].2) := fun x => hcell' 1 _ rfl _ (hr.trans x.2)
      clear hcell hcell'
      go_wp2_with fail
      (refine wp_region_aft wr (Ext.refl _) (by kernel_rfl) (by kernel_rfl) ?_; (repeat (go_big_quiet_step ((go_at_call 50; exact aft_call (eqPause_same _ _ _))))); refine wpQuiet_nil ?_; intro w2 hx2)
      go_wp2
      go_roundw
      case rel => exact ⟨k + 1, by omega, by go_num, by (repeat' (first | (with_reducible exact Ext.refl _) | (with_reducible assumption) | (with_reducible refine Ext.alloc ?_ _) | (with_reducible refine Ext.drewN ?_ _) | (with_reducible refine Ext.drew ?_) | (with_reducible refine Ext.setCell ?_ ?_ _) | (with_reducible exact Nat.le_refl _) | (with_reducible exact Nat.le_succ _) | (with_reducible refine Ext.trans ?_ (by assumption)) | (simp; done) | (simp; omega)))⟩
      case measure => simp [intOf]; omega
    · go_wp2
      go_ret
      exact ⟨rfl, by (repeat' (first | (with_reducible exact Ext.refl _) | (with_reducible assumption) | (with_reducible refine Ext.alloc ?_ _) | (with_reducible refine Ext.drewN ?_ _) | (with_reducible refine Ext.drew ?_) | (with_reducible refine Ext.setCell ?_ ?_ _) | (with_reducible exact Nat.le_refl _) | (with_reducible exact Nat.le_succ _) | (with_reducible refine Ext.trans ?_ (by assumption)) | (simp; done) | (simp; omega)))⟩

/-- Whether the pauses from here on are in order and behind 'bef'. -/
def pausesGo (bef : Int) : List (Int × Int) → Bool
  | [] => true
  | p :: ps => if p.1 < bef then false else if p.2 ≤ p.1 then false else if 1000000 < p.2 then false else pausesGo p.2 ps
def pausesOk (ps : List (Int × Int)) : Bool := decide (ps.length ≤ 8) && pausesGo 0 ps

set_option maxHeartbeats 1000000 in
theorem specPausesOk_any (a : Option Addr) (n c : Nat) (ps : List (Int × Int)) (w : World) (hn : n = ps.length) (hs : n ≤ maxLen) (hf : FlatAt w pCells 2 a ps) :
    Calls Try.prog 37 #[.slice a n c] w fun e w' => e = .returned (.bool (pausesOk ps)) ∧ Ext w w' := by
  unfold maxLen at hs
  have HF := Lib.hid hf; clear hf
  have HN := Lib.hid hn; clear hn
  go_enter Try.func37, Try.ntmps37
  go_wp2
  go_loopw [3, 4] (fun bef i wr => ∃ (k : Nat) (z : Int), k ≤ n ∧ i = .int .i64 k ∧ bef = .int .i64 z ∧ Hid (pausesGo 0 ps = pausesGo z (ps.drop k)) ∧ Ext w wr) (fun _ i _ => n - (intOf i).toNat)
  case atStart => exact ⟨0, 0, Nat.zero_le _, rfl, rfl, rfl, by (repeat' (first | (with_reducible exact Ext.refl _) | (with_reducible assumption) | (with_reducible refine Ext.alloc ?_ _) | (with_reducible refine Ext.drewN ?_ _) | (with_reducible refine Ext.drew ?_) | (with_reducible refine Ext.setCell ?_ ?_ _) | (with_reducible exact Nat.le_refl _) | (with_reducible exact Nat.le_succ _) | (with_reducible refine Ext.trans ?_ (by assumption)) | (simp; done) | (simp; omega)))⟩
  case round =>
    obtain ⟨k, z, hk, rfl, rfl, hgo, hr⟩ := hrel
    by_cases hlt : k < n
    · have hlt' : k < ps.length := by rw [← HN.out]; exact hlt
      obtain ⟨b, off, rfl, hcell⟩ := HF.out.get k hlt'
      obtain ⟨p1, p2, hp⟩ : ∃ p1 p2, ps[k] = (p1, p2) := ⟨_, _, rfl⟩
      rw [hp] at hcell
      have e1 : ∀ x : Aft wr, x.1.cell? ⟨b, off + k * 2, none⟩ = some (.int .i64 p1) := fun x => hcell 0 _ rfl _ (hr.trans x.2)
      have e2 : ∀ x : Aft wr, x.1.cell? ⟨b, off + k * 2 + 1, none⟩ = some (.int .i64 p2) := fun x => hcell 1 _ rfl _ (hr.trans x.2)
      have HD := Lib.hid (show pausesGo 0 ps = pausesGo z ((p1, p2) :: ps.drop (k + 1)) by rw [hgo.out, List.drop_eq_getElem_cons hlt', hp])
      clear hp hgo hcell
      rcases (by omega : p1 < z ∨ (¬ p1 < z ∧ p2 ≤ p1) ∨ (¬ p1 < z ∧ ¬ p2 ≤ p1 ∧ 1000000 < p2) ∨ (¬ p1 < z ∧ ¬ p2 ≤ p1 ∧ ¬ 1000000 < p2)) with c1 | ⟨c1, c2⟩ | ⟨c1, c2, c3⟩ | ⟨c1, c2, c3⟩
      · go_wp2
        (refine wp_region_aft wr (Ext.refl _) (by kernel_rfl) (by kernel_rfl) ?_; (repeat (go_big_quiet_step (fail))); refine wpQuiet_nil ?_; intro w2 hx2)
        go_wp2
        go_ret
        exact ⟨ret_bool (by rw [pausesOk, HD.out]; simp [pausesGo, c1]), by (repeat' (first | (with_reducible exact Ext.refl _) | (with_reducible assumption) | (with_reducible refine Ext.alloc ?_ _) | (with_reducible refine Ext.drewN ?_ _) | (with_reducible refine Ext.drew ?_) | (with_reducible refine Ext.setCell ?_ ?_ _) | (with_reducible exact Nat.le_refl _) | (with_reducible exact Nat.le_succ _) | (with_reducible refine Ext.trans ?_ (by assumption)) | (simp; done) | (simp; omega)))⟩
      · have d1 : decide (p1 < z) = false := by simpa using c1
        go_wp2
        (refine wp_region_aft wr (Ext.refl _) (by kernel_rfl) (by kernel_rfl) ?_; (repeat (go_big_quiet_step (fail))); refine wpQuiet_nil ?_; intro w2 hx2)
        go_wp2
        go_ret
        exact ⟨ret_bool (by rw [pausesOk, HD.out]; simp [pausesGo, c1, c2]), by (repeat' (first | (with_reducible exact Ext.refl _) | (with_reducible assumption) | (with_reducible refine Ext.alloc ?_ _) | (with_reducible refine Ext.drewN ?_ _) | (with_reducible refine Ext.drew ?_) | (with_reducible refine Ext.setCell ?_ ?_ _) | (with_reducible exact Nat.le_refl _) | (with_reducible exact Nat.le_succ _) | (with_reducible refine Ext.trans ?_ (by assumption)) | (simp; done) | (simp; omega)))⟩
      · have d1 : decide (p1 < z) = false := by simpa using c1
        have d2 : decide (p2 ≤ p1) = false := by simpa using c2
        go_wp2
        (refine wp_region_aft wr (Ext.refl _) (by kernel_rfl) (by kernel_rfl) ?_; (repeat (go_big_quiet_step (fail))); refine wpQuiet_nil ?_; intro w2 hx2)
        go_wp2
        go_ret
        exact ⟨ret_bool (by rw [pausesOk, HD.out]; simp [pausesGo, c1, c2, c3]), by (repeat' (first | (with_reducible exact Ext.refl _) | (with_reducible assumption) | (with_reducible refine Ext.alloc ?_ _) | (with_reducible refine Ext.drewN ?_ _) | (with_reducible refine Ext.drew ?_) | (with_reducible refine Ext.setCell ?_ ?_ _) | (with_reducible exact Nat.le_refl _) | (with_reducible exact Nat.le_succ _) | (with_reducible refine Ext.trans ?_ (by assumption)) | (simp; done) | (simp; omega)))⟩
      · have d1 : decide (p1 < z) = false := by simpa using c1
        have d2 : decide (p2 ≤ p1) = false := by simpa using c2
        have d3 : decide (1000000 < p2) = false := by simpa using c3
        go_wp2
        (refine wp_region_aft wr (Ext.refl _) (by kernel_rfl) (by kernel_rfl) ?_; (repeat (go_big_quiet_step (fail))); refine wpQuiet_nil ?_; intro w2 hx2)
        have e5 := e2 ⟨w2, hx2⟩
        dsimp only at e5
        go_wp2
        go_roundw
        case rel => exact ⟨k + 1, p2, by omega, by go_num, rfl, by (show _ = _); rw [HD.out]; simp [pausesGo, d1, d2, d3, c1, c2, c3], by (repeat' (first | (with_reducible exact Ext.refl _) | (with_reducible assumption) | (with_reducible refine Ext.alloc ?_ _) | (with_reducible refine Ext.drewN ?_ _) | (with_reducible refine Ext.drew ?_) | (with_reducible refine Ext.setCell ?_ ?_ _) | (with_reducible exact Nat.le_refl _) | (with_reducible exact Nat.le_succ _) | (with_reducible refine Ext.trans ?_ (by assumption)) | (simp; done) | (simp; omega)))⟩
        case measure => simp [intOf]; omega
    · have hd : ps.drop k = [] := List.drop_eq_nil_of_le (by rw [← HN.out]; omega)
      rw [hd] at hgo
      go_wp2
      go_ret
      exact ⟨ret_bool (by rw [pausesOk, hgo.out, ← HN.out]; simp [pausesGo]; try omega), by (repeat' (first | (with_reducible exact Ext.refl _) | (with_reducible assumption) | (with_reducible refine Ext.alloc ?_ _) | (with_reducible refine Ext.drewN ?_ _) | (with_reducible refine Ext.drew ?_) | (with_reducible refine Ext.setCell ?_ ?_ _) | (with_reducible exact Nat.le_refl _) | (with_reducible exact Nat.le_succ _) | (with_reducible refine Ext.trans ?_ (by assumption)) | (simp; done) | (simp; omega)))⟩

set_option maxHeartbeats 1000000 in
theorem implPausesOk_any (a : Option Addr) (n c : Nat) (ps : List (Int × Int)) (w : World) (hn : n = ps.length) (hs : n ≤ maxLen) (hf : FlatAt w pCells 2 a ps) :
    Calls Try.prog 39 #[.slice a n c] w fun e w' => e = .returned (.bool (pausesOk ps)) ∧ Ext w w' := by
  unfold maxLen at hs
  have HF := Lib.hid hf; clear hf
  by_cases h8 : 8 < n
  · go_enter Try.func39, Try.ntmps39
    go_wp2
    go_ret
    exact ⟨ret_bool (by rw [pausesOk, ← hn]; simp; omega), by (repeat' (first | (with_reducible exact Ext.refl _) | (with_reducible assumption) | (with_reducible refine Ext.alloc ?_ _) | (with_reducible refine Ext.drewN ?_ _) | (with_reducible refine Ext.drew ?_) | (with_reducible refine Ext.setCell ?_ ?_ _) | (with_reducible exact Nat.le_refl _) | (with_reducible exact Nat.le_succ _) | (with_reducible refine Ext.trans ?_ (by assumption)) | (simp; done) | (simp; omega)))⟩
  have HN := Lib.hid hn; clear hn
  go_enter Try.func39, Try.ntmps39
  go_wp2
  go_loopw [3, 11] (fun bef i wr => ∃ (k : Nat) (z : Int), k ≤ n ∧ i = .int .i64 k ∧ bef = .int .i64 z ∧ Hid (pausesGo 0 ps = pausesGo z (ps.drop k)) ∧ Ext w wr) (fun _ i _ => n - (intOf i).toNat)
  case atStart => exact ⟨0, 0, Nat.zero_le _, rfl, rfl, rfl, by (repeat' (first | (with_reducible exact Ext.refl _) | (with_reducible assumption) | (with_reducible refine Ext.alloc ?_ _) | (with_reducible refine Ext.drewN ?_ _) | (with_reducible refine Ext.drew ?_) | (with_reducible refine Ext.setCell ?_ ?_ _) | (with_reducible exact Nat.le_refl _) | (with_reducible exact Nat.le_succ _) | (with_reducible refine Ext.trans ?_ (by assumption)) | (simp; done) | (simp; omega)))⟩
  case round =>
    obtain ⟨k, z, hk, rfl, rfl, hgo, hr⟩ := hrel
    by_cases hlt : k < n
    · have hlt' : k < ps.length := by rw [← HN.out]; exact hlt
      obtain ⟨b, off, rfl, hcell⟩ := HF.out.get k hlt'
      obtain ⟨p1, p2, hp⟩ : ∃ p1 p2, ps[k] = (p1, p2) := ⟨_, _, rfl⟩
      rw [hp] at hcell
      have e1 : wr.cell? ⟨b, off + k * 2, none⟩ = some (.int .i64 p1) := hcell 0 _ rfl _ hr
      have e2 : wr.cell? ⟨b, off + k * 2 + 1, none⟩ = some (.int .i64 p2) := hcell 1 _ rfl _ hr
      have HD := Lib.hid (show pausesGo 0 ps = pausesGo z ((p1, p2) :: ps.drop (k + 1)) by rw [hgo.out, List.drop_eq_getElem_cons hlt', hp])
      clear hp hgo hcell
      rcases (by omega : p1 < z ∨ (¬ p1 < z ∧ p2 ≤ p1) ∨ (¬ p1 < z ∧ ¬ p2 ≤ p1 ∧ 1000000 < p2) ∨ (¬ p1 < z ∧ ¬ p2 ≤ p1 ∧ ¬ 1000000 < p2)) with c1 | ⟨c1, c2⟩ | ⟨c1, c2, c3⟩ | ⟨c1, c2, c3⟩
      · go_wp2
        go_ret
        exact ⟨ret_bool (by rw [pausesOk, HD.out]; simp [pausesGo, c1]), by (repeat' (first | (with_reducible exact Ext.refl _) | (with_reducible assumption) | (with_reducible refine Ext.alloc ?_ _) | (with_reducible refine Ext.drewN ?_ _) | (with_reducible refine Ext.drew ?_) | (with_reducible refine Ext.setCell ?_ ?_ _) | (with_reducible exact Nat.le_refl _) | (with_reducible exact Nat.le_succ _) | (with_reducible refine Ext.trans ?_ (by assumption)) | (simp; done) | (simp; omega)))⟩
      · have d1 : decide (p1 < z) = false := by simpa using c1
        go_wp2
        go_ret
        exact ⟨ret_bool (by rw [pausesOk, HD.out]; simp [pausesGo, c1, c2]), by (repeat' (first | (with_reducible exact Ext.refl _) | (with_reducible assumption) | (with_reducible refine Ext.alloc ?_ _) | (with_reducible refine Ext.drewN ?_ _) | (with_reducible refine Ext.drew ?_) | (with_reducible refine Ext.setCell ?_ ?_ _) | (with_reducible exact Nat.le_refl _) | (with_reducible exact Nat.le_succ _) | (with_reducible refine Ext.trans ?_ (by assumption)) | (simp; done) | (simp; omega)))⟩
      · have d1 : decide (p1 < z) = false := by simpa using c1
        have d2 : decide (p2 ≤ p1) = false := by simpa using c2
        go_wp2
        go_ret
        exact ⟨ret_bool (by rw [pausesOk, HD.out]; simp [pausesGo, c1, c2, c3]), by (repeat' (first | (with_reducible exact Ext.refl _) | (with_reducible assumption) | (with_reducible refine Ext.alloc ?_ _) | (with_reducible refine Ext.drewN ?_ _) | (with_reducible refine Ext.drew ?_) | (with_reducible refine Ext.setCell ?_ ?_ _) | (with_reducible exact Nat.le_refl _) | (with_reducible exact Nat.le_succ _) | (with_reducible refine Ext.trans ?_ (by assumption)) | (simp; done) | (simp; omega)))⟩
      · have d1 : decide (p1 < z) = false := by simpa using c1
        have d2 : decide (p2 ≤ p1) = false := by simpa using c2
        have d3 : decide (1000000 < p2) = false := by simpa using c3
        go_wp2
        go_roundw
        case rel => exact ⟨k + 1, p2, by omega, by go_num, rfl, by (show _ = _); rw [HD.out]; simp [pausesGo, d1, d2, d3, c1, c2, c3], by (repeat' (first | (with_reducible exact Ext.refl _) | (with_reducible assumption) | (with_reducible refine Ext.alloc ?_ _) | (with_reducible refine Ext.drewN ?_ _) | (with_reducible refine Ext.drew ?_) | (with_reducible refine Ext.setCell ?_ ?_ _) | (with_reducible exact Nat.le_refl _) | (with_reducible exact Nat.le_succ _) | (with_reducible refine Ext.trans ?_ (by assumption)) | (simp; done) | (simp; omega)))⟩
        case measure => simp [intOf]; omega
    · have hd : ps.drop k = [] := List.drop_eq_nil_of_le (by rw [← HN.out]; omega)
      rw [hd] at hgo
      go_wp2
      go_ret
      exact ⟨ret_bool (by rw [pausesOk, hgo.out, ← HN.out]; simp [pausesGo]; try omega), by (repeat' (first | (with_reducible exact Ext.refl _) | (with_reducible assumption) | (with_reducible refine Ext.alloc ?_ _) | (with_reducible refine Ext.drewN ?_ _) | (with_reducible refine Ext.drew ?_) | (with_reducible refine Ext.setCell ?_ ?_ _) | (with_reducible exact Nat.le_refl _) | (with_reducible exact Nat.le_succ _) | (with_reducible refine Ext.trans ?_ (by assumption)) | (simp; done) | (simp; omega)))⟩

def openGo (t : Int) : List (Int × Int) → Bool
  | [] => true
  | p :: ps => if p.1 ≤ t ∧ t < p.2 then false else openGo t ps
def isOpen (ps : List (Int × Int)) (t : Int) : Bool := pausesOk ps && inR t 0 1000000 && openGo t ps
def nextGo (t : Int) : List (Int × Int) → Int
  | [] => t
  | p :: ps => nextGo (if p.1 ≤ t ∧ t < p.2 then p.2 else t) ps
def nextOpen (ps : List (Int × Int)) (t : Int) : Int := if pausesOk ps && inR t 0 1000000 then nextGo t ps else -1

theorem pausesGo_bounds : ∀ (ps : List (Int × Int)) (bef : Int), 0 ≤ bef → pausesGo bef ps = true → ∀ p ∈ ps, 0 ≤ p.1 ∧ p.1 < p.2 ∧ p.2 ≤ 1000000
  | [], _, _, _, p, hp => by cases hp
  | q :: ps, bef, h0, h, p, hp => by
    simp only [pausesGo] at h
    split at h
    · cases h
    split at h
    · cases h
    split at h
    · cases h
    rcases List.mem_cons.1 hp with rfl | hp
    · omega
    · exact pausesGo_bounds ps q.2 (by omega) h p hp
theorem pausesOk_bounds {ps : List (Int × Int)} (h : pausesOk ps = true) : ∀ p ∈ ps, 0 ≤ p.1 ∧ p.1 < p.2 ∧ p.2 ≤ 1000000 := by
  simp only [pausesOk, Bool.and_eq_true] at h
  exact pausesGo_bounds ps 0 (Int.le_refl _) h.2

set_option maxHeartbeats 1000000 in
theorem implIsOpen_any (a : Option Addr) (n c : Nat) (ps : List (Int × Int)) (t : Int) (w : World) (hn : n = ps.length) (hs : n ≤ maxLen) (hf : FlatAt w pCells 2 a ps) :
    Calls Try.prog 44 #[.slice a n c, .int .i64 t] w fun e w' => e = .returned (.bool (isOpen ps t)) ∧ Ext w w' := by
  have HS := Lib.hid hs
  unfold maxLen at hs
  have HF := Lib.hid hf; clear hf
  have HN := Lib.hid hn; clear hn
  cases h1 : pausesOk ps
  · go_enter Try.func44, Try.ntmps44
    go_wp2_with (go_at_call 39; refine (implPausesOk_any _ _ _ ps _ HN.out HS.out HF.out).mono ?_; rintro e w1 ⟨rfl, hb1⟩)
    go_ret
    exact ⟨ret_bool (by simp [isOpen, h1]), by (repeat' (first | (with_reducible exact Ext.refl _) | (with_reducible assumption) | (with_reducible refine Ext.alloc ?_ _) | (with_reducible refine Ext.drewN ?_ _) | (with_reducible refine Ext.drew ?_) | (with_reducible refine Ext.setCell ?_ ?_ _) | (with_reducible exact Nat.le_refl _) | (with_reducible exact Nat.le_succ _) | (with_reducible refine Ext.trans ?_ (by assumption)) | (simp; done) | (simp; omega)))⟩
  cases h2 : inR t 0 1000000
  · go_enter Try.func44, Try.ntmps44
    go_wp2_with (first | (go_at_call 39; refine (implPausesOk_any _ _ _ ps _ HN.out HS.out HF.out).mono ?_; rintro e w1 ⟨rfl, hb1⟩) | (go_at_call 48; refine (inRange_any _ _ _ _).mono ?_; rintro e w' ⟨rfl, rfl⟩))
    go_ret
    exact ⟨ret_bool (by simp [isOpen, h1, h2]), by (repeat' (first | (with_reducible exact Ext.refl _) | (with_reducible assumption) | (with_reducible refine Ext.alloc ?_ _) | (with_reducible refine Ext.drewN ?_ _) | (with_reducible refine Ext.drew ?_) | (with_reducible refine Ext.setCell ?_ ?_ _) | (with_reducible exact Nat.le_refl _) | (with_reducible exact Nat.le_succ _) | (with_reducible refine Ext.trans ?_ (by assumption)) | (simp; done) | (simp; omega)))⟩
  have hin := inR_true h2
  have HB := Lib.hid (pausesOk_bounds h1)
  go_enter Try.func44, Try.ntmps44
  go_wp2_with (first | (go_at_call 39; refine (implPausesOk_any _ _ _ ps _ HN.out HS.out HF.out).mono ?_; rintro e w1 ⟨rfl, hb1⟩) | (go_at_call 48; refine (inRange_any _ _ _ _).mono ?_; rintro e w' ⟨rfl, rfl⟩))
  go_loopw [17] (fun i wr => ∃ (k : Nat), k ≤ n ∧ i = .int .i64 k ∧ Hid (openGo t ps = openGo t (ps.drop k)) ∧ Ext w wr) (fun i _ => n - (intOf i).toNat)
  case atStart => exact ⟨0, Nat.zero_le _, rfl, rfl, by (repeat' (first | (with_reducible exact Ext.refl _) | (with_reducible assumption) | (with_reducible refine Ext.alloc ?_ _) | (with_reducible refine Ext.drewN ?_ _) | (with_reducible refine Ext.drew ?_) | (with_reducible refine Ext.setCell ?_ ?_ _) | (with_reducible exact Nat.le_refl _) | (with_reducible exact Nat.le_succ _) | (with_reducible refine Ext.trans ?_ (by assumption)) | (simp; done) | (simp; omega)))⟩
  case round =>
    obtain ⟨k, hk, rfl, hgo, hr⟩ := hrel
    by_cases hlt : k < n
    · have hlt' : k < ps.length := by rw [← HN.out]; exact hlt
      obtain ⟨b, off, rfl, hcell⟩ := HF.out.get k hlt'
      obtain ⟨p1, p2, hp⟩ : ∃ p1 p2, ps[k] = (p1, p2) := ⟨_, _, rfl⟩
      have hpb := HB.out ps[k] (List.getElem_mem _)
      rw [hp] at hcell hpb
      dsimp only at hpb
      have e1 : wr.cell? ⟨b, off + k * 2, none⟩ = some (.int .i64 p1) := hcell 0 _ rfl _ hr
      have e2 : wr.cell? ⟨b, off + k * 2 + 1, none⟩ = some (.int .i64 p2) := hcell 1 _ rfl _ hr
      have HD := Lib.hid (show openGo t ps = openGo t ((p1, p2) :: ps.drop (k + 1)) by rw [hgo.out, List.drop_eq_getElem_cons hlt', hp])
      clear hp hgo hcell
      rcases (by omega : (p1 ≤ t ∧ t < p2) ∨ ¬ p1 ≤ t ∨ (p1 ≤ t ∧ ¬ t < p2)) with ⟨c1, c2⟩ | c1 | ⟨c1, c2⟩
      · go_wp2
        go_ret
        exact ⟨ret_bool (by rw [isOpen, HD.out]; simp [openGo, c1, c2]), by (repeat' (first | (with_reducible exact Ext.refl _) | (with_reducible assumption) | (with_reducible refine Ext.alloc ?_ _) | (with_reducible refine Ext.drewN ?_ _) | (with_reducible refine Ext.drew ?_) | (with_reducible refine Ext.setCell ?_ ?_ _) | (with_reducible exact Nat.le_refl _) | (with_reducible exact Nat.le_succ _) | (with_reducible refine Ext.trans ?_ (by assumption)) | (simp; done) | (simp; omega)))⟩
      · have d1 : decide (p1 ≤ t) = false := by simpa using c1
        go_wp2
        go_roundw
        case rel => exact ⟨k + 1, by omega, by go_num, by (show _ = _); rw [HD.out]; simp [openGo, d1, c1], by (repeat' (first | (with_reducible exact Ext.refl _) | (with_reducible assumption) | (with_reducible refine Ext.alloc ?_ _) | (with_reducible refine Ext.drewN ?_ _) | (with_reducible refine Ext.drew ?_) | (with_reducible refine Ext.setCell ?_ ?_ _) | (with_reducible exact Nat.le_refl _) | (with_reducible exact Nat.le_succ _) | (with_reducible refine Ext.trans ?_ (by assumption)) | (simp; done) | (simp; omega)))⟩
        case measure => simp [intOf]; omega
      · have d2 : decide (t < p2) = false := by simpa using c2
        go_wp2
        go_roundw
        case rel => exact ⟨k + 1, by omega, by go_num, by (show _ = _); rw [HD.out]; simp [openGo, d2, c1, c2], by (repeat' (first | (with_reducible exact Ext.refl _) | (with_reducible assumption) | (with_reducible refine Ext.alloc ?_ _) | (with_reducible refine Ext.drewN ?_ _) | (with_reducible refine Ext.drew ?_) | (with_reducible refine Ext.setCell ?_ ?_ _) | (with_reducible exact Nat.le_refl _) | (with_reducible exact Nat.le_succ _) | (with_reducible refine Ext.trans ?_ (by assumption)) | (simp; done) | (simp; omega)))⟩
        case measure => simp [intOf]; omega
    · have hd : ps.drop k = [] := List.drop_eq_nil_of_le (by rw [← HN.out]; omega)
      rw [hd] at hgo
      go_wp2
      go_ret
      exact ⟨ret_bool (by rw [isOpen, hgo.out, h1, h2]; simp [openGo]), by (repeat' (first | (with_reducible exact Ext.refl _) | (with_reducible assumption) | (with_reducible refine Ext.alloc ?_ _) | (with_reducible refine Ext.drewN ?_ _) | (with_reducible refine Ext.drew ?_) | (with_reducible refine Ext.setCell ?_ ?_ _) | (with_reducible exact Nat.le_refl _) | (with_reducible exact Nat.le_succ _) | (with_reducible refine Ext.trans ?_ (by assumption)) | (simp; done) | (simp; omega)))⟩

set_option maxHeartbeats 1000000 in
theorem implNextOpen_any (a : Option Addr) (n c : Nat) (ps : List (Int × Int)) (t : Int) (w : World) (hn : n = ps.length) (hs : n ≤ maxLen) (hf : FlatAt w pCells 2 a ps) :
    Calls Try.prog 43 #[.slice a n c, .int .i64 t] w fun e w' => e = .returned (.int .i64 (nextOpen ps t)) ∧ Ext w w' := by
  have HS := Lib.hid hs
  unfold maxLen at hs
  have HF := Lib.hid hf; clear hf
  have HN := Lib.hid hn; clear hn
  cases h1 : pausesOk ps
  · go_enter Try.func43, Try.ntmps43
    go_wp2_with (go_at_call 39; refine (implPausesOk_any _ _ _ ps _ HN.out HS.out HF.out).mono ?_; rintro e w1 ⟨rfl, hb1⟩)
    go_ret
    exact ⟨ret_int (by simp [nextOpen, h1]), by (repeat' (first | (with_reducible exact Ext.refl _) | (with_reducible assumption) | (with_reducible refine Ext.alloc ?_ _) | (with_reducible refine Ext.drewN ?_ _) | (with_reducible refine Ext.drew ?_) | (with_reducible refine Ext.setCell ?_ ?_ _) | (with_reducible exact Nat.le_refl _) | (with_reducible exact Nat.le_succ _) | (with_reducible refine Ext.trans ?_ (by assumption)) | (simp; done) | (simp; omega)))⟩
  cases h2 : inR t 0 1000000
  · go_enter Try.func43, Try.ntmps43
    go_wp2_with (first | (go_at_call 39; refine (implPausesOk_any _ _ _ ps _ HN.out HS.out HF.out).mono ?_; rintro e w1 ⟨rfl, hb1⟩) | (go_at_call 48; refine (inRange_any _ _ _ _).mono ?_; rintro e w' ⟨rfl, rfl⟩))
    go_ret
    exact ⟨ret_int (by simp [nextOpen, h1, h2]), by (repeat' (first | (with_reducible exact Ext.refl _) | (with_reducible assumption) | (with_reducible refine Ext.alloc ?_ _) | (with_reducible refine Ext.drewN ?_ _) | (with_reducible refine Ext.drew ?_) | (with_reducible refine Ext.setCell ?_ ?_ _) | (with_reducible exact Nat.le_refl _) | (with_reducible exact Nat.le_succ _) | (with_reducible refine Ext.trans ?_ (by assumption)) | (simp; done) | (simp; omega)))⟩
  have hin := inR_true h2
  have HB := Lib.hid (pausesOk_bounds h1)
  go_enter Try.func43, Try.ntmps43
  go_wp2_with (first | (go_at_call 39; refine (implPausesOk_any _ _ _ ps _ HN.out HS.out HF.out).mono ?_; rintro e w1 ⟨rfl, hb1⟩) | (go_at_call 48; refine (inRange_any _ _ _ _).mono ?_; rintro e w' ⟨rfl, rfl⟩))
  go_loopw [1, 17] (fun tt i wr => ∃ (k : Nat) (z : Int), k ≤ n ∧ i = .int .i64 k ∧ tt = .int .i64 z ∧ Hid (nextGo t ps = nextGo z (ps.drop k)) ∧ Ext w wr) (fun _ i _ => n - (intOf i).toNat)
  case atStart => exact ⟨0, t, Nat.zero_le _, rfl, rfl, rfl, by (repeat' (first | (with_reducible exact Ext.refl _) | (with_reducible assumption) | (with_reducible refine Ext.alloc ?_ _) | (with_reducible refine Ext.drewN ?_ _) | (with_reducible refine Ext.drew ?_) | (with_reducible refine Ext.setCell ?_ ?_ _) | (with_reducible exact Nat.le_refl _) | (with_reducible exact Nat.le_succ _) | (with_reducible refine Ext.trans ?_ (by assumption)) | (simp; done) | (simp; omega)))⟩
  case round =>
    obtain ⟨k, z, hk, rfl, rfl, hgo, hr⟩ := hrel
    by_cases hlt : k < n
    · have hlt' : k < ps.length := by rw [← HN.out]; exact hlt
      obtain ⟨b, off, rfl, hcell⟩ := HF.out.get k hlt'
      obtain ⟨p1, p2, hp⟩ : ∃ p1 p2, ps[k] = (p1, p2) := ⟨_, _, rfl⟩
      have hpb := HB.out ps[k] (List.getElem_mem _)
      rw [hp] at hcell hpb
      dsimp only at hpb
      have e1 : wr.cell? ⟨b, off + k * 2, none⟩ = some (.int .i64 p1) := hcell 0 _ rfl _ hr
      have e2 : wr.cell? ⟨b, off + k * 2 + 1, none⟩ = some (.int .i64 p2) := hcell 1 _ rfl _ hr
      have HD := Lib.hid (show nextGo t ps = nextGo z ((p1, p2) :: ps.drop (k + 1)) by rw [hgo.out, List.drop_eq_getElem_cons hlt', hp])
      clear hp hgo hcell
      rcases (by omega : (p1 ≤ z ∧ z < p2) ∨ ¬ p1 ≤ z ∨ (p1 ≤ z ∧ ¬ z < p2)) with ⟨c1, c2⟩ | c1 | ⟨c1, c2⟩
      · go_wp2
        go_roundw
        case rel => exact ⟨k + 1, p2, by omega, by go_num, rfl, by (show _ = _); rw [HD.out]; simp [nextGo, c1, c2], by (repeat' (first | (with_reducible exact Ext.refl _) | (with_reducible assumption) | (with_reducible refine Ext.alloc ?_ _) | (with_reducible refine Ext.drewN ?_ _) | (with_reducible refine Ext.drew ?_) | (with_reducible refine Ext.setCell ?_ ?_ _) | (with_reducible exact Nat.le_refl _) | (with_reducible exact Nat.le_succ _) | (with_reducible refine Ext.trans ?_ (by assumption)) | (simp; done) | (simp; omega)))⟩
        case measure => simp [intOf]; omega
      · have d1 : decide (p1 ≤ z) = false := by simpa using c1
        go_wp2
        go_roundw
        case rel => exact ⟨k + 1, z, by omega, by go_num, rfl, by (show _ = _); rw [HD.out]; simp [nextGo, d1, c1], by (repeat' (first | (with_reducible exact Ext.refl _) | (with_reducible assumption) | (with_reducible refine Ext.alloc ?_ _) | (with_reducible refine Ext.drewN ?_ _) | (with_reducible refine Ext.drew ?_) | (with_reducible refine Ext.setCell ?_ ?_ _) | (with_reducible exact Nat.le_refl _) | (with_reducible exact Nat.le_succ _) | (with_reducible refine Ext.trans ?_ (by assumption)) | (simp; done) | (simp; omega)))⟩
        case measure => simp [intOf]; omega
      · have d2 : decide (z < p2) = false := by simpa using c2
        go_wp2
        go_roundw
        case rel => exact ⟨k + 1, z, by omega, by go_num, rfl, by (show _ = _); rw [HD.out]; simp [nextGo, d2, c1, c2], by (repeat' (first | (with_reducible exact Ext.refl _) | (with_reducible assumption) | (with_reducible refine Ext.alloc ?_ _) | (with_reducible refine Ext.drewN ?_ _) | (with_reducible refine Ext.drew ?_) | (with_reducible refine Ext.setCell ?_ ?_ _) | (with_reducible exact Nat.le_refl _) | (with_reducible exact Nat.le_succ _) | (with_reducible refine Ext.trans ?_ (by assumption)) | (simp; done) | (simp; omega)))⟩
        case measure => simp [intOf]; omega
    · have hd : ps.drop k = [] := List.drop_eq_nil_of_le (by rw [← HN.out]; omega)
      rw [hd] at hgo
      go_wp2
      go_ret
      exact ⟨ret_int (by rw [nextOpen, h1, h2, hgo.out]; simp [nextGo]), by (repeat' (first | (with_reducible exact Ext.refl _) | (with_reducible assumption) | (with_reducible refine Ext.alloc ?_ _) | (with_reducible refine Ext.drewN ?_ _) | (with_reducible refine Ext.drew ?_) | (with_reducible refine Ext.setCell ?_ ?_ _) | (with_reducible exact Nat.le_refl _) | (with_reducible exact Nat.le_succ _) | (with_reducible refine Ext.trans ?_ (by assumption)) | (simp; done) | (simp; omega)))⟩

set_option maxHeartbeats 1000000 in
theorem specIsOpen_any (a : Option Addr) (n c : Nat) (ps : List (Int × Int)) (t : Int) (w : World) (hn : n = ps.length) (hs : n ≤ maxLen) (hf : FlatAt w pCells 2 a ps) :
    Calls Try.prog 45 #[.slice a n c, .int .i64 t] w fun e w' => e = .returned (.bool (isOpen ps t)) ∧ Ext w w' := by
  have HS := Lib.hid hs
  unfold maxLen at hs
  have HF := Lib.hid hf; clear hf
  have HN := Lib.hid hn; clear hn
  cases h1 : pausesOk ps
  · go_enter Try.func45, Try.ntmps45
    go_wp2_with (go_at_call 37; refine (specPausesOk_any _ _ _ ps _ HN.out HS.out HF.out).mono ?_; rintro e w1 ⟨rfl, hb1⟩)
    go_ret
    exact ⟨ret_bool (by simp [isOpen, h1]), by (repeat' (first | (with_reducible exact Ext.refl _) | (with_reducible assumption) | (with_reducible refine Ext.alloc ?_ _) | (with_reducible refine Ext.drewN ?_ _) | (with_reducible refine Ext.drew ?_) | (with_reducible refine Ext.setCell ?_ ?_ _) | (with_reducible exact Nat.le_refl _) | (with_reducible exact Nat.le_succ _) | (with_reducible refine Ext.trans ?_ (by assumption)) | (simp; done) | (simp; omega)))⟩
  cases h2 : inR t 0 1000000
  · go_enter Try.func45, Try.ntmps45
    go_wp2_with (first | (go_at_call 37; refine (specPausesOk_any _ _ _ ps _ HN.out HS.out HF.out).mono ?_; rintro e w1 ⟨rfl, hb1⟩) | (go_at_call 47; refine (l01In_any _ _ _ _).mono ?_; rintro e w' ⟨rfl, rfl⟩))
    go_ret
    exact ⟨ret_bool (by simp [isOpen, h1, h2]), by (repeat' (first | (with_reducible exact Ext.refl _) | (with_reducible assumption) | (with_reducible refine Ext.alloc ?_ _) | (with_reducible refine Ext.drewN ?_ _) | (with_reducible refine Ext.drew ?_) | (with_reducible refine Ext.setCell ?_ ?_ _) | (with_reducible exact Nat.le_refl _) | (with_reducible exact Nat.le_succ _) | (with_reducible refine Ext.trans ?_ (by assumption)) | (simp; done) | (simp; omega)))⟩
  have hin := inR_true h2
  have HB := Lib.hid (pausesOk_bounds h1)
  go_enter Try.func45, Try.ntmps45
  go_wp2_with (first | (go_at_call 37; refine (specPausesOk_any _ _ _ ps _ HN.out HS.out HF.out).mono ?_; rintro e w1 ⟨rfl, hb1⟩) | (go_at_call 47; refine (l01In_any _ _ _ _).mono ?_; rintro e w' ⟨rfl, rfl⟩))
  go_loopw [5] (fun i wr => ∃ (k : Nat), k ≤ n ∧ i = .int .i64 k ∧ Hid (openGo t ps = openGo t (ps.drop k)) ∧ Ext w wr) (fun i _ => n - (intOf i).toNat)
  case atStart => exact ⟨0, Nat.zero_le _, rfl, rfl, by (repeat' (first | (with_reducible exact Ext.refl _) | (with_reducible assumption) | (with_reducible refine Ext.alloc ?_ _) | (with_reducible refine Ext.drewN ?_ _) | (with_reducible refine Ext.drew ?_) | (with_reducible refine Ext.setCell ?_ ?_ _) | (with_reducible exact Nat.le_refl _) | (with_reducible exact Nat.le_succ _) | (with_reducible refine Ext.trans ?_ (by assumption)) | (simp; done) | (simp; omega)))⟩
  case round =>
    obtain ⟨k, hk, rfl, hgo, hr⟩ := hrel
    by_cases hlt : k < n
    · have hlt' : k < ps.length := by rw [← HN.out]; exact hlt
      obtain ⟨b, off, rfl, hcell⟩ := HF.out.get k hlt'
      obtain ⟨p1, p2, hp⟩ : ∃ p1 p2, ps[k] = (p1, p2) := ⟨_, _, rfl⟩
      have hpb := HB.out ps[k] (List.getElem_mem _)
      rw [hp] at hcell hpb
      dsimp only at hpb
      have e1 : ∀ x : Aft wr, x.1.cell? ⟨b, off + k * 2, none⟩ = some (.int .i64 p1) := fun x => hcell 0 _ rfl _ (hr.trans x.2)
      have e2 : ∀ x : Aft wr, x.1.cell? ⟨b, off + k * 2 + 1, none⟩ = some (.int .i64 p2) := fun x => hcell 1 _ rfl _ (hr.trans x.2)
      have HD := Lib.hid (show openGo t ps = openGo t ((p1, p2) :: ps.drop (k + 1)) by rw [hgo.out, List.drop_eq_getElem_cons hlt', hp])
      clear hp hgo hcell
      cases hc : inR t p1 (p2 - 1)
      · have c1 : ¬ (p1 ≤ t ∧ t < p2) := by have := inR_false hc; omega
        go_wp2_with fail
        (refine wp_region_aft wr (Ext.refl _) (by kernel_rfl) (by kernel_rfl) ?_; (repeat (go_big_quiet_step ((go_at_call 47; exact aft_same (l01In_any _ _ _ _))))); refine wpQuiet_nil ?_; intro w2 hx2)
        rw [hc]
        go_wp2
        go_roundw
        case rel => exact ⟨k + 1, by omega, by go_num, by (show _ = _); rw [HD.out]; rw [openGo, if_neg c1], by (repeat' (first | (with_reducible exact Ext.refl _) | (with_reducible assumption) | (with_reducible refine Ext.alloc ?_ _) | (with_reducible refine Ext.drewN ?_ _) | (with_reducible refine Ext.drew ?_) | (with_reducible refine Ext.setCell ?_ ?_ _) | (with_reducible exact Nat.le_refl _) | (with_reducible exact Nat.le_succ _) | (with_reducible refine Ext.trans ?_ (by assumption)) | (simp; done) | (simp; omega)))⟩
        case measure => simp [intOf]; omega
      · have c1 : p1 ≤ t ∧ t < p2 := by have := inR_true hc; omega
        go_wp2_with fail
        (refine wp_region_aft wr (Ext.refl _) (by kernel_rfl) (by kernel_rfl) ?_; (repeat (go_big_quiet_step ((go_at_call 47; exact aft_same (l01In_any _ _ _ _))))); refine wpQuiet_nil ?_; intro w2 hx2)
        rw [hc]
        have e5 := e2 ⟨w2, hx2⟩
        dsimp only at e5
        go_wp2
        go_ret
        exact ⟨ret_bool (by rw [isOpen, HD.out]; simp [openGo, c1]), by (repeat' (first | (with_reducible exact Ext.refl _) | (with_reducible assumption) | (with_reducible refine Ext.alloc ?_ _) | (with_reducible refine Ext.drewN ?_ _) | (with_reducible refine Ext.drew ?_) | (with_reducible refine Ext.setCell ?_ ?_ _) | (with_reducible exact Nat.le_refl _) | (with_reducible exact Nat.le_succ _) | (with_reducible refine Ext.trans ?_ (by assumption)) | (simp; done) | (simp; omega)))⟩
    · have hd : ps.drop k = [] := List.drop_eq_nil_of_le (by rw [← HN.out]; omega)
      rw [hd] at hgo
      go_wp2
      go_ret
      exact ⟨ret_bool (by rw [isOpen, hgo.out, h1, h2]; simp [openGo]), by (repeat' (first | (with_reducible exact Ext.refl _) | (with_reducible assumption) | (with_reducible refine Ext.alloc ?_ _) | (with_reducible refine Ext.drewN ?_ _) | (with_reducible refine Ext.drew ?_) | (with_reducible refine Ext.setCell ?_ ?_ _) | (with_reducible exact Nat.le_refl _) | (with_reducible exact Nat.le_succ _) | (with_reducible refine Ext.trans ?_ (by assumption)) | (simp; done) | (simp; omega)))⟩

set_option maxHeartbeats 1000000 in
theorem specNextOpen_any (a : Option Addr) (n c : Nat) (ps : List (Int × Int)) (t : Int) (w : World) (hn : n = ps.length) (hs : n ≤ maxLen) (hf : FlatAt w pCells 2 a ps) :
    Calls Try.prog 46 #[.slice a n c, .int .i64 t] w fun e w' => e = .returned (.int .i64 (nextOpen ps t)) ∧ Ext w w' := by
  have HS := Lib.hid hs
  unfold maxLen at hs
  have HF := Lib.hid hf; clear hf
  have HN := Lib.hid hn; clear hn
  cases h1 : pausesOk ps
  · go_enter Try.func46, Try.ntmps46
    go_wp2_with (go_at_call 37; refine (specPausesOk_any _ _ _ ps _ HN.out HS.out HF.out).mono ?_; rintro e w1 ⟨rfl, hb1⟩)
    go_ret
    exact ⟨ret_int (by simp [nextOpen, h1]), by (repeat' (first | (with_reducible exact Ext.refl _) | (with_reducible assumption) | (with_reducible refine Ext.alloc ?_ _) | (with_reducible refine Ext.drewN ?_ _) | (with_reducible refine Ext.drew ?_) | (with_reducible refine Ext.setCell ?_ ?_ _) | (with_reducible exact Nat.le_refl _) | (with_reducible exact Nat.le_succ _) | (with_reducible refine Ext.trans ?_ (by assumption)) | (simp; done) | (simp; omega)))⟩
  cases h2 : inR t 0 1000000
  · go_enter Try.func46, Try.ntmps46
    go_wp2_with (first | (go_at_call 37; refine (specPausesOk_any _ _ _ ps _ HN.out HS.out HF.out).mono ?_; rintro e w1 ⟨rfl, hb1⟩) | (go_at_call 47; refine (l01In_any _ _ _ _).mono ?_; rintro e w' ⟨rfl, rfl⟩))
    go_ret
    exact ⟨ret_int (by simp [nextOpen, h1, h2]), by (repeat' (first | (with_reducible exact Ext.refl _) | (with_reducible assumption) | (with_reducible refine Ext.alloc ?_ _) | (with_reducible refine Ext.drewN ?_ _) | (with_reducible refine Ext.drew ?_) | (with_reducible refine Ext.setCell ?_ ?_ _) | (with_reducible exact Nat.le_refl _) | (with_reducible exact Nat.le_succ _) | (with_reducible refine Ext.trans ?_ (by assumption)) | (simp; done) | (simp; omega)))⟩
  have hin := inR_true h2
  have HB := Lib.hid (pausesOk_bounds h1)
  go_enter Try.func46, Try.ntmps46
  go_wp2_with (first | (go_at_call 37; refine (specPausesOk_any _ _ _ ps _ HN.out HS.out HF.out).mono ?_; rintro e w1 ⟨rfl, hb1⟩) | (go_at_call 47; refine (l01In_any _ _ _ _).mono ?_; rintro e w' ⟨rfl, rfl⟩))
  go_loopw [1, 5] (fun tt i wr => ∃ (k : Nat) (z : Int), k ≤ n ∧ i = .int .i64 k ∧ tt = .int .i64 z ∧ Hid (nextGo t ps = nextGo z (ps.drop k)) ∧ Ext w wr) (fun _ i _ => n - (intOf i).toNat)
  case atStart => exact ⟨0, t, Nat.zero_le _, rfl, rfl, rfl, by (repeat' (first | (with_reducible exact Ext.refl _) | (with_reducible assumption) | (with_reducible refine Ext.alloc ?_ _) | (with_reducible refine Ext.drewN ?_ _) | (with_reducible refine Ext.drew ?_) | (with_reducible refine Ext.setCell ?_ ?_ _) | (with_reducible exact Nat.le_refl _) | (with_reducible exact Nat.le_succ _) | (with_reducible refine Ext.trans ?_ (by assumption)) | (simp; done) | (simp; omega)))⟩
  case round =>
    obtain ⟨k, z, hk, rfl, rfl, hgo, hr⟩ := hrel
    by_cases hlt : k < n
    · have hlt' : k < ps.length := by rw [← HN.out]; exact hlt
      obtain ⟨b, off, rfl, hcell⟩ := HF.out.get k hlt'
      obtain ⟨p1, p2, hp⟩ : ∃ p1 p2, ps[k] = (p1, p2) := ⟨_, _, rfl⟩
      have hpb := HB.out ps[k] (List.getElem_mem _)
      rw [hp] at hcell hpb
      dsimp only at hpb
      have e1 : ∀ x : Aft wr, x.1.cell? ⟨b, off + k * 2, none⟩ = some (.int .i64 p1) := fun x => hcell 0 _ rfl _ (hr.trans x.2)
      have e2 : ∀ x : Aft wr, x.1.cell? ⟨b, off + k * 2 + 1, none⟩ = some (.int .i64 p2) := fun x => hcell 1 _ rfl _ (hr.trans x.2)
      have HD := Lib.hid (show nextGo t ps = nextGo z ((p1, p2) :: ps.drop (k + 1)) by rw [hgo.out, List.drop_eq_getElem_cons hlt', hp])
      clear hp hgo hcell
      cases hc : inR z p1 (p2 - 1)
      · have c1 : ¬ (p1 ≤ z ∧ z < p2) := by have := inR_false hc; omega
        go_wp2_with fail
        (refine wp_region_aft wr (Ext.refl _) (by kernel_rfl) (by kernel_rfl) ?_; (repeat (go_big_quiet_step ((go_at_call 47; exact aft_same (l01In_any _ _ _ _))))); refine wpQuiet_nil ?_; intro w2 hx2)
        rw [hc]
        go_wp2
        go_roundw
        case rel => exact ⟨k + 1, z, by omega, by go_num, rfl, by (show _ = _); rw [HD.out]; rw [nextGo, if_neg c1], by (repeat' (first | (with_reducible exact Ext.refl _) | (with_reducible assumption) | (with_reducible refine Ext.alloc ?_ _) | (with_reducible refine Ext.drewN ?_ _) | (with_reducible refine Ext.drew ?_) | (with_reducible refine Ext.setCell ?_ ?_ _) | (with_reducible exact Nat.le_refl _) | (with_reducible exact Nat.le_succ _) | (with_reducible refine Ext.trans ?_ (by assumption)) | (simp; done) | (simp; omega)))⟩
        case measure => simp [intOf]; omega
      · have c1 : p1 ≤ z ∧ z < p2 := by have := inR_true hc; omega
        go_wp2_with fail
        (refine wp_region_aft wr (Ext.refl _) (by kernel_rfl) (by kernel_rfl) ?_; (repeat (go_big_quiet_step ((go_at_call 47; exact aft_same (l01In_any _ _ _ _))))); refine wpQuiet_nil ?_; intro w2 hx2)
        rw [hc]
        have e5 := e2 ⟨w2, hx2⟩
        dsimp only at e5
        go_wp2
        go_roundw
        case rel => exact ⟨k + 1, p2, by omega, by go_num, rfl, by (show _ = _); rw [HD.out]; rw [nextGo, if_pos c1], by (repeat' (first | (with_reducible exact Ext.refl _) | (with_reducible assumption) | (with_reducible refine Ext.alloc ?_ _) | (with_reducible refine Ext.drewN ?_ _) | (with_reducible refine Ext.drew ?_) | (with_reducible refine Ext.setCell ?_ ?_ _) | (with_reducible exact Nat.le_refl _) | (with_reducible exact Nat.le_succ _) | (with_reducible refine Ext.trans ?_ (by assumption)) | (simp; done) | (simp; omega)))⟩
        case measure => simp [intOf]; omega
    · have hd : ps.drop k = [] := List.drop_eq_nil_of_le (by rw [← HN.out]; omega)
      rw [hd] at hgo
      go_wp2
      go_ret
      exact ⟨ret_int (by rw [nextOpen, h1, h2, hgo.out]; simp [nextGo]), by (repeat' (first | (with_reducible exact Ext.refl _) | (with_reducible assumption) | (with_reducible refine Ext.alloc ?_ _) | (with_reducible refine Ext.drewN ?_ _) | (with_reducible refine Ext.drew ?_) | (with_reducible refine Ext.setCell ?_ ?_ _) | (with_reducible exact Nat.le_refl _) | (with_reducible exact Nat.le_succ _) | (with_reducible refine Ext.trans ?_ (by assumption)) | (simp; done) | (simp; omega)))⟩
end Go.Proofs.Ytpfofheligacfaa
