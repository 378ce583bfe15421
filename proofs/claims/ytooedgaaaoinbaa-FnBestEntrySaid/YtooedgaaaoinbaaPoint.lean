/- Points, ints and reaches: sizes, conversion, comparison, how they open. -/
import Derived.Test.YtooedgaaaoinbaaProg
import Derived.Test.YtooedgaaaoinbaaMark
import Derived.Test.YtooedgaaaoinbaaOpenT
namespace Go.Proofs.Ytooedgaaaoinbaa
open Go.RowKit
set_option linter.unusedSimpArgs false
set_option linter.unusedVariables false

abbrev Pt : Type := Int × Int
def ptCells (p : Pt) : List Value := [.int .i64 p.1, .int .i64 p.2]
/-- Points in a block of their own. -/
def PtOwn (w : World) (lo hi : Nat) (v : Value) (ps : List Pt) : Prop :=
  ∃ a c, v = .slice a ps.length c ∧ (ps = [] ∨ ∃ B off cur, a = some ⟨B, off, none⟩ ∧ lo ≤ B ∧ B < hi ∧ RowAt w B 68 cur ∧ ∀ k (h : k < ps.length), cur[off + k * 2]? = some (.int .i64 ps[k].1) ∧ cur[off + k * 2 + 1]? = some (.int .i64 ps[k].2))
theorem PtOwn.keep {w w' : World} {lo hi lo' hi' : Nat} {v : Value} {ps : List Pt} (h : PtOwn w lo hi v ps) (hl : lo' ≤ lo) (hh : hi ≤ hi') (hk : ∀ B t c, lo ≤ B → B < hi → RowAt w B t c → RowAt w' B t c) : PtOwn w' lo' hi' v ps := by
  obtain ⟨a, c, e, hr⟩ := h
  exact ⟨a, c, e, hr.imp id fun ⟨B, off, cur, e1, h1, h2, h3, h4⟩ => ⟨B, off, cur, e1, by omega, by omega, hk _ _ _ h1 h2 h3, h4⟩⟩
theorem PtOwn.ext {w w' : World} {lo hi : Nat} {v : Value} {ps : List Pt} (h : PtOwn w lo hi v ps) (hx : Ext w w') : PtOwn w' lo hi v ps := h.keep (Nat.le_refl _) (Nat.le_refl _) (fun _ _ _ _ _ hr => hr.ext hx)
theorem PtOwn.chg {lo hi lo2 hi2 : Nat} {w w' : World} {v : Value} {ps : List Pt} (h : PtOwn w lo hi v ps) (hc : Chg lo2 hi2 w w') (ho : hi ≤ lo2 ∨ hi2 ≤ lo) : PtOwn w' lo hi v ps := h.keep (Nat.le_refl _) (Nat.le_refl _) (fun B _ _ h1 h2 hr => hr.chg hc (by omega))
theorem PtOwn.at {lo hi n : Nat} {w : World} {a : Option Addr} {c : Nat} {ps : List Pt} (h : PtOwn w lo hi (.slice a n c) ps) : FlatAt w ptCells 2 a ps := by
  obtain ⟨a', c', e, hr⟩ := h
  injection e with ea _ _
  subst ea
  intro k hk
  rcases hr with rfl | ⟨B, off, cur, rfl, _, _, h3, h4⟩
  · exact absurd hk (Nat.not_lt_zero _)
  · refine ⟨B, off, rfl, fun j u hu => ?_⟩
    match j, hu with
    | 0, hu => cases hu; exact h3.cell (h4 k hk).1
    | 1, hu => cases hu; exact h3.cell (h4 k hk).2
theorem IntOwn.keep {w w' : World} {lo hi lo' hi' : Nat} {v : Value} {xs : List Int} (h : IntOwn w lo hi v xs) (hl : lo' ≤ lo) (hh : hi ≤ hi') (hk : ∀ B t c, lo ≤ B → B < hi → RowAt w B t c → RowAt w' B t c) : IntOwn w' lo' hi' v xs := by
  obtain ⟨a, c, e, hr⟩ := h
  exact ⟨a, c, e, hr.imp id fun ⟨B, off, cur, e1, h1, h2, h3, h4⟩ => ⟨B, off, cur, e1, by omega, by omega, hk _ _ _ h1 h2 h3, h4⟩⟩

set_option maxHeartbeats 400000 in
theorem szPointS_any (a : Option Addr) (n c : Nat) (left : Int) (hn : n ≤ maxLen) (h0 : 0 ≤ left) (h1 : left ≤ 9223372036854775807) (w : World) :
    Calls Try.prog 55 #[.slice a n c, .int .i64 left] w fun e w' => e = .returned (.int .i64 (szRow left n)) ∧ Ext w w' := by
  unfold maxLen at hn
  by_cases h : left < n
  all_goals
    go_enter Try.func55, Try.ntmps55
    go_wp2
    go_ret
    exact ⟨ret_int (by unfold szRow; split <;> omega), by (repeat' (first | (with_reducible exact Ext.refl _) | (with_reducible assumption) | (with_reducible refine Ext.alloc ?_ _) | (with_reducible refine Ext.drewN ?_ _) | (with_reducible refine Ext.drew ?_) | (with_reducible refine Ext.setCell ?_ ?_ _) | (with_reducible exact Nat.le_refl _) | (with_reducible exact Nat.le_succ _) | (with_reducible refine Ext.trans ?_ (by assumption)) | (simp; done) | (simp; omega)))⟩
set_option maxHeartbeats 400000 in
theorem szIntS_any (a : Option Addr) (n c : Nat) (left : Int) (hn : n ≤ maxLen) (h0 : 0 ≤ left) (h1 : left ≤ 9223372036854775807) (w : World) :
    Calls Try.prog 56 #[.slice a n c, .int .i64 left] w fun e w' => e = .returned (.int .i64 (szRow left n)) ∧ Ext w w' := by
  unfold maxLen at hn
  by_cases h : left < n
  all_goals
    go_enter Try.func56, Try.ntmps56
    go_wp2
    go_ret
    exact ⟨ret_int (by unfold szRow; split <;> omega), by (repeat' (first | (with_reducible exact Ext.refl _) | (with_reducible assumption) | (with_reducible refine Ext.alloc ?_ _) | (with_reducible refine Ext.drewN ?_ _) | (with_reducible refine Ext.drew ?_) | (with_reducible refine Ext.setCell ?_ ?_ _) | (with_reducible exact Nat.le_refl _) | (with_reducible exact Nat.le_succ _) | (with_reducible refine Ext.trans ?_ (by assumption)) | (simp; done) | (simp; omega)))⟩
set_option maxHeartbeats 400000 in
theorem toPoint_any (x y : Int) (w : World) :
    Calls Try.prog 115 #[.agg #[.int .i64 x, .int .i64 y]] w fun e w' => e = .returned (.agg #[.int .i64 x, .int .i64 y]) ∧ Ext w w' := by
  go_enter Try.func115, Try.ntmps115
  go_wp2
  exact bodyPost_ret (v := .agg #[.int .i64 x, .int .i64 y]) (by simp [results, Try.results115, go_sem]) rfl ⟨rfl, by (repeat' (first | (with_reducible exact Ext.refl _) | (with_reducible assumption) | (with_reducible refine Ext.alloc ?_ _) | (with_reducible refine Ext.drewN ?_ _) | (with_reducible refine Ext.drew ?_) | (with_reducible refine Ext.setCell ?_ ?_ _) | (with_reducible exact Nat.le_refl _) | (with_reducible exact Nat.le_succ _) | (with_reducible refine Ext.trans ?_ (by assumption)) | (simp; done) | (simp; omega)))⟩
set_option maxHeartbeats 400000 in
theorem eqPoint_same (x y : Int) (w : World) :
    Calls Try.prog 119 #[.agg #[.int .i64 x, .int .i64 y], .agg #[.int .i64 x, .int .i64 y]] w fun e w' => e = .returned (.bool true) ∧ Ext w w' := by
  go_enter Try.func119, Try.ntmps119
  go_wp2
  go_ret
  exact ⟨rfl, by (repeat' (first | (with_reducible exact Ext.refl _) | (with_reducible assumption) | (with_reducible refine Ext.alloc ?_ _) | (with_reducible refine Ext.drewN ?_ _) | (with_reducible refine Ext.drew ?_) | (with_reducible refine Ext.setCell ?_ ?_ _) | (with_reducible exact Nat.le_refl _) | (with_reducible exact Nat.le_succ _) | (with_reducible refine Ext.trans ?_ (by assumption)) | (simp; done) | (simp; omega)))⟩

theorem info_point : (Try.prog.info? 68).map (fun i => (i.zero, i.size, i.bytes)) = some (some (.agg #[.int .i64 0, .int .i64 0]), 2, 16) := by kernel_rfl
theorem info_int2 : (Try.prog.info? 3).map (fun i => (i.zero, i.size, i.bytes)) = some (some (.int .i64 0), 1, 8) := by kernel_rfl

set_option maxHeartbeats 1000000 in
theorem toPointS_any (a : Option Addr) (n c : Nat) (ps : List Pt) (w : World) (hn : n = ps.length) (hs : n ≤ 1048576) (hf : FlatAt w ptCells 2 a ps) :
    Calls Try.prog 61 #[.slice a n c] w fun e w' => ∃ a', e = .returned (.slice (some a') n n) ∧ PtOwn w' w.heap.size w'.heap.size (.slice (some a') n n) ps ∧ Ext w w' := by
  obtain ⟨i0, hi, hz0, hz1, hz2⟩ := info_parts info_point
  have hmk := fun W => run_make_rowN (P := Try.prog) 40 68 i0 _ Try.underlying40 hi hz0 .i64 .i64 n n (Nat.le_refl _) (by rw [hz2]; omega) (by omega) W
  rw [hz1] at hmk
  clear hi hz0 hz1 hz2
  have HF := Lib.hid hf; clear hf
  have HN := Lib.hid hn; clear hn
  go_enter Try.func61, Try.ntmps61
  go_wp2
  go_loopw [4] (fun i wr => ∃ (k : Nat) (cc : Array Value), k ≤ n ∧ i = .int .i64 k ∧ Ext w wr ∧ RowAt wr w.heap.size 68 cc ∧ Hid (cc.size = n * 2) ∧ Hid (∀ j (h : j < ps.length), j < k → cc[j * 2]? = some (.int .i64 ps[j].1) ∧ cc[j * 2 + 1]? = some (.int .i64 ps[j].2))) (fun i _ => n - (intOf i).toNat)
  case atStart => exact ⟨0, _, Nat.zero_le _, rfl, by (repeat' (first | (with_reducible exact Ext.refl _) | (with_reducible assumption) | (with_reducible refine Ext.alloc ?_ _) | (with_reducible refine Ext.drewN ?_ _) | (with_reducible refine Ext.drew ?_) | (with_reducible refine Ext.setCell ?_ ?_ _) | (with_reducible exact Nat.le_refl _) | (with_reducible exact Nat.le_succ _) | (with_reducible refine Ext.trans ?_ (by assumption)) | (simp; done) | (simp; omega))), RowAt.new _ _ _, by (show _ = _); rw [size_madeCells], fun _ _ h => absurd h (Nat.not_lt_zero _)⟩
  case round =>
    obtain ⟨k, cc, hk, rfl, hr, hrow, hsz, hfill⟩ := hrel
    by_cases hlt : k < n
    · have hlt' : k < ps.length := by rw [← HN.out]; exact hlt
      obtain ⟨b, off, rfl, hcell⟩ := HF.out.get k hlt'
      have e1 : ∀ w', Ext w w' → w'.cell? ⟨b, off + k * 2, none⟩ = some (.int .i64 ps[k].1) := hcell 0 _ rfl
      have e2 : ∀ w', Ext w w' → w'.cell? ⟨b, off + k * 2 + 1, none⟩ = some (.int .i64 ps[k].2) := hcell 1 _ rfl
      obtain ⟨v1, hv1⟩ : ∃ v, cc[k * 2]? = some v := ⟨_, Array.getElem?_eq_getElem (by have := hsz.out; omega)⟩
      obtain ⟨v2, hv2⟩ : ∃ v, cc[k * 2 + 1]? = some v := ⟨_, Array.getElem?_eq_getElem (by have := hsz.out; omega)⟩
      clear hcell
      go_wp2_with fail
      refine (toPoint_any _ _ _).mono ?_
      rintro e w1 ⟨rfl, hb1⟩
      have r1 := hrow.ext hb1
      have g1 := r1.cell hv1
      have g2 := r1.cell hv2
      have f1 := r1.frozen (k * 2)
      have f2 := r1.frozen (k * 2 + 1)
      have HV1 := Lib.hid hv1; clear hv1
      have HV2 := Lib.hid hv2; clear hv2
      go_wp2
      go_roundw
      case rel =>
        refine ⟨k + 1, _, by omega, by go_num, by (repeat' (first | (with_reducible exact Ext.refl _) | (with_reducible assumption) | (with_reducible refine Ext.alloc ?_ _) | (with_reducible refine Ext.drewN ?_ _) | (with_reducible refine Ext.drew ?_) | (with_reducible refine Ext.setCell ?_ ?_ _) | (with_reducible exact Nat.le_refl _) | (with_reducible exact Nat.le_succ _) | (with_reducible refine Ext.trans ?_ (by assumption)) | (simp; done) | (simp; omega))), (r1.set _ _).set _ _, by (show _ = _); simpa using hsz.out, fun j hj hjk => ?_⟩
        have hs2 := hsz.out
        by_cases hjk' : j = k
        · subst hjk'
          constructor
          · rw [Array.getElem?_setIfInBounds_ne (by omega), Array.getElem?_setIfInBounds_self_of_lt (by omega)]
          · rw [Array.getElem?_setIfInBounds_self_of_lt (by simp; omega)]
        · have := hfill.out j hj (by omega)
          rw [Array.getElem?_setIfInBounds_ne (by omega), Array.getElem?_setIfInBounds_ne (by omega), Array.getElem?_setIfInBounds_ne (by omega), Array.getElem?_setIfInBounds_ne (by omega)]
          exact this
      case measure => simp [intOf]; omega
    · go_wp2
      go_ret
      have hkn : k = n := by omega
      refine ⟨_, rfl, ⟨_, _, by rw [← HN.out], .inr ⟨_, 0, cc, rfl, Nat.le_refl _, hrow.lt, hrow, fun j hj => ?_⟩⟩, by (repeat' (first | (with_reducible exact Ext.refl _) | (with_reducible assumption) | (with_reducible refine Ext.alloc ?_ _) | (with_reducible refine Ext.drewN ?_ _) | (with_reducible refine Ext.drew ?_) | (with_reducible refine Ext.setCell ?_ ?_ _) | (with_reducible exact Nat.le_refl _) | (with_reducible exact Nat.le_succ _) | (with_reducible refine Ext.trans ?_ (by assumption)) | (simp; done) | (simp; omega)))⟩
      have := hfill.out j hj (by rw [hkn, HN.out]; exact hj)
      rw [Nat.zero_add]
      exact this

set_option maxHeartbeats 1000000 in
theorem toIntS_any (a : Option Addr) (n c : Nat) (xs : List Int) (w : World) (hn : n = xs.length) (hs : n ≤ 1048576) (hf : IntsAt w a xs) :
    Calls Try.prog 62 #[.slice a n c] w fun e w' => ∃ a', e = .returned (.slice (some a') n n) ∧ IntOwn w' w.heap.size w'.heap.size (.slice (some a') n n) xs ∧ Ext w w' := by
  obtain ⟨i0, hi, hz0, hz1, hz2⟩ := info_parts info_int2
  have hmk := fun W => run_make_rowN (P := Try.prog) 26 3 i0 _ Try.underlying26 hi hz0 .i64 .i64 n n (Nat.le_refl _) (by rw [hz2]; omega) (by omega) W
  rw [hz1, Nat.mul_one] at hmk
  clear hi hz0 hz1 hz2
  have HF := Lib.hid hf; clear hf
  have HN := Lib.hid hn; clear hn
  go_enter Try.func62, Try.ntmps62
  go_wp2
  go_loopw [4] (fun i wr => ∃ (k : Nat) (cc : Array Value), k ≤ n ∧ i = .int .i64 k ∧ Ext w wr ∧ RowAt wr w.heap.size 3 cc ∧ Hid (cc.size = n) ∧ Hid (∀ j (h : j < xs.length), j < k → cc[j]? = some (.int .i64 xs[j]))) (fun i _ => n - (intOf i).toNat)
  case atStart => exact ⟨0, _, Nat.zero_le _, rfl, by (repeat' (first | (with_reducible exact Ext.refl _) | (with_reducible assumption) | (with_reducible refine Ext.alloc ?_ _) | (with_reducible refine Ext.drewN ?_ _) | (with_reducible refine Ext.drew ?_) | (with_reducible refine Ext.setCell ?_ ?_ _) | (with_reducible exact Nat.le_refl _) | (with_reducible exact Nat.le_succ _) | (with_reducible refine Ext.trans ?_ (by assumption)) | (simp; done) | (simp; omega))), RowAt.new _ _ _, by (show _ = _); rw [size_madeCells], fun _ _ h => absurd h (Nat.not_lt_zero _)⟩
  case round =>
    obtain ⟨k, cc, hk, rfl, hr, hrow, hsz, hfill⟩ := hrel
    by_cases hlt : k < n
    · have hlt' : k < xs.length := by rw [← HN.out]; exact hlt
      obtain ⟨b, off, rfl, hc⟩ := HF.out k hlt'
      have e1 : ∀ x : Aft wr, x.1.cell? ⟨b, off + k, none⟩ = some (.int .i64 xs[k]) := fun x => (hr.trans x.2).cell hc
      have e2 : wr.cell? ⟨b, off + k, none⟩ = some (.int .i64 xs[k]) := hr.cell hc
      obtain ⟨v1, hv1⟩ : ∃ v, cc[k]? = some v := ⟨_, Array.getElem?_eq_getElem (by have := hsz.out; omega)⟩
      clear hc
      have g1 := hrow.cell hv1
      have f1 := hrow.frozen k
      have HV1 := Lib.hid hv1; clear hv1
      go_wp2
      go_roundw
      case rel =>
        refine ⟨k + 1, _, by omega, by go_num, by (repeat' (first | (with_reducible exact Ext.refl _) | (with_reducible assumption) | (with_reducible refine Ext.alloc ?_ _) | (with_reducible refine Ext.drewN ?_ _) | (with_reducible refine Ext.drew ?_) | (with_reducible refine Ext.setCell ?_ ?_ _) | (with_reducible exact Nat.le_refl _) | (with_reducible exact Nat.le_succ _) | (with_reducible refine Ext.trans ?_ (by assumption)) | (simp; done) | (simp; omega))), hrow.set _ _, by (show _ = _); simpa using hsz.out, fun j hj hjk => ?_⟩
        have hs2 := hsz.out
        by_cases hjk' : j = k
        · subst hjk'
          rw [Array.getElem?_setIfInBounds_self_of_lt (by omega)]
        · rw [Array.getElem?_setIfInBounds_ne (by omega)]
          exact hfill.out j hj (by omega)
      case measure => simp [intOf]; omega
    · go_wp2
      go_ret
      have hkn : k = n := by omega
      refine ⟨_, rfl, ⟨_, _, by rw [← HN.out], .inr ⟨_, 0, cc, rfl, Nat.le_refl _, hrow.lt, hrow, fun j hj => ?_⟩⟩, by (repeat' (first | (with_reducible exact Ext.refl _) | (with_reducible assumption) | (with_reducible refine Ext.alloc ?_ _) | (with_reducible refine Ext.drewN ?_ _) | (with_reducible refine Ext.drew ?_) | (with_reducible refine Ext.setCell ?_ ?_ _) | (with_reducible exact Nat.le_refl _) | (with_reducible exact Nat.le_succ _) | (with_reducible refine Ext.trans ?_ (by assumption)) | (simp; done) | (simp; omega)))⟩
      rw [Nat.zero_add]
      exact hfill.out j hj (by rw [hkn, HN.out]; exact hj)

set_option maxHeartbeats 1000000 in
theorem eqPointS_same (a a' : Option Addr) (n c c' : Nat) (ps : List Pt) (w : World) (hn : n = ps.length) (hs : n ≤ maxLen) (hf : FlatAt w ptCells 2 a ps) (hf' : FlatAt w ptCells 2 a' ps) :
    Calls Try.prog 69 #[.slice a n c, .slice a' n c'] w fun e w' => e = .returned (.bool true) ∧ Ext w w' := by
  unfold maxLen at hs
  have HF := Lib.hid hf; clear hf
  have HF' := Lib.hid hf'; clear hf'
  have HN := Lib.hid hn; clear hn
  go_enter Try.func69, Try.ntmps69
  go_wp2
  go_loopw [5] (fun i wr => ∃ (k : Nat), k ≤ n ∧ i = .int .i64 k ∧ Ext w wr) (fun i _ => n - (intOf i).toNat)
  case atStart => exact ⟨0, Nat.zero_le _, rfl, by (repeat' (first | (with_reducible exact Ext.refl _) | (with_reducible assumption) | (with_reducible refine Ext.alloc ?_ _) | (with_reducible refine Ext.drewN ?_ _) | (with_reducible refine Ext.drew ?_) | (with_reducible refine Ext.setCell ?_ ?_ _) | (with_reducible exact Nat.le_refl _) | (with_reducible exact Nat.le_succ _) | (with_reducible refine Ext.trans ?_ (by assumption)) | (simp; done) | (simp; omega)))⟩
  case round =>
    obtain ⟨k, hk, rfl, hr⟩ := hrel
    by_cases hlt : k < n
    · have hlt' : k < ps.length := by rw [← HN.out]; exact hlt
      obtain ⟨b, off, rfl, hcell⟩ := HF.out.get k hlt'
      obtain ⟨b', off', rfl, hcell'⟩ := HF'.out.get k hlt'
      have e1 : ∀ x : Aft wr, x.1.cell? ⟨b, off + k * 2, none⟩ = some (.int .i64 ps[k].1) := fun x => hcell 0 _ rfl _ (hr.trans x.2)
      have e2 : ∀ x : Aft wr, x.1.cell? ⟨b, off + k * 2 + 1, none⟩ = some (.int .i64 ps[k].2) := fun x => hcell 1 _ rfl _ (hr.trans x.2)
      have e3 : ∀ x : Aft wr, x.1.cell? ⟨b', off' + k * 2, none⟩ = some (.int .i64 ps[k].1) := fun x => hcell' 0 _ rfl _ (hr.trans x.2)
      have e4 : ∀ x : Aft wr, x.1.cell? ⟨b', off' + k * 2 + 1, none⟩ = some (.int .i64 ps[k].2) := fun x => hcell' 1 _ rfl _ (hr.trans x.2)
      clear hcell hcell'
      go_wp2_with fail
      (refine wp_region_aft wr (Ext.refl _) (by kernel_rfl) (by kernel_rfl) ?_; (repeat (go_big_quiet_step ((go_at_call 119; exact aft_call (eqPoint_same _ _ _))))); refine wpQuiet_nil ?_; intro w2 hx2)
      go_wp2
      go_roundw
      case rel => exact ⟨k + 1, by omega, by go_num, by (repeat' (first | (with_reducible exact Ext.refl _) | (with_reducible assumption) | (with_reducible refine Ext.alloc ?_ _) | (with_reducible refine Ext.drewN ?_ _) | (with_reducible refine Ext.drew ?_) | (with_reducible refine Ext.setCell ?_ ?_ _) | (with_reducible exact Nat.le_refl _) | (with_reducible exact Nat.le_succ _) | (with_reducible refine Ext.trans ?_ (by assumption)) | (simp; done) | (simp; omega)))⟩
      case measure => simp [intOf]; omega
    · go_wp2
      go_ret
      exact ⟨rfl, by (repeat' (first | (with_reducible exact Ext.refl _) | (with_reducible assumption) | (with_reducible refine Ext.alloc ?_ _) | (with_reducible refine Ext.drewN ?_ _) | (with_reducible refine Ext.drew ?_) | (with_reducible refine Ext.setCell ?_ ?_ _) | (with_reducible exact Nat.le_refl _) | (with_reducible exact Nat.le_succ _) | (with_reducible refine Ext.trans ?_ (by assumption)) | (simp; done) | (simp; omega)))⟩

/-! ### Reaches -/
theorem szReach_any (z : Int) (ta pa : Option Addr) (tn tc pn pc : Nat) (vol left : Int) (ht : tn ≤ maxLen) (hp : pn ≤ maxLen) (h0 : 0 ≤ left) (h1 : left ≤ 1048576) (w : World) (hz : (if szRow left tn < 0 then -1 else szRow (szRow left tn) pn) = z) :
    Calls Try.prog 11 #[.agg #[.slice ta tn tc, .int .i64 vol, .slice pa pn pc], .int .i64 left] w fun e w' => e = .returned (.int .i64 z) ∧ Ext w w' := by
  obtain ⟨y, hy⟩ : ∃ y, szRow left tn = y := ⟨_, rfl⟩
  rw [hy] at hz
  have HP := Lib.hid hp; clear hp
  have HT := Lib.hid ht; clear ht
  by_cases hneg : y < 0
  · rw [if_pos hneg] at hz
    subst hz
    have HY := Lib.hid hy; clear hy
    have d0 : decide (y < 0) = true := by simpa using hneg
    go_enter Try.func11, Try.ntmps11
    go_wp2_with fail
    (with_reducible refine (HY.out ▸ szPointS_any _ _ _ _ HT.out h0 (by omega) _).mono ?_); rintro e w1 ⟨rfl, hb1⟩
    have x0_1 := hb1
    obtain ⟨hc0_1, hf0_1⟩ := bcell x0_1.below
    have z0_1_0 : w.heap.size < w1.heap.size := by have h := x0_1.size; simp at h; omega
    go_wp2
    go_ret
    exact ⟨rfl, by (repeat' (first | (with_reducible exact Ext.refl _) | (with_reducible assumption) | (with_reducible refine Ext.alloc ?_ _) | (with_reducible refine Ext.drewN ?_ _) | (with_reducible refine Ext.drew ?_) | (with_reducible refine Ext.setCell ?_ ?_ _) | (with_reducible exact Nat.le_refl _) | (with_reducible exact Nat.le_succ _) | (with_reducible refine Ext.trans ?_ (by assumption)) | (simp; done) | (simp; omega)))⟩
  · rw [if_neg hneg] at hz
    have hyl : y ≤ left := by rw [← hy]; unfold szRow; split <;> omega
    have HY := Lib.hid hy; clear hy
    have d0 : decide (y < 0) = false := by simpa using hneg
    by_cases hneg2 : z < 0
    · have hz1 := Lib.hid (show z = -1 by rw [← hz] at hneg2 ⊢; unfold szRow at hneg2 ⊢; split <;> first | rfl | (split at hneg2 <;> omega))
      have HZ := Lib.hid hz; clear hz
      have d1 : decide (z < 0) = true := by simpa using hneg2
      go_enter Try.func11, Try.ntmps11
      go_wp2_with fail
      (with_reducible refine (HY.out ▸ szPointS_any _ _ _ _ HT.out h0 (by omega) _).mono ?_); rintro e w1 ⟨rfl, hb1⟩
      have x0_1 := hb1
      obtain ⟨hc0_1, hf0_1⟩ := bcell x0_1.below
      have z0_1_0 : w.heap.size < w1.heap.size := by have h := x0_1.size; simp at h; omega
      go_wp2_with fail
      (with_reducible refine (HZ.out ▸ szIntS_any _ _ _ _ HP.out (by omega) (by omega) _).mono ?_); rintro e w2 ⟨rfl, hb2⟩
      have x1_2 := hb2
      have x0_2 : Ext _ w2 := x0_1.trans (Ext.trans (b := _) (by (repeat' (first | (with_reducible exact Ext.refl _) | (with_reducible assumption) | (with_reducible refine Ext.alloc ?_ _) | (with_reducible refine Ext.drewN ?_ _) | (with_reducible refine Ext.drew ?_) | (with_reducible refine Ext.setCell ?_ ?_ _) | (with_reducible exact Nat.le_refl _) | (with_reducible exact Nat.le_succ _) | (with_reducible refine Ext.trans ?_ (by assumption)) | (simp; done) | (simp; omega)))) hb2)
      obtain ⟨hc0_2, hf0_2⟩ := bcell x0_2.below
      have z0_2_0 : w.heap.size < w2.heap.size := by have h := x0_2.size; simp at h; omega
      go_wp2
      go_ret
      exact ⟨ret_int hz1.out.symm, by (repeat' (first | (with_reducible exact Ext.refl _) | (with_reducible assumption) | (with_reducible refine Ext.alloc ?_ _) | (with_reducible refine Ext.drewN ?_ _) | (with_reducible refine Ext.drew ?_) | (with_reducible refine Ext.setCell ?_ ?_ _) | (with_reducible exact Nat.le_refl _) | (with_reducible exact Nat.le_succ _) | (with_reducible refine Ext.trans ?_ (by assumption)) | (simp; done) | (simp; omega)))⟩
    · have HZ := Lib.hid hz; clear hz
      have d1 : decide (z < 0) = false := by simpa using hneg2
      go_enter Try.func11, Try.ntmps11
      go_wp2_with fail
      (with_reducible refine (HY.out ▸ szPointS_any _ _ _ _ HT.out h0 (by omega) _).mono ?_); rintro e w1 ⟨rfl, hb1⟩
      have x0_1 := hb1
      obtain ⟨hc0_1, hf0_1⟩ := bcell x0_1.below
      have z0_1_0 : w.heap.size < w1.heap.size := by have h := x0_1.size; simp at h; omega
      go_wp2_with fail
      (with_reducible refine (HZ.out ▸ szIntS_any _ _ _ _ HP.out (by omega) (by omega) _).mono ?_); rintro e w2 ⟨rfl, hb2⟩
      have x1_2 := hb2
      have x0_2 : Ext _ w2 := x0_1.trans (Ext.trans (b := _) (by (repeat' (first | (with_reducible exact Ext.refl _) | (with_reducible assumption) | (with_reducible refine Ext.alloc ?_ _) | (with_reducible refine Ext.drewN ?_ _) | (with_reducible refine Ext.drew ?_) | (with_reducible refine Ext.setCell ?_ ?_ _) | (with_reducible exact Nat.le_refl _) | (with_reducible exact Nat.le_succ _) | (with_reducible refine Ext.trans ?_ (by assumption)) | (simp; done) | (simp; omega)))) hb2)
      obtain ⟨hc0_2, hf0_2⟩ := bcell x0_2.below
      have z0_2_0 : w.heap.size < w2.heap.size := by have h := x0_2.size; simp at h; omega
      go_wp2
      go_ret
      exact ⟨rfl, by (repeat' (first | (with_reducible exact Ext.refl _) | (with_reducible assumption) | (with_reducible refine Ext.alloc ?_ _) | (with_reducible refine Ext.drewN ?_ _) | (with_reducible refine Ext.drew ?_) | (with_reducible refine Ext.setCell ?_ ?_ _) | (with_reducible exact Nat.le_refl _) | (with_reducible exact Nat.le_succ _) | (with_reducible refine Ext.trans ?_ (by assumption)) | (simp; done) | (simp; omega)))⟩

set_option maxRecDepth 100000 in
set_option maxHeartbeats 2000000 in
theorem toReach_any (ta pa : Option Addr) (tn tc pn pc : Nat) (vol : Int) (ps : List Pt) (xs : List Int) (w : World) (ht : tn = ps.length) (hts : tn ≤ 1048576) (hp : pn = xs.length) (hps : pn ≤ 1048576) (hft : FlatAt w ptCells 2 ta ps) (hfp : IntsAt w pa xs) :
    Calls Try.prog 14 #[.agg #[.slice ta tn tc, .int .i64 vol, .slice pa pn pc]] w fun e w' => ∃ a1 a2 mid, e = .returned (.agg #[.slice (some a1) tn tn, .int .i64 vol, .slice (some a2) pn pn]) ∧ (w.heap.size ≤ mid ∧ mid ≤ w'.heap.size) ∧ PtOwn w' w.heap.size mid (.slice (some a1) tn tn) ps ∧ IntOwn w' mid w'.heap.size (.slice (some a2) pn pn) xs ∧ Ext w w' := by
  have HFT := Lib.hid hft; clear hft
  have HFP := Lib.hid hfp; clear hfp
  have HT := Lib.hid ht; clear ht
  have HP := Lib.hid hp; clear hp
  have R1 := (RowAt.new (w.alloc (.cells #[.slice ta tn tc, .int .i64 vol, .slice pa pn pc] 28)) 42 #[.slice none 0 0, .int .i64 0, .slice none 0 0]).ext ((Ext.refl _).alloc (.cells #[.slice none 0 0, .int .i64 0, .slice none 0 0] 42))
  have R2 := RowAt.new ((w.alloc (.cells #[.slice ta tn tc, .int .i64 vol, .slice pa pn pc] 28)).alloc (.cells #[.slice none 0 0, .int .i64 0, .slice none 0 0] 42)) 42 #[.slice none 0 0, .int .i64 0, .slice none 0 0]
  have R0 := (RowAt.new w 28 #[.slice ta tn tc, .int .i64 vol, .slice pa pn pc]).ext (((Ext.refl _).alloc (.cells #[.slice none 0 0, .int .i64 0, .slice none 0 0] 42)).alloc (.cells #[.slice none 0 0, .int .i64 0, .slice none 0 0] 42))
  simp only [World.size_alloc] at R1 R2
  have HR0 := Lib.hid R0
  have HR1 := Lib.hid R1
  have HR2 := Lib.hid R2
  clear R0 R1 R2
  go_enter Try.func14, Try.ntmps14
  go_wp2_with fail
  refine (toPointS_any _ _ _ ps _ HT.out hts (HFT.out.ext (by (repeat' (first | (with_reducible exact Ext.refl _) | (with_reducible assumption) | (with_reducible refine Ext.alloc ?_ _) | (with_reducible refine Ext.drewN ?_ _) | (with_reducible refine Ext.drew ?_) | (with_reducible refine Ext.setCell ?_ ?_ _) | (with_reducible exact Nat.le_refl _) | (with_reducible exact Nat.le_succ _) | (with_reducible refine Ext.trans ?_ (by assumption)) | (simp; done) | (simp; omega)))))).mono ?_
  rintro e w1 ⟨a1, rfl, ho1, hb1⟩
  have S0 := HR0.out.ext hb1
  have S1 := HR1.out.ext hb1
  have S2 := HR2.out.ext hb1
  have E1 : Ext w w1 := (((Ext.refl w).alloc _).alloc _ |>.alloc _).trans hb1
  have z1 := hb1.size
  simp only [World.size_alloc] at z1 ho1
  have g0 : w1.cell? ⟨w.heap.size, 0, none⟩ = some (.slice ta tn tc) := S0.cell rfl
  have g1 : w1.cell? ⟨w.heap.size, 1, none⟩ = some (.int .i64 vol) := S0.cell rfl
  have g2 : w1.cell? ⟨w.heap.size, 2, none⟩ = some (.slice pa pn pc) := S0.cell rfl
  have k0 : w1.cell? ⟨w.heap.size + 1 + 1, 0, none⟩ = some (.slice none 0 0) := S2.cell rfl
  have k1 : w1.cell? ⟨w.heap.size + 1 + 1, 1, none⟩ = some (.int .i64 0) := S2.cell rfl
  have j0 := S2.frozen 0
  have j1 := S2.frozen 1
  have HO1 := Lib.hid ho1
  have HS0 := Lib.hid S0
  have HS1 := Lib.hid S1
  have HS2 := Lib.hid S2
  clear ho1 S0 S1 S2 hb1
  go_wp2_with fail
  refine (toIntS_any _ _ _ xs _ HP.out hps (HFP.out.ext (by (repeat' (first | (with_reducible exact Ext.refl _) | (with_reducible assumption) | (with_reducible refine Ext.alloc ?_ _) | (with_reducible refine Ext.drewN ?_ _) | (with_reducible refine Ext.drew ?_) | (with_reducible refine Ext.setCell ?_ ?_ _) | (with_reducible exact Nat.le_refl _) | (with_reducible exact Nat.le_succ _) | (with_reducible refine Ext.trans ?_ (by assumption)) | (simp; done) | (simp; omega)))))).mono ?_
  rintro e w2 ⟨a2, rfl, ho2, hb2⟩
  clear g0 g1 g2 k0 k1 j0 j1
  have T1 := ((HS1.out.other (p := ⟨w.heap.size + 1 + 1, 0, none⟩) (by dsimp only; omega) (.slice (some a1) tn tn)).other (p := ⟨w.heap.size + 1 + 1, 1, none⟩) (by dsimp only; omega) (.int .i64 vol)).ext hb2
  have T2 := ((HS2.out.set 0 (.slice (some a1) tn tn)).set 1 (.int .i64 vol)).ext hb2
  have z2 := hb2.size
  simp only [size_setCell'] at z2 ho2
  have k0 : w2.cell? ⟨w.heap.size + 1 + 1, 0, none⟩ = some (.slice (some a1) tn tn) := T2.cell rfl
  have k1 : w2.cell? ⟨w.heap.size + 1 + 1, 1, none⟩ = some (.int .i64 vol) := T2.cell rfl
  have k2 : w2.cell? ⟨w.heap.size + 1 + 1, 2, none⟩ = some (.slice none 0 0) := T2.cell rfl
  have l0 : w2.cell? ⟨w.heap.size + 1, 0, none⟩ = some (.slice none 0 0) := T1.cell rfl
  have l1 : w2.cell? ⟨w.heap.size + 1, 1, none⟩ = some (.int .i64 0) := T1.cell rfl
  have l2 : w2.cell? ⟨w.heap.size + 1, 2, none⟩ = some (.slice none 0 0) := T1.cell rfl
  have j2 := T2.frozen 2
  have i0 := T1.frozen 0
  have i1 := T1.frozen 1
  have i2 := T1.frozen 2
  have E2 : Ext w w2 := Ext.trans (b := (w1.setCell ⟨w.heap.size + 1 + 1, 0, none⟩ (.slice (some a1) tn tn)).setCell ⟨w.heap.size + 1 + 1, 1, none⟩ (.int .i64 vol)) ((E1.setCell (by dsimp only; omega) _).setCell (by dsimp only; omega) _) hb2
  have HP2 := Lib.hid (((HO1.out.keep (lo' := w.heap.size + 1 + 1 + 1) (hi' := w1.heap.size) (Nat.le_refl _) (Nat.le_refl _) (fun B t c h1 h2 hr => (hr.other (p := ⟨w.heap.size + 1 + 1, 0, none⟩) (by dsimp only; omega) (.slice (some a1) tn tn)).other (p := ⟨w.heap.size + 1 + 1, 1, none⟩) (by dsimp only; omega) (.int .i64 vol))).ext hb2))
  have HO2 := Lib.hid ho2
  clear ho2 hb2 T1 T2
  go_wp2
  refine bodyPost_ret (v := .agg #[.slice (some a1) tn tn, .int .i64 vol, .slice (some a2) pn pn]) (by simp [results, Try.results14, go_sem, *]) rfl ⟨a1, a2, w1.heap.size, rfl, ?_, ?_, ?_, by (repeat' (first | (with_reducible exact Ext.refl _) | (with_reducible assumption) | (with_reducible refine Ext.alloc ?_ _) | (with_reducible refine Ext.drewN ?_ _) | (with_reducible refine Ext.drew ?_) | (with_reducible refine Ext.setCell ?_ ?_ _) | (with_reducible exact Nat.le_refl _) | (with_reducible exact Nat.le_succ _) | (with_reducible refine Ext.trans ?_ (by assumption)) | (simp; done) | (simp; omega)))⟩
  · exact ⟨by omega, by simp only [size_setCell']; exact z2⟩
  · exact HP2.out.keep (by omega) (Nat.le_refl _) (fun B t c h1 h2 hr => by
      (repeat' (first | (with_reducible assumption) | (with_reducible refine RowAt.other ?_ ?_ _))) <;> dsimp only <;> omega)
  · exact HO2.out.keep (Nat.le_refl _) (by simp only [size_setCell']; exact Nat.le_refl _) (fun B t c h1 h2 hr => by
      (repeat' (first | (with_reducible assumption) | (with_reducible refine RowAt.other ?_ ?_ _))) <;> dsimp only <;> omega)

set_option maxHeartbeats 1000000 in
theorem eqReach_same (ta pa ta' pa' : Option Addr) (tn tc pn pc tc' pc' : Nat) (vol : Int) (ps : List Pt) (xs : List Int) (w : World) (ht : tn = ps.length) (hts : tn ≤ maxLen) (hp : pn = xs.length) (hps : pn ≤ maxLen) (hft : FlatAt w ptCells 2 ta ps) (hfp : IntsAt w pa xs) (hft' : FlatAt w ptCells 2 ta' ps) (hfp' : IntsAt w pa' xs) :
    Calls Try.prog 18 #[.agg #[.slice ta tn tc, .int .i64 vol, .slice pa pn pc], .agg #[.slice ta' tn tc', .int .i64 vol, .slice pa' pn pc']] w fun e w' => e = .returned (.bool true) ∧ Ext w w' := by
  have HFT := Lib.hid hft; clear hft
  have HFP := Lib.hid hfp; clear hfp
  have HFT' := Lib.hid hft'; clear hft'
  have HFP' := Lib.hid hfp'; clear hfp'
  have HT := Lib.hid ht; clear ht
  have HP := Lib.hid hp; clear hp
  have HTS := Lib.hid hts; clear hts
  have HPS := Lib.hid hps; clear hps
  go_enter Try.func18, Try.ntmps18
  go_wp2_with fail
  (with_reducible refine (eqPointS_same _ _ _ _ _ ps _ HT.out HTS.out (HFT.out.ext (by (repeat' (first | (with_reducible exact Ext.refl _) | (with_reducible assumption) | (with_reducible refine Ext.alloc ?_ _) | (with_reducible refine Ext.drewN ?_ _) | (with_reducible refine Ext.drew ?_) | (with_reducible refine Ext.setCell ?_ ?_ _) | (with_reducible exact Nat.le_refl _) | (with_reducible exact Nat.le_succ _) | (with_reducible refine Ext.trans ?_ (by assumption)) | (simp; done) | (simp; omega))))) (HFT'.out.ext (by (repeat' (first | (with_reducible exact Ext.refl _) | (with_reducible assumption) | (with_reducible refine Ext.alloc ?_ _) | (with_reducible refine Ext.drewN ?_ _) | (with_reducible refine Ext.drew ?_) | (with_reducible refine Ext.setCell ?_ ?_ _) | (with_reducible exact Nat.le_refl _) | (with_reducible exact Nat.le_succ _) | (with_reducible refine Ext.trans ?_ (by assumption)) | (simp; done) | (simp; omega)))))).mono ?_); rintro e w1 ⟨rfl, hb1⟩
  have x0_1 := hb1
  obtain ⟨hc0_1, hf0_1⟩ := bcell x0_1.below
  have z0_1_0 : w.heap.size < w1.heap.size := by have h := x0_1.size; simp at h; omega
  have z0_1_1 : w.heap.size + 1 < w1.heap.size := by have h := x0_1.size; simp at h; omega
  go_wp2_with fail
  (with_reducible refine (eqIntS_same _ _ _ _ _ xs _ HP.out HPS.out (HFP.out.ext (by (repeat' (first | (with_reducible exact Ext.refl _) | (with_reducible assumption) | (with_reducible refine Ext.alloc ?_ _) | (with_reducible refine Ext.drewN ?_ _) | (with_reducible refine Ext.drew ?_) | (with_reducible refine Ext.setCell ?_ ?_ _) | (with_reducible exact Nat.le_refl _) | (with_reducible exact Nat.le_succ _) | (with_reducible refine Ext.trans ?_ (by assumption)) | (simp; done) | (simp; omega))))) (HFP'.out.ext (by (repeat' (first | (with_reducible exact Ext.refl _) | (with_reducible assumption) | (with_reducible refine Ext.alloc ?_ _) | (with_reducible refine Ext.drewN ?_ _) | (with_reducible refine Ext.drew ?_) | (with_reducible refine Ext.setCell ?_ ?_ _) | (with_reducible exact Nat.le_refl _) | (with_reducible exact Nat.le_succ _) | (with_reducible refine Ext.trans ?_ (by assumption)) | (simp; done) | (simp; omega)))))).mono ?_); rintro e w2 ⟨rfl, hb2⟩
  have x1_2 := hb2
  have x0_2 : Ext _ w2 := x0_1.trans (Ext.trans (b := _) (by (repeat' (first | (with_reducible exact Ext.refl _) | (with_reducible assumption) | (with_reducible refine Ext.alloc ?_ _) | (with_reducible refine Ext.drewN ?_ _) | (with_reducible refine Ext.drew ?_) | (with_reducible refine Ext.setCell ?_ ?_ _) | (with_reducible exact Nat.le_refl _) | (with_reducible exact Nat.le_succ _) | (with_reducible refine Ext.trans ?_ (by assumption)) | (simp; done) | (simp; omega)))) hb2)
  obtain ⟨hc0_2, hf0_2⟩ := bcell x0_2.below
  have z0_2_0 : w.heap.size < w2.heap.size := by have h := x0_2.size; simp at h; omega
  have z0_2_1 : w.heap.size + 1 < w2.heap.size := by have h := x0_2.size; simp at h; omega
  go_wp2
  go_ret
  exact ⟨rfl, by (repeat' (first | (with_reducible exact Ext.refl _) | (with_reducible assumption) | (with_reducible refine Ext.alloc ?_ _) | (with_reducible refine Ext.drewN ?_ _) | (with_reducible refine Ext.drew ?_) | (with_reducible refine Ext.setCell ?_ ?_ _) | (with_reducible exact Nat.le_refl _) | (with_reducible exact Nat.le_succ _) | (with_reducible refine Ext.trans ?_ (by assumption)) | (simp; done) | (simp; omega)))⟩

section
open Go.WideShapes Go.ChangeShapes Go.Deep Go.Joins
variable {H : Type} {enc : TypeId × Value → H} {w : World} {base : Nat} {spare : Nat → Bool} {held : Bool}
set_option maxRecDepth 100000 in
theorem open_point_cells (n : Nat) (cs : List Value) (y : DataW H × List MemPlace) (hl : cs.length = 2) (h : DataW.trod enc Try.prog w base spare held n 118 cs = some y) : ∃ b : Pt, cs = ptCells b := by
  obtain ⟨xs, n', _, _, _, hlen, hf⟩ := DataW.trod_struct Try.underlying118 h
  match cs, hl with
  | [c0, c1], _ =>
    obtain ⟨z0, e0, _⟩ := DataW.trod_int (k := .i64) Try.underlying3 ((hf 0 _ rfl).trans (List.getElem?_eq_getElem (by rw [hlen]; decide)))
    obtain ⟨z1, e1, _⟩ := DataW.trod_int (k := .i64) Try.underlying3 ((hf 1 _ rfl).trans (List.getElem?_eq_getElem (by rw [hlen]; decide)))
    cases e0
    cases e1
    exact ⟨(z0, z1), rfl⟩
set_option maxRecDepth 100000 in
theorem open_points (n : Nat) (cs : List Value) (y : DataW H × List MemPlace) (h : DataW.trod enc Try.prog w base spare held n 25 cs = some y) :
    ∃ (row : List Pt) (a : Option Addr) (c : Nat), cs = [.slice a row.length c] ∧ (row.length ≤ maxLen ∧ (a = none → c = 0)) ∧ FlatAt w ptCells 2 a row := by
  obtain ⟨a, len, cap, xs, rfl, rfl, hm, hk⟩ := open_slice_good (α := Pt) (sz := 2) Try.underlying25 (by kernel_rfl) (by decide) (fun cs b => cs = ptCells b) (fun n cs y hl h => open_point_cells n cs y hl h) h
  refine ⟨xs, a, cap, rfl, hm, fun k hk' => ?_⟩
  obtain ⟨b, off, cs', e, hl, hc, rfl⟩ := hk k hk'
  refine ⟨b, off, e, fun j v hv => ?_⟩
  have hj : j < 2 := (List.getElem?_eq_some_iff.1 hv).1
  rw [hc j hj, hv]
set_option maxRecDepth 100000 in
theorem open_int_slice (n : Nat) (cs : List Value) (y : DataW H × List MemPlace) (h : DataW.trod enc Try.prog w base spare held n 26 cs = some y) :
    ∃ (row : List Int) (a : Option Addr) (c : Nat), cs = [.slice a row.length c] ∧ (row.length ≤ maxLen ∧ (a = none → c = 0)) ∧ IntsAt w a row := by
  obtain ⟨a, len, cap, xs, rfl, rfl, hm, hk⟩ := open_slice_good (α := Int) (sz := 1) Try.underlying26 (by kernel_rfl) (by decide) (fun cs (z : Int) => cs = [.int .i64 z]) (fun n cs y hl h => let ⟨z, e, _⟩ := DataW.trod_int (k := .i64) Try.underlying3 h; ⟨z, e⟩) h
  refine ⟨xs, a, cap, rfl, hm, fun k hk' => ?_⟩
  obtain ⟨b, off, cs', e, hl, hc, rfl⟩ := hk k hk'
  exact ⟨b, off, e, by have := hc 0 (by decide); simpa using this⟩
set_option maxRecDepth 100000 in
/-- A reach as an argument. -/
theorem open_reach {r : Reach} {b0 : Nat} {v : Value} {d : DataW H} {p : List MemPlace} (hv : Value.okWide Try.prog w r b0 28 v) (h : DataW.Trod enc Try.prog w base spare held 28 v d p) :
    ∃ (ps : List Pt) (vol : Int) (xs : List Int) (ta pa : Option Addr) (tc pc : Nat), v = .agg #[.slice ta ps.length tc, .int .i64 vol, .slice pa xs.length pc] ∧ ps.length ≤ maxLen ∧ xs.length ≤ maxLen ∧ FlatAt w ptCells 2 ta ps ∧ IntsAt w pa xs ∧ (-9223372036854775808 ≤ vol ∧ vol ≤ 9223372036854775807) ∧ (ta = none → tc = 0) ∧ (pa = none → pc = 0) := by
  obtain ⟨cs, rfl, hsz⟩ := okWide_struct Try.underlying28 hv
  obtain ⟨l⟩ := cs
  obtain ⟨fuel, hf0⟩ := h
  obtain ⟨xs, n', _, _, hl, hlen, hf⟩ := DataW.trod_struct Try.underlying28 hf0
  have hl2 : l.length = 3 := hl.trans (by kernel_rfl)
  match l, hl2 with
  | [c0, c1, c2], _ =>
    obtain ⟨ps, a0, k0, e0, hm0, ht0⟩ := open_points _ _ _ ((hf 0 _ rfl).trans (List.getElem?_eq_getElem (by rw [hlen]; decide)))
    obtain ⟨x1, e1, _, w1⟩ := DataW.trod_int (k := .i64) Try.underlying3 ((hf 1 _ rfl).trans (List.getElem?_eq_getElem (by rw [hlen]; decide)))
    obtain ⟨ys, a2, k2, e2, hm2, ht2⟩ := open_int_slice _ _ _ ((hf 2 _ rfl).trans (List.getElem?_eq_getElem (by rw [hlen]; decide)))
    have g0 : [c0] = [Value.slice a0 ps.length k0] := e0
    have g1 : [c1] = [Value.int .i64 x1] := e1
    have g2 : [c2] = [Value.slice a2 ys.length k2] := e2
    cases g0
    cases g1
    cases g2
    unfold Lit.wf at w1
    rw [Bool.and_eq_true] at w1
    exact ⟨ps, x1, ys, a0, a2, k0, k2, rfl, hm0.1, hm2.1, ht0, ht2, ⟨of_decide_eq_true w1.1, of_decide_eq_true w1.2⟩, hm0.2, hm2.2⟩
end
end Go.Proofs.Ytooedgaaaoinbaa
