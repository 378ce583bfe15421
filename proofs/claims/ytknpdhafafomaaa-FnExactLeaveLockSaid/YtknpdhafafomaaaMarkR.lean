/- Marks over points and reaches. -/
import Derived.Test.YtknpdhafafomaaaProg
import Derived.Test.YtknpdhafafomaaaOwnR
namespace Go.Proofs.Ytknpdhafafomaaa
open Go.RowKit
set_option linter.unusedSimpArgs false
set_option linter.unusedVariables false

def numPts (k : Int) (n : Nat) : List Pt := (List.range n).map (fun (j : Nat) => (k + 2 * (j : Int), k + 2 * (j : Int) + 1))
theorem numPts_len (k : Int) (n : Nat) : (numPts k n).length = n := by simp [numPts]
theorem numPts_get (k : Int) (n j : Nat) (h : j < (numPts k n).length) : (numPts k n)[j] = (k + 2 * (j : Int), k + 2 * (j : Int) + 1) := by simp [numPts]

set_option maxHeartbeats 1000000 in
theorem markPointS_any (a : Option Addr) (n c lo hi : Nat) (ps : List Pt) (k : Int) (w : World) (hn : n = ps.length) (hs : n ≤ 1048576) (h0 : 0 ≤ k) (h1 : k ≤ 1099511627776) (hf : PtOwn w lo hi (.slice a n c) ps) :
    Calls Try.prog 102 #[.slice a n c, .int .i64 k] w fun e w' => e = .returned (.int .i64 (k + 2 * (n : Int))) ∧ PtOwn w' lo hi (.slice a n c) (numPts k n) ∧ Chg lo hi w w' := by
  obtain ⟨a1, c1, e1, hr⟩ := hf
  injection e1 with ea en ec
  subst ea ec
  rcases hr with hxs | ⟨B, off, cur, ha, hl, hh, hrow, hcur⟩
  · have hn0 : n = 0 := by rw [hn, hxs]; rfl
    clear hn hxs
    subst hn0
    clear en
    go_enter Try.func102, Try.ntmps102
    go_wp2
    go_loopw [1, 5] (fun kk i wr => i = .int .i64 0 ∧ kk = .int .i64 k ∧ w = wr) (fun _ _ _ => 0)
    case atStart => exact ⟨rfl, rfl, rfl⟩
    case round =>
      obtain ⟨rfl, rfl, rfl⟩ := hrel
      go_wp2
      go_ret
      exact ⟨ret_int (by simp), ⟨a, c, rfl, .inl rfl⟩, Chg.refl _ _ _⟩
  · subst ha
    clear en
    have HC := Lib.hid (show ∀ q, q < n → ∃ u v, cur[off + q * 2]? = some u ∧ cur[off + q * 2 + 1]? = some v from fun q hq => ⟨_, _, (hcur q (by omega)).1, (hcur q (by omega)).2⟩)
    clear hcur hn
    have HLL := Lib.hid (show lo ≤ B ∧ B < hi from ⟨hl, hh⟩)
    clear hl hh
    go_enter Try.func102, Try.ntmps102
    go_wp2
    go_loopw [1, 5] (fun kk i wr => ∃ (j : Nat) (cc : Array Value), j ≤ n ∧ i = .int .i64 j ∧ kk = .int .i64 (k + 2 * (j : Int)) ∧ RowAt wr B 44 cc ∧ Hid (Chg lo hi w wr) ∧ Hid (∀ q, q < n → ∃ u v, cc[off + q * 2]? = some u ∧ cc[off + q * 2 + 1]? = some v) ∧ Hid (∀ q, q < j → cc[off + q * 2]? = some (.int .i64 (k + 2 * (q : Int))) ∧ cc[off + q * 2 + 1]? = some (.int .i64 (k + 2 * (q : Int) + 1)))) (fun _ i _ => n - (intOf i).toNat)
    case atStart => exact ⟨0, cur, Nat.zero_le _, rfl, by simp, hrow, Chg.refl _ _ _, HC.out, fun _ h => absurd h (Nat.not_lt_zero _)⟩
    case round =>
      obtain ⟨j, cc, hj, rfl, rfl, hr, hchg, hsome, hdone⟩ := hrel
      by_cases hlt : j < n
      · obtain ⟨u, v, hu, hv⟩ := hsome.out j hlt
        have HU := Lib.hid hu
        have HV := Lib.hid hv
        have e0 : wr.cell? ⟨B, off + j * 2, none⟩ = some u := hr.cell hu
        have e1 : wr.cell? ⟨B, off + j * 2 + 1, none⟩ = some v := hr.cell hv
        have f0 := hr.frozen (off + j * 2)
        have f1 := hr.frozen (off + j * 2 + 1)
        clear hu hv
        go_wp2
        go_roundw
        case rel =>
          have hsz : off + j * 2 + 1 < cc.size := (Array.getElem?_eq_some_iff.1 HV.out).1
          refine ⟨j + 1, _, by omega, by go_num, by go_num, (hr.set _ _).set _ _, (hchg.out.set HLL.out.1 HLL.out.2 _).set HLL.out.1 HLL.out.2 _, fun q hq => ?_, fun q hq => ?_⟩
          · obtain ⟨u, v, hu, hv⟩ := hsome.out q hq
            have z1 := (Array.getElem?_eq_some_iff.1 hu).1
            have z2 := (Array.getElem?_eq_some_iff.1 hv).1
            exact ⟨_, _, Array.getElem?_eq_getElem (by simpa using z1), Array.getElem?_eq_getElem (by simpa using z2)⟩
          · by_cases e : q = j
            · subst e
              constructor
              · rw [Array.getElem?_setIfInBounds_ne (by omega), Array.getElem?_setIfInBounds_self_of_lt (by omega)]
              · rw [Array.getElem?_setIfInBounds_self_of_lt (by simp; omega)]
            · rw [Array.getElem?_setIfInBounds_ne (by omega), Array.getElem?_setIfInBounds_ne (by omega), Array.getElem?_setIfInBounds_ne (by omega), Array.getElem?_setIfInBounds_ne (by omega)]
              exact hdone.out q (by omega)
        case measure => simp [intOf]; omega
      · have hjn : j = n := by omega
        subst hjn
        go_wp2
        go_ret
        refine ⟨rfl, ⟨_, c, by rw [numPts_len], .inr ⟨B, off, cc, rfl, HLL.out.1, HLL.out.2, hr, fun q hq => ?_⟩⟩, hchg.out⟩
        rw [numPts_get]
        rw [numPts_len] at hq
        exact hdone.out q hq

set_option maxHeartbeats 1000000 in
theorem heldPointS_any (a : Option Addr) (n c : Nat) (k : Int) (w : World) (hs : n ≤ 1048576) (h0 : 0 ≤ k) (h1 : k ≤ 1099511627776) (hf : FlatAt w ptCells 2 a (numPts k n)) :
    Calls Try.prog 104 #[.slice a n c, .int .i64 k] w fun e w' => e = .returned (.int .i64 (k + 2 * (n : Int))) ∧ w = w' := by
  have HF := Lib.hid hf; clear hf
  go_enter Try.func104, Try.ntmps104
  go_wp2
  go_loop [1, 5] (fun kk i => ∃ (j : Nat), j ≤ n ∧ i = .int .i64 j ∧ kk = .int .i64 (k + 2 * (j : Int))) (fun _ i => n - (intOf i).toNat)
  case atStart => exact ⟨0, Nat.zero_le _, rfl, by simp⟩
  case round =>
    obtain ⟨j, hj, rfl, rfl⟩ := hrel
    by_cases hlt : j < n
    · obtain ⟨b, off, rfl, hc⟩ := HF.out j (by rw [numPts_len]; exact hlt)
      rw [numPts_get] at hc
      have e0 : w.cell? ⟨b, off + j * 2, none⟩ = some (.int .i64 (k + 2 * (j : Int))) := hc 0 _ rfl
      have e1 : w.cell? ⟨b, off + j * 2 + 1, none⟩ = some (.int .i64 (k + 2 * (j : Int) + 1)) := hc 1 _ rfl
      clear hc
      go_wp2
      go_round
      case rel => exact ⟨j + 1, by omega, by go_num, by go_num⟩
      case measure => simp [intOf]; omega
    · have hjn : j = n := by omega
      subst hjn
      go_wp2
      go_ret
      exact ⟨rfl, rfl⟩

theorem Chg.back {lo hi lo2 hi2 : Nat} {w w' : World} (h : Chg lo2 hi2 w w') (hl : lo ≤ lo2) (hh : hi2 ≤ hi) : Chg lo hi w w' := h.wide hl hh
set_option maxHeartbeats 1000000 in
theorem markReach_any (ta pa : Option Addr) (tn tc pn pc lo hi : Nat) (vol : Int) (ps : List Pt) (xs : List Int) (k : Int) (w : World) (ht : tn = ps.length) (hts : tn ≤ 1048576) (hp : pn = xs.length) (hps : pn ≤ 1048576) (h0 : 0 ≤ k) (h1 : k ≤ 8589934592) (hhi : hi ≤ w.heap.size) (hf : OwnReach w lo hi ta tn tc pa pn pc ps xs) :
    Calls Try.prog 47 #[.agg #[.slice ta tn tc, .int .i64 vol, .slice pa pn pc], .int .i64 k] w fun e w' => e = .returned (.int .i64 (k + 2 * (tn : Int) + (pn : Int))) ∧ OwnReach w' lo hi ta tn tc pa pn pc (numPts k tn) (nums (k + 2 * (tn : Int)) pn) ∧ Chg lo hi w w' := by
  obtain ⟨mid, hm, hp1, hi1⟩ := hf
  have HT := Lib.hid ht; clear ht
  have HP := Lib.hid hp; clear hp
  have HP1 := Lib.hid (hp1.ext ((Ext.refl w).alloc (.cells #[.slice ta tn tc, .int .i64 vol, .slice pa pn pc] 40)))
  have HI1 := Lib.hid (hi1.ext ((Ext.refl w).alloc (.cells #[.slice ta tn tc, .int .i64 vol, .slice pa pn pc] 40)))
  have HB := Lib.hid (RowAt.new w 40 #[.slice ta tn tc, .int .i64 vol, .slice pa pn pc])
  clear hp1 hi1
  go_enter Try.func47, Try.ntmps47
  go_wp2_with fail
  with_reducible refine (markPointS_any _ _ _ lo mid ps _ _ HT.out hts h0 (by omega) HP1.out).mono ?_
  rintro e w1 ⟨rfl, hp2, hc1⟩
  have HB1 := Lib.hid (HB.out.chg hc1 (by omega))
  have HI2 := Lib.hid (HI1.out.chg hc1 (by omega))
  have HP2 := Lib.hid hp2
  have HC1 := Lib.hid ((Chg.of_ext ((Ext.refl w).alloc (.cells #[.slice ta tn tc, .int .i64 vol, .slice pa pn pc] 40))).trans (hc1.back (Nat.le_refl _) hm.2))
  have g2 : w1.cell? ⟨w.heap.size, 2, none⟩ = some (.slice pa pn pc) := HB1.out.cell rfl
  clear hp2 hc1
  go_wp2_with fail
  with_reducible refine (markIntS_any _ _ _ mid hi xs _ _ HP.out hps (by omega) (by omega) HI2.out).mono ?_
  rintro e w2 ⟨rfl, hi3, hc2⟩
  have HR := Lib.hid (OwnReach.mk hm (HP2.out.chg hc2 (by omega)) hi3)
  have HC2 := Lib.hid (HC1.out.trans (hc2.back hm.1 (Nat.le_refl _)))
  clear hi3 hc2
  go_wp2
  go_ret
  exact ⟨rfl, HR.out, HC2.out⟩
set_option maxHeartbeats 1000000 in
theorem heldReach_any (ta pa : Option Addr) (tn tc pn pc : Nat) (vol : Int) (k : Int) (w : World) (hts : tn ≤ 1048576) (hps : pn ≤ 1048576) (h0 : 0 ≤ k) (h1 : k ≤ 8589934592) (hf : FlatAt w ptCells 2 ta (numPts k tn)) (hg : IntsAt w pa (nums (k + 2 * (tn : Int)) pn)) :
    Calls Try.prog 49 #[.agg #[.slice ta tn tc, .int .i64 vol, .slice pa pn pc], .int .i64 k] w fun e w' => e = .returned (.int .i64 (k + 2 * (tn : Int) + (pn : Int))) ∧ Ext w w' := by
  have HF := Lib.hid (hf.ext ((Ext.refl w).alloc (.cells #[.slice ta tn tc, .int .i64 vol, .slice pa pn pc] 40))); clear hf
  have HG := Lib.hid (hg.ext ((Ext.refl w).alloc (.cells #[.slice ta tn tc, .int .i64 vol, .slice pa pn pc] 40))); clear hg
  have d0 : decide (k + 2 * (tn : Int) < 0) = false := by simp; omega
  have d1 : decide (k + 2 * (tn : Int) + (pn : Int) < 0) = false := by simp; omega
  go_enter Try.func49, Try.ntmps49
  go_wp2_with fail
  with_reducible refine (heldPointS_any _ _ _ _ _ hts h0 (by omega) HF.out).mono ?_
  rintro e w1 ⟨rfl, rfl⟩
  go_wp2_with fail
  with_reducible refine (heldIntS_any _ _ _ _ _ hps (by omega) (by omega) HG.out).mono ?_
  rintro e w1 ⟨rfl, rfl⟩
  go_wp2
  go_ret
  exact ⟨rfl, by (repeat' (first | (with_reducible exact Ext.refl _) | (with_reducible assumption) | (with_reducible refine Ext.alloc ?_ _) | (with_reducible refine Ext.drewN ?_ _) | (with_reducible refine Ext.drew ?_) | (with_reducible refine Ext.setCell ?_ ?_ _) | (with_reducible exact Nat.le_refl _) | (with_reducible exact Nat.le_succ _) | (with_reducible refine Ext.trans ?_ (by assumption)) | (simp; done) | (simp; omega)))⟩
end Go.Proofs.Ytknpdhafafomaaa
