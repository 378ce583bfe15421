/- PlaceOf on both sides. -/
import Derived.Test.YtknpdhafafomaaaProg
import Derived.Test.YtknpdhafafomaaaVal
import Derived.Test.YtknpdhafafomaaaValI
namespace Go.Proofs.Ytknpdhafafomaaa
open Go.RowKit
set_option linter.unusedSimpArgs false
set_option linter.unusedVariables false

theorem specValueAt_is (v : Int) (a : Option Addr) (n c : Nat) (ps : List Pt) (x : Int) (w : World) (hn : n = ps.length) (hs : n ≤ maxLen) (hf : FlatAt w ptCells 2 a ps) (hx : -9223372036854775808 ≤ x ∧ x ≤ 9223372036854775807) (hv : valueAt ps x = v) :
    Calls Try.prog 80 #[.slice a n c, .int .i64 x] w fun e w' => e = .returned (.int .i64 v) ∧ Ext w w' := by
  subst hv
  exact specValueAt_any a n c ps x w hn hs hf hx
theorem implValueAt_is (v : Int) (a : Option Addr) (n c : Nat) (ps : List Pt) (x : Int) (w : World) (hn : n = ps.length) (hs : n ≤ maxLen) (hf : FlatAt w ptCells 2 a ps) (hx : -9223372036854775808 ≤ x ∧ x ≤ 9223372036854775807) (hv : valueAt ps x = v) :
    Calls Try.prog 71 #[.slice a n c, .int .i64 x] w fun e w' => e = .returned (.int .i64 v) ∧ Ext w w' := by
  subst hv
  exact implValueAt_any a n c ps x w hn hs hf hx
/-- What PlaceOf answers. -/
def Placed (ps : List Pt) (y : Int) (e : Ending) : Prop :=
  if h : tableOk ps = true ∧ 0 < ps.length ∧ y ≤ (ps.getD (ps.length - 1) (0, 0)).2 then ∃ z, IsPlace ps y z ∧ e = .returned (.tuple #[.int .i64 z, .bool true]) else e = .returned (.tuple #[.int .i64 0, .bool false])
theorem Placed.no {ps : List Pt} {y : Int} {e : Ending} (h : tableOk ps = false) (he : e = .returned (.tuple #[.int .i64 0, .bool false])) : Placed ps y e := by
  unfold Placed
  rw [dif_neg (by rw [h]; simp)]
  exact he
theorem Placed.high {ps : List Pt} {y : Int} {e : Ending} (h : (ps.getD (ps.length - 1) (0, 0)).2 < y) (he : e = .returned (.tuple #[.int .i64 0, .bool false])) : Placed ps y e := by
  unfold Placed
  rw [dif_neg (by omega)]
  exact he
theorem Placed.yes {ps : List Pt} {y z : Int} {e : Ending} (h : tableOk ps = true) (h0 : 0 < ps.length) (h2 : y ≤ (ps.getD (ps.length - 1) (0, 0)).2) (hz : IsPlace ps y z) (he : e = .returned (.tuple #[.int .i64 z, .bool true])) : Placed ps y e := by
  unfold Placed
  rw [dif_pos ⟨h, h0, h2⟩]
  exact ⟨z, hz, he⟩
theorem getD_last {ps : List Pt} (h : 0 < ps.length) : ps.getD (ps.length - 1) (0, 0) = ps[ps.length - 1] := by
  rw [List.getD_eq_getElem?_getD, List.getElem?_eq_getElem (by omega)]; rfl

set_option maxRecDepth 100000 in
set_option maxHeartbeats 1000000 in
theorem implPlaceOf_any (a : Option Addr) (n c : Nat) (ps : List Pt) (y : Int) (w : World) (hn : n = ps.length) (hs : n ≤ maxLen) (hf : FlatAt w ptCells 2 a ps) :
    Calls Try.prog 76 #[.slice a n c, .int .i64 y] w fun e w' => Placed ps y e ∧ Ext w w' := by
  have HF := Lib.hid hf; clear hf
  have HS := Lib.hid hs
  unfold maxLen at hs
  obtain ⟨ok, hok⟩ : ∃ ok, tableOk ps = ok := ⟨_, rfl⟩
  have HOK := Lib.hid hok
  cases ok
  · have HN := Lib.hid hn
    clear hok hn
    go_enter Try.func76, Try.ntmps76
    go_wp2_with (go_at_call 116; with_reducible refine (implTableOk_is _ _ _ _ ps _ HN.out HS.out HF.out HOK.out).mono ?_; rintro e w1 ⟨rfl, hb1⟩)
    refine bodyPost_ret (v := .tuple #[.int .i64 0, .bool false]) (by simp [results, Try.results76, go_sem, *]) rfl ⟨Placed.no HOK.out rfl, by (repeat' (first | (with_reducible exact Ext.refl _) | (with_reducible assumption) | (with_reducible refine Ext.alloc ?_ _) | (with_reducible refine Ext.drewN ?_ _) | (with_reducible refine Ext.drew ?_) | (with_reducible refine Ext.setCell ?_ ?_ _) | (with_reducible exact Nat.le_refl _) | (with_reducible exact Nat.le_succ _) | (with_reducible refine Ext.trans ?_ (by assumption)) | (simp; done) | (simp; omega)))⟩
  obtain ⟨htab, hl2, hl20⟩ := tab_of hok
  have hlen0 : 0 < ps.length := by omega
  have hlenl : ps.length - 1 < ps.length := by omega
  have hvl := valueAt_last hok (ps.length - 1) (by omega)
  rw [← hn] at hl2 hl20
  have hfirst := htab.get 0 hlen0
  have hlast := htab.get (ps.length - 1) hlenl
  have hfl := Tab.head_le ps htab (ps.length - 1) hlenl hlen0
  obtain ⟨b, off, rfl, hc0⟩ := HF.out.get 0 hlen0
  obtain ⟨b', off', e', hcl⟩ := HF.out.get (ps.length - 1) hlenl
  cases e'
  obtain ⟨f1, f2, hf0⟩ : ∃ f1 f2, ps[0]'hlen0 = (f1, f2) := ⟨_, _, rfl⟩
  obtain ⟨l1, l2, hll⟩ : ∃ l1 l2, ps[ps.length - 1]'hlenl = (l1, l2) := ⟨_, _, rfl⟩
  have HF0 := Lib.hid hf0
  have HFL := Lib.hid hll
  rw [hf0] at hc0 hfirst hfl
  rw [hll] at hcl hlast hfl hvl
  have HG := Lib.hid (getD_last hlen0)
  rw [hll] at HG
  dsimp only at hfirst hlast hfl hvl
  have HVL := Lib.hid hvl
  have HPL := Lib.hid (fun (z : Int) (h1 : f1 ≤ z) (h2 : z ≤ l1) (h3 : y ≤ valueAt ps z) (h4 : z = f1 ∨ valueAt ps (z - 1) < y) => (⟨hlen0, by rw [hf0]; exact h1, by rw [hll]; exact h2, h3, by rw [hf0]; exact h4⟩ : IsPlace ps y z))
  clear hf0 hll hok htab hvl
  obtain ⟨m, rfl⟩ : ∃ m, n = m + 1 := ⟨n - 1, by omega⟩
  have e0 : ∀ w', Ext w w' → w'.cell? ⟨b, off, none⟩ = some (.int .i64 f1) := by simpa using hc0 0 _ rfl
  rw [show ps.length - 1 = m by omega] at hcl
  have e2 : ∀ w', Ext w w' → w'.cell? ⟨b, off + m * 2, none⟩ = some (.int .i64 l1) := hcl 0 _ rfl
  have e3 : ∀ w', Ext w w' → w'.cell? ⟨b, off + m * 2 + 1, none⟩ = some (.int .i64 l2) := hcl 1 _ rfl
  have HN := Lib.hid hn
  have HL0 := Lib.hid hlen0
  clear hn hc0 hcl
  by_cases c1 : l2 < y
  · go_enter Try.func76, Try.ntmps76
    go_wp2_with (go_at_call 116; with_reducible refine (implTableOk_is _ _ _ _ ps _ HN.out HS.out HF.out HOK.out).mono ?_; rintro e w1 ⟨rfl, hb1⟩)
    refine bodyPost_ret (v := .tuple #[.int .i64 0, .bool false]) (by simp [results, Try.results76, go_sem, *]) rfl ⟨Placed.high (by rw [HG.out]; exact c1) rfl, by (repeat' (first | (with_reducible exact Ext.refl _) | (with_reducible assumption) | (with_reducible refine Ext.alloc ?_ _) | (with_reducible refine Ext.drewN ?_ _) | (with_reducible refine Ext.drew ?_) | (with_reducible refine Ext.setCell ?_ ?_ _) | (with_reducible exact Nat.le_refl _) | (with_reducible exact Nat.le_succ _) | (with_reducible refine Ext.trans ?_ (by assumption)) | (simp; done) | (simp; omega)))⟩
  · have d1 : decide (l2 < y) = false := by simp; omega
    go_enter Try.func76, Try.ntmps76
    go_wp2_with fail
    refine (implTableOk_is _ _ _ _ ps _ HN.out HS.out HF.out HOK.out).mono ?_
    rintro e w1 ⟨rfl, hb1⟩
    have g0 : ∀ z : Aft w1, z.1.cell? ⟨b, off, none⟩ = some (.int .i64 f1) := fun z => e0 _ (hb1.trans z.2)
    have g2 : ∀ z : Aft w1, z.1.cell? ⟨b, off + m * 2, none⟩ = some (.int .i64 l1) := fun z => e2 _ (hb1.trans z.2)
    go_wp2_with fail
    (refine wp_region_aft w1 (Ext.refl _) (by kernel_rfl) (by kernel_rfl) ?_; (repeat (go_big_quiet_step (fail))); refine wpQuiet_nil ?_; intro w2 hx2)
    have HX2 := Lib.hid (hb1.trans hx2)
    clear g0 g2 e0 e2 e3 hb1 hx2
    go_wp2
    go_loopw [6, 7] (fun lv hv wr => ∃ low high : Int, lv = .int .i64 low ∧ hv = .int .i64 high ∧ f1 ≤ low ∧ low ≤ high ∧ high ≤ l1 ∧ Ext w wr ∧ Hid (y ≤ valueAt ps high) ∧ Hid (low = f1 ∨ valueAt ps (low - 1) < y)) (fun lv hv _ => (intOf hv - intOf lv).toNat)
    case atStart => exact ⟨f1, l1, rfl, rfl, Int.le_refl _, hfl, Int.le_refl _, HX2.out, by (show _ ≤ _); rw [HVL.out]; omega, .inl rfl⟩
    case round =>
      obtain ⟨low, high, rfl, rfl, hl, hlh, hh, hr, hyv, hlv⟩ := hrel
      by_cases hlt : low < high
      · obtain ⟨mid, hmid⟩ : ∃ mid, Int.tdiv (low + high) 2 = mid := ⟨_, rfl⟩
        have hme : mid = (low + high) / 2 := by rw [← hmid, Int.tdiv_eq_ediv_of_nonneg (by omega)]
        have hm1 : low ≤ mid := by omega
        have hm2 : mid < high := by omega
        obtain ⟨v, hv⟩ : ∃ v, valueAt ps mid = v := ⟨_, rfl⟩
        have HV := Lib.hid hv
        clear hv hme
        have hd2 : (low + high) / 2 = mid := by rw [← hmid, Int.tdiv_eq_ediv_of_nonneg (by omega)]
        by_cases c2 : y ≤ v
        · go_wp2_with (go_at_call 71; refine (implValueAt_is v _ _ _ ps _ _ HN.out HS.out (HF.out.ext hr) (by omega) HV.out).mono ?_; rintro e w3 ⟨rfl, hb3⟩)
          go_roundw
          case rel => exact ⟨low, mid, rfl, rfl, hl, hm1, by omega, hr.trans hb3, by (show _ ≤ _); rw [HV.out]; exact c2, hlv.out⟩
          case measure => simp [intOf]; omega
        · have d2 : decide (y ≤ v) = false := by simp; omega
          go_wp2_with (go_at_call 71; refine (implValueAt_is v _ _ _ ps _ _ HN.out HS.out (HF.out.ext hr) (by omega) HV.out).mono ?_; rintro e w3 ⟨rfl, hb3⟩)
          go_roundw
          case rel => exact ⟨mid + 1, high, rfl, rfl, by omega, by omega, hh, hr.trans hb3, hyv.out, .inr (by rw [show mid + 1 - 1 = mid by omega, HV.out]; omega)⟩
          case measure => simp [intOf]; omega
      · have hle : low = high := by omega
        have d2 : decide (low < high) = false := by simp; omega
        go_wp2
        refine bodyPost_ret (v := .tuple #[.int .i64 low, .bool true]) (by simp [results, Try.results76, go_sem, *]) rfl ⟨Placed.yes HOK.out HL0.out (by rw [HG.out]; dsimp only; omega) (HPL.out low hl (by omega) (by rw [hle]; exact hyv.out) hlv.out) rfl, hr⟩

set_option maxRecDepth 100000 in
set_option maxHeartbeats 1000000 in
theorem specPlaceOf_any (a : Option Addr) (n c : Nat) (ps : List Pt) (y : Int) (w : World) (hn : n = ps.length) (hs : n ≤ maxLen) (hf : FlatAt w ptCells 2 a ps) :
    Calls Try.prog 128 #[.slice a n c, .int .i64 y] w fun e w' => Placed ps y e ∧ Ext w w' := by
  have HF := Lib.hid hf; clear hf
  have HS := Lib.hid hs
  unfold maxLen at hs
  obtain ⟨ok, hok⟩ : ∃ ok, tableOk ps = ok := ⟨_, rfl⟩
  have HOK := Lib.hid hok
  cases ok
  · have HN := Lib.hid hn
    clear hok hn
    go_enter Try.func128, Try.ntmps128
    go_wp2_with (go_at_call 118; with_reducible refine (specTableOk_is _ _ _ _ ps _ HN.out HS.out HF.out HOK.out).mono ?_; rintro e w1 ⟨rfl, hb1⟩)
    refine bodyPost_ret (v := .tuple #[.int .i64 0, .bool false]) (by simp [results, Try.results128, go_sem, *]) rfl ⟨Placed.no HOK.out rfl, by (repeat' (first | (with_reducible exact Ext.refl _) | (with_reducible assumption) | (with_reducible refine Ext.alloc ?_ _) | (with_reducible refine Ext.drewN ?_ _) | (with_reducible refine Ext.drew ?_) | (with_reducible refine Ext.setCell ?_ ?_ _) | (with_reducible exact Nat.le_refl _) | (with_reducible exact Nat.le_succ _) | (with_reducible refine Ext.trans ?_ (by assumption)) | (simp; done) | (simp; omega)))⟩
  obtain ⟨htab, hl2, hl20⟩ := tab_of hok
  have hlen0 : 0 < ps.length := by omega
  have hlenl : ps.length - 1 < ps.length := by omega
  have hvl := valueAt_last hok (ps.length - 1) (by omega)
  rw [← hn] at hl2 hl20
  have hfirst := htab.get 0 hlen0
  have hlast := htab.get (ps.length - 1) hlenl
  have hfl := Tab.head_le ps htab (ps.length - 1) hlenl hlen0
  obtain ⟨b, off, rfl, hc0⟩ := HF.out.get 0 hlen0
  obtain ⟨b', off', e', hcl⟩ := HF.out.get (ps.length - 1) hlenl
  cases e'
  obtain ⟨f1, f2, hf0⟩ : ∃ f1 f2, ps[0]'hlen0 = (f1, f2) := ⟨_, _, rfl⟩
  obtain ⟨l1, l2, hll⟩ : ∃ l1 l2, ps[ps.length - 1]'hlenl = (l1, l2) := ⟨_, _, rfl⟩
  have HF0 := Lib.hid hf0
  have HFL := Lib.hid hll
  rw [hf0] at hc0 hfirst hfl
  rw [hll] at hcl hlast hfl hvl
  have HG := Lib.hid (getD_last hlen0)
  rw [hll] at HG
  dsimp only at hfirst hlast hfl hvl
  have HVL := Lib.hid hvl
  have HPL := Lib.hid (fun (z : Int) (h1 : f1 ≤ z) (h2 : z ≤ l1) (h3 : y ≤ valueAt ps z) (h4 : z = f1 ∨ valueAt ps (z - 1) < y) => (⟨hlen0, by rw [hf0]; exact h1, by rw [hll]; exact h2, h3, by rw [hf0]; exact h4⟩ : IsPlace ps y z))
  clear hf0 hll hok htab hvl
  obtain ⟨m, rfl⟩ : ∃ m, n = m + 1 := ⟨n - 1, by omega⟩
  have e0 : ∀ w', Ext w w' → w'.cell? ⟨b, off, none⟩ = some (.int .i64 f1) := by simpa using hc0 0 _ rfl
  rw [show ps.length - 1 = m by omega] at hcl
  have e2 : ∀ w', Ext w w' → w'.cell? ⟨b, off + m * 2, none⟩ = some (.int .i64 l1) := hcl 0 _ rfl
  have e3 : ∀ w', Ext w w' → w'.cell? ⟨b, off + m * 2 + 1, none⟩ = some (.int .i64 l2) := hcl 1 _ rfl
  have HN := Lib.hid hn
  have HL0 := Lib.hid hlen0
  clear hn hc0 hcl
  by_cases c1 : l2 < y
  · go_enter Try.func128, Try.ntmps128
    go_wp2_with (go_at_call 118; with_reducible refine (specTableOk_is _ _ _ _ ps _ HN.out HS.out HF.out HOK.out).mono ?_; rintro e w1 ⟨rfl, hb1⟩)
    refine bodyPost_ret (v := .tuple #[.int .i64 0, .bool false]) (by simp [results, Try.results128, go_sem, *]) rfl ⟨Placed.high (by rw [HG.out]; exact c1) rfl, by (repeat' (first | (with_reducible exact Ext.refl _) | (with_reducible assumption) | (with_reducible refine Ext.alloc ?_ _) | (with_reducible refine Ext.drewN ?_ _) | (with_reducible refine Ext.drew ?_) | (with_reducible refine Ext.setCell ?_ ?_ _) | (with_reducible exact Nat.le_refl _) | (with_reducible exact Nat.le_succ _) | (with_reducible refine Ext.trans ?_ (by assumption)) | (simp; done) | (simp; omega)))⟩
  · have d1 : decide (l2 < y) = false := by simp; omega
    go_enter Try.func128, Try.ntmps128
    go_wp2_with fail
    refine (specTableOk_is _ _ _ _ ps _ HN.out HS.out HF.out HOK.out).mono ?_
    rintro e w1 ⟨rfl, hb1⟩
    have HX2 := Lib.hid hb1
    go_wp2
    clear e0 e2 e3
    go_loopw [6, 7] (fun lv hv wr => ∃ low high : Int, lv = .int .i64 low ∧ hv = .int .i64 high ∧ f1 - 1 ≤ low ∧ low < high ∧ high ≤ l1 ∧ Ext w wr ∧ Hid (y ≤ valueAt ps high) ∧ Hid (low = f1 - 1 ∨ valueAt ps low < y)) (fun lv hv _ => (intOf hv - intOf lv).toNat)
    case atStart => exact ⟨f1 - 1, l1, rfl, rfl, Int.le_refl _, by omega, Int.le_refl _, HX2.out, by (show _ ≤ _); rw [HVL.out]; omega, .inl rfl⟩
    case round =>
      obtain ⟨low, high, rfl, rfl, hl, hlh, hh, hr, hyv, hlv⟩ := hrel
      by_cases hlt : 1 < high - low
      · obtain ⟨half, hhalf⟩ : ∃ half, Int.tdiv (high - low) 2 = half := ⟨_, rfl⟩
        have hme : half = (high - low) / 2 := by rw [← hhalf, Int.tdiv_eq_ediv_of_nonneg (by omega)]
        have hm1 : 1 ≤ half := by omega
        have hm2 : half < high - low := by omega
        obtain ⟨v, hv⟩ : ∃ v, valueAt ps (low + half) = v := ⟨_, rfl⟩
        have HV := Lib.hid hv
        clear hv hme
        have hd2 : (high - low) / 2 = half := by rw [← hhalf, Int.tdiv_eq_ediv_of_nonneg (by omega)]
        by_cases c2 : y ≤ v
        · go_wp2_with (go_at_call 80; refine (specValueAt_is v _ _ _ ps _ _ HN.out HS.out (HF.out.ext hr) (by omega) HV.out).mono ?_; rintro e w3 ⟨rfl, hb3⟩)
          go_roundw
          case rel => exact ⟨low, low + half, rfl, rfl, hl, by omega, by omega, hr.trans hb3, by (show _ ≤ _); rw [HV.out]; exact c2, hlv.out⟩
          case measure => simp [intOf]; omega
        · have d2 : decide (y ≤ v) = false := by simp; omega
          go_wp2_with (go_at_call 80; refine (specValueAt_is v _ _ _ ps _ _ HN.out HS.out (HF.out.ext hr) (by omega) HV.out).mono ?_; rintro e w3 ⟨rfl, hb3⟩)
          go_roundw
          case rel => exact ⟨low + half, high, rfl, rfl, by omega, by omega, hh, hr.trans hb3, hyv.out, .inr (by rw [HV.out]; omega)⟩
          case measure => simp [intOf]; omega
      · have hle : low = high - 1 := by omega
        have d2 : decide (1 < high - low) = false := by simp; omega
        go_wp2
        refine bodyPost_ret (v := .tuple #[.int .i64 high, .bool true]) (by simp [results, Try.results128, go_sem, *]) rfl ⟨Placed.yes HOK.out HL0.out (by rw [HG.out]; dsimp only; omega) (HPL.out high (by omega) (by omega) hyv.out (hlv.out.elim (fun h => .inl (by omega)) (fun h => .inr (by rw [← hle]; exact h)))) rfl, hr⟩
end Go.Proofs.Ytknpdhafafomaaa
