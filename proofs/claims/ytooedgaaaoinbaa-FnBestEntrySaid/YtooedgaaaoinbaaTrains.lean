/- Lists of trains: sizes, conversion, comparison, how they open. -/
import Derived.Test.YtooedgaaaoinbaaProg
import Derived.Test.YtooedgaaaoinbaaMark
import Derived.Test.YtooedgaaaoinbaaOpenC
namespace Go.Proofs.Ytooedgaaaoinbaa
open Go.RowKit
set_option linter.unusedSimpArgs false
set_option linter.unusedVariables false

/-- A train: up, rows. -/
abbrev Tn : Type := Bool × List (List Bt)
/-- The trains lie one behind the other at a. -/
def TrainsAt (w : World) (a : Option Addr) (ts : List Tn) : Prop :=
  ∀ k (h : k < ts.length), ∃ b off a' c, a = some ⟨b, off, none⟩ ∧ w.cell? ⟨b, off + k * 2, none⟩ = some (.bool ts[k].1) ∧ w.cell? ⟨b, off + k * 2 + 1, none⟩ = some (.slice a' ts[k].2.length c) ∧ ts[k].2.length ≤ maxLen ∧ RowsAt w a' ts[k].2
theorem TrainsAt.ext {w w' : World} {a : Option Addr} {ts : List Tn} (h : TrainsAt w a ts) (hx : Ext w w') : TrainsAt w' a ts :=
  fun k hk => let ⟨b, off, a', c, e, h0, h1, hl, hr⟩ := h k hk; ⟨b, off, a', c, e, hx.cell h0, hx.cell h1, hl, hr.ext hx⟩
def SmallT (t : Tn) : Prop := t.2.length ≤ 1048576 ∧ (∀ r ∈ t.2, r.length ≤ 1048576) ∧ t.2.flatten.length ≤ 1048576
def szTGo (left : Int) : List Tn → Int
  | [] => left
  | t :: ts => if szRows left t.2 < 0 then -1 else szTGo (szRows left t.2) ts
def szTrains (left : Int) (ts : List Tn) : Int := if szRow left ts.length < 0 then -1 else szTGo (szRow left ts.length) ts
theorem szRows_le {left : Int} {rows : List (List Bt)} (h0 : 0 ≤ left) (h : ¬ szRows left rows < 0) : szRows left rows ≤ left := by
  have := szRows_val h0 (by omega : 0 ≤ szRows left rows)
  omega
theorem szTGo_bounds : ∀ (ts : List Tn) (l : Int), 0 ≤ l → l ≤ 1048576 → ¬ szTGo l ts < 0 → (∀ t ∈ ts, SmallT t) ∧ szTGo l ts ≤ l
  | [], l, _, _, _ => ⟨(fun _ h => by cases h), Int.le_refl _⟩
  | t :: ts, l, h0, h1, h => by
    simp only [szTGo] at h ⊢
    split at h
    · omega
    · rename_i h2
      rw [if_neg h2]
      have hle := szRows_le h0 h2
      obtain ⟨k1, k2⟩ := szTGo_bounds ts (szRows l t.2) (by omega) (by omega) h
      refine ⟨fun x hx => ?_, by omega⟩
      rcases List.mem_cons.1 hx with rfl | hx
      · exact szRows_bounds h0 h1 h2
      · exact k1 x hx
theorem szTrains_bounds {l : Int} {ts : List Tn} (h0 : 0 ≤ l) (h1 : l ≤ 1048576) (h : ¬ szTrains l ts < 0) : ts.length ≤ 1048576 ∧ (∀ t ∈ ts, SmallT t) ∧ szTrains l ts ≤ l := by
  unfold szTrains at *
  split at h
  · omega
  · rename_i h2
    rw [if_neg h2]
    obtain ⟨e, hl⟩ := szRow_val h2
    obtain ⟨k1, k2⟩ := szTGo_bounds ts _ (by omega) (by omega) h
    exact ⟨by omega, k1, by omega⟩
theorem szTrains_neg {l : Int} {ts : List Tn} (h0 : 0 ≤ l) (h1 : l ≤ 1048576) (h : szTrains l ts < 0) : szTrains l ts = -1 := by
  have key : ∀ (ts : List Tn) (l : Int), 0 ≤ l → szTGo l ts < 0 → szTGo l ts = -1 := by
    intro ts
    induction ts with
    | nil => intro l h0 h; simp [szTGo] at h; omega
    | cons t ts ih =>
      intro l h0 h
      simp only [szTGo] at h ⊢
      split at h
      · rw [if_pos (by assumption)]
      · rename_i h2
        rw [if_neg h2]
        exact ih _ (by omega) h
  unfold szTrains at *
  split at h
  · rw [if_pos (by assumption)]
  · rename_i h2
    rw [if_neg h2]
    exact key ts _ (by omega) h

set_option maxHeartbeats 1000000 in
theorem szTrainS_any (a : Option Addr) (n c : Nat) (ts : List Tn) (left : Int) (hn : n = ts.length) (hs : n ≤ maxLen) (h0 : 0 ≤ left) (h1 : left ≤ 1048576) (w : World) (hf : TrainsAt w a ts) :
    Calls Try.prog 29 #[.slice a n c, .int .i64 left] w fun e w' => e = .returned (.int .i64 (szTrains left ts)) ∧ Ext w w' := by
  unfold maxLen at hs
  have HF := Lib.hid hf; clear hf
  by_cases h : left < n
  · go_enter Try.func29, Try.ntmps29
    go_wp2
    go_ret
    exact ⟨ret_int (by simp [szTrains, szRow, ← hn, h]), by (repeat' (first | (with_reducible exact Ext.refl _) | (with_reducible assumption) | (with_reducible refine Ext.alloc ?_ _) | (with_reducible refine Ext.drewN ?_ _) | (with_reducible refine Ext.drew ?_) | (with_reducible refine Ext.setCell ?_ ?_ _) | (with_reducible exact Nat.le_refl _) | (with_reducible exact Nat.le_succ _) | (with_reducible refine Ext.trans ?_ (by assumption)) | (simp; done) | (simp; omega)))⟩
  have hz : szTrains left ts = szTGo (left - n) ts := by
    unfold szTrains szRow
    rw [← hn, if_neg h, if_neg (by omega)]
  have HZ := Lib.hid hz; clear hz
  have HN := Lib.hid hn; clear hn
  go_enter Try.func29, Try.ntmps29
  go_wp2
  go_loopw [1, 5] (fun l i wr => ∃ (k : Nat) (z : Int), k ≤ n ∧ i = .int .i64 k ∧ l = .int .i64 z ∧ 0 ≤ z ∧ z ≤ 1048576 ∧ Ext w wr ∧ Hid (szTrains left ts = szTGo z (ts.drop k))) (fun _ i _ => n - (intOf i).toNat)
  case atStart => exact ⟨0, _, Nat.zero_le _, rfl, rfl, by omega, by omega, by (repeat' (first | (with_reducible exact Ext.refl _) | (with_reducible assumption) | (with_reducible refine Ext.alloc ?_ _) | (with_reducible refine Ext.drewN ?_ _) | (with_reducible refine Ext.drew ?_) | (with_reducible refine Ext.setCell ?_ ?_ _) | (with_reducible exact Nat.le_refl _) | (with_reducible exact Nat.le_succ _) | (with_reducible refine Ext.trans ?_ (by assumption)) | (simp; done) | (simp; omega))), HZ.out⟩
  case round =>
    obtain ⟨k, z, hk, rfl, rfl, hz0, hz1, hr, hgo⟩ := hrel
    by_cases hlt : k < n
    · have hlt' : k < ts.length := by rw [← HN.out]; exact hlt
      obtain ⟨b, off, a', c', rfl, hc0, hc1, hl, hrows⟩ := HF.out k hlt'
      have e0 := hr.cell hc0
      have e1 := hr.cell hc1
      have HRW := Lib.hid (hrows.ext hr); clear hrows
      have HD := Lib.hid (show szTrains left ts = szTGo z (ts[k] :: ts.drop (k + 1)) by rw [hgo.out, List.drop_eq_getElem_cons hlt'])
      clear hgo hc0 hc1
      obtain ⟨t, ht⟩ : ∃ t, ts[k] = t := ⟨_, rfl⟩
      rw [ht] at e0 e1 HRW HD hl
      clear ht
      obtain ⟨u, rows⟩ := t
      dsimp only at e0 e1 HRW HD hl
      obtain ⟨m, hm⟩ : ∃ m, m = rows.length := ⟨_, rfl⟩
      rw [← hm] at e1 hl
      have HM := Lib.hid hm; clear hm
      have HL := Lib.hid hl; clear hl
      obtain ⟨y, hy⟩ : ∃ y, szRows z rows = y := ⟨_, rfl⟩
      have HY := Lib.hid hy
      by_cases hneg : y < 0
      · have d0 : decide (y < 0) = true := by simpa using hneg
        clear hy
        have HNEG := Lib.hid hneg
        go_wp2_with fail
        refine (szTrain_is y _ _ _ _ rows _ HM.out HL.out hz0 hz1 _ HRW.out HY.out).mono ?_
        rintro e w1 ⟨rfl, hb1⟩
        go_wp2
        go_ret
        exact ⟨ret_int (by rw [HD.out, szTGo, if_pos (by rw [HY.out]; exact HNEG.out)]), hr.trans hb1⟩
      · have d0 : decide (y < 0) = false := by simpa using hneg
        have HLE := Lib.hid (show y ≤ z by rw [← hy]; exact szRows_le hz0 (by rw [hy]; exact hneg))
        clear hy
        have HNEG := Lib.hid hneg
        go_wp2_with fail
        refine (szTrain_is y _ _ _ _ rows _ HM.out HL.out hz0 hz1 _ HRW.out HY.out).mono ?_
        rintro e w1 ⟨rfl, hb1⟩
        go_wp2
        go_roundw
        case rel => exact ⟨k + 1, y, by omega, by go_num, rfl, by have := HNEG.out; omega, by have := HLE.out; omega, hr.trans hb1, by (show _ = _); rw [HD.out, szTGo, if_neg (by rw [HY.out]; have := HNEG.out; omega), HY.out]⟩
        case measure => simp [intOf]; omega
    · have hd : ts.drop k = [] := List.drop_eq_nil_of_le (by rw [← HN.out]; omega)
      rw [hd] at hgo
      go_wp2
      go_ret
      exact ⟨ret_int (by rw [hgo.out]; rfl), hr⟩

/-! ### Conversion -/
theorem info_train : (Try.prog.info? 36).map (fun i => (i.zero, i.size, i.bytes)) = some (some (.agg #[.bool false, .slice none 0 0]), 2, 32) := by kernel_rfl
/-- Trains in blocks of their own from lo to hi, the trains' blocks behind one another. -/
def OwnTrains (w : World) (lo hi : Nat) (a : Option Addr) (ts : List Tn) : Prop :=
  ts = [] ∨ ∃ (ob oo : Nat) (oc : Array Value) (p q : Nat → Nat), a = some ⟨ob, oo, none⟩ ∧ lo ≤ ob ∧ ob < hi ∧ RowAt w ob 36 oc ∧
    ∀ k (h : k < ts.length), (∃ a' c, oc[oo + k * 2]? = some (.bool ts[k].1) ∧ oc[oo + k * 2 + 1]? = some (.slice a' ts[k].2.length c) ∧ ts[k].2.length ≤ maxLen ∧ OwnRows w (p k) (q k) a' ts[k].2) ∧ lo ≤ p k ∧ q k ≤ hi ∧ (ob < p k ∨ q k ≤ ob) ∧ ∀ k' < k, q k' ≤ p k
theorem OwnTrains.trains {w : World} {lo hi : Nat} {a : Option Addr} {ts : List Tn} (h : OwnTrains w lo hi a ts) : TrainsAt w a ts := fun k hk => by
  rcases h with rfl | ⟨ob, oo, oc, p, q, rfl, _, _, h3, h4⟩
  · exact absurd hk (Nat.not_lt_zero _)
  · obtain ⟨⟨a', c, q1, q2, q3, q4⟩, _⟩ := h4 k hk
    exact ⟨ob, oo, a', c, rfl, h3.cell q1, h3.cell q2, q3, q4.rows⟩
theorem OwnTrains.ext {w w' : World} {lo hi : Nat} {a : Option Addr} {ts : List Tn} (h : OwnTrains w lo hi a ts) (hx : Ext w w') : OwnTrains w' lo hi a ts := by
  rcases h with h | ⟨ob, oo, oc, p, q, e, h1, h2, h3, h4⟩
  · exact .inl h
  · exact .inr ⟨ob, oo, oc, p, q, e, h1, h2, h3.ext hx, fun k hk => let ⟨⟨a', c, q1, q2, q3, q4⟩, q5⟩ := h4 k hk; ⟨⟨a', c, q1, q2, q3, q4.ext hx⟩, q5⟩⟩

theorem OwnTrains.keep {w w' : World} {lo hi lo' hi' : Nat} {a : Option Addr} {ts : List Tn} (h : OwnTrains w lo hi a ts) (hl : lo' ≤ lo) (hh : hi ≤ hi') (hk : ∀ B t c, lo ≤ B → B < hi → RowAt w B t c → RowAt w' B t c) : OwnTrains w' lo' hi' a ts := by
  rcases h with h | ⟨ob, oo, oc, p, q, e, h1, h2, h3, h4⟩
  · exact .inl h
  · refine .inr ⟨ob, oo, oc, p, q, e, by omega, by omega, hk _ _ _ h1 h2 h3, fun k hk' => ?_⟩
    obtain ⟨⟨a', c, q1, q2, q3, q4⟩, q5, q6, q7, q8⟩ := h4 k hk'
    exact ⟨⟨a', c, q1, q2, q3, q4.keep (Nat.le_refl _) (Nat.le_refl _) (fun B t c g1 g2 hr => hk B t c (by omega) (by omega) hr)⟩, by omega, by omega, q7, q8⟩

/-- The first k trains have been laid behind block B. -/
def LaidT (wr : World) (B : Nat) (oc : Array Value) (ts : List Tn) (k : Nat) : Prop :=
  ∃ p q : Nat → Nat, ∀ j (h : j < ts.length), j < k → (∃ a' c, oc[j * 2]? = some (.bool ts[j].1) ∧ oc[j * 2 + 1]? = some (.slice a' ts[j].2.length c) ∧ ts[j].2.length ≤ maxLen ∧ OwnRows wr (p j) (q j) a' ts[j].2) ∧ B < p j ∧ q j ≤ wr.heap.size ∧ ∀ j' < j, q j' ≤ p j
theorem LaidT.step {wr w1 : World} {B : Nat} {oc : Array Value} {ts : List Tn} {k c : Nat} {a' : Option Addr} (h : LaidT wr B oc ts k) (hk : k < ts.length) (hB : B < wr.heap.size) (hx : Ext wr w1)
    (hro : OwnRows w1 wr.heap.size w1.heap.size a' ts[k].2) (hl : ts[k].2.length ≤ maxLen) (hsz : k * 2 + 1 < oc.size) :
    LaidT ((w1.setCell ⟨B, k * 2, none⟩ (.bool ts[k].1)).setCell ⟨B, k * 2 + 1, none⟩ (.slice a' ts[k].2.length c)) B ((oc.setIfInBounds (k * 2) (.bool ts[k].1)).setIfInBounds (k * 2 + 1) (.slice a' ts[k].2.length c)) ts (k + 1) := by
  obtain ⟨p, q, hpq⟩ := h
  have hs1 := hx.size
  refine ⟨fun j => if j = k then wr.heap.size else p j, fun j => if j = k then w1.heap.size else q j, fun j hj hjk => ?_⟩
  rw [size_setCell', size_setCell']
  by_cases e : j = k
  · subst e
    simp only [if_true]
    refine ⟨⟨a', c, ?_, ?_, hl, ?_⟩, hB, Nat.le_refl _, fun j' hj' => ?_⟩
    · rw [Array.getElem?_setIfInBounds_ne (by omega), Array.getElem?_setIfInBounds_self_of_lt (by omega)]
    · rw [Array.getElem?_setIfInBounds_self_of_lt (by simpa using hsz)]
    · exact (hro.set (p := ⟨B, j * 2, none⟩) hB _).set (p := ⟨B, j * 2 + 1, none⟩) hB _
    · rw [if_neg (by omega)]
      exact (hpq j' (by omega) hj').2.2.1
  · simp only [if_neg e]
    obtain ⟨⟨a2, c2, q1, q2, q3, q4⟩, q5, q6, q7⟩ := hpq j hj (by omega)
    refine ⟨⟨a2, c2, ?_, ?_, q3, ?_⟩, q5, by omega, fun j' hj' => ?_⟩
    · rw [Array.getElem?_setIfInBounds_ne (by omega), Array.getElem?_setIfInBounds_ne (by omega)]
      exact q1
    · rw [Array.getElem?_setIfInBounds_ne (by omega), Array.getElem?_setIfInBounds_ne (by omega)]
      exact q2
    · exact ((q4.ext hx).set (p := ⟨B, k * 2, none⟩) q5 _).set (p := ⟨B, k * 2 + 1, none⟩) q5 _
    · rw [if_neg (by omega)]
      exact q7 j' hj'

set_option maxHeartbeats 2000000 in
theorem toTrainS_any (a : Option Addr) (n c : Nat) (ts : List Tn) (w : World) (hn : n = ts.length) (hs : n ≤ 1048576) (hts : ∀ t ∈ ts, SmallT t) (hf : TrainsAt w a ts) :
    Calls Try.prog 31 #[.slice a n c] w fun e w' => e = .returned (.slice (some ⟨w.heap.size, 0, none⟩) n n) ∧ OwnTrains w' w.heap.size w'.heap.size (some ⟨w.heap.size, 0, none⟩) ts ∧ Ext w w' := by
  obtain ⟨i0, hi, hz0, hz1, hz2⟩ := info_parts info_train
  have hmk := fun W => run_make_rowN (P := Try.prog) 31 36 i0 _ Try.underlying31 hi hz0 .i64 .i64 n n (Nat.le_refl _) (by rw [hz2]; omega) (by omega) W
  rw [hz1] at hmk
  clear hi hz0 hz1 hz2
  have HF := Lib.hid hf; clear hf
  have HN := Lib.hid hn; clear hn
  have HR := Lib.hid hts; clear hts
  go_enter Try.func31, Try.ntmps31
  go_wp2
  go_loopw [4] (fun i wr => ∃ (k : Nat) (cc : Array Value), k ≤ n ∧ i = .int .i64 k ∧ Ext w wr ∧ RowAt wr w.heap.size 36 cc ∧ Hid (cc.size = n * 2) ∧ Hid (LaidT wr w.heap.size cc ts k)) (fun i _ => n - (intOf i).toNat)
  case atStart => exact ⟨0, _, Nat.zero_le _, rfl, by (repeat' (first | (with_reducible exact Ext.refl _) | (with_reducible assumption) | (with_reducible refine Ext.alloc ?_ _) | (with_reducible refine Ext.drewN ?_ _) | (with_reducible refine Ext.drew ?_) | (with_reducible refine Ext.setCell ?_ ?_ _) | (with_reducible exact Nat.le_refl _) | (with_reducible exact Nat.le_succ _) | (with_reducible refine Ext.trans ?_ (by assumption)) | (simp; done) | (simp; omega))), RowAt.new _ _ _, by (show _ = _); rw [size_madeCells], ⟨fun _ => 0, fun _ => 0, fun _ _ h => absurd h (Nat.not_lt_zero _)⟩⟩
  case round =>
    obtain ⟨k, cc, hk, rfl, hr, hrow, hsz, hfill⟩ := hrel
    by_cases hlt : k < n
    · have hlt' : k < ts.length := by rw [← HN.out]; exact hlt
      obtain ⟨b, off, a', c', rfl, hc0, hc1, hml, hfr⟩ := HF.out k hlt'
      have e0 := hr.cell hc0
      have e1 := hr.cell hc1
      obtain ⟨v0, hv0⟩ : ∃ v, cc[k * 2]? = some v := ⟨_, Array.getElem?_eq_getElem (by have := hsz.out; omega)⟩
      obtain ⟨v1, hv1⟩ : ∃ v, cc[k * 2 + 1]? = some v := ⟨_, Array.getElem?_eq_getElem (by have := hsz.out; omega)⟩
      have HV0 := Lib.hid hv0; clear hv0
      have HV1 := Lib.hid hv1; clear hv1
      have HFR := Lib.hid hfr; clear hfr
      obtain ⟨g1, g2, g3⟩ := HR.out ts[k] (List.getElem_mem _)
      have HG1 := Lib.hid g1; clear g1
      have HG2 := Lib.hid g2; clear g2
      have HML := Lib.hid hml; clear hml g3
      have hBlt := hrow.lt
      clear hc0 hc1
      obtain ⟨u, hu⟩ : ∃ u, ts[k].1 = u := ⟨_, rfl⟩
      obtain ⟨m, hm⟩ : ∃ m, ts[k].2.length = m := ⟨_, rfl⟩
      rw [hu] at e0
      rw [hm] at e1
      have HU := Lib.hid hu; clear hu
      have HM := Lib.hid hm; clear hm
      go_wp2_with fail
      refine (toTrain_any _ _ m _ ts[k].2 _ HM.out.symm (by rw [← HM.out]; exact HG1.out) HG2.out (HFR.out.ext hr)).mono ?_
      rintro e w1 ⟨a1, rfl, hro, hb1⟩
      have HRO := Lib.hid hro; clear hro
      have r1 := hrow.ext hb1
      have g0 : w1.cell? ⟨w.heap.size, k * 2, none⟩ = some v0 := r1.cell HV0.out
      have g1 : w1.cell? ⟨w.heap.size, k * 2 + 1, none⟩ = some v1 := r1.cell HV1.out
      have f0 := r1.frozen (k * 2)
      have f1 := r1.frozen (k * 2 + 1)
      go_wp2
      go_roundw
      case rel =>
        have hs2 := hsz.out
        refine ⟨k + 1, _, by omega, by go_num, by (repeat' (first | (with_reducible exact Ext.refl _) | (with_reducible assumption) | (with_reducible refine Ext.alloc ?_ _) | (with_reducible refine Ext.drewN ?_ _) | (with_reducible refine Ext.drew ?_) | (with_reducible refine Ext.setCell ?_ ?_ _) | (with_reducible exact Nat.le_refl _) | (with_reducible exact Nat.le_succ _) | (with_reducible refine Ext.trans ?_ (by assumption)) | (simp; done) | (simp; omega))), (r1.set _ _).set _ _, by (show _ = _); simpa using hsz.out, ?_⟩
        have := hfill.out.step (c := m) hlt' hBlt hb1 HRO.out HML.out (by omega)
        rw [HU.out, HM.out] at this
        exact this
      case measure => simp [intOf]; omega
    · go_wp2
      go_ret
      have hkn : k = n := by omega
      refine ⟨rfl, .inr ⟨w.heap.size, 0, cc, ?_⟩, by (repeat' (first | (with_reducible exact Ext.refl _) | (with_reducible assumption) | (with_reducible refine Ext.alloc ?_ _) | (with_reducible refine Ext.drewN ?_ _) | (with_reducible refine Ext.drew ?_) | (with_reducible refine Ext.setCell ?_ ?_ _) | (with_reducible exact Nat.le_refl _) | (with_reducible exact Nat.le_succ _) | (with_reducible refine Ext.trans ?_ (by assumption)) | (simp; done) | (simp; omega)))⟩
      obtain ⟨p, q, hpq⟩ := hfill.out
      refine ⟨p, q, rfl, Nat.le_refl _, hrow.lt, hrow, fun j hj => ?_⟩
      have hj2 : j < k := by rw [hkn, HN.out]; exact hj
      obtain ⟨q1, q2, q3, q4⟩ := hpq j hj hj2
      rw [Nat.zero_add]
      exact ⟨q1, by omega, q3, .inl q2, q4⟩

set_option maxHeartbeats 1000000 in
theorem eqTrainS_same (a a' : Option Addr) (n c c' : Nat) (ts : List Tn) (w : World) (hn : n = ts.length) (hs : n ≤ maxLen) (hf : TrainsAt w a ts) (hf' : TrainsAt w a' ts) :
    Calls Try.prog 34 #[.slice a n c, .slice a' n c'] w fun e w' => e = .returned (.bool true) ∧ Ext w w' := by
  unfold maxLen at hs
  have HF := Lib.hid hf; clear hf
  have HF' := Lib.hid hf'; clear hf'
  have HN := Lib.hid hn; clear hn
  go_enter Try.func34, Try.ntmps34
  go_wp2
  go_loopw [5] (fun i wr => ∃ (k : Nat), k ≤ n ∧ i = .int .i64 k ∧ Ext w wr) (fun i _ => n - (intOf i).toNat)
  case atStart => exact ⟨0, Nat.zero_le _, rfl, by (repeat' (first | (with_reducible exact Ext.refl _) | (with_reducible assumption) | (with_reducible refine Ext.alloc ?_ _) | (with_reducible refine Ext.drewN ?_ _) | (with_reducible refine Ext.drew ?_) | (with_reducible refine Ext.setCell ?_ ?_ _) | (with_reducible exact Nat.le_refl _) | (with_reducible exact Nat.le_succ _) | (with_reducible refine Ext.trans ?_ (by assumption)) | (simp; done) | (simp; omega)))⟩
  case round =>
    obtain ⟨k, hk, rfl, hr⟩ := hrel
    by_cases hlt : k < n
    · have hlt' : k < ts.length := by rw [← HN.out]; exact hlt
      obtain ⟨b, off, ra, rc, rfl, hc0, hc1, hml, hfl⟩ := HF.out k hlt'
      obtain ⟨b', off', ra', rc', rfl, hd0, hd1, _, hfl'⟩ := HF'.out k hlt'
      obtain ⟨u, hu⟩ : ∃ u, ts[k].1 = u := ⟨_, rfl⟩
      obtain ⟨m, hm⟩ : ∃ m, ts[k].2.length = m := ⟨_, rfl⟩
      rw [hu] at hc0 hd0
      rw [hm] at hc1 hd1 hml
      have e0 : ∀ x : Aft wr, x.1.cell? ⟨b, off + k * 2, none⟩ = some (.bool u) := fun x => (hr.trans x.2).cell hc0
      have e1 : ∀ x : Aft wr, x.1.cell? ⟨b, off + k * 2 + 1, none⟩ = some (.slice ra m rc) := fun x => (hr.trans x.2).cell hc1
      have e2 : ∀ x : Aft wr, x.1.cell? ⟨b', off' + k * 2, none⟩ = some (.bool u) := fun x => (hr.trans x.2).cell hd0
      have e3 : ∀ x : Aft wr, x.1.cell? ⟨b', off' + k * 2 + 1, none⟩ = some (.slice ra' m rc') := fun x => (hr.trans x.2).cell hd1
      have HA := Lib.hid hfl; clear hfl
      have HB := Lib.hid hfl'; clear hfl'
      have HM := Lib.hid hml; clear hml
      have HMM := Lib.hid hm; clear hm
      clear hc0 hc1 hd0 hd1 hu
      go_wp2_with fail
      (refine wp_region_aft wr (Ext.refl _) (by kernel_rfl) (by kernel_rfl) ?_; (repeat (go_big_quiet_step ((go_at_call 17; exact aft_call (eqTrain_same _ _ _ _ _ _ ts[k].2 _ HMM.out.symm HM.out (HA.out.ext (hr.trans (Subtype.property _))) (HB.out.ext (hr.trans (Subtype.property _)))))))); refine wpQuiet_nil ?_; intro w2 hx2)
      go_wp2
      go_roundw
      case rel => exact ⟨k + 1, by omega, by go_num, by (repeat' (first | (with_reducible exact Ext.refl _) | (with_reducible assumption) | (with_reducible refine Ext.alloc ?_ _) | (with_reducible refine Ext.drewN ?_ _) | (with_reducible refine Ext.drew ?_) | (with_reducible refine Ext.setCell ?_ ?_ _) | (with_reducible exact Nat.le_refl _) | (with_reducible exact Nat.le_succ _) | (with_reducible refine Ext.trans ?_ (by assumption)) | (simp; done) | (simp; omega)))⟩
      case measure => simp [intOf]; omega
    · go_wp2
      go_ret
      exact ⟨rfl, by (repeat' (first | (with_reducible exact Ext.refl _) | (with_reducible assumption) | (with_reducible refine Ext.alloc ?_ _) | (with_reducible refine Ext.drewN ?_ _) | (with_reducible refine Ext.drew ?_) | (with_reducible refine Ext.setCell ?_ ?_ _) | (with_reducible exact Nat.le_refl _) | (with_reducible exact Nat.le_succ _) | (with_reducible refine Ext.trans ?_ (by assumption)) | (simp; done) | (simp; omega)))⟩

section
variable {H : Type} {enc : TypeId × Value → H} {w : World} {base : Nat} {spare : Nat → Bool} {held : Bool}
open Go.WideShapes Go.ChangeShapes Go.Deep Go.Joins
instance : Inhabited Tn := ⟨(false, [])⟩
theorem open_trains (n : Nat) (cs : List Value) (y : DataW H × List MemPlace) (h : DataW.trod enc Try.prog w base spare held n 22 cs = some y) :
    ∃ (ts : List Tn) (a : Option Addr) (c : Nat), cs = [.slice a ts.length c] ∧ (ts.length ≤ maxLen ∧ (a = none → c = 0)) ∧ TrainsAt w a ts := by
  obtain ⟨a, len, cap, xs, rfl, rfl, hm, hk⟩ := open_slice_good (α := Tn) (sz := 2) Try.underlying22 (by kernel_rfl) (by decide) (fun cs (t : Tn) => ∃ (a : Option Addr) (c : Nat), cs = [.bool t.1, .slice a t.2.length c] ∧ t.2.length ≤ maxLen ∧ RowsAt w a t.2)
    (fun n cs y hl h => let ⟨u, rows, a, c, e, hm, hr⟩ := open_train_cells n cs y h; ⟨(u, rows), a, c, e, hm, hr⟩) h
  refine ⟨xs, a, cap, rfl, hm, fun k hk' => ?_⟩
  obtain ⟨b, off, cs', e, hl, hc, a', c, rfl, hm', hf⟩ := hk k hk'
  exact ⟨b, off, a', c, e, by have := hc 0 (by decide); simpa using this, by have := hc 1 (by decide); simpa using this, hm', hf⟩
end
end Go.Proofs.Ytooedgaaaoinbaa
