/- ValueAt on both sides. -/
import Derived.Test.YtknpdhafafomaaaProg
import Derived.Test.YtknpdhafafomaaaTabW
import Derived.Test.YtknpdhafafomaaaReg
namespace Go.Proofs.Ytknpdhafafomaaa
open Go.RowKit
set_option linter.unusedSimpArgs false
set_option linter.unusedVariables false

theorem specTableOk_is (R : Bool) (a : Option Addr) (n c : Nat) (ps : List Pt) (w : World) (hn : n = ps.length) (hs : n ≤ maxLen) (hf : FlatAt w ptCells 2 a ps) (hR : tableOk ps = R) :
    Calls Try.prog 118 #[.slice a n c] w fun e w' => e = .returned (.bool R) ∧ Ext w w' := by
  subst hR
  exact specTableOk_any a n c ps w hn hs hf
theorem implTableOk_is (R : Bool) (a : Option Addr) (n c : Nat) (ps : List Pt) (w : World) (hn : n = ps.length) (hs : n ≤ maxLen) (hf : FlatAt w ptCells 2 a ps) (hR : tableOk ps = R) :
    Calls Try.prog 116 #[.slice a n c] w fun e w' => e = .returned (.bool R) ∧ Ext w w' := by
  subst hR
  exact implTableOk_any a n c ps w hn hs hf
theorem Tab.head_le : ∀ (ps : List Pt) (h : Tab ps) (k : Nat) (hk : k < ps.length) (h0 : 0 < ps.length), ps[0].1 ≤ ps[k].1
  | p :: ps, _, 0, _, _ => Int.le_refl _
  | p :: q :: ps, h, k + 1, hk, _ => by
    have h1 := Tab.head_le (q :: ps) h.tail k (by simpa using hk) (by simp)
    have h2 := h.2.1
    simp only [List.getElem_cons_zero, List.getElem_cons_succ] at h1 ⊢
    omega
theorem seg_at : ∀ (qs : List Pt) (p : Pt) (x : Int) (k : Nat) (_ : Tab (p :: qs)) (hk : k + 1 < (p :: qs).length), ((p :: qs)[k]).1 ≤ x → x < ((p :: qs)[k + 1]).1 → seg x p qs = lin x ((p :: qs)[k]) ((p :: qs)[k + 1])
  | q :: qs, p, x, 0, h, _, h0, h1 => by
    unfold seg
    rw [if_neg (by simp only [List.getElem_cons_succ, List.getElem_cons_zero] at h1; omega)]
    rfl
  | q :: qs, p, x, k + 1, h, hk, h0, h1 => by
    have h2 := Tab.head_le (q :: qs) h.tail k (by simp at hk ⊢; omega) (by simp)
    simp only [List.getElem_cons_succ, List.getElem_cons_zero] at h0 h1 h2
    unfold seg
    rw [if_pos (by omega)]
    exact seg_at qs q x k h.tail (by simpa using hk) h0 h1
theorem valueAt_no {ps : List Pt} {x : Int} (h : tableOk ps = false) : valueAt ps x = 0 := by
  unfold valueAt
  rw [if_neg (by rw [h]; decide)]
theorem valueAt_first {ps : List Pt} {x : Int} (ht : tableOk ps = true) (h0 : 0 < ps.length) (h : x ≤ ps[0].1) : valueAt ps x = ps[0].2 := by
  unfold valueAt
  rw [if_pos ht]
  match ps, h0, h with
  | p :: qs, _, h => exact if_pos h
theorem valueAt_end {ps : List Pt} {x : Int} (ht : tableOk ps = true) (h0 : 0 < ps.length) (h1 : ps[0].1 < x) (h : (ps[ps.length - 1]).1 ≤ x) : valueAt ps x = (ps[ps.length - 1]).2 := by
  unfold valueAt
  rw [if_pos ht]
  obtain ⟨htab, _, _⟩ := tab_of ht
  match ps, h0, h1, h, htab with
  | p :: qs, _, h1, h, htab =>
    have e : (p :: qs)[(p :: qs).length - 1] = lastP p qs := by rw [lastP_get]; simp
    rw [e] at h ⊢
    show (if x ≤ p.1 then p.2 else seg x p qs) = _
    have h1' : p.1 < x := h1
    rw [if_neg (by omega)]
    exact seg_end qs p x htab h
theorem valueAt_lin {ps : List Pt} {x : Int} (ht : tableOk ps = true) (k : Nat) (hk : k + 1 < ps.length) (h1 : (ps[0]'(by omega)).1 < x) (h2 : ps[k].1 ≤ x) (h3 : x < ps[k + 1].1) : valueAt ps x = lin x ps[k] ps[k + 1] := by
  unfold valueAt
  rw [if_pos ht]
  obtain ⟨htab, _, _⟩ := tab_of ht
  match ps, hk, h1, h2, h3, htab with
  | p :: qs, hk, h1, h2, h3, htab =>
    show (if x ≤ p.1 then p.2 else seg x p qs) = _
    have h1' : p.1 < x := h1
    rw [if_neg (by omega)]
    exact seg_at qs p x k htab hk h2 h3
theorem lin_parts {x p1 p2 q1 q2 : Int} (h0 : p1 ≤ x) (h1 : x < q1) (h2 : p2 ≤ q2) (hp : 0 ≤ p1 ∧ 0 ≤ p2) (hq : q1 ≤ 1000000000 ∧ q2 ≤ 1000000000) :
    (0 ≤ (x - p1) * (q2 - p2) ∧ (x - p1) * (q2 - p2) ≤ 1000000000000000000) ∧ 0 ≤ Int.tdiv ((x - p1) * (q2 - p2)) (q1 - p1) ∧ Int.tdiv ((x - p1) * (q2 - p2)) (q1 - p1) ≤ q2 - p2 := by
  have hm : 0 ≤ (x - p1) * (q2 - p2) := Int.mul_nonneg (by omega) (by omega)
  have hb := lin_b (x := x) (p := (p1, p2)) (q := (q1, q2)) h0 h1 h2
  unfold lin at hb
  dsimp only at hb
  have hm2 : (x - p1) * (q2 - p2) ≤ 1000000000 * 1000000000 := Int.mul_le_mul (by omega) (by omega) (by omega) (by omega)
  exact ⟨⟨hm, by omega⟩, by omega, by omega⟩

set_option maxRecDepth 100000 in
set_option maxHeartbeats 1000000 in
theorem specValueAt_any (a : Option Addr) (n c : Nat) (ps : List Pt) (x : Int) (w : World) (hn : n = ps.length) (hs : n ≤ maxLen) (hf : FlatAt w ptCells 2 a ps) (hx : -9223372036854775808 ≤ x ∧ x ≤ 9223372036854775807) :
    Calls Try.prog 80 #[.slice a n c, .int .i64 x] w fun e w' => e = .returned (.int .i64 (valueAt ps x)) ∧ Ext w w' := by
  have HF := Lib.hid hf; clear hf
  have HS := Lib.hid hs
  unfold maxLen at hs
  obtain ⟨ok, hok⟩ : ∃ ok, tableOk ps = ok := ⟨_, rfl⟩
  have HOK := Lib.hid hok
  cases ok
  · have HV := Lib.hid (valueAt_no (x := x) hok)
    have HN := Lib.hid hn
    clear hok hn
    go_enter Try.func80, Try.ntmps80
    go_wp2_with (go_at_call 118; with_reducible refine (specTableOk_is _ _ _ _ ps _ HN.out HS.out HF.out HOK.out).mono ?_; rintro e w1 ⟨rfl, hb1⟩)
    go_ret
    exact ⟨ret_int HV.out.symm, hb1⟩
  obtain ⟨htab, hl2, hl20⟩ := tab_of hok
  have hlen0 : 0 < ps.length := by omega
  have hlenl : ps.length - 1 < ps.length := by omega
  rw [← hn] at hl2 hl20
  have hfirst := htab.get 0 hlen0
  have hlast := htab.get (ps.length - 1) hlenl
  have HTAB := Lib.hid htab
  obtain ⟨b, off, rfl, hc0⟩ := HF.out.get 0 hlen0
  obtain ⟨b', off', e', hcl⟩ := HF.out.get (ps.length - 1) hlenl
  cases e'
  have hV1 := fun (h : x ≤ (ps[0]'hlen0).1) => valueAt_first hok hlen0 h
  have hV2 := fun (h1 : (ps[0]'hlen0).1 < x) (h : (ps[ps.length - 1]'hlenl).1 ≤ x) => valueAt_end hok hlen0 h1 h
  have hV3 := fun (k : Nat) (hk : k + 1 < ps.length) (h1 : (ps[0]'hlen0).1 < x) h2 h3 => valueAt_lin hok k hk h1 h2 h3
  obtain ⟨f1, f2, hf0⟩ : ∃ f1 f2, ps[0]'hlen0 = (f1, f2) := ⟨_, _, rfl⟩
  obtain ⟨l1, l2, hfl⟩ : ∃ l1 l2, ps[ps.length - 1]'hlenl = (l1, l2) := ⟨_, _, rfl⟩
  have HF0 := Lib.hid hf0
  have HFL := Lib.hid hfl
  rw [hf0] at hc0 hV1 hV2 hfirst
  rw [hfl] at hcl hV2 hlast
  have HV3 := Lib.hid (fun (k : Nat) (hk : k + 1 < ps.length) (h1 : f1 < x) (h2 : ps[k].1 ≤ x) (h3 : x < ps[k + 1].1) => hV3 k hk (by rw [hf0]; exact h1) h2 h3)
  clear hV3 hf0 hfl hok htab
  dsimp only at hV1 hV2 hfirst hlast
  obtain ⟨m, rfl⟩ : ∃ m, n = m + 1 := ⟨n - 1, by omega⟩
  have e0 : ∀ w', Ext w w' → w'.cell? ⟨b, off, none⟩ = some (.int .i64 f1) := by simpa using hc0 0 _ rfl
  have e1 : ∀ w', Ext w w' → w'.cell? ⟨b, off + 1, none⟩ = some (.int .i64 f2) := by simpa using hc0 1 _ rfl
  rw [show ps.length - 1 = m by omega] at hcl
  have e2 : ∀ w', Ext w w' → w'.cell? ⟨b, off + m * 2, none⟩ = some (.int .i64 l1) := hcl 0 _ rfl
  have e3 : ∀ w', Ext w w' → w'.cell? ⟨b, off + m * 2 + 1, none⟩ = some (.int .i64 l2) := hcl 1 _ rfl
  have HN := Lib.hid hn
  clear hn hc0 hcl
  rcases (by omega : x ≤ f1 ∨ (f1 < x ∧ l1 ≤ x) ∨ (f1 < x ∧ x < l1)) with c1 | ⟨c1, c2⟩ | ⟨c1, c2⟩
  · have HV := Lib.hid (hV1 c1)
    clear hV1 hV2
    go_enter Try.func80, Try.ntmps80
    go_wp2_with (go_at_call 118; with_reducible refine (specTableOk_is _ _ _ _ ps _ HN.out HS.out HF.out HOK.out).mono ?_; rintro e w1 ⟨rfl, hb1⟩)
    go_ret
    exact ⟨ret_int HV.out.symm, by (repeat' (first | (with_reducible exact Ext.refl _) | (with_reducible assumption) | (with_reducible refine Ext.alloc ?_ _) | (with_reducible refine Ext.drewN ?_ _) | (with_reducible refine Ext.drew ?_) | (with_reducible refine Ext.setCell ?_ ?_ _) | (with_reducible exact Nat.le_refl _) | (with_reducible exact Nat.le_succ _) | (with_reducible refine Ext.trans ?_ (by assumption)) | (simp; done) | (simp; omega)))⟩
  · have HV := Lib.hid (hV2 c1 c2)
    clear hV1 hV2
    have d1 : decide (x ≤ f1) = false := by simp; omega
    go_enter Try.func80, Try.ntmps80
    go_wp2_with (go_at_call 118; with_reducible refine (specTableOk_is _ _ _ _ ps _ HN.out HS.out HF.out HOK.out).mono ?_; rintro e w1 ⟨rfl, hb1⟩)
    go_ret
    exact ⟨ret_int HV.out.symm, by (repeat' (first | (with_reducible exact Ext.refl _) | (with_reducible assumption) | (with_reducible refine Ext.alloc ?_ _) | (with_reducible refine Ext.drewN ?_ _) | (with_reducible refine Ext.drew ?_) | (with_reducible refine Ext.setCell ?_ ?_ _) | (with_reducible exact Nat.le_refl _) | (with_reducible exact Nat.le_succ _) | (with_reducible refine Ext.trans ?_ (by assumption)) | (simp; done) | (simp; omega)))⟩
  · clear hV1 hV2
    have d1 : decide (x ≤ f1) = false := by simp; omega
    have d2 : decide (l1 ≤ x) = false := by simp; omega
    go_enter Try.func80, Try.ntmps80
    go_wp2_with fail
    refine (specTableOk_is _ _ _ _ ps _ HN.out HS.out HF.out HOK.out).mono ?_
    rintro e w1 ⟨rfl, hb1⟩
    go_wp2
    go_loop [6] (fun i => ∃ (k : Nat), k < m ∧ i = .int .i64 k ∧ Hid (∃ (h : k < ps.length), ps[k].1 ≤ x)) (fun i => m - (intOf i).toNat)
    case atStart => exact ⟨0, by omega, rfl, ⟨by have := HN.out; omega, by rw [HF0.out]; dsimp only; omega⟩⟩
    case round =>
      obtain ⟨k, hk, rfl, hkx⟩ := hrel
      have hk1 : k + 1 < ps.length := by have := HN.out; omega
      obtain ⟨_, hx0⟩ := hkx.out
      obtain ⟨b2, off2, e', hca⟩ := HF.out.get k (by omega)
      cases e'
      obtain ⟨b2, off2, e', hcb⟩ := HF.out.get (k + 1) hk1
      cases e'
      have hstep := HTAB.out.step k hk1
      have hbp := HTAB.out.get k (by omega)
      have hbq := HTAB.out.get (k + 1) hk1
      have hV := fun h3 => HV3.out k hk1 c1 hx0 h3
      obtain ⟨p1, p2, hp⟩ : ∃ p1 p2, ps[k] = (p1, p2) := ⟨_, _, rfl⟩
      obtain ⟨q1, q2, hq⟩ : ∃ q1 q2, ps[k + 1] = (q1, q2) := ⟨_, _, rfl⟩
      have HQ := Lib.hid hq
      rw [hp] at hca hstep hbp hx0 hV
      rw [hq] at hcb hstep hbq hV
      have HL := Lib.hid (show k + 1 = m → q1 = l1 from fun h => by
        have h1 := HFL.out
        have h2 := HN.out
        have e : ps[ps.length - 1] = ps[k + 1] := by congr 1; omega
        rw [e, hq] at h1
        exact (Prod.mk.inj h1).1)
      clear hp hq
      dsimp only at hstep hbp hbq hx0 hV
      have y0 : w1.cell? ⟨b, off + (k + 1) * 2, none⟩ = some (.int .i64 q1) := hcb 0 _ rfl _ hb1
      by_cases c3 : q1 ≤ x
      · have hkm : k + 1 ≠ m := fun h => by have := HL.out h; omega
        clear hV hca hcb
        go_wp2
        go_round
        case rel => exact ⟨k + 1, by omega, by go_num, ⟨hk1, by rw [HQ.out]; exact c3⟩⟩
        case measure => simp [intOf]; omega
      · have HV := Lib.hid (hV (by omega))
        clear hV
        have d3 : decide (q1 ≤ x) = false := by simp; omega
        obtain ⟨⟨hm0, hm1⟩, ht0, ht1⟩ := lin_parts hx0 (show x < q1 by omega) hstep.2 ⟨hbp.1, hbp.2.2.1⟩ ⟨hbq.2.1, hbq.2.2.2⟩
        obtain ⟨M, hM⟩ : ∃ M, (x - p1) * (q2 - p2) = M := ⟨_, rfl⟩
        rw [hM] at hm0 hm1 ht0 ht1
        obtain ⟨d, hd⟩ : ∃ d, Int.tdiv M (q1 - p1) = d := ⟨_, rfl⟩
        rw [hd] at ht0 ht1
        have HR := Lib.hid (show valueAt ps x = p2 + d by rw [HV.out, lin, ← hd, ← hM])
        have nz : (q1 - p1 == 0) = false := by simp; omega
        have nm : ¬ q1 - p1 = 0 := by omega
        have x0 : w1.cell? ⟨b, off + k * 2, none⟩ = some (.int .i64 p1) := hca 0 _ rfl _ hb1
        have x1 : w1.cell? ⟨b, off + k * 2 + 1, none⟩ = some (.int .i64 p2) := hca 1 _ rfl _ hb1
        have y1 : w1.cell? ⟨b, off + (k + 1) * 2 + 1, none⟩ = some (.int .i64 q2) := hcb 1 _ rfl _ hb1
        have y1' : (w1.alloc (.cells #[.int .i64 p1, .int .i64 p2] 44)).cell? ⟨b, off + (k + 1) * 2 + 1, none⟩ = some (.int .i64 q2) := ((Ext.refl w1).alloc _).cell y1
        have y0' : (w1.alloc (.cells #[.int .i64 p1, .int .i64 p2] 44)).cell? ⟨b, off + (k + 1) * 2, none⟩ = some (.int .i64 q1) := ((Ext.refl w1).alloc _).cell y0
        clear hca hcb
        go_wp2_with fail
        have g0 : ∀ z : Aft ((w1.alloc (.cells #[.int .i64 p1, .int .i64 p2] 44)).alloc (.cells #[.int .i64 q1, .int .i64 q2] 44)), z.1.cell? ⟨w1.heap.size, 0, none⟩ = some (.int .i64 p1) := fun z => ((RowAt.new w1 44 #[.int .i64 p1, .int .i64 p2]).ext (((Ext.refl _).alloc _).trans z.2)).cell rfl
        have g1 : ∀ z : Aft ((w1.alloc (.cells #[.int .i64 p1, .int .i64 p2] 44)).alloc (.cells #[.int .i64 q1, .int .i64 q2] 44)), z.1.cell? ⟨w1.heap.size, 1, none⟩ = some (.int .i64 p2) := fun z => ((RowAt.new w1 44 #[.int .i64 p1, .int .i64 p2]).ext (((Ext.refl _).alloc _).trans z.2)).cell rfl
        have hrr := RowAt.new (w1.alloc (.cells #[.int .i64 p1, .int .i64 p2] 44)) 44 #[.int .i64 q1, .int .i64 q2]
        rw [World.size_alloc] at hrr
        have g2 : ∀ z : Aft ((w1.alloc (.cells #[.int .i64 p1, .int .i64 p2] 44)).alloc (.cells #[.int .i64 q1, .int .i64 q2] 44)), z.1.cell? ⟨w1.heap.size + 1, 0, none⟩ = some (.int .i64 q1) := fun z => (hrr.ext z.2).cell rfl
        have g3 : ∀ z : Aft ((w1.alloc (.cells #[.int .i64 p1, .int .i64 p2] 44)).alloc (.cells #[.int .i64 q1, .int .i64 q2] 44)), z.1.cell? ⟨w1.heap.size + 1, 1, none⟩ = some (.int .i64 q2) := fun z => (hrr.ext z.2).cell rfl
        (refine wp_region_aft ((w1.alloc (.cells #[.int .i64 p1, .int .i64 p2] 44)).alloc (.cells #[.int .i64 q1, .int .i64 q2] 44)) (Ext.refl _) (by kernel_rfl) (by kernel_rfl) ?_; (repeat (go_big_quiet_step (fail))); refine wpQuiet_nil ?_; intro w2 hx2)
        go_wp2
        go_ret
        exact ⟨ret_int HR.out.symm, by (repeat' (first | (with_reducible exact Ext.refl _) | (with_reducible assumption) | (with_reducible refine Ext.alloc ?_ _) | (with_reducible refine Ext.drewN ?_ _) | (with_reducible refine Ext.drew ?_) | (with_reducible refine Ext.setCell ?_ ?_ _) | (with_reducible exact Nat.le_refl _) | (with_reducible exact Nat.le_succ _) | (with_reducible refine Ext.trans ?_ (by assumption)) | (simp; done) | (simp; omega)))⟩
end Go.Proofs.Ytknpdhafafomaaa
