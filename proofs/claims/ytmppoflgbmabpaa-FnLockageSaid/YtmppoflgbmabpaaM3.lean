/- ValueAt on both sides. -/
import Derived.Test.YtmppoflgbmabpaaProg
import Derived.Test.YtmppoflgbmabpaaM2
import Derived.Test.YtmppoflgbmabpaaM1
namespace Go.Proofs.Ytmppoflgbmabpaa
open Go.RowKit
set_option linter.unusedSimpArgs false
set_option linter.unusedVariables false

theorem specTableOk_is (R : Bool) (a : Option Addr) (n c : Nat) (ps : List Pt) (w : World) (hn : n = ps.length) (hs : n ≤ maxLen) (hf : FlatAt w ptCells 2 a ps) (hR : tableOk ps = R) :
    Calls Try.prog 53 #[.slice a n c] w fun e w' => e = .returned (.bool R) ∧ Ext w w' := by
  subst hR
  exact specTableOk_any a n c ps w hn hs hf
theorem implTableOk_is (R : Bool) (a : Option Addr) (n c : Nat) (ps : List Pt) (w : World) (hn : n = ps.length) (hs : n ≤ maxLen) (hf : FlatAt w ptCells 2 a ps) (hR : tableOk ps = R) :
    Calls Try.prog 51 #[.slice a n c] w fun e w' => e = .returned (.bool R) ∧ Ext w w' := by
  subst hR
  exact implTableOk_any a n c ps w hn hs hf
theorem Tab.head_le : ∀ (ps : List Pt) (h : Tab ps) (k : Nat) (hk : k < ps.length) (h0 : 0 < ps.length), ps[0].1 ≤ ps[k].1
  | p :: ps, _, 0, _, _ => Int.le_refl _
  | p :: q :: ps, h, k + 1, hk, _ => by
    have h1 := Tab.head_le (q :: ps) h.tail k (by simpa using hk) (by simp)
    have h2 := h.2.1
    simp only [List.getElem_cons_zero, List.getElem_cons_succ] at h1 ⊢
    omega
theorem seg_at : ∀ (qs : List Pt) (p : Pt) (x : Int) (k : Nat) (_ : Tab (p :: qs)) (hk : k + 1 < (p :: qs).length), ((p :: qs)[k]).1 ≤ x → x < ((p :: qs)[k + 1]).1 → seg x p qs = lin x ((p :: qs)[k]) ((p :: qs)[k + 1])
  | q :: qs, p, x, 0, h, _, h0, h1 => by
    unfold seg
    rw [if_neg (by simp only [List.getElem_cons_succ, List.getElem_cons_zero] at h1; omega)]
    rfl
  | q :: qs, p, x, k + 1, h, hk, h0, h1 => by
    have h2 := Tab.head_le (q :: qs) h.tail k (by simp at hk ⊢; omega) (by simp)
    simp only [List.getElem_cons_succ, List.getElem_cons_zero] at h0 h1 h2
    unfold seg
    rw [if_pos (by omega)]
    exact seg_at qs q x k h.tail (by simpa using hk) h0 h1
theorem valueAt_no {ps : List Pt} {x : Int} (h : tableOk ps = false) : valueAt ps x = 0 := by
  unfold valueAt
  rw [if_neg (by rw [h]; decide)]
theorem valueAt_first {ps : List Pt} {x : Int} (ht : tableOk ps = true) (h0 : 0 < ps.length) (h : x ≤ ps[0].1) : valueAt ps x = ps[0].2 := by
  unfold valueAt
  rw [if_pos ht]
  match ps, h0, h with
  | p :: qs, _, h => exact if_pos h
theorem valueAt_end {ps : List Pt} {x : Int} (ht : tableOk ps = true) (h0 : 0 < ps.length) (h1 : ps[0].1 < x) (h : (ps[ps.length - 1]).1 ≤ x) : valueAt ps x = (ps[ps.length - 1]).2 := by
  unfold valueAt
  rw [if_pos ht]
  obtain ⟨htab, _, _⟩ := tab_of ht
  match ps, h0, h1, h, htab with
  | p :: qs, _, h1, h, htab =>
    have e : (p :: qs)[(p :: qs).length - 1] = lastP p qs := by rw [lastP_get]; simp
    rw [e] at h ⊢
    show (if x ≤ p.1 then p.2 else seg x p qs) = _
    have h1' : p.1 < x := h1
    rw [if_neg (by omega)]
    exact seg_end qs p x htab h
theorem valueAt_lin {ps : List Pt} {x : Int} (ht : tableOk ps = true) (k : Nat) (hk : k + 1 < ps.length) (h1 : (ps[0]'(by omega)).1 < x) (h2 : ps[k].1 ≤ x) (h3 : x < ps[k + 1].1) : valueAt ps x = lin x ps[k] ps[k + 1] := by
  unfold valueAt
  rw [if_pos ht]
  obtain ⟨htab, _, _⟩ := tab_of ht
  match ps, hk, h1, h2, h3, htab with
  | p :: qs, hk, h1, h2, h3, htab =>
    show (if x ≤ p.1 then p.2 else seg x p qs) = _
    have h1' : p.1 < x := h1
    rw [if_neg (by omega)]
    exact seg_at qs p x k htab hk h2 h3
theorem lin_parts {x p1 p2 q1 q2 : Int} (h0 : p1 ≤ x) (h1 : x < q1) (h2 : p2 ≤ q2) (hp : 0 ≤ p1 ∧ 0 ≤ p2) (hq : q1 ≤ 1000000000 ∧ q2 ≤ 1000000000) :
    (0 ≤ (x - p1) * (q2 - p2) ∧ (x - p1) * (q2 - p2) ≤ 1000000000000000000) ∧ 0 ≤ Int.tdiv ((x - p1) * (q2 - p2)) (q1 - p1) ∧ Int.tdiv ((x - p1) * (q2 - p2)) (q1 - p1) ≤ q2 - p2 := by
  have hm : 0 ≤ (x - p1) * (q2 - p2) := Int.mul_nonneg (by omega) (by omega)
  have hb := lin_b (x := x) (p := (p1, p2)) (q := (q1, q2)) h0 h1 h2
  unfold lin at hb
  dsimp only at hb
  have hm2 : (x - p1) * (q2 - p2) ≤ 1000000000 * 1000000000 := Int.mul_le_mul (by omega) (by omega) (by omega) (by omega)
  exact ⟨⟨hm, by omega⟩, by omega, by omega⟩

set_option maxRecDepth 100000 in
set_option maxHeartbeats 1000000 in
theorem specValueAt_any (a : Option Addr) (n c : Nat) (ps : List Pt) (x : Int) (w : World) (hn : n = ps.length) (hs : n ≤ maxLen) (hf : FlatAt w ptCells 2 a ps) (hx : -9223372036854775808 ≤ x ∧ x ≤ 9223372036854775807) :
    Calls Try.prog 37 #[.slice a n c, .int .i64 x] w fun e w' => e = .returned (.int .i64 (valueAt ps x)) ∧ Ext w w' := by
  have HF := Lib.hid hf; clear hf
  have HS := Lib.hid hs
  unfold maxLen at hs
  obtain ⟨ok, hok⟩ : ∃ ok, tableOk ps = ok := ⟨_, rfl⟩
  have HOK := Lib.hid hok
  cases ok
  · have HV := Lib.hid (valueAt_no (x := x) hok)
    have HN := Lib.hid hn
    clear hok hn
    go_enter Try.func37, Try.ntmps37
    go_wp2_with (go_at_call 53; with_reducible refine (specTableOk_is _ _ _ _ ps _ HN.out HS.out HF.out HOK.out).mono ?_; rintro e w1 ⟨rfl, hb1⟩)
    go_ret
    exact ⟨ret_int HV.out.symm, hb1⟩
  obtain ⟨htab, hl2, hl20⟩ := tab_of hok
  have hlen0 : 0 < ps.length := by omega
  have hlenl : ps.length - 1 < ps.length := by omega
  rw [← hn] at hl2 hl20
  have hfirst := htab.get 0 hlen0
  have hlast := htab.get (ps.length - 1) hlenl
  have HTAB := Lib.hid htab
  obtain ⟨b, off, rfl, hc0⟩ := HF.out.get 0 hlen0
  obtain ⟨b', off', e', hcl⟩ := HF.out.get (ps.length - 1) hlenl
  cases e'
  have hV1 := fun (h : x ≤ (ps[0]'hlen0).1) => valueAt_first hok hlen0 h
  have hV2 := fun (h1 : (ps[0]'hlen0).1 < x) (h : (ps[ps.length - 1]'hlenl).1 ≤ x) => valueAt_end hok hlen0 h1 h
  have hV3 := fun (k : Nat) (hk : k + 1 < ps.length) (h1 : (ps[0]'hlen0).1 < x) h2 h3 => valueAt_lin hok k hk h1 h2 h3
  obtain ⟨f1, f2, hf0⟩ : ∃ f1 f2, ps[0]'hlen0 = (f1, f2) := ⟨_, _, rfl⟩
  obtain ⟨l1, l2, hfl⟩ : ∃ l1 l2, ps[ps.length - 1]'hlenl = (l1, l2) := ⟨_, _, rfl⟩
  have HF0 := Lib.hid hf0
  have HFL := Lib.hid hfl
  rw [hf0] at hc0 hV1 hV2 hfirst
  rw [hfl] at hcl hV2 hlast
  have HV3 := Lib.hid (fun (k : Nat) (hk : k + 1 < ps.length) (h1 : f1 < x) (h2 : ps[k].1 ≤ x) (h3 : x < ps[k + 1].1) => hV3 k hk (by rw [hf0]; exact h1) h2 h3)
  clear hV3 hf0 hfl hok htab
  dsimp only at hV1 hV2 hfirst hlast
  obtain ⟨m, rfl⟩ : ∃ m, n = m + 1 := ⟨n - 1, by omega⟩
  have e0 : ∀ w', Ext w w' → w'.cell? ⟨b, off, none⟩ = some (.int .i64 f1) := by simpa using hc0 0 _ rfl
  have e1 : ∀ w', Ext w w' → w'.cell? ⟨b, off + 1, none⟩ = some (.int .i64 f2) := by simpa using hc0 1 _ rfl
  rw [show ps.length - 1 = m by omega] at hcl
  have e2 : ∀ w', Ext w w' → w'.cell? ⟨b, off + m * 2, none⟩ = some (.int .i64 l1) := hcl 0 _ rfl
  have e3 : ∀ w', Ext w w' → w'.cell? ⟨b, off + m * 2 + 1, none⟩ = some (.int .i64 l2) := hcl 1 _ rfl
  have HN := Lib.hid hn
  clear hn hc0 hcl
  rcases (by omega : x ≤ f1 ∨ (f1 < x ∧ l1 ≤ x) ∨ (f1 < x ∧ x < l1)) with c1 | ⟨c1, c2⟩ | ⟨c1, c2⟩
  · have HV := Lib.hid (hV1 c1)
    clear hV1 hV2
    go_enter Try.func37, Try.ntmps37
    go_wp2_with (go_at_call 53; with_reducible refine (specTableOk_is _ _ _ _ ps _ HN.out HS.out HF.out HOK.out).mono ?_; rintro e w1 ⟨rfl, hb1⟩)
    go_ret
    exact ⟨ret_int HV.out.symm, by (repeat' (first | (with_reducible exact Ext.refl _) | (with_reducible assumption) | (with_reducible refine Ext.alloc ?_ _) | (with_reducible refine Ext.drewN ?_ _) | (with_reducible refine Ext.drew ?_) | (with_reducible refine Ext.setCell ?_ ?_ _) | (with_reducible exact Nat.le_refl _) | (with_reducible exact Nat.le_succ _) | (with_reducible refine Ext.trans ?_ (by assumption)) | (simp; done) | (simp; omega)))⟩
  · have HV := Lib.hid (hV2 c1 c2)
    clear hV1 hV2
    have d1 : decide (x ≤ f1) = false := by simp; omega
    go_enter Try.func37, Try.ntmps37
    go_wp2_with (go_at_call 53; with_reducible refine (specTableOk_is _ _ _ _ ps _ HN.out HS.out HF.out HOK.out).mono ?_; rintro e w1 ⟨rfl, hb1⟩)
    go_ret
    exact ⟨ret_int HV.out.symm, by (repeat' (first | (with_reducible exact Ext.refl _) | (with_reducible assumption) | (with_reducible refine Ext.alloc ?_ _) | (with_reducible refine Ext.drewN ?_ _) | (with_reducible refine Ext.drew ?_) | (with_reducible refine Ext.setCell ?_ ?_ _) | (with_reducible exact Nat.le_refl _) | (with_reducible exact Nat.le_succ _) | (with_reducible refine Ext.trans ?_ (by assumption)) | (simp; done) | (simp; omega)))⟩
  · clear hV1 hV2
    have d1 : decide (x ≤ f1) = false := by simp; omega
    have d2 : decide (l1 ≤ x) = false := by simp; omega
    go_enter Try.func37, Try.ntmps37
    go_wp2_with fail
    refine (specTableOk_is _ _ _ _ ps _ HN.out HS.out HF.out HOK.out).mono ?_
    rintro e w1 ⟨rfl, hb1⟩
    go_wp2
    go_loop [6] (fun i => ∃ (k : Nat), k < m ∧ i = .int .i64 k ∧ Hid (∃ (h : k < ps.length), ps[k].1 ≤ x)) (fun i => m - (intOf i).toNat)
    case atStart => exact ⟨0, by omega, rfl, ⟨by have := HN.out; omega, by rw [HF0.out]; dsimp only; omega⟩⟩
    case round =>
      obtain ⟨k, hk, rfl, hkx⟩ := hrel
      have hk1 : k + 1 < ps.length := by have := HN.out; omega
      obtain ⟨_, hx0⟩ := hkx.out
      obtain ⟨b2, off2, e', hca⟩ := HF.out.get k (by omega)
      cases e'
      obtain ⟨b2, off2, e', hcb⟩ := HF.out.get (k + 1) hk1
      cases e'
      have hstep := HTAB.out.step k hk1
      have hbp := HTAB.out.get k (by omega)
      have hbq := HTAB.out.get (k + 1) hk1
      have hV := fun h3 => HV3.out k hk1 c1 hx0 h3
      obtain ⟨p1, p2, hp⟩ : ∃ p1 p2, ps[k] = (p1, p2) := ⟨_, _, rfl⟩
      obtain ⟨q1, q2, hq⟩ : ∃ q1 q2, ps[k + 1] = (q1, q2) := ⟨_, _, rfl⟩
      have HQ := Lib.hid hq
      rw [hp] at hca hstep hbp hx0 hV
      rw [hq] at hcb hstep hbq hV
      have HL := Lib.hid (show k + 1 = m → q1 = l1 from fun h => by
        have h1 := HFL.out
        have h2 := HN.out
        have e : ps[ps.length - 1] = ps[k + 1] := by congr 1; omega
        rw [e, hq] at h1
        exact (Prod.mk.inj h1).1)
      clear hp hq
      dsimp only at hstep hbp hbq hx0 hV
      have y0 : w1.cell? ⟨b, off + (k + 1) * 2, none⟩ = some (.int .i64 q1) := hcb 0 _ rfl _ hb1
      by_cases c3 : q1 ≤ x
      · have hkm : k + 1 ≠ m := fun h => by have := HL.out h; omega
        clear hV hca hcb
        go_wp2
        go_round
        case rel => exact ⟨k + 1, by omega, by go_num, ⟨hk1, by rw [HQ.out]; exact c3⟩⟩
        case measure => simp [intOf]; omega
      · have HV := Lib.hid (hV (by omega))
        clear hV
        have d3 : decide (q1 ≤ x) = false := by simp; omega
        obtain ⟨⟨hm0, hm1⟩, ht0, ht1⟩ := lin_parts hx0 (show x < q1 by omega) hstep.2 ⟨hbp.1, hbp.2.2.1⟩ ⟨hbq.2.1, hbq.2.2.2⟩
        obtain ⟨M, hM⟩ : ∃ M, (x - p1) * (q2 - p2) = M := ⟨_, rfl⟩
        rw [hM] at hm0 hm1 ht0 ht1
        obtain ⟨d, hd⟩ : ∃ d, Int.tdiv M (q1 - p1) = d := ⟨_, rfl⟩
        rw [hd] at ht0 ht1
        have HR := Lib.hid (show valueAt ps x = p2 + d by rw [HV.out, lin, ← hd, ← hM])
        have nz : (q1 - p1 == 0) = false := by simp; omega
        have nm : ¬ q1 - p1 = 0 := by omega
        have x0 : w1.cell? ⟨b, off + k * 2, none⟩ = some (.int .i64 p1) := hca 0 _ rfl _ hb1
        have x1 : w1.cell? ⟨b, off + k * 2 + 1, none⟩ = some (.int .i64 p2) := hca 1 _ rfl _ hb1
        have y1 : w1.cell? ⟨b, off + (k + 1) * 2 + 1, none⟩ = some (.int .i64 q2) := hcb 1 _ rfl _ hb1
        have y1' : (w1.alloc (.cells #[.int .i64 p1, .int .i64 p2] 37)).cell? ⟨b, off + (k + 1) * 2 + 1, none⟩ = some (.int .i64 q2) := ((Ext.refl w1).alloc _).cell y1
        have y0' : (w1.alloc (.cells #[.int .i64 p1, .int .i64 p2] 37)).cell? ⟨b, off + (k + 1) * 2, none⟩ = some (.int .i64 q1) := ((Ext.refl w1).alloc _).cell y0
        clear hca hcb
        go_wp2_with fail
        have g0 : ∀ z : Aft ((w1.alloc (.cells #[.int .i64 p1, .int .i64 p2] 37)).alloc (.cells #[.int .i64 q1, .int .i64 q2] 37)), z.1.cell? ⟨w1.heap.size, 0, none⟩ = some (.int .i64 p1) := fun z => ((RowAt.new w1 37 #[.int .i64 p1, .int .i64 p2]).ext (((Ext.refl _).alloc _).trans z.2)).cell rfl
        have g1 : ∀ z : Aft ((w1.alloc (.cells #[.int .i64 p1, .int .i64 p2] 37)).alloc (.cells #[.int .i64 q1, .int .i64 q2] 37)), z.1.cell? ⟨w1.heap.size, 1, none⟩ = some (.int .i64 p2) := fun z => ((RowAt.new w1 37 #[.int .i64 p1, .int .i64 p2]).ext (((Ext.refl _).alloc _).trans z.2)).cell rfl
        have hrr := RowAt.new (w1.alloc (.cells #[.int .i64 p1, .int .i64 p2] 37)) 37 #[.int .i64 q1, .int .i64 q2]
        rw [World.size_alloc] at hrr
        have g2 : ∀ z : Aft ((w1.alloc (.cells #[.int .i64 p1, .int .i64 p2] 37)).alloc (.cells #[.int .i64 q1, .int .i64 q2] 37)), z.1.cell? ⟨w1.heap.size + 1, 0, none⟩ = some (.int .i64 q1) := fun z => (hrr.ext z.2).cell rfl
        have g3 : ∀ z : Aft ((w1.alloc (.cells #[.int .i64 p1, .int .i64 p2] 37)).alloc (.cells #[.int .i64 q1, .int .i64 q2] 37)), z.1.cell? ⟨w1.heap.size + 1, 1, none⟩ = some (.int .i64 q2) := fun z => (hrr.ext z.2).cell rfl
        (refine wp_region_aft ((w1.alloc (.cells #[.int .i64 p1, .int .i64 p2] 37)).alloc (.cells #[.int .i64 q1, .int .i64 q2] 37)) (Ext.refl _) (by kernel_rfl) (by kernel_rfl) ?_; (repeat (go_big_quiet_step (fail))); refine wpQuiet_nil ?_; intro w2 hx2)
        go_wp2
        go_ret
        exact ⟨ret_int HR.out.symm, by (repeat' (first | (with_reducible exact Ext.refl _) | (with_reducible assumption) | (with_reducible refine Ext.alloc ?_ _) | (with_reducible refine Ext.drewN ?_ _) | (with_reducible refine Ext.drew ?_) | (with_reducible refine Ext.setCell ?_ ?_ _) | (with_reducible exact Nat.le_refl _) | (with_reducible exact Nat.le_succ _) | (with_reducible refine Ext.trans ?_ (by assumption)) | (simp; done) | (simp; omega)))⟩
end Go.Proofs.Ytmppoflgbmabpaa
/- ValueAt of the program. -/
namespace Go.Proofs.Ytmppoflgbmabpaa
open Go.RowKit
set_option linter.unusedSimpArgs false
set_option linter.unusedVariables false

set_option maxRecDepth 100000 in
set_option maxHeartbeats 1000000 in
theorem implValueAt_any (a : Option Addr) (n c : Nat) (ps : List Pt) (x : Int) (w : World) (hn : n = ps.length) (hs : n ≤ maxLen) (hf : FlatAt w ptCells 2 a ps) (hx : -9223372036854775808 ≤ x ∧ x ≤ 9223372036854775807) :
    Calls Try.prog 28 #[.slice a n c, .int .i64 x] w fun e w' => e = .returned (.int .i64 (valueAt ps x)) ∧ Ext w w' := by
  have HF := Lib.hid hf; clear hf
  have HS := Lib.hid hs
  unfold maxLen at hs
  obtain ⟨ok, hok⟩ : ∃ ok, tableOk ps = ok := ⟨_, rfl⟩
  have HOK := Lib.hid hok
  cases ok
  · have HV := Lib.hid (valueAt_no (x := x) hok)
    have HN := Lib.hid hn
    clear hok hn
    go_enter Try.func28, Try.ntmps28
    go_wp2_with (go_at_call 51; with_reducible refine (implTableOk_is _ _ _ _ ps _ HN.out HS.out HF.out HOK.out).mono ?_; rintro e w1 ⟨rfl, hb1⟩)
    go_ret
    exact ⟨ret_int HV.out.symm, hb1⟩
  obtain ⟨htab, hl2, hl20⟩ := tab_of hok
  have hlen0 : 0 < ps.length := by omega
  have hlenl : ps.length - 1 < ps.length := by omega
  rw [← hn] at hl2 hl20
  have hfirst := htab.get 0 hlen0
  have hlast := htab.get (ps.length - 1) hlenl
  have HTAB := Lib.hid htab
  obtain ⟨b, off, rfl, hc0⟩ := HF.out.get 0 hlen0
  obtain ⟨b', off', e', hcl⟩ := HF.out.get (ps.length - 1) hlenl
  cases e'
  have hV1 := fun (h : x ≤ (ps[0]'hlen0).1) => valueAt_first hok hlen0 h
  have hV2 := fun (h1 : (ps[0]'hlen0).1 < x) (h : (ps[ps.length - 1]'hlenl).1 ≤ x) => valueAt_end hok hlen0 h1 h
  have hV3 := fun (k : Nat) (hk : k + 1 < ps.length) (h1 : (ps[0]'hlen0).1 < x) h2 h3 => valueAt_lin hok k hk h1 h2 h3
  obtain ⟨f1, f2, hf0⟩ : ∃ f1 f2, ps[0]'hlen0 = (f1, f2) := ⟨_, _, rfl⟩
  obtain ⟨l1, l2, hfl⟩ : ∃ l1 l2, ps[ps.length - 1]'hlenl = (l1, l2) := ⟨_, _, rfl⟩
  have HF0 := Lib.hid hf0
  have HFL := Lib.hid hfl
  rw [hf0] at hc0 hV1 hV2 hfirst
  rw [hfl] at hcl hV2 hlast
  have HV3 := Lib.hid (fun (k : Nat) (hk : k + 1 < ps.length) (h1 : f1 < x) (h2 : ps[k].1 ≤ x) (h3 : x < ps[k + 1].1) => hV3 k hk (by rw [hf0]; exact h1) h2 h3)
  clear hV3 hf0 hfl hok htab
  dsimp only at hV1 hV2 hfirst hlast
  obtain ⟨m, rfl⟩ : ∃ m, n = m + 1 := ⟨n - 1, by omega⟩
  have e0 : ∀ w', Ext w w' → w'.cell? ⟨b, off, none⟩ = some (.int .i64 f1) := by simpa using hc0 0 _ rfl
  have e1 : ∀ w', Ext w w' → w'.cell? ⟨b, off + 1, none⟩ = some (.int .i64 f2) := by simpa using hc0 1 _ rfl
  rw [show ps.length - 1 = m by omega] at hcl
  have e2 : ∀ w', Ext w w' → w'.cell? ⟨b, off + m * 2, none⟩ = some (.int .i64 l1) := hcl 0 _ rfl
  have e3 : ∀ w', Ext w w' → w'.cell? ⟨b, off + m * 2 + 1, none⟩ = some (.int .i64 l2) := hcl 1 _ rfl
  have HN := Lib.hid hn
  clear hn hc0 hcl
  rcases (by omega : x ≤ f1 ∨ (f1 < x ∧ l1 ≤ x) ∨ (f1 < x ∧ x < l1)) with c1 | ⟨c1, c2⟩ | ⟨c1, c2⟩
  · have HV := Lib.hid (hV1 c1)
    clear hV1 hV2
    go_enter Try.func28, Try.ntmps28
    go_wp2_with fail
    refine (implTableOk_is _ _ _ _ ps _ HN.out HS.out HF.out HOK.out).mono ?_
    rintro e w1 ⟨rfl, hb1⟩
    have eb := hb1.trans ((Ext.refl w1).alloc (.cells #[.int .i64 l1, .int .i64 l2] 37))
    have g2 := e2 _ hb1
    have g3 := e3 _ hb1
    have g0 := e0 _ eb
    have g1 := e1 _ eb
    clear e0 e1 e2 e3
    go_wp2
    go_ret
    exact ⟨ret_int HV.out.symm, by (repeat' (first | (with_reducible exact Ext.refl _) | (with_reducible assumption) | (with_reducible refine Ext.alloc ?_ _) | (with_reducible refine Ext.drewN ?_ _) | (with_reducible refine Ext.drew ?_) | (with_reducible refine Ext.setCell ?_ ?_ _) | (with_reducible exact Nat.le_refl _) | (with_reducible exact Nat.le_succ _) | (with_reducible refine Ext.trans ?_ (by assumption)) | (simp; done) | (simp; omega)))⟩
  · have HV := Lib.hid (hV2 c1 c2)
    clear hV1 hV2
    have d1 : decide (x ≤ f1) = false := by simp; omega
    go_enter Try.func28, Try.ntmps28
    go_wp2_with fail
    refine (implTableOk_is _ _ _ _ ps _ HN.out HS.out HF.out HOK.out).mono ?_
    rintro e w1 ⟨rfl, hb1⟩
    have eb := hb1.trans ((Ext.refl w1).alloc (.cells #[.int .i64 l1, .int .i64 l2] 37))
    have g2 := e2 _ hb1
    have g3 := e3 _ hb1
    have g0 := e0 _ eb
    have g1 := e1 _ eb
    clear e0 e1 e2 e3
    go_wp2
    go_ret
    exact ⟨ret_int HV.out.symm, by (repeat' (first | (with_reducible exact Ext.refl _) | (with_reducible assumption) | (with_reducible refine Ext.alloc ?_ _) | (with_reducible refine Ext.drewN ?_ _) | (with_reducible refine Ext.drew ?_) | (with_reducible refine Ext.setCell ?_ ?_ _) | (with_reducible exact Nat.le_refl _) | (with_reducible exact Nat.le_succ _) | (with_reducible refine Ext.trans ?_ (by assumption)) | (simp; done) | (simp; omega)))⟩
  · clear hV1 hV2
    have d1 : decide (x ≤ f1) = false := by simp; omega
    have d2 : decide (l1 ≤ x) = false := by simp; omega
    go_enter Try.func28, Try.ntmps28
    go_wp2_with fail
    refine (implTableOk_is _ _ _ _ ps _ HN.out HS.out HF.out HOK.out).mono ?_
    rintro e w1 ⟨rfl, hb1'⟩
    have eb := hb1'.trans ((Ext.refl w1).alloc (.cells #[.int .i64 l1, .int .i64 l2] 37))
    have g2 := e2 _ hb1'
    have g3 := e3 _ hb1'
    have g0 := e0 _ eb
    have g1 := e1 _ eb
    clear e0 e1 e2 e3
    go_wp2_with fail
    obtain ⟨wB, hwB⟩ : ∃ x, x = w1.alloc (.cells #[.int .i64 l1, .int .i64 l2] 37) := ⟨_, rfl⟩
    rw [← hwB] at eb g0 g1
    (try rw [← hwB])
    have hb1 := eb
    clear hwB eb g2 g3
    go_loop [6] (fun i => ∃ (k : Nat), k < m ∧ i = .int .i64 k ∧ Hid (∃ (h : k < ps.length), ps[k].1 ≤ x)) (fun i => m - (intOf i).toNat)
    case atStart => exact ⟨0, by omega, rfl, ⟨by have := HN.out; omega, by rw [HF0.out]; dsimp only; omega⟩⟩
    case round =>
      obtain ⟨k, hk, rfl, hkx⟩ := hrel
      have hk1 : k + 1 < ps.length := by have := HN.out; omega
      obtain ⟨_, hx0⟩ := hkx.out
      obtain ⟨b2, off2, e', hca⟩ := HF.out.get k (by omega)
      cases e'
      obtain ⟨b2, off2, e', hcb⟩ := HF.out.get (k + 1) hk1
      cases e'
      have hstep := HTAB.out.step k hk1
      have hbp := HTAB.out.get k (by omega)
      have hbq := HTAB.out.get (k + 1) hk1
      have hV := fun h3 => HV3.out k hk1 c1 hx0 h3
      obtain ⟨p1, p2, hp⟩ : ∃ p1 p2, ps[k] = (p1, p2) := ⟨_, _, rfl⟩
      obtain ⟨q1, q2, hq⟩ : ∃ q1 q2, ps[k + 1] = (q1, q2) := ⟨_, _, rfl⟩
      have HQ := Lib.hid hq
      rw [hp] at hca hstep hbp hx0 hV
      rw [hq] at hcb hstep hbq hV
      have HL := Lib.hid (show k + 1 = m → q1 = l1 from fun h => by
        have h1 := HFL.out
        have h2 := HN.out
        have e : ps[ps.length - 1] = ps[k + 1] := by congr 1; omega
        rw [e, hq] at h1
        exact (Prod.mk.inj h1).1)
      clear hp hq
      dsimp only at hstep hbp hbq hx0 hV
      have y0 : wB.cell? ⟨b, off + (k + 1) * 2, none⟩ = some (.int .i64 q1) := hcb 0 _ rfl _ hb1
      by_cases c3 : q1 ≤ x
      · have hkm : k + 1 ≠ m := fun h => by have := HL.out h; omega
        clear hV hca hcb
        go_wp2
        go_round
        case rel => exact ⟨k + 1, by omega, by go_num, ⟨hk1, by rw [HQ.out]; exact c3⟩⟩
        case measure => simp [intOf]; omega
      · have HV := Lib.hid (hV (by omega))
        clear hV
        have d3 : decide (q1 ≤ x) = false := by simp; omega
        obtain ⟨⟨hm0, hm1⟩, ht0, ht1⟩ := lin_parts hx0 (show x < q1 by omega) hstep.2 ⟨hbp.1, hbp.2.2.1⟩ ⟨hbq.2.1, hbq.2.2.2⟩
        obtain ⟨M, hM⟩ : ∃ M, (x - p1) * (q2 - p2) = M := ⟨_, rfl⟩
        rw [hM] at hm0 hm1 ht0 ht1
        obtain ⟨d, hd⟩ : ∃ d, Int.tdiv M (q1 - p1) = d := ⟨_, rfl⟩
        rw [hd] at ht0 ht1
        have HR := Lib.hid (show valueAt ps x = p2 + d by rw [HV.out, lin, ← hd, ← hM])
        have nz : (q1 - p1 == 0) = false := by simp; omega
        have nm : ¬ q1 - p1 = 0 := by omega
        have x0 : wB.cell? ⟨b, off + k * 2, none⟩ = some (.int .i64 p1) := hca 0 _ rfl _ hb1
        have x1 : wB.cell? ⟨b, off + k * 2 + 1, none⟩ = some (.int .i64 p2) := hca 1 _ rfl _ hb1
        have y1 : wB.cell? ⟨b, off + (k + 1) * 2 + 1, none⟩ = some (.int .i64 q2) := hcb 1 _ rfl _ hb1
        clear hca hcb
        go_wp2_with fail
        have i0 : (0 : Int) ≤ (k : Int) := by omega
        have i1 : (k : Int) < (m : Int) + 1 := by omega
        have i2 : (0 : Int) ≤ (k : Int) + 1 := by omega
        have i3 : (k : Int) + 1 < (m : Int) + 1 := by omega
        have i4 := IntWalk.i64_in ((k : Int) + 1) (by omega)
        have i5 : ((k : Int) + 1).toNat = k + 1 := by omega
        refine wp_region_held_drew (S := (fun w' => w'.cell? ⟨b, off + k * 2, none⟩ = some (.int .i64 p1) ∧ w'.cell? ⟨b, off + k * 2 + 1, none⟩ = some (.int .i64 p2) ∧ w'.cell? ⟨b, off + (k + 1) * 2, none⟩ = some (.int .i64 q1) ∧ w'.cell? ⟨b, off + (k + 1) * 2 + 1, none⟩ = some (.int .i64 q2))) (by kernel_rfl) ?_ (fun hH0 => ?_)
        · (try dsimp only)
          ((repeat' (refine And.intro ?_ ?_)) <;> (first | (exact Ext.cell (w := wB) (by (repeat' (first | (with_reducible exact Ext.refl _) | (with_reducible assumption) | (with_reducible refine Ext.alloc ?_ _) | (with_reducible refine Ext.drewN ?_ _) | (with_reducible refine Ext.drew ?_) | (with_reducible refine Ext.setCell ?_ ?_ _) | (with_reducible exact Nat.le_refl _) | (with_reducible exact Nat.le_succ _) | (with_reducible refine Ext.trans ?_ (by assumption)) | (simp; done) | (simp; omega)))) x0) | (exact Ext.cell (w := wB) (by (repeat' (first | (with_reducible exact Ext.refl _) | (with_reducible assumption) | (with_reducible refine Ext.alloc ?_ _) | (with_reducible refine Ext.drewN ?_ _) | (with_reducible refine Ext.drew ?_) | (with_reducible refine Ext.setCell ?_ ?_ _) | (with_reducible exact Nat.le_refl _) | (with_reducible exact Nat.le_succ _) | (with_reducible refine Ext.trans ?_ (by assumption)) | (simp; done) | (simp; omega)))) x1) | (exact Ext.cell (w := wB) (by (repeat' (first | (with_reducible exact Ext.refl _) | (with_reducible assumption) | (with_reducible refine Ext.alloc ?_ _) | (with_reducible refine Ext.drewN ?_ _) | (with_reducible refine Ext.drew ?_) | (with_reducible refine Ext.setCell ?_ ?_ _) | (with_reducible exact Nat.le_refl _) | (with_reducible exact Nat.le_succ _) | (with_reducible refine Ext.trans ?_ (by assumption)) | (simp; done) | (simp; omega)))) y0) | (exact Ext.cell (w := wB) (by (repeat' (first | (with_reducible exact Ext.refl _) | (with_reducible assumption) | (with_reducible refine Ext.alloc ?_ _) | (with_reducible refine Ext.drewN ?_ _) | (with_reducible refine Ext.drew ?_) | (with_reducible refine Ext.setCell ?_ ?_ _) | (with_reducible exact Nat.le_refl _) | (with_reducible exact Nat.le_succ _) | (with_reducible refine Ext.trans ?_ (by assumption)) | (simp; done) | (simp; omega)))) y1)))
        refine take_l 0 (v := ?_) rfl (by kernel_rfl) (by kernel_rfl) (by kernel_rfl) (fun _ _ _ h => h) (by rfl) ?_ (by assumption) ?_
        rotate_left
        · (intro w hSw; (try dsimp only at hSw); go_simp; (try with_reducible rfl))
        (try simp only [Act.put, List.setIfInBounds_toArray, List.set_cons_zero, List.set_cons_succ])
        refine take_l 1 (v := ?_) rfl (by kernel_rfl) (by kernel_rfl) (by kernel_rfl) (fun _ _ _ h => h) (by rfl) ?_ (by assumption) ?_
        rotate_left
        · (intro w hSw; (try dsimp only at hSw); go_simp; (try with_reducible rfl))
        (try simp only [Act.put, List.setIfInBounds_toArray, List.set_cons_zero, List.set_cons_succ])
        refine take_l 2 (v := ?_) rfl (by kernel_rfl) (by kernel_rfl) (by kernel_rfl) (fun _ _ _ h => h) (by rfl) ?_ (by assumption) ?_
        rotate_left
        · (intro w hSw; (try dsimp only at hSw); go_simp; (try with_reducible rfl))
        (try simp only [Act.put, List.setIfInBounds_toArray, List.set_cons_zero, List.set_cons_succ])
        refine take_l 3 (v := ?_) rfl (by kernel_rfl) (by kernel_rfl) (by kernel_rfl) (fun _ _ _ h => h) (by rfl) ?_ (by assumption) ?_
        rotate_left
        · (intro w hSw; (try dsimp only at hSw); go_simp; (try with_reducible rfl))
        (try simp only [Act.put, List.setIfInBounds_toArray, List.set_cons_zero, List.set_cons_succ])
        refine take_l 4 (v := ?_) rfl (by kernel_rfl) (by kernel_rfl) (by kernel_rfl) (fun _ _ _ h => h) (by rfl) ?_ (by assumption) ?_
        rotate_left
        · (intro w hSw; (try dsimp only at hSw); go_simp; (try with_reducible rfl))
        (try simp only [Act.put, List.setIfInBounds_toArray, List.set_cons_zero, List.set_cons_succ])
        refine take_l 5 (v := ?_) rfl (by kernel_rfl) (by kernel_rfl) (by kernel_rfl) (fun _ _ _ h => h) (by rfl) ?_ (by assumption) ?_
        rotate_left
        · (intro w hSw; (try dsimp only at hSw); go_simp; (try with_reducible rfl))
        (try simp only [Act.put, List.setIfInBounds_toArray, List.set_cons_zero, List.set_cons_succ])
        refine take_l 6 (v := ?_) rfl (by kernel_rfl) (by kernel_rfl) (by kernel_rfl) (fun _ _ _ h => h) (by rfl) ?_ (by assumption) ?_
        rotate_left
        · (intro w hSw; (try dsimp only at hSw); go_simp; (try with_reducible rfl))
        (try simp only [Act.put, List.setIfInBounds_toArray, List.set_cons_zero, List.set_cons_succ])
        refine take_l 7 (v := ?_) rfl (by kernel_rfl) (by kernel_rfl) (by kernel_rfl) (fun _ _ _ h => h) (by rfl) ?_ (by assumption) ?_
        rotate_left
        · (intro w hSw; (try dsimp only at hSw); go_simp; (try with_reducible rfl))
        (try simp only [Act.put, List.setIfInBounds_toArray, List.set_cons_zero, List.set_cons_succ])
        refine take_l 8 (v := ?_) rfl (by kernel_rfl) (by kernel_rfl) (by kernel_rfl) (fun _ _ _ h => h) (by rfl) ?_ (by assumption) ?_
        rotate_left
        · (intro w hSw; (try dsimp only at hSw); go_simp; (try with_reducible rfl))
        (try simp only [Act.put, List.setIfInBounds_toArray, List.set_cons_zero, List.set_cons_succ])
        refine wpAnyH_ready (rs := [9, 10]) (by kernel_rfl) (by simp) ?_
        refine cons_l (i := 9) rfl (fun K hK => ?_) ?_
        go_simp
        refine hK.out _ _ ?_ (fun hH1 => ?_)
        · (try dsimp only)
          ((repeat' (refine And.intro ?_ ?_)) <;> (first | (exact Ext.cell (w := wB) (by (repeat' (first | (with_reducible exact Ext.refl _) | (with_reducible assumption) | (with_reducible refine Ext.alloc ?_ _) | (with_reducible refine Ext.drewN ?_ _) | (with_reducible refine Ext.drew ?_) | (with_reducible refine Ext.setCell ?_ ?_ _) | (with_reducible exact Nat.le_refl _) | (with_reducible exact Nat.le_succ _) | (with_reducible refine Ext.trans ?_ (by assumption)) | (simp; done) | (simp; omega)))) x0) | (exact Ext.cell (w := wB) (by (repeat' (first | (with_reducible exact Ext.refl _) | (with_reducible assumption) | (with_reducible refine Ext.alloc ?_ _) | (with_reducible refine Ext.drewN ?_ _) | (with_reducible refine Ext.drew ?_) | (with_reducible refine Ext.setCell ?_ ?_ _) | (with_reducible exact Nat.le_refl _) | (with_reducible exact Nat.le_succ _) | (with_reducible refine Ext.trans ?_ (by assumption)) | (simp; done) | (simp; omega)))) x1) | (exact Ext.cell (w := wB) (by (repeat' (first | (with_reducible exact Ext.refl _) | (with_reducible assumption) | (with_reducible refine Ext.alloc ?_ _) | (with_reducible refine Ext.drewN ?_ _) | (with_reducible refine Ext.drew ?_) | (with_reducible refine Ext.setCell ?_ ?_ _) | (with_reducible exact Nat.le_refl _) | (with_reducible exact Nat.le_succ _) | (with_reducible refine Ext.trans ?_ (by assumption)) | (simp; done) | (simp; omega)))) y0) | (exact Ext.cell (w := wB) (by (repeat' (first | (with_reducible exact Ext.refl _) | (with_reducible assumption) | (with_reducible refine Ext.alloc ?_ _) | (with_reducible refine Ext.drewN ?_ _) | (with_reducible refine Ext.drew ?_) | (with_reducible refine Ext.setCell ?_ ?_ _) | (with_reducible exact Nat.le_refl _) | (with_reducible exact Nat.le_succ _) | (with_reducible refine Ext.trans ?_ (by assumption)) | (simp; done) | (simp; omega)))) y1)))
        clear hK K hH0
        (try simp only [Act.put, List.setIfInBounds_toArray, List.set_cons_zero, List.set_cons_succ])
        refine wpAnyH_ready (rs := [10]) (by kernel_rfl) (by simp) ?_
        refine cons_l (i := 10) rfl (fun K hK => ?_) ?_
        go_simp
        refine hK.out _ _ ?_ (fun hH2 => ?_)
        · (try dsimp only)
          ((repeat' (refine And.intro ?_ ?_)) <;> (first | (exact Ext.cell (w := wB) (by (repeat' (first | (with_reducible exact Ext.refl _) | (with_reducible assumption) | (with_reducible refine Ext.alloc ?_ _) | (with_reducible refine Ext.drewN ?_ _) | (with_reducible refine Ext.drew ?_) | (with_reducible refine Ext.setCell ?_ ?_ _) | (with_reducible exact Nat.le_refl _) | (with_reducible exact Nat.le_succ _) | (with_reducible refine Ext.trans ?_ (by assumption)) | (simp; done) | (simp; omega)))) x0) | (exact Ext.cell (w := wB) (by (repeat' (first | (with_reducible exact Ext.refl _) | (with_reducible assumption) | (with_reducible refine Ext.alloc ?_ _) | (with_reducible refine Ext.drewN ?_ _) | (with_reducible refine Ext.drew ?_) | (with_reducible refine Ext.setCell ?_ ?_ _) | (with_reducible exact Nat.le_refl _) | (with_reducible exact Nat.le_succ _) | (with_reducible refine Ext.trans ?_ (by assumption)) | (simp; done) | (simp; omega)))) x1) | (exact Ext.cell (w := wB) (by (repeat' (first | (with_reducible exact Ext.refl _) | (with_reducible assumption) | (with_reducible refine Ext.alloc ?_ _) | (with_reducible refine Ext.drewN ?_ _) | (with_reducible refine Ext.drew ?_) | (with_reducible refine Ext.setCell ?_ ?_ _) | (with_reducible exact Nat.le_refl _) | (with_reducible exact Nat.le_succ _) | (with_reducible refine Ext.trans ?_ (by assumption)) | (simp; done) | (simp; omega)))) y0) | (exact Ext.cell (w := wB) (by (repeat' (first | (with_reducible exact Ext.refl _) | (with_reducible assumption) | (with_reducible refine Ext.alloc ?_ _) | (with_reducible refine Ext.drewN ?_ _) | (with_reducible refine Ext.drew ?_) | (with_reducible refine Ext.setCell ?_ ?_ _) | (with_reducible exact Nat.le_refl _) | (with_reducible exact Nat.le_succ _) | (with_reducible refine Ext.trans ?_ (by assumption)) | (simp; done) | (simp; omega)))) y1)))
        clear hK K hH1
        (try simp only [Act.put, List.setIfInBounds_toArray, List.set_cons_zero, List.set_cons_succ])
        refine wpAnyH_ready (rs := [11]) (by kernel_rfl) (by simp) ?_
        refine cons_l (i := 11) rfl (fun K hK => ?_) ?_
        go_simp
        refine hK.out _ _ ?_ (fun hH3 => ?_)
        · (try dsimp only)
          ((repeat' (refine And.intro ?_ ?_)) <;> (first | (exact Ext.cell (w := wB) (by (repeat' (first | (with_reducible exact Ext.refl _) | (with_reducible assumption) | (with_reducible refine Ext.alloc ?_ _) | (with_reducible refine Ext.drewN ?_ _) | (with_reducible refine Ext.drew ?_) | (with_reducible refine Ext.setCell ?_ ?_ _) | (with_reducible exact Nat.le_refl _) | (with_reducible exact Nat.le_succ _) | (with_reducible refine Ext.trans ?_ (by assumption)) | (simp; done) | (simp; omega)))) x0) | (exact Ext.cell (w := wB) (by (repeat' (first | (with_reducible exact Ext.refl _) | (with_reducible assumption) | (with_reducible refine Ext.alloc ?_ _) | (with_reducible refine Ext.drewN ?_ _) | (with_reducible refine Ext.drew ?_) | (with_reducible refine Ext.setCell ?_ ?_ _) | (with_reducible exact Nat.le_refl _) | (with_reducible exact Nat.le_succ _) | (with_reducible refine Ext.trans ?_ (by assumption)) | (simp; done) | (simp; omega)))) x1) | (exact Ext.cell (w := wB) (by (repeat' (first | (with_reducible exact Ext.refl _) | (with_reducible assumption) | (with_reducible refine Ext.alloc ?_ _) | (with_reducible refine Ext.drewN ?_ _) | (with_reducible refine Ext.drew ?_) | (with_reducible refine Ext.setCell ?_ ?_ _) | (with_reducible exact Nat.le_refl _) | (with_reducible exact Nat.le_succ _) | (with_reducible refine Ext.trans ?_ (by assumption)) | (simp; done) | (simp; omega)))) y0) | (exact Ext.cell (w := wB) (by (repeat' (first | (with_reducible exact Ext.refl _) | (with_reducible assumption) | (with_reducible refine Ext.alloc ?_ _) | (with_reducible refine Ext.drewN ?_ _) | (with_reducible refine Ext.drew ?_) | (with_reducible refine Ext.setCell ?_ ?_ _) | (with_reducible exact Nat.le_refl _) | (with_reducible exact Nat.le_succ _) | (with_reducible refine Ext.trans ?_ (by assumption)) | (simp; done) | (simp; omega)))) y1)))
        clear hK K hH2
        (try simp only [Act.put, List.setIfInBounds_toArray, List.set_cons_zero, List.set_cons_succ])
        refine wpAnyH_ready (rs := [12]) (by kernel_rfl) (by simp) ?_
        refine cons_l (i := 12) rfl (fun K hK => ?_) ?_
        go_simp
        refine hK.out _ _ ?_ (fun hH4 => ?_)
        · (try dsimp only)
          ((repeat' (refine And.intro ?_ ?_)) <;> (first | (exact Ext.cell (w := wB) (by (repeat' (first | (with_reducible exact Ext.refl _) | (with_reducible assumption) | (with_reducible refine Ext.alloc ?_ _) | (with_reducible refine Ext.drewN ?_ _) | (with_reducible refine Ext.drew ?_) | (with_reducible refine Ext.setCell ?_ ?_ _) | (with_reducible exact Nat.le_refl _) | (with_reducible exact Nat.le_succ _) | (with_reducible refine Ext.trans ?_ (by assumption)) | (simp; done) | (simp; omega)))) x0) | (exact Ext.cell (w := wB) (by (repeat' (first | (with_reducible exact Ext.refl _) | (with_reducible assumption) | (with_reducible refine Ext.alloc ?_ _) | (with_reducible refine Ext.drewN ?_ _) | (with_reducible refine Ext.drew ?_) | (with_reducible refine Ext.setCell ?_ ?_ _) | (with_reducible exact Nat.le_refl _) | (with_reducible exact Nat.le_succ _) | (with_reducible refine Ext.trans ?_ (by assumption)) | (simp; done) | (simp; omega)))) x1) | (exact Ext.cell (w := wB) (by (repeat' (first | (with_reducible exact Ext.refl _) | (with_reducible assumption) | (with_reducible refine Ext.alloc ?_ _) | (with_reducible refine Ext.drewN ?_ _) | (with_reducible refine Ext.drew ?_) | (with_reducible refine Ext.setCell ?_ ?_ _) | (with_reducible exact Nat.le_refl _) | (with_reducible exact Nat.le_succ _) | (with_reducible refine Ext.trans ?_ (by assumption)) | (simp; done) | (simp; omega)))) y0) | (exact Ext.cell (w := wB) (by (repeat' (first | (with_reducible exact Ext.refl _) | (with_reducible assumption) | (with_reducible refine Ext.alloc ?_ _) | (with_reducible refine Ext.drewN ?_ _) | (with_reducible refine Ext.drew ?_) | (with_reducible refine Ext.setCell ?_ ?_ _) | (with_reducible exact Nat.le_refl _) | (with_reducible exact Nat.le_succ _) | (with_reducible refine Ext.trans ?_ (by assumption)) | (simp; done) | (simp; omega)))) y1)))
        clear hK K hH3
        (try simp only [Act.put, List.setIfInBounds_toArray, List.set_cons_zero, List.set_cons_succ])
        refine wpAnyH_done (by kernel_rfl) ?_ _
        rotate_left
        exact AllReadyH.nil
        exact AllReadyH.nil
        exact AllReadyH.nil
        refine cons_l (i := 10) rfl (fun K hK => ?_) ?_
        go_simp
        refine hK.out _ _ ?_ (fun hH1 => ?_)
        · (try dsimp only)
          ((repeat' (refine And.intro ?_ ?_)) <;> (first | (exact Ext.cell (w := wB) (by (repeat' (first | (with_reducible exact Ext.refl _) | (with_reducible assumption) | (with_reducible refine Ext.alloc ?_ _) | (with_reducible refine Ext.drewN ?_ _) | (with_reducible refine Ext.drew ?_) | (with_reducible refine Ext.setCell ?_ ?_ _) | (with_reducible exact Nat.le_refl _) | (with_reducible exact Nat.le_succ _) | (with_reducible refine Ext.trans ?_ (by assumption)) | (simp; done) | (simp; omega)))) x0) | (exact Ext.cell (w := wB) (by (repeat' (first | (with_reducible exact Ext.refl _) | (with_reducible assumption) | (with_reducible refine Ext.alloc ?_ _) | (with_reducible refine Ext.drewN ?_ _) | (with_reducible refine Ext.drew ?_) | (with_reducible refine Ext.setCell ?_ ?_ _) | (with_reducible exact Nat.le_refl _) | (with_reducible exact Nat.le_succ _) | (with_reducible refine Ext.trans ?_ (by assumption)) | (simp; done) | (simp; omega)))) x1) | (exact Ext.cell (w := wB) (by (repeat' (first | (with_reducible exact Ext.refl _) | (with_reducible assumption) | (with_reducible refine Ext.alloc ?_ _) | (with_reducible refine Ext.drewN ?_ _) | (with_reducible refine Ext.drew ?_) | (with_reducible refine Ext.setCell ?_ ?_ _) | (with_reducible exact Nat.le_refl _) | (with_reducible exact Nat.le_succ _) | (with_reducible refine Ext.trans ?_ (by assumption)) | (simp; done) | (simp; omega)))) y0) | (exact Ext.cell (w := wB) (by (repeat' (first | (with_reducible exact Ext.refl _) | (with_reducible assumption) | (with_reducible refine Ext.alloc ?_ _) | (with_reducible refine Ext.drewN ?_ _) | (with_reducible refine Ext.drew ?_) | (with_reducible refine Ext.setCell ?_ ?_ _) | (with_reducible exact Nat.le_refl _) | (with_reducible exact Nat.le_succ _) | (with_reducible refine Ext.trans ?_ (by assumption)) | (simp; done) | (simp; omega)))) y1)))
        clear hK K hH0
        (try simp only [Act.put, List.setIfInBounds_toArray, List.set_cons_zero, List.set_cons_succ])
        refine wpAnyH_ready (rs := [9]) (by kernel_rfl) (by simp) ?_
        refine cons_l (i := 9) rfl (fun K hK => ?_) ?_
        go_simp
        refine hK.out _ _ ?_ (fun hH2 => ?_)
        · (try dsimp only)
          ((repeat' (refine And.intro ?_ ?_)) <;> (first | (exact Ext.cell (w := wB) (by (repeat' (first | (with_reducible exact Ext.refl _) | (with_reducible assumption) | (with_reducible refine Ext.alloc ?_ _) | (with_reducible refine Ext.drewN ?_ _) | (with_reducible refine Ext.drew ?_) | (with_reducible refine Ext.setCell ?_ ?_ _) | (with_reducible exact Nat.le_refl _) | (with_reducible exact Nat.le_succ _) | (with_reducible refine Ext.trans ?_ (by assumption)) | (simp; done) | (simp; omega)))) x0) | (exact Ext.cell (w := wB) (by (repeat' (first | (with_reducible exact Ext.refl _) | (with_reducible assumption) | (with_reducible refine Ext.alloc ?_ _) | (with_reducible refine Ext.drewN ?_ _) | (with_reducible refine Ext.drew ?_) | (with_reducible refine Ext.setCell ?_ ?_ _) | (with_reducible exact Nat.le_refl _) | (with_reducible exact Nat.le_succ _) | (with_reducible refine Ext.trans ?_ (by assumption)) | (simp; done) | (simp; omega)))) x1) | (exact Ext.cell (w := wB) (by (repeat' (first | (with_reducible exact Ext.refl _) | (with_reducible assumption) | (with_reducible refine Ext.alloc ?_ _) | (with_reducible refine Ext.drewN ?_ _) | (with_reducible refine Ext.drew ?_) | (with_reducible refine Ext.setCell ?_ ?_ _) | (with_reducible exact Nat.le_refl _) | (with_reducible exact Nat.le_succ _) | (with_reducible refine Ext.trans ?_ (by assumption)) | (simp; done) | (simp; omega)))) y0) | (exact Ext.cell (w := wB) (by (repeat' (first | (with_reducible exact Ext.refl _) | (with_reducible assumption) | (with_reducible refine Ext.alloc ?_ _) | (with_reducible refine Ext.drewN ?_ _) | (with_reducible refine Ext.drew ?_) | (with_reducible refine Ext.setCell ?_ ?_ _) | (with_reducible exact Nat.le_refl _) | (with_reducible exact Nat.le_succ _) | (with_reducible refine Ext.trans ?_ (by assumption)) | (simp; done) | (simp; omega)))) y1)))
        clear hK K hH1
        (try simp only [Act.put, List.setIfInBounds_toArray, List.set_cons_zero, List.set_cons_succ])
        refine wpAnyH_ready (rs := [11]) (by kernel_rfl) (by simp) ?_
        refine cons_l (i := 11) rfl (fun K hK => ?_) ?_
        go_simp
        refine hK.out _ _ ?_ (fun hH3 => ?_)
        · (try dsimp only)
          ((repeat' (refine And.intro ?_ ?_)) <;> (first | (exact Ext.cell (w := wB) (by (repeat' (first | (with_reducible exact Ext.refl _) | (with_reducible assumption) | (with_reducible refine Ext.alloc ?_ _) | (with_reducible refine Ext.drewN ?_ _) | (with_reducible refine Ext.drew ?_) | (with_reducible refine Ext.setCell ?_ ?_ _) | (with_reducible exact Nat.le_refl _) | (with_reducible exact Nat.le_succ _) | (with_reducible refine Ext.trans ?_ (by assumption)) | (simp; done) | (simp; omega)))) x0) | (exact Ext.cell (w := wB) (by (repeat' (first | (with_reducible exact Ext.refl _) | (with_reducible assumption) | (with_reducible refine Ext.alloc ?_ _) | (with_reducible refine Ext.drewN ?_ _) | (with_reducible refine Ext.drew ?_) | (with_reducible refine Ext.setCell ?_ ?_ _) | (with_reducible exact Nat.le_refl _) | (with_reducible exact Nat.le_succ _) | (with_reducible refine Ext.trans ?_ (by assumption)) | (simp; done) | (simp; omega)))) x1) | (exact Ext.cell (w := wB) (by (repeat' (first | (with_reducible exact Ext.refl _) | (with_reducible assumption) | (with_reducible refine Ext.alloc ?_ _) | (with_reducible refine Ext.drewN ?_ _) | (with_reducible refine Ext.drew ?_) | (with_reducible refine Ext.setCell ?_ ?_ _) | (with_reducible exact Nat.le_refl _) | (with_reducible exact Nat.le_succ _) | (with_reducible refine Ext.trans ?_ (by assumption)) | (simp; done) | (simp; omega)))) y0) | (exact Ext.cell (w := wB) (by (repeat' (first | (with_reducible exact Ext.refl _) | (with_reducible assumption) | (with_reducible refine Ext.alloc ?_ _) | (with_reducible refine Ext.drewN ?_ _) | (with_reducible refine Ext.drew ?_) | (with_reducible refine Ext.setCell ?_ ?_ _) | (with_reducible exact Nat.le_refl _) | (with_reducible exact Nat.le_succ _) | (with_reducible refine Ext.trans ?_ (by assumption)) | (simp; done) | (simp; omega)))) y1)))
        clear hK K hH2
        (try simp only [Act.put, List.setIfInBounds_toArray, List.set_cons_zero, List.set_cons_succ])
        refine wpAnyH_ready (rs := [12]) (by kernel_rfl) (by simp) ?_
        refine cons_l (i := 12) rfl (fun K hK => ?_) ?_
        go_simp
        refine hK.out _ _ ?_ (fun hH4 => ?_)
        · (try dsimp only)
          ((repeat' (refine And.intro ?_ ?_)) <;> (first | (exact Ext.cell (w := wB) (by (repeat' (first | (with_reducible exact Ext.refl _) | (with_reducible assumption) | (with_reducible refine Ext.alloc ?_ _) | (with_reducible refine Ext.drewN ?_ _) | (with_reducible refine Ext.drew ?_) | (with_reducible refine Ext.setCell ?_ ?_ _) | (with_reducible exact Nat.le_refl _) | (with_reducible exact Nat.le_succ _) | (with_reducible refine Ext.trans ?_ (by assumption)) | (simp; done) | (simp; omega)))) x0) | (exact Ext.cell (w := wB) (by (repeat' (first | (with_reducible exact Ext.refl _) | (with_reducible assumption) | (with_reducible refine Ext.alloc ?_ _) | (with_reducible refine Ext.drewN ?_ _) | (with_reducible refine Ext.drew ?_) | (with_reducible refine Ext.setCell ?_ ?_ _) | (with_reducible exact Nat.le_refl _) | (with_reducible exact Nat.le_succ _) | (with_reducible refine Ext.trans ?_ (by assumption)) | (simp; done) | (simp; omega)))) x1) | (exact Ext.cell (w := wB) (by (repeat' (first | (with_reducible exact Ext.refl _) | (with_reducible assumption) | (with_reducible refine Ext.alloc ?_ _) | (with_reducible refine Ext.drewN ?_ _) | (with_reducible refine Ext.drew ?_) | (with_reducible refine Ext.setCell ?_ ?_ _) | (with_reducible exact Nat.le_refl _) | (with_reducible exact Nat.le_succ _) | (with_reducible refine Ext.trans ?_ (by assumption)) | (simp; done) | (simp; omega)))) y0) | (exact Ext.cell (w := wB) (by (repeat' (first | (with_reducible exact Ext.refl _) | (with_reducible assumption) | (with_reducible refine Ext.alloc ?_ _) | (with_reducible refine Ext.drewN ?_ _) | (with_reducible refine Ext.drew ?_) | (with_reducible refine Ext.setCell ?_ ?_ _) | (with_reducible exact Nat.le_refl _) | (with_reducible exact Nat.le_succ _) | (with_reducible refine Ext.trans ?_ (by assumption)) | (simp; done) | (simp; omega)))) y1)))
        clear hK K hH3
        (try simp only [Act.put, List.setIfInBounds_toArray, List.set_cons_zero, List.set_cons_succ])
        refine wpAnyH_done (by kernel_rfl) ?_ _
        rotate_left
        exact AllReadyH.nil
        exact AllReadyH.nil
        exact AllReadyH.nil
        exact AllReadyH.nil
        · have n1 := ((RowAt.new wB 37 #[.int .i64 p1, .int .i64 p2]).ext ((Ext.refl _).alloc (.cells #[.int .i64 q1, .int .i64 q2] 37))).ext (Ext.refl _).drew
          have n2 := (RowAt.new (wB.alloc (.cells #[.int .i64 p1, .int .i64 p2] 37)) 37 #[.int .i64 q1, .int .i64 q2]).ext (Ext.refl _).drew
          rw [World.size_alloc] at n2
          have HXW := Lib.hid (show Ext w (((wB.alloc (.cells #[.int .i64 p1, .int .i64 p2] 37)).alloc (.cells #[.int .i64 q1, .int .i64 q2] 37)).drew) from ((hb1.alloc _).alloc _).drew)
          obtain ⟨W, hW⟩ : ∃ x, x = ((wB.alloc (.cells #[.int .i64 p1, .int .i64 p2] 37)).alloc (.cells #[.int .i64 q1, .int .i64 q2] 37)).drew := ⟨_, rfl⟩
          rw [← hW] at n1 n2 HXW
          (try rw [← hW])
          clear hW
          have g0 : ∀ z : Aft W, z.1.cell? ⟨wB.heap.size, 0, none⟩ = some (.int .i64 p1) := fun z => (n1.ext z.2).cell rfl
          have g1 : ∀ z : Aft W, z.1.cell? ⟨wB.heap.size, 1, none⟩ = some (.int .i64 p2) := fun z => (n1.ext z.2).cell rfl
          have g2 : ∀ z : Aft W, z.1.cell? ⟨wB.heap.size + 1, 0, none⟩ = some (.int .i64 q1) := fun z => (n2.ext z.2).cell rfl
          have g3 : ∀ z : Aft W, z.1.cell? ⟨wB.heap.size + 1, 1, none⟩ = some (.int .i64 q2) := fun z => (n2.ext z.2).cell rfl
          clear n1 n2 x0 x1 y0 y1
          go_wp2_with fail
          (refine wp_region_aft W (Ext.refl _) (by kernel_rfl) (by kernel_rfl) ?_; (repeat (go_big_quiet_step (fail))); refine wpQuiet_nil ?_; intro w2 hx2)
          go_wp2
          go_ret
          exact ⟨ret_int HR.out.symm, HXW.out.trans hx2⟩
        · have n1 := ((RowAt.new wB 37 #[.int .i64 q1, .int .i64 q2]).ext ((Ext.refl _).alloc (.cells #[.int .i64 p1, .int .i64 p2] 37))).ext (Ext.refl _).drew
          have n2 := (RowAt.new (wB.alloc (.cells #[.int .i64 q1, .int .i64 q2] 37)) 37 #[.int .i64 p1, .int .i64 p2]).ext (Ext.refl _).drew
          rw [World.size_alloc] at n2
          have HXW := Lib.hid (show Ext w (((wB.alloc (.cells #[.int .i64 q1, .int .i64 q2] 37)).alloc (.cells #[.int .i64 p1, .int .i64 p2] 37)).drew) from ((hb1.alloc _).alloc _).drew)
          obtain ⟨W, hW⟩ : ∃ x, x = ((wB.alloc (.cells #[.int .i64 q1, .int .i64 q2] 37)).alloc (.cells #[.int .i64 p1, .int .i64 p2] 37)).drew := ⟨_, rfl⟩
          rw [← hW] at n1 n2 HXW
          (try rw [← hW])
          clear hW
          have g0 : ∀ z : Aft W, z.1.cell? ⟨wB.heap.size + 1, 0, none⟩ = some (.int .i64 p1) := fun z => (n2.ext z.2).cell rfl
          have g1 : ∀ z : Aft W, z.1.cell? ⟨wB.heap.size + 1, 1, none⟩ = some (.int .i64 p2) := fun z => (n2.ext z.2).cell rfl
          have g2 : ∀ z : Aft W, z.1.cell? ⟨wB.heap.size, 0, none⟩ = some (.int .i64 q1) := fun z => (n1.ext z.2).cell rfl
          have g3 : ∀ z : Aft W, z.1.cell? ⟨wB.heap.size, 1, none⟩ = some (.int .i64 q2) := fun z => (n1.ext z.2).cell rfl
          clear n1 n2 x0 x1 y0 y1
          go_wp2_with fail
          (refine wp_region_aft W (Ext.refl _) (by kernel_rfl) (by kernel_rfl) ?_; (repeat (go_big_quiet_step (fail))); refine wpQuiet_nil ?_; intro w2 hx2)
          go_wp2
          go_ret
          exact ⟨ret_int HR.out.symm, HXW.out.trans hx2⟩
end Go.Proofs.Ytmppoflgbmabpaa
/- PlaceOf on both sides. -/
namespace Go.Proofs.Ytmppoflgbmabpaa
open Go.RowKit
set_option linter.unusedSimpArgs false
set_option linter.unusedVariables false

theorem specValueAt_is (v : Int) (a : Option Addr) (n c : Nat) (ps : List Pt) (x : Int) (w : World) (hn : n = ps.length) (hs : n ≤ maxLen) (hf : FlatAt w ptCells 2 a ps) (hx : -9223372036854775808 ≤ x ∧ x ≤ 9223372036854775807) (hv : valueAt ps x = v) :
    Calls Try.prog 37 #[.slice a n c, .int .i64 x] w fun e w' => e = .returned (.int .i64 v) ∧ Ext w w' := by
  subst hv
  exact specValueAt_any a n c ps x w hn hs hf hx
theorem implValueAt_is (v : Int) (a : Option Addr) (n c : Nat) (ps : List Pt) (x : Int) (w : World) (hn : n = ps.length) (hs : n ≤ maxLen) (hf : FlatAt w ptCells 2 a ps) (hx : -9223372036854775808 ≤ x ∧ x ≤ 9223372036854775807) (hv : valueAt ps x = v) :
    Calls Try.prog 28 #[.slice a n c, .int .i64 x] w fun e w' => e = .returned (.int .i64 v) ∧ Ext w w' := by
  subst hv
  exact implValueAt_any a n c ps x w hn hs hf hx
/-- What PlaceOf answers. -/
def Placed (ps : List Pt) (y : Int) (e : Ending) : Prop :=
  if h : tableOk ps = true ∧ 0 < ps.length ∧ y ≤ (ps.getD (ps.length - 1) (0, 0)).2 then ∃ z, IsPlace ps y z ∧ e = .returned (.tuple #[.int .i64 z, .bool true]) else e = .returned (.tuple #[.int .i64 0, .bool false])
theorem Placed.no {ps : List Pt} {y : Int} {e : Ending} (h : tableOk ps = false) (he : e = .returned (.tuple #[.int .i64 0, .bool false])) : Placed ps y e := by
  unfold Placed
  rw [dif_neg (by rw [h]; simp)]
  exact he
theorem Placed.high {ps : List Pt} {y : Int} {e : Ending} (h : (ps.getD (ps.length - 1) (0, 0)).2 < y) (he : e = .returned (.tuple #[.int .i64 0, .bool false])) : Placed ps y e := by
  unfold Placed
  rw [dif_neg (by omega)]
  exact he
theorem Placed.yes {ps : List Pt} {y z : Int} {e : Ending} (h : tableOk ps = true) (h0 : 0 < ps.length) (h2 : y ≤ (ps.getD (ps.length - 1) (0, 0)).2) (hz : IsPlace ps y z) (he : e = .returned (.tuple #[.int .i64 z, .bool true])) : Placed ps y e := by
  unfold Placed
  rw [dif_pos ⟨h, h0, h2⟩]
  exact ⟨z, hz, he⟩
theorem getD_last {ps : List Pt} (h : 0 < ps.length) : ps.getD (ps.length - 1) (0, 0) = ps[ps.length - 1] := by
  rw [List.getD_eq_getElem?_getD, List.getElem?_eq_getElem (by omega)]; rfl

set_option maxRecDepth 100000 in
set_option maxHeartbeats 1000000 in
theorem implPlaceOf_any (a : Option Addr) (n c : Nat) (ps : List Pt) (y : Int) (w : World) (hn : n = ps.length) (hs : n ≤ maxLen) (hf : FlatAt w ptCells 2 a ps) :
    Calls Try.prog 33 #[.slice a n c, .int .i64 y] w fun e w' => Placed ps y e ∧ Ext w w' := by
  have HF := Lib.hid hf; clear hf
  have HS := Lib.hid hs
  unfold maxLen at hs
  obtain ⟨ok, hok⟩ : ∃ ok, tableOk ps = ok := ⟨_, rfl⟩
  have HOK := Lib.hid hok
  cases ok
  · have HN := Lib.hid hn
    clear hok hn
    go_enter Try.func33, Try.ntmps33
    go_wp2_with (go_at_call 51; with_reducible refine (implTableOk_is _ _ _ _ ps _ HN.out HS.out HF.out HOK.out).mono ?_; rintro e w1 ⟨rfl, hb1⟩)
    refine bodyPost_ret (v := .tuple #[.int .i64 0, .bool false]) (by simp [results, Try.results33, go_sem, *]) rfl ⟨Placed.no HOK.out rfl, by (repeat' (first | (with_reducible exact Ext.refl _) | (with_reducible assumption) | (with_reducible refine Ext.alloc ?_ _) | (with_reducible refine Ext.drewN ?_ _) | (with_reducible refine Ext.drew ?_) | (with_reducible refine Ext.setCell ?_ ?_ _) | (with_reducible exact Nat.le_refl _) | (with_reducible exact Nat.le_succ _) | (with_reducible refine Ext.trans ?_ (by assumption)) | (simp; done) | (simp; omega)))⟩
  obtain ⟨htab, hl2, hl20⟩ := tab_of hok
  have hlen0 : 0 < ps.length := by omega
  have hlenl : ps.length - 1 < ps.length := by omega
  have hvl := valueAt_last hok (ps.length - 1) (by omega)
  rw [← hn] at hl2 hl20
  have hfirst := htab.get 0 hlen0
  have hlast := htab.get (ps.length - 1) hlenl
  have hfl := Tab.head_le ps htab (ps.length - 1) hlenl hlen0
  obtain ⟨b, off, rfl, hc0⟩ := HF.out.get 0 hlen0
  obtain ⟨b', off', e', hcl⟩ := HF.out.get (ps.length - 1) hlenl
  cases e'
  obtain ⟨f1, f2, hf0⟩ : ∃ f1 f2, ps[0]'hlen0 = (f1, f2) := ⟨_, _, rfl⟩
  obtain ⟨l1, l2, hll⟩ : ∃ l1 l2, ps[ps.length - 1]'hlenl = (l1, l2) := ⟨_, _, rfl⟩
  have HF0 := Lib.hid hf0
  have HFL := Lib.hid hll
  rw [hf0] at hc0 hfirst hfl
  rw [hll] at hcl hlast hfl hvl
  have HG := Lib.hid (getD_last hlen0)
  rw [hll] at HG
  dsimp only at hfirst hlast hfl hvl
  have HVL := Lib.hid hvl
  have HPL := Lib.hid (fun (z : Int) (h1 : f1 ≤ z) (h2 : z ≤ l1) (h3 : y ≤ valueAt ps z) (h4 : z = f1 ∨ valueAt ps (z - 1) < y) => (⟨hlen0, by rw [hf0]; exact h1, by rw [hll]; exact h2, h3, by rw [hf0]; exact h4⟩ : IsPlace ps y z))
  clear hf0 hll hok htab hvl
  obtain ⟨m, rfl⟩ : ∃ m, n = m + 1 := ⟨n - 1, by omega⟩
  have e0 : ∀ w', Ext w w' → w'.cell? ⟨b, off, none⟩ = some (.int .i64 f1) := by simpa using hc0 0 _ rfl
  rw [show ps.length - 1 = m by omega] at hcl
  have e2 : ∀ w', Ext w w' → w'.cell? ⟨b, off + m * 2, none⟩ = some (.int .i64 l1) := hcl 0 _ rfl
  have e3 : ∀ w', Ext w w' → w'.cell? ⟨b, off + m * 2 + 1, none⟩ = some (.int .i64 l2) := hcl 1 _ rfl
  have HN := Lib.hid hn
  have HL0 := Lib.hid hlen0
  clear hn hc0 hcl
  by_cases c1 : l2 < y
  · go_enter Try.func33, Try.ntmps33
    go_wp2_with (go_at_call 51; with_reducible refine (implTableOk_is _ _ _ _ ps _ HN.out HS.out HF.out HOK.out).mono ?_; rintro e w1 ⟨rfl, hb1⟩)
    refine bodyPost_ret (v := .tuple #[.int .i64 0, .bool false]) (by simp [results, Try.results33, go_sem, *]) rfl ⟨Placed.high (by rw [HG.out]; exact c1) rfl, by (repeat' (first | (with_reducible exact Ext.refl _) | (with_reducible assumption) | (with_reducible refine Ext.alloc ?_ _) | (with_reducible refine Ext.drewN ?_ _) | (with_reducible refine Ext.drew ?_) | (with_reducible refine Ext.setCell ?_ ?_ _) | (with_reducible exact Nat.le_refl _) | (with_reducible exact Nat.le_succ _) | (with_reducible refine Ext.trans ?_ (by assumption)) | (simp; done) | (simp; omega)))⟩
  · have d1 : decide (l2 < y) = false := by simp; omega
    go_enter Try.func33, Try.ntmps33
    go_wp2_with fail
    refine (implTableOk_is _ _ _ _ ps _ HN.out HS.out HF.out HOK.out).mono ?_
    rintro e w1 ⟨rfl, hb1⟩
    have g0 : ∀ z : Aft w1, z.1.cell? ⟨b, off, none⟩ = some (.int .i64 f1) := fun z => e0 _ (hb1.trans z.2)
    have g2 : ∀ z : Aft w1, z.1.cell? ⟨b, off + m * 2, none⟩ = some (.int .i64 l1) := fun z => e2 _ (hb1.trans z.2)
    go_wp2_with fail
    (refine wp_region_aft w1 (Ext.refl _) (by kernel_rfl) (by kernel_rfl) ?_; (repeat (go_big_quiet_step (fail))); refine wpQuiet_nil ?_; intro w2 hx2)
    have HX2 := Lib.hid (hb1.trans hx2)
    clear g0 g2 e0 e2 e3 hb1 hx2
    go_wp2
    go_loopw [6, 7] (fun lv hv wr => ∃ low high : Int, lv = .int .i64 low ∧ hv = .int .i64 high ∧ f1 ≤ low ∧ low ≤ high ∧ high ≤ l1 ∧ Ext w wr ∧ Hid (y ≤ valueAt ps high) ∧ Hid (low = f1 ∨ valueAt ps (low - 1) < y)) (fun lv hv _ => (intOf hv - intOf lv).toNat)
    case atStart => exact ⟨f1, l1, rfl, rfl, Int.le_refl _, hfl, Int.le_refl _, HX2.out, by (show _ ≤ _); rw [HVL.out]; omega, .inl rfl⟩
    case round =>
      obtain ⟨low, high, rfl, rfl, hl, hlh, hh, hr, hyv, hlv⟩ := hrel
      by_cases hlt : low < high
      · obtain ⟨mid, hmid⟩ : ∃ mid, Int.tdiv (low + high) 2 = mid := ⟨_, rfl⟩
        have hme : mid = (low + high) / 2 := by rw [← hmid, Int.tdiv_eq_ediv_of_nonneg (by omega)]
        have hm1 : low ≤ mid := by omega
        have hm2 : mid < high := by omega
        obtain ⟨v, hv⟩ : ∃ v, valueAt ps mid = v := ⟨_, rfl⟩
        have HV := Lib.hid hv
        clear hv hme
        have hd2 : (low + high) / 2 = mid := by rw [← hmid, Int.tdiv_eq_ediv_of_nonneg (by omega)]
        by_cases c2 : y ≤ v
        · go_wp2_with (go_at_call 28; refine (implValueAt_is v _ _ _ ps _ _ HN.out HS.out (HF.out.ext hr) (by omega) HV.out).mono ?_; rintro e w3 ⟨rfl, hb3⟩)
          go_roundw
          case rel => exact ⟨low, mid, rfl, rfl, hl, hm1, by omega, hr.trans hb3, by (show _ ≤ _); rw [HV.out]; exact c2, hlv.out⟩
          case measure => simp [intOf]; omega
        · have d2 : decide (y ≤ v) = false := by simp; omega
          go_wp2_with (go_at_call 28; refine (implValueAt_is v _ _ _ ps _ _ HN.out HS.out (HF.out.ext hr) (by omega) HV.out).mono ?_; rintro e w3 ⟨rfl, hb3⟩)
          go_roundw
          case rel => exact ⟨mid + 1, high, rfl, rfl, by omega, by omega, hh, hr.trans hb3, hyv.out, .inr (by rw [show mid + 1 - 1 = mid by omega, HV.out]; omega)⟩
          case measure => simp [intOf]; omega
      · have hle : low = high := by omega
        have d2 : decide (low < high) = false := by simp; omega
        go_wp2
        refine bodyPost_ret (v := .tuple #[.int .i64 low, .bool true]) (by simp [results, Try.results33, go_sem, *]) rfl ⟨Placed.yes HOK.out HL0.out (by rw [HG.out]; dsimp only; omega) (HPL.out low hl (by omega) (by rw [hle]; exact hyv.out) hlv.out) rfl, hr⟩

end Go.Proofs.Ytmppoflgbmabpaa
/- ReachOk, LevelOf on both sides. -/
namespace Go.Proofs.Ytmppoflgbmabpaa
open Go.RowKit
set_option linter.unusedSimpArgs false
set_option linter.unusedVariables false

def pipeGo (s : Int) : List Int → Bool
  | [] => true
  | x :: xs => if x < 0 ∨ 1000000000 - s < x then false else pipeGo (s + x) xs
theorem sumFrom_ge : ∀ (xs : List Int) (s : Int), (∀ x ∈ xs, 0 ≤ x) → s ≤ sumFrom s xs
  | [], s, _ => Int.le_refl _
  | x :: xs, s, h => by
    have h1 := sumFrom_ge xs (s + x) (fun y hy => h y (by simp [hy]))
    have h2 := h x (by simp)
    have e : sumFrom s (x :: xs) = sumFrom (s + x) xs := rfl
    omega
theorem sumFrom_le : ∀ (xs : List Int) (s : Int), (∀ x ∈ xs, 0 ≤ x ∧ x ≤ 1000000000) → sumFrom s xs ≤ s + 1000000000 * (xs.length : Int)
  | [], s, _ => by simp [sumFrom]
  | x :: xs, s, h => by
    have h1 := sumFrom_le xs (s + x) (fun y hy => h y (by simp [hy]))
    have h2 := h x (by simp)
    have e : sumFrom s (x :: xs) = sumFrom (s + x) xs := rfl
    rw [List.length_cons]
    omega
theorem pipeGo_eq : ∀ (xs : List Int) (s : Int), 0 ≤ s → s ≤ 1000000000 → pipeGo s xs = (xs.all (fun x => inR x 0 1000000000) && decide (sumFrom s xs ≤ 1000000000))
  | [], s, h0, h1 => by simp [pipeGo, sumFrom, h1]
  | x :: xs, s, h0, h1 => by
    have e : sumFrom s (x :: xs) = sumFrom (s + x) xs := rfl
    unfold pipeGo
    rw [List.all_cons, e]
    by_cases c : x < 0 ∨ 1000000000 - s < x
    · rw [if_pos c]
      by_cases c1 : inR x 0 1000000000 = true
      · have hx := inR_true c1
        rw [c1, Bool.true_and]
        by_cases c2 : xs.all (fun x => inR x 0 1000000000) = true
        · have hg := sumFrom_ge xs (s + x) (fun y hy => (inR_true (List.all_eq_true.1 c2 y hy)).1)
          rw [decide_eq_false (by omega), Bool.and_false]
        · simp only [Bool.not_eq_true] at c2
          rw [c2, Bool.false_and]
      · simp only [Bool.not_eq_true] at c1
        rw [c1, Bool.false_and, Bool.false_and]
    · rw [if_neg c, pipeGo_eq xs (s + x) (by omega) (by omega)]
      have c1 : inR x 0 1000000000 = true := by simp [inR]; omega
      rw [c1, Bool.true_and]
theorem reachOk_no1 {ps : List Pt} {vol : Int} {xs : List Int} (h : tableOk ps = false) : false = reachOk ps vol xs := by unfold reachOk; rw [h]; rfl
theorem reachOk_no2 {ps : List Pt} {vol : Int} {xs : List Int} (h : inR vol 0 1000000000 = false) : false = reachOk ps vol xs := by unfold reachOk; rw [h]; simp
theorem reachOk_no3 {ps : List Pt} {vol : Int} {xs : List Int} (h : 12 < xs.length) : false = reachOk ps vol xs := by unfold reachOk; rw [decide_eq_false (p := xs.length ≤ 12) (by omega)]; simp
theorem reachOk_yes {ps : List Pt} {vol : Int} {xs : List Int} (h1 : tableOk ps = true) (h2 : inR vol 0 1000000000 = true) (h3 : xs.length ≤ 12) : (xs.all (fun x => inR x 0 1000000000) && decide (sumFrom vol xs ≤ 1000000000)) = reachOk ps vol xs := by
  unfold reachOk
  rw [h1, h2, decide_eq_true h3]
  rfl

set_option maxRecDepth 100000 in
set_option maxHeartbeats 1000000 in
theorem implReachOk_any (ta pa : Option Addr) (tn tc pn pc : Nat) (vol : Int) (ps : List Pt) (xs : List Int) (w : World) (ht : tn = ps.length) (hts : tn ≤ maxLen) (hp : pn = xs.length) (hps : pn ≤ maxLen) (hft : FlatAt w ptCells 2 ta ps) (hfp : IntsAt w pa xs) (hvol : -9223372036854775808 ≤ vol ∧ vol ≤ 9223372036854775807) :
    Calls Try.prog 29 #[.agg #[.slice ta tn tc, .int .i64 vol, .slice pa pn pc]] w fun e w' => e = .returned (.bool (reachOk ps vol xs)) ∧ Ext w w' := by
  have HFT := Lib.hid hft; clear hft
  have HFP := Lib.hid hfp; clear hfp
  have HT := Lib.hid ht; clear ht
  have HTS := Lib.hid hts; clear hts
  have HP := Lib.hid hp; clear hp
  unfold maxLen at hps
  have hB := RowAt.new w 33 #[.slice ta tn tc, .int .i64 vol, .slice pa pn pc]
  have HB := Lib.hid hB; clear hB
  have eA := (Ext.refl w).alloc (.cells #[.slice ta tn tc, .int .i64 vol, .slice pa pn pc] 33)
  have HEA := Lib.hid eA; clear eA
  obtain ⟨b1, hb1⟩ : ∃ b, tableOk ps = b := ⟨_, rfl⟩
  have H1 := Lib.hid hb1; clear hb1
  cases b1
  · go_enter Try.func29, Try.ntmps29
    go_wp2_with (go_at_call 51; with_reducible refine (implTableOk_is _ _ _ _ ps _ HT.out HTS.out (HFT.out.ext HEA.out) H1.out).mono ?_; rintro e w1 ⟨rfl, hx1⟩)
    go_ret
    exact ⟨ret_bool (reachOk_no1 H1.out), HEA.out.trans hx1⟩
  obtain ⟨b2, hb2⟩ : ∃ b, inR vol 0 1000000000 = b := ⟨_, rfl⟩
  have H2 := Lib.hid hb2
  cases b2
  · go_enter Try.func29, Try.ntmps29
    go_wp2_with fail
    refine (implTableOk_is _ _ _ _ ps _ HT.out HTS.out (HFT.out.ext HEA.out) H1.out).mono ?_
    rintro e w1 ⟨rfl, hx1⟩
    have t1 : w1.cell? ⟨w.heap.size, 1, none⟩ = some (.int .i64 vol) := (HB.out.ext hx1).cell rfl
    go_wp2_with ((go_at_call 26; refine (inRange_any _ _ _ _).mono ?_; rintro e w' ⟨rfl, rfl⟩))
    go_ret
    exact ⟨ret_bool (reachOk_no2 H2.out), HEA.out.trans hx1⟩
  have hvb := inR_true hb2
  by_cases h12 : 12 < pn
  · go_enter Try.func29, Try.ntmps29
    go_wp2_with fail
    refine (implTableOk_is _ _ _ _ ps _ HT.out HTS.out (HFT.out.ext HEA.out) H1.out).mono ?_
    rintro e w1 ⟨rfl, hx1⟩
    have t1 : w1.cell? ⟨w.heap.size, 1, none⟩ = some (.int .i64 vol) := (HB.out.ext hx1).cell rfl
    have t2 : w1.cell? ⟨w.heap.size, 2, none⟩ = some (.slice pa pn pc) := (HB.out.ext hx1).cell rfl
    go_wp2_with ((go_at_call 26; refine (inRange_any _ _ _ _).mono ?_; rintro e w' ⟨rfl, rfl⟩))
    go_ret
    exact ⟨ret_bool (reachOk_no3 (by rw [← HP.out]; exact h12)), HEA.out.trans hx1⟩
  · have h12' : pn ≤ 12 := by omega
    have HY := Lib.hid (reachOk_yes (xs := xs) H1.out H2.out (by rw [← HP.out]; exact h12'))
    rw [← pipeGo_eq xs vol hvb.1 hvb.2] at HY
    go_enter Try.func29, Try.ntmps29
    go_wp2_with fail
    refine (implTableOk_is _ _ _ _ ps _ HT.out HTS.out (HFT.out.ext HEA.out) H1.out).mono ?_
    rintro e w1 ⟨rfl, hx1⟩
    have t1 : w1.cell? ⟨w.heap.size, 1, none⟩ = some (.int .i64 vol) := (HB.out.ext hx1).cell rfl
    have t2 : w1.cell? ⟨w.heap.size, 2, none⟩ = some (.slice pa pn pc) := (HB.out.ext hx1).cell rfl
    have HF1 := Lib.hid (HFP.out.ext (HEA.out.trans hx1))
    have HX1 := Lib.hid (HEA.out.trans hx1)
    clear hx1
    go_wp2_with ((go_at_call 26; refine (inRange_any _ _ _ _).mono ?_; rintro e w' ⟨rfl, rfl⟩))
    go_loop [3, 28] (fun l i => ∃ (k : Nat) (s : Int), k ≤ pn ∧ i = .int .i64 k ∧ l = .int .i64 (1000000000 - s) ∧ 0 ≤ s ∧ s ≤ 1000000000 ∧ Hid (pipeGo vol xs = pipeGo s (xs.drop k))) (fun _ i => pn - (intOf i).toNat)
    case atStart => exact ⟨0, vol, Nat.zero_le _, rfl, rfl, hvb.1, hvb.2, rfl⟩
    case round =>
      obtain ⟨k, s, hk, rfl, rfl, hs0, hs1, hgo⟩ := hrel
      by_cases hlt : k < pn
      · have hlt' : k < xs.length := by rw [← HP.out]; exact hlt
        obtain ⟨b, off, rfl, hc⟩ := HF1.out k hlt'
        have HD := Lib.hid (show pipeGo vol xs = pipeGo s (xs[k] :: xs.drop (k + 1)) by rw [hgo.out, List.drop_eq_getElem_cons hlt'])
        obtain ⟨x, hx⟩ : ∃ x, xs[k] = x := ⟨_, rfl⟩
        rw [hx] at hc HD
        clear hx hgo
        rcases (by omega : x < 0 ∨ (0 ≤ x ∧ 1000000000 - s < x) ∨ (0 ≤ x ∧ x ≤ 1000000000 - s)) with c | ⟨c, c2⟩ | ⟨c, c2⟩
        · have hF := Lib.hid (show pipeGo vol xs = false by rw [HD.out, pipeGo, if_pos (.inl c)])
          go_wp2
          go_ret
          exact ⟨ret_bool (by rw [← HY.out, hF.out]), HX1.out⟩
        · have hF := Lib.hid (show pipeGo vol xs = false by rw [HD.out, pipeGo, if_pos (.inr c2)])
          have d1 : decide (x < 0) = false := by simp; omega
          go_wp2
          go_ret
          exact ⟨ret_bool (by rw [← HY.out, hF.out]), HX1.out⟩
        · have hF := Lib.hid (show pipeGo vol xs = pipeGo (s + x) (xs.drop (k + 1)) by rw [HD.out, pipeGo, if_neg (by omega)])
          have d1 : decide (x < 0) = false := by simp; omega
          have d2 : decide (1000000000 - s < x) = false := by simp; omega
          go_wp2
          go_round
          case rel => exact ⟨k + 1, s + x, by omega, by go_num, by go_num, by omega, by omega, hF.out⟩
          case measure => simp [intOf]; omega
      · have hF := Lib.hid (show pipeGo vol xs = true by rw [hgo.out, List.drop_eq_nil_of_le (by rw [← HP.out]; omega)]; rfl)
        go_wp2
        go_ret
        exact ⟨ret_bool (by rw [← HY.out, hF.out]), HX1.out⟩

set_option maxHeartbeats 1000000 in
theorem sumOf_any (ta pa : Option Addr) (tn tc pn pc : Nat) (vol S : Int) (xs : List Int) (w : World) (hp : pn = xs.length) (hps : pn ≤ 12) (hfp : IntsAt w pa xs) (hvol : 0 ≤ vol ∧ vol ≤ 1000000000) (hxs : ∀ x ∈ xs, 0 ≤ x ∧ x ≤ 1000000000) (hS : sumFrom vol xs = S) :
    Calls Try.prog 54 #[.agg #[.slice ta tn tc, .int .i64 vol, .slice pa pn pc]] w fun e w' => e = .returned (.int .i64 S) ∧ Ext w w' := by
  have HFP := Lib.hid (hfp.ext ((Ext.refl w).alloc (.cells #[.slice ta tn tc, .int .i64 vol, .slice pa pn pc] 33))); clear hfp
  have HP := Lib.hid hp; clear hp
  have HXS := Lib.hid hxs; clear hxs
  have HS := Lib.hid hS; clear hS
  go_enter Try.func54, Try.ntmps54
  go_wp2
  go_loop [3, 4] (fun l i => ∃ (k : Nat) (s : Int), k ≤ pn ∧ i = .int .i64 k ∧ l = .int .i64 s ∧ 0 ≤ s ∧ s ≤ 1000000000 * ((k : Int) + 1) ∧ Hid (S = sumFrom s (xs.drop k))) (fun _ i => pn - (intOf i).toNat)
  case atStart => exact ⟨0, vol, Nat.zero_le _, rfl, rfl, hvol.1, by omega, HS.out.symm⟩
  case round =>
    obtain ⟨k, s, hk, rfl, rfl, hs0, hs1, hgo⟩ := hrel
    by_cases hlt : k < pn
    · have hlt' : k < xs.length := by rw [← HP.out]; exact hlt
      obtain ⟨b, off, rfl, hc⟩ := HFP.out k hlt'
      have HD := Lib.hid (show S = sumFrom s (xs[k] :: xs.drop (k + 1)) by rw [hgo.out, List.drop_eq_getElem_cons hlt'])
      have hxb := HXS.out xs[k] (List.getElem_mem _)
      obtain ⟨x, hx⟩ : ∃ x, xs[k] = x := ⟨_, rfl⟩
      rw [hx] at hc HD hxb
      clear hx hgo
      go_wp2
      go_round
      case rel => exact ⟨k + 1, s + x, by omega, by go_num, rfl, by omega, by omega, HD.out⟩
      case measure => simp [intOf]; omega
    · have hF := Lib.hid (show S = s by rw [hgo.out, List.drop_eq_nil_of_le (by rw [← HP.out]; omega)]; rfl)
      go_wp2
      go_ret
      exact ⟨ret_int hF.out.symm, by (repeat' (first | (with_reducible exact Ext.refl _) | (with_reducible assumption) | (with_reducible refine Ext.alloc ?_ _) | (with_reducible refine Ext.drewN ?_ _) | (with_reducible refine Ext.drew ?_) | (with_reducible refine Ext.setCell ?_ ?_ _) | (with_reducible exact Nat.le_refl _) | (with_reducible exact Nat.le_succ _) | (with_reducible refine Ext.trans ?_ (by assumption)) | (simp; done) | (simp; omega)))⟩

set_option maxRecDepth 100000 in
set_option maxHeartbeats 1000000 in
theorem specReachOk_any (ta pa : Option Addr) (tn tc pn pc : Nat) (vol : Int) (ps : List Pt) (xs : List Int) (w : World) (ht : tn = ps.length) (hts : tn ≤ maxLen) (hp : pn = xs.length) (hps : pn ≤ maxLen) (hft : FlatAt w ptCells 2 ta ps) (hfp : IntsAt w pa xs) (hvol : -9223372036854775808 ≤ vol ∧ vol ≤ 9223372036854775807) :
    Calls Try.prog 38 #[.agg #[.slice ta tn tc, .int .i64 vol, .slice pa pn pc]] w fun e w' => e = .returned (.bool (reachOk ps vol xs)) ∧ Ext w w' := by
  have HFT := Lib.hid hft; clear hft
  have HFP := Lib.hid hfp; clear hfp
  have HT := Lib.hid ht; clear ht
  have HTS := Lib.hid hts; clear hts
  have HP := Lib.hid hp; clear hp
  unfold maxLen at hps
  have hB := RowAt.new w 33 #[.slice ta tn tc, .int .i64 vol, .slice pa pn pc]
  have HB := Lib.hid hB; clear hB
  have eA := (Ext.refl w).alloc (.cells #[.slice ta tn tc, .int .i64 vol, .slice pa pn pc] 33)
  have HEA := Lib.hid eA; clear eA
  obtain ⟨b1, hb1⟩ : ∃ b, tableOk ps = b := ⟨_, rfl⟩
  have H1 := Lib.hid hb1; clear hb1
  cases b1
  · go_enter Try.func38, Try.ntmps38
    go_wp2_with (go_at_call 53; with_reducible refine (specTableOk_is _ _ _ _ ps _ HT.out HTS.out (HFT.out.ext HEA.out) H1.out).mono ?_; rintro e w1 ⟨rfl, hx1⟩)
    go_ret
    exact ⟨ret_bool (reachOk_no1 H1.out), HEA.out.trans hx1⟩
  obtain ⟨b2, hb2⟩ : ∃ b, inR vol 0 1000000000 = b := ⟨_, rfl⟩
  have H2 := Lib.hid hb2
  cases b2
  · go_enter Try.func38, Try.ntmps38
    go_wp2_with fail
    refine (specTableOk_is _ _ _ _ ps _ HT.out HTS.out (HFT.out.ext HEA.out) H1.out).mono ?_
    rintro e w1 ⟨rfl, hx1⟩
    have t1 : w1.cell? ⟨w.heap.size, 1, none⟩ = some (.int .i64 vol) := (HB.out.ext hx1).cell rfl
    go_wp2_with ((go_at_call 36; refine (l01In_any _ _ _ _).mono ?_; rintro e w' ⟨rfl, rfl⟩))
    go_ret
    exact ⟨ret_bool (reachOk_no2 H2.out), HEA.out.trans hx1⟩
  have hvb := inR_true hb2
  by_cases h12 : 12 < pn
  · go_enter Try.func38, Try.ntmps38
    go_wp2_with fail
    refine (specTableOk_is _ _ _ _ ps _ HT.out HTS.out (HFT.out.ext HEA.out) H1.out).mono ?_
    rintro e w1 ⟨rfl, hx1⟩
    have t1 : w1.cell? ⟨w.heap.size, 1, none⟩ = some (.int .i64 vol) := (HB.out.ext hx1).cell rfl
    have t2 : w1.cell? ⟨w.heap.size, 2, none⟩ = some (.slice pa pn pc) := (HB.out.ext hx1).cell rfl
    go_wp2_with ((go_at_call 36; refine (l01In_any _ _ _ _).mono ?_; rintro e w' ⟨rfl, rfl⟩))
    go_ret
    exact ⟨ret_bool (reachOk_no3 (by rw [← HP.out]; exact h12)), HEA.out.trans hx1⟩
  · have h12' : pn ≤ 12 := by omega
    have HY := Lib.hid (reachOk_yes (xs := xs) H1.out H2.out (by rw [← HP.out]; exact h12'))
    go_enter Try.func38, Try.ntmps38
    go_wp2_with fail
    refine (specTableOk_is _ _ _ _ ps _ HT.out HTS.out (HFT.out.ext HEA.out) H1.out).mono ?_
    rintro e w1 ⟨rfl, hx1⟩
    have t0 : w1.cell? ⟨w.heap.size, 0, none⟩ = some (.slice ta tn tc) := (HB.out.ext hx1).cell rfl
    have t1 : w1.cell? ⟨w.heap.size, 1, none⟩ = some (.int .i64 vol) := (HB.out.ext hx1).cell rfl
    have t2 : w1.cell? ⟨w.heap.size, 2, none⟩ = some (.slice pa pn pc) := (HB.out.ext hx1).cell rfl
    have HF1 := Lib.hid (HFP.out.ext (HEA.out.trans hx1))
    have HX1 := Lib.hid (HEA.out.trans hx1)
    clear hx1
    go_wp2_with ((go_at_call 36; refine (l01In_any _ _ _ _).mono ?_; rintro e w' ⟨rfl, rfl⟩))
    go_loop [3] (fun i => ∃ (k : Nat), k ≤ pn ∧ i = .int .i64 k ∧ Hid (xs.all (fun x => inR x 0 1000000000) = (xs.drop k).all (fun x => inR x 0 1000000000))) (fun i => pn - (intOf i).toNat)
    case atStart => exact ⟨0, Nat.zero_le _, rfl, rfl⟩
    case round =>
      obtain ⟨k, hk, rfl, hgo⟩ := hrel
      by_cases hlt : k < pn
      · have hlt' : k < xs.length := by rw [← HP.out]; exact hlt
        obtain ⟨b, off, rfl, hc⟩ := HF1.out k hlt'
        have HD := Lib.hid (show xs.all (fun x => inR x 0 1000000000) = (inR xs[k] 0 1000000000 && (xs.drop (k + 1)).all (fun x => inR x 0 1000000000)) by rw [hgo.out, List.drop_eq_getElem_cons hlt', List.all_cons])
        obtain ⟨x, hx⟩ : ∃ x, xs[k] = x := ⟨_, rfl⟩
        rw [hx] at hc HD
        clear hx hgo
        obtain ⟨b3, hb3⟩ : ∃ b, inR x 0 1000000000 = b := ⟨_, rfl⟩
        rw [hb3] at HD
        cases b3
        · go_wp2_with ((go_at_call 36; refine (l01In_any _ _ _ _).mono ?_; rintro e w' ⟨rfl, rfl⟩))
          go_ret
          exact ⟨ret_bool (by rw [← HY.out, HD.out]; rfl), HX1.out⟩
        · go_wp2_with ((go_at_call 36; refine (l01In_any _ _ _ _).mono ?_; rintro e w' ⟨rfl, rfl⟩))
          go_round
          case rel => exact ⟨k + 1, by omega, by go_num, by (show _ = _); rw [HD.out, Bool.true_and]⟩
          case measure => simp [intOf]; omega
      · have hF := Lib.hid (show xs.all (fun x => inR x 0 1000000000) = true by rw [hgo.out, List.drop_eq_nil_of_le (by rw [← HP.out]; omega)]; rfl)
        have HXS := Lib.hid (show ∀ x ∈ xs, 0 ≤ x ∧ x ≤ 1000000000 from fun x hx => inR_true (List.all_eq_true.1 hF.out x hx))
        have hsl := sumFrom_le xs vol HXS.out
        rw [← HP.out] at hsl
        have hsg := sumFrom_ge xs vol (fun x hx => (HXS.out x hx).1)
        obtain ⟨S, hS⟩ : ∃ S, sumFrom vol xs = S := ⟨_, rfl⟩
        rw [hS] at hsl hsg
        have HSS := Lib.hid hS
        clear hS
        go_wp2_with (go_at_call 54; refine (sumOf_any _ _ _ _ _ _ _ S xs _ HP.out h12' HF1.out hvb HXS.out HSS.out).mono ?_; rintro e w2 ⟨rfl, hx2⟩)
        go_ret
        exact ⟨ret_bool (by rw [← HY.out, hF.out, HSS.out, Bool.true_and]), HX1.out.trans hx2⟩

theorem implReachOk_is (R : Bool) (ta pa : Option Addr) (tn tc pn pc : Nat) (vol : Int) (ps : List Pt) (xs : List Int) (w : World) (ht : tn = ps.length) (hts : tn ≤ maxLen) (hp : pn = xs.length) (hps : pn ≤ maxLen) (hft : FlatAt w ptCells 2 ta ps) (hfp : IntsAt w pa xs) (hvol : -9223372036854775808 ≤ vol ∧ vol ≤ 9223372036854775807) (hR : reachOk ps vol xs = R) :
    Calls Try.prog 29 #[.agg #[.slice ta tn tc, .int .i64 vol, .slice pa pn pc]] w fun e w' => e = .returned (.bool R) ∧ Ext w w' := by
  subst hR
  exact implReachOk_any ta pa tn tc pn pc vol ps xs w ht hts hp hps hft hfp hvol
theorem specReachOk_is (R : Bool) (ta pa : Option Addr) (tn tc pn pc : Nat) (vol : Int) (ps : List Pt) (xs : List Int) (w : World) (ht : tn = ps.length) (hts : tn ≤ maxLen) (hp : pn = xs.length) (hps : pn ≤ maxLen) (hft : FlatAt w ptCells 2 ta ps) (hfp : IntsAt w pa xs) (hvol : -9223372036854775808 ≤ vol ∧ vol ≤ 9223372036854775807) (hR : reachOk ps vol xs = R) :
    Calls Try.prog 38 #[.agg #[.slice ta tn tc, .int .i64 vol, .slice pa pn pc]] w fun e w' => e = .returned (.bool R) ∧ Ext w w' := by
  subst hR
  exact specReachOk_any ta pa tn tc pn pc vol ps xs w ht hts hp hps hft hfp hvol
theorem level_no {ps : List Pt} {vol : Int} {xs : List Int} (h : reachOk ps vol xs = false) : (0 : Int) = levelOf ps vol xs := IsLevel.eq (by unfold IsLevel; rw [if_neg (by rw [h]; decide)])
theorem level_last {ps : List Pt} {vol : Int} {xs : List Int} (h : reachOk ps vol xs = true) (h0 : 0 < ps.length) (h1 : (ps[ps.length - 1]).2 < vol) : (ps[ps.length - 1]).1 = levelOf ps vol xs :=
  IsLevel.eq (by unfold IsLevel; rw [if_pos h]; exact ⟨h0, by rw [if_pos h1]⟩)
theorem level_at {ps : List Pt} {vol z : Int} {xs : List Int} (h : reachOk ps vol xs = true) (h0 : 0 < ps.length) (h1 : ¬ (ps[ps.length - 1]).2 < vol) (hz : IsPlace ps vol z) : z = levelOf ps vol xs :=
  IsLevel.eq (by unfold IsLevel; rw [if_pos h]; exact ⟨h0, by rw [if_neg h1]; exact hz⟩)
theorem placed_cases {ps : List Pt} {y : Int} {e : Ending} (h : Placed ps y e) (ht : tableOk ps = true) (h0 : 0 < ps.length) : (ps[ps.length - 1].2 < y ∧ e = .returned (.tuple #[.int .i64 0, .bool false])) ∨ (¬ ps[ps.length - 1].2 < y ∧ ∃ z, IsPlace ps y z ∧ e = .returned (.tuple #[.int .i64 z, .bool true])) := by
  unfold Placed at h
  rw [getD_last h0] at h
  by_cases c : y ≤ ps[ps.length - 1].2
  · rw [dif_pos ⟨ht, h0, c⟩] at h
    exact .inr ⟨by omega, h⟩
  · rw [dif_neg (fun h => c h.2.2)] at h
    exact .inl ⟨by omega, h⟩

set_option maxRecDepth 100000 in
set_option maxHeartbeats 2000000 in
theorem implLevelOf_any (ta pa : Option Addr) (tn tc pn pc : Nat) (vol : Int) (ps : List Pt) (xs : List Int) (w : World) (ht : tn = ps.length) (hts : tn ≤ maxLen) (hp : pn = xs.length) (hps : pn ≤ maxLen) (hft : FlatAt w ptCells 2 ta ps) (hfp : IntsAt w pa xs) (hvol : -9223372036854775808 ≤ vol ∧ vol ≤ 9223372036854775807) :
    Calls Try.prog 12 #[.agg #[.slice ta tn tc, .int .i64 vol, .slice pa pn pc]] w fun e w' => e = .returned (.int .i64 (levelOf ps vol xs)) ∧ Ext w w' := by
  have HFT := Lib.hid hft; clear hft
  have HFP := Lib.hid hfp; clear hfp
  have HT := Lib.hid ht
  have HTS := Lib.hid hts
  have HP := Lib.hid hp; clear hp
  have HPS := Lib.hid hps; clear hps
  unfold maxLen at hts
  have hB := RowAt.new w 33 #[.slice ta tn tc, .int .i64 vol, .slice pa pn pc]
  have HB := Lib.hid hB; clear hB
  have eA := (Ext.refl w).alloc (.cells #[.slice ta tn tc, .int .i64 vol, .slice pa pn pc] 33)
  have HEA := Lib.hid eA; clear eA
  obtain ⟨b1, hb1⟩ : ∃ b, reachOk ps vol xs = b := ⟨_, rfl⟩
  have H1 := Lib.hid hb1
  cases b1
  · clear hb1 ht
    go_enter Try.func12, Try.ntmps12
    go_wp2_with (go_at_call 29; refine (implReachOk_is _ _ _ _ _ _ _ _ ps xs _ HT.out HTS.out HP.out HPS.out (HFT.out.ext HEA.out) (HFP.out.ext HEA.out) hvol H1.out).mono ?_; rintro e w1 ⟨rfl, hx1⟩)
    go_ret
    exact ⟨ret_int (level_no H1.out), HEA.out.trans hx1⟩
  · obtain ⟨htab, hl2, hl20⟩ := tab_of (reachOk_parts hb1).1
    have hlen0 : 0 < ps.length := by omega
    have hlenl : ps.length - 1 < ps.length := by omega
    have HL0 := Lib.hid hlen0
    have HTOK := Lib.hid (reachOk_parts hb1).1
    rw [← ht] at hl2 hl20
    obtain ⟨m, rfl⟩ : ∃ m, tn = m + 1 := ⟨tn - 1, by omega⟩
    obtain ⟨b, off, rfl, hcl⟩ := HFT.out.get (ps.length - 1) hlenl
    have hlb := htab.get (ps.length - 1) hlenl
    have HLV := Lib.hid (fun h1 => level_last hb1 hlen0 h1)
    have HLA := Lib.hid (fun (z : Int) h1 hz => level_at (z := z) hb1 hlen0 h1 hz)
    obtain ⟨l1, l2, hll⟩ : ∃ l1 l2, ps[ps.length - 1]'hlenl = (l1, l2) := ⟨_, _, rfl⟩
    rw [hll] at hcl hlb HLV HLA
    have HLL := Lib.hid hll
    rw [show ps.length - 1 = m by omega] at hcl
    have e2 : ∀ w', Ext w w' → w'.cell? ⟨b, off + m * 2, none⟩ = some (.int .i64 l1) := hcl 0 _ rfl
    clear hb1 ht hcl hll htab
    dsimp only at hlb
    go_enter Try.func12, Try.ntmps12
    go_wp2_with fail
    refine (implReachOk_is _ _ _ _ _ _ _ _ ps xs _ HT.out HTS.out HP.out HPS.out (HFT.out.ext HEA.out) (HFP.out.ext HEA.out) hvol H1.out).mono ?_
    rintro e w1 ⟨rfl, hx1⟩
    have t0 : w1.cell? ⟨w.heap.size, 0, none⟩ = some (.slice (some ⟨b, off, none⟩) (m + 1) tc) := (HB.out.ext hx1).cell rfl
    have t1 : w1.cell? ⟨w.heap.size, 1, none⟩ = some (.int .i64 vol) := (HB.out.ext hx1).cell rfl
    have HX1 := Lib.hid hx1
    clear hx1
    go_wp2_with fail
    refine (implPlaceOf_any _ _ _ ps vol _ HT.out HTS.out (HFT.out.ext (HEA.out.trans HX1.out))).mono ?_
    rintro e w2 ⟨hpl, hx2⟩
    rcases placed_cases hpl HTOK.out HL0.out with ⟨c, rfl⟩ | ⟨c, z, hz, rfl⟩
    · have t2 : w2.cell? ⟨w.heap.size, 0, none⟩ = some (.slice (some ⟨b, off, none⟩) (m + 1) tc) := (HB.out.ext (HX1.out.trans hx2)).cell rfl
      have y2 := e2 _ (HEA.out.trans (HX1.out.trans hx2))
      rw [HLL.out] at c
      go_wp2
      go_ret
      exact ⟨ret_int (HLV.out c), HEA.out.trans (HX1.out.trans hx2)⟩
    · rw [HLL.out] at c
      go_wp2
      go_ret
      exact ⟨ret_int (HLA.out z c hz), HEA.out.trans (HX1.out.trans hx2)⟩

end Go.Proofs.Ytmppoflgbmabpaa
/- Filling and draining a chamber round by round: the numbers alone. -/
namespace Go.Proofs.Ytmppoflgbmabpaa
set_option linter.unusedVariables false

/-- The level of a volume by the table (0, 0), (500, 500000). -/
def lvl (v : Int) : Int := (v + 999) / 1000
/-- Where round k of filling and draining stands: W in the chamber, v in the reach, s in its pipe; q = W / A, L = the level. -/
def StandQ (A R B T W v s k q L : Int) : Prop :=
  0 ≤ W ∧ 0 ≤ s ∧ W + v + s = T ∧
    ((L - 1 ≤ B + q ∧ B + q ≤ L + 1 ∧ s ≤ 3000 + 100 * k) ∨
     (L - 5 ≤ B + q ∧ B + q ≤ L + 5 ∧ 1000 < R ∧ s ≤ 3000 + 100 * k ∧ k ≤ 150) ∨
     (B + q < L ∧ s = 0 ∧ A * (L - B) - W ≤ R * (145 - k) ∧ k ≤ 145) ∨
     (L < B + q ∧ s + W ≤ 3000 ∧ W - A * (L - B) ≤ R * (61 - k) ∧ k ≤ 61))
def Stand (A R B T W v s k : Int) : Prop := StandQ A R B T W v s k (W / A) (lvl v)
theorem div_facts {A W : Int} (hA : 1 ≤ A) : A * (W / A) ≤ W ∧ W < A * (W / A) + A := by
  have h1 := Int.mul_ediv_add_emod W A
  have h2 := Int.emod_nonneg W (by omega : A ≠ 0)
  have h3 := Int.emod_lt_of_pos W (by omega : 0 < A)
  omega
theorem mul_mono {A x y : Int} (hA : 0 ≤ A) (h : x ≤ y) : A * x ≤ A * y := Int.mul_le_mul_of_nonneg_left h hA
theorem q_le {A W m : Int} (hA : 1 ≤ A) (h : W < A * m + A) : W / A ≤ m := by
  have h1 := (div_facts (W := W) hA).1
  by_cases hc : W / A ≤ m
  · exact hc
  · have := mul_mono (A := A) (x := m + 1) (y := W / A) (by omega) (by omega)
    rw [Int.mul_add, Int.mul_one] at this
    omega
theorem le_q {A W m : Int} (hA : 1 ≤ A) (h : A * m ≤ W) : m ≤ W / A := by
  have h1 := (div_facts (W := W) hA).2
  by_cases hc : m ≤ W / A
  · exact hc
  · have := mul_mono (A := A) (x := W / A + 1) (y := m) (by omega) (by omega)
    rw [Int.mul_add, Int.mul_one] at this
    omega
/-- The bounds of what stands. -/
theorem stand_bounds {A R B T W v s k : Int} (hA : 1 ≤ A ∧ A ≤ 20) (hR : R = 50 ∨ R = 500 ∨ R = 5000) (hB : 0 ≤ B ∧ B ≤ 29) (hT : 100000 ≤ T ∧ T ≤ 358000) (hk : 0 ≤ k ∧ k ≤ 200) (h : Stand A R B T W v s k) : 0 ≤ W ∧ W ≤ 8000 ∧ 50000 ≤ v ∧ v ≤ 358000 ∧ 0 ≤ s ∧ s ≤ 40000 ∧ W + v + s = T := by
  unfold Stand StandQ at h
  obtain ⟨h1, h2, h3, h4⟩ := h
  obtain ⟨hd1, hd2⟩ := div_facts (W := W) hA.1
  have hL : lvl v ≤ 358 := by unfold lvl; omega
  have hw : W / A ≤ 364 ∨ W ≤ 3000 := by
    rcases h4 with h4 | h4 | h4 | h4
    · left; omega
    · left; omega
    · left; omega
    · right; omega
  have hW : W ≤ 8000 := by
    rcases hw with hw | hw
    · have e1 := mul_mono (A := A) (x := W / A) (y := 364) (by omega) hw
      omega
    · omega
  have hs : s ≤ 23000 := by rcases h4 with h4 | h4 | h4 | h4 <;> omega
  omega
theorem lvl_sub {v d j : Int} (h0 : 0 ≤ d) (h1 : d ≤ 1000 * j) : lvl v - j ≤ lvl (v - d) ∧ lvl (v - d) ≤ lvl v := by unfold lvl; omega
theorem lvl_add {v d j : Int} (h0 : 0 ≤ d) (h1 : d ≤ 1000 * j) : lvl v ≤ lvl (v + d) ∧ lvl (v + d) ≤ lvl v + j := by unfold lvl; omega

/-- One round of filling. -/
theorem stand_fill {A R B T W v s k tk : Int} (hA : 1 ≤ A ∧ A ≤ 20) (hR : R = 50 ∨ R = 500 ∨ R = 5000) (hB : 0 ≤ B ∧ B ≤ 29) (hT : 100000 ≤ T ∧ T ≤ 358000) (hk : 0 ≤ k ∧ k < 200) (h : Stand A R B T W v s k)
    (hlt : B + W / A < lvl v) (htk : tk = min (min (A * (lvl v - (B + W / A))) R) v) : Stand A R B T (W + tk) (v - tk) s (k + 1) ∧ 0 ≤ tk ∧ tk ≤ R ∧ tk ≤ v := by
  obtain ⟨b1, b2, b3, b4, b5, b6, b7⟩ := stand_bounds hA hR hB hT ⟨hk.1, by omega⟩ h
  unfold Stand StandQ at *
  obtain ⟨h1, h2, h3, h4⟩ := h
  obtain ⟨hd1, hd2⟩ := div_facts (W := W) hA.1
  obtain ⟨q, hq⟩ : ∃ q, W / A = q := ⟨_, rfl⟩
  obtain ⟨L, hL⟩ : ∃ L, lvl v = L := ⟨_, rfl⟩
  obtain ⟨D, hD⟩ : ∃ D, A * (L - (B + q)) = D := ⟨_, rfl⟩
  obtain ⟨M, hM⟩ : ∃ M, A * (L - B) = M := ⟨_, rfl⟩
  rw [hq] at hd1 hd2 hlt h4 htk
  rw [hL] at hlt h4 htk
  rw [hD] at htk
  rw [hM] at h4
  have e1 : D = M - A * q := by rw [← hD, ← hM, ← Int.mul_sub]; congr 1; omega
  have e2 : A ≤ D := by have := mul_mono (A := A) (x := 1) (y := L - (B + q)) (by omega) (by omega); omega
  have e3 : tk = if D ≤ R then D else R := by rw [htk]; split <;> omega
  clear htk
  by_cases hc : D ≤ R
  · rw [if_pos hc] at e3
    subst e3
    have c1 : (W + tk) / A = L - B := by
      apply Int.le_antisymm
      · exact q_le hA.1 (by rw [hM]; omega)
      · exact le_q hA.1 (by rw [hM]; omega)
    obtain ⟨l1, l2⟩ := lvl_sub (v := v) (d := tk) (j := 5) (by omega) (by omega)
    rw [c1]
    rw [hL] at l1 l2
    have l3 : tk ≤ 1000 → L - 1 ≤ lvl (v - tk) := fun h => by have := (lvl_sub (v := v) (d := tk) (j := 1) (by omega) (by omega)).1; omega
    have d5 : L - (B + q) ≤ 5 → tk ≤ 100 := fun h => by
      have := mul_mono (A := A) (x := L - (B + q)) (y := 5) (by omega) h
      omega
    obtain ⟨L', hL'⟩ : ∃ L', lvl (v - tk) = L' := ⟨_, rfl⟩
    rw [hL'] at l1 l2 l3 ⊢
    refine ⟨⟨by omega, h2, by omega, ?_⟩, by omega, by omega, by omega⟩
    rcases h4 with h4 | h4 | h4 | h4
    · left; have := d5 (by omega); have := l3 (by omega); omega
    · left; have := d5 (by omega); have := l3 (by omega); omega
    · by_cases ht : tk ≤ 1000
      · left; have := l3 ht; omega
      · right; left; omega
    · omega
  · rw [if_neg hc] at e3
    subst e3
    obtain ⟨l1, l2⟩ := lvl_sub (v := v) (d := tk) (j := 5) (by omega) (by omega)
    rw [hL] at l1 l2
    have l3 : tk ≤ 1000 → L - 1 ≤ lvl (v - tk) := fun h => by have := (lvl_sub (v := v) (d := tk) (j := 1) (by omega) (by omega)).1; omega
    have c1 : (W + tk) / A ≤ L - B := q_le hA.1 (by rw [hM]; omega)
    have m1 := mul_mono (A := A) (x := lvl (v - tk) - B) (y := L - B) (by omega) (by omega)
    obtain ⟨L', hL'⟩ : ∃ L', lvl (v - tk) = L' := ⟨_, rfl⟩
    obtain ⟨q', hq'⟩ : ∃ q', (W + tk) / A = q' := ⟨_, rfl⟩
    have c2 : tk = 50 ∨ tk = 500 ∨ tk = 5000 := hR
    rw [hL'] at l1 l2 l3 m1 ⊢
    rw [hq'] at c1 ⊢
    rw [hM] at m1
    have d5 : L - (B + q) ≤ 5 → D ≤ 100 := fun h => by
      have := mul_mono (A := A) (x := L - (B + q)) (y := 5) (by omega) h
      omega
    have d1 : L - (B + q) ≤ 1 → D ≤ 20 := fun h => by
      have := mul_mono (A := A) (x := L - (B + q)) (y := 1) (by omega) h
      omega
    have r1 : tk * (145 - (k + 1)) = tk * (145 - k) - tk := by
      rw [show (145 : Int) - (k + 1) = (145 - k) - 1 by omega, Int.mul_sub, Int.mul_one]
    refine ⟨⟨by omega, h2, by omega, ?_⟩, by omega, by omega, by omega⟩
    rcases h4 with h4 | h4 | h4 | h4
    · have := d1 (by omega); omega
    · have := d5 (by omega); omega
    · by_cases hx : B + q' < L'
      · right; right; left
        have k145 : k < 145 := by
          by_cases hk5 : k < 145
          · exact hk5
          · have : k = 145 := by omega
            subst this
            have : tk * (145 - 145) = 0 := by simp
            omega
        rw [r1]
        omega
      · by_cases ht : tk ≤ 1000
        · left; have := l3 ht; omega
        · right; left; omega
    · omega
/-- One round of draining: what is drained comes up at once, or goes into the pipe. -/
theorem stand_drain {A R B T W v s k am : Int} (p : Bool) (hA : 1 ≤ A ∧ A ≤ 20) (hR : R = 50 ∨ R = 500 ∨ R = 5000) (hB : 0 ≤ B ∧ B ≤ 29) (hT : 100000 ≤ T ∧ T ≤ 358000) (hk : 0 ≤ k ∧ k < 200) (h : Stand A R B T W v s k)
    (hlt : lvl v < B + W / A) (ham : am = min (min (A * (B + W / A - lvl v)) R) W) : Stand A R B T (W - am) (if p then v else v + am) (if p then s + am else s) (k + 1) ∧ 0 ≤ am ∧ am ≤ R ∧ am ≤ W := by
  obtain ⟨b1, b2, b3, b4, b5, b6, b7⟩ := stand_bounds hA hR hB hT ⟨hk.1, by omega⟩ h
  unfold Stand StandQ at *
  obtain ⟨h1, h2, h3, h4⟩ := h
  obtain ⟨hd1, hd2⟩ := div_facts (W := W) hA.1
  have hl50 : 50 ≤ lvl v := by unfold lvl; omega
  obtain ⟨q, hq⟩ : ∃ q, W / A = q := ⟨_, rfl⟩
  obtain ⟨L, hL⟩ : ∃ L, lvl v = L := ⟨_, rfl⟩
  obtain ⟨D, hD⟩ : ∃ D, A * (B + q - L) = D := ⟨_, rfl⟩
  obtain ⟨M, hM⟩ : ∃ M, A * (L - B) = M := ⟨_, rfl⟩
  rw [hq] at hd1 hd2 hlt h4 ham
  rw [hL] at hlt h4 ham hl50
  rw [hD] at ham
  rw [hM] at h4
  have e1 : D = A * q - M := by rw [← hD, ← hM, ← Int.mul_sub]; congr 1; omega
  have e2 : A ≤ D := by have := mul_mono (A := A) (x := 1) (y := B + q - L) (by omega) (by omega); omega
  have e4 : 0 ≤ M := by have := mul_mono (A := A) (x := 0) (y := L - B) (by omega) (by omega); omega
  have e3 : am = if D ≤ R then D else R := by rw [ham]; split <;> omega
  clear ham
  obtain ⟨L', hL', l1, l2, l3⟩ : ∃ L', lvl (if p then v else v + am) = L' ∧ L ≤ L' ∧ L' ≤ L + 5 ∧ (am ≤ 1000 → L' ≤ L + 1) := by
    have ha0 : 0 ≤ am ∧ am ≤ 5000 := by rw [e3]; split <;> omega
    cases p
    · obtain ⟨l1, l2⟩ := lvl_add (v := v) (d := am) (j := 5) (by omega) (by omega)
      exact ⟨_, rfl, by simp; omega, by simp; omega, fun h => by have := (lvl_add (v := v) (d := am) (j := 1) (by omega) (by omega)).2; simp; omega⟩
    · exact ⟨_, rfl, by simp; omega, by simp; omega, fun _ => by simp; omega⟩
  obtain ⟨v', hv', s', hs', hvs⟩ : ∃ v', (if p then v else v + am) = v' ∧ ∃ s', (if p then s + am else s) = s' ∧ (v' = v ∧ s' = s + am ∨ v' = v + am ∧ s' = s) := by
    cases p
    · exact ⟨_, rfl, _, rfl, .inr ⟨by simp, by simp⟩⟩
    · exact ⟨_, rfl, _, rfl, .inl ⟨by simp, by simp⟩⟩
  rw [hv'] at hL' ⊢
  rw [hs', hL']
  by_cases hc : D ≤ R
  · rw [if_pos hc] at e3
    subst e3
    have c1 : (W - am) / A = L - B := by
      apply Int.le_antisymm
      · exact q_le hA.1 (by rw [hM]; omega)
      · exact le_q hA.1 (by rw [hM]; omega)
    rw [c1]
    have d5 : B + q - L ≤ 5 → am ≤ 100 := fun h => by
      have := mul_mono (A := A) (x := B + q - L) (y := 5) (by omega) h
      omega
    refine ⟨⟨by omega, by omega, by omega, ?_⟩, by omega, by omega, by omega⟩
    rcases h4 with h4 | h4 | h4 | h4
    · left; have := d5 (by omega); have := l3 (by omega); omega
    · left; have := d5 (by omega); have := l3 (by omega); omega
    · omega
    · by_cases ht : am ≤ 1000
      · left; have := l3 ht; omega
      · right; left; omega
  · rw [if_neg hc] at e3
    subst e3
    have c1 : L - B ≤ (W - am) / A := le_q hA.1 (by rw [hM]; omega)
    have c3 : (W - am) / A ≤ q := by
      have := q_le (W := W - am) (m := q) hA.1 (by omega)
      exact this
    have m1 := mul_mono (A := A) (x := L - B) (y := L' - B) (by omega) (by omega)
    obtain ⟨q', hq'⟩ : ∃ q', (W - am) / A = q' := ⟨_, rfl⟩
    have c2 : am = 50 ∨ am = 500 ∨ am = 5000 := hR
    rw [hq'] at c1 c3 ⊢
    rw [hM] at m1
    have d5 : B + q - L ≤ 5 → D ≤ 100 := fun h => by
      have := mul_mono (A := A) (x := B + q - L) (y := 5) (by omega) h
      omega
    have d1 : B + q - L ≤ 1 → D ≤ 20 := fun h => by
      have := mul_mono (A := A) (x := B + q - L) (y := 1) (by omega) h
      omega
    have r1 : am * (61 - (k + 1)) = am * (61 - k) - am := by
      rw [show (61 : Int) - (k + 1) = (61 - k) - 1 by omega, Int.mul_sub, Int.mul_one]
    refine ⟨⟨by omega, by omega, by omega, ?_⟩, by omega, by omega, by omega⟩
    rcases h4 with h4 | h4 | h4 | h4
    · have := d1 (by omega); omega
    · have := d5 (by omega); omega
    · omega
    · by_cases hx : L' < B + q'
      · right; right; right
        have k61 : k < 61 := by
          by_cases hk5 : k < 61
          · exact hk5
          · have : k = 61 := by omega
            subst this
            have : am * (61 - 61) = 0 := by simp
            omega
        rw [r1]
        omega
      · by_cases ht : am ≤ 1000
        · left; have := l3 ht; omega
        · right; left; omega
theorem stand_same {A R B T W v s k : Int} (hk : 0 ≤ k) (h : Stand A R B T W v s k) (he : B + W / A = lvl v) : Stand A R B T W v s (k + 1) := by
  unfold Stand StandQ at *
  obtain ⟨h1, h2, h3, h4⟩ := h
  refine ⟨h1, h2, h3, .inl ?_⟩
  rcases h4 with h4 | h4 | h4 | h4 <;> omega
theorem stand_start {A R B T W v : Int} (hA : 1 ≤ A ∧ A ≤ 20) (hR : R = 50 ∨ R = 500 ∨ R = 5000) (hB : 0 ≤ B ∧ B ≤ 29) (hW : 0 ≤ W ∧ W ≤ 3000) (hv : 100000 ≤ v ∧ v ≤ 355000) (hT : W + v = T) : Stand A R B T W v 0 0 := by
  unfold Stand StandQ
  refine ⟨hW.1, by omega, by omega, ?_⟩
  have hL : 100 ≤ lvl v ∧ lvl v ≤ 355 := by unfold lvl; omega
  have e4 : 0 ≤ A * (lvl v - B) := by have := mul_mono (A := A) (x := 0) (y := lvl v - B) (by omega) (by omega); omega
  have e5 : A * (lvl v - B) ≤ 7100 := by have := Int.mul_le_mul hA.2 (show lvl v - B ≤ 355 by omega) (by omega) (by omega); omega
  rcases Int.lt_trichotomy (B + W / A) (lvl v) with h | h | h
  · right; right; left; rcases hR with h | h | h <;> subst h <;> omega
  · left; omega
  · right; right; right; rcases hR with h | h | h <;> subst h <;> omega
theorem stand_end {A R B T W v s : Int} (hA : 1 ≤ A) (h : Stand A R B T W v s 200) : lvl v - 1 ≤ B + W / A ∧ B + W / A ≤ lvl v + 1 := by
  unfold Stand StandQ at h
  obtain ⟨h1, h2, h3, h4⟩ := h
  rcases h4 with h4 | h4 | h4 | h4 <;> omega

/-- Where round k of draining to the lower reach stands. -/
def Sink (A R B T W v k : Int) : Prop :=
  0 ≤ W ∧ W ≤ 8000 ∧ 40000 ≤ v ∧ v ≤ 98000 ∧ W + v = T ∧ (B + W / A ≤ lvl v ∨ (lvl v < B + W / A ∧ W - A * (lvl v - B) ≤ R * (160 - k) ∧ k ≤ 160))
theorem sink_drain {A R B T W v k am : Int} (hA : 1 ≤ A ∧ A ≤ 20) (hR : R = 50 ∨ R = 500 ∨ R = 5000) (hB : 0 ≤ B ∧ B ≤ 29) (hT : T ≤ 98000) (h : Sink A R B T W v k)
    (hlt : lvl v < B + W / A) (ham : am = min (min (A * (B + W / A - lvl v)) R) W) : Sink A R B T (W - am) (v + am) (k + 1) ∧ 0 ≤ am ∧ am ≤ R ∧ am ≤ W := by
  unfold Sink at *
  obtain ⟨h1, h2, h3, h5, h6, h4⟩ := h
  obtain ⟨hd1, hd2⟩ := div_facts (W := W) hA.1
  have hl40 : 40 ≤ lvl v := by unfold lvl; omega
  obtain ⟨q, hq⟩ : ∃ q, W / A = q := ⟨_, rfl⟩
  obtain ⟨L, hL⟩ : ∃ L, lvl v = L := ⟨_, rfl⟩
  obtain ⟨D, hD⟩ : ∃ D, A * (B + q - L) = D := ⟨_, rfl⟩
  obtain ⟨M, hM⟩ : ∃ M, A * (L - B) = M := ⟨_, rfl⟩
  rw [hq] at hd1 hd2 hlt h4 ham
  rw [hL] at hlt h4 ham hl40
  rw [hD] at ham
  rw [hM] at h4
  have e1 : D = A * q - M := by rw [← hD, ← hM, ← Int.mul_sub]; congr 1; omega
  have e2 : A ≤ D := by have := mul_mono (A := A) (x := 1) (y := B + q - L) (by omega) (by omega); omega
  have e4 : 0 ≤ M := by have := mul_mono (A := A) (x := 0) (y := L - B) (by omega) (by omega); omega
  have e3 : am = if D ≤ R then D else R := by rw [ham]; split <;> omega
  clear ham
  have ha0 : 0 ≤ am := by rw [e3]; split <;> omega
  have haW : am ≤ W := by rw [e3]; split <;> omega
  have haR : am ≤ R := by rw [e3]; split <;> omega
  have l1 : L ≤ lvl (v + am) := by unfold lvl at *; omega
  refine ⟨⟨by omega, by omega, by omega, by omega, by omega, ?_⟩, ha0, haR, haW⟩
  by_cases hc : D ≤ R
  · rw [if_pos hc] at e3
    subst e3
    have c1 : (W - am) / A ≤ L - B := q_le hA.1 (by rw [hM]; omega)
    left; omega
  · rw [if_neg hc] at e3
    subst e3
    by_cases hx : lvl (v + am) < B + (W - am) / A
    · right
      have m1 := mul_mono (A := A) (x := L - B) (y := lvl (v + am) - B) (by omega) (by omega)
      rw [hM] at m1
      have r1 : am * (160 - (k + 1)) = am * (160 - k) - am := by
        rw [show (160 : Int) - (k + 1) = (160 - k) - 1 by omega, Int.mul_sub, Int.mul_one]
      have k160 : k < 160 := by
        by_cases hk5 : k < 160
        · exact hk5
        · have : k = 160 := by omega
          subst this
          have : am * (160 - 160) = 0 := by simp
          omega
      rw [r1]
      omega
    · left; omega
theorem sink_same {A R B T W v k : Int} (h : Sink A R B T W v k) (he : ¬ lvl v < B + W / A) : Sink A R B T W v (k + 1) := by
  unfold Sink at *
  obtain ⟨h1, h2, h3, h4, h5, h6⟩ := h
  exact ⟨h1, h2, h3, h4, h5, .inl (by omega)⟩
theorem sink_start {A R B T W v b : Int} (hA : 1 ≤ A ∧ A ≤ 20) (hR : R = 50 ∨ R = 500 ∨ R = 5000) (hB : 0 ≤ B ∧ B ≤ 29) (hW : 0 ≤ W ∧ W ≤ 8000) (hv : 40000 ≤ v ∧ v ≤ 90000) (hb : b ≤ 358) (hc : B + W / A ≤ b + 1) (hT : W + v = T) : Sink A R B T W v 0 := by
  unfold Sink
  refine ⟨hW.1, hW.2, hv.1, by omega, hT, ?_⟩
  by_cases hx : B + W / A ≤ lvl v
  · exact .inl hx
  · right
    have hl40 : 40 ≤ lvl v := by unfold lvl; omega
    obtain ⟨hd1, hd2⟩ := div_facts (W := W) hA.1
    have e4 := mul_mono (A := A) (x := W / A - 320) (y := lvl v - B) (by omega) (by omega)
    have e5 := mul_mono (A := 320) (x := A) (y := 20) (by omega) (by omega)
    rw [Int.mul_sub] at e4
    have e6 : A * 320 = 320 * A := Int.mul_comm _ _
    refine ⟨by omega, ?_, by omega⟩
    rcases hR with h | h | h <;> subst h <;> omega
theorem sink_end {A R B T W v : Int} (h : Sink A R B T W v 200) : B + W / A ≤ lvl v := by
  unfold Sink at h
  obtain ⟨h1, h2, h3, h4, h5, h6⟩ := h
  rcases h6 with h6 | h6 <;> omega
end Go.Proofs.Ytmppoflgbmabpaa
/- The table of the laws about chambers: its values and its levels. -/
namespace Go.Proofs.Ytmppoflgbmabpaa
open Go.RowKit
set_option linter.unusedSimpArgs false
set_option linter.unusedVariables false

/-- The table of the laws about chambers. -/
def tabL : List Pt := [(0, 0), (500, 500000)]
theorem tabL_ok : tableOk tabL = true := by decide
theorem tabL_at {w : World} {B : Nat} (h : RowAt w B 37 #[.int .i64 0, .int .i64 0, .int .i64 500, .int .i64 500000]) : FlatAt w ptCells 2 (some ⟨B, 0, none⟩) tabL := fun k hk => by
  have : k = 0 ∨ k = 1 := by simp [tabL] at hk; omega
  rcases this with rfl | rfl
  · refine ⟨B, 0, rfl, fun j v hv => ?_⟩
    match j, hv with
    | 0, hv => cases hv; exact h.cell rfl
    | 1, hv => cases hv; exact h.cell rfl
  · refine ⟨B, 0, rfl, fun j v hv => ?_⟩
    match j, hv with
    | 0, hv => cases hv; exact h.cell rfl
    | 1, hv => cases hv; exact h.cell rfl
theorem valueAt_L {x : Int} (h0 : 0 ≤ x) (h1 : x ≤ 500) : valueAt tabL x = 1000 * x := by
  unfold valueAt
  rw [if_pos tabL_ok]
  show (if x ≤ 0 then (0 : Int) else (if (500 : Int) ≤ x then (500000 : Int) else lin x (0, 0) (500, 500000))) = _
  by_cases c : x ≤ 0
  · rw [if_pos c]; omega
  · rw [if_neg c]
    by_cases d : (500 : Int) ≤ x
    · rw [if_pos d]; omega
    · rw [if_neg d]
      show (0 : Int) + Int.tdiv ((x - 0) * (500000 - 0)) (500 - 0) = _
      rw [Int.tdiv_eq_ediv_of_nonneg (by omega)]
      omega
theorem level_L {v : Int} {xs : List Int} (h : reachOk tabL v xs = true) (hv : v ≤ 500000) : levelOf tabL v xs = lvl v := by
  obtain ⟨_, h0, _⟩ := reachOk_parts h
  refine (level_at h (by decide) (show ¬ (500000 : Int) < v by omega) ?_).symm
  have hl : 0 ≤ lvl v ∧ lvl v ≤ 500 := by unfold lvl; omega
  refine ⟨by decide, hl.1, hl.2, ?_, ?_⟩
  · rw [valueAt_L hl.1 hl.2]; unfold lvl; omega
  · by_cases c : lvl v = 0
    · exact .inl c
    · refine .inr ?_
      rw [valueAt_L (by omega) (by omega)]
      unfold lvl; omega
end Go.Proofs.Ytmppoflgbmabpaa
/- A region that comes in several ways whose ends differ by the blocks alone: one proof behind it. -/
namespace Go.Proofs.Ytmppoflgbmabpaa
open Go.RowKit
theorem wp_ways {P : Program} {c : Code} {Q : Exit → Act → World → Prop} {a : Act} {w : World} (G : Nat → Option Addr → Nat → World → Prop) (F : Nat → Option Addr → Nat → Addr → Addr → Addr → Addr → Addr → Act)
    (h : c.wp P (fun e a' w' => match e with | .normal => ∃ b p q y0 y1 y2 y3 y4, G b p q w' ∧ a' = F b p q y0 y1 y2 y3 y4 | _ => False) a w)
    (k : ∀ b p q y0 y1 y2 y3 y4 w', G b p q w' → Q .normal (F b p q y0 y1 y2 y3 y4) w') : c.wp P Q a w := by
  refine Code.wp_mono (fun e a' w' hq => ?_) h
  cases e with
  | normal =>
    obtain ⟨b, p, q, y0, y1, y2, y3, y4, hg, rfl⟩ := hq
    exact k b p q y0 y1 y2 y3 y4 w' hg
  | _ => exact hq.elim
theorem RowAt.cast {w : World} {B : Nat} {t : TypeId} {c c' : Array Value} (h : RowAt w B t c) (e : c = c') : RowAt w B t c' := e ▸ h
end Go.Proofs.Ytmppoflgbmabpaa
/- A row of cells stored into a box, cell by cell; regions with two boxes that come in several ways. -/
namespace Go.Proofs.Ytmppoflgbmabpaa
open Go.RowKit
/-- The world behind storing the values from place k of block b on. -/
def putAt (w : World) (b k : Nat) : List Value → World
  | [] => w
  | v :: vs => putAt (w.setCell ⟨b, k, none⟩ v) b (k + 1) vs
theorem put_size (b : Nat) : ∀ (vs : List Value) (w : World) (k : Nat), (putAt w b k vs).heap.size = w.heap.size
  | [], _, _ => rfl
  | v :: vs, w, k => (put_size b vs _ (k + 1)).trans (by simp [World.setCell])
theorem put_other {B b : Nat} {t : TypeId} {c : Array Value} (hb : b ≠ B) : ∀ (vs : List Value) (w : World) (k : Nat), RowAt w B t c → RowAt (putAt w b k vs) B t c
  | [], _, _, h => h
  | v :: vs, _, k, h => put_other hb vs _ (k + 1) (h.other (p := ⟨b, k, none⟩) hb v)
theorem put_ext {w0 : World} {b : Nat} (hb : w0.heap.size ≤ b) : ∀ (vs : List Value) (w : World) (k : Nat), Ext w0 w → Ext w0 (putAt w b k vs)
  | [], _, _, h => h
  | v :: vs, _, k, h => put_ext hb vs _ (k + 1) (h.setCell (p := ⟨b, k, none⟩) hb v)
def putArr (c : Array Value) (k : Nat) : List Value → Array Value
  | [] => c
  | v :: vs => putArr (c.setIfInBounds k v) (k + 1) vs
theorem put_at {b : Nat} {t : TypeId} : ∀ (vs : List Value) (w : World) (k : Nat) (c : Array Value), RowAt w b t c → RowAt (putAt w b k vs) b t (putArr c k vs)
  | [], _, _, _, h => h
  | v :: vs, _, k, _, h => put_at vs _ (k + 1) _ (h.set k v)
theorem put_kept {w : World} {b k lo hi : Nat} {vs : List Value} (hb : b < lo ∨ hi ≤ b) : ∀ (B : Nat) (t : TypeId) (c : Array Value), lo ≤ B → B < hi → RowAt w B t c → RowAt (putAt w b k vs) B t c :=
  fun B t c h1 h2 hr => put_other (by omega) vs w k hr
theorem ext_kept {w w' : World} {lo hi : Nat} (hx : Ext w w') : ∀ (B : Nat) (t : TypeId) (c : Array Value), lo ≤ B → B < hi → RowAt w B t c → RowAt w' B t c :=
  fun _ _ _ _ _ hr => hr.ext hx
/-- As wp_ways, with two boxes. -/
theorem wp_ways2 {P : Program} {c : Code} {Q : Exit → Act → World → Prop} {a : Act} {w : World} (G : Nat → Nat → Option Addr → Nat → Option Addr → Nat → Option Addr → Nat → World → Prop) (F : Nat → Nat → Option Addr → Nat → Option Addr → Nat → Option Addr → Nat → Addr → Addr → Addr → Addr → Addr → Act)
    (h : c.wp P (fun e a' w' => match e with | .normal => ∃ b1 b2 p q p1 q1 p2 q2 y0 y1 y2 y3 y4, G b1 b2 p q p1 q1 p2 q2 w' ∧ a' = F b1 b2 p q p1 q1 p2 q2 y0 y1 y2 y3 y4 | _ => False) a w)
    (k : ∀ b1 b2 p q p1 q1 p2 q2 y0 y1 y2 y3 y4 w', G b1 b2 p q p1 q1 p2 q2 w' → Q .normal (F b1 b2 p q p1 q1 p2 q2 y0 y1 y2 y3 y4) w') : c.wp P Q a w := by
  refine Code.wp_mono (fun e a' w' hq => ?_) h
  cases e with
  | normal =>
    obtain ⟨b1, b2, p, q, p1, q1, p2, q2, y0, y1, y2, y3, y4, hg, rfl⟩ := hq
    exact k b1 b2 p q p1 q1 p2 q2 y0 y1 y2 y3 y4 w' hg
  | _ => exact hq.elim
theorem alloc_named (w : World) (t : TypeId) (c : Array Value) : ∃ b w', w' = w.alloc (.cells c t) ∧ b = w.heap.size ∧ Ext w w' ∧ RowAt w' b t c ∧ w.heap.size ≤ b ∧ b ≤ w.heap.size ∧ b < w'.heap.size :=
  ⟨_, _, rfl, rfl, (Ext.refl w).alloc _, RowAt.new w t c, Nat.le_refl _, Nat.le_refl _, (RowAt.new w t c).lt⟩
/-- Inside a region that draws its order: what has come up in several ways goes on as one. -/
theorem cut_any2 {P : Program} {md : Region.Mode} {ops : Array Oper} {Q : Exit → Act → World → Prop} {S : World → Prop} {fuel : Nat} {listed : Array Bool} {goal : Prop} (G : Nat → Nat → Option Addr → Nat → Option Addr → Nat → Option Addr → Nat → World → Prop) (F : Nat → Nat → Option Addr → Nat → Option Addr → Nat → Option Addr → Nat → Addr → Addr → Addr → Addr → Addr → Act)
    (h : (∀ a w, (∃ b1 b2 p q p1 q1 p2 q2 y0 y1 y2 y3 y4, G b1 b2 p q p1 q1 p2 q2 w ∧ a = F b1 b2 p q p1 q1 p2 q2 y0 y1 y2 y3 y4) → wpAnyH P md ops Q S fuel listed a w) → goal)
    (k : ∀ b1 b2 p q p1 q1 p2 q2 y0 y1 y2 y3 y4 w, G b1 b2 p q p1 q1 p2 q2 w → wpAnyH P md ops Q S fuel listed (F b1 b2 p q p1 q1 p2 q2 y0 y1 y2 y3 y4) w) : goal :=
  h (fun _ w ⟨b1, b2, p, q, p1, q1, p2, q2, y0, y1, y2, y3, y4, hg, e⟩ => e ▸ k b1 b2 p q p1 q1 p2 q2 y0 y1 y2 y3 y4 w hg)
end Go.Proofs.Ytmppoflgbmabpaa
