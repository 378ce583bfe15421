/- ValueAt of the program. -/
import Derived.Test.YtknpdhafafomaaaProg
import Derived.Test.YtknpdhafafomaaaVal
import Derived.Test.YtknpdhafafomaaaReg
namespace Go.Proofs.Ytknpdhafafomaaa
open Go.RowKit
set_option linter.unusedSimpArgs false
set_option linter.unusedVariables false

set_option maxRecDepth 100000 in
set_option maxHeartbeats 1000000 in
theorem implValueAt_any (a : Option Addr) (n c : Nat) (ps : List Pt) (x : Int) (w : World) (hn : n = ps.length) (hs : n ≤ maxLen) (hf : FlatAt w ptCells 2 a ps) (hx : -9223372036854775808 ≤ x ∧ x ≤ 9223372036854775807) :
    Calls Try.prog 71 #[.slice a n c, .int .i64 x] w fun e w' => e = .returned (.int .i64 (valueAt ps x)) ∧ Ext w w' := by
  have HF := Lib.hid hf; clear hf
  have HS := Lib.hid hs
  unfold maxLen at hs
  obtain ⟨ok, hok⟩ : ∃ ok, tableOk ps = ok := ⟨_, rfl⟩
  have HOK := Lib.hid hok
  cases ok
  · have HV := Lib.hid (valueAt_no (x := x) hok)
    have HN := Lib.hid hn
    clear hok hn
    go_enter Try.func71, Try.ntmps71
    go_wp2_with (go_at_call 116; with_reducible refine (implTableOk_is _ _ _ _ ps _ HN.out HS.out HF.out HOK.out).mono ?_; rintro e w1 ⟨rfl, hb1⟩)
    go_ret
    exact ⟨ret_int HV.out.symm, hb1⟩
  obtain ⟨htab, hl2, hl20⟩ := tab_of hok
  have hlen0 : 0 < ps.length := by omega
  have hlenl : ps.length - 1 < ps.length := by omega
  rw [← hn] at hl2 hl20
  have hfirst := htab.get 0 hlen0
  have hlast := htab.get (ps.length - 1) hlenl
  have HTAB := Lib.hid htab
  obtain ⟨b, off, rfl, hc0⟩ := HF.out.get 0 hlen0
  obtain ⟨b', off', e', hcl⟩ := HF.out.get (ps.length - 1) hlenl
  cases e'
  have hV1 := fun (h : x ≤ (ps[0]'hlen0).1) => valueAt_first hok hlen0 h
  have hV2 := fun (h1 : (ps[0]'hlen0).1 < x) (h : (ps[ps.length - 1]'hlenl).1 ≤ x) => valueAt_end hok hlen0 h1 h
  have hV3 := fun (k : Nat) (hk : k + 1 < ps.length) (h1 : (ps[0]'hlen0).1 < x) h2 h3 => valueAt_lin hok k hk h1 h2 h3
  obtain ⟨f1, f2, hf0⟩ : ∃ f1 f2, ps[0]'hlen0 = (f1, f2) := ⟨_, _, rfl⟩
  obtain ⟨l1, l2, hfl⟩ : ∃ l1 l2, ps[ps.length - 1]'hlenl = (l1, l2) := ⟨_, _, rfl⟩
  have HF0 := Lib.hid hf0
  have HFL := Lib.hid hfl
  rw [hf0] at hc0 hV1 hV2 hfirst
  rw [hfl] at hcl hV2 hlast
  have HV3 := Lib.hid (fun (k : Nat) (hk : k + 1 < ps.length) (h1 : f1 < x) (h2 : ps[k].1 ≤ x) (h3 : x < ps[k + 1].1) => hV3 k hk (by rw [hf0]; exact h1) h2 h3)
  clear hV3 hf0 hfl hok htab
  dsimp only at hV1 hV2 hfirst hlast
  obtain ⟨m, rfl⟩ : ∃ m, n = m + 1 := ⟨n - 1, by omega⟩
  have e0 : ∀ w', Ext w w' → w'.cell? ⟨b, off, none⟩ = some (.int .i64 f1) := by simpa using hc0 0 _ rfl
  have e1 : ∀ w', Ext w w' → w'.cell? ⟨b, off + 1, none⟩ = some (.int .i64 f2) := by simpa using hc0 1 _ rfl
  rw [show ps.length - 1 = m by omega] at hcl
  have e2 : ∀ w', Ext w w' → w'.cell? ⟨b, off + m * 2, none⟩ = some (.int .i64 l1) := hcl 0 _ rfl
  have e3 : ∀ w', Ext w w' → w'.cell? ⟨b, off + m * 2 + 1, none⟩ = some (.int .i64 l2) := hcl 1 _ rfl
  have HN := Lib.hid hn
  clear hn hc0 hcl
  rcases (by omega : x ≤ f1 ∨ (f1 < x ∧ l1 ≤ x) ∨ (f1 < x ∧ x < l1)) with c1 | ⟨c1, c2⟩ | ⟨c1, c2⟩
  · have HV := Lib.hid (hV1 c1)
    clear hV1 hV2
    go_enter Try.func71, Try.ntmps71
    go_wp2_with fail
    refine (implTableOk_is _ _ _ _ ps _ HN.out HS.out HF.out HOK.out).mono ?_
    rintro e w1 ⟨rfl, hb1⟩
    have eb := hb1.trans ((Ext.refl w1).alloc (.cells #[.int .i64 l1, .int .i64 l2] 44))
    have g2 := e2 _ hb1
    have g3 := e3 _ hb1
    have g0 := e0 _ eb
    have g1 := e1 _ eb
    clear e0 e1 e2 e3
    go_wp2
    go_ret
    exact ⟨ret_int HV.out.symm, by (repeat' (first | (with_reducible exact Ext.refl _) | (with_reducible assumption) | (with_reducible refine Ext.alloc ?_ _) | (with_reducible refine Ext.drewN ?_ _) | (with_reducible refine Ext.drew ?_) | (with_reducible refine Ext.setCell ?_ ?_ _) | (with_reducible exact Nat.le_refl _) | (with_reducible exact Nat.le_succ _) | (with_reducible refine Ext.trans ?_ (by assumption)) | (simp; done) | (simp; omega)))⟩
  · have HV := Lib.hid (hV2 c1 c2)
    clear hV1 hV2
    have d1 : decide (x ≤ f1) = false := by simp; omega
    go_enter Try.func71, Try.ntmps71
    go_wp2_with fail
    refine (implTableOk_is _ _ _ _ ps _ HN.out HS.out HF.out HOK.out).mono ?_
    rintro e w1 ⟨rfl, hb1⟩
    have eb := hb1.trans ((Ext.refl w1).alloc (.cells #[.int .i64 l1, .int .i64 l2] 44))
    have g2 := e2 _ hb1
    have g3 := e3 _ hb1
    have g0 := e0 _ eb
    have g1 := e1 _ eb
    clear e0 e1 e2 e3
    go_wp2
    go_ret
    exact ⟨ret_int HV.out.symm, by (repeat' (first | (with_reducible exact Ext.refl _) | (with_reducible assumption) | (with_reducible refine Ext.alloc ?_ _) | (with_reducible refine Ext.drewN ?_ _) | (with_reducible refine Ext.drew ?_) | (with_reducible refine Ext.setCell ?_ ?_ _) | (with_reducible exact Nat.le_refl _) | (with_reducible exact Nat.le_succ _) | (with_reducible refine Ext.trans ?_ (by assumption)) | (simp; done) | (simp; omega)))⟩
  · clear hV1 hV2
    have d1 : decide (x ≤ f1) = false := by simp; omega
    have d2 : decide (l1 ≤ x) = false := by simp; omega
    go_enter Try.func71, Try.ntmps71
    go_wp2_with fail
    refine (implTableOk_is _ _ _ _ ps _ HN.out HS.out HF.out HOK.out).mono ?_
    rintro e w1 ⟨rfl, hb1'⟩
    have eb := hb1'.trans ((Ext.refl w1).alloc (.cells #[.int .i64 l1, .int .i64 l2] 44))
    have g2 := e2 _ hb1'
    have g3 := e3 _ hb1'
    have g0 := e0 _ eb
    have g1 := e1 _ eb
    clear e0 e1 e2 e3
    go_wp2_with fail
    obtain ⟨wB, hwB⟩ : ∃ x, x = w1.alloc (.cells #[.int .i64 l1, .int .i64 l2] 44) := ⟨_, rfl⟩
    rw [← hwB] at eb g0 g1
    (try rw [← hwB])
    have hb1 := eb
    clear hwB eb g2 g3
    go_loop [6] (fun i => ∃ (k : Nat), k < m ∧ i = .int .i64 k ∧ Hid (∃ (h : k < ps.length), ps[k].1 ≤ x)) (fun i => m - (intOf i).toNat)
    case atStart => exact ⟨0, by omega, rfl, ⟨by have := HN.out; omega, by rw [HF0.out]; dsimp only; omega⟩⟩
    case round =>
      obtain ⟨k, hk, rfl, hkx⟩ := hrel
      have hk1 : k + 1 < ps.length := by have := HN.out; omega
      obtain ⟨_, hx0⟩ := hkx.out
      obtain ⟨b2, off2, e', hca⟩ := HF.out.get k (by omega)
      cases e'
      obtain ⟨b2, off2, e', hcb⟩ := HF.out.get (k + 1) hk1
      cases e'
      have hstep := HTAB.out.step k hk1
      have hbp := HTAB.out.get k (by omega)
      have hbq := HTAB.out.get (k + 1) hk1
      have hV := fun h3 => HV3.out k hk1 c1 hx0 h3
      obtain ⟨p1, p2, hp⟩ : ∃ p1 p2, ps[k] = (p1, p2) := ⟨_, _, rfl⟩
      obtain ⟨q1, q2, hq⟩ : ∃ q1 q2, ps[k + 1] = (q1, q2) := ⟨_, _, rfl⟩
      have HQ := Lib.hid hq
      rw [hp] at hca hstep hbp hx0 hV
      rw [hq] at hcb hstep hbq hV
      have HL := Lib.hid (show k + 1 = m → q1 = l1 from fun h => by
        have h1 := HFL.out
        have h2 := HN.out
        have e : ps[ps.length - 1] = ps[k + 1] := by congr 1; omega
        rw [e, hq] at h1
        exact (Prod.mk.inj h1).1)
      clear hp hq
      dsimp only at hstep hbp hbq hx0 hV
      have y0 : wB.cell? ⟨b, off + (k + 1) * 2, none⟩ = some (.int .i64 q1) := hcb 0 _ rfl _ hb1
      by_cases c3 : q1 ≤ x
      · have hkm : k + 1 ≠ m := fun h => by have := HL.out h; omega
        clear hV hca hcb
        go_wp2
        go_round
        case rel => exact ⟨k + 1, by omega, by go_num, ⟨hk1, by rw [HQ.out]; exact c3⟩⟩
        case measure => simp [intOf]; omega
      · have HV := Lib.hid (hV (by omega))
        clear hV
        have d3 : decide (q1 ≤ x) = false := by simp; omega
        obtain ⟨⟨hm0, hm1⟩, ht0, ht1⟩ := lin_parts hx0 (show x < q1 by omega) hstep.2 ⟨hbp.1, hbp.2.2.1⟩ ⟨hbq.2.1, hbq.2.2.2⟩
        obtain ⟨M, hM⟩ : ∃ M, (x - p1) * (q2 - p2) = M := ⟨_, rfl⟩
        rw [hM] at hm0 hm1 ht0 ht1
        obtain ⟨d, hd⟩ : ∃ d, Int.tdiv M (q1 - p1) = d := ⟨_, rfl⟩
        rw [hd] at ht0 ht1
        have HR := Lib.hid (show valueAt ps x = p2 + d by rw [HV.out, lin, ← hd, ← hM])
        have nz : (q1 - p1 == 0) = false := by simp; omega
        have nm : ¬ q1 - p1 = 0 := by omega
        have x0 : wB.cell? ⟨b, off + k * 2, none⟩ = some (.int .i64 p1) := hca 0 _ rfl _ hb1
        have x1 : wB.cell? ⟨b, off + k * 2 + 1, none⟩ = some (.int .i64 p2) := hca 1 _ rfl _ hb1
        have y1 : wB.cell? ⟨b, off + (k + 1) * 2 + 1, none⟩ = some (.int .i64 q2) := hcb 1 _ rfl _ hb1
        clear hca hcb
        go_wp2_with fail
        have i0 : (0 : Int) ≤ (k : Int) := by omega
        have i1 : (k : Int) < (m : Int) + 1 := by omega
        have i2 : (0 : Int) ≤ (k : Int) + 1 := by omega
        have i3 : (k : Int) + 1 < (m : Int) + 1 := by omega
        have i4 := IntWalk.i64_in ((k : Int) + 1) (by omega)
        have i5 : ((k : Int) + 1).toNat = k + 1 := by omega
        refine wp_region_held_drew (S := (fun w' => w'.cell? ⟨b, off + k * 2, none⟩ = some (.int .i64 p1) ∧ w'.cell? ⟨b, off + k * 2 + 1, none⟩ = some (.int .i64 p2) ∧ w'.cell? ⟨b, off + (k + 1) * 2, none⟩ = some (.int .i64 q1) ∧ w'.cell? ⟨b, off + (k + 1) * 2 + 1, none⟩ = some (.int .i64 q2))) (by kernel_rfl) ?_ (fun hH0 => ?_)
        · (try dsimp only)
          ((repeat' (refine And.intro ?_ ?_)) <;> (first | (exact Ext.cell (w := wB) (by (repeat' (first | (with_reducible exact Ext.refl _) | (with_reducible assumption) | (with_reducible refine Ext.alloc ?_ _) | (with_reducible refine Ext.drewN ?_ _) | (with_reducible refine Ext.drew ?_) | (with_reducible refine Ext.setCell ?_ ?_ _) | (with_reducible exact Nat.le_refl _) | (with_reducible exact Nat.le_succ _) | (with_reducible refine Ext.trans ?_ (by assumption)) | (simp; done) | (simp; omega)))) x0) | (exact Ext.cell (w := wB) (by (repeat' (first | (with_reducible exact Ext.refl _) | (with_reducible assumption) | (with_reducible refine Ext.alloc ?_ _) | (with_reducible refine Ext.drewN ?_ _) | (with_reducible refine Ext.drew ?_) | (with_reducible refine Ext.setCell ?_ ?_ _) | (with_reducible exact Nat.le_refl _) | (with_reducible exact Nat.le_succ _) | (with_reducible refine Ext.trans ?_ (by assumption)) | (simp; done) | (simp; omega)))) x1) | (exact Ext.cell (w := wB) (by (repeat' (first | (with_reducible exact Ext.refl _) | (with_reducible assumption) | (with_reducible refine Ext.alloc ?_ _) | (with_reducible refine Ext.drewN ?_ _) | (with_reducible refine Ext.drew ?_) | (with_reducible refine Ext.setCell ?_ ?_ _) | (with_reducible exact Nat.le_refl _) | (with_reducible exact Nat.le_succ _) | (with_reducible refine Ext.trans ?_ (by assumption)) | (simp; done) | (simp; omega)))) y0) | (exact Ext.cell (w := wB) (by (repeat' (first | (with_reducible exact Ext.refl _) | (with_reducible assumption) | (with_reducible refine Ext.alloc ?_ _) | (with_reducible refine Ext.drewN ?_ _) | (with_reducible refine Ext.drew ?_) | (with_reducible refine Ext.setCell ?_ ?_ _) | (with_reducible exact Nat.le_refl _) | (with_reducible exact Nat.le_succ _) | (with_reducible refine Ext.trans ?_ (by assumption)) | (simp; done) | (simp; omega)))) y1)))
        refine take_l 0 (v := ?_) rfl (by kernel_rfl) (by kernel_rfl) (by kernel_rfl) (fun _ _ _ h => h) (by rfl) ?_ (by assumption) ?_
        rotate_left
        · (intro w hSw; (try dsimp only at hSw); go_simp; (try with_reducible rfl))
        (try simp only [Act.put, List.setIfInBounds_toArray, List.set_cons_zero, List.set_cons_succ])
        refine take_l 1 (v := ?_) rfl (by kernel_rfl) (by kernel_rfl) (by kernel_rfl) (fun _ _ _ h => h) (by rfl) ?_ (by assumption) ?_
        rotate_left
        · (intro w hSw; (try dsimp only at hSw); go_simp; (try with_reducible rfl))
        (try simp only [Act.put, List.setIfInBounds_toArray, List.set_cons_zero, List.set_cons_succ])
        refine take_l 2 (v := ?_) rfl (by kernel_rfl) (by kernel_rfl) (by kernel_rfl) (fun _ _ _ h => h) (by rfl) ?_ (by assumption) ?_
        rotate_left
        · (intro w hSw; (try dsimp only at hSw); go_simp; (try with_reducible rfl))
        (try simp only [Act.put, List.setIfInBounds_toArray, List.set_cons_zero, List.set_cons_succ])
        refine take_l 3 (v := ?_) rfl (by kernel_rfl) (by kernel_rfl) (by kernel_rfl) (fun _ _ _ h => h) (by rfl) ?_ (by assumption) ?_
        rotate_left
        · (intro w hSw; (try dsimp only at hSw); go_simp; (try with_reducible rfl))
        (try simp only [Act.put, List.setIfInBounds_toArray, List.set_cons_zero, List.set_cons_succ])
        refine take_l 4 (v := ?_) rfl (by kernel_rfl) (by kernel_rfl) (by kernel_rfl) (fun _ _ _ h => h) (by rfl) ?_ (by assumption) ?_
        rotate_left
        · (intro w hSw; (try dsimp only at hSw); go_simp; (try with_reducible rfl))
        (try simp only [Act.put, List.setIfInBounds_toArray, List.set_cons_zero, List.set_cons_succ])
        refine take_l 5 (v := ?_) rfl (by kernel_rfl) (by kernel_rfl) (by kernel_rfl) (fun _ _ _ h => h) (by rfl) ?_ (by assumption) ?_
        rotate_left
        · (intro w hSw; (try dsimp only at hSw); go_simp; (try with_reducible rfl))
        (try simp only [Act.put, List.setIfInBounds_toArray, List.set_cons_zero, List.set_cons_succ])
        refine take_l 6 (v := ?_) rfl (by kernel_rfl) (by kernel_rfl) (by kernel_rfl) (fun _ _ _ h => h) (by rfl) ?_ (by assumption) ?_
        rotate_left
        · (intro w hSw; (try dsimp only at hSw); go_simp; (try with_reducible rfl))
        (try simp only [Act.put, List.setIfInBounds_toArray, List.set_cons_zero, List.set_cons_succ])
        refine take_l 7 (v := ?_) rfl (by kernel_rfl) (by kernel_rfl) (by kernel_rfl) (fun _ _ _ h => h) (by rfl) ?_ (by assumption) ?_
        rotate_left
        · (intro w hSw; (try dsimp only at hSw); go_simp; (try with_reducible rfl))
        (try simp only [Act.put, List.setIfInBounds_toArray, List.set_cons_zero, List.set_cons_succ])
        refine take_l 8 (v := ?_) rfl (by kernel_rfl) (by kernel_rfl) (by kernel_rfl) (fun _ _ _ h => h) (by rfl) ?_ (by assumption) ?_
        rotate_left
        · (intro w hSw; (try dsimp only at hSw); go_simp; (try with_reducible rfl))
        (try simp only [Act.put, List.setIfInBounds_toArray, List.set_cons_zero, List.set_cons_succ])
        refine wpAnyH_ready (rs := [9, 10]) (by kernel_rfl) (by simp) ?_
        refine cons_l (i := 9) rfl (fun K hK => ?_) ?_
        go_simp
        refine hK.out _ _ ?_ (fun hH1 => ?_)
        · (try dsimp only)
          ((repeat' (refine And.intro ?_ ?_)) <;> (first | (exact Ext.cell (w := wB) (by (repeat' (first | (with_reducible exact Ext.refl _) | (with_reducible assumption) | (with_reducible refine Ext.alloc ?_ _) | (with_reducible refine Ext.drewN ?_ _) | (with_reducible refine Ext.drew ?_) | (with_reducible refine Ext.setCell ?_ ?_ _) | (with_reducible exact Nat.le_refl _) | (with_reducible exact Nat.le_succ _) | (with_reducible refine Ext.trans ?_ (by assumption)) | (simp; done) | (simp; omega)))) x0) | (exact Ext.cell (w := wB) (by (repeat' (first | (with_reducible exact Ext.refl _) | (with_reducible assumption) | (with_reducible refine Ext.alloc ?_ _) | (with_reducible refine Ext.drewN ?_ _) | (with_reducible refine Ext.drew ?_) | (with_reducible refine Ext.setCell ?_ ?_ _) | (with_reducible exact Nat.le_refl _) | (with_reducible exact Nat.le_succ _) | (with_reducible refine Ext.trans ?_ (by assumption)) | (simp; done) | (simp; omega)))) x1) | (exact Ext.cell (w := wB) (by (repeat' (first | (with_reducible exact Ext.refl _) | (with_reducible assumption) | (with_reducible refine Ext.alloc ?_ _) | (with_reducible refine Ext.drewN ?_ _) | (with_reducible refine Ext.drew ?_) | (with_reducible refine Ext.setCell ?_ ?_ _) | (with_reducible exact Nat.le_refl _) | (with_reducible exact Nat.le_succ _) | (with_reducible refine Ext.trans ?_ (by assumption)) | (simp; done) | (simp; omega)))) y0) | (exact Ext.cell (w := wB) (by (repeat' (first | (with_reducible exact Ext.refl _) | (with_reducible assumption) | (with_reducible refine Ext.alloc ?_ _) | (with_reducible refine Ext.drewN ?_ _) | (with_reducible refine Ext.drew ?_) | (with_reducible refine Ext.setCell ?_ ?_ _) | (with_reducible exact Nat.le_refl _) | (with_reducible exact Nat.le_succ _) | (with_reducible refine Ext.trans ?_ (by assumption)) | (simp; done) | (simp; omega)))) y1)))
        clear hK K hH0
        (try simp only [Act.put, List.setIfInBounds_toArray, List.set_cons_zero, List.set_cons_succ])
        refine wpAnyH_ready (rs := [10]) (by kernel_rfl) (by simp) ?_
        refine cons_l (i := 10) rfl (fun K hK => ?_) ?_
        go_simp
        refine hK.out _ _ ?_ (fun hH2 => ?_)
        · (try dsimp only)
          ((repeat' (refine And.intro ?_ ?_)) <;> (first | (exact Ext.cell (w := wB) (by (repeat' (first | (with_reducible exact Ext.refl _) | (with_reducible assumption) | (with_reducible refine Ext.alloc ?_ _) | (with_reducible refine Ext.drewN ?_ _) | (with_reducible refine Ext.drew ?_) | (with_reducible refine Ext.setCell ?_ ?_ _) | (with_reducible exact Nat.le_refl _) | (with_reducible exact Nat.le_succ _) | (with_reducible refine Ext.trans ?_ (by assumption)) | (simp; done) | (simp; omega)))) x0) | (exact Ext.cell (w := wB) (by (repeat' (first | (with_reducible exact Ext.refl _) | (with_reducible assumption) | (with_reducible refine Ext.alloc ?_ _) | (with_reducible refine Ext.drewN ?_ _) | (with_reducible refine Ext.drew ?_) | (with_reducible refine Ext.setCell ?_ ?_ _) | (with_reducible exact Nat.le_refl _) | (with_reducible exact Nat.le_succ _) | (with_reducible refine Ext.trans ?_ (by assumption)) | (simp; done) | (simp; omega)))) x1) | (exact Ext.cell (w := wB) (by (repeat' (first | (with_reducible exact Ext.refl _) | (with_reducible assumption) | (with_reducible refine Ext.alloc ?_ _) | (with_reducible refine Ext.drewN ?_ _) | (with_reducible refine Ext.drew ?_) | (with_reducible refine Ext.setCell ?_ ?_ _) | (with_reducible exact Nat.le_refl _) | (with_reducible exact Nat.le_succ _) | (with_reducible refine Ext.trans ?_ (by assumption)) | (simp; done) | (simp; omega)))) y0) | (exact Ext.cell (w := wB) (by (repeat' (first | (with_reducible exact Ext.refl _) | (with_reducible assumption) | (with_reducible refine Ext.alloc ?_ _) | (with_reducible refine Ext.drewN ?_ _) | (with_reducible refine Ext.drew ?_) | (with_reducible refine Ext.setCell ?_ ?_ _) | (with_reducible exact Nat.le_refl _) | (with_reducible exact Nat.le_succ _) | (with_reducible refine Ext.trans ?_ (by assumption)) | (simp; done) | (simp; omega)))) y1)))
        clear hK K hH1
        (try simp only [Act.put, List.setIfInBounds_toArray, List.set_cons_zero, List.set_cons_succ])
        refine wpAnyH_ready (rs := [11]) (by kernel_rfl) (by simp) ?_
        refine cons_l (i := 11) rfl (fun K hK => ?_) ?_
        go_simp
        refine hK.out _ _ ?_ (fun hH3 => ?_)
        · (try dsimp only)
          ((repeat' (refine And.intro ?_ ?_)) <;> (first | (exact Ext.cell (w := wB) (by (repeat' (first | (with_reducible exact Ext.refl _) | (with_reducible assumption) | (with_reducible refine Ext.alloc ?_ _) | (with_reducible refine Ext.drewN ?_ _) | (with_reducible refine Ext.drew ?_) | (with_reducible refine Ext.setCell ?_ ?_ _) | (with_reducible exact Nat.le_refl _) | (with_reducible exact Nat.le_succ _) | (with_reducible refine Ext.trans ?_ (by assumption)) | (simp; done) | (simp; omega)))) x0) | (exact Ext.cell (w := wB) (by (repeat' (first | (with_reducible exact Ext.refl _) | (with_reducible assumption) | (with_reducible refine Ext.alloc ?_ _) | (with_reducible refine Ext.drewN ?_ _) | (with_reducible refine Ext.drew ?_) | (with_reducible refine Ext.setCell ?_ ?_ _) | (with_reducible exact Nat.le_refl _) | (with_reducible exact Nat.le_succ _) | (with_reducible refine Ext.trans ?_ (by assumption)) | (simp; done) | (simp; omega)))) x1) | (exact Ext.cell (w := wB) (by (repeat' (first | (with_reducible exact Ext.refl _) | (with_reducible assumption) | (with_reducible refine Ext.alloc ?_ _) | (with_reducible refine Ext.drewN ?_ _) | (with_reducible refine Ext.drew ?_) | (with_reducible refine Ext.setCell ?_ ?_ _) | (with_reducible exact Nat.le_refl _) | (with_reducible exact Nat.le_succ _) | (with_reducible refine Ext.trans ?_ (by assumption)) | (simp; done) | (simp; omega)))) y0) | (exact Ext.cell (w := wB) (by (repeat' (first | (with_reducible exact Ext.refl _) | (with_reducible assumption) | (with_reducible refine Ext.alloc ?_ _) | (with_reducible refine Ext.drewN ?_ _) | (with_reducible refine Ext.drew ?_) | (with_reducible refine Ext.setCell ?_ ?_ _) | (with_reducible exact Nat.le_refl _) | (with_reducible exact Nat.le_succ _) | (with_reducible refine Ext.trans ?_ (by assumption)) | (simp; done) | (simp; omega)))) y1)))
        clear hK K hH2
        (try simp only [Act.put, List.setIfInBounds_toArray, List.set_cons_zero, List.set_cons_succ])
        refine wpAnyH_ready (rs := [12]) (by kernel_rfl) (by simp) ?_
        refine cons_l (i := 12) rfl (fun K hK => ?_) ?_
        go_simp
        refine hK.out _ _ ?_ (fun hH4 => ?_)
        · (try dsimp only)
          ((repeat' (refine And.intro ?_ ?_)) <;> (first | (exact Ext.cell (w := wB) (by (repeat' (first | (with_reducible exact Ext.refl _) | (with_reducible assumption) | (with_reducible refine Ext.alloc ?_ _) | (with_reducible refine Ext.drewN ?_ _) | (with_reducible refine Ext.drew ?_) | (with_reducible refine Ext.setCell ?_ ?_ _) | (with_reducible exact Nat.le_refl _) | (with_reducible exact Nat.le_succ _) | (with_reducible refine Ext.trans ?_ (by assumption)) | (simp; done) | (simp; omega)))) x0) | (exact Ext.cell (w := wB) (by (repeat' (first | (with_reducible exact Ext.refl _) | (with_reducible assumption) | (with_reducible refine Ext.alloc ?_ _) | (with_reducible refine Ext.drewN ?_ _) | (with_reducible refine Ext.drew ?_) | (with_reducible refine Ext.setCell ?_ ?_ _) | (with_reducible exact Nat.le_refl _) | (with_reducible exact Nat.le_succ _) | (with_reducible refine Ext.trans ?_ (by assumption)) | (simp; done) | (simp; omega)))) x1) | (exact Ext.cell (w := wB) (by (repeat' (first | (with_reducible exact Ext.refl _) | (with_reducible assumption) | (with_reducible refine Ext.alloc ?_ _) | (with_reducible refine Ext.drewN ?_ _) | (with_reducible refine Ext.drew ?_) | (with_reducible refine Ext.setCell ?_ ?_ _) | (with_reducible exact Nat.le_refl _) | (with_reducible exact Nat.le_succ _) | (with_reducible refine Ext.trans ?_ (by assumption)) | (simp; done) | (simp; omega)))) y0) | (exact Ext.cell (w := wB) (by (repeat' (first | (with_reducible exact Ext.refl _) | (with_reducible assumption) | (with_reducible refine Ext.alloc ?_ _) | (with_reducible refine Ext.drewN ?_ _) | (with_reducible refine Ext.drew ?_) | (with_reducible refine Ext.setCell ?_ ?_ _) | (with_reducible exact Nat.le_refl _) | (with_reducible exact Nat.le_succ _) | (with_reducible refine Ext.trans ?_ (by assumption)) | (simp; done) | (simp; omega)))) y1)))
        clear hK K hH3
        (try simp only [Act.put, List.setIfInBounds_toArray, List.set_cons_zero, List.set_cons_succ])
        refine wpAnyH_done (by kernel_rfl) ?_ _
        rotate_left
        exact AllReadyH.nil
        exact AllReadyH.nil
        exact AllReadyH.nil
        refine cons_l (i := 10) rfl (fun K hK => ?_) ?_
        go_simp
        refine hK.out _ _ ?_ (fun hH1 => ?_)
        · (try dsimp only)
          ((repeat' (refine And.intro ?_ ?_)) <;> (first | (exact Ext.cell (w := wB) (by (repeat' (first | (with_reducible exact Ext.refl _) | (with_reducible assumption) | (with_reducible refine Ext.alloc ?_ _) | (with_reducible refine Ext.drewN ?_ _) | (with_reducible refine Ext.drew ?_) | (with_reducible refine Ext.setCell ?_ ?_ _) | (with_reducible exact Nat.le_refl _) | (with_reducible exact Nat.le_succ _) | (with_reducible refine Ext.trans ?_ (by assumption)) | (simp; done) | (simp; omega)))) x0) | (exact Ext.cell (w := wB) (by (repeat' (first | (with_reducible exact Ext.refl _) | (with_reducible assumption) | (with_reducible refine Ext.alloc ?_ _) | (with_reducible refine Ext.drewN ?_ _) | (with_reducible refine Ext.drew ?_) | (with_reducible refine Ext.setCell ?_ ?_ _) | (with_reducible exact Nat.le_refl _) | (with_reducible exact Nat.le_succ _) | (with_reducible refine Ext.trans ?_ (by assumption)) | (simp; done) | (simp; omega)))) x1) | (exact Ext.cell (w := wB) (by (repeat' (first | (with_reducible exact Ext.refl _) | (with_reducible assumption) | (with_reducible refine Ext.alloc ?_ _) | (with_reducible refine Ext.drewN ?_ _) | (with_reducible refine Ext.drew ?_) | (with_reducible refine Ext.setCell ?_ ?_ _) | (with_reducible exact Nat.le_refl _) | (with_reducible exact Nat.le_succ _) | (with_reducible refine Ext.trans ?_ (by assumption)) | (simp; done) | (simp; omega)))) y0) | (exact Ext.cell (w := wB) (by (repeat' (first | (with_reducible exact Ext.refl _) | (with_reducible assumption) | (with_reducible refine Ext.alloc ?_ _) | (with_reducible refine Ext.drewN ?_ _) | (with_reducible refine Ext.drew ?_) | (with_reducible refine Ext.setCell ?_ ?_ _) | (with_reducible exact Nat.le_refl _) | (with_reducible exact Nat.le_succ _) | (with_reducible refine Ext.trans ?_ (by assumption)) | (simp; done) | (simp; omega)))) y1)))
        clear hK K hH0
        (try simp only [Act.put, List.setIfInBounds_toArray, List.set_cons_zero, List.set_cons_succ])
        refine wpAnyH_ready (rs := [9]) (by kernel_rfl) (by simp) ?_
        refine cons_l (i := 9) rfl (fun K hK => ?_) ?_
        go_simp
        refine hK.out _ _ ?_ (fun hH2 => ?_)
        · (try dsimp only)
          ((repeat' (refine And.intro ?_ ?_)) <;> (first | (exact Ext.cell (w := wB) (by (repeat' (first | (with_reducible exact Ext.refl _) | (with_reducible assumption) | (with_reducible refine Ext.alloc ?_ _) | (with_reducible refine Ext.drewN ?_ _) | (with_reducible refine Ext.drew ?_) | (with_reducible refine Ext.setCell ?_ ?_ _) | (with_reducible exact Nat.le_refl _) | (with_reducible exact Nat.le_succ _) | (with_reducible refine Ext.trans ?_ (by assumption)) | (simp; done) | (simp; omega)))) x0) | (exact Ext.cell (w := wB) (by (repeat' (first | (with_reducible exact Ext.refl _) | (with_reducible assumption) | (with_reducible refine Ext.alloc ?_ _) | (with_reducible refine Ext.drewN ?_ _) | (with_reducible refine Ext.drew ?_) | (with_reducible refine Ext.setCell ?_ ?_ _) | (with_reducible exact Nat.le_refl _) | (with_reducible exact Nat.le_succ _) | (with_reducible refine Ext.trans ?_ (by assumption)) | (simp; done) | (simp; omega)))) x1) | (exact Ext.cell (w := wB) (by (repeat' (first | (with_reducible exact Ext.refl _) | (with_reducible assumption) | (with_reducible refine Ext.alloc ?_ _) | (with_reducible refine Ext.drewN ?_ _) | (with_reducible refine Ext.drew ?_) | (with_reducible refine Ext.setCell ?_ ?_ _) | (with_reducible exact Nat.le_refl _) | (with_reducible exact Nat.le_succ _) | (with_reducible refine Ext.trans ?_ (by assumption)) | (simp; done) | (simp; omega)))) y0) | (exact Ext.cell (w := wB) (by (repeat' (first | (with_reducible exact Ext.refl _) | (with_reducible assumption) | (with_reducible refine Ext.alloc ?_ _) | (with_reducible refine Ext.drewN ?_ _) | (with_reducible refine Ext.drew ?_) | (with_reducible refine Ext.setCell ?_ ?_ _) | (with_reducible exact Nat.le_refl _) | (with_reducible exact Nat.le_succ _) | (with_reducible refine Ext.trans ?_ (by assumption)) | (simp; done) | (simp; omega)))) y1)))
        clear hK K hH1
        (try simp only [Act.put, List.setIfInBounds_toArray, List.set_cons_zero, List.set_cons_succ])
        refine wpAnyH_ready (rs := [11]) (by kernel_rfl) (by simp) ?_
        refine cons_l (i := 11) rfl (fun K hK => ?_) ?_
        go_simp
        refine hK.out _ _ ?_ (fun hH3 => ?_)
        · (try dsimp only)
          ((repeat' (refine And.intro ?_ ?_)) <;> (first | (exact Ext.cell (w := wB) (by (repeat' (first | (with_reducible exact Ext.refl _) | (with_reducible assumption) | (with_reducible refine Ext.alloc ?_ _) | (with_reducible refine Ext.drewN ?_ _) | (with_reducible refine Ext.drew ?_) | (with_reducible refine Ext.setCell ?_ ?_ _) | (with_reducible exact Nat.le_refl _) | (with_reducible exact Nat.le_succ _) | (with_reducible refine Ext.trans ?_ (by assumption)) | (simp; done) | (simp; omega)))) x0) | (exact Ext.cell (w := wB) (by (repeat' (first | (with_reducible exact Ext.refl _) | (with_reducible assumption) | (with_reducible refine Ext.alloc ?_ _) | (with_reducible refine Ext.drewN ?_ _) | (with_reducible refine Ext.drew ?_) | (with_reducible refine Ext.setCell ?_ ?_ _) | (with_reducible exact Nat.le_refl _) | (with_reducible exact Nat.le_succ _) | (with_reducible refine Ext.trans ?_ (by assumption)) | (simp; done) | (simp; omega)))) x1) | (exact Ext.cell (w := wB) (by (repeat' (first | (with_reducible exact Ext.refl _) | (with_reducible assumption) | (with_reducible refine Ext.alloc ?_ _) | (with_reducible refine Ext.drewN ?_ _) | (with_reducible refine Ext.drew ?_) | (with_reducible refine Ext.setCell ?_ ?_ _) | (with_reducible exact Nat.le_refl _) | (with_reducible exact Nat.le_succ _) | (with_reducible refine Ext.trans ?_ (by assumption)) | (simp; done) | (simp; omega)))) y0) | (exact Ext.cell (w := wB) (by (repeat' (first | (with_reducible exact Ext.refl _) | (with_reducible assumption) | (with_reducible refine Ext.alloc ?_ _) | (with_reducible refine Ext.drewN ?_ _) | (with_reducible refine Ext.drew ?_) | (with_reducible refine Ext.setCell ?_ ?_ _) | (with_reducible exact Nat.le_refl _) | (with_reducible exact Nat.le_succ _) | (with_reducible refine Ext.trans ?_ (by assumption)) | (simp; done) | (simp; omega)))) y1)))
        clear hK K hH2
        (try simp only [Act.put, List.setIfInBounds_toArray, List.set_cons_zero, List.set_cons_succ])
        refine wpAnyH_ready (rs := [12]) (by kernel_rfl) (by simp) ?_
        refine cons_l (i := 12) rfl (fun K hK => ?_) ?_
        go_simp
        refine hK.out _ _ ?_ (fun hH4 => ?_)
        · (try dsimp only)
          ((repeat' (refine And.intro ?_ ?_)) <;> (first | (exact Ext.cell (w := wB) (by (repeat' (first | (with_reducible exact Ext.refl _) | (with_reducible assumption) | (with_reducible refine Ext.alloc ?_ _) | (with_reducible refine Ext.drewN ?_ _) | (with_reducible refine Ext.drew ?_) | (with_reducible refine Ext.setCell ?_ ?_ _) | (with_reducible exact Nat.le_refl _) | (with_reducible exact Nat.le_succ _) | (with_reducible refine Ext.trans ?_ (by assumption)) | (simp; done) | (simp; omega)))) x0) | (exact Ext.cell (w := wB) (by (repeat' (first | (with_reducible exact Ext.refl _) | (with_reducible assumption) | (with_reducible refine Ext.alloc ?_ _) | (with_reducible refine Ext.drewN ?_ _) | (with_reducible refine Ext.drew ?_) | (with_reducible refine Ext.setCell ?_ ?_ _) | (with_reducible exact Nat.le_refl _) | (with_reducible exact Nat.le_succ _) | (with_reducible refine Ext.trans ?_ (by assumption)) | (simp; done) | (simp; omega)))) x1) | (exact Ext.cell (w := wB) (by (repeat' (first | (with_reducible exact Ext.refl _) | (with_reducible assumption) | (with_reducible refine Ext.alloc ?_ _) | (with_reducible refine Ext.drewN ?_ _) | (with_reducible refine Ext.drew ?_) | (with_reducible refine Ext.setCell ?_ ?_ _) | (with_reducible exact Nat.le_refl _) | (with_reducible exact Nat.le_succ _) | (with_reducible refine Ext.trans ?_ (by assumption)) | (simp; done) | (simp; omega)))) y0) | (exact Ext.cell (w := wB) (by (repeat' (first | (with_reducible exact Ext.refl _) | (with_reducible assumption) | (with_reducible refine Ext.alloc ?_ _) | (with_reducible refine Ext.drewN ?_ _) | (with_reducible refine Ext.drew ?_) | (with_reducible refine Ext.setCell ?_ ?_ _) | (with_reducible exact Nat.le_refl _) | (with_reducible exact Nat.le_succ _) | (with_reducible refine Ext.trans ?_ (by assumption)) | (simp; done) | (simp; omega)))) y1)))
        clear hK K hH3
        (try simp only [Act.put, List.setIfInBounds_toArray, List.set_cons_zero, List.set_cons_succ])
        refine wpAnyH_done (by kernel_rfl) ?_ _
        rotate_left
        exact AllReadyH.nil
        exact AllReadyH.nil
        exact AllReadyH.nil
        exact AllReadyH.nil
        · have n1 := ((RowAt.new wB 44 #[.int .i64 p1, .int .i64 p2]).ext ((Ext.refl _).alloc (.cells #[.int .i64 q1, .int .i64 q2] 44))).ext (Ext.refl _).drew
          have n2 := (RowAt.new (wB.alloc (.cells #[.int .i64 p1, .int .i64 p2] 44)) 44 #[.int .i64 q1, .int .i64 q2]).ext (Ext.refl _).drew
          rw [World.size_alloc] at n2
          have HXW := Lib.hid (show Ext w (((wB.alloc (.cells #[.int .i64 p1, .int .i64 p2] 44)).alloc (.cells #[.int .i64 q1, .int .i64 q2] 44)).drew) from ((hb1.alloc _).alloc _).drew)
          obtain ⟨W, hW⟩ : ∃ x, x = ((wB.alloc (.cells #[.int .i64 p1, .int .i64 p2] 44)).alloc (.cells #[.int .i64 q1, .int .i64 q2] 44)).drew := ⟨_, rfl⟩
          rw [← hW] at n1 n2 HXW
          (try rw [← hW])
          clear hW
          have g0 : ∀ z : Aft W, z.1.cell? ⟨wB.heap.size, 0, none⟩ = some (.int .i64 p1) := fun z => (n1.ext z.2).cell rfl
          have g1 : ∀ z : Aft W, z.1.cell? ⟨wB.heap.size, 1, none⟩ = some (.int .i64 p2) := fun z => (n1.ext z.2).cell rfl
          have g2 : ∀ z : Aft W, z.1.cell? ⟨wB.heap.size + 1, 0, none⟩ = some (.int .i64 q1) := fun z => (n2.ext z.2).cell rfl
          have g3 : ∀ z : Aft W, z.1.cell? ⟨wB.heap.size + 1, 1, none⟩ = some (.int .i64 q2) := fun z => (n2.ext z.2).cell rfl
          clear n1 n2 x0 x1 y0 y1
          go_wp2_with fail
          (refine wp_region_aft W (Ext.refl _) (by kernel_rfl) (by kernel_rfl) ?_; (repeat (go_big_quiet_step (fail))); refine wpQuiet_nil ?_; intro w2 hx2)
          go_wp2
          go_ret
          exact ⟨ret_int HR.out.symm, HXW.out.trans hx2⟩
        · have n1 := ((RowAt.new wB 44 #[.int .i64 q1, .int .i64 q2]).ext ((Ext.refl _).alloc (.cells #[.int .i64 p1, .int .i64 p2] 44))).ext (Ext.refl _).drew
          have n2 := (RowAt.new (wB.alloc (.cells #[.int .i64 q1, .int .i64 q2] 44)) 44 #[.int .i64 p1, .int .i64 p2]).ext (Ext.refl _).drew
          rw [World.size_alloc] at n2
          have HXW := Lib.hid (show Ext w (((wB.alloc (.cells #[.int .i64 q1, .int .i64 q2] 44)).alloc (.cells #[.int .i64 p1, .int .i64 p2] 44)).drew) from ((hb1.alloc _).alloc _).drew)
          obtain ⟨W, hW⟩ : ∃ x, x = ((wB.alloc (.cells #[.int .i64 q1, .int .i64 q2] 44)).alloc (.cells #[.int .i64 p1, .int .i64 p2] 44)).drew := ⟨_, rfl⟩
          rw [← hW] at n1 n2 HXW
          (try rw [← hW])
          clear hW
          have g0 : ∀ z : Aft W, z.1.cell? ⟨wB.heap.size + 1, 0, none⟩ = some (.int .i64 p1) := fun z => (n2.ext z.2).cell rfl
          have g1 : ∀ z : Aft W, z.1.cell? ⟨wB.heap.size + 1, 1, none⟩ = some (.int .i64 p2) := fun z => (n2.ext z.2).cell rfl
          have g2 : ∀ z : Aft W, z.1.cell? ⟨wB.heap.size, 0, none⟩ = some (.int .i64 q1) := fun z => (n1.ext z.2).cell rfl
          have g3 : ∀ z : Aft W, z.1.cell? ⟨wB.heap.size, 1, none⟩ = some (.int .i64 q2) := fun z => (n1.ext z.2).cell rfl
          clear n1 n2 x0 x1 y0 y1
          go_wp2_with fail
          (refine wp_region_aft W (Ext.refl _) (by kernel_rfl) (by kernel_rfl) ?_; (repeat (go_big_quiet_step (fail))); refine wpQuiet_nil ?_; intro w2 hx2)
          go_wp2
          go_ret
          exact ⟨ret_int HR.out.symm, HXW.out.trans hx2⟩
end Go.Proofs.Ytknpdhafafomaaa
