/- NewReach of the program, for a table that is one and a delay of 2 at the most. -/
import Derived.Test.YtmppoflgbmabpaaProg
import Derived.Test.YtmppoflgbmabpaaM8
import Derived.Test.YtmppoflgbmabpaaM5
import Derived.Test.YtmppoflgbmabpaaM6
namespace Go.Proofs.Ytmppoflgbmabpaa
open Go.RowKit
set_option linter.unusedSimpArgs false
set_option linter.unusedVariables false

theorem sum_zero : ∀ (d : Nat) (v : Int), sumFrom v (List.replicate d 0) = v
  | 0, v => rfl
  | d + 1, v => by
    have h := sum_zero d v
    unfold sumFrom at h ⊢
    rw [List.replicate_succ, List.foldl_cons, Int.add_zero]
    exact h
theorem reach_new {ps : List Pt} {d : Nat} (hd : d ≤ 2) (x : Int) (ht : tableOk ps = true) : reachOk ps (valueAt ps x) (List.replicate d 0) = true := by
  have hb := valueAt_b ps x
  have h1 : inR (valueAt ps x) 0 1000000000 = true := by unfold inR; simp; omega
  rw [← reachOk_yes ht h1 (by rw [List.length_replicate]; omega), sum_zero, Bool.and_eq_true, List.all_eq_true]
  refine ⟨fun y hy => ?_, by simp; omega⟩
  rw [List.eq_of_mem_replicate hy]
  decide
theorem ext_grown {w0 w w' : World} {B : Nat} (h : Ext w0 w) (hg : w.grownBy w' (some B)) (hB : w0.heap.size ≤ B) : Ext w0 w' :=
  ⟨hg.os.trans h.below.os, hg.tape.trans h.below.tape, hg.output.trans h.below.output, Nat.le_trans h.size hg.size, fun i hi => (hg.block i (Nat.lt_of_lt_of_le hi h.size) (fun e => by have := Option.some.inj e; omega)).trans (h.below.block i hi)⟩
theorem row_grown {w w' : World} {B : Nat} {t : TypeId} {c : Array Value} {r : Option Nat} (h : RowAt w B t c) (hg : w.grownBy w' r) (hr : r ≠ some B) : RowAt w' B t c :=
  (hg.block B h.lt (fun e => hr e.symm)).trans h
theorem PtOwn.wide {w : World} {lo hi lo' hi' : Nat} {v : Value} {ps : List Pt} (h : PtOwn w lo hi v ps) (hl : lo' ≤ lo) (hh : hi ≤ hi') : PtOwn w lo' hi' v ps := h.keep hl hh (fun _ _ _ _ _ hr => hr)
theorem PtOwn.putT {w : World} {lo hi b k : Nat} {v : Value} {ps : List Pt} {vs : List Value} {t : TypeId} {c : Array Value} (h : PtOwn w lo hi v ps) (hb : RowAt w b t c) (hne : t ≠ 37) : PtOwn (putAt w b k vs) lo hi v ps := by
  obtain ⟨a', c', e, hr⟩ := h
  refine ⟨a', c', e, hr.imp id fun ⟨B, off, cur, e1, h1, h2, h3, h4⟩ => ⟨B, off, cur, e1, h1, h2, put_other (fun e => hne ?_) _ _ _ h3, h4⟩⟩
  subst e
  unfold RowAt at hb h3
  rw [hb] at h3
  have := Option.some.inj h3
  injection this
theorem size_set (w : World) (p : Addr) (v : Value) : (w.setCell p v).heap.size = w.heap.size := by simp [World.setCell]
theorem ints_made {w : World} {B d lo hi : Nat} {M : Array Value} (h : RowAt w B 3 M) (hM : ∀ k, k < d → M[k]? = some (.int .i64 0)) (hlo : lo ≤ B) (hhi : B < hi) : IntOwn w lo hi (.slice (some ⟨B, 0, none⟩) d d) (List.replicate d 0) := by
  refine ⟨some ⟨B, 0, none⟩, d, by rw [List.length_replicate], .inr ⟨B, 0, M, rfl, hlo, hhi, h, fun k hk => ?_⟩⟩
  rw [List.length_replicate] at hk
  rw [List.getElem_replicate, Nat.zero_add]
  exact hM k hk
theorem ints_at {w : World} {B d : Nat} {t : TypeId} {M : Array Value} (h : RowAt w B t M) (hM : ∀ k, k < d → M[k]? = some (.int .i64 0)) : IntsAt w (some ⟨B, 0, none⟩) (List.replicate d 0) := fun k hk => by
  rw [List.length_replicate] at hk
  refine ⟨B, 0, rfl, ?_⟩
  rw [List.getElem_replicate, Nat.zero_add]
  exact h.cell (hM k hk)
/-- Ints made of zeros. -/
theorem made_ints (d : Nat) (hd : d ≤ 2) : ∃ M : Array Value, (∀ k, k < d → M[k]? = some (.int .i64 0)) ∧ ∀ w : World, (Instr.makeSlice 31 (.int .i64 (d : Int)) (.int .i64 (d : Int))).run Try.prog w = .ok (.slice (some ⟨w.heap.size, 0, none⟩) d d) (w.alloc (.cells M 3)) := by
  match d, hd with
  | 0, _ => exact ⟨#[], fun k h => absurd h (Nat.not_lt_zero _), fun w => by kernel_rfl⟩
  | 1, _ => exact ⟨#[.int .i64 0], fun k h => by (have : k = 0 := by omega); subst this; rfl, fun w => by kernel_rfl⟩
  | 2, _ => exact ⟨#[.int .i64 0, .int .i64 0], fun k h => by (have : k = 0 ∨ k = 1 := by omega); rcases this with rfl | rfl <;> rfl, fun w => by kernel_rfl⟩

set_option maxRecDepth 100000 in
set_option maxHeartbeats 4000000 in
theorem implNewReach_any (d : Nat) (hd : d ≤ 2) (a : Option Addr) (n c : Nat) (ps : List Pt) (x : Int) (w : World) (hn : n = ps.length) (hs : n ≤ 1048576) (hc : a = none → c = 0 ∧ n = 0) (hf : FlatAt w ptCells 2 a ps) (hx : -9223372036854775808 ≤ x ∧ x ≤ 9223372036854775807) (ht : tableOk ps = true) :
    Calls Try.prog 8 #[.slice a n c, .int .i64 x, .int .i64 d] w fun e w' => ∃ ta tc pa pc, e = .returned (.tuple #[.agg #[.slice ta n tc, .int .i64 (valueAt ps x), .slice pa d pc], .bool true]) ∧ PtOwn w' w.heap.size w'.heap.size (.slice ta n tc) ps ∧ IntOwn w' w.heap.size w'.heap.size (.slice pa d pc) (List.replicate d 0) ∧ Ext w w' := by
  have hsm : n ≤ maxLen := by unfold maxLen; omega
  have hdm : d ≤ maxLen := by unfold maxLen; omega
  have HRK := Lib.hid (reach_new (d := d) hd x ht)
  obtain ⟨v, hv⟩ : ∃ v, valueAt ps x = v := ⟨_, rfl⟩
  have hvb := valueAt_b ps x
  rw [hv] at hvb HRK
  rw [hv]
  have HV := Lib.hid hv; clear hv
  have hvi : -9223372036854775808 ≤ v ∧ v ≤ 9223372036854775807 := by omega
  have HDL := Lib.hid (show d = (List.replicate d (0 : Int)).length by rw [List.length_replicate])
  obtain ⟨M, hM, qM⟩ := made_ints d hd
  have HM := Lib.hid hM; clear hM
  have hr0 : inR (d : Int) 0 12 = true := by unfold inR; simp; omega
  have HF := Lib.hid hf; clear hf
  have HN := Lib.hid hn; clear hn
  have HC := Lib.hid hc; clear hc
  have RES_I := Lib.hid (RowAt.new w 33 #[.slice none 0 0, .int .i64 0, .slice none 0 0])
  have HE0 := Lib.hid (show Ext w (w.alloc (.cells #[.slice none 0 0, .int .i64 0, .slice none 0 0] 33)) from (Ext.refl w).alloc _)
  go_enter Try.func8, Try.ntmps8
  go_wp2_with fail
  refine (inRange_any _ _ _ _).mono ?_
  rintro e w1 ⟨rfl, rfl⟩
  rw [hr0]
  go_wp2_with fail
  obtain ⟨W, hW⟩ : ∃ y, y = (w.alloc (.cells #[.slice none 0 0, .int .i64 0, .slice none 0 0] 33)) := ⟨_, rfl⟩
  have hWs : w.heap.size + 1 ≤ W.heap.size := by rw [hW]; simp
  rw [← hW] at RES_I HE0
  (try rw [← hW])
  clear hW
  have KRES := RES_I
  refine wp_region_held_drew (S := (fun _ => True)) (by kernel_rfl) ?_ (fun hH0 => ?_)
  · (try dsimp only)
    (try exact trivial)
  (obtain ⟨wc, hwc⟩ : ∃ x, x = W.drew := ⟨_, rfl⟩; have hdr : Ext W wc := (by rw [hwc]; exact (Ext.refl _).drew); (try rw [← hwc] at hH0); (try rw [← hwc]); have zdr : W.heap.size ≤ wc.heap.size := hdr.size; have HX := Lib.hid hdr; have KRES := Lib.hid (RES_I.out.ext hdr); clear hwc hdr)
  refine take_l 0 (v := ?_) rfl (by kernel_rfl) (by kernel_rfl) (by kernel_rfl) (fun _ _ _ h => h) (by rfl) ?_ (by assumption) ?_
  rotate_left
  · (intro w hSw; (try dsimp only at hSw); go_simp; (try with_reducible rfl))
  (try simp only [Act.put, List.setIfInBounds_toArray, List.set_cons_zero, List.set_cons_succ])
  refine take_l 2 (v := ?_) rfl (by kernel_rfl) (by kernel_rfl) (by kernel_rfl) (fun _ _ _ h => h) (by rfl) ?_ (by assumption) ?_
  rotate_left
  · (intro w hSw; (try dsimp only at hSw); go_simp; (try with_reducible rfl))
  (try simp only [Act.put, List.setIfInBounds_toArray, List.set_cons_zero, List.set_cons_succ])
  refine take_l 3 (v := ?_) rfl (by kernel_rfl) (by kernel_rfl) (by kernel_rfl) (fun _ _ _ h => h) (by rfl) ?_ (by assumption) ?_
  rotate_left
  · (intro w hSw; (try dsimp only at hSw); go_simp; (try with_reducible rfl))
  (try simp only [Act.put, List.setIfInBounds_toArray, List.set_cons_zero, List.set_cons_succ])
  refine take_l 5 (v := ?_) rfl (by kernel_rfl) (by kernel_rfl) (by kernel_rfl) (fun _ _ _ h => h) (by rfl) ?_ (by assumption) ?_
  rotate_left
  · (intro w hSw; (try dsimp only at hSw); go_simp; (try with_reducible rfl))
  (try simp only [Act.put, List.setIfInBounds_toArray, List.set_cons_zero, List.set_cons_succ])
  refine wpAnyH_ready (rs := [1, 6, 8]) (by kernel_rfl) (by simp) ?_
  refine cons_l (i := 1) rfl (fun K hK => ?_) ?_
  (go_simp; obtain ⟨loT, hloT⟩ : ∃ n, n = wc.heap.size := ⟨_, rfl⟩; have mloT : loT ≤ wc.heap.size := Nat.le_of_eq hloT; have nloT : wc.heap.size ≤ loT := Nat.le_of_eq hloT.symm; have xwloT : W.heap.size ≤ loT := Nat.le_trans HX.out.size nloT; (go_at_call 27; with_reducible refine (clonePts_any _ _ _ ps _ HN.out hs trivial (HF.out.ext (HE0.out.trans HX.out))).mono ?_); rintro e wc ⟨aT, cT, rfl, hoT, hb⟩; have zz1 := hb.size; obtain ⟨hiT, hhiT⟩ : ∃ n, n = wc.heap.size := ⟨_, rfl⟩; have mhiT : hiT ≤ wc.heap.size := Nat.le_of_eq hhiT; have nhiT : wc.heap.size ≤ hiT := Nat.le_of_eq hhiT.symm; (try rw [← hloT] at hoT); (try rw [← hhiT] at hoT); clear hloT; clear hhiT; (try replace KRES := Lib.hid (KRES.out.ext hb)); (try replace KR := Lib.hid (KR.out.ext hb)); (try replace KP := Lib.hid (KP.out.ext hb)); (try replace OTT := Lib.hid (OTT.out.ext hb)); replace HX := Lib.hid (HX.out.trans hb); have OTT := Lib.hid hoT; clear hoT; clear hb)
  refine hK.out _ _ ?_ (fun hH1 => ?_)
  · (try dsimp only)
    (try exact trivial)
  clear hK K hH0
  (try simp only [Act.put, List.setIfInBounds_toArray, List.set_cons_zero, List.set_cons_succ])
  refine wpAnyH_ready (rs := [4, 6, 8]) (by kernel_rfl) (by simp) ?_
  refine cons_l (i := 4) rfl (fun K hK => ?_) ?_
  (go_simp; (go_at_call 28; with_reducible refine (implValueAt_is v _ _ _ ps _ _ HN.out hsm (HF.out.ext (HE0.out.trans HX.out)) hx HV.out).mono ?_); rintro e wc ⟨rfl, hb⟩; have zz4 := hb.size; (try replace KRES := Lib.hid (KRES.out.ext hb)); (try replace KR := Lib.hid (KR.out.ext hb)); (try replace KP := Lib.hid (KP.out.ext hb)); (try replace OTT := Lib.hid (OTT.out.ext hb)); replace HX := Lib.hid (HX.out.trans hb); clear hb)
  refine hK.out _ _ ?_ (fun hH2 => ?_)
  · (try dsimp only)
    (try exact trivial)
  clear hK K hH1
  (try simp only [Act.put, List.setIfInBounds_toArray, List.set_cons_zero, List.set_cons_succ])
  refine wpAnyH_ready (rs := [6, 8]) (by kernel_rfl) (by simp) ?_
  refine cons_l (i := 6) rfl (fun K hK => ?_) ?_
  (go_simp; obtain ⟨bP, hbP⟩ : ∃ x, x = wc.heap.size := ⟨_, rfl⟩; obtain ⟨wn, hwn⟩ : ∃ x, x = wc.alloc (.cells M 3) := ⟨_, rfl⟩; have hal : Ext wc wn := (by rw [hwn]; exact (Ext.refl wc).alloc _); have hk := RowAt.new wc 3 M; rw [← hwn, ← hbP] at hk; (try rw [← hwn]); (try rw [← hbP]); have zz6 := hal.size; have lbP := hk.lt; have mbP : wc.heap.size ≤ bP := Nat.le_of_eq hbP.symm; have nbP : bP ≤ wc.heap.size := Nat.le_of_eq hbP; have xwbP : W.heap.size ≤ bP := Nat.le_trans HX.out.size mbP; clear hbP hwn; (try replace KRES := Lib.hid (KRES.out.ext hal)); (try replace KR := Lib.hid (KR.out.ext hal)); (try replace KP := Lib.hid (KP.out.ext hal)); (try replace OTT := Lib.hid (OTT.out.ext hal)); replace HX := Lib.hid (HX.out.trans hal); have KP := Lib.hid hk; clear hk hal; obtain ⟨wc, hq⟩ : ∃ x, x = wn := ⟨_, rfl⟩; subst hq)
  refine hK.out _ _ ?_ (fun hH3 => ?_)
  · (try dsimp only)
    (try exact trivial)
  clear hK K hH2
  (try simp only [Act.put, List.setIfInBounds_toArray, List.set_cons_zero, List.set_cons_succ])
  refine take_l 7 (v := ?_) rfl (by kernel_rfl) (by kernel_rfl) (by kernel_rfl) (fun _ _ _ h => h) (by rfl) ?_ (by assumption) ?_
  rotate_left
  · (intro w hSw; (try dsimp only at hSw); go_simp; (try with_reducible rfl))
  (try simp only [Act.put, List.setIfInBounds_toArray, List.set_cons_zero, List.set_cons_succ])
  refine wpAnyH_ready (rs := [8]) (by kernel_rfl) (by simp) ?_
  refine cons_l (i := 8) rfl (fun K hK => ?_) ?_
  (go_simp; obtain ⟨bR, hbR⟩ : ∃ x, x = wc.heap.size := ⟨_, rfl⟩; obtain ⟨wn, hwn⟩ : ∃ x, x = wc.alloc (.cells #[.slice none 0 0, .int .i64 0, .slice none 0 0] 33) := ⟨_, rfl⟩; have hal : Ext wc wn := (by rw [hwn]; exact (Ext.refl wc).alloc _); have hk := RowAt.new wc 33 #[.slice none 0 0, .int .i64 0, .slice none 0 0]; rw [← hwn, ← hbR] at hk; rw [← hwn]; (try rw [← hbR]); have zz8 := hal.size; have lbR := hk.lt; have mbR : wc.heap.size ≤ bR := Nat.le_of_eq hbR.symm; have nbR : bR ≤ wc.heap.size := Nat.le_of_eq hbR; have xwbR : W.heap.size ≤ bR := Nat.le_trans HX.out.size mbR; clear hbR hwn; (try replace KRES := Lib.hid (KRES.out.ext hal)); (try replace KR := Lib.hid (KR.out.ext hal)); (try replace KP := Lib.hid (KP.out.ext hal)); (try replace OTT := Lib.hid (OTT.out.ext hal)); replace HX := Lib.hid (HX.out.trans hal); have KR := Lib.hid hk; clear hk hal; obtain ⟨wc, hq⟩ : ∃ x, x = wn := ⟨_, rfl⟩; subst hq)
  refine hK.out _ _ ?_ (fun hH4 => ?_)
  · (try dsimp only)
    (try exact trivial)
  clear hK K hH3
  (try simp only [Act.put, List.setIfInBounds_toArray, List.set_cons_zero, List.set_cons_succ])
  refine wpAnyH_ready (rs := [9]) (by kernel_rfl) (by simp) ?_
  refine cons_l (i := 9) rfl (fun K hK => ?_) ?_
  (have hs0 := KR.out.cell (j := 0) (v := .slice none 0 0) rfl; have hf0 := KR.out.frozen 0; have hs1 := KR.out.cell (j := 1) (v := .int .i64 0) rfl; have hf1 := KR.out.frozen 1; have hs2 := KR.out.cell (j := 2) (v := .slice none 0 0) rfl; have hf2 := KR.out.frozen 2; go_simp; clear hs0 hf0 hs1 hf1 hs2 hf2; obtain ⟨wn, hwn⟩ : ∃ x, x = putAt wc (bR) 0 [.slice aT n cT, .int .i64 v, .slice (some ⟨bP, 0, none⟩) d d] := ⟨_, rfl⟩; have en : (((wc.setCell ⟨bR, 0, none⟩ (.slice aT n cT)).setCell ⟨bR, 1, none⟩ (.int .i64 v)).setCell ⟨bR, 2, none⟩ (.slice (some ⟨bP, 0, none⟩) d d)) = wn := (by rw [hwn]; rfl); rw [en]; clear en; have zz9 : wc.heap.size ≤ wn.heap.size := (by rw [hwn, put_size]; exact Nat.le_refl _); (first | replace HX := Lib.hid (show Ext W wn by rw [hwn]; exact put_ext (by first | assumption | omega) _ _ _ HX.out) | skip); (try replace KRES := Lib.hid (show RowAt wn (w.heap.size) 33 _ by rw [hwn]; exact put_other (by omega) _ _ _ KRES.out)); (first | replace OTT := Lib.hid (show PtOwn wn _ _ _ _ by rw [hwn]; exact OTT.out.putT KR.out (by decide)) | skip); replace KR := Lib.hid (RowAt.cast (c' := #[.slice aT n cT, .int .i64 v, .slice (some ⟨bP, 0, none⟩) d d]) (show RowAt wn (bR) 33 (putArr #[.slice none 0 0, .int .i64 0, .slice none 0 0] 0 [.slice aT n cT, .int .i64 v, .slice (some ⟨bP, 0, none⟩) d d]) by rw [hwn]; exact put_at _ _ _ _ KR.out) (by simp [putArr])); (try replace KP := Lib.hid (show RowAt wn (bP) 3 _ by rw [hwn]; exact put_other (by omega) _ _ _ KP.out)); clear hwn; obtain ⟨wc, hq⟩ : ∃ x, x = wn := ⟨_, rfl⟩; subst hq)
  refine hK.out _ _ ?_ (fun hH5 => ?_)
  · (try dsimp only)
    (try exact trivial)
  clear hK K hH4
  (try simp only [Act.put, List.setIfInBounds_toArray, List.set_cons_zero, List.set_cons_succ])
  refine wpAnyH_done (by kernel_rfl) ?_ _
  rotate_left
  exact AllReadyH.nil
  exact AllReadyH.nil
  refine cons_l (i := 8) rfl (fun K hK => ?_) ?_
  (go_simp; obtain ⟨bR, hbR⟩ : ∃ x, x = wc.heap.size := ⟨_, rfl⟩; obtain ⟨wn, hwn⟩ : ∃ x, x = wc.alloc (.cells #[.slice none 0 0, .int .i64 0, .slice none 0 0] 33) := ⟨_, rfl⟩; have hal : Ext wc wn := (by rw [hwn]; exact (Ext.refl wc).alloc _); have hk := RowAt.new wc 33 #[.slice none 0 0, .int .i64 0, .slice none 0 0]; rw [← hwn, ← hbR] at hk; rw [← hwn]; (try rw [← hbR]); have zz8 := hal.size; have lbR := hk.lt; have mbR : wc.heap.size ≤ bR := Nat.le_of_eq hbR.symm; have nbR : bR ≤ wc.heap.size := Nat.le_of_eq hbR; have xwbR : W.heap.size ≤ bR := Nat.le_trans HX.out.size mbR; clear hbR hwn; (try replace KRES := Lib.hid (KRES.out.ext hal)); (try replace KR := Lib.hid (KR.out.ext hal)); (try replace KP := Lib.hid (KP.out.ext hal)); (try replace OTT := Lib.hid (OTT.out.ext hal)); replace HX := Lib.hid (HX.out.trans hal); have KR := Lib.hid hk; clear hk hal; obtain ⟨wc, hq⟩ : ∃ x, x = wn := ⟨_, rfl⟩; subst hq)
  refine hK.out _ _ ?_ (fun hH3 => ?_)
  · (try dsimp only)
    (try exact trivial)
  clear hK K hH2
  (try simp only [Act.put, List.setIfInBounds_toArray, List.set_cons_zero, List.set_cons_succ])
  refine wpAnyH_ready (rs := [6]) (by kernel_rfl) (by simp) ?_
  refine cons_l (i := 6) rfl (fun K hK => ?_) ?_
  (go_simp; obtain ⟨bP, hbP⟩ : ∃ x, x = wc.heap.size := ⟨_, rfl⟩; obtain ⟨wn, hwn⟩ : ∃ x, x = wc.alloc (.cells M 3) := ⟨_, rfl⟩; have hal : Ext wc wn := (by rw [hwn]; exact (Ext.refl wc).alloc _); have hk := RowAt.new wc 3 M; rw [← hwn, ← hbP] at hk; (try rw [← hwn]); (try rw [← hbP]); have zz6 := hal.size; have lbP := hk.lt; have mbP : wc.heap.size ≤ bP := Nat.le_of_eq hbP.symm; have nbP : bP ≤ wc.heap.size := Nat.le_of_eq hbP; have xwbP : W.heap.size ≤ bP := Nat.le_trans HX.out.size mbP; clear hbP hwn; (try replace KRES := Lib.hid (KRES.out.ext hal)); (try replace KR := Lib.hid (KR.out.ext hal)); (try replace KP := Lib.hid (KP.out.ext hal)); (try replace OTT := Lib.hid (OTT.out.ext hal)); replace HX := Lib.hid (HX.out.trans hal); have KP := Lib.hid hk; clear hk hal; obtain ⟨wc, hq⟩ : ∃ x, x = wn := ⟨_, rfl⟩; subst hq)
  refine hK.out _ _ ?_ (fun hH4 => ?_)
  · (try dsimp only)
    (try exact trivial)
  clear hK K hH3
  (try simp only [Act.put, List.setIfInBounds_toArray, List.set_cons_zero, List.set_cons_succ])
  refine take_l 7 (v := ?_) rfl (by kernel_rfl) (by kernel_rfl) (by kernel_rfl) (fun _ _ _ h => h) (by rfl) ?_ (by assumption) ?_
  rotate_left
  · (intro w hSw; (try dsimp only at hSw); go_simp; (try with_reducible rfl))
  (try simp only [Act.put, List.setIfInBounds_toArray, List.set_cons_zero, List.set_cons_succ])
  refine wpAnyH_ready (rs := [9]) (by kernel_rfl) (by simp) ?_
  refine cons_l (i := 9) rfl (fun K hK => ?_) ?_
  (have hs0 := KR.out.cell (j := 0) (v := .slice none 0 0) rfl; have hf0 := KR.out.frozen 0; have hs1 := KR.out.cell (j := 1) (v := .int .i64 0) rfl; have hf1 := KR.out.frozen 1; have hs2 := KR.out.cell (j := 2) (v := .slice none 0 0) rfl; have hf2 := KR.out.frozen 2; go_simp; clear hs0 hf0 hs1 hf1 hs2 hf2; obtain ⟨wn, hwn⟩ : ∃ x, x = putAt wc (bR) 0 [.slice aT n cT, .int .i64 v, .slice (some ⟨bP, 0, none⟩) d d] := ⟨_, rfl⟩; have en : (((wc.setCell ⟨bR, 0, none⟩ (.slice aT n cT)).setCell ⟨bR, 1, none⟩ (.int .i64 v)).setCell ⟨bR, 2, none⟩ (.slice (some ⟨bP, 0, none⟩) d d)) = wn := (by rw [hwn]; rfl); rw [en]; clear en; have zz9 : wc.heap.size ≤ wn.heap.size := (by rw [hwn, put_size]; exact Nat.le_refl _); (first | replace HX := Lib.hid (show Ext W wn by rw [hwn]; exact put_ext (by first | assumption | omega) _ _ _ HX.out) | skip); (try replace KRES := Lib.hid (show RowAt wn (w.heap.size) 33 _ by rw [hwn]; exact put_other (by omega) _ _ _ KRES.out)); (first | replace OTT := Lib.hid (show PtOwn wn _ _ _ _ by rw [hwn]; exact OTT.out.putT KR.out (by decide)) | skip); replace KR := Lib.hid (RowAt.cast (c' := #[.slice aT n cT, .int .i64 v, .slice (some ⟨bP, 0, none⟩) d d]) (show RowAt wn (bR) 33 (putArr #[.slice none 0 0, .int .i64 0, .slice none 0 0] 0 [.slice aT n cT, .int .i64 v, .slice (some ⟨bP, 0, none⟩) d d]) by rw [hwn]; exact put_at _ _ _ _ KR.out) (by simp [putArr])); (try replace KP := Lib.hid (show RowAt wn (bP) 3 _ by rw [hwn]; exact put_other (by omega) _ _ _ KP.out)); clear hwn; obtain ⟨wc, hq⟩ : ∃ x, x = wn := ⟨_, rfl⟩; subst hq)
  refine hK.out _ _ ?_ (fun hH5 => ?_)
  · (try dsimp only)
    (try exact trivial)
  clear hK K hH4
  (try simp only [Act.put, List.setIfInBounds_toArray, List.set_cons_zero, List.set_cons_succ])
  refine wpAnyH_done (by kernel_rfl) ?_ _
  rotate_left
  exact AllReadyH.nil
  exact AllReadyH.nil
  exact AllReadyH.nil
  refine cons_l (i := 6) rfl (fun K hK => ?_) ?_
  (go_simp; obtain ⟨bP, hbP⟩ : ∃ x, x = wc.heap.size := ⟨_, rfl⟩; obtain ⟨wn, hwn⟩ : ∃ x, x = wc.alloc (.cells M 3) := ⟨_, rfl⟩; have hal : Ext wc wn := (by rw [hwn]; exact (Ext.refl wc).alloc _); have hk := RowAt.new wc 3 M; rw [← hwn, ← hbP] at hk; (try rw [← hwn]); (try rw [← hbP]); have zz6 := hal.size; have lbP := hk.lt; have mbP : wc.heap.size ≤ bP := Nat.le_of_eq hbP.symm; have nbP : bP ≤ wc.heap.size := Nat.le_of_eq hbP; have xwbP : W.heap.size ≤ bP := Nat.le_trans HX.out.size mbP; clear hbP hwn; (try replace KRES := Lib.hid (KRES.out.ext hal)); (try replace KR := Lib.hid (KR.out.ext hal)); (try replace KP := Lib.hid (KP.out.ext hal)); (try replace OTT := Lib.hid (OTT.out.ext hal)); replace HX := Lib.hid (HX.out.trans hal); have KP := Lib.hid hk; clear hk hal; obtain ⟨wc, hq⟩ : ∃ x, x = wn := ⟨_, rfl⟩; subst hq)
  refine hK.out _ _ ?_ (fun hH2 => ?_)
  · (try dsimp only)
    (try exact trivial)
  clear hK K hH1
  (try simp only [Act.put, List.setIfInBounds_toArray, List.set_cons_zero, List.set_cons_succ])
  refine wpAnyH_ready (rs := [4, 8]) (by kernel_rfl) (by simp) ?_
  refine cons_l (i := 4) rfl (fun K hK => ?_) ?_
  (go_simp; (go_at_call 28; with_reducible refine (implValueAt_is v _ _ _ ps _ _ HN.out hsm (HF.out.ext (HE0.out.trans HX.out)) hx HV.out).mono ?_); rintro e wc ⟨rfl, hb⟩; have zz4 := hb.size; (try replace KRES := Lib.hid (KRES.out.ext hb)); (try replace KR := Lib.hid (KR.out.ext hb)); (try replace KP := Lib.hid (KP.out.ext hb)); (try replace OTT := Lib.hid (OTT.out.ext hb)); replace HX := Lib.hid (HX.out.trans hb); clear hb)
  refine hK.out _ _ ?_ (fun hH3 => ?_)
  · (try dsimp only)
    (try exact trivial)
  clear hK K hH2
  (try simp only [Act.put, List.setIfInBounds_toArray, List.set_cons_zero, List.set_cons_succ])
  refine take_l 7 (v := ?_) rfl (by kernel_rfl) (by kernel_rfl) (by kernel_rfl) (fun _ _ _ h => h) (by rfl) ?_ (by assumption) ?_
  rotate_left
  · (intro w hSw; (try dsimp only at hSw); go_simp; (try with_reducible rfl))
  (try simp only [Act.put, List.setIfInBounds_toArray, List.set_cons_zero, List.set_cons_succ])
  refine wpAnyH_ready (rs := [8]) (by kernel_rfl) (by simp) ?_
  refine cons_l (i := 8) rfl (fun K hK => ?_) ?_
  (go_simp; obtain ⟨bR, hbR⟩ : ∃ x, x = wc.heap.size := ⟨_, rfl⟩; obtain ⟨wn, hwn⟩ : ∃ x, x = wc.alloc (.cells #[.slice none 0 0, .int .i64 0, .slice none 0 0] 33) := ⟨_, rfl⟩; have hal : Ext wc wn := (by rw [hwn]; exact (Ext.refl wc).alloc _); have hk := RowAt.new wc 33 #[.slice none 0 0, .int .i64 0, .slice none 0 0]; rw [← hwn, ← hbR] at hk; rw [← hwn]; (try rw [← hbR]); have zz8 := hal.size; have lbR := hk.lt; have mbR : wc.heap.size ≤ bR := Nat.le_of_eq hbR.symm; have nbR : bR ≤ wc.heap.size := Nat.le_of_eq hbR; have xwbR : W.heap.size ≤ bR := Nat.le_trans HX.out.size mbR; clear hbR hwn; (try replace KRES := Lib.hid (KRES.out.ext hal)); (try replace KR := Lib.hid (KR.out.ext hal)); (try replace KP := Lib.hid (KP.out.ext hal)); (try replace OTT := Lib.hid (OTT.out.ext hal)); replace HX := Lib.hid (HX.out.trans hal); have KR := Lib.hid hk; clear hk hal; obtain ⟨wc, hq⟩ : ∃ x, x = wn := ⟨_, rfl⟩; subst hq)
  refine hK.out _ _ ?_ (fun hH4 => ?_)
  · (try dsimp only)
    (try exact trivial)
  clear hK K hH3
  (try simp only [Act.put, List.setIfInBounds_toArray, List.set_cons_zero, List.set_cons_succ])
  refine wpAnyH_ready (rs := [9]) (by kernel_rfl) (by simp) ?_
  refine cons_l (i := 9) rfl (fun K hK => ?_) ?_
  (have hs0 := KR.out.cell (j := 0) (v := .slice none 0 0) rfl; have hf0 := KR.out.frozen 0; have hs1 := KR.out.cell (j := 1) (v := .int .i64 0) rfl; have hf1 := KR.out.frozen 1; have hs2 := KR.out.cell (j := 2) (v := .slice none 0 0) rfl; have hf2 := KR.out.frozen 2; go_simp; clear hs0 hf0 hs1 hf1 hs2 hf2; obtain ⟨wn, hwn⟩ : ∃ x, x = putAt wc (bR) 0 [.slice aT n cT, .int .i64 v, .slice (some ⟨bP, 0, none⟩) d d] := ⟨_, rfl⟩; have en : (((wc.setCell ⟨bR, 0, none⟩ (.slice aT n cT)).setCell ⟨bR, 1, none⟩ (.int .i64 v)).setCell ⟨bR, 2, none⟩ (.slice (some ⟨bP, 0, none⟩) d d)) = wn := (by rw [hwn]; rfl); rw [en]; clear en; have zz9 : wc.heap.size ≤ wn.heap.size := (by rw [hwn, put_size]; exact Nat.le_refl _); (first | replace HX := Lib.hid (show Ext W wn by rw [hwn]; exact put_ext (by first | assumption | omega) _ _ _ HX.out) | skip); (try replace KRES := Lib.hid (show RowAt wn (w.heap.size) 33 _ by rw [hwn]; exact put_other (by omega) _ _ _ KRES.out)); (first | replace OTT := Lib.hid (show PtOwn wn _ _ _ _ by rw [hwn]; exact OTT.out.putT KR.out (by decide)) | skip); replace KR := Lib.hid (RowAt.cast (c' := #[.slice aT n cT, .int .i64 v, .slice (some ⟨bP, 0, none⟩) d d]) (show RowAt wn (bR) 33 (putArr #[.slice none 0 0, .int .i64 0, .slice none 0 0] 0 [.slice aT n cT, .int .i64 v, .slice (some ⟨bP, 0, none⟩) d d]) by rw [hwn]; exact put_at _ _ _ _ KR.out) (by simp [putArr])); (try replace KP := Lib.hid (show RowAt wn (bP) 3 _ by rw [hwn]; exact put_other (by omega) _ _ _ KP.out)); clear hwn; obtain ⟨wc, hq⟩ : ∃ x, x = wn := ⟨_, rfl⟩; subst hq)
  refine hK.out _ _ ?_ (fun hH5 => ?_)
  · (try dsimp only)
    (try exact trivial)
  clear hK K hH4
  (try simp only [Act.put, List.setIfInBounds_toArray, List.set_cons_zero, List.set_cons_succ])
  refine wpAnyH_done (by kernel_rfl) ?_ _
  rotate_left
  exact AllReadyH.nil
  exact AllReadyH.nil
  refine cons_l (i := 8) rfl (fun K hK => ?_) ?_
  (go_simp; obtain ⟨bR, hbR⟩ : ∃ x, x = wc.heap.size := ⟨_, rfl⟩; obtain ⟨wn, hwn⟩ : ∃ x, x = wc.alloc (.cells #[.slice none 0 0, .int .i64 0, .slice none 0 0] 33) := ⟨_, rfl⟩; have hal : Ext wc wn := (by rw [hwn]; exact (Ext.refl wc).alloc _); have hk := RowAt.new wc 33 #[.slice none 0 0, .int .i64 0, .slice none 0 0]; rw [← hwn, ← hbR] at hk; rw [← hwn]; (try rw [← hbR]); have zz8 := hal.size; have lbR := hk.lt; have mbR : wc.heap.size ≤ bR := Nat.le_of_eq hbR.symm; have nbR : bR ≤ wc.heap.size := Nat.le_of_eq hbR; have xwbR : W.heap.size ≤ bR := Nat.le_trans HX.out.size mbR; clear hbR hwn; (try replace KRES := Lib.hid (KRES.out.ext hal)); (try replace KR := Lib.hid (KR.out.ext hal)); (try replace KP := Lib.hid (KP.out.ext hal)); (try replace OTT := Lib.hid (OTT.out.ext hal)); replace HX := Lib.hid (HX.out.trans hal); have KR := Lib.hid hk; clear hk hal; obtain ⟨wc, hq⟩ : ∃ x, x = wn := ⟨_, rfl⟩; subst hq)
  refine hK.out _ _ ?_ (fun hH3 => ?_)
  · (try dsimp only)
    (try exact trivial)
  clear hK K hH2
  (try simp only [Act.put, List.setIfInBounds_toArray, List.set_cons_zero, List.set_cons_succ])
  refine wpAnyH_ready (rs := [4]) (by kernel_rfl) (by simp) ?_
  refine cons_l (i := 4) rfl (fun K hK => ?_) ?_
  (go_simp; (go_at_call 28; with_reducible refine (implValueAt_is v _ _ _ ps _ _ HN.out hsm (HF.out.ext (HE0.out.trans HX.out)) hx HV.out).mono ?_); rintro e wc ⟨rfl, hb⟩; have zz4 := hb.size; (try replace KRES := Lib.hid (KRES.out.ext hb)); (try replace KR := Lib.hid (KR.out.ext hb)); (try replace KP := Lib.hid (KP.out.ext hb)); (try replace OTT := Lib.hid (OTT.out.ext hb)); replace HX := Lib.hid (HX.out.trans hb); clear hb)
  refine hK.out _ _ ?_ (fun hH4 => ?_)
  · (try dsimp only)
    (try exact trivial)
  clear hK K hH3
  (try simp only [Act.put, List.setIfInBounds_toArray, List.set_cons_zero, List.set_cons_succ])
  refine take_l 7 (v := ?_) rfl (by kernel_rfl) (by kernel_rfl) (by kernel_rfl) (fun _ _ _ h => h) (by rfl) ?_ (by assumption) ?_
  rotate_left
  · (intro w hSw; (try dsimp only at hSw); go_simp; (try with_reducible rfl))
  (try simp only [Act.put, List.setIfInBounds_toArray, List.set_cons_zero, List.set_cons_succ])
  refine wpAnyH_ready (rs := [9]) (by kernel_rfl) (by simp) ?_
  refine cons_l (i := 9) rfl (fun K hK => ?_) ?_
  (have hs0 := KR.out.cell (j := 0) (v := .slice none 0 0) rfl; have hf0 := KR.out.frozen 0; have hs1 := KR.out.cell (j := 1) (v := .int .i64 0) rfl; have hf1 := KR.out.frozen 1; have hs2 := KR.out.cell (j := 2) (v := .slice none 0 0) rfl; have hf2 := KR.out.frozen 2; go_simp; clear hs0 hf0 hs1 hf1 hs2 hf2; obtain ⟨wn, hwn⟩ : ∃ x, x = putAt wc (bR) 0 [.slice aT n cT, .int .i64 v, .slice (some ⟨bP, 0, none⟩) d d] := ⟨_, rfl⟩; have en : (((wc.setCell ⟨bR, 0, none⟩ (.slice aT n cT)).setCell ⟨bR, 1, none⟩ (.int .i64 v)).setCell ⟨bR, 2, none⟩ (.slice (some ⟨bP, 0, none⟩) d d)) = wn := (by rw [hwn]; rfl); rw [en]; clear en; have zz9 : wc.heap.size ≤ wn.heap.size := (by rw [hwn, put_size]; exact Nat.le_refl _); (first | replace HX := Lib.hid (show Ext W wn by rw [hwn]; exact put_ext (by first | assumption | omega) _ _ _ HX.out) | skip); (try replace KRES := Lib.hid (show RowAt wn (w.heap.size) 33 _ by rw [hwn]; exact put_other (by omega) _ _ _ KRES.out)); (first | replace OTT := Lib.hid (show PtOwn wn _ _ _ _ by rw [hwn]; exact OTT.out.putT KR.out (by decide)) | skip); replace KR := Lib.hid (RowAt.cast (c' := #[.slice aT n cT, .int .i64 v, .slice (some ⟨bP, 0, none⟩) d d]) (show RowAt wn (bR) 33 (putArr #[.slice none 0 0, .int .i64 0, .slice none 0 0] 0 [.slice aT n cT, .int .i64 v, .slice (some ⟨bP, 0, none⟩) d d]) by rw [hwn]; exact put_at _ _ _ _ KR.out) (by simp [putArr])); (try replace KP := Lib.hid (show RowAt wn (bP) 3 _ by rw [hwn]; exact put_other (by omega) _ _ _ KP.out)); clear hwn; obtain ⟨wc, hq⟩ : ∃ x, x = wn := ⟨_, rfl⟩; subst hq)
  refine hK.out _ _ ?_ (fun hH5 => ?_)
  · (try dsimp only)
    (try exact trivial)
  clear hK K hH4
  (try simp only [Act.put, List.setIfInBounds_toArray, List.set_cons_zero, List.set_cons_succ])
  refine wpAnyH_done (by kernel_rfl) ?_ _
  rotate_left
  exact AllReadyH.nil
  exact AllReadyH.nil
  exact AllReadyH.nil
  refine cons_l (i := 8) rfl (fun K hK => ?_) ?_
  (go_simp; obtain ⟨bR, hbR⟩ : ∃ x, x = wc.heap.size := ⟨_, rfl⟩; obtain ⟨wn, hwn⟩ : ∃ x, x = wc.alloc (.cells #[.slice none 0 0, .int .i64 0, .slice none 0 0] 33) := ⟨_, rfl⟩; have hal : Ext wc wn := (by rw [hwn]; exact (Ext.refl wc).alloc _); have hk := RowAt.new wc 33 #[.slice none 0 0, .int .i64 0, .slice none 0 0]; rw [← hwn, ← hbR] at hk; rw [← hwn]; (try rw [← hbR]); have zz8 := hal.size; have lbR := hk.lt; have mbR : wc.heap.size ≤ bR := Nat.le_of_eq hbR.symm; have nbR : bR ≤ wc.heap.size := Nat.le_of_eq hbR; have xwbR : W.heap.size ≤ bR := Nat.le_trans HX.out.size mbR; clear hbR hwn; (try replace KRES := Lib.hid (KRES.out.ext hal)); (try replace KR := Lib.hid (KR.out.ext hal)); (try replace KP := Lib.hid (KP.out.ext hal)); (try replace OTT := Lib.hid (OTT.out.ext hal)); replace HX := Lib.hid (HX.out.trans hal); have KR := Lib.hid hk; clear hk hal; obtain ⟨wc, hq⟩ : ∃ x, x = wn := ⟨_, rfl⟩; subst hq)
  refine hK.out _ _ ?_ (fun hH2 => ?_)
  · (try dsimp only)
    (try exact trivial)
  clear hK K hH1
  (try simp only [Act.put, List.setIfInBounds_toArray, List.set_cons_zero, List.set_cons_succ])
  refine wpAnyH_ready (rs := [4, 6]) (by kernel_rfl) (by simp) ?_
  refine cons_l (i := 4) rfl (fun K hK => ?_) ?_
  (go_simp; (go_at_call 28; with_reducible refine (implValueAt_is v _ _ _ ps _ _ HN.out hsm (HF.out.ext (HE0.out.trans HX.out)) hx HV.out).mono ?_); rintro e wc ⟨rfl, hb⟩; have zz4 := hb.size; (try replace KRES := Lib.hid (KRES.out.ext hb)); (try replace KR := Lib.hid (KR.out.ext hb)); (try replace KP := Lib.hid (KP.out.ext hb)); (try replace OTT := Lib.hid (OTT.out.ext hb)); replace HX := Lib.hid (HX.out.trans hb); clear hb)
  refine hK.out _ _ ?_ (fun hH3 => ?_)
  · (try dsimp only)
    (try exact trivial)
  clear hK K hH2
  (try simp only [Act.put, List.setIfInBounds_toArray, List.set_cons_zero, List.set_cons_succ])
  refine wpAnyH_ready (rs := [6]) (by kernel_rfl) (by simp) ?_
  refine cons_l (i := 6) rfl (fun K hK => ?_) ?_
  (go_simp; obtain ⟨bP, hbP⟩ : ∃ x, x = wc.heap.size := ⟨_, rfl⟩; obtain ⟨wn, hwn⟩ : ∃ x, x = wc.alloc (.cells M 3) := ⟨_, rfl⟩; have hal : Ext wc wn := (by rw [hwn]; exact (Ext.refl wc).alloc _); have hk := RowAt.new wc 3 M; rw [← hwn, ← hbP] at hk; (try rw [← hwn]); (try rw [← hbP]); have zz6 := hal.size; have lbP := hk.lt; have mbP : wc.heap.size ≤ bP := Nat.le_of_eq hbP.symm; have nbP : bP ≤ wc.heap.size := Nat.le_of_eq hbP; have xwbP : W.heap.size ≤ bP := Nat.le_trans HX.out.size mbP; clear hbP hwn; (try replace KRES := Lib.hid (KRES.out.ext hal)); (try replace KR := Lib.hid (KR.out.ext hal)); (try replace KP := Lib.hid (KP.out.ext hal)); (try replace OTT := Lib.hid (OTT.out.ext hal)); replace HX := Lib.hid (HX.out.trans hal); have KP := Lib.hid hk; clear hk hal; obtain ⟨wc, hq⟩ : ∃ x, x = wn := ⟨_, rfl⟩; subst hq)
  refine hK.out _ _ ?_ (fun hH4 => ?_)
  · (try dsimp only)
    (try exact trivial)
  clear hK K hH3
  (try simp only [Act.put, List.setIfInBounds_toArray, List.set_cons_zero, List.set_cons_succ])
  refine take_l 7 (v := ?_) rfl (by kernel_rfl) (by kernel_rfl) (by kernel_rfl) (fun _ _ _ h => h) (by rfl) ?_ (by assumption) ?_
  rotate_left
  · (intro w hSw; (try dsimp only at hSw); go_simp; (try with_reducible rfl))
  (try simp only [Act.put, List.setIfInBounds_toArray, List.set_cons_zero, List.set_cons_succ])
  refine wpAnyH_ready (rs := [9]) (by kernel_rfl) (by simp) ?_
  refine cons_l (i := 9) rfl (fun K hK => ?_) ?_
  (have hs0 := KR.out.cell (j := 0) (v := .slice none 0 0) rfl; have hf0 := KR.out.frozen 0; have hs1 := KR.out.cell (j := 1) (v := .int .i64 0) rfl; have hf1 := KR.out.frozen 1; have hs2 := KR.out.cell (j := 2) (v := .slice none 0 0) rfl; have hf2 := KR.out.frozen 2; go_simp; clear hs0 hf0 hs1 hf1 hs2 hf2; obtain ⟨wn, hwn⟩ : ∃ x, x = putAt wc (bR) 0 [.slice aT n cT, .int .i64 v, .slice (some ⟨bP, 0, none⟩) d d] := ⟨_, rfl⟩; have en : (((wc.setCell ⟨bR, 0, none⟩ (.slice aT n cT)).setCell ⟨bR, 1, none⟩ (.int .i64 v)).setCell ⟨bR, 2, none⟩ (.slice (some ⟨bP, 0, none⟩) d d)) = wn := (by rw [hwn]; rfl); rw [en]; clear en; have zz9 : wc.heap.size ≤ wn.heap.size := (by rw [hwn, put_size]; exact Nat.le_refl _); (first | replace HX := Lib.hid (show Ext W wn by rw [hwn]; exact put_ext (by first | assumption | omega) _ _ _ HX.out) | skip); (try replace KRES := Lib.hid (show RowAt wn (w.heap.size) 33 _ by rw [hwn]; exact put_other (by omega) _ _ _ KRES.out)); (first | replace OTT := Lib.hid (show PtOwn wn _ _ _ _ by rw [hwn]; exact OTT.out.putT KR.out (by decide)) | skip); replace KR := Lib.hid (RowAt.cast (c' := #[.slice aT n cT, .int .i64 v, .slice (some ⟨bP, 0, none⟩) d d]) (show RowAt wn (bR) 33 (putArr #[.slice none 0 0, .int .i64 0, .slice none 0 0] 0 [.slice aT n cT, .int .i64 v, .slice (some ⟨bP, 0, none⟩) d d]) by rw [hwn]; exact put_at _ _ _ _ KR.out) (by simp [putArr])); (try replace KP := Lib.hid (show RowAt wn (bP) 3 _ by rw [hwn]; exact put_other (by omega) _ _ _ KP.out)); clear hwn; obtain ⟨wc, hq⟩ : ∃ x, x = wn := ⟨_, rfl⟩; subst hq)
  refine hK.out _ _ ?_ (fun hH5 => ?_)
  · (try dsimp only)
    (try exact trivial)
  clear hK K hH4
  (try simp only [Act.put, List.setIfInBounds_toArray, List.set_cons_zero, List.set_cons_succ])
  refine wpAnyH_done (by kernel_rfl) ?_ _
  rotate_left
  exact AllReadyH.nil
  exact AllReadyH.nil
  refine cons_l (i := 6) rfl (fun K hK => ?_) ?_
  (go_simp; obtain ⟨bP, hbP⟩ : ∃ x, x = wc.heap.size := ⟨_, rfl⟩; obtain ⟨wn, hwn⟩ : ∃ x, x = wc.alloc (.cells M 3) := ⟨_, rfl⟩; have hal : Ext wc wn := (by rw [hwn]; exact (Ext.refl wc).alloc _); have hk := RowAt.new wc 3 M; rw [← hwn, ← hbP] at hk; (try rw [← hwn]); (try rw [← hbP]); have zz6 := hal.size; have lbP := hk.lt; have mbP : wc.heap.size ≤ bP := Nat.le_of_eq hbP.symm; have nbP : bP ≤ wc.heap.size := Nat.le_of_eq hbP; have xwbP : W.heap.size ≤ bP := Nat.le_trans HX.out.size mbP; clear hbP hwn; (try replace KRES := Lib.hid (KRES.out.ext hal)); (try replace KR := Lib.hid (KR.out.ext hal)); (try replace KP := Lib.hid (KP.out.ext hal)); (try replace OTT := Lib.hid (OTT.out.ext hal)); replace HX := Lib.hid (HX.out.trans hal); have KP := Lib.hid hk; clear hk hal; obtain ⟨wc, hq⟩ : ∃ x, x = wn := ⟨_, rfl⟩; subst hq)
  refine hK.out _ _ ?_ (fun hH3 => ?_)
  · (try dsimp only)
    (try exact trivial)
  clear hK K hH2
  (try simp only [Act.put, List.setIfInBounds_toArray, List.set_cons_zero, List.set_cons_succ])
  refine wpAnyH_ready (rs := [4]) (by kernel_rfl) (by simp) ?_
  refine cons_l (i := 4) rfl (fun K hK => ?_) ?_
  (go_simp; (go_at_call 28; with_reducible refine (implValueAt_is v _ _ _ ps _ _ HN.out hsm (HF.out.ext (HE0.out.trans HX.out)) hx HV.out).mono ?_); rintro e wc ⟨rfl, hb⟩; have zz4 := hb.size; (try replace KRES := Lib.hid (KRES.out.ext hb)); (try replace KR := Lib.hid (KR.out.ext hb)); (try replace KP := Lib.hid (KP.out.ext hb)); (try replace OTT := Lib.hid (OTT.out.ext hb)); replace HX := Lib.hid (HX.out.trans hb); clear hb)
  refine hK.out _ _ ?_ (fun hH4 => ?_)
  · (try dsimp only)
    (try exact trivial)
  clear hK K hH3
  (try simp only [Act.put, List.setIfInBounds_toArray, List.set_cons_zero, List.set_cons_succ])
  refine take_l 7 (v := ?_) rfl (by kernel_rfl) (by kernel_rfl) (by kernel_rfl) (fun _ _ _ h => h) (by rfl) ?_ (by assumption) ?_
  rotate_left
  · (intro w hSw; (try dsimp only at hSw); go_simp; (try with_reducible rfl))
  (try simp only [Act.put, List.setIfInBounds_toArray, List.set_cons_zero, List.set_cons_succ])
  refine wpAnyH_ready (rs := [9]) (by kernel_rfl) (by simp) ?_
  refine cons_l (i := 9) rfl (fun K hK => ?_) ?_
  (have hs0 := KR.out.cell (j := 0) (v := .slice none 0 0) rfl; have hf0 := KR.out.frozen 0; have hs1 := KR.out.cell (j := 1) (v := .int .i64 0) rfl; have hf1 := KR.out.frozen 1; have hs2 := KR.out.cell (j := 2) (v := .slice none 0 0) rfl; have hf2 := KR.out.frozen 2; go_simp; clear hs0 hf0 hs1 hf1 hs2 hf2; obtain ⟨wn, hwn⟩ : ∃ x, x = putAt wc (bR) 0 [.slice aT n cT, .int .i64 v, .slice (some ⟨bP, 0, none⟩) d d] := ⟨_, rfl⟩; have en : (((wc.setCell ⟨bR, 0, none⟩ (.slice aT n cT)).setCell ⟨bR, 1, none⟩ (.int .i64 v)).setCell ⟨bR, 2, none⟩ (.slice (some ⟨bP, 0, none⟩) d d)) = wn := (by rw [hwn]; rfl); rw [en]; clear en; have zz9 : wc.heap.size ≤ wn.heap.size := (by rw [hwn, put_size]; exact Nat.le_refl _); (first | replace HX := Lib.hid (show Ext W wn by rw [hwn]; exact put_ext (by first | assumption | omega) _ _ _ HX.out) | skip); (try replace KRES := Lib.hid (show RowAt wn (w.heap.size) 33 _ by rw [hwn]; exact put_other (by omega) _ _ _ KRES.out)); (first | replace OTT := Lib.hid (show PtOwn wn _ _ _ _ by rw [hwn]; exact OTT.out.putT KR.out (by decide)) | skip); replace KR := Lib.hid (RowAt.cast (c' := #[.slice aT n cT, .int .i64 v, .slice (some ⟨bP, 0, none⟩) d d]) (show RowAt wn (bR) 33 (putArr #[.slice none 0 0, .int .i64 0, .slice none 0 0] 0 [.slice aT n cT, .int .i64 v, .slice (some ⟨bP, 0, none⟩) d d]) by rw [hwn]; exact put_at _ _ _ _ KR.out) (by simp [putArr])); (try replace KP := Lib.hid (show RowAt wn (bP) 3 _ by rw [hwn]; exact put_other (by omega) _ _ _ KP.out)); clear hwn; obtain ⟨wc, hq⟩ : ∃ x, x = wn := ⟨_, rfl⟩; subst hq)
  refine hK.out _ _ ?_ (fun hH5 => ?_)
  · (try dsimp only)
    (try exact trivial)
  clear hK K hH4
  (try simp only [Act.put, List.setIfInBounds_toArray, List.set_cons_zero, List.set_cons_succ])
  refine wpAnyH_done (by kernel_rfl) ?_ _
  rotate_left
  exact AllReadyH.nil
  exact AllReadyH.nil
  exact AllReadyH.nil
  exact AllReadyH.nil
  refine cons_l (i := 6) rfl (fun K hK => ?_) ?_
  (go_simp; obtain ⟨bP, hbP⟩ : ∃ x, x = wc.heap.size := ⟨_, rfl⟩; obtain ⟨wn, hwn⟩ : ∃ x, x = wc.alloc (.cells M 3) := ⟨_, rfl⟩; have hal : Ext wc wn := (by rw [hwn]; exact (Ext.refl wc).alloc _); have hk := RowAt.new wc 3 M; rw [← hwn, ← hbP] at hk; (try rw [← hwn]); (try rw [← hbP]); have zz6 := hal.size; have lbP := hk.lt; have mbP : wc.heap.size ≤ bP := Nat.le_of_eq hbP.symm; have nbP : bP ≤ wc.heap.size := Nat.le_of_eq hbP; have xwbP : W.heap.size ≤ bP := Nat.le_trans HX.out.size mbP; clear hbP hwn; (try replace KRES := Lib.hid (KRES.out.ext hal)); (try replace KR := Lib.hid (KR.out.ext hal)); (try replace KP := Lib.hid (KP.out.ext hal)); (try replace OTT := Lib.hid (OTT.out.ext hal)); replace HX := Lib.hid (HX.out.trans hal); have KP := Lib.hid hk; clear hk hal; obtain ⟨wc, hq⟩ : ∃ x, x = wn := ⟨_, rfl⟩; subst hq)
  refine hK.out _ _ ?_ (fun hH1 => ?_)
  · (try dsimp only)
    (try exact trivial)
  clear hK K hH0
  (try simp only [Act.put, List.setIfInBounds_toArray, List.set_cons_zero, List.set_cons_succ])
  refine wpAnyH_ready (rs := [1, 8]) (by kernel_rfl) (by simp) ?_
  refine cons_l (i := 1) rfl (fun K hK => ?_) ?_
  (go_simp; obtain ⟨loT, hloT⟩ : ∃ n, n = wc.heap.size := ⟨_, rfl⟩; have mloT : loT ≤ wc.heap.size := Nat.le_of_eq hloT; have nloT : wc.heap.size ≤ loT := Nat.le_of_eq hloT.symm; have xwloT : W.heap.size ≤ loT := Nat.le_trans HX.out.size nloT; (go_at_call 27; with_reducible refine (clonePts_any _ _ _ ps _ HN.out hs trivial (HF.out.ext (HE0.out.trans HX.out))).mono ?_); rintro e wc ⟨aT, cT, rfl, hoT, hb⟩; have zz1 := hb.size; obtain ⟨hiT, hhiT⟩ : ∃ n, n = wc.heap.size := ⟨_, rfl⟩; have mhiT : hiT ≤ wc.heap.size := Nat.le_of_eq hhiT; have nhiT : wc.heap.size ≤ hiT := Nat.le_of_eq hhiT.symm; (try rw [← hloT] at hoT); (try rw [← hhiT] at hoT); clear hloT; clear hhiT; (try replace KRES := Lib.hid (KRES.out.ext hb)); (try replace KR := Lib.hid (KR.out.ext hb)); (try replace KP := Lib.hid (KP.out.ext hb)); (try replace OTT := Lib.hid (OTT.out.ext hb)); replace HX := Lib.hid (HX.out.trans hb); have OTT := Lib.hid hoT; clear hoT; clear hb)
  refine hK.out _ _ ?_ (fun hH2 => ?_)
  · (try dsimp only)
    (try exact trivial)
  clear hK K hH1
  (try simp only [Act.put, List.setIfInBounds_toArray, List.set_cons_zero, List.set_cons_succ])
  refine wpAnyH_ready (rs := [4, 8]) (by kernel_rfl) (by simp) ?_
  refine cons_l (i := 4) rfl (fun K hK => ?_) ?_
  (go_simp; (go_at_call 28; with_reducible refine (implValueAt_is v _ _ _ ps _ _ HN.out hsm (HF.out.ext (HE0.out.trans HX.out)) hx HV.out).mono ?_); rintro e wc ⟨rfl, hb⟩; have zz4 := hb.size; (try replace KRES := Lib.hid (KRES.out.ext hb)); (try replace KR := Lib.hid (KR.out.ext hb)); (try replace KP := Lib.hid (KP.out.ext hb)); (try replace OTT := Lib.hid (OTT.out.ext hb)); replace HX := Lib.hid (HX.out.trans hb); clear hb)
  refine hK.out _ _ ?_ (fun hH3 => ?_)
  · (try dsimp only)
    (try exact trivial)
  clear hK K hH2
  (try simp only [Act.put, List.setIfInBounds_toArray, List.set_cons_zero, List.set_cons_succ])
  refine take_l 7 (v := ?_) rfl (by kernel_rfl) (by kernel_rfl) (by kernel_rfl) (fun _ _ _ h => h) (by rfl) ?_ (by assumption) ?_
  rotate_left
  · (intro w hSw; (try dsimp only at hSw); go_simp; (try with_reducible rfl))
  (try simp only [Act.put, List.setIfInBounds_toArray, List.set_cons_zero, List.set_cons_succ])
  refine wpAnyH_ready (rs := [8]) (by kernel_rfl) (by simp) ?_
  refine cons_l (i := 8) rfl (fun K hK => ?_) ?_
  (go_simp; obtain ⟨bR, hbR⟩ : ∃ x, x = wc.heap.size := ⟨_, rfl⟩; obtain ⟨wn, hwn⟩ : ∃ x, x = wc.alloc (.cells #[.slice none 0 0, .int .i64 0, .slice none 0 0] 33) := ⟨_, rfl⟩; have hal : Ext wc wn := (by rw [hwn]; exact (Ext.refl wc).alloc _); have hk := RowAt.new wc 33 #[.slice none 0 0, .int .i64 0, .slice none 0 0]; rw [← hwn, ← hbR] at hk; rw [← hwn]; (try rw [← hbR]); have zz8 := hal.size; have lbR := hk.lt; have mbR : wc.heap.size ≤ bR := Nat.le_of_eq hbR.symm; have nbR : bR ≤ wc.heap.size := Nat.le_of_eq hbR; have xwbR : W.heap.size ≤ bR := Nat.le_trans HX.out.size mbR; clear hbR hwn; (try replace KRES := Lib.hid (KRES.out.ext hal)); (try replace KR := Lib.hid (KR.out.ext hal)); (try replace KP := Lib.hid (KP.out.ext hal)); (try replace OTT := Lib.hid (OTT.out.ext hal)); replace HX := Lib.hid (HX.out.trans hal); have KR := Lib.hid hk; clear hk hal; obtain ⟨wc, hq⟩ : ∃ x, x = wn := ⟨_, rfl⟩; subst hq)
  refine hK.out _ _ ?_ (fun hH4 => ?_)
  · (try dsimp only)
    (try exact trivial)
  clear hK K hH3
  (try simp only [Act.put, List.setIfInBounds_toArray, List.set_cons_zero, List.set_cons_succ])
  refine wpAnyH_ready (rs := [9]) (by kernel_rfl) (by simp) ?_
  refine cons_l (i := 9) rfl (fun K hK => ?_) ?_
  (have hs0 := KR.out.cell (j := 0) (v := .slice none 0 0) rfl; have hf0 := KR.out.frozen 0; have hs1 := KR.out.cell (j := 1) (v := .int .i64 0) rfl; have hf1 := KR.out.frozen 1; have hs2 := KR.out.cell (j := 2) (v := .slice none 0 0) rfl; have hf2 := KR.out.frozen 2; go_simp; clear hs0 hf0 hs1 hf1 hs2 hf2; obtain ⟨wn, hwn⟩ : ∃ x, x = putAt wc (bR) 0 [.slice aT n cT, .int .i64 v, .slice (some ⟨bP, 0, none⟩) d d] := ⟨_, rfl⟩; have en : (((wc.setCell ⟨bR, 0, none⟩ (.slice aT n cT)).setCell ⟨bR, 1, none⟩ (.int .i64 v)).setCell ⟨bR, 2, none⟩ (.slice (some ⟨bP, 0, none⟩) d d)) = wn := (by rw [hwn]; rfl); rw [en]; clear en; have zz9 : wc.heap.size ≤ wn.heap.size := (by rw [hwn, put_size]; exact Nat.le_refl _); (first | replace HX := Lib.hid (show Ext W wn by rw [hwn]; exact put_ext (by first | assumption | omega) _ _ _ HX.out) | skip); (try replace KRES := Lib.hid (show RowAt wn (w.heap.size) 33 _ by rw [hwn]; exact put_other (by omega) _ _ _ KRES.out)); (first | replace OTT := Lib.hid (show PtOwn wn _ _ _ _ by rw [hwn]; exact OTT.out.putT KR.out (by decide)) | skip); replace KR := Lib.hid (RowAt.cast (c' := #[.slice aT n cT, .int .i64 v, .slice (some ⟨bP, 0, none⟩) d d]) (show RowAt wn (bR) 33 (putArr #[.slice none 0 0, .int .i64 0, .slice none 0 0] 0 [.slice aT n cT, .int .i64 v, .slice (some ⟨bP, 0, none⟩) d d]) by rw [hwn]; exact put_at _ _ _ _ KR.out) (by simp [putArr])); (try replace KP := Lib.hid (show RowAt wn (bP) 3 _ by rw [hwn]; exact put_other (by omega) _ _ _ KP.out)); clear hwn; obtain ⟨wc, hq⟩ : ∃ x, x = wn := ⟨_, rfl⟩; subst hq)
  refine hK.out _ _ ?_ (fun hH5 => ?_)
  · (try dsimp only)
    (try exact trivial)
  clear hK K hH4
  (try simp only [Act.put, List.setIfInBounds_toArray, List.set_cons_zero, List.set_cons_succ])
  refine wpAnyH_done (by kernel_rfl) ?_ _
  rotate_left
  exact AllReadyH.nil
  exact AllReadyH.nil
  refine cons_l (i := 8) rfl (fun K hK => ?_) ?_
  (go_simp; obtain ⟨bR, hbR⟩ : ∃ x, x = wc.heap.size := ⟨_, rfl⟩; obtain ⟨wn, hwn⟩ : ∃ x, x = wc.alloc (.cells #[.slice none 0 0, .int .i64 0, .slice none 0 0] 33) := ⟨_, rfl⟩; have hal : Ext wc wn := (by rw [hwn]; exact (Ext.refl wc).alloc _); have hk := RowAt.new wc 33 #[.slice none 0 0, .int .i64 0, .slice none 0 0]; rw [← hwn, ← hbR] at hk; rw [← hwn]; (try rw [← hbR]); have zz8 := hal.size; have lbR := hk.lt; have mbR : wc.heap.size ≤ bR := Nat.le_of_eq hbR.symm; have nbR : bR ≤ wc.heap.size := Nat.le_of_eq hbR; have xwbR : W.heap.size ≤ bR := Nat.le_trans HX.out.size mbR; clear hbR hwn; (try replace KRES := Lib.hid (KRES.out.ext hal)); (try replace KR := Lib.hid (KR.out.ext hal)); (try replace KP := Lib.hid (KP.out.ext hal)); (try replace OTT := Lib.hid (OTT.out.ext hal)); replace HX := Lib.hid (HX.out.trans hal); have KR := Lib.hid hk; clear hk hal; obtain ⟨wc, hq⟩ : ∃ x, x = wn := ⟨_, rfl⟩; subst hq)
  refine hK.out _ _ ?_ (fun hH3 => ?_)
  · (try dsimp only)
    (try exact trivial)
  clear hK K hH2
  (try simp only [Act.put, List.setIfInBounds_toArray, List.set_cons_zero, List.set_cons_succ])
  refine wpAnyH_ready (rs := [4]) (by kernel_rfl) (by simp) ?_
  refine cons_l (i := 4) rfl (fun K hK => ?_) ?_
  (go_simp; (go_at_call 28; with_reducible refine (implValueAt_is v _ _ _ ps _ _ HN.out hsm (HF.out.ext (HE0.out.trans HX.out)) hx HV.out).mono ?_); rintro e wc ⟨rfl, hb⟩; have zz4 := hb.size; (try replace KRES := Lib.hid (KRES.out.ext hb)); (try replace KR := Lib.hid (KR.out.ext hb)); (try replace KP := Lib.hid (KP.out.ext hb)); (try replace OTT := Lib.hid (OTT.out.ext hb)); replace HX := Lib.hid (HX.out.trans hb); clear hb)
  refine hK.out _ _ ?_ (fun hH4 => ?_)
  · (try dsimp only)
    (try exact trivial)
  clear hK K hH3
  (try simp only [Act.put, List.setIfInBounds_toArray, List.set_cons_zero, List.set_cons_succ])
  refine take_l 7 (v := ?_) rfl (by kernel_rfl) (by kernel_rfl) (by kernel_rfl) (fun _ _ _ h => h) (by rfl) ?_ (by assumption) ?_
  rotate_left
  · (intro w hSw; (try dsimp only at hSw); go_simp; (try with_reducible rfl))
  (try simp only [Act.put, List.setIfInBounds_toArray, List.set_cons_zero, List.set_cons_succ])
  refine wpAnyH_ready (rs := [9]) (by kernel_rfl) (by simp) ?_
  refine cons_l (i := 9) rfl (fun K hK => ?_) ?_
  (have hs0 := KR.out.cell (j := 0) (v := .slice none 0 0) rfl; have hf0 := KR.out.frozen 0; have hs1 := KR.out.cell (j := 1) (v := .int .i64 0) rfl; have hf1 := KR.out.frozen 1; have hs2 := KR.out.cell (j := 2) (v := .slice none 0 0) rfl; have hf2 := KR.out.frozen 2; go_simp; clear hs0 hf0 hs1 hf1 hs2 hf2; obtain ⟨wn, hwn⟩ : ∃ x, x = putAt wc (bR) 0 [.slice aT n cT, .int .i64 v, .slice (some ⟨bP, 0, none⟩) d d] := ⟨_, rfl⟩; have en : (((wc.setCell ⟨bR, 0, none⟩ (.slice aT n cT)).setCell ⟨bR, 1, none⟩ (.int .i64 v)).setCell ⟨bR, 2, none⟩ (.slice (some ⟨bP, 0, none⟩) d d)) = wn := (by rw [hwn]; rfl); rw [en]; clear en; have zz9 : wc.heap.size ≤ wn.heap.size := (by rw [hwn, put_size]; exact Nat.le_refl _); (first | replace HX := Lib.hid (show Ext W wn by rw [hwn]; exact put_ext (by first | assumption | omega) _ _ _ HX.out) | skip); (try replace KRES := Lib.hid (show RowAt wn (w.heap.size) 33 _ by rw [hwn]; exact put_other (by omega) _ _ _ KRES.out)); (first | replace OTT := Lib.hid (show PtOwn wn _ _ _ _ by rw [hwn]; exact OTT.out.putT KR.out (by decide)) | skip); replace KR := Lib.hid (RowAt.cast (c' := #[.slice aT n cT, .int .i64 v, .slice (some ⟨bP, 0, none⟩) d d]) (show RowAt wn (bR) 33 (putArr #[.slice none 0 0, .int .i64 0, .slice none 0 0] 0 [.slice aT n cT, .int .i64 v, .slice (some ⟨bP, 0, none⟩) d d]) by rw [hwn]; exact put_at _ _ _ _ KR.out) (by simp [putArr])); (try replace KP := Lib.hid (show RowAt wn (bP) 3 _ by rw [hwn]; exact put_other (by omega) _ _ _ KP.out)); clear hwn; obtain ⟨wc, hq⟩ : ∃ x, x = wn := ⟨_, rfl⟩; subst hq)
  refine hK.out _ _ ?_ (fun hH5 => ?_)
  · (try dsimp only)
    (try exact trivial)
  clear hK K hH4
  (try simp only [Act.put, List.setIfInBounds_toArray, List.set_cons_zero, List.set_cons_succ])
  refine wpAnyH_done (by kernel_rfl) ?_ _
  rotate_left
  exact AllReadyH.nil
  exact AllReadyH.nil
  exact AllReadyH.nil
  refine cons_l (i := 8) rfl (fun K hK => ?_) ?_
  (go_simp; obtain ⟨bR, hbR⟩ : ∃ x, x = wc.heap.size := ⟨_, rfl⟩; obtain ⟨wn, hwn⟩ : ∃ x, x = wc.alloc (.cells #[.slice none 0 0, .int .i64 0, .slice none 0 0] 33) := ⟨_, rfl⟩; have hal : Ext wc wn := (by rw [hwn]; exact (Ext.refl wc).alloc _); have hk := RowAt.new wc 33 #[.slice none 0 0, .int .i64 0, .slice none 0 0]; rw [← hwn, ← hbR] at hk; rw [← hwn]; (try rw [← hbR]); have zz8 := hal.size; have lbR := hk.lt; have mbR : wc.heap.size ≤ bR := Nat.le_of_eq hbR.symm; have nbR : bR ≤ wc.heap.size := Nat.le_of_eq hbR; have xwbR : W.heap.size ≤ bR := Nat.le_trans HX.out.size mbR; clear hbR hwn; (try replace KRES := Lib.hid (KRES.out.ext hal)); (try replace KR := Lib.hid (KR.out.ext hal)); (try replace KP := Lib.hid (KP.out.ext hal)); (try replace OTT := Lib.hid (OTT.out.ext hal)); replace HX := Lib.hid (HX.out.trans hal); have KR := Lib.hid hk; clear hk hal; obtain ⟨wc, hq⟩ : ∃ x, x = wn := ⟨_, rfl⟩; subst hq)
  refine hK.out _ _ ?_ (fun hH2 => ?_)
  · (try dsimp only)
    (try exact trivial)
  clear hK K hH1
  (try simp only [Act.put, List.setIfInBounds_toArray, List.set_cons_zero, List.set_cons_succ])
  refine wpAnyH_ready (rs := [1]) (by kernel_rfl) (by simp) ?_
  refine cons_l (i := 1) rfl (fun K hK => ?_) ?_
  (go_simp; obtain ⟨loT, hloT⟩ : ∃ n, n = wc.heap.size := ⟨_, rfl⟩; have mloT : loT ≤ wc.heap.size := Nat.le_of_eq hloT; have nloT : wc.heap.size ≤ loT := Nat.le_of_eq hloT.symm; have xwloT : W.heap.size ≤ loT := Nat.le_trans HX.out.size nloT; (go_at_call 27; with_reducible refine (clonePts_any _ _ _ ps _ HN.out hs trivial (HF.out.ext (HE0.out.trans HX.out))).mono ?_); rintro e wc ⟨aT, cT, rfl, hoT, hb⟩; have zz1 := hb.size; obtain ⟨hiT, hhiT⟩ : ∃ n, n = wc.heap.size := ⟨_, rfl⟩; have mhiT : hiT ≤ wc.heap.size := Nat.le_of_eq hhiT; have nhiT : wc.heap.size ≤ hiT := Nat.le_of_eq hhiT.symm; (try rw [← hloT] at hoT); (try rw [← hhiT] at hoT); clear hloT; clear hhiT; (try replace KRES := Lib.hid (KRES.out.ext hb)); (try replace KR := Lib.hid (KR.out.ext hb)); (try replace KP := Lib.hid (KP.out.ext hb)); (try replace OTT := Lib.hid (OTT.out.ext hb)); replace HX := Lib.hid (HX.out.trans hb); have OTT := Lib.hid hoT; clear hoT; clear hb)
  refine hK.out _ _ ?_ (fun hH3 => ?_)
  · (try dsimp only)
    (try exact trivial)
  clear hK K hH2
  (try simp only [Act.put, List.setIfInBounds_toArray, List.set_cons_zero, List.set_cons_succ])
  refine wpAnyH_ready (rs := [4]) (by kernel_rfl) (by simp) ?_
  refine cons_l (i := 4) rfl (fun K hK => ?_) ?_
  (go_simp; (go_at_call 28; with_reducible refine (implValueAt_is v _ _ _ ps _ _ HN.out hsm (HF.out.ext (HE0.out.trans HX.out)) hx HV.out).mono ?_); rintro e wc ⟨rfl, hb⟩; have zz4 := hb.size; (try replace KRES := Lib.hid (KRES.out.ext hb)); (try replace KR := Lib.hid (KR.out.ext hb)); (try replace KP := Lib.hid (KP.out.ext hb)); (try replace OTT := Lib.hid (OTT.out.ext hb)); replace HX := Lib.hid (HX.out.trans hb); clear hb)
  refine hK.out _ _ ?_ (fun hH4 => ?_)
  · (try dsimp only)
    (try exact trivial)
  clear hK K hH3
  (try simp only [Act.put, List.setIfInBounds_toArray, List.set_cons_zero, List.set_cons_succ])
  refine take_l 7 (v := ?_) rfl (by kernel_rfl) (by kernel_rfl) (by kernel_rfl) (fun _ _ _ h => h) (by rfl) ?_ (by assumption) ?_
  rotate_left
  · (intro w hSw; (try dsimp only at hSw); go_simp; (try with_reducible rfl))
  (try simp only [Act.put, List.setIfInBounds_toArray, List.set_cons_zero, List.set_cons_succ])
  refine wpAnyH_ready (rs := [9]) (by kernel_rfl) (by simp) ?_
  refine cons_l (i := 9) rfl (fun K hK => ?_) ?_
  (have hs0 := KR.out.cell (j := 0) (v := .slice none 0 0) rfl; have hf0 := KR.out.frozen 0; have hs1 := KR.out.cell (j := 1) (v := .int .i64 0) rfl; have hf1 := KR.out.frozen 1; have hs2 := KR.out.cell (j := 2) (v := .slice none 0 0) rfl; have hf2 := KR.out.frozen 2; go_simp; clear hs0 hf0 hs1 hf1 hs2 hf2; obtain ⟨wn, hwn⟩ : ∃ x, x = putAt wc (bR) 0 [.slice aT n cT, .int .i64 v, .slice (some ⟨bP, 0, none⟩) d d] := ⟨_, rfl⟩; have en : (((wc.setCell ⟨bR, 0, none⟩ (.slice aT n cT)).setCell ⟨bR, 1, none⟩ (.int .i64 v)).setCell ⟨bR, 2, none⟩ (.slice (some ⟨bP, 0, none⟩) d d)) = wn := (by rw [hwn]; rfl); rw [en]; clear en; have zz9 : wc.heap.size ≤ wn.heap.size := (by rw [hwn, put_size]; exact Nat.le_refl _); (first | replace HX := Lib.hid (show Ext W wn by rw [hwn]; exact put_ext (by first | assumption | omega) _ _ _ HX.out) | skip); (try replace KRES := Lib.hid (show RowAt wn (w.heap.size) 33 _ by rw [hwn]; exact put_other (by omega) _ _ _ KRES.out)); (first | replace OTT := Lib.hid (show PtOwn wn _ _ _ _ by rw [hwn]; exact OTT.out.putT KR.out (by decide)) | skip); replace KR := Lib.hid (RowAt.cast (c' := #[.slice aT n cT, .int .i64 v, .slice (some ⟨bP, 0, none⟩) d d]) (show RowAt wn (bR) 33 (putArr #[.slice none 0 0, .int .i64 0, .slice none 0 0] 0 [.slice aT n cT, .int .i64 v, .slice (some ⟨bP, 0, none⟩) d d]) by rw [hwn]; exact put_at _ _ _ _ KR.out) (by simp [putArr])); (try replace KP := Lib.hid (show RowAt wn (bP) 3 _ by rw [hwn]; exact put_other (by omega) _ _ _ KP.out)); clear hwn; obtain ⟨wc, hq⟩ : ∃ x, x = wn := ⟨_, rfl⟩; subst hq)
  refine hK.out _ _ ?_ (fun hH5 => ?_)
  · (try dsimp only)
    (try exact trivial)
  clear hK K hH4
  (try simp only [Act.put, List.setIfInBounds_toArray, List.set_cons_zero, List.set_cons_succ])
  refine wpAnyH_done (by kernel_rfl) ?_ _
  rotate_left
  exact AllReadyH.nil
  exact AllReadyH.nil
  exact AllReadyH.nil
  exact AllReadyH.nil
  refine cons_l (i := 8) rfl (fun K hK => ?_) ?_
  (go_simp; obtain ⟨bR, hbR⟩ : ∃ x, x = wc.heap.size := ⟨_, rfl⟩; obtain ⟨wn, hwn⟩ : ∃ x, x = wc.alloc (.cells #[.slice none 0 0, .int .i64 0, .slice none 0 0] 33) := ⟨_, rfl⟩; have hal : Ext wc wn := (by rw [hwn]; exact (Ext.refl wc).alloc _); have hk := RowAt.new wc 33 #[.slice none 0 0, .int .i64 0, .slice none 0 0]; rw [← hwn, ← hbR] at hk; rw [← hwn]; (try rw [← hbR]); have zz8 := hal.size; have lbR := hk.lt; have mbR : wc.heap.size ≤ bR := Nat.le_of_eq hbR.symm; have nbR : bR ≤ wc.heap.size := Nat.le_of_eq hbR; have xwbR : W.heap.size ≤ bR := Nat.le_trans HX.out.size mbR; clear hbR hwn; (try replace KRES := Lib.hid (KRES.out.ext hal)); (try replace KR := Lib.hid (KR.out.ext hal)); (try replace KP := Lib.hid (KP.out.ext hal)); (try replace OTT := Lib.hid (OTT.out.ext hal)); replace HX := Lib.hid (HX.out.trans hal); have KR := Lib.hid hk; clear hk hal; obtain ⟨wc, hq⟩ : ∃ x, x = wn := ⟨_, rfl⟩; subst hq)
  refine hK.out _ _ ?_ (fun hH1 => ?_)
  · (try dsimp only)
    (try exact trivial)
  clear hK K hH0
  (try simp only [Act.put, List.setIfInBounds_toArray, List.set_cons_zero, List.set_cons_succ])
  refine wpAnyH_ready (rs := [1, 6]) (by kernel_rfl) (by simp) ?_
  refine cons_l (i := 1) rfl (fun K hK => ?_) ?_
  (go_simp; obtain ⟨loT, hloT⟩ : ∃ n, n = wc.heap.size := ⟨_, rfl⟩; have mloT : loT ≤ wc.heap.size := Nat.le_of_eq hloT; have nloT : wc.heap.size ≤ loT := Nat.le_of_eq hloT.symm; have xwloT : W.heap.size ≤ loT := Nat.le_trans HX.out.size nloT; (go_at_call 27; with_reducible refine (clonePts_any _ _ _ ps _ HN.out hs trivial (HF.out.ext (HE0.out.trans HX.out))).mono ?_); rintro e wc ⟨aT, cT, rfl, hoT, hb⟩; have zz1 := hb.size; obtain ⟨hiT, hhiT⟩ : ∃ n, n = wc.heap.size := ⟨_, rfl⟩; have mhiT : hiT ≤ wc.heap.size := Nat.le_of_eq hhiT; have nhiT : wc.heap.size ≤ hiT := Nat.le_of_eq hhiT.symm; (try rw [← hloT] at hoT); (try rw [← hhiT] at hoT); clear hloT; clear hhiT; (try replace KRES := Lib.hid (KRES.out.ext hb)); (try replace KR := Lib.hid (KR.out.ext hb)); (try replace KP := Lib.hid (KP.out.ext hb)); (try replace OTT := Lib.hid (OTT.out.ext hb)); replace HX := Lib.hid (HX.out.trans hb); have OTT := Lib.hid hoT; clear hoT; clear hb)
  refine hK.out _ _ ?_ (fun hH2 => ?_)
  · (try dsimp only)
    (try exact trivial)
  clear hK K hH1
  (try simp only [Act.put, List.setIfInBounds_toArray, List.set_cons_zero, List.set_cons_succ])
  refine wpAnyH_ready (rs := [4, 6]) (by kernel_rfl) (by simp) ?_
  refine cons_l (i := 4) rfl (fun K hK => ?_) ?_
  (go_simp; (go_at_call 28; with_reducible refine (implValueAt_is v _ _ _ ps _ _ HN.out hsm (HF.out.ext (HE0.out.trans HX.out)) hx HV.out).mono ?_); rintro e wc ⟨rfl, hb⟩; have zz4 := hb.size; (try replace KRES := Lib.hid (KRES.out.ext hb)); (try replace KR := Lib.hid (KR.out.ext hb)); (try replace KP := Lib.hid (KP.out.ext hb)); (try replace OTT := Lib.hid (OTT.out.ext hb)); replace HX := Lib.hid (HX.out.trans hb); clear hb)
  refine hK.out _ _ ?_ (fun hH3 => ?_)
  · (try dsimp only)
    (try exact trivial)
  clear hK K hH2
  (try simp only [Act.put, List.setIfInBounds_toArray, List.set_cons_zero, List.set_cons_succ])
  refine wpAnyH_ready (rs := [6]) (by kernel_rfl) (by simp) ?_
  refine cons_l (i := 6) rfl (fun K hK => ?_) ?_
  (go_simp; obtain ⟨bP, hbP⟩ : ∃ x, x = wc.heap.size := ⟨_, rfl⟩; obtain ⟨wn, hwn⟩ : ∃ x, x = wc.alloc (.cells M 3) := ⟨_, rfl⟩; have hal : Ext wc wn := (by rw [hwn]; exact (Ext.refl wc).alloc _); have hk := RowAt.new wc 3 M; rw [← hwn, ← hbP] at hk; (try rw [← hwn]); (try rw [← hbP]); have zz6 := hal.size; have lbP := hk.lt; have mbP : wc.heap.size ≤ bP := Nat.le_of_eq hbP.symm; have nbP : bP ≤ wc.heap.size := Nat.le_of_eq hbP; have xwbP : W.heap.size ≤ bP := Nat.le_trans HX.out.size mbP; clear hbP hwn; (try replace KRES := Lib.hid (KRES.out.ext hal)); (try replace KR := Lib.hid (KR.out.ext hal)); (try replace KP := Lib.hid (KP.out.ext hal)); (try replace OTT := Lib.hid (OTT.out.ext hal)); replace HX := Lib.hid (HX.out.trans hal); have KP := Lib.hid hk; clear hk hal; obtain ⟨wc, hq⟩ : ∃ x, x = wn := ⟨_, rfl⟩; subst hq)
  refine hK.out _ _ ?_ (fun hH4 => ?_)
  · (try dsimp only)
    (try exact trivial)
  clear hK K hH3
  (try simp only [Act.put, List.setIfInBounds_toArray, List.set_cons_zero, List.set_cons_succ])
  refine take_l 7 (v := ?_) rfl (by kernel_rfl) (by kernel_rfl) (by kernel_rfl) (fun _ _ _ h => h) (by rfl) ?_ (by assumption) ?_
  rotate_left
  · (intro w hSw; (try dsimp only at hSw); go_simp; (try with_reducible rfl))
  (try simp only [Act.put, List.setIfInBounds_toArray, List.set_cons_zero, List.set_cons_succ])
  refine wpAnyH_ready (rs := [9]) (by kernel_rfl) (by simp) ?_
  refine cons_l (i := 9) rfl (fun K hK => ?_) ?_
  (have hs0 := KR.out.cell (j := 0) (v := .slice none 0 0) rfl; have hf0 := KR.out.frozen 0; have hs1 := KR.out.cell (j := 1) (v := .int .i64 0) rfl; have hf1 := KR.out.frozen 1; have hs2 := KR.out.cell (j := 2) (v := .slice none 0 0) rfl; have hf2 := KR.out.frozen 2; go_simp; clear hs0 hf0 hs1 hf1 hs2 hf2; obtain ⟨wn, hwn⟩ : ∃ x, x = putAt wc (bR) 0 [.slice aT n cT, .int .i64 v, .slice (some ⟨bP, 0, none⟩) d d] := ⟨_, rfl⟩; have en : (((wc.setCell ⟨bR, 0, none⟩ (.slice aT n cT)).setCell ⟨bR, 1, none⟩ (.int .i64 v)).setCell ⟨bR, 2, none⟩ (.slice (some ⟨bP, 0, none⟩) d d)) = wn := (by rw [hwn]; rfl); rw [en]; clear en; have zz9 : wc.heap.size ≤ wn.heap.size := (by rw [hwn, put_size]; exact Nat.le_refl _); (first | replace HX := Lib.hid (show Ext W wn by rw [hwn]; exact put_ext (by first | assumption | omega) _ _ _ HX.out) | skip); (try replace KRES := Lib.hid (show RowAt wn (w.heap.size) 33 _ by rw [hwn]; exact put_other (by omega) _ _ _ KRES.out)); (first | replace OTT := Lib.hid (show PtOwn wn _ _ _ _ by rw [hwn]; exact OTT.out.putT KR.out (by decide)) | skip); replace KR := Lib.hid (RowAt.cast (c' := #[.slice aT n cT, .int .i64 v, .slice (some ⟨bP, 0, none⟩) d d]) (show RowAt wn (bR) 33 (putArr #[.slice none 0 0, .int .i64 0, .slice none 0 0] 0 [.slice aT n cT, .int .i64 v, .slice (some ⟨bP, 0, none⟩) d d]) by rw [hwn]; exact put_at _ _ _ _ KR.out) (by simp [putArr])); (try replace KP := Lib.hid (show RowAt wn (bP) 3 _ by rw [hwn]; exact put_other (by omega) _ _ _ KP.out)); clear hwn; obtain ⟨wc, hq⟩ : ∃ x, x = wn := ⟨_, rfl⟩; subst hq)
  refine hK.out _ _ ?_ (fun hH5 => ?_)
  · (try dsimp only)
    (try exact trivial)
  clear hK K hH4
  (try simp only [Act.put, List.setIfInBounds_toArray, List.set_cons_zero, List.set_cons_succ])
  refine wpAnyH_done (by kernel_rfl) ?_ _
  rotate_left
  exact AllReadyH.nil
  exact AllReadyH.nil
  refine cons_l (i := 6) rfl (fun K hK => ?_) ?_
  (go_simp; obtain ⟨bP, hbP⟩ : ∃ x, x = wc.heap.size := ⟨_, rfl⟩; obtain ⟨wn, hwn⟩ : ∃ x, x = wc.alloc (.cells M 3) := ⟨_, rfl⟩; have hal : Ext wc wn := (by rw [hwn]; exact (Ext.refl wc).alloc _); have hk := RowAt.new wc 3 M; rw [← hwn, ← hbP] at hk; (try rw [← hwn]); (try rw [← hbP]); have zz6 := hal.size; have lbP := hk.lt; have mbP : wc.heap.size ≤ bP := Nat.le_of_eq hbP.symm; have nbP : bP ≤ wc.heap.size := Nat.le_of_eq hbP; have xwbP : W.heap.size ≤ bP := Nat.le_trans HX.out.size mbP; clear hbP hwn; (try replace KRES := Lib.hid (KRES.out.ext hal)); (try replace KR := Lib.hid (KR.out.ext hal)); (try replace KP := Lib.hid (KP.out.ext hal)); (try replace OTT := Lib.hid (OTT.out.ext hal)); replace HX := Lib.hid (HX.out.trans hal); have KP := Lib.hid hk; clear hk hal; obtain ⟨wc, hq⟩ : ∃ x, x = wn := ⟨_, rfl⟩; subst hq)
  refine hK.out _ _ ?_ (fun hH3 => ?_)
  · (try dsimp only)
    (try exact trivial)
  clear hK K hH2
  (try simp only [Act.put, List.setIfInBounds_toArray, List.set_cons_zero, List.set_cons_succ])
  refine wpAnyH_ready (rs := [4]) (by kernel_rfl) (by simp) ?_
  refine cons_l (i := 4) rfl (fun K hK => ?_) ?_
  (go_simp; (go_at_call 28; with_reducible refine (implValueAt_is v _ _ _ ps _ _ HN.out hsm (HF.out.ext (HE0.out.trans HX.out)) hx HV.out).mono ?_); rintro e wc ⟨rfl, hb⟩; have zz4 := hb.size; (try replace KRES := Lib.hid (KRES.out.ext hb)); (try replace KR := Lib.hid (KR.out.ext hb)); (try replace KP := Lib.hid (KP.out.ext hb)); (try replace OTT := Lib.hid (OTT.out.ext hb)); replace HX := Lib.hid (HX.out.trans hb); clear hb)
  refine hK.out _ _ ?_ (fun hH4 => ?_)
  · (try dsimp only)
    (try exact trivial)
  clear hK K hH3
  (try simp only [Act.put, List.setIfInBounds_toArray, List.set_cons_zero, List.set_cons_succ])
  refine take_l 7 (v := ?_) rfl (by kernel_rfl) (by kernel_rfl) (by kernel_rfl) (fun _ _ _ h => h) (by rfl) ?_ (by assumption) ?_
  rotate_left
  · (intro w hSw; (try dsimp only at hSw); go_simp; (try with_reducible rfl))
  (try simp only [Act.put, List.setIfInBounds_toArray, List.set_cons_zero, List.set_cons_succ])
  refine wpAnyH_ready (rs := [9]) (by kernel_rfl) (by simp) ?_
  refine cons_l (i := 9) rfl (fun K hK => ?_) ?_
  (have hs0 := KR.out.cell (j := 0) (v := .slice none 0 0) rfl; have hf0 := KR.out.frozen 0; have hs1 := KR.out.cell (j := 1) (v := .int .i64 0) rfl; have hf1 := KR.out.frozen 1; have hs2 := KR.out.cell (j := 2) (v := .slice none 0 0) rfl; have hf2 := KR.out.frozen 2; go_simp; clear hs0 hf0 hs1 hf1 hs2 hf2; obtain ⟨wn, hwn⟩ : ∃ x, x = putAt wc (bR) 0 [.slice aT n cT, .int .i64 v, .slice (some ⟨bP, 0, none⟩) d d] := ⟨_, rfl⟩; have en : (((wc.setCell ⟨bR, 0, none⟩ (.slice aT n cT)).setCell ⟨bR, 1, none⟩ (.int .i64 v)).setCell ⟨bR, 2, none⟩ (.slice (some ⟨bP, 0, none⟩) d d)) = wn := (by rw [hwn]; rfl); rw [en]; clear en; have zz9 : wc.heap.size ≤ wn.heap.size := (by rw [hwn, put_size]; exact Nat.le_refl _); (first | replace HX := Lib.hid (show Ext W wn by rw [hwn]; exact put_ext (by first | assumption | omega) _ _ _ HX.out) | skip); (try replace KRES := Lib.hid (show RowAt wn (w.heap.size) 33 _ by rw [hwn]; exact put_other (by omega) _ _ _ KRES.out)); (first | replace OTT := Lib.hid (show PtOwn wn _ _ _ _ by rw [hwn]; exact OTT.out.putT KR.out (by decide)) | skip); replace KR := Lib.hid (RowAt.cast (c' := #[.slice aT n cT, .int .i64 v, .slice (some ⟨bP, 0, none⟩) d d]) (show RowAt wn (bR) 33 (putArr #[.slice none 0 0, .int .i64 0, .slice none 0 0] 0 [.slice aT n cT, .int .i64 v, .slice (some ⟨bP, 0, none⟩) d d]) by rw [hwn]; exact put_at _ _ _ _ KR.out) (by simp [putArr])); (try replace KP := Lib.hid (show RowAt wn (bP) 3 _ by rw [hwn]; exact put_other (by omega) _ _ _ KP.out)); clear hwn; obtain ⟨wc, hq⟩ : ∃ x, x = wn := ⟨_, rfl⟩; subst hq)
  refine hK.out _ _ ?_ (fun hH5 => ?_)
  · (try dsimp only)
    (try exact trivial)
  clear hK K hH4
  (try simp only [Act.put, List.setIfInBounds_toArray, List.set_cons_zero, List.set_cons_succ])
  refine wpAnyH_done (by kernel_rfl) ?_ _
  rotate_left
  exact AllReadyH.nil
  exact AllReadyH.nil
  exact AllReadyH.nil
  refine cons_l (i := 6) rfl (fun K hK => ?_) ?_
  (go_simp; obtain ⟨bP, hbP⟩ : ∃ x, x = wc.heap.size := ⟨_, rfl⟩; obtain ⟨wn, hwn⟩ : ∃ x, x = wc.alloc (.cells M 3) := ⟨_, rfl⟩; have hal : Ext wc wn := (by rw [hwn]; exact (Ext.refl wc).alloc _); have hk := RowAt.new wc 3 M; rw [← hwn, ← hbP] at hk; (try rw [← hwn]); (try rw [← hbP]); have zz6 := hal.size; have lbP := hk.lt; have mbP : wc.heap.size ≤ bP := Nat.le_of_eq hbP.symm; have nbP : bP ≤ wc.heap.size := Nat.le_of_eq hbP; have xwbP : W.heap.size ≤ bP := Nat.le_trans HX.out.size mbP; clear hbP hwn; (try replace KRES := Lib.hid (KRES.out.ext hal)); (try replace KR := Lib.hid (KR.out.ext hal)); (try replace KP := Lib.hid (KP.out.ext hal)); (try replace OTT := Lib.hid (OTT.out.ext hal)); replace HX := Lib.hid (HX.out.trans hal); have KP := Lib.hid hk; clear hk hal; obtain ⟨wc, hq⟩ : ∃ x, x = wn := ⟨_, rfl⟩; subst hq)
  refine hK.out _ _ ?_ (fun hH2 => ?_)
  · (try dsimp only)
    (try exact trivial)
  clear hK K hH1
  (try simp only [Act.put, List.setIfInBounds_toArray, List.set_cons_zero, List.set_cons_succ])
  refine wpAnyH_ready (rs := [1]) (by kernel_rfl) (by simp) ?_
  refine cons_l (i := 1) rfl (fun K hK => ?_) ?_
  (go_simp; obtain ⟨loT, hloT⟩ : ∃ n, n = wc.heap.size := ⟨_, rfl⟩; have mloT : loT ≤ wc.heap.size := Nat.le_of_eq hloT; have nloT : wc.heap.size ≤ loT := Nat.le_of_eq hloT.symm; have xwloT : W.heap.size ≤ loT := Nat.le_trans HX.out.size nloT; (go_at_call 27; with_reducible refine (clonePts_any _ _ _ ps _ HN.out hs trivial (HF.out.ext (HE0.out.trans HX.out))).mono ?_); rintro e wc ⟨aT, cT, rfl, hoT, hb⟩; have zz1 := hb.size; obtain ⟨hiT, hhiT⟩ : ∃ n, n = wc.heap.size := ⟨_, rfl⟩; have mhiT : hiT ≤ wc.heap.size := Nat.le_of_eq hhiT; have nhiT : wc.heap.size ≤ hiT := Nat.le_of_eq hhiT.symm; (try rw [← hloT] at hoT); (try rw [← hhiT] at hoT); clear hloT; clear hhiT; (try replace KRES := Lib.hid (KRES.out.ext hb)); (try replace KR := Lib.hid (KR.out.ext hb)); (try replace KP := Lib.hid (KP.out.ext hb)); (try replace OTT := Lib.hid (OTT.out.ext hb)); replace HX := Lib.hid (HX.out.trans hb); have OTT := Lib.hid hoT; clear hoT; clear hb)
  refine hK.out _ _ ?_ (fun hH3 => ?_)
  · (try dsimp only)
    (try exact trivial)
  clear hK K hH2
  (try simp only [Act.put, List.setIfInBounds_toArray, List.set_cons_zero, List.set_cons_succ])
  refine wpAnyH_ready (rs := [4]) (by kernel_rfl) (by simp) ?_
  refine cons_l (i := 4) rfl (fun K hK => ?_) ?_
  (go_simp; (go_at_call 28; with_reducible refine (implValueAt_is v _ _ _ ps _ _ HN.out hsm (HF.out.ext (HE0.out.trans HX.out)) hx HV.out).mono ?_); rintro e wc ⟨rfl, hb⟩; have zz4 := hb.size; (try replace KRES := Lib.hid (KRES.out.ext hb)); (try replace KR := Lib.hid (KR.out.ext hb)); (try replace KP := Lib.hid (KP.out.ext hb)); (try replace OTT := Lib.hid (OTT.out.ext hb)); replace HX := Lib.hid (HX.out.trans hb); clear hb)
  refine hK.out _ _ ?_ (fun hH4 => ?_)
  · (try dsimp only)
    (try exact trivial)
  clear hK K hH3
  (try simp only [Act.put, List.setIfInBounds_toArray, List.set_cons_zero, List.set_cons_succ])
  refine take_l 7 (v := ?_) rfl (by kernel_rfl) (by kernel_rfl) (by kernel_rfl) (fun _ _ _ h => h) (by rfl) ?_ (by assumption) ?_
  rotate_left
  · (intro w hSw; (try dsimp only at hSw); go_simp; (try with_reducible rfl))
  (try simp only [Act.put, List.setIfInBounds_toArray, List.set_cons_zero, List.set_cons_succ])
  refine wpAnyH_ready (rs := [9]) (by kernel_rfl) (by simp) ?_
  refine cons_l (i := 9) rfl (fun K hK => ?_) ?_
  (have hs0 := KR.out.cell (j := 0) (v := .slice none 0 0) rfl; have hf0 := KR.out.frozen 0; have hs1 := KR.out.cell (j := 1) (v := .int .i64 0) rfl; have hf1 := KR.out.frozen 1; have hs2 := KR.out.cell (j := 2) (v := .slice none 0 0) rfl; have hf2 := KR.out.frozen 2; go_simp; clear hs0 hf0 hs1 hf1 hs2 hf2; obtain ⟨wn, hwn⟩ : ∃ x, x = putAt wc (bR) 0 [.slice aT n cT, .int .i64 v, .slice (some ⟨bP, 0, none⟩) d d] := ⟨_, rfl⟩; have en : (((wc.setCell ⟨bR, 0, none⟩ (.slice aT n cT)).setCell ⟨bR, 1, none⟩ (.int .i64 v)).setCell ⟨bR, 2, none⟩ (.slice (some ⟨bP, 0, none⟩) d d)) = wn := (by rw [hwn]; rfl); rw [en]; clear en; have zz9 : wc.heap.size ≤ wn.heap.size := (by rw [hwn, put_size]; exact Nat.le_refl _); (first | replace HX := Lib.hid (show Ext W wn by rw [hwn]; exact put_ext (by first | assumption | omega) _ _ _ HX.out) | skip); (try replace KRES := Lib.hid (show RowAt wn (w.heap.size) 33 _ by rw [hwn]; exact put_other (by omega) _ _ _ KRES.out)); (first | replace OTT := Lib.hid (show PtOwn wn _ _ _ _ by rw [hwn]; exact OTT.out.putT KR.out (by decide)) | skip); replace KR := Lib.hid (RowAt.cast (c' := #[.slice aT n cT, .int .i64 v, .slice (some ⟨bP, 0, none⟩) d d]) (show RowAt wn (bR) 33 (putArr #[.slice none 0 0, .int .i64 0, .slice none 0 0] 0 [.slice aT n cT, .int .i64 v, .slice (some ⟨bP, 0, none⟩) d d]) by rw [hwn]; exact put_at _ _ _ _ KR.out) (by simp [putArr])); (try replace KP := Lib.hid (show RowAt wn (bP) 3 _ by rw [hwn]; exact put_other (by omega) _ _ _ KP.out)); clear hwn; obtain ⟨wc, hq⟩ : ∃ x, x = wn := ⟨_, rfl⟩; subst hq)
  refine hK.out _ _ ?_ (fun hH5 => ?_)
  · (try dsimp only)
    (try exact trivial)
  clear hK K hH4
  (try simp only [Act.put, List.setIfInBounds_toArray, List.set_cons_zero, List.set_cons_succ])
  refine wpAnyH_done (by kernel_rfl) ?_ _
  rotate_left
  exact AllReadyH.nil
  exact AllReadyH.nil
  exact AllReadyH.nil
  exact AllReadyH.nil
  exact AllReadyH.nil
  all_goals
    have hx2 := HE0.out.trans HX.out
    have HWC := Lib.hid hx2; clear hx2 HX
    have HFT := Lib.hid OTT.out.at; have HFI := Lib.hid (ints_at KP.out HM.out)
    have zR := KR.out.lt; have zS := KRES.out.lt
    have d0 := KR.out.cell (j := 0) (v := .slice aT n cT) rfl; have d1 := KR.out.cell (j := 1) (v := .int .i64 v) rfl; have d2 := KR.out.cell (j := 2) (v := .slice (some ⟨bP, 0, none⟩) d d) rfl
    go_wp2_with fail
    refine (implReachOk_is true _ _ _ _ _ _ _ ps (List.replicate d 0) _ HN.out hsm HDL.out hdm HFT.out HFI.out hvi HRK.out).mono ?_
    rintro e w5 ⟨rfl, hb⟩
    have zz := hb.size; have zP := KP.out.lt
    clear d0 d1 d2
    have d0 := (KR.out.ext hb).cell (j := 0) (v := .slice aT n cT) rfl; have d1 := (KR.out.ext hb).cell (j := 1) (v := .int .i64 v) rfl; have d2 := (KR.out.ext hb).cell (j := 2) (v := .slice (some ⟨bP, 0, none⟩) d d) rfl
    have KQ := KRES.out.ext hb
    have s0 := KQ.cell (j := 0) (v := .slice none 0 0) rfl; have f0 := KQ.frozen 0
    have s1 := KQ.cell (j := 1) (v := .int .i64 0) rfl; have f1 := KQ.frozen 1
    have s2 := KQ.cell (j := 2) (v := .slice none 0 0) rfl; have f2 := KQ.frozen 2
    go_wp2
    refine bodyPost_ret (v := .tuple #[.agg #[.slice aT n cT, .int .i64 v, .slice (some ⟨bP, 0, none⟩) d d], .bool true]) (by simp [results, Try.results8, go_sem, *]) rfl ⟨aT, cT, some ⟨bP, 0, none⟩, d, rfl, ?_, ?_, ?_⟩
    · exact PtOwn.wide (show PtOwn (putAt w5 w.heap.size 0 [_, _, _]) _ _ _ _ from (OTT.out.ext hb).putT KQ (by decide)) (by omega) (by rw [size_set, size_set, size_set]; omega)
    · have hkp := KP.out.ext hb
      exact ints_made (M := M) (by (repeat' (first | (with_reducible assumption) | (with_reducible refine RowAt.other ?_ ?_ _))) <;> (try dsimp only) <;> omega) HM.out (by omega) (by rw [size_set, size_set, size_set]; omega)
    · exact (((HWC.out.trans hb).setCell (p := ⟨w.heap.size, 0, none⟩) (by dsimp only; omega) _).setCell (p := ⟨w.heap.size, 1, none⟩) (by dsimp only; omega) _).setCell (p := ⟨w.heap.size, 2, none⟩) (by dsimp only; omega) _
end Go.Proofs.Ytmppoflgbmabpaa
