/- Taking water off a reach, and sending water to it: the program's. -/
import Derived.Test.YtmppoflgbmabpaaProg
import Derived.Test.YtmppoflgbmabpaaM5
import Derived.Test.YtmppoflgbmabpaaM3
import Derived.Test.YtmppoflgbmabpaaM2
namespace Go.Proofs.Ytmppoflgbmabpaa
open Go.RowKit
set_option linter.unusedSimpArgs false
set_option linter.unusedVariables false

set_option maxRecDepth 100000 in
set_option maxHeartbeats 1000000 in
theorem implTakeOff_any (tk amount : Int) (ta pa : Option Addr) (tn tc pn pc : Nat) (vol : Int) (ps : List Pt) (xs : List Int) (w : World) (ht : tn = ps.length) (htl : tn ≤ 1048576) (hp : pn = xs.length) (hpl : pn ≤ 1048576) (hft : FlatAt w ptCells 2 ta ps) (hfp : IntsAt w pa xs) (hvol : -9223372036854775808 ≤ vol ∧ vol ≤ 9223372036854775807) (hct : True) (hcp : True) (hok : reachOk ps vol xs = true) (ha : 0 ≤ amount ∧ amount ≤ 9223372036854775807) (htk : min amount vol = tk) :
    Calls Try.prog 32 #[.agg #[.slice ta tn tc, .int .i64 vol, .slice pa pn pc], .int .i64 amount, .int .i64 0] w fun e w' => ∃ a1 c1 a2 c2, e = .returned (.tuple #[.agg #[.slice a1 tn c1, .int .i64 (vol - tk), .slice a2 pn c2], .int .i64 tk]) ∧ OwnReach w' w.heap.size w'.heap.size a1 tn c1 a2 pn c2 ps xs ∧ Ext w w' := by
  obtain ⟨_, hvb, _, _, _⟩ := reachOk_parts hok
  have htk2 : tk ≤ amount ∧ tk ≤ vol ∧ 0 ≤ tk ∧ (tk = amount ∨ tk = vol) := by omega
  have HTK := Lib.hid htk; clear htk
  have HOK := Lib.hid hok; clear hok
  have HCT := Lib.hid hct; clear hct
  have HCP := Lib.hid hcp; clear hcp
  have d1 : decide (amount < 0) = false := by simp; omega
  have HT := Lib.hid ht; clear ht
  have HP := Lib.hid hp; clear hp
  have HFT := Lib.hid hft; clear hft
  have HFP := Lib.hid hfp; clear hfp
  have HTL := Lib.hid (show tn ≤ maxLen by unfold maxLen; omega)
  have HPL := Lib.hid (show pn ≤ maxLen by unfold maxLen; omega)
  have B0I := Lib.hid (show RowAt ((w.alloc (.cells #[.slice ta tn tc, .int .i64 vol, .slice pa pn pc] 33)).alloc (.cells #[.slice none 0 0, .int .i64 0, .slice none 0 0] 33)) (w.heap.size) 33 #[.slice ta tn tc, .int .i64 vol, .slice pa pn pc] from by
    have h := (RowAt.new w 33 #[.slice ta tn tc, .int .i64 vol, .slice pa pn pc]).ext ((Ext.refl _).alloc (.cells #[.slice none 0 0, .int .i64 0, .slice none 0 0] 33))
    exact h)
  have RES0I := Lib.hid (show RowAt ((w.alloc (.cells #[.slice ta tn tc, .int .i64 vol, .slice pa pn pc] 33)).alloc (.cells #[.slice none 0 0, .int .i64 0, .slice none 0 0] 33)) (w.heap.size + 1) 33 #[.slice none 0 0, .int .i64 0, .slice none 0 0] from by
    have h := (RowAt.new (w.alloc (.cells #[.slice ta tn tc, .int .i64 vol, .slice pa pn pc] 33)) 33 #[.slice none 0 0, .int .i64 0, .slice none 0 0]).ext (Ext.refl _)
    simp only [World.size_alloc] at h
    exact h)
  have HE0 := Lib.hid (show Ext w ((w.alloc (.cells #[.slice ta tn tc, .int .i64 vol, .slice pa pn pc] 33)).alloc (.cells #[.slice none 0 0, .int .i64 0, .slice none 0 0] 33)) from (((Ext.refl w).alloc _).alloc _))
  go_enter Try.func32, Try.ntmps32
  have B0_0 := B0I
  have RES0_0 := RES0I
  have HW0 := HE0
  go_wp2_with fail
  with_reducible refine (copyReach_any _ _ _ _ _ _ _ ps xs _ HT.out htl HP.out hpl (HFT.out.ext HE0.out) (HFP.out.ext HE0.out) HCT.out HCP.out).mono ?_
  rintro e w1 ⟨a1, c1, a2, c2, rfl, hg1, hb⟩
  have hown := Lib.hid (hg1); clear hg1
  have HW1 := Lib.hid (HW0.out.trans hb)
  have B0_1 := Lib.hid (B0_0.out.ext hb)
  have RES0_1 := Lib.hid (RES0_0.out.ext hb)
  have zz1 := hb.size
  simp only [World.size_alloc] at zz1
  clear HW0 B0_0 RES0_0 hb
  have OT_1 := hown; clear hown
  obtain ⟨bO, hbO⟩ : ∃ x, x = w1.heap.size := ⟨_, rfl⟩
  obtain ⟨w2, hw2⟩ : ∃ x, x = w1.alloc (.cells #[.slice a1 tn c1, .int .i64 vol, .slice a2 pn c2] 33) := ⟨_, rfl⟩
  have hal := (Ext.refl w1).alloc (.cells #[.slice a1 tn c1, .int .i64 vol, .slice a2 pn c2] 33)
  have Oq := Lib.hid (RowAt.new w1 33 #[.slice a1 tn c1, .int .i64 vol, .slice a2 pn c2])
  rw [← hw2] at hal Oq
  rw [← hbO] at Oq
  have lO := Oq.out.lt
  have mO : w1.heap.size ≤ bO := Nat.le_of_eq hbO.symm
  have nO : bO ≤ w1.heap.size := Nat.le_of_eq hbO
  have e0 : (w1.alloc (.cells #[.slice a1 tn c1, .int .i64 vol, .slice a2 pn c2] 33)).cell? ⟨w.heap.size, 0, none⟩ = some (.slice ta tn tc) := (B0_1.out.ext ((Ext.refl _).alloc _)).cell rfl
  have e1 : (w1.alloc (.cells #[.slice a1 tn c1, .int .i64 vol, .slice a2 pn c2] 33)).cell? ⟨w.heap.size, 1, none⟩ = some (.int .i64 vol) := (B0_1.out.ext ((Ext.refl _).alloc _)).cell rfl
  have e2 : (w1.alloc (.cells #[.slice a1 tn c1, .int .i64 vol, .slice a2 pn c2] 33)).cell? ⟨w.heap.size, 2, none⟩ = some (.slice pa pn pc) := (B0_1.out.ext ((Ext.refl _).alloc _)).cell rfl
  go_wp2_with fail
  clear e0 e1 e2
  (try rw [← hw2])
  (try rw [← hbO])
  clear hw2 hbO
  have HW2 := Lib.hid (HW1.out.trans hal)
  have B0_2 := Lib.hid (B0_1.out.ext hal)
  have RES0_2 := Lib.hid (RES0_1.out.ext hal)
  have OT_2 := Lib.hid (OT_1.out.ext hal)
  have zz2 := hal.size
  clear HW1 B0_1 RES0_1 OT_1 hal
  have O_2 := Oq; clear Oq
  with_reducible refine (implReachOk_is true _ _ _ _ _ _ _ ps xs _ HT.out HTL.out HP.out HPL.out (HFT.out.ext HW2.out) (HFP.out.ext HW2.out) hvol HOK.out).mono ?_
  rintro e w3 ⟨rfl, hb⟩
  have HW3 := Lib.hid (HW2.out.trans hb)
  have B0_3 := Lib.hid (B0_2.out.ext hb)
  have RES0_3 := Lib.hid (RES0_2.out.ext hb)
  have O_3 := Lib.hid (O_2.out.ext hb)
  have OT_3 := Lib.hid (OT_2.out.ext hb)
  have zz3 := hb.size
  clear HW2 B0_2 RES0_2 O_2 OT_2 hb
  have kv1 : w3.cell? ⟨w.heap.size, 1, none⟩ = some (.int .i64 vol) := B0_3.out.cell rfl
  have d00 : w3.cell? ⟨bO, 0, none⟩ = some (.slice a1 tn c1) := O_3.out.cell rfl
  have d10 : w3.cell? ⟨bO, 1, none⟩ = some (.int .i64 vol) := O_3.out.cell rfl
  have d20 : w3.cell? ⟨bO, 2, none⟩ = some (.slice a2 pn c2) := O_3.out.cell rfl
  have f1 := O_3.out.frozen 1
  obtain ⟨h21, h22, h23, h24⟩ := htk2
  have hm : (if 0 < tk then tk else 0) = tk := by split <;> omega
  rcases h24 with rfl | rfl
  · have hz : True := trivial
    have TO2 := Lib.hid (O_3.out.set 1 (.int .i64 (vol - tk)))
    have T12 := Lib.hid (RES0_3.out.other (p := ⟨bO, 1, none⟩) (by dsimp only; omega) (.int .i64 (vol - tk)))
    have HG4 := Lib.hid (OT_3.out.keep (Nat.le_refl _) (Nat.le_refl _) (fun B t c h1 h2 hr => hr.other (p := ⟨bO, 1, none⟩) (by dsimp only; omega) (.int .i64 (vol - tk))))
    have HE4 := Lib.hid (HW3.out.setCell (p := ⟨bO, 1, none⟩) (by dsimp only; omega) (.int .i64 (vol - tk)))
    have q0 : (w3.setCell ⟨bO, 1, none⟩ (.int .i64 (vol - tk))).cell? ⟨bO, 0, none⟩ = some (.slice a1 tn c1) := TO2.out.cell rfl
    have q1 : (w3.setCell ⟨bO, 1, none⟩ (.int .i64 (vol - tk))).cell? ⟨bO, 1, none⟩ = some (.int .i64 (vol - tk)) := TO2.out.cell rfl
    have q2 : (w3.setCell ⟨bO, 1, none⟩ (.int .i64 (vol - tk))).cell? ⟨bO, 2, none⟩ = some (.slice a2 pn c2) := TO2.out.cell rfl
    have r0 : (w3.setCell ⟨bO, 1, none⟩ (.int .i64 (vol - tk))).cell? ⟨w.heap.size + 1, 0, none⟩ = some (.slice none 0 0) := T12.out.cell rfl
    have g0 := T12.out.frozen 0
    have r1 : (w3.setCell ⟨bO, 1, none⟩ (.int .i64 (vol - tk))).cell? ⟨w.heap.size + 1, 1, none⟩ = some (.int .i64 0) := T12.out.cell rfl
    have g1 := T12.out.frozen 1
    have r2 : (w3.setCell ⟨bO, 1, none⟩ (.int .i64 (vol - tk))).cell? ⟨w.heap.size + 1, 2, none⟩ = some (.slice none 0 0) := T12.out.cell rfl
    have g2 := T12.out.frozen 2
    go_wp2
    all_goals (try (exfalso; omega))
    refine bodyPost_ret (v := .tuple #[.agg #[.slice a1 tn c1, .int .i64 (vol - tk), .slice a2 pn c2], .int .i64 tk]) (by simp [results, Try.results32, go_sem, *]) rfl ⟨a1, c1, a2, c2, rfl, ?_, ?_⟩
    · exact HG4.out.keep (by (try simp only [World.size_alloc]); omega) (by simp only [size_setCell']; omega) (fun B t c h1 h2 hr => by
        (try simp only [World.size_alloc] at h1)
        (repeat' (first | (with_reducible assumption) | (with_reducible refine RowAt.other ?_ ?_ _))) <;> dsimp only <;> omega)
    · exact (((HE4.out.setCell (p := ⟨w.heap.size + 1, 0, none⟩) (by dsimp only; omega) _).setCell (p := ⟨w.heap.size + 1, 1, none⟩) (by dsimp only; omega) _).setCell (p := ⟨w.heap.size + 1, 2, none⟩) (by dsimp only; omega) _)
  · have hz : True := trivial
    have hm2 : (if tk < amount then tk else amount) = tk := by split <;> omega
    have TO2 := Lib.hid (O_3.out.set 1 (.int .i64 (0)))
    have T12 := Lib.hid (RES0_3.out.other (p := ⟨bO, 1, none⟩) (by dsimp only; omega) (.int .i64 (0)))
    have HG4 := Lib.hid (OT_3.out.keep (Nat.le_refl _) (Nat.le_refl _) (fun B t c h1 h2 hr => hr.other (p := ⟨bO, 1, none⟩) (by dsimp only; omega) (.int .i64 (0))))
    have HE4 := Lib.hid (HW3.out.setCell (p := ⟨bO, 1, none⟩) (by dsimp only; omega) (.int .i64 (0)))
    have q0 : (w3.setCell ⟨bO, 1, none⟩ (.int .i64 (0))).cell? ⟨bO, 0, none⟩ = some (.slice a1 tn c1) := TO2.out.cell rfl
    have q1 : (w3.setCell ⟨bO, 1, none⟩ (.int .i64 (0))).cell? ⟨bO, 1, none⟩ = some (.int .i64 (0)) := TO2.out.cell rfl
    have q2 : (w3.setCell ⟨bO, 1, none⟩ (.int .i64 (0))).cell? ⟨bO, 2, none⟩ = some (.slice a2 pn c2) := TO2.out.cell rfl
    have r0 : (w3.setCell ⟨bO, 1, none⟩ (.int .i64 (0))).cell? ⟨w.heap.size + 1, 0, none⟩ = some (.slice none 0 0) := T12.out.cell rfl
    have g0 := T12.out.frozen 0
    have r1 : (w3.setCell ⟨bO, 1, none⟩ (.int .i64 (0))).cell? ⟨w.heap.size + 1, 1, none⟩ = some (.int .i64 0) := T12.out.cell rfl
    have g1 := T12.out.frozen 1
    have r2 : (w3.setCell ⟨bO, 1, none⟩ (.int .i64 (0))).cell? ⟨w.heap.size + 1, 2, none⟩ = some (.slice none 0 0) := T12.out.cell rfl
    have g2 := T12.out.frozen 2
    go_wp2
    all_goals (try (exfalso; omega))
    refine bodyPost_ret (v := .tuple #[.agg #[.slice a1 tn c1, .int .i64 (0), .slice a2 pn c2], .int .i64 tk]) (by simp [results, Try.results32, go_sem, *]) rfl ⟨a1, c1, a2, c2, by rw [Int.sub_self], ?_, ?_⟩
    · exact HG4.out.keep (by (try simp only [World.size_alloc]); omega) (by simp only [size_setCell']; omega) (fun B t c h1 h2 hr => by
        (try simp only [World.size_alloc] at h1)
        (repeat' (first | (with_reducible assumption) | (with_reducible refine RowAt.other ?_ ?_ _))) <;> dsimp only <;> omega)
    · exact (((HE4.out.setCell (p := ⟨w.heap.size + 1, 0, none⟩) (by dsimp only; omega) _).setCell (p := ⟨w.heap.size + 1, 1, none⟩) (by dsimp only; omega) _).setCell (p := ⟨w.heap.size + 1, 2, none⟩) (by dsimp only; omega) _)

set_option maxHeartbeats 1000000 in
theorem implTotal_any (T : Int) (ta pa : Option Addr) (tn tc pn pc : Nat) (vol : Int) (ps : List Pt) (xs : List Int) (w : World) (ht : tn = ps.length) (htl : tn ≤ 1048576) (hp : pn = xs.length) (hpl : pn ≤ 1048576) (hft : FlatAt w ptCells 2 ta ps) (hfp : IntsAt w pa xs) (hvol : -9223372036854775808 ≤ vol ∧ vol ≤ 9223372036854775807) (hok : reachOk ps vol xs = true) (hT : sumFrom vol xs = T) :
    Calls Try.prog 9 #[.agg #[.slice ta tn tc, .int .i64 vol, .slice pa pn pc]] w fun e w' => e = .returned (.int .i64 T) ∧ Ext w w' := by
  obtain ⟨_, hvb, hl12, hxb, _⟩ := reachOk_parts hok
  have HXS := Lib.hid hxb; clear hxb
  have HOK := Lib.hid hok; clear hok
  have HTT := Lib.hid hT; clear hT
  have hpn : pn ≤ 12 := by omega
  have HP := Lib.hid hp; have HT := Lib.hid ht; clear ht hp hl12
  have HFT := Lib.hid hft; have HFP := Lib.hid hfp; clear hft hfp
  have HTL := Lib.hid (show tn ≤ maxLen by unfold maxLen; omega)
  have HPL := Lib.hid (show pn ≤ maxLen by unfold maxLen; omega)
  have HB := Lib.hid (RowAt.new w 33 #[.slice ta tn tc, .int .i64 vol, .slice pa pn pc])
  have HEA := Lib.hid ((Ext.refl w).alloc (.cells #[.slice ta tn tc, .int .i64 vol, .slice pa pn pc] 33))
  go_enter Try.func9, Try.ntmps9
  go_wp2_with fail
  with_reducible refine (implReachOk_is true _ _ _ _ _ _ _ ps xs _ HT.out HTL.out HP.out HPL.out (HFT.out.ext HEA.out) (HFP.out.ext HEA.out) hvol HOK.out).mono ?_
  rintro e w1 ⟨rfl, hx1⟩
  have t1 : w1.cell? ⟨w.heap.size, 1, none⟩ = some (.int .i64 vol) := (HB.out.ext hx1).cell rfl
  have t2 : w1.cell? ⟨w.heap.size, 2, none⟩ = some (.slice pa pn pc) := (HB.out.ext hx1).cell rfl
  have HX1 := Lib.hid (HEA.out.trans hx1)
  have HF1 := Lib.hid (HFP.out.ext HX1.out)
  clear hx1
  go_wp2
  go_loop [3, 14] (fun l i => ∃ (k : Nat) (s : Int), k ≤ pn ∧ i = .int .i64 k ∧ l = .int .i64 s ∧ 0 ≤ s ∧ s ≤ 1000000000 * ((k : Int) + 1) ∧ Hid (T = sumFrom s (xs.drop k))) (fun _ i => pn - (intOf i).toNat)
  case atStart => exact ⟨0, vol, Nat.zero_le _, rfl, rfl, hvb.1, by omega, HTT.out.symm⟩
  case round =>
    obtain ⟨k, s, hk, rfl, rfl, hs0, hs1, hgo⟩ := hrel
    by_cases hlt : k < pn
    · have hlt' : k < xs.length := by rw [← HP.out]; exact hlt
      obtain ⟨b, off, rfl, hc⟩ := HF1.out k hlt'
      have HD := Lib.hid (show T = sumFrom s (xs[k] :: xs.drop (k + 1)) by rw [hgo.out, List.drop_eq_getElem_cons hlt'])
      have hxb := HXS.out xs[k] (List.getElem_mem _)
      obtain ⟨x, hx⟩ : ∃ x, xs[k] = x := ⟨_, rfl⟩
      rw [hx] at hc HD hxb
      clear hx hgo
      go_wp2
      go_round
      case rel => exact ⟨k + 1, s + x, by omega, by go_num, rfl, by omega, by omega, HD.out⟩
      case measure => simp [intOf]; omega
    · have hF := Lib.hid (show T = s by rw [hgo.out, List.drop_eq_nil_of_le (by rw [← HP.out]; omega)]; rfl)
      go_wp2
      go_ret
      exact ⟨ret_int hF.out.symm, HX1.out⟩
theorem IntOwn.setAt {w : World} {lo hi : Nat} {B off n c : Nat} {xs : List Int} (h : IntOwn w lo hi (.slice (some ⟨B, off, none⟩) n c) xs) (j : Nat) (hj : j < xs.length) (v : Int) : (lo ≤ B ∧ B < hi) ∧ w.cell? ⟨B, off + j, none⟩ = some (.int .i64 xs[j]) ∧ w.frozen? ⟨B, off + j, none⟩ = false ∧ IntOwn (w.setCell ⟨B, off + j, none⟩ (.int .i64 v)) lo hi (.slice (some ⟨B, off, none⟩) n c) (xs.set j v) := by
  obtain ⟨a, c', e, hr⟩ := h
  injection e with e1 e2 e3
  subst e1 e2 e3
  rcases hr with hr | ⟨B', off', cur, e1, h1, h2, h3, h4⟩
  · subst hr; exact absurd hj (Nat.not_lt_zero _)
  · injection e1 with e1
    injection e1 with e1 e2
    subst e1 e2
    refine ⟨⟨h1, h2⟩, h3.cell (h4 j hj), h3.frozen _, _, _, by rw [List.length_set], .inr ⟨_, _, _, rfl, h1, h2, h3.set (off + j) (.int .i64 v), fun k hk => ?_⟩⟩
    rw [List.length_set] at hk
    have hcur : off + j < cur.size := by
      have := h4 j hj
      exact (Array.getElem?_eq_some_iff.1 this).1
    rw [Array.getElem?_setIfInBounds]
    by_cases hkj : j = k
    · subst hkj; simp [hcur]
    · rw [if_neg (by omega), h4 k hk, List.getElem_set_ne hkj]
def sendVol (vol : Int) (xs : List Int) (amount : Int) : Int := if xs.length = 0 then vol + amount else vol
def sendXs (xs : List Int) (amount : Int) : List Int := if h : xs.length = 0 then xs else xs.set (xs.length - 1) (xs[xs.length - 1] + amount)
theorem sendXs_len (xs : List Int) (amount : Int) : (sendXs xs amount).length = xs.length := by
  unfold sendXs; split
  · rfl
  · rw [List.length_set]

set_option maxHeartbeats 1000000 in
theorem implSpace_any (T : Int) (ta pa : Option Addr) (tn tc pn pc : Nat) (vol : Int) (ps : List Pt) (xs : List Int) (w : World) (ht : tn = ps.length) (htl : tn ≤ 1048576) (hp : pn = xs.length) (hpl : pn ≤ 1048576) (hft : FlatAt w ptCells 2 ta ps) (hfp : IntsAt w pa xs) (hvol : -9223372036854775808 ≤ vol ∧ vol ≤ 9223372036854775807) (hok : reachOk ps vol xs = true) (hT : sumFrom vol xs = T) :
    Calls Try.prog 34 #[.agg #[.slice ta tn tc, .int .i64 vol, .slice pa pn pc]] w fun e w' => e = .returned (.int .i64 (1000000000 - T)) ∧ Ext w w' := by
  obtain ⟨_, hvb, hl12, hxb, hsb⟩ := reachOk_parts hok
  have hT0 : 0 ≤ T ∧ T ≤ 1000000000 := by have := sumFrom_ge xs vol (fun x hx => (hxb x hx).1); omega
  have hpn : pn ≤ 12 := by omega
  clear hsb hl12
  have HXB := Lib.hid hxb; clear hxb
  have HOK := Lib.hid hok; clear hok
  have HTT := Lib.hid hT; clear hT
  have HT := Lib.hid ht; clear ht
  have HP := Lib.hid hp; clear hp
  have HFT := Lib.hid hft; clear hft
  have HFP := Lib.hid hfp; clear hfp
  have HTL := Lib.hid (show tn ≤ maxLen by unfold maxLen; omega)
  have HPL := Lib.hid (show pn ≤ maxLen by unfold maxLen; omega)
  have B0I := Lib.hid (show RowAt (w.alloc (.cells #[.slice ta tn tc, .int .i64 vol, .slice pa pn pc] 33)) (w.heap.size) 33 #[.slice ta tn tc, .int .i64 vol, .slice pa pn pc] from by
    have h := (RowAt.new w 33 #[.slice ta tn tc, .int .i64 vol, .slice pa pn pc]).ext (Ext.refl _)
    exact h)
  have HE0 := Lib.hid (show Ext w (w.alloc (.cells #[.slice ta tn tc, .int .i64 vol, .slice pa pn pc] 33)) from ((Ext.refl w).alloc _))
  go_enter Try.func34, Try.ntmps34
  have B0_0 := B0I
  have HW0 := HE0
  go_wp2_with fail
  with_reducible refine (implReachOk_is true _ _ _ _ _ _ _ ps xs _ HT.out HTL.out HP.out HPL.out (HFT.out.ext HW0.out) (HFP.out.ext HW0.out) hvol HOK.out).mono ?_
  rintro e w1 ⟨rfl, hb⟩
  have HW1 := Lib.hid (HW0.out.trans hb)
  have B0_1 := Lib.hid (B0_0.out.ext hb)
  have zz1 := hb.size
  simp only [World.size_alloc] at zz1
  clear HW0 B0_0 hb
  have cB00 : w1.cell? ⟨w.heap.size, 0, none⟩ = some (.slice ta tn tc) := B0_1.out.cell rfl
  have cB01 : w1.cell? ⟨w.heap.size, 1, none⟩ = some (.int .i64 vol) := B0_1.out.cell rfl
  have cB02 : w1.cell? ⟨w.heap.size, 2, none⟩ = some (.slice pa pn pc) := B0_1.out.cell rfl
  go_wp2_with fail
  with_reducible refine (implTotal_any T _ _ _ _ _ _ _ ps xs _ HT.out htl HP.out hpl (HFT.out.ext HW1.out) (HFP.out.ext HW1.out) hvol HOK.out HTT.out).mono ?_
  rintro e w2 ⟨rfl, hb⟩
  clear cB00 cB01 cB02
  have HW2 := Lib.hid (HW1.out.trans hb)
  have B0_2 := Lib.hid (B0_1.out.ext hb)
  have zz2 := hb.size
  clear HW1 B0_1 hb
  go_wp2
  go_ret
  exact ⟨ret_int (by omega), HW2.out⟩

set_option maxRecDepth 100000 in
set_option maxHeartbeats 1000000 in
theorem implSend_any (amount : Int) (ta pa : Option Addr) (tn tc pn pc : Nat) (vol : Int) (ps : List Pt) (xs : List Int) (w : World) (ht : tn = ps.length) (htl : tn ≤ 1048576) (hp : pn = xs.length) (hpl : pn ≤ 1048576) (hft : FlatAt w ptCells 2 ta ps) (hfp : IntsAt w pa xs) (hvol : -9223372036854775808 ≤ vol ∧ vol ≤ 9223372036854775807) (hct : True) (hcp : True) (hok : reachOk ps vol xs = true) (ha : 0 ≤ amount ∧ amount ≤ 1000000000 - sumFrom vol xs) :
    Calls Try.prog 35 #[.agg #[.slice ta tn tc, .int .i64 vol, .slice pa pn pc], .int .i64 amount] w fun e w' => ∃ a1 c1 a2 c2, e = .returned (.agg #[.slice a1 tn c1, .int .i64 (sendVol vol xs amount), .slice a2 pn c2]) ∧ OwnReach w' w.heap.size w'.heap.size a1 tn c1 a2 pn c2 ps (sendXs xs amount) ∧ Ext w w' := by
  obtain ⟨_, hvb, hl12, hxb, hsb⟩ := reachOk_parts hok
  obtain ⟨T, hT⟩ : ∃ T, sumFrom vol xs = T := ⟨_, rfl⟩
  rw [hT] at ha hsb
  have hT0 : 0 ≤ T := by have := sumFrom_ge xs vol (fun x hx => (hxb x hx).1); omega
  have HXB := Lib.hid hxb; clear hxb hl12
  have HTT := Lib.hid hT; clear hT
  have HOK := Lib.hid hok; clear hok
  have HCT := Lib.hid hct; clear hct
  have HCP := Lib.hid hcp; clear hcp
  have d1 : decide (amount < 0) = false := by simp; omega
  have d2 : decide (1000000000 - T < amount) = false := by simp; omega
  have d3 : inR amount 0 (1000000000 - T) = true := by simp [inR]; omega
  have HV := Lib.hid (show sendVol vol xs amount = if pn = 0 then vol + amount else vol by unfold sendVol; rw [← hp])
  have HT := Lib.hid ht; clear ht
  have HP := Lib.hid hp; clear hp
  have HFT := Lib.hid hft; clear hft
  have HFP := Lib.hid hfp; clear hfp
  have HTL := Lib.hid (show tn ≤ maxLen by unfold maxLen; omega)
  have HPL := Lib.hid (show pn ≤ maxLen by unfold maxLen; omega)
  have B0I := Lib.hid (show RowAt ((w.alloc (.cells #[.slice ta tn tc, .int .i64 vol, .slice pa pn pc] 33)).alloc (.cells #[.slice none 0 0, .int .i64 0, .slice none 0 0] 33)) (w.heap.size) 33 #[.slice ta tn tc, .int .i64 vol, .slice pa pn pc] from by
    have h := (RowAt.new w 33 #[.slice ta tn tc, .int .i64 vol, .slice pa pn pc]).ext ((Ext.refl _).alloc (.cells #[.slice none 0 0, .int .i64 0, .slice none 0 0] 33))
    exact h)
  have RES0I := Lib.hid (show RowAt ((w.alloc (.cells #[.slice ta tn tc, .int .i64 vol, .slice pa pn pc] 33)).alloc (.cells #[.slice none 0 0, .int .i64 0, .slice none 0 0] 33)) (w.heap.size + 1) 33 #[.slice none 0 0, .int .i64 0, .slice none 0 0] from by
    have h := (RowAt.new (w.alloc (.cells #[.slice ta tn tc, .int .i64 vol, .slice pa pn pc] 33)) 33 #[.slice none 0 0, .int .i64 0, .slice none 0 0]).ext (Ext.refl _)
    simp only [World.size_alloc] at h
    exact h)
  have HE0 := Lib.hid (show Ext w ((w.alloc (.cells #[.slice ta tn tc, .int .i64 vol, .slice pa pn pc] 33)).alloc (.cells #[.slice none 0 0, .int .i64 0, .slice none 0 0] 33)) from (((Ext.refl w).alloc _).alloc _))
  by_cases hpz : pn = 0
  · have hv2 := HV.out
    rw [if_pos hpz] at hv2
    have HV2 := Lib.hid hv2; clear hv2
    have HX2 := Lib.hid (show sendXs xs amount = xs by unfold sendXs; rw [dif_pos (by rw [← HP.out]; exact hpz)])
    have dz : ((pn : Int) == 0) = true := by simp; omega
    have HPZ := Lib.hid hpz; clear hpz
    go_enter Try.func35, Try.ntmps35
    have B0_0 := B0I
    have RES0_0 := RES0I
    have HW0 := HE0
    go_wp2_with fail
    with_reducible refine (copyReach_any _ _ _ _ _ _ _ ps xs _ HT.out htl HP.out hpl (HFT.out.ext HE0.out) (HFP.out.ext HE0.out) HCT.out HCP.out).mono ?_
    rintro e w1 ⟨a1, c1, a2, c2, rfl, hg1, hb⟩
    have hown := Lib.hid (hg1); clear hg1
    have HW1 := Lib.hid (HW0.out.trans hb)
    have B0_1 := Lib.hid (B0_0.out.ext hb)
    have RES0_1 := Lib.hid (RES0_0.out.ext hb)
    have zz1 := hb.size
    simp only [World.size_alloc] at zz1
    clear HW0 B0_0 RES0_0 hb
    have OT_1 := hown; clear hown
    obtain ⟨bO, hbO⟩ : ∃ x, x = w1.heap.size := ⟨_, rfl⟩
    obtain ⟨w2, hw2⟩ : ∃ x, x = w1.alloc (.cells #[.slice a1 tn c1, .int .i64 vol, .slice a2 pn c2] 33) := ⟨_, rfl⟩
    have hal := (Ext.refl w1).alloc (.cells #[.slice a1 tn c1, .int .i64 vol, .slice a2 pn c2] 33)
    have Oq := Lib.hid (RowAt.new w1 33 #[.slice a1 tn c1, .int .i64 vol, .slice a2 pn c2])
    rw [← hw2] at hal Oq
    rw [← hbO] at Oq
    have lO := Oq.out.lt
    have mO : w1.heap.size ≤ bO := Nat.le_of_eq hbO.symm
    have nO : bO ≤ w1.heap.size := Nat.le_of_eq hbO
    have e0 : (w1.alloc (.cells #[.slice a1 tn c1, .int .i64 vol, .slice a2 pn c2] 33)).cell? ⟨w.heap.size, 0, none⟩ = some (.slice ta tn tc) := (B0_1.out.ext ((Ext.refl _).alloc _)).cell rfl
    have e1 : (w1.alloc (.cells #[.slice a1 tn c1, .int .i64 vol, .slice a2 pn c2] 33)).cell? ⟨w.heap.size, 1, none⟩ = some (.int .i64 vol) := (B0_1.out.ext ((Ext.refl _).alloc _)).cell rfl
    have e2 : (w1.alloc (.cells #[.slice a1 tn c1, .int .i64 vol, .slice a2 pn c2] 33)).cell? ⟨w.heap.size, 2, none⟩ = some (.slice pa pn pc) := (B0_1.out.ext ((Ext.refl _).alloc _)).cell rfl
    go_wp2_with fail
    clear e0 e1 e2
    (try rw [← hw2])
    (try rw [← hbO])
    clear hw2 hbO
    have HW2 := Lib.hid (HW1.out.trans hal)
    have B0_2 := Lib.hid (B0_1.out.ext hal)
    have RES0_2 := Lib.hid (RES0_1.out.ext hal)
    have OT_2 := Lib.hid (OT_1.out.ext hal)
    have zz2 := hal.size
    clear HW1 B0_1 RES0_1 OT_1 hal
    have O_2 := Oq; clear Oq
    with_reducible refine (implReachOk_is true _ _ _ _ _ _ _ ps xs _ HT.out HTL.out HP.out HPL.out (HFT.out.ext HW2.out) (HFP.out.ext HW2.out) hvol HOK.out).mono ?_
    rintro e w3 ⟨rfl, hb⟩
    have HW3 := Lib.hid (HW2.out.trans hb)
    have B0_3 := Lib.hid (B0_2.out.ext hb)
    have RES0_3 := Lib.hid (RES0_2.out.ext hb)
    have O_3 := Lib.hid (O_2.out.ext hb)
    have OT_3 := Lib.hid (OT_2.out.ext hb)
    have zz3 := hb.size
    clear HW2 B0_2 RES0_2 O_2 OT_2 hb
    have cB00 : w3.cell? ⟨w.heap.size, 0, none⟩ = some (.slice ta tn tc) := B0_3.out.cell rfl
    have cB01 : w3.cell? ⟨w.heap.size, 1, none⟩ = some (.int .i64 vol) := B0_3.out.cell rfl
    have cB02 : w3.cell? ⟨w.heap.size, 2, none⟩ = some (.slice pa pn pc) := B0_3.out.cell rfl
    go_wp2_with fail
    with_reducible refine (implSpace_any T _ _ _ _ _ _ _ ps xs _ HT.out htl HP.out hpl (HFT.out.ext HW3.out) (HFP.out.ext HW3.out) hvol HOK.out HTT.out).mono ?_
    rintro e w4 ⟨rfl, hb⟩
    clear cB00 cB01 cB02
    have HW4 := Lib.hid (HW3.out.trans hb)
    have B0_4 := Lib.hid (B0_3.out.ext hb)
    have RES0_4 := Lib.hid (RES0_3.out.ext hb)
    have O_4 := Lib.hid (O_3.out.ext hb)
    have OT_4 := Lib.hid (OT_3.out.ext hb)
    have zz4 := hb.size
    clear HW3 B0_3 RES0_3 O_3 OT_3 hb
    have d00 : w4.cell? ⟨bO, 0, none⟩ = some (.slice a1 tn c1) := O_4.out.cell rfl
    have d10 : w4.cell? ⟨bO, 1, none⟩ = some (.int .i64 vol) := O_4.out.cell rfl
    have d20 : w4.cell? ⟨bO, 2, none⟩ = some (.slice a2 pn c2) := O_4.out.cell rfl
    have f1 := O_4.out.frozen 1
    have TO2 := Lib.hid (O_4.out.set 1 (.int .i64 (vol + amount)))
    have T12 := Lib.hid (RES0_4.out.other (p := ⟨bO, 1, none⟩) (by dsimp only; omega) (.int .i64 (vol + amount)))
    have HG4 := Lib.hid (OT_4.out.keep (Nat.le_refl _) (Nat.le_refl _) (fun B t c h1 h2 hr => hr.other (p := ⟨bO, 1, none⟩) (by dsimp only; omega) (.int .i64 (vol + amount))))
    have HE4 := Lib.hid (HW4.out.setCell (p := ⟨bO, 1, none⟩) (by dsimp only; omega) (.int .i64 (vol + amount)))
    have q0 : (w4.setCell ⟨bO, 1, none⟩ (.int .i64 (vol + amount))).cell? ⟨bO, 0, none⟩ = some (.slice a1 tn c1) := TO2.out.cell rfl
    have q1 : (w4.setCell ⟨bO, 1, none⟩ (.int .i64 (vol + amount))).cell? ⟨bO, 1, none⟩ = some (.int .i64 (vol + amount)) := TO2.out.cell rfl
    have q2 : (w4.setCell ⟨bO, 1, none⟩ (.int .i64 (vol + amount))).cell? ⟨bO, 2, none⟩ = some (.slice a2 pn c2) := TO2.out.cell rfl
    have r0 : (w4.setCell ⟨bO, 1, none⟩ (.int .i64 (vol + amount))).cell? ⟨w.heap.size + 1, 0, none⟩ = some (.slice none 0 0) := T12.out.cell rfl
    have g0 := T12.out.frozen 0
    have r1 : (w4.setCell ⟨bO, 1, none⟩ (.int .i64 (vol + amount))).cell? ⟨w.heap.size + 1, 1, none⟩ = some (.int .i64 0) := T12.out.cell rfl
    have g1 := T12.out.frozen 1
    have r2 : (w4.setCell ⟨bO, 1, none⟩ (.int .i64 (vol + amount))).cell? ⟨w.heap.size + 1, 2, none⟩ = some (.slice none 0 0) := T12.out.cell rfl
    have g2 := T12.out.frozen 2
    go_wp2
    refine bodyPost_ret (v := .agg #[.slice a1 tn c1, .int .i64 (vol + amount), .slice a2 pn c2]) (by simp [results, Try.results35, go_sem, *]) rfl ⟨a1, c1, _, c2, by rw [HV2.out], ?_, ?_⟩
    · rw [HX2.out]
      exact HG4.out.keep (by (try simp only [World.size_alloc]); omega) (by simp only [size_setCell']; omega) (fun B t c h1 h2 hr => by
        (try simp only [World.size_alloc] at h1)
        (repeat' (first | (with_reducible assumption) | (with_reducible refine RowAt.other ?_ ?_ _))) <;> dsimp only <;> omega)
    · exact (((HE4.out.setCell (p := ⟨w.heap.size + 1, 0, none⟩) (by dsimp only; omega) _).setCell (p := ⟨w.heap.size + 1, 1, none⟩) (by dsimp only; omega) _).setCell (p := ⟨w.heap.size + 1, 2, none⟩) (by dsimp only; omega) _)
  · have hv2 := HV.out
    rw [if_neg hpz] at hv2
    have HV2 := Lib.hid hv2; clear hv2
    have hpx : pn - 1 < xs.length := by rw [← HP.out]; omega
    have hxl := HXB.out xs[pn - 1] (List.getElem_mem _)
    obtain ⟨xl, hxl'⟩ : ∃ x, xs[pn - 1] = x := ⟨_, rfl⟩
    have HX2 := Lib.hid (show sendXs xs amount = xs.set (pn - 1) (xl + amount) by unfold sendXs; rw [dif_neg (by rw [← HP.out]; exact hpz)]; simp only [← HP.out]; rw [hxl'])
    rw [hxl'] at hxl
    have HXL := Lib.hid hxl'; clear hxl'
    have dz : ((pn : Int) == 0) = false := by simp; omega
    have hp1 : ((pn : Int) - 1).toNat = pn - 1 := by omega
    go_enter Try.func35, Try.ntmps35
    have B0_0 := B0I
    have RES0_0 := RES0I
    have HW0 := HE0
    go_wp2_with fail
    with_reducible refine (copyReach_any _ _ _ _ _ _ _ ps xs _ HT.out htl HP.out hpl (HFT.out.ext HE0.out) (HFP.out.ext HE0.out) HCT.out HCP.out).mono ?_
    rintro e w1 ⟨a1, c1, a2, c2, rfl, hg1, hb⟩
    have hown := Lib.hid (hg1); clear hg1
    have HW1 := Lib.hid (HW0.out.trans hb)
    have B0_1 := Lib.hid (B0_0.out.ext hb)
    have RES0_1 := Lib.hid (RES0_0.out.ext hb)
    have zz1 := hb.size
    simp only [World.size_alloc] at zz1
    clear HW0 B0_0 RES0_0 hb
    have OT_1 := hown; clear hown
    obtain ⟨bO, hbO⟩ : ∃ x, x = w1.heap.size := ⟨_, rfl⟩
    obtain ⟨w2, hw2⟩ : ∃ x, x = w1.alloc (.cells #[.slice a1 tn c1, .int .i64 vol, .slice a2 pn c2] 33) := ⟨_, rfl⟩
    have hal := (Ext.refl w1).alloc (.cells #[.slice a1 tn c1, .int .i64 vol, .slice a2 pn c2] 33)
    have Oq := Lib.hid (RowAt.new w1 33 #[.slice a1 tn c1, .int .i64 vol, .slice a2 pn c2])
    rw [← hw2] at hal Oq
    rw [← hbO] at Oq
    have lO := Oq.out.lt
    have mO : w1.heap.size ≤ bO := Nat.le_of_eq hbO.symm
    have nO : bO ≤ w1.heap.size := Nat.le_of_eq hbO
    have e0 : (w1.alloc (.cells #[.slice a1 tn c1, .int .i64 vol, .slice a2 pn c2] 33)).cell? ⟨w.heap.size, 0, none⟩ = some (.slice ta tn tc) := (B0_1.out.ext ((Ext.refl _).alloc _)).cell rfl
    have e1 : (w1.alloc (.cells #[.slice a1 tn c1, .int .i64 vol, .slice a2 pn c2] 33)).cell? ⟨w.heap.size, 1, none⟩ = some (.int .i64 vol) := (B0_1.out.ext ((Ext.refl _).alloc _)).cell rfl
    have e2 : (w1.alloc (.cells #[.slice a1 tn c1, .int .i64 vol, .slice a2 pn c2] 33)).cell? ⟨w.heap.size, 2, none⟩ = some (.slice pa pn pc) := (B0_1.out.ext ((Ext.refl _).alloc _)).cell rfl
    go_wp2_with fail
    clear e0 e1 e2
    (try rw [← hw2])
    (try rw [← hbO])
    clear hw2 hbO
    have HW2 := Lib.hid (HW1.out.trans hal)
    have B0_2 := Lib.hid (B0_1.out.ext hal)
    have RES0_2 := Lib.hid (RES0_1.out.ext hal)
    have OT_2 := Lib.hid (OT_1.out.ext hal)
    have zz2 := hal.size
    clear HW1 B0_1 RES0_1 OT_1 hal
    have O_2 := Oq; clear Oq
    with_reducible refine (implReachOk_is true _ _ _ _ _ _ _ ps xs _ HT.out HTL.out HP.out HPL.out (HFT.out.ext HW2.out) (HFP.out.ext HW2.out) hvol HOK.out).mono ?_
    rintro e w3 ⟨rfl, hb⟩
    have HW3 := Lib.hid (HW2.out.trans hb)
    have B0_3 := Lib.hid (B0_2.out.ext hb)
    have RES0_3 := Lib.hid (RES0_2.out.ext hb)
    have O_3 := Lib.hid (O_2.out.ext hb)
    have OT_3 := Lib.hid (OT_2.out.ext hb)
    have zz3 := hb.size
    clear HW2 B0_2 RES0_2 O_2 OT_2 hb
    have cB00 : w3.cell? ⟨w.heap.size, 0, none⟩ = some (.slice ta tn tc) := B0_3.out.cell rfl
    have cB01 : w3.cell? ⟨w.heap.size, 1, none⟩ = some (.int .i64 vol) := B0_3.out.cell rfl
    have cB02 : w3.cell? ⟨w.heap.size, 2, none⟩ = some (.slice pa pn pc) := B0_3.out.cell rfl
    go_wp2_with fail
    with_reducible refine (implSpace_any T _ _ _ _ _ _ _ ps xs _ HT.out htl HP.out hpl (HFT.out.ext HW3.out) (HFP.out.ext HW3.out) hvol HOK.out HTT.out).mono ?_
    rintro e w4 ⟨rfl, hb⟩
    clear cB00 cB01 cB02
    have HW4 := Lib.hid (HW3.out.trans hb)
    have B0_4 := Lib.hid (B0_3.out.ext hb)
    have RES0_4 := Lib.hid (RES0_3.out.ext hb)
    have O_4 := Lib.hid (O_3.out.ext hb)
    have OT_4 := Lib.hid (OT_3.out.ext hb)
    have zz4 := hb.size
    clear HW3 B0_3 RES0_3 O_3 OT_3 hb
    have d00 : w4.cell? ⟨bO, 0, none⟩ = some (.slice a1 tn c1) := O_4.out.cell rfl
    have d10 : w4.cell? ⟨bO, 1, none⟩ = some (.int .i64 vol) := O_4.out.cell rfl
    have d20 : w4.cell? ⟨bO, 2, none⟩ = some (.slice a2 pn c2) := O_4.out.cell rfl
    obtain ⟨mid, hmid, HPT, HPI⟩ := OT_4.out
    have HPI2 := HPI
    obtain ⟨_, _, hsl, hrr⟩ := HPI2
    injection hsl with e1 e2 e3; subst e1 e3; clear e2
    obtain hrr | ⟨B, off, cur, rfl, hB1, hB2, hB3, _⟩ := hrr
    · rw [hrr] at hpx; exact absurd hpx (Nat.not_lt_zero _)
    obtain ⟨_, hcl, hfz, HPN⟩ := HPI.setAt (pn - 1) hpx (xl + amount)
    rw [HXL.out] at hcl
    have TO2 := Lib.hid (show RowAt (w4.setCell ⟨B, off + (pn - 1), none⟩ (.int .i64 (xl + amount))) bO 33 #[.slice a1 tn c1, .int .i64 vol, .slice (some ⟨B, off, none⟩) pn c2] from O_4.out.other (p := ⟨B, off + (pn - 1), none⟩) (by dsimp only; (try simp only [World.size_alloc] at hmid); omega) (.int .i64 (xl + amount)))
    have T12 := Lib.hid (show RowAt (w4.setCell ⟨B, off + (pn - 1), none⟩ (.int .i64 (xl + amount))) (w.heap.size + 1) 33 #[.slice none 0 0, .int .i64 0, .slice none 0 0] from RES0_4.out.other (p := ⟨B, off + (pn - 1), none⟩) (by dsimp only; (try simp only [World.size_alloc] at hmid); omega) (.int .i64 (xl + amount)))
    have HG4 := Lib.hid (show OwnReach (w4.setCell ⟨B, off + (pn - 1), none⟩ (.int .i64 (xl + amount))) _ _ a1 tn c1 (some ⟨B, off, none⟩) pn c2 ps (xs.set (pn - 1) (xl + amount)) from OwnReach.mk hmid (HPT.keep (Nat.le_refl _) (Nat.le_refl _) (fun B' t c h1 h2 hr => hr.other (p := ⟨B, off + (pn - 1), none⟩) (by dsimp only; omega) (.int .i64 (xl + amount)))) HPN)
    have HE4 := Lib.hid (show Ext _ (w4.setCell ⟨B, off + (pn - 1), none⟩ (.int .i64 (xl + amount))) from HW4.out.setCell (p := ⟨B, off + (pn - 1), none⟩) (by dsimp only; (try simp only [World.size_alloc] at hmid); omega) (.int .i64 (xl + amount)))
    clear HPT HPI HPN hB3
    have q0 : (w4.setCell ⟨B, off + (pn - 1), none⟩ (.int .i64 (xl + amount))).cell? ⟨bO, 0, none⟩ = some (.slice a1 tn c1) := TO2.out.cell rfl
    have q1 : (w4.setCell ⟨B, off + (pn - 1), none⟩ (.int .i64 (xl + amount))).cell? ⟨bO, 1, none⟩ = some (.int .i64 vol) := TO2.out.cell rfl
    have q2 : (w4.setCell ⟨B, off + (pn - 1), none⟩ (.int .i64 (xl + amount))).cell? ⟨bO, 2, none⟩ = some (.slice (some ⟨B, off, none⟩) pn c2) := TO2.out.cell rfl
    have r0 : (w4.setCell ⟨B, off + (pn - 1), none⟩ (.int .i64 (xl + amount))).cell? ⟨w.heap.size + 1, 0, none⟩ = some (.slice none 0 0) := T12.out.cell rfl
    have g0 := T12.out.frozen 0
    have r1 : (w4.setCell ⟨B, off + (pn - 1), none⟩ (.int .i64 (xl + amount))).cell? ⟨w.heap.size + 1, 1, none⟩ = some (.int .i64 0) := T12.out.cell rfl
    have g1 := T12.out.frozen 1
    have r2 : (w4.setCell ⟨B, off + (pn - 1), none⟩ (.int .i64 (xl + amount))).cell? ⟨w.heap.size + 1, 2, none⟩ = some (.slice none 0 0) := T12.out.cell rfl
    have g2 := T12.out.frozen 2
    go_wp2
    refine bodyPost_ret (v := .agg #[.slice a1 tn c1, .int .i64 vol, .slice (some ⟨B, off, none⟩) pn c2]) (by simp [results, Try.results35, go_sem, *]) rfl ⟨a1, c1, _, c2, by rw [HV2.out], ?_, ?_⟩
    · rw [HX2.out]
      exact HG4.out.keep (by (try simp only [World.size_alloc]); omega) (by simp only [size_setCell']; omega) (fun B t c h1 h2 hr => by
        (try simp only [World.size_alloc] at h1)
        (repeat' (first | (with_reducible assumption) | (with_reducible refine RowAt.other ?_ ?_ _))) <;> dsimp only <;> omega)
    · exact (((HE4.out.setCell (p := ⟨w.heap.size + 1, 0, none⟩) (by dsimp only; omega) _).setCell (p := ⟨w.heap.size + 1, 1, none⟩) (by dsimp only; omega) _).setCell (p := ⟨w.heap.size + 1, 2, none⟩) (by dsimp only; omega) _)
end Go.Proofs.Ytmppoflgbmabpaa
/- What is handed back by functions that make a lock and a reach anew. -/
namespace Go.Proofs.Ytmppoflgbmabpaa
open Go.RowKit
set_option linter.unusedSimpArgs false
set_option linter.unusedVariables false

theorem lockOk_rate {x0 x1 x2 x3 x4 x5 x6 x7 x8 : Int} {ts : List Tn} (h : lockOk x0 x1 x2 x3 x4 x5 x6 x7 x8 ts = true) : 1 ≤ x6 ∧ x6 ≤ 100000 := by
  unfold lockOk at h
  simp only [Bool.and_eq_true] at h
  have := inR_true h.1.1.1.2
  omega
/-- What a function hands back that makes a lock and a reach anew. -/
def LockReach (w w' : World) (ts : List Tn) (ps : List Pt) (xs : List Int) (a' : Option Addr) (a1 : Option Addr) (tn c1 : Nat) (a2 : Option Addr) (pn c2 : Nat) : Prop :=
  ∃ mid, (w.heap.size ≤ mid ∧ mid ≤ w'.heap.size) ∧ OwnTrains w' w.heap.size mid a' ts ∧ OwnReach w' mid w'.heap.size a1 tn c1 a2 pn c2 ps xs
theorem LockReach.mk {w w' : World} {lo1 hi1 lo2 hi2 : Nat} {ts : List Tn} {ps : List Pt} {xs : List Int} {a' : Option Addr} {a1 : Option Addr} {tn c1 : Nat} {a2 : Option Addr} {pn c2 : Nat} (h0 : w.heap.size ≤ lo1) (h1 : lo1 ≤ hi1) (h2 : hi1 ≤ lo2) (h3 : lo2 ≤ hi2) (h4 : hi2 ≤ w'.heap.size) (ho : OwnTrains w' lo1 hi1 a' ts) (hr : OwnReach w' lo2 hi2 a1 tn c1 a2 pn c2 ps xs) : LockReach w w' ts ps xs a' a1 tn c1 a2 pn c2 :=
  ⟨hi1, ⟨by omega, by omega⟩, ho.wide h0 (Nat.le_refl _), hr.keep h2 h4 (fun _ _ _ _ _ h => h)⟩
end Go.Proofs.Ytmppoflgbmabpaa
