/- ReachOk, LevelOf on both sides. -/
import Derived.Test.YtmppoflgbmabpaaProg
import Derived.Test.YtmppoflgbmabpaaM4
import Derived.Test.YtmppoflgbmabpaaM3
import Derived.Test.YtmppoflgbmabpaaM2
namespace Go.Proofs.Ytmppoflgbmabpaa
open Go.RowKit
set_option linter.unusedSimpArgs false
set_option linter.unusedVariables false

def pipeGo (s : Int) : List Int → Bool
  | [] => true
  | x :: xs => if x < 0 ∨ 1000000000 - s < x then false else pipeGo (s + x) xs
theorem sumFrom_ge : ∀ (xs : List Int) (s : Int), (∀ x ∈ xs, 0 ≤ x) → s ≤ sumFrom s xs
  | [], s, _ => Int.le_refl _
  | x :: xs, s, h => by
    have h1 := sumFrom_ge xs (s + x) (fun y hy => h y (by simp [hy]))
    have h2 := h x (by simp)
    have e : sumFrom s (x :: xs) = sumFrom (s + x) xs := rfl
    omega
theorem sumFrom_le : ∀ (xs : List Int) (s : Int), (∀ x ∈ xs, 0 ≤ x ∧ x ≤ 1000000000) → sumFrom s xs ≤ s + 1000000000 * (xs.length : Int)
  | [], s, _ => by simp [sumFrom]
  | x :: xs, s, h => by
    have h1 := sumFrom_le xs (s + x) (fun y hy => h y (by simp [hy]))
    have h2 := h x (by simp)
    have e : sumFrom s (x :: xs) = sumFrom (s + x) xs := rfl
    rw [List.length_cons]
    omega
theorem pipeGo_eq : ∀ (xs : List Int) (s : Int), 0 ≤ s → s ≤ 1000000000 → pipeGo s xs = (xs.all (fun x => inR x 0 1000000000) && decide (sumFrom s xs ≤ 1000000000))
  | [], s, h0, h1 => by simp [pipeGo, sumFrom, h1]
  | x :: xs, s, h0, h1 => by
    have e : sumFrom s (x :: xs) = sumFrom (s + x) xs := rfl
    unfold pipeGo
    rw [List.all_cons, e]
    by_cases c : x < 0 ∨ 1000000000 - s < x
    · rw [if_pos c]
      by_cases c1 : inR x 0 1000000000 = true
      · have hx := inR_true c1
        rw [c1, Bool.true_and]
        by_cases c2 : xs.all (fun x => inR x 0 1000000000) = true
        · have hg := sumFrom_ge xs (s + x) (fun y hy => (inR_true (List.all_eq_true.1 c2 y hy)).1)
          rw [decide_eq_false (by omega), Bool.and_false]
        · simp only [Bool.not_eq_true] at c2
          rw [c2, Bool.false_and]
      · simp only [Bool.not_eq_true] at c1
        rw [c1, Bool.false_and, Bool.false_and]
    · rw [if_neg c, pipeGo_eq xs (s + x) (by omega) (by omega)]
      have c1 : inR x 0 1000000000 = true := by simp [inR]; omega
      rw [c1, Bool.true_and]
theorem reachOk_no1 {ps : List Pt} {vol : Int} {xs : List Int} (h : tableOk ps = false) : false = reachOk ps vol xs := by unfold reachOk; rw [h]; rfl
theorem reachOk_no2 {ps : List Pt} {vol : Int} {xs : List Int} (h : inR vol 0 1000000000 = false) : false = reachOk ps vol xs := by unfold reachOk; rw [h]; simp
theorem reachOk_no3 {ps : List Pt} {vol : Int} {xs : List Int} (h : 12 < xs.length) : false = reachOk ps vol xs := by unfold reachOk; rw [decide_eq_false (p := xs.length ≤ 12) (by omega)]; simp
theorem reachOk_yes {ps : List Pt} {vol : Int} {xs : List Int} (h1 : tableOk ps = true) (h2 : inR vol 0 1000000000 = true) (h3 : xs.length ≤ 12) : (xs.all (fun x => inR x 0 1000000000) && decide (sumFrom vol xs ≤ 1000000000)) = reachOk ps vol xs := by
  unfold reachOk
  rw [h1, h2, decide_eq_true h3]
  rfl

set_option maxRecDepth 100000 in
set_option maxHeartbeats 1000000 in
theorem implReachOk_any (ta pa : Option Addr) (tn tc pn pc : Nat) (vol : Int) (ps : List Pt) (xs : List Int) (w : World) (ht : tn = ps.length) (hts : tn ≤ maxLen) (hp : pn = xs.length) (hps : pn ≤ maxLen) (hft : FlatAt w ptCells 2 ta ps) (hfp : IntsAt w pa xs) (hvol : -9223372036854775808 ≤ vol ∧ vol ≤ 9223372036854775807) :
    Calls Try.prog 29 #[.agg #[.slice ta tn tc, .int .i64 vol, .slice pa pn pc]] w fun e w' => e = .returned (.bool (reachOk ps vol xs)) ∧ Ext w w' := by
  have HFT := Lib.hid hft; clear hft
  have HFP := Lib.hid hfp; clear hfp
  have HT := Lib.hid ht; clear ht
  have HTS := Lib.hid hts; clear hts
  have HP := Lib.hid hp; clear hp
  unfold maxLen at hps
  have hB := RowAt.new w 33 #[.slice ta tn tc, .int .i64 vol, .slice pa pn pc]
  have HB := Lib.hid hB; clear hB
  have eA := (Ext.refl w).alloc (.cells #[.slice ta tn tc, .int .i64 vol, .slice pa pn pc] 33)
  have HEA := Lib.hid eA; clear eA
  obtain ⟨b1, hb1⟩ : ∃ b, tableOk ps = b := ⟨_, rfl⟩
  have H1 := Lib.hid hb1; clear hb1
  cases b1
  · go_enter Try.func29, Try.ntmps29
    go_wp2_with (go_at_call 51; with_reducible refine (implTableOk_is _ _ _ _ ps _ HT.out HTS.out (HFT.out.ext HEA.out) H1.out).mono ?_; rintro e w1 ⟨rfl, hx1⟩)
    go_ret
    exact ⟨ret_bool (reachOk_no1 H1.out), HEA.out.trans hx1⟩
  obtain ⟨b2, hb2⟩ : ∃ b, inR vol 0 1000000000 = b := ⟨_, rfl⟩
  have H2 := Lib.hid hb2
  cases b2
  · go_enter Try.func29, Try.ntmps29
    go_wp2_with fail
    refine (implTableOk_is _ _ _ _ ps _ HT.out HTS.out (HFT.out.ext HEA.out) H1.out).mono ?_
    rintro e w1 ⟨rfl, hx1⟩
    have t1 : w1.cell? ⟨w.heap.size, 1, none⟩ = some (.int .i64 vol) := (HB.out.ext hx1).cell rfl
    go_wp2_with ((go_at_call 26; refine (inRange_any _ _ _ _).mono ?_; rintro e w' ⟨rfl, rfl⟩))
    go_ret
    exact ⟨ret_bool (reachOk_no2 H2.out), HEA.out.trans hx1⟩
  have hvb := inR_true hb2
  by_cases h12 : 12 < pn
  · go_enter Try.func29, Try.ntmps29
    go_wp2_with fail
    refine (implTableOk_is _ _ _ _ ps _ HT.out HTS.out (HFT.out.ext HEA.out) H1.out).mono ?_
    rintro e w1 ⟨rfl, hx1⟩
    have t1 : w1.cell? ⟨w.heap.size, 1, none⟩ = some (.int .i64 vol) := (HB.out.ext hx1).cell rfl
    have t2 : w1.cell? ⟨w.heap.size, 2, none⟩ = some (.slice pa pn pc) := (HB.out.ext hx1).cell rfl
    go_wp2_with ((go_at_call 26; refine (inRange_any _ _ _ _).mono ?_; rintro e w' ⟨rfl, rfl⟩))
    go_ret
    exact ⟨ret_bool (reachOk_no3 (by rw [← HP.out]; exact h12)), HEA.out.trans hx1⟩
  · have h12' : pn ≤ 12 := by omega
    have HY := Lib.hid (reachOk_yes (xs := xs) H1.out H2.out (by rw [← HP.out]; exact h12'))
    rw [← pipeGo_eq xs vol hvb.1 hvb.2] at HY
    go_enter Try.func29, Try.ntmps29
    go_wp2_with fail
    refine (implTableOk_is _ _ _ _ ps _ HT.out HTS.out (HFT.out.ext HEA.out) H1.out).mono ?_
    rintro e w1 ⟨rfl, hx1⟩
    have t1 : w1.cell? ⟨w.heap.size, 1, none⟩ = some (.int .i64 vol) := (HB.out.ext hx1).cell rfl
    have t2 : w1.cell? ⟨w.heap.size, 2, none⟩ = some (.slice pa pn pc) := (HB.out.ext hx1).cell rfl
    have HF1 := Lib.hid (HFP.out.ext (HEA.out.trans hx1))
    have HX1 := Lib.hid (HEA.out.trans hx1)
    clear hx1
    go_wp2_with ((go_at_call 26; refine (inRange_any _ _ _ _).mono ?_; rintro e w' ⟨rfl, rfl⟩))
    go_loop [3, 28] (fun l i => ∃ (k : Nat) (s : Int), k ≤ pn ∧ i = .int .i64 k ∧ l = .int .i64 (1000000000 - s) ∧ 0 ≤ s ∧ s ≤ 1000000000 ∧ Hid (pipeGo vol xs = pipeGo s (xs.drop k))) (fun _ i => pn - (intOf i).toNat)
    case atStart => exact ⟨0, vol, Nat.zero_le _, rfl, rfl, hvb.1, hvb.2, rfl⟩
    case round =>
      obtain ⟨k, s, hk, rfl, rfl, hs0, hs1, hgo⟩ := hrel
      by_cases hlt : k < pn
      · have hlt' : k < xs.length := by rw [← HP.out]; exact hlt
        obtain ⟨b, off, rfl, hc⟩ := HF1.out k hlt'
        have HD := Lib.hid (show pipeGo vol xs = pipeGo s (xs[k] :: xs.drop (k + 1)) by rw [hgo.out, List.drop_eq_getElem_cons hlt'])
        obtain ⟨x, hx⟩ : ∃ x, xs[k] = x := ⟨_, rfl⟩
        rw [hx] at hc HD
        clear hx hgo
        rcases (by omega : x < 0 ∨ (0 ≤ x ∧ 1000000000 - s < x) ∨ (0 ≤ x ∧ x ≤ 1000000000 - s)) with c | ⟨c, c2⟩ | ⟨c, c2⟩
        · have hF := Lib.hid (show pipeGo vol xs = false by rw [HD.out, pipeGo, if_pos (.inl c)])
          go_wp2
          go_ret
          exact ⟨ret_bool (by rw [← HY.out, hF.out]), HX1.out⟩
        · have hF := Lib.hid (show pipeGo vol xs = false by rw [HD.out, pipeGo, if_pos (.inr c2)])
          have d1 : decide (x < 0) = false := by simp; omega
          go_wp2
          go_ret
          exact ⟨ret_bool (by rw [← HY.out, hF.out]), HX1.out⟩
        · have hF := Lib.hid (show pipeGo vol xs = pipeGo (s + x) (xs.drop (k + 1)) by rw [HD.out, pipeGo, if_neg (by omega)])
          have d1 : decide (x < 0) = false := by simp; omega
          have d2 : decide (1000000000 - s < x) = false := by simp; omega
          go_wp2
          go_round
          case rel => exact ⟨k + 1, s + x, by omega, by go_num, by go_num, by omega, by omega, hF.out⟩
          case measure => simp [intOf]; omega
      · have hF := Lib.hid (show pipeGo vol xs = true by rw [hgo.out, List.drop_eq_nil_of_le (by rw [← HP.out]; omega)]; rfl)
        go_wp2
        go_ret
        exact ⟨ret_bool (by rw [← HY.out, hF.out]), HX1.out⟩

set_option maxHeartbeats 1000000 in
theorem sumOf_any (ta pa : Option Addr) (tn tc pn pc : Nat) (vol S : Int) (xs : List Int) (w : World) (hp : pn = xs.length) (hps : pn ≤ 12) (hfp : IntsAt w pa xs) (hvol : 0 ≤ vol ∧ vol ≤ 1000000000) (hxs : ∀ x ∈ xs, 0 ≤ x ∧ x ≤ 1000000000) (hS : sumFrom vol xs = S) :
    Calls Try.prog 54 #[.agg #[.slice ta tn tc, .int .i64 vol, .slice pa pn pc]] w fun e w' => e = .returned (.int .i64 S) ∧ Ext w w' := by
  have HFP := Lib.hid (hfp.ext ((Ext.refl w).alloc (.cells #[.slice ta tn tc, .int .i64 vol, .slice pa pn pc] 33))); clear hfp
  have HP := Lib.hid hp; clear hp
  have HXS := Lib.hid hxs; clear hxs
  have HS := Lib.hid hS; clear hS
  go_enter Try.func54, Try.ntmps54
  go_wp2
  go_loop [3, 4] (fun l i => ∃ (k : Nat) (s : Int), k ≤ pn ∧ i = .int .i64 k ∧ l = .int .i64 s ∧ 0 ≤ s ∧ s ≤ 1000000000 * ((k : Int) + 1) ∧ Hid (S = sumFrom s (xs.drop k))) (fun _ i => pn - (intOf i).toNat)
  case atStart => exact ⟨0, vol, Nat.zero_le _, rfl, rfl, hvol.1, by omega, HS.out.symm⟩
  case round =>
    obtain ⟨k, s, hk, rfl, rfl, hs0, hs1, hgo⟩ := hrel
    by_cases hlt : k < pn
    · have hlt' : k < xs.length := by rw [← HP.out]; exact hlt
      obtain ⟨b, off, rfl, hc⟩ := HFP.out k hlt'
      have HD := Lib.hid (show S = sumFrom s (xs[k] :: xs.drop (k + 1)) by rw [hgo.out, List.drop_eq_getElem_cons hlt'])
      have hxb := HXS.out xs[k] (List.getElem_mem _)
      obtain ⟨x, hx⟩ : ∃ x, xs[k] = x := ⟨_, rfl⟩
      rw [hx] at hc HD hxb
      clear hx hgo
      go_wp2
      go_round
      case rel => exact ⟨k + 1, s + x, by omega, by go_num, rfl, by omega, by omega, HD.out⟩
      case measure => simp [intOf]; omega
    · have hF := Lib.hid (show S = s by rw [hgo.out, List.drop_eq_nil_of_le (by rw [← HP.out]; omega)]; rfl)
      go_wp2
      go_ret
      exact ⟨ret_int hF.out.symm, by (repeat' (first | (with_reducible exact Ext.refl _) | (with_reducible assumption) | (with_reducible refine Ext.alloc ?_ _) | (with_reducible refine Ext.drewN ?_ _) | (with_reducible refine Ext.drew ?_) | (with_reducible refine Ext.setCell ?_ ?_ _) | (with_reducible exact Nat.le_refl _) | (with_reducible exact Nat.le_succ _) | (with_reducible refine Ext.trans ?_ (by assumption)) | (simp; done) | (simp; omega)))⟩

set_option maxRecDepth 100000 in
set_option maxHeartbeats 1000000 in
theorem specReachOk_any (ta pa : Option Addr) (tn tc pn pc : Nat) (vol : Int) (ps : List Pt) (xs : List Int) (w : World) (ht : tn = ps.length) (hts : tn ≤ maxLen) (hp : pn = xs.length) (hps : pn ≤ maxLen) (hft : FlatAt w ptCells 2 ta ps) (hfp : IntsAt w pa xs) (hvol : -9223372036854775808 ≤ vol ∧ vol ≤ 9223372036854775807) :
    Calls Try.prog 38 #[.agg #[.slice ta tn tc, .int .i64 vol, .slice pa pn pc]] w fun e w' => e = .returned (.bool (reachOk ps vol xs)) ∧ Ext w w' := by
  have HFT := Lib.hid hft; clear hft
  have HFP := Lib.hid hfp; clear hfp
  have HT := Lib.hid ht; clear ht
  have HTS := Lib.hid hts; clear hts
  have HP := Lib.hid hp; clear hp
  unfold maxLen at hps
  have hB := RowAt.new w 33 #[.slice ta tn tc, .int .i64 vol, .slice pa pn pc]
  have HB := Lib.hid hB; clear hB
  have eA := (Ext.refl w).alloc (.cells #[.slice ta tn tc, .int .i64 vol, .slice pa pn pc] 33)
  have HEA := Lib.hid eA; clear eA
  obtain ⟨b1, hb1⟩ : ∃ b, tableOk ps = b := ⟨_, rfl⟩
  have H1 := Lib.hid hb1; clear hb1
  cases b1
  · go_enter Try.func38, Try.ntmps38
    go_wp2_with (go_at_call 53; with_reducible refine (specTableOk_is _ _ _ _ ps _ HT.out HTS.out (HFT.out.ext HEA.out) H1.out).mono ?_; rintro e w1 ⟨rfl, hx1⟩)
    go_ret
    exact ⟨ret_bool (reachOk_no1 H1.out), HEA.out.trans hx1⟩
  obtain ⟨b2, hb2⟩ : ∃ b, inR vol 0 1000000000 = b := ⟨_, rfl⟩
  have H2 := Lib.hid hb2
  cases b2
  · go_enter Try.func38, Try.ntmps38
    go_wp2_with fail
    refine (specTableOk_is _ _ _ _ ps _ HT.out HTS.out (HFT.out.ext HEA.out) H1.out).mono ?_
    rintro e w1 ⟨rfl, hx1⟩
    have t1 : w1.cell? ⟨w.heap.size, 1, none⟩ = some (.int .i64 vol) := (HB.out.ext hx1).cell rfl
    go_wp2_with ((go_at_call 36; refine (l01In_any _ _ _ _).mono ?_; rintro e w' ⟨rfl, rfl⟩))
    go_ret
    exact ⟨ret_bool (reachOk_no2 H2.out), HEA.out.trans hx1⟩
  have hvb := inR_true hb2
  by_cases h12 : 12 < pn
  · go_enter Try.func38, Try.ntmps38
    go_wp2_with fail
    refine (specTableOk_is _ _ _ _ ps _ HT.out HTS.out (HFT.out.ext HEA.out) H1.out).mono ?_
    rintro e w1 ⟨rfl, hx1⟩
    have t1 : w1.cell? ⟨w.heap.size, 1, none⟩ = some (.int .i64 vol) := (HB.out.ext hx1).cell rfl
    have t2 : w1.cell? ⟨w.heap.size, 2, none⟩ = some (.slice pa pn pc) := (HB.out.ext hx1).cell rfl
    go_wp2_with ((go_at_call 36; refine (l01In_any _ _ _ _).mono ?_; rintro e w' ⟨rfl, rfl⟩))
    go_ret
    exact ⟨ret_bool (reachOk_no3 (by rw [← HP.out]; exact h12)), HEA.out.trans hx1⟩
  · have h12' : pn ≤ 12 := by omega
    have HY := Lib.hid (reachOk_yes (xs := xs) H1.out H2.out (by rw [← HP.out]; exact h12'))
    go_enter Try.func38, Try.ntmps38
    go_wp2_with fail
    refine (specTableOk_is _ _ _ _ ps _ HT.out HTS.out (HFT.out.ext HEA.out) H1.out).mono ?_
    rintro e w1 ⟨rfl, hx1⟩
    have t0 : w1.cell? ⟨w.heap.size, 0, none⟩ = some (.slice ta tn tc) := (HB.out.ext hx1).cell rfl
    have t1 : w1.cell? ⟨w.heap.size, 1, none⟩ = some (.int .i64 vol) := (HB.out.ext hx1).cell rfl
    have t2 : w1.cell? ⟨w.heap.size, 2, none⟩ = some (.slice pa pn pc) := (HB.out.ext hx1).cell rfl
    have HF1 := Lib.hid (HFP.out.ext (HEA.out.trans hx1))
    have HX1 := Lib.hid (HEA.out.trans hx1)
    clear hx1
    go_wp2_with ((go_at_call 36; refine (l01In_any _ _ _ _).mono ?_; rintro e w' ⟨rfl, rfl⟩))
    go_loop [3] (fun i => ∃ (k : Nat), k ≤ pn ∧ i = .int .i64 k ∧ Hid (xs.all (fun x => inR x 0 1000000000) = (xs.drop k).all (fun x => inR x 0 1000000000))) (fun i => pn - (intOf i).toNat)
    case atStart => exact ⟨0, Nat.zero_le _, rfl, rfl⟩
    case round =>
      obtain ⟨k, hk, rfl, hgo⟩ := hrel
      by_cases hlt : k < pn
      · have hlt' : k < xs.length := by rw [← HP.out]; exact hlt
        obtain ⟨b, off, rfl, hc⟩ := HF1.out k hlt'
        have HD := Lib.hid (show xs.all (fun x => inR x 0 1000000000) = (inR xs[k] 0 1000000000 && (xs.drop (k + 1)).all (fun x => inR x 0 1000000000)) by rw [hgo.out, List.drop_eq_getElem_cons hlt', List.all_cons])
        obtain ⟨x, hx⟩ : ∃ x, xs[k] = x := ⟨_, rfl⟩
        rw [hx] at hc HD
        clear hx hgo
        obtain ⟨b3, hb3⟩ : ∃ b, inR x 0 1000000000 = b := ⟨_, rfl⟩
        rw [hb3] at HD
        cases b3
        · go_wp2_with ((go_at_call 36; refine (l01In_any _ _ _ _).mono ?_; rintro e w' ⟨rfl, rfl⟩))
          go_ret
          exact ⟨ret_bool (by rw [← HY.out, HD.out]; rfl), HX1.out⟩
        · go_wp2_with ((go_at_call 36; refine (l01In_any _ _ _ _).mono ?_; rintro e w' ⟨rfl, rfl⟩))
          go_round
          case rel => exact ⟨k + 1, by omega, by go_num, by (show _ = _); rw [HD.out, Bool.true_and]⟩
          case measure => simp [intOf]; omega
      · have hF := Lib.hid (show xs.all (fun x => inR x 0 1000000000) = true by rw [hgo.out, List.drop_eq_nil_of_le (by rw [← HP.out]; omega)]; rfl)
        have HXS := Lib.hid (show ∀ x ∈ xs, 0 ≤ x ∧ x ≤ 1000000000 from fun x hx => inR_true (List.all_eq_true.1 hF.out x hx))
        have hsl := sumFrom_le xs vol HXS.out
        rw [← HP.out] at hsl
        have hsg := sumFrom_ge xs vol (fun x hx => (HXS.out x hx).1)
        obtain ⟨S, hS⟩ : ∃ S, sumFrom vol xs = S := ⟨_, rfl⟩
        rw [hS] at hsl hsg
        have HSS := Lib.hid hS
        clear hS
        go_wp2_with (go_at_call 54; refine (sumOf_any _ _ _ _ _ _ _ S xs _ HP.out h12' HF1.out hvb HXS.out HSS.out).mono ?_; rintro e w2 ⟨rfl, hx2⟩)
        go_ret
        exact ⟨ret_bool (by rw [← HY.out, hF.out, HSS.out, Bool.true_and]), HX1.out.trans hx2⟩

theorem implReachOk_is (R : Bool) (ta pa : Option Addr) (tn tc pn pc : Nat) (vol : Int) (ps : List Pt) (xs : List Int) (w : World) (ht : tn = ps.length) (hts : tn ≤ maxLen) (hp : pn = xs.length) (hps : pn ≤ maxLen) (hft : FlatAt w ptCells 2 ta ps) (hfp : IntsAt w pa xs) (hvol : -9223372036854775808 ≤ vol ∧ vol ≤ 9223372036854775807) (hR : reachOk ps vol xs = R) :
    Calls Try.prog 29 #[.agg #[.slice ta tn tc, .int .i64 vol, .slice pa pn pc]] w fun e w' => e = .returned (.bool R) ∧ Ext w w' := by
  subst hR
  exact implReachOk_any ta pa tn tc pn pc vol ps xs w ht hts hp hps hft hfp hvol
theorem specReachOk_is (R : Bool) (ta pa : Option Addr) (tn tc pn pc : Nat) (vol : Int) (ps : List Pt) (xs : List Int) (w : World) (ht : tn = ps.length) (hts : tn ≤ maxLen) (hp : pn = xs.length) (hps : pn ≤ maxLen) (hft : FlatAt w ptCells 2 ta ps) (hfp : IntsAt w pa xs) (hvol : -9223372036854775808 ≤ vol ∧ vol ≤ 9223372036854775807) (hR : reachOk ps vol xs = R) :
    Calls Try.prog 38 #[.agg #[.slice ta tn tc, .int .i64 vol, .slice pa pn pc]] w fun e w' => e = .returned (.bool R) ∧ Ext w w' := by
  subst hR
  exact specReachOk_any ta pa tn tc pn pc vol ps xs w ht hts hp hps hft hfp hvol
theorem level_no {ps : List Pt} {vol : Int} {xs : List Int} (h : reachOk ps vol xs = false) : (0 : Int) = levelOf ps vol xs := IsLevel.eq (by unfold IsLevel; rw [if_neg (by rw [h]; decide)])
theorem level_last {ps : List Pt} {vol : Int} {xs : List Int} (h : reachOk ps vol xs = true) (h0 : 0 < ps.length) (h1 : (ps[ps.length - 1]).2 < vol) : (ps[ps.length - 1]).1 = levelOf ps vol xs :=
  IsLevel.eq (by unfold IsLevel; rw [if_pos h]; exact ⟨h0, by rw [if_pos h1]⟩)
theorem level_at {ps : List Pt} {vol z : Int} {xs : List Int} (h : reachOk ps vol xs = true) (h0 : 0 < ps.length) (h1 : ¬ (ps[ps.length - 1]).2 < vol) (hz : IsPlace ps vol z) : z = levelOf ps vol xs :=
  IsLevel.eq (by unfold IsLevel; rw [if_pos h]; exact ⟨h0, by rw [if_neg h1]; exact hz⟩)
theorem placed_cases {ps : List Pt} {y : Int} {e : Ending} (h : Placed ps y e) (ht : tableOk ps = true) (h0 : 0 < ps.length) : (ps[ps.length - 1].2 < y ∧ e = .returned (.tuple #[.int .i64 0, .bool false])) ∨ (¬ ps[ps.length - 1].2 < y ∧ ∃ z, IsPlace ps y z ∧ e = .returned (.tuple #[.int .i64 z, .bool true])) := by
  unfold Placed at h
  rw [getD_last h0] at h
  by_cases c : y ≤ ps[ps.length - 1].2
  · rw [dif_pos ⟨ht, h0, c⟩] at h
    exact .inr ⟨by omega, h⟩
  · rw [dif_neg (fun h => c h.2.2)] at h
    exact .inl ⟨by omega, h⟩

set_option maxRecDepth 100000 in
set_option maxHeartbeats 2000000 in
theorem implLevelOf_any (ta pa : Option Addr) (tn tc pn pc : Nat) (vol : Int) (ps : List Pt) (xs : List Int) (w : World) (ht : tn = ps.length) (hts : tn ≤ maxLen) (hp : pn = xs.length) (hps : pn ≤ maxLen) (hft : FlatAt w ptCells 2 ta ps) (hfp : IntsAt w pa xs) (hvol : -9223372036854775808 ≤ vol ∧ vol ≤ 9223372036854775807) :
    Calls Try.prog 12 #[.agg #[.slice ta tn tc, .int .i64 vol, .slice pa pn pc]] w fun e w' => e = .returned (.int .i64 (levelOf ps vol xs)) ∧ Ext w w' := by
  have HFT := Lib.hid hft; clear hft
  have HFP := Lib.hid hfp; clear hfp
  have HT := Lib.hid ht
  have HTS := Lib.hid hts
  have HP := Lib.hid hp; clear hp
  have HPS := Lib.hid hps; clear hps
  unfold maxLen at hts
  have hB := RowAt.new w 33 #[.slice ta tn tc, .int .i64 vol, .slice pa pn pc]
  have HB := Lib.hid hB; clear hB
  have eA := (Ext.refl w).alloc (.cells #[.slice ta tn tc, .int .i64 vol, .slice pa pn pc] 33)
  have HEA := Lib.hid eA; clear eA
  obtain ⟨b1, hb1⟩ : ∃ b, reachOk ps vol xs = b := ⟨_, rfl⟩
  have H1 := Lib.hid hb1
  cases b1
  · clear hb1 ht
    go_enter Try.func12, Try.ntmps12
    go_wp2_with (go_at_call 29; refine (implReachOk_is _ _ _ _ _ _ _ _ ps xs _ HT.out HTS.out HP.out HPS.out (HFT.out.ext HEA.out) (HFP.out.ext HEA.out) hvol H1.out).mono ?_; rintro e w1 ⟨rfl, hx1⟩)
    go_ret
    exact ⟨ret_int (level_no H1.out), HEA.out.trans hx1⟩
  · obtain ⟨htab, hl2, hl20⟩ := tab_of (reachOk_parts hb1).1
    have hlen0 : 0 < ps.length := by omega
    have hlenl : ps.length - 1 < ps.length := by omega
    have HL0 := Lib.hid hlen0
    have HTOK := Lib.hid (reachOk_parts hb1).1
    rw [← ht] at hl2 hl20
    obtain ⟨m, rfl⟩ : ∃ m, tn = m + 1 := ⟨tn - 1, by omega⟩
    obtain ⟨b, off, rfl, hcl⟩ := HFT.out.get (ps.length - 1) hlenl
    have hlb := htab.get (ps.length - 1) hlenl
    have HLV := Lib.hid (fun h1 => level_last hb1 hlen0 h1)
    have HLA := Lib.hid (fun (z : Int) h1 hz => level_at (z := z) hb1 hlen0 h1 hz)
    obtain ⟨l1, l2, hll⟩ : ∃ l1 l2, ps[ps.length - 1]'hlenl = (l1, l2) := ⟨_, _, rfl⟩
    rw [hll] at hcl hlb HLV HLA
    have HLL := Lib.hid hll
    rw [show ps.length - 1 = m by omega] at hcl
    have e2 : ∀ w', Ext w w' → w'.cell? ⟨b, off + m * 2, none⟩ = some (.int .i64 l1) := hcl 0 _ rfl
    clear hb1 ht hcl hll htab
    dsimp only at hlb
    go_enter Try.func12, Try.ntmps12
    go_wp2_with fail
    refine (implReachOk_is _ _ _ _ _ _ _ _ ps xs _ HT.out HTS.out HP.out HPS.out (HFT.out.ext HEA.out) (HFP.out.ext HEA.out) hvol H1.out).mono ?_
    rintro e w1 ⟨rfl, hx1⟩
    have t0 : w1.cell? ⟨w.heap.size, 0, none⟩ = some (.slice (some ⟨b, off, none⟩) (m + 1) tc) := (HB.out.ext hx1).cell rfl
    have t1 : w1.cell? ⟨w.heap.size, 1, none⟩ = some (.int .i64 vol) := (HB.out.ext hx1).cell rfl
    have HX1 := Lib.hid hx1
    clear hx1
    go_wp2_with fail
    refine (implPlaceOf_any _ _ _ ps vol _ HT.out HTS.out (HFT.out.ext (HEA.out.trans HX1.out))).mono ?_
    rintro e w2 ⟨hpl, hx2⟩
    rcases placed_cases hpl HTOK.out HL0.out with ⟨c, rfl⟩ | ⟨c, z, hz, rfl⟩
    · have t2 : w2.cell? ⟨w.heap.size, 0, none⟩ = some (.slice (some ⟨b, off, none⟩) (m + 1) tc) := (HB.out.ext (HX1.out.trans hx2)).cell rfl
      have y2 := e2 _ (HEA.out.trans (HX1.out.trans hx2))
      rw [HLL.out] at c
      go_wp2
      go_ret
      exact ⟨ret_int (HLV.out c), HEA.out.trans (HX1.out.trans hx2)⟩
    · rw [HLL.out] at c
      go_wp2
      go_ret
      exact ⟨ret_int (HLA.out z c hz), HEA.out.trans (HX1.out.trans hx2)⟩

end Go.Proofs.Ytmppoflgbmabpaa
/- May a train enter a lock: on both sides. -/
namespace Go.Proofs.Ytmppoflgbmabpaa
open Go.RowKit
set_option linter.unusedSimpArgs false
set_option linter.unusedVariables false

theorem lockOk_sills {x0 x1 x2 x3 x4 x5 x6 x7 x8 : Int} {ts : List Tn} (h : lockOk x0 x1 x2 x3 x4 x5 x6 x7 x8 ts = true) : (0 ≤ x2 ∧ x2 ≤ 100000) ∧ (0 ≤ x3 ∧ x3 ≤ 100000) ∧ (0 ≤ x8 ∧ x8 ≤ 2) := by
  unfold lockOk at h
  simp only [Bool.and_eq_true] at h
  obtain ⟨⟨⟨⟨⟨⟨⟨⟨⟨h0, h1⟩, h2⟩, h3⟩, h4⟩, h5⟩, h6⟩, h7⟩, h8⟩, _⟩ := h
  exact ⟨inR_true h2, inR_true h3, inR_true h8⟩
/-- Enough water over the sill s. -/
noncomputable def deep (s : Int) (ps : List Pt) (vol : Int) (xs : List Int) (rows : List (List Bt)) : Bool := decide (draughtOf rows ≤ levelOf ps vol xs - s)
noncomputable def mayEnter (x0 x1 x2 x3 x4 x5 x6 x7 x8 : Int) (ts : List Tn) (ps : List Pt) (vol : Int) (xs : List Int) (u : Bool) (rows : List (List Bt)) : Bool :=
  if lockOk x0 x1 x2 x3 x4 x5 x6 x7 x8 ts && (reachOk ps vol xs && trainOk rows) then (if x8 = (if u then 2 else 1) then deep (if u then x3 else x2) ps vol xs rows else false) else false
theorem implTrainOk_is (R : Bool) (u : Bool) (a : Option Addr) (n c : Nat) (rows : List (List Bt)) (w : World) (hn : n = rows.length) (hs : n ≤ 1048576) (ht : rows.flatten.length ≤ 1048576) (hf : RowsAt w a rows) (hR : trainOk rows = R) :
    Calls Try.prog 42 #[.agg #[.bool u, .slice a n c]] w fun e w' => e = .returned (.bool R) ∧ Ext w w' := by
  subst hR
  exact implTrainOk_any u a n c rows w hn hs ht hf
theorem specTrainOk_is (R : Bool) (u : Bool) (a : Option Addr) (n c : Nat) (rows : List (List Bt)) (w : World) (hn : n = rows.length) (hs : n ≤ 1048576) (ht : rows.flatten.length ≤ 1048576) (hf : RowsAt w a rows) (hR : trainOk rows = R) :
    Calls Try.prog 61 #[.agg #[.bool u, .slice a n c]] w fun e w' => e = .returned (.bool R) ∧ Ext w w' := by
  subst hR
  exact specTrainOk_any u a n c rows w hn hs ht hf
theorem implLevel_is (v : Int) (ta pa : Option Addr) (tn tc pn pc : Nat) (vol : Int) (ps : List Pt) (xs : List Int) (w : World) (ht : tn = ps.length) (hts : tn ≤ maxLen) (hp : pn = xs.length) (hps : pn ≤ maxLen) (hft : FlatAt w ptCells 2 ta ps) (hfp : IntsAt w pa xs) (hvol : -9223372036854775808 ≤ vol ∧ vol ≤ 9223372036854775807) (hv : levelOf ps vol xs = v) :
    Calls Try.prog 12 #[.agg #[.slice ta tn tc, .int .i64 vol, .slice pa pn pc]] w fun e w' => e = .returned (.int .i64 v) ∧ Ext w w' := by
  subst hv
  exact implLevelOf_any ta pa tn tc pn pc vol ps xs w ht hts hp hps hft hfp hvol
theorem implDraught_is (v : Int) (u : Bool) (a : Option Addr) (n c : Nat) (rows : List (List Bt)) (w : World) (hn : n = rows.length) (hs : n ≤ 1048576) (ht : rows.flatten.length ≤ 1048576) (hf : RowsAt w a rows) (hv : draughtOf rows = v) :
    Calls Try.prog 18 #[.agg #[.bool u, .slice a n c]] w fun e w' => e = .returned (.int .i64 v) ∧ Ext w w' := by
  subst hv
  exact implDraughtOf_any u a n c rows w hn hs ht hf
set_option maxHeartbeats 1000000 in
theorem sillOf_any (x0 x1 x2 x3 x4 x5 x6 x7 x8 g s : Int) (a : Option Addr) (n c : Nat) (w : World) (hs : (if g = 1 then x2 else x3) = s) :
    Calls Try.prog 44 #[.agg #[.int .i64 x0, .int .i64 x1, .int .i64 x2, .int .i64 x3, .int .i64 x4, .int .i64 x5, .int .i64 x6, .int .i64 x7, .int .i64 x8, .slice a n c], .int .i64 g] w fun e w' => e = .returned (.int .i64 s) ∧ Ext w w' := by
  by_cases h : g = 1
  · rw [if_pos h] at hs
    subst hs h
    go_enter Try.func44, Try.ntmps44
    go_wp2
    go_ret
    exact ⟨rfl, by (repeat' (first | (with_reducible exact Ext.refl _) | (with_reducible assumption) | (with_reducible refine Ext.alloc ?_ _) | (with_reducible refine Ext.drewN ?_ _) | (with_reducible refine Ext.drew ?_) | (with_reducible refine Ext.setCell ?_ ?_ _) | (with_reducible exact Nat.le_refl _) | (with_reducible exact Nat.le_succ _) | (with_reducible refine Ext.trans ?_ (by assumption)) | (simp; done) | (simp; omega)))⟩
  · rw [if_neg h] at hs
    subst hs
    have h1 : (g == 1) = false := by simpa using h
    go_enter Try.func44, Try.ntmps44
    go_wp2
    go_ret
    exact ⟨rfl, by (repeat' (first | (with_reducible exact Ext.refl _) | (with_reducible assumption) | (with_reducible refine Ext.alloc ?_ _) | (with_reducible refine Ext.drewN ?_ _) | (with_reducible refine Ext.drew ?_) | (with_reducible refine Ext.setCell ?_ ?_ _) | (with_reducible exact Nat.le_refl _) | (with_reducible exact Nat.le_succ _) | (with_reducible refine Ext.trans ?_ (by assumption)) | (simp; done) | (simp; omega)))⟩


set_option maxRecDepth 100000 in
set_option maxHeartbeats 1000000 in
theorem implMayEnter_any (R : Bool) (x0 x1 x2 x3 x4 x5 x6 x7 x8 : Int) (a : Option Addr) (n c : Nat) (ts : List Tn) (ta pa : Option Addr) (tn tc pn pc : Nat) (vol : Int) (ps : List Pt) (xs : List Int) (u : Bool) (ra : Option Addr) (rn rc : Nat) (rows : List (List Bt)) (w : World) (hn : n = ts.length) (hs : n ≤ 1048576) (hts : ∀ t ∈ ts, SmallT t) (hf : TrainsAt w a ts) (ht : tn = ps.length) (htl : tn ≤ maxLen) (hp : pn = xs.length) (hpl : pn ≤ maxLen) (hft : FlatAt w ptCells 2 ta ps) (hfp : IntsAt w pa xs) (hvol : -9223372036854775808 ≤ vol ∧ vol ≤ 9223372036854775807) (hrn : rn = rows.length) (hrs : rn ≤ 1048576) (hrt : rows.flatten.length ≤ 1048576) (hfr : RowsAt w ra rows) (hR : mayEnter x0 x1 x2 x3 x4 x5 x6 x7 x8 ts ps vol xs u rows = R) :
    Calls Try.prog 19 #[.agg #[.int .i64 x0, .int .i64 x1, .int .i64 x2, .int .i64 x3, .int .i64 x4, .int .i64 x5, .int .i64 x6, .int .i64 x7, .int .i64 x8, .slice a n c], .agg #[.slice ta tn tc, .int .i64 vol, .slice pa pn pc], .agg #[.bool u, .slice ra rn rc]] w fun e w' => e = .returned (.bool R) ∧ Ext w w' := by
  obtain ⟨k1, hk1⟩ : ∃ k, lockOk x0 x1 x2 x3 x4 x5 x6 x7 x8 ts = k := ⟨_, rfl⟩
  obtain ⟨k2, hk2⟩ : ∃ k, reachOk ps vol xs = k := ⟨_, rfl⟩
  obtain ⟨k3, hk3⟩ : ∃ k, trainOk rows = k := ⟨_, rfl⟩
  unfold mayEnter at hR
  rw [hk1, hk2, hk3] at hR
  have HK1 := Lib.hid hk1
  have HK2 := Lib.hid hk2; clear hk2
  have HK3 := Lib.hid hk3; clear hk3
  have HN := Lib.hid hn; clear hn
  have HS := Lib.hid hs; clear hs
  have HTS := Lib.hid hts; clear hts
  have HF := Lib.hid hf; clear hf
  have HT := Lib.hid ht; clear ht
  have HTL := Lib.hid htl; clear htl
  have HP := Lib.hid hp; clear hp
  have HPL := Lib.hid hpl; clear hpl
  have HFT := Lib.hid hft; clear hft
  have HFP := Lib.hid hfp; clear hfp
  have HRN := Lib.hid hrn; clear hrn
  have HRS := Lib.hid hrs; clear hrs
  have HRT := Lib.hid hrt; clear hrt
  have HFR := Lib.hid hfr; clear hfr
  have HBL := Lib.hid ((RowAt.new w 26 #[.int .i64 x0, .int .i64 x1, .int .i64 x2, .int .i64 x3, .int .i64 x4, .int .i64 x5, .int .i64 x6, .int .i64 x7, .int .i64 x8, .slice a n c]).ext (((Ext.refl _).alloc (.cells #[.slice ta tn tc, .int .i64 vol, .slice pa pn pc] 33)).alloc (.cells #[.bool u, .slice ra rn rc] 47)))
  have HBR := Lib.hid (show RowAt (((w.alloc (.cells #[.int .i64 x0, .int .i64 x1, .int .i64 x2, .int .i64 x3, .int .i64 x4, .int .i64 x5, .int .i64 x6, .int .i64 x7, .int .i64 x8, .slice a n c] 26)).alloc (.cells #[.slice ta tn tc, .int .i64 vol, .slice pa pn pc] 33)).alloc (.cells #[.bool u, .slice ra rn rc] 47)) (w.heap.size + 1) 33 #[.slice ta tn tc, .int .i64 vol, .slice pa pn pc] from by
    have h := (RowAt.new (w.alloc (.cells #[.int .i64 x0, .int .i64 x1, .int .i64 x2, .int .i64 x3, .int .i64 x4, .int .i64 x5, .int .i64 x6, .int .i64 x7, .int .i64 x8, .slice a n c] 26)) 33 #[.slice ta tn tc, .int .i64 vol, .slice pa pn pc]).ext ((Ext.refl _).alloc (.cells #[.bool u, .slice ra rn rc] 47))
    rw [World.size_alloc] at h
    exact h)
  have HBT := Lib.hid (show RowAt (((w.alloc (.cells #[.int .i64 x0, .int .i64 x1, .int .i64 x2, .int .i64 x3, .int .i64 x4, .int .i64 x5, .int .i64 x6, .int .i64 x7, .int .i64 x8, .slice a n c] 26)).alloc (.cells #[.slice ta tn tc, .int .i64 vol, .slice pa pn pc] 33)).alloc (.cells #[.bool u, .slice ra rn rc] 47)) (w.heap.size + 1 + 1) 47 #[.bool u, .slice ra rn rc] from by
    have h := RowAt.new ((w.alloc (.cells #[.int .i64 x0, .int .i64 x1, .int .i64 x2, .int .i64 x3, .int .i64 x4, .int .i64 x5, .int .i64 x6, .int .i64 x7, .int .i64 x8, .slice a n c] 26)).alloc (.cells #[.slice ta tn tc, .int .i64 vol, .slice pa pn pc] 33)) 47 #[.bool u, .slice ra rn rc]
    rw [World.size_alloc, World.size_alloc] at h
    exact h)
  have HE0 := Lib.hid (show Ext w (((w.alloc (.cells #[.int .i64 x0, .int .i64 x1, .int .i64 x2, .int .i64 x3, .int .i64 x4, .int .i64 x5, .int .i64 x6, .int .i64 x7, .int .i64 x8, .slice a n c] 26)).alloc (.cells #[.slice ta tn tc, .int .i64 vol, .slice pa pn pc] 33)).alloc (.cells #[.bool u, .slice ra rn rc] 47)) from (((Ext.refl w).alloc _).alloc _).alloc _)
  cases k1
  · have HRR := Lib.hid (show (false : Bool) = R by simpa using hR)
    clear hR hk1
    go_enter Try.func19, Try.ntmps19
    go_wp2_with fail
    with_reducible refine (implLockOk_any false _ _ _ _ _ _ _ _ _ _ _ _ ts _ HN.out HS.out HTS.out (HF.out.ext HE0.out) HK1.out).mono ?_
    rintro e w1 ⟨rfl, hx1⟩
    go_wp2
    go_ret
    exact ⟨ret_bool HRR.out, HE0.out.trans hx1⟩
  cases k2
  · have HRR := Lib.hid (show (false : Bool) = R by simpa using hR)
    clear hR hk1
    go_enter Try.func19, Try.ntmps19
    go_wp2_with fail
    with_reducible refine (implLockOk_any true _ _ _ _ _ _ _ _ _ _ _ _ ts _ HN.out HS.out HTS.out (HF.out.ext HE0.out) HK1.out).mono ?_
    rintro e w1 ⟨rfl, hx1⟩
    have r0 : w1.cell? ⟨w.heap.size + 1, 0, none⟩ = some (.slice ta tn tc) := (HBR.out.ext hx1).cell rfl
    have r1 : w1.cell? ⟨w.heap.size + 1, 1, none⟩ = some (.int .i64 vol) := (HBR.out.ext hx1).cell rfl
    have r2 : w1.cell? ⟨w.heap.size + 1, 2, none⟩ = some (.slice pa pn pc) := (HBR.out.ext hx1).cell rfl
    go_wp2_with fail
    with_reducible refine (implReachOk_is _ _ _ _ _ _ _ _ ps xs _ HT.out HTL.out HP.out HPL.out (HFT.out.ext (HE0.out.trans hx1)) (HFP.out.ext (HE0.out.trans hx1)) hvol HK2.out).mono ?_
    rintro e w2 ⟨rfl, hx2⟩
    go_wp2
    go_ret
    exact ⟨ret_bool HRR.out, HE0.out.trans (hx1.trans hx2)⟩
  cases k3
  · have HRR := Lib.hid (show (false : Bool) = R by simpa using hR)
    clear hR hk1
    go_enter Try.func19, Try.ntmps19
    go_wp2_with fail
    with_reducible refine (implLockOk_any true _ _ _ _ _ _ _ _ _ _ _ _ ts _ HN.out HS.out HTS.out (HF.out.ext HE0.out) HK1.out).mono ?_
    rintro e w1 ⟨rfl, hx1⟩
    have r0 : w1.cell? ⟨w.heap.size + 1, 0, none⟩ = some (.slice ta tn tc) := (HBR.out.ext hx1).cell rfl
    have r1 : w1.cell? ⟨w.heap.size + 1, 1, none⟩ = some (.int .i64 vol) := (HBR.out.ext hx1).cell rfl
    have r2 : w1.cell? ⟨w.heap.size + 1, 2, none⟩ = some (.slice pa pn pc) := (HBR.out.ext hx1).cell rfl
    go_wp2_with fail
    with_reducible refine (implReachOk_is _ _ _ _ _ _ _ _ ps xs _ HT.out HTL.out HP.out HPL.out (HFT.out.ext (HE0.out.trans hx1)) (HFP.out.ext (HE0.out.trans hx1)) hvol HK2.out).mono ?_
    rintro e w2 ⟨rfl, hx2⟩
    have hx12 := hx1.trans hx2
    have t0 : w2.cell? ⟨w.heap.size + 1 + 1, 0, none⟩ = some (.bool u) := (HBT.out.ext hx12).cell rfl
    have t1 : w2.cell? ⟨w.heap.size + 1 + 1, 1, none⟩ = some (.slice ra rn rc) := (HBT.out.ext hx12).cell rfl
    go_wp2_with fail
    with_reducible refine (implTrainOk_is _ _ _ _ _ rows _ HRN.out HRS.out HRT.out (HFR.out.ext (HE0.out.trans hx12)) HK3.out).mono ?_
    rintro e w3 ⟨rfl, hx3⟩
    go_wp2
    go_ret
    exact ⟨ret_bool HRR.out, HE0.out.trans (hx12.trans hx3)⟩
  obtain ⟨hb2, hb3, hb8⟩ := lockOk_sills hk1
  obtain ⟨lev, hlev⟩ : ∃ v, levelOf ps vol xs = v := ⟨_, rfl⟩
  obtain ⟨dra, hdra⟩ : ∃ v, draughtOf rows = v := ⟨_, rfl⟩
  have hlb := levelOf_b ps vol xs
  rw [hlev] at hlb
  simp only [Bool.and_self, if_true, deep, hlev, hdra] at hR
  have HLV := Lib.hid hlev; clear hlev
  have HDR := Lib.hid hdra; clear hdra
  clear hk1
  cases u
  all_goals
    simp only [Bool.false_eq_true, if_false, if_true] at hR
  · by_cases hg : x8 = 1
    · rw [if_pos hg] at hR
      have hg1 : (x8 == 1) = true := by simpa using hg
      have HG := Lib.hid hg; clear hg
      have HRR := Lib.hid hR; clear hR
      go_enter Try.func19, Try.ntmps19
      go_wp2_with fail
      with_reducible refine (implLockOk_any true _ _ _ _ _ _ _ _ _ _ _ _ ts _ HN.out HS.out HTS.out (HF.out.ext HE0.out) HK1.out).mono ?_
      rintro e w1 ⟨rfl, hx1⟩
      have r0 : w1.cell? ⟨w.heap.size + 1, 0, none⟩ = some (.slice ta tn tc) := (HBR.out.ext hx1).cell rfl
      have r1 : w1.cell? ⟨w.heap.size + 1, 1, none⟩ = some (.int .i64 vol) := (HBR.out.ext hx1).cell rfl
      have r2 : w1.cell? ⟨w.heap.size + 1, 2, none⟩ = some (.slice pa pn pc) := (HBR.out.ext hx1).cell rfl
      go_wp2_with fail
      with_reducible refine (implReachOk_is _ _ _ _ _ _ _ _ ps xs _ HT.out HTL.out HP.out HPL.out (HFT.out.ext (HE0.out.trans hx1)) (HFP.out.ext (HE0.out.trans hx1)) hvol HK2.out).mono ?_
      rintro e w2 ⟨rfl, hx2⟩
      have hx12 := hx1.trans hx2
      have t0 : w2.cell? ⟨w.heap.size + 1 + 1, 0, none⟩ = some (.bool false) := (HBT.out.ext hx12).cell rfl
      have t1 : w2.cell? ⟨w.heap.size + 1 + 1, 1, none⟩ = some (.slice ra rn rc) := (HBT.out.ext hx12).cell rfl
      go_wp2_with fail
      with_reducible refine (implTrainOk_is _ _ _ _ _ rows _ HRN.out HRS.out HRT.out (HFR.out.ext (HE0.out.trans hx12)) HK3.out).mono ?_
      rintro e w3 ⟨rfl, hx3⟩
      have HX := Lib.hid (hx12.trans hx3)
      have l0 : ∀ y : Aft w3, y.1.cell? ⟨w.heap.size, 0, none⟩ = some (.int .i64 x0) := fun y => (HBL.out.ext (HX.out.trans y.2)).cell rfl
      have l1 : ∀ y : Aft w3, y.1.cell? ⟨w.heap.size, 1, none⟩ = some (.int .i64 x1) := fun y => (HBL.out.ext (HX.out.trans y.2)).cell rfl
      have l2 : ∀ y : Aft w3, y.1.cell? ⟨w.heap.size, 2, none⟩ = some (.int .i64 x2) := fun y => (HBL.out.ext (HX.out.trans y.2)).cell rfl
      have l3 : ∀ y : Aft w3, y.1.cell? ⟨w.heap.size, 3, none⟩ = some (.int .i64 x3) := fun y => (HBL.out.ext (HX.out.trans y.2)).cell rfl
      have l4 : ∀ y : Aft w3, y.1.cell? ⟨w.heap.size, 4, none⟩ = some (.int .i64 x4) := fun y => (HBL.out.ext (HX.out.trans y.2)).cell rfl
      have l5 : ∀ y : Aft w3, y.1.cell? ⟨w.heap.size, 5, none⟩ = some (.int .i64 x5) := fun y => (HBL.out.ext (HX.out.trans y.2)).cell rfl
      have l6 : ∀ y : Aft w3, y.1.cell? ⟨w.heap.size, 6, none⟩ = some (.int .i64 x6) := fun y => (HBL.out.ext (HX.out.trans y.2)).cell rfl
      have l7 : ∀ y : Aft w3, y.1.cell? ⟨w.heap.size, 7, none⟩ = some (.int .i64 x7) := fun y => (HBL.out.ext (HX.out.trans y.2)).cell rfl
      have l8 : ∀ y : Aft w3, y.1.cell? ⟨w.heap.size, 8, none⟩ = some (.int .i64 x8) := fun y => (HBL.out.ext (HX.out.trans y.2)).cell rfl
      have l9 : ∀ y : Aft w3, y.1.cell? ⟨w.heap.size, 9, none⟩ = some (.slice a n c) := fun y => (HBL.out.ext (HX.out.trans y.2)).cell rfl
      have r0 : ∀ y : Aft w3, y.1.cell? ⟨w.heap.size + 1, 0, none⟩ = some (.slice ta tn tc) := fun y => (HBR.out.ext (HX.out.trans y.2)).cell rfl
      have r1 : ∀ y : Aft w3, y.1.cell? ⟨w.heap.size + 1, 1, none⟩ = some (.int .i64 vol) := fun y => (HBR.out.ext (HX.out.trans y.2)).cell rfl
      have r2 : ∀ y : Aft w3, y.1.cell? ⟨w.heap.size + 1, 2, none⟩ = some (.slice pa pn pc) := fun y => (HBR.out.ext (HX.out.trans y.2)).cell rfl
      have t0 : ∀ y : Aft w3, y.1.cell? ⟨w.heap.size + 1 + 1, 0, none⟩ = some (.bool false) := fun y => (HBT.out.ext (HX.out.trans y.2)).cell rfl
      have t1 : ∀ y : Aft w3, y.1.cell? ⟨w.heap.size + 1 + 1, 1, none⟩ = some (.slice ra rn rc) := fun y => (HBT.out.ext (HX.out.trans y.2)).cell rfl
      have tt0 : w3.cell? ⟨w.heap.size + 1 + 1, 0, none⟩ = some (.bool false) := (HBT.out.ext HX.out).cell rfl
      clear hx1 hx2 hx12 hx3
      go_wp2_with fail
      clear tt0
      (refine wp_region_aft w3 (Ext.refl _) (by kernel_rfl) (by kernel_rfl) ?_; (repeat (go_big_quiet_step ((first | (go_at_call 12; exact aft_call (implLevel_is lev _ _ _ _ _ _ _ ps xs _ HT.out HTL.out HP.out HPL.out (HFT.out.ext (HE0.out.trans (HX.out.trans (Subtype.property _)))) (HFP.out.ext (HE0.out.trans (HX.out.trans (Subtype.property _)))) hvol HLV.out)) | (go_at_call 44; exact aft_call (sillOf_any _ _ _ _ _ _ _ _ _ 1 x2 _ _ _ _ rfl)) | (go_at_call 18; exact aft_call (implDraught_is dra _ _ _ _ rows _ HRN.out HRS.out HRT.out (HFR.out.ext (HE0.out.trans (HX.out.trans (Subtype.property _)))) HDR.out)))))); refine wpQuiet_nil ?_; intro w2 hx2)
      go_wp2
      go_ret
      exact ⟨ret_bool HRR.out, HE0.out.trans (HX.out.trans hx2)⟩
    · rw [if_neg hg] at hR
      have hg1 : (x8 == 1) = false := by simpa using hg
      have HRR := Lib.hid hR; clear hR
      go_enter Try.func19, Try.ntmps19
      go_wp2_with fail
      with_reducible refine (implLockOk_any true _ _ _ _ _ _ _ _ _ _ _ _ ts _ HN.out HS.out HTS.out (HF.out.ext HE0.out) HK1.out).mono ?_
      rintro e w1 ⟨rfl, hx1⟩
      have r0 : w1.cell? ⟨w.heap.size + 1, 0, none⟩ = some (.slice ta tn tc) := (HBR.out.ext hx1).cell rfl
      have r1 : w1.cell? ⟨w.heap.size + 1, 1, none⟩ = some (.int .i64 vol) := (HBR.out.ext hx1).cell rfl
      have r2 : w1.cell? ⟨w.heap.size + 1, 2, none⟩ = some (.slice pa pn pc) := (HBR.out.ext hx1).cell rfl
      go_wp2_with fail
      with_reducible refine (implReachOk_is _ _ _ _ _ _ _ _ ps xs _ HT.out HTL.out HP.out HPL.out (HFT.out.ext (HE0.out.trans hx1)) (HFP.out.ext (HE0.out.trans hx1)) hvol HK2.out).mono ?_
      rintro e w2 ⟨rfl, hx2⟩
      have hx12 := hx1.trans hx2
      have t0 : w2.cell? ⟨w.heap.size + 1 + 1, 0, none⟩ = some (.bool false) := (HBT.out.ext hx12).cell rfl
      have t1 : w2.cell? ⟨w.heap.size + 1 + 1, 1, none⟩ = some (.slice ra rn rc) := (HBT.out.ext hx12).cell rfl
      go_wp2_with fail
      with_reducible refine (implTrainOk_is _ _ _ _ _ rows _ HRN.out HRS.out HRT.out (HFR.out.ext (HE0.out.trans hx12)) HK3.out).mono ?_
      rintro e w3 ⟨rfl, hx3⟩
      have HX := Lib.hid (hx12.trans hx3)
      have l0 : ∀ y : Aft w3, y.1.cell? ⟨w.heap.size, 0, none⟩ = some (.int .i64 x0) := fun y => (HBL.out.ext (HX.out.trans y.2)).cell rfl
      have l1 : ∀ y : Aft w3, y.1.cell? ⟨w.heap.size, 1, none⟩ = some (.int .i64 x1) := fun y => (HBL.out.ext (HX.out.trans y.2)).cell rfl
      have l2 : ∀ y : Aft w3, y.1.cell? ⟨w.heap.size, 2, none⟩ = some (.int .i64 x2) := fun y => (HBL.out.ext (HX.out.trans y.2)).cell rfl
      have l3 : ∀ y : Aft w3, y.1.cell? ⟨w.heap.size, 3, none⟩ = some (.int .i64 x3) := fun y => (HBL.out.ext (HX.out.trans y.2)).cell rfl
      have l4 : ∀ y : Aft w3, y.1.cell? ⟨w.heap.size, 4, none⟩ = some (.int .i64 x4) := fun y => (HBL.out.ext (HX.out.trans y.2)).cell rfl
      have l5 : ∀ y : Aft w3, y.1.cell? ⟨w.heap.size, 5, none⟩ = some (.int .i64 x5) := fun y => (HBL.out.ext (HX.out.trans y.2)).cell rfl
      have l6 : ∀ y : Aft w3, y.1.cell? ⟨w.heap.size, 6, none⟩ = some (.int .i64 x6) := fun y => (HBL.out.ext (HX.out.trans y.2)).cell rfl
      have l7 : ∀ y : Aft w3, y.1.cell? ⟨w.heap.size, 7, none⟩ = some (.int .i64 x7) := fun y => (HBL.out.ext (HX.out.trans y.2)).cell rfl
      have l8 : ∀ y : Aft w3, y.1.cell? ⟨w.heap.size, 8, none⟩ = some (.int .i64 x8) := fun y => (HBL.out.ext (HX.out.trans y.2)).cell rfl
      have l9 : ∀ y : Aft w3, y.1.cell? ⟨w.heap.size, 9, none⟩ = some (.slice a n c) := fun y => (HBL.out.ext (HX.out.trans y.2)).cell rfl
      have r0 : ∀ y : Aft w3, y.1.cell? ⟨w.heap.size + 1, 0, none⟩ = some (.slice ta tn tc) := fun y => (HBR.out.ext (HX.out.trans y.2)).cell rfl
      have r1 : ∀ y : Aft w3, y.1.cell? ⟨w.heap.size + 1, 1, none⟩ = some (.int .i64 vol) := fun y => (HBR.out.ext (HX.out.trans y.2)).cell rfl
      have r2 : ∀ y : Aft w3, y.1.cell? ⟨w.heap.size + 1, 2, none⟩ = some (.slice pa pn pc) := fun y => (HBR.out.ext (HX.out.trans y.2)).cell rfl
      have t0 : ∀ y : Aft w3, y.1.cell? ⟨w.heap.size + 1 + 1, 0, none⟩ = some (.bool false) := fun y => (HBT.out.ext (HX.out.trans y.2)).cell rfl
      have t1 : ∀ y : Aft w3, y.1.cell? ⟨w.heap.size + 1 + 1, 1, none⟩ = some (.slice ra rn rc) := fun y => (HBT.out.ext (HX.out.trans y.2)).cell rfl
      have tt0 : w3.cell? ⟨w.heap.size + 1 + 1, 0, none⟩ = some (.bool false) := (HBT.out.ext HX.out).cell rfl
      clear hx1 hx2 hx12 hx3
      go_wp2_with fail
      clear tt0
      (refine wp_region_aft w3 (Ext.refl _) (by kernel_rfl) (by kernel_rfl) ?_; (repeat (go_big_quiet_step ((first | (go_at_call 12; exact aft_call (implLevel_is lev _ _ _ _ _ _ _ ps xs _ HT.out HTL.out HP.out HPL.out (HFT.out.ext (HE0.out.trans (HX.out.trans (Subtype.property _)))) (HFP.out.ext (HE0.out.trans (HX.out.trans (Subtype.property _)))) hvol HLV.out)) | (go_at_call 44; exact aft_call (sillOf_any _ _ _ _ _ _ _ _ _ 1 x2 _ _ _ _ rfl)) | (go_at_call 18; exact aft_call (implDraught_is dra _ _ _ _ rows _ HRN.out HRS.out HRT.out (HFR.out.ext (HE0.out.trans (HX.out.trans (Subtype.property _)))) HDR.out)))))); refine wpQuiet_nil ?_; intro w2 hx2)
      go_wp2
      go_ret
      exact ⟨ret_bool HRR.out, HE0.out.trans (HX.out.trans hx2)⟩
  · by_cases hg : x8 = 2
    · rw [if_pos hg] at hR
      have hg1 : (x8 == 2) = true := by simpa using hg
      have HG := Lib.hid hg; clear hg
      have HRR := Lib.hid hR; clear hR
      go_enter Try.func19, Try.ntmps19
      go_wp2_with fail
      with_reducible refine (implLockOk_any true _ _ _ _ _ _ _ _ _ _ _ _ ts _ HN.out HS.out HTS.out (HF.out.ext HE0.out) HK1.out).mono ?_
      rintro e w1 ⟨rfl, hx1⟩
      have r0 : w1.cell? ⟨w.heap.size + 1, 0, none⟩ = some (.slice ta tn tc) := (HBR.out.ext hx1).cell rfl
      have r1 : w1.cell? ⟨w.heap.size + 1, 1, none⟩ = some (.int .i64 vol) := (HBR.out.ext hx1).cell rfl
      have r2 : w1.cell? ⟨w.heap.size + 1, 2, none⟩ = some (.slice pa pn pc) := (HBR.out.ext hx1).cell rfl
      go_wp2_with fail
      with_reducible refine (implReachOk_is _ _ _ _ _ _ _ _ ps xs _ HT.out HTL.out HP.out HPL.out (HFT.out.ext (HE0.out.trans hx1)) (HFP.out.ext (HE0.out.trans hx1)) hvol HK2.out).mono ?_
      rintro e w2 ⟨rfl, hx2⟩
      have hx12 := hx1.trans hx2
      have t0 : w2.cell? ⟨w.heap.size + 1 + 1, 0, none⟩ = some (.bool true) := (HBT.out.ext hx12).cell rfl
      have t1 : w2.cell? ⟨w.heap.size + 1 + 1, 1, none⟩ = some (.slice ra rn rc) := (HBT.out.ext hx12).cell rfl
      go_wp2_with fail
      with_reducible refine (implTrainOk_is _ _ _ _ _ rows _ HRN.out HRS.out HRT.out (HFR.out.ext (HE0.out.trans hx12)) HK3.out).mono ?_
      rintro e w3 ⟨rfl, hx3⟩
      have HX := Lib.hid (hx12.trans hx3)
      have l0 : ∀ y : Aft w3, y.1.cell? ⟨w.heap.size, 0, none⟩ = some (.int .i64 x0) := fun y => (HBL.out.ext (HX.out.trans y.2)).cell rfl
      have l1 : ∀ y : Aft w3, y.1.cell? ⟨w.heap.size, 1, none⟩ = some (.int .i64 x1) := fun y => (HBL.out.ext (HX.out.trans y.2)).cell rfl
      have l2 : ∀ y : Aft w3, y.1.cell? ⟨w.heap.size, 2, none⟩ = some (.int .i64 x2) := fun y => (HBL.out.ext (HX.out.trans y.2)).cell rfl
      have l3 : ∀ y : Aft w3, y.1.cell? ⟨w.heap.size, 3, none⟩ = some (.int .i64 x3) := fun y => (HBL.out.ext (HX.out.trans y.2)).cell rfl
      have l4 : ∀ y : Aft w3, y.1.cell? ⟨w.heap.size, 4, none⟩ = some (.int .i64 x4) := fun y => (HBL.out.ext (HX.out.trans y.2)).cell rfl
      have l5 : ∀ y : Aft w3, y.1.cell? ⟨w.heap.size, 5, none⟩ = some (.int .i64 x5) := fun y => (HBL.out.ext (HX.out.trans y.2)).cell rfl
      have l6 : ∀ y : Aft w3, y.1.cell? ⟨w.heap.size, 6, none⟩ = some (.int .i64 x6) := fun y => (HBL.out.ext (HX.out.trans y.2)).cell rfl
      have l7 : ∀ y : Aft w3, y.1.cell? ⟨w.heap.size, 7, none⟩ = some (.int .i64 x7) := fun y => (HBL.out.ext (HX.out.trans y.2)).cell rfl
      have l8 : ∀ y : Aft w3, y.1.cell? ⟨w.heap.size, 8, none⟩ = some (.int .i64 x8) := fun y => (HBL.out.ext (HX.out.trans y.2)).cell rfl
      have l9 : ∀ y : Aft w3, y.1.cell? ⟨w.heap.size, 9, none⟩ = some (.slice a n c) := fun y => (HBL.out.ext (HX.out.trans y.2)).cell rfl
      have r0 : ∀ y : Aft w3, y.1.cell? ⟨w.heap.size + 1, 0, none⟩ = some (.slice ta tn tc) := fun y => (HBR.out.ext (HX.out.trans y.2)).cell rfl
      have r1 : ∀ y : Aft w3, y.1.cell? ⟨w.heap.size + 1, 1, none⟩ = some (.int .i64 vol) := fun y => (HBR.out.ext (HX.out.trans y.2)).cell rfl
      have r2 : ∀ y : Aft w3, y.1.cell? ⟨w.heap.size + 1, 2, none⟩ = some (.slice pa pn pc) := fun y => (HBR.out.ext (HX.out.trans y.2)).cell rfl
      have t0 : ∀ y : Aft w3, y.1.cell? ⟨w.heap.size + 1 + 1, 0, none⟩ = some (.bool true) := fun y => (HBT.out.ext (HX.out.trans y.2)).cell rfl
      have t1 : ∀ y : Aft w3, y.1.cell? ⟨w.heap.size + 1 + 1, 1, none⟩ = some (.slice ra rn rc) := fun y => (HBT.out.ext (HX.out.trans y.2)).cell rfl
      have tt0 : w3.cell? ⟨w.heap.size + 1 + 1, 0, none⟩ = some (.bool true) := (HBT.out.ext HX.out).cell rfl
      clear hx1 hx2 hx12 hx3
      go_wp2_with fail
      clear tt0
      (refine wp_region_aft w3 (Ext.refl _) (by kernel_rfl) (by kernel_rfl) ?_; (repeat (go_big_quiet_step ((first | (go_at_call 12; exact aft_call (implLevel_is lev _ _ _ _ _ _ _ ps xs _ HT.out HTL.out HP.out HPL.out (HFT.out.ext (HE0.out.trans (HX.out.trans (Subtype.property _)))) (HFP.out.ext (HE0.out.trans (HX.out.trans (Subtype.property _)))) hvol HLV.out)) | (go_at_call 44; exact aft_call (sillOf_any _ _ _ _ _ _ _ _ _ 2 x3 _ _ _ _ rfl)) | (go_at_call 18; exact aft_call (implDraught_is dra _ _ _ _ rows _ HRN.out HRS.out HRT.out (HFR.out.ext (HE0.out.trans (HX.out.trans (Subtype.property _)))) HDR.out)))))); refine wpQuiet_nil ?_; intro w2 hx2)
      go_wp2
      go_ret
      exact ⟨ret_bool HRR.out, HE0.out.trans (HX.out.trans hx2)⟩
    · rw [if_neg hg] at hR
      have hg1 : (x8 == 2) = false := by simpa using hg
      have HRR := Lib.hid hR; clear hR
      go_enter Try.func19, Try.ntmps19
      go_wp2_with fail
      with_reducible refine (implLockOk_any true _ _ _ _ _ _ _ _ _ _ _ _ ts _ HN.out HS.out HTS.out (HF.out.ext HE0.out) HK1.out).mono ?_
      rintro e w1 ⟨rfl, hx1⟩
      have r0 : w1.cell? ⟨w.heap.size + 1, 0, none⟩ = some (.slice ta tn tc) := (HBR.out.ext hx1).cell rfl
      have r1 : w1.cell? ⟨w.heap.size + 1, 1, none⟩ = some (.int .i64 vol) := (HBR.out.ext hx1).cell rfl
      have r2 : w1.cell? ⟨w.heap.size + 1, 2, none⟩ = some (.slice pa pn pc) := (HBR.out.ext hx1).cell rfl
      go_wp2_with fail
      with_reducible refine (implReachOk_is _ _ _ _ _ _ _ _ ps xs _ HT.out HTL.out HP.out HPL.out (HFT.out.ext (HE0.out.trans hx1)) (HFP.out.ext (HE0.out.trans hx1)) hvol HK2.out).mono ?_
      rintro e w2 ⟨rfl, hx2⟩
      have hx12 := hx1.trans hx2
      have t0 : w2.cell? ⟨w.heap.size + 1 + 1, 0, none⟩ = some (.bool true) := (HBT.out.ext hx12).cell rfl
      have t1 : w2.cell? ⟨w.heap.size + 1 + 1, 1, none⟩ = some (.slice ra rn rc) := (HBT.out.ext hx12).cell rfl
      go_wp2_with fail
      with_reducible refine (implTrainOk_is _ _ _ _ _ rows _ HRN.out HRS.out HRT.out (HFR.out.ext (HE0.out.trans hx12)) HK3.out).mono ?_
      rintro e w3 ⟨rfl, hx3⟩
      have HX := Lib.hid (hx12.trans hx3)
      have l0 : ∀ y : Aft w3, y.1.cell? ⟨w.heap.size, 0, none⟩ = some (.int .i64 x0) := fun y => (HBL.out.ext (HX.out.trans y.2)).cell rfl
      have l1 : ∀ y : Aft w3, y.1.cell? ⟨w.heap.size, 1, none⟩ = some (.int .i64 x1) := fun y => (HBL.out.ext (HX.out.trans y.2)).cell rfl
      have l2 : ∀ y : Aft w3, y.1.cell? ⟨w.heap.size, 2, none⟩ = some (.int .i64 x2) := fun y => (HBL.out.ext (HX.out.trans y.2)).cell rfl
      have l3 : ∀ y : Aft w3, y.1.cell? ⟨w.heap.size, 3, none⟩ = some (.int .i64 x3) := fun y => (HBL.out.ext (HX.out.trans y.2)).cell rfl
      have l4 : ∀ y : Aft w3, y.1.cell? ⟨w.heap.size, 4, none⟩ = some (.int .i64 x4) := fun y => (HBL.out.ext (HX.out.trans y.2)).cell rfl
      have l5 : ∀ y : Aft w3, y.1.cell? ⟨w.heap.size, 5, none⟩ = some (.int .i64 x5) := fun y => (HBL.out.ext (HX.out.trans y.2)).cell rfl
      have l6 : ∀ y : Aft w3, y.1.cell? ⟨w.heap.size, 6, none⟩ = some (.int .i64 x6) := fun y => (HBL.out.ext (HX.out.trans y.2)).cell rfl
      have l7 : ∀ y : Aft w3, y.1.cell? ⟨w.heap.size, 7, none⟩ = some (.int .i64 x7) := fun y => (HBL.out.ext (HX.out.trans y.2)).cell rfl
      have l8 : ∀ y : Aft w3, y.1.cell? ⟨w.heap.size, 8, none⟩ = some (.int .i64 x8) := fun y => (HBL.out.ext (HX.out.trans y.2)).cell rfl
      have l9 : ∀ y : Aft w3, y.1.cell? ⟨w.heap.size, 9, none⟩ = some (.slice a n c) := fun y => (HBL.out.ext (HX.out.trans y.2)).cell rfl
      have r0 : ∀ y : Aft w3, y.1.cell? ⟨w.heap.size + 1, 0, none⟩ = some (.slice ta tn tc) := fun y => (HBR.out.ext (HX.out.trans y.2)).cell rfl
      have r1 : ∀ y : Aft w3, y.1.cell? ⟨w.heap.size + 1, 1, none⟩ = some (.int .i64 vol) := fun y => (HBR.out.ext (HX.out.trans y.2)).cell rfl
      have r2 : ∀ y : Aft w3, y.1.cell? ⟨w.heap.size + 1, 2, none⟩ = some (.slice pa pn pc) := fun y => (HBR.out.ext (HX.out.trans y.2)).cell rfl
      have t0 : ∀ y : Aft w3, y.1.cell? ⟨w.heap.size + 1 + 1, 0, none⟩ = some (.bool true) := fun y => (HBT.out.ext (HX.out.trans y.2)).cell rfl
      have t1 : ∀ y : Aft w3, y.1.cell? ⟨w.heap.size + 1 + 1, 1, none⟩ = some (.slice ra rn rc) := fun y => (HBT.out.ext (HX.out.trans y.2)).cell rfl
      have tt0 : w3.cell? ⟨w.heap.size + 1 + 1, 0, none⟩ = some (.bool true) := (HBT.out.ext HX.out).cell rfl
      clear hx1 hx2 hx12 hx3
      go_wp2_with fail
      clear tt0
      (refine wp_region_aft w3 (Ext.refl _) (by kernel_rfl) (by kernel_rfl) ?_; (repeat (go_big_quiet_step ((first | (go_at_call 12; exact aft_call (implLevel_is lev _ _ _ _ _ _ _ ps xs _ HT.out HTL.out HP.out HPL.out (HFT.out.ext (HE0.out.trans (HX.out.trans (Subtype.property _)))) (HFP.out.ext (HE0.out.trans (HX.out.trans (Subtype.property _)))) hvol HLV.out)) | (go_at_call 44; exact aft_call (sillOf_any _ _ _ _ _ _ _ _ _ 2 x3 _ _ _ _ rfl)) | (go_at_call 18; exact aft_call (implDraught_is dra _ _ _ _ rows _ HRN.out HRS.out HRT.out (HFR.out.ext (HE0.out.trans (HX.out.trans (Subtype.property _)))) HDR.out)))))); refine wpQuiet_nil ?_; intro w2 hx2)
      go_wp2
      go_ret
      exact ⟨ret_bool HRR.out, HE0.out.trans (HX.out.trans hx2)⟩


end Go.Proofs.Ytmppoflgbmabpaa
/- WidthOf: what it computes, on both sides. -/
namespace Go.Proofs.Ytmppoflgbmabpaa
open Go.RowKit
set_option linter.unusedSimpArgs false
set_option linter.unusedVariables false

def sumWid (n : Int) (row : List Bt) : Int := row.foldl (fun n b => n + b.wid) n
def widGo (s : Int) (rows : List (List Bt)) : Int := rows.foldl (fun s r => if s < (sumWid 0 r) then (sumWid 0 r) else s) s
def widthOf (rows : List (List Bt)) : Int := if trainOk rows then widGo 0 rows else 0

set_option maxHeartbeats 4000000 in
theorem implWidthOf_any (u : Bool) (a : Option Addr) (n c : Nat) (rows : List (List Bt)) (w : World) (hn : n = rows.length) (hs : n ≤ 1048576) (ht : rows.flatten.length ≤ 1048576) (hf : RowsAt w a rows) :
    Calls Try.prog 56 #[.agg #[.bool u, .slice a n c]] w fun e w' => e = .returned (.int .i64 (widthOf rows)) ∧ Ext w w' := by
  have HF := Lib.hid hf; clear hf
  have HS := Lib.hid hs
  have HT := Lib.hid ht; clear ht
  cases hok : trainOk rows
  · have hR := Lib.hid (show widthOf rows = 0 by rw [widthOf, hok]; rfl)
    have OK := Lib.hid hok; clear hok
    have HN := Lib.hid hn; clear hn
    go_enter Try.func56, Try.ntmps56
    go_wp2_with fail
    (with_reducible refine (OK.out ▸ implTrainOk_any _ _ _ _ rows _ HN.out HS.out HT.out (HF.out.ext (by (repeat' (first | (with_reducible exact Ext.refl _) | (with_reducible assumption) | (with_reducible refine Ext.alloc ?_ _) | (with_reducible refine Ext.drewN ?_ _) | (with_reducible refine Ext.drew ?_) | (with_reducible refine Ext.setCell ?_ ?_ _) | (with_reducible exact Nat.le_refl _) | (with_reducible exact Nat.le_succ _) | (with_reducible refine Ext.trans ?_ (by assumption)) | (simp; done) | (simp; omega)))))).mono ?_); rintro e w1 ⟨rfl, hb1⟩
    have x0_1 := hb1
    obtain ⟨hc0_1, hf0_1⟩ := bcell x0_1.below
    have z0_1_0 : w.heap.size < w1.heap.size := by have h := x0_1.size; simp at h; omega
    go_wp2
    go_ret
    exact ⟨ret_int hR.out.symm, by (repeat' (first | (with_reducible exact Ext.refl _) | (with_reducible assumption) | (with_reducible refine Ext.alloc ?_ _) | (with_reducible refine Ext.drewN ?_ _) | (with_reducible refine Ext.drew ?_) | (with_reducible refine Ext.setCell ?_ ?_ _) | (with_reducible exact Nat.le_refl _) | (with_reducible exact Nat.le_succ _) | (with_reducible refine Ext.trans ?_ (by assumption)) | (simp; done) | (simp; omega)))⟩
  · obtain ⟨_, _, _, ht6, hn6, _⟩ := trainOk_true hok
    rw [← hn] at hn6
    have hR := Lib.hid (show widthOf rows = widGo 0 (rows.drop 0) by rw [widthOf, hok, List.drop_zero]; rfl)
    obtain ⟨R, hR'⟩ : ∃ R, widthOf rows = R := ⟨_, rfl⟩
    rw [hR'] at hR ⊢
    clear hR'
    have OK := Lib.hid hok; clear hok
    have HN := Lib.hid hn; clear hn
    have HT6 := Lib.hid ht6; clear ht6
    go_enter Try.func56, Try.ntmps56
    go_wp2_with fail
    (with_reducible refine (OK.out ▸ implTrainOk_any _ _ _ _ rows _ HN.out HS.out HT.out (HF.out.ext (by (repeat' (first | (with_reducible exact Ext.refl _) | (with_reducible assumption) | (with_reducible refine Ext.alloc ?_ _) | (with_reducible refine Ext.drewN ?_ _) | (with_reducible refine Ext.drew ?_) | (with_reducible refine Ext.setCell ?_ ?_ _) | (with_reducible exact Nat.le_refl _) | (with_reducible exact Nat.le_succ _) | (with_reducible refine Ext.trans ?_ (by assumption)) | (simp; done) | (simp; omega)))))).mono ?_); rintro e w1 ⟨rfl, hb1⟩
    have x0_1 := hb1
    obtain ⟨hc0_1, hf0_1⟩ := bcell x0_1.below
    have z0_1_0 : w.heap.size < w1.heap.size := by have h := x0_1.size; simp at h; omega
    have HB := Lib.hid (Ext.trans ((Ext.refl w).alloc _) hb1)
    go_wp2
    go_loopw [3, 15] (fun s i wr => ∃ (k : Nat) (z : Int), k ≤ n ∧ i = .int .i64 k ∧ s = .int .i64 z ∧ 0 ≤ z ∧ z ≤ 200 ∧ Ext w wr ∧ Hid (R = widGo z (rows.drop k))) (fun _ i _ => n - (intOf i).toNat)
    case atStart => exact ⟨0, 0, Nat.zero_le _, rfl, rfl, Int.le_refl _, by decide, HB.out, hR⟩
    case round =>
      obtain ⟨w2, rfl⟩ : ∃ x, x = wr := ⟨_, rfl⟩
      obtain ⟨k, z, hk, rfl, rfl, hz0, hz1, hr0, hgo⟩ := hrel
      by_cases hlt : k < n
      · have hlt' : k < rows.length := by rw [← HN.out]; exact hlt
        obtain ⟨b, off, a', c', rfl, hc0, hml, hfr⟩ := HF.out k hlt'
        have e0 : w2.cell? ⟨b, off + k, none⟩ = some (.slice a' rows[k].length c') := hr0.cell hc0
        have hd := List.drop_eq_getElem_cons hlt'
        have hml2 := Nat.le_trans (row_le hlt') HT6.out
        have hmem : rows[k] ∈ rows := List.getElem_mem _
        obtain ⟨row, hrow'⟩ : ∃ row, rows[k] = row := ⟨_, rfl⟩
        rw [hrow'] at e0 hfr hd hml2 hmem hc0
        have HG := Lib.hid (show R = widGo (if z < (sumWid 0 (row.drop 0)) then (sumWid 0 (row.drop 0)) else z) (rows.drop (k + 1)) by rw [hgo.out, hd, List.drop_zero]; rfl)
        have HMEM := Lib.hid hmem; clear hmem
        clear hgo hd hrow' hml
        obtain ⟨p, hp⟩ : ∃ p, p = row.length := ⟨_, rfl⟩
        rw [← hp] at e0 hml2 hc0
        have HC0 := Lib.hid hc0; clear hc0
        have HFR := Lib.hid hfr; clear hfr
        have HP := Lib.hid hp; clear hp
        have HR0 := Lib.hid hr0
        go_wp2
        go_loopw [6, 21] (fun m i wr => ∃ (q : Nat) (y : Int), q ≤ p ∧ i = .int .i64 q ∧ m = .int .i64 y ∧ 0 ≤ y ∧ y ≤ 30 * ((q : Nat) : Int) ∧ Ext w wr ∧ Hid (R = widGo (if z < (sumWid y (row.drop q)) then (sumWid y (row.drop q)) else z) (rows.drop (k + 1)))) (fun _ i _ => p - (intOf i).toNat)
        case atStart => exact ⟨0, 0, Nat.zero_le _, rfl, rfl, Int.le_refl _, by decide, by (repeat' (first | (with_reducible exact Ext.refl _) | (with_reducible assumption) | (with_reducible refine Ext.alloc ?_ _) | (with_reducible refine Ext.drewN ?_ _) | (with_reducible refine Ext.drew ?_) | (with_reducible refine Ext.setCell ?_ ?_ _) | (with_reducible exact Nat.le_refl _) | (with_reducible exact Nat.le_succ _) | (with_reducible refine Ext.trans ?_ (by assumption)) | (simp; done) | (simp; omega))), HG⟩
        case round =>
          obtain ⟨q, y, hq, rfl, rfl, hy0, hy1, hr, hgo⟩ := hrel
          by_cases hlt : q < p
          · have hlt2 : q < row.length := by rw [← HP.out]; exact hlt
            obtain ⟨b2, off2, rfl, hcell⟩ := HFR.out.get q hlt2
            have hd := List.drop_eq_getElem_cons hlt2
            obtain ⟨bt, hbt⟩ : ∃ bt, row[q] = bt := ⟨_, rfl⟩
            have hbo := bOk_bounds (trainOk_boats OK.out HMEM.out (hbt ▸ List.getElem_mem hlt2))
            rw [hbt] at hcell hd
            clear hbt
            obtain ⟨bi, bl, bw, bd, bs, bc⟩ := bt
            have hl1 : 1 ≤ bw := hbo.2.2.1.1
            have hl2 : bw ≤ 30 := hbo.2.2.1.2
            have g0 : wr.cell? ⟨b2, off2 + q * 6, none⟩ = some (.int .i64 bi) := hcell 0 _ rfl _ hr
            have g1 : wr.cell? ⟨b2, off2 + q * 6 + 1, none⟩ = some (.int .i64 bl) := hcell 1 _ rfl _ hr
            have g2 : wr.cell? ⟨b2, off2 + q * 6 + 2, none⟩ = some (.int .i64 bw) := hcell 2 _ rfl _ hr
            have g3 : wr.cell? ⟨b2, off2 + q * 6 + 3, none⟩ = some (.int .i64 bd) := hcell 3 _ rfl _ hr
            have g4 : wr.cell? ⟨b2, off2 + q * 6 + 4, none⟩ = some (.int .i64 bs) := hcell 4 _ rfl _ hr
            have g5 : wr.cell? ⟨b2, off2 + q * 6 + 5, none⟩ = some (.int .i64 bc) := hcell 5 _ rfl _ hr
            have HG2 := Lib.hid (show R = widGo (if z < (sumWid (y + bw) (row.drop (q + 1))) then (sumWid (y + bw) (row.drop (q + 1))) else z) (rows.drop (k + 1)) by rw [hgo.out, hd]; rfl)
            clear hcell hd hgo hbo
            go_wp2
            go_roundw
            case rel => exact ⟨q + 1, y + bw, by omega, by go_num, rfl, by (first | omega | (split <;> omega)), by (first | omega | (split <;> omega)), by (repeat' (first | (with_reducible exact Ext.refl _) | (with_reducible assumption) | (with_reducible refine Ext.alloc ?_ _) | (with_reducible refine Ext.drewN ?_ _) | (with_reducible refine Ext.drew ?_) | (with_reducible refine Ext.setCell ?_ ?_ _) | (with_reducible exact Nat.le_refl _) | (with_reducible exact Nat.le_succ _) | (with_reducible refine Ext.trans ?_ (by assumption)) | (simp; done) | (simp; omega))), HG2⟩
            case measure => simp [intOf]; omega
          · have hqp : q = p := by omega
            have HG2 := Lib.hid (show R = widGo (if z < y then y else z) (rows.drop (k + 1)) by rw [hgo.out, List.drop_eq_nil_of_le (by have := HP.out; omega)]; rfl)
            clear hgo
            go_wp2
            go_roundw
            case rel => exact ⟨k + 1, if z < y then y else z, by omega, by go_num, rfl, by (first | omega | (split <;> omega)), by (first | omega | (split <;> omega)), hr, HG2⟩
            case measure => simp [intOf]; omega
      · have hR2 := Lib.hid (show R = z by rw [hgo.out, List.drop_eq_nil_of_le (by have := HN.out; omega)]; rfl)
        go_wp2
        go_ret
        exact ⟨ret_int hR2.out.symm, by (repeat' (first | (with_reducible exact Ext.refl _) | (with_reducible assumption) | (with_reducible refine Ext.alloc ?_ _) | (with_reducible refine Ext.drewN ?_ _) | (with_reducible refine Ext.drew ?_) | (with_reducible refine Ext.setCell ?_ ?_ _) | (with_reducible exact Nat.le_refl _) | (with_reducible exact Nat.le_succ _) | (with_reducible refine Ext.trans ?_ (by assumption)) | (simp; done) | (simp; omega)))⟩

set_option maxHeartbeats 4000000 in
theorem specWidthOf_any (u : Bool) (a : Option Addr) (n c : Nat) (rows : List (List Bt)) (w : World) (hn : n = rows.length) (hs : n ≤ 1048576) (ht : rows.flatten.length ≤ 1048576) (hf : RowsAt w a rows) :
    Calls Try.prog 62 #[.agg #[.bool u, .slice a n c]] w fun e w' => e = .returned (.int .i64 (widthOf rows)) ∧ Ext w w' := by
  have HF := Lib.hid hf; clear hf
  have HS := Lib.hid hs
  have HT := Lib.hid ht; clear ht
  cases hok : trainOk rows
  · have hR := Lib.hid (show widthOf rows = 0 by rw [widthOf, hok]; rfl)
    have OK := Lib.hid hok; clear hok
    have HN := Lib.hid hn; clear hn
    go_enter Try.func62, Try.ntmps62
    go_wp2
    go_loopw [3, 4] (fun s i wr => s = .int .i64 0 ∧ i = .int .i64 0 ∧ Ext w wr ∧ RowAt wr w.heap.size 47 #[.bool u, .slice a n c]) (fun _ i _ => n - (intOf i).toNat)
    case atStart => exact ⟨rfl, rfl, by (repeat' (first | (with_reducible exact Ext.refl _) | (with_reducible assumption) | (with_reducible refine Ext.alloc ?_ _) | (with_reducible refine Ext.drewN ?_ _) | (with_reducible refine Ext.drew ?_) | (with_reducible refine Ext.setCell ?_ ?_ _) | (with_reducible exact Nat.le_refl _) | (with_reducible exact Nat.le_succ _) | (with_reducible refine Ext.trans ?_ (by assumption)) | (simp; done) | (simp; omega))), RowAt.new _ _ _⟩
    case round =>
      obtain ⟨rfl, rfl, hr, hrow⟩ := hrel
      have g0 : wr.cell? ⟨w.heap.size, 0, none⟩ = some (.bool u) := hrow.cell rfl
      have g1 : wr.cell? ⟨w.heap.size, 1, none⟩ = some (.slice a n c) := hrow.cell rfl
      by_cases h0 : n = 0
      · subst h0
        go_wp2
        go_ret
        exact ⟨ret_int hR.out.symm, by (repeat' (first | (with_reducible exact Ext.refl _) | (with_reducible assumption) | (with_reducible refine Ext.alloc ?_ _) | (with_reducible refine Ext.drewN ?_ _) | (with_reducible refine Ext.drew ?_) | (with_reducible refine Ext.setCell ?_ ?_ _) | (with_reducible exact Nat.le_refl _) | (with_reducible exact Nat.le_succ _) | (with_reducible refine Ext.trans ?_ (by assumption)) | (simp; done) | (simp; omega)))⟩
      · have hpos : 0 < n := by omega
        go_wp2_with (go_at_call 61; refine (OK.out ▸ specTrainOk_any _ _ _ _ rows _ HN.out HS.out HT.out (HF.out.ext hr)).mono ?_; rintro e w9 ⟨rfl, hb9⟩)
        go_ret
        exact ⟨ret_int hR.out.symm, by (repeat' (first | (with_reducible exact Ext.refl _) | (with_reducible assumption) | (with_reducible refine Ext.alloc ?_ _) | (with_reducible refine Ext.drewN ?_ _) | (with_reducible refine Ext.drew ?_) | (with_reducible refine Ext.setCell ?_ ?_ _) | (with_reducible exact Nat.le_refl _) | (with_reducible exact Nat.le_succ _) | (with_reducible refine Ext.trans ?_ (by assumption)) | (simp; done) | (simp; omega)))⟩
  · obtain ⟨_, _, _, ht6, hn6, _⟩ := trainOk_true hok
    rw [← hn] at hn6
    have hR := Lib.hid (show widthOf rows = widGo 0 (rows.drop 0) by rw [widthOf, hok, List.drop_zero]; rfl)
    obtain ⟨R, hR'⟩ : ∃ R, widthOf rows = R := ⟨_, rfl⟩
    rw [hR'] at hR ⊢
    clear hR'
    have OK := Lib.hid hok; clear hok
    have HN := Lib.hid hn; clear hn
    have HT6 := Lib.hid ht6; clear ht6
    go_enter Try.func62, Try.ntmps62
    skip
    go_wp2
    go_loopw [3, 4] (fun s i wr => ∃ (k : Nat) (z : Int), k ≤ n ∧ i = .int .i64 k ∧ s = .int .i64 z ∧ 0 ≤ z ∧ z ≤ 200 ∧ Ext w wr ∧ RowAt wr w.heap.size 47 #[.bool u, .slice a n c] ∧ Hid (R = widGo z (rows.drop k))) (fun _ i _ => n - (intOf i).toNat)
    case atStart => exact ⟨0, 0, Nat.zero_le _, rfl, rfl, Int.le_refl _, by decide, by (repeat' (first | (with_reducible exact Ext.refl _) | (with_reducible assumption) | (with_reducible refine Ext.alloc ?_ _) | (with_reducible refine Ext.drewN ?_ _) | (with_reducible refine Ext.drew ?_) | (with_reducible refine Ext.setCell ?_ ?_ _) | (with_reducible exact Nat.le_refl _) | (with_reducible exact Nat.le_succ _) | (with_reducible refine Ext.trans ?_ (by assumption)) | (simp; done) | (simp; omega))), RowAt.new _ _ _, hR⟩
    case round =>
      obtain ⟨w2, rfl⟩ : ∃ x, x = wr := ⟨_, rfl⟩
      obtain ⟨k, z, hk, rfl, rfl, hz0, hz1, hr0, hrow0, hgo⟩ := hrel
      have t0 : w2.cell? ⟨w.heap.size, 0, none⟩ = some (.bool u) := hrow0.cell rfl
      have t1 : w2.cell? ⟨w.heap.size, 1, none⟩ = some (.slice a n c) := hrow0.cell rfl
      by_cases hlt : k < n
      · have hlt' : k < rows.length := by rw [← HN.out]; exact hlt
        obtain ⟨b, off, a', c', rfl, hc0, hml, hfr⟩ := HF.out k hlt'
        have e0 : w2.cell? ⟨b, off + k, none⟩ = some (.slice a' rows[k].length c') := hr0.cell hc0
        have hd := List.drop_eq_getElem_cons hlt'
        have hml2 := Nat.le_trans (row_le hlt') HT6.out
        have hmem : rows[k] ∈ rows := List.getElem_mem _
        obtain ⟨row, hrow'⟩ : ∃ row, rows[k] = row := ⟨_, rfl⟩
        rw [hrow'] at e0 hfr hd hml2 hmem hc0
        have HG := Lib.hid (show R = widGo (if z < (sumWid 0 (row.drop 0)) then (sumWid 0 (row.drop 0)) else z) (rows.drop (k + 1)) by rw [hgo.out, hd, List.drop_zero]; rfl)
        have HMEM := Lib.hid hmem; clear hmem
        clear hgo hd hrow' hml
        obtain ⟨p, hp⟩ : ∃ p, p = row.length := ⟨_, rfl⟩
        rw [← hp] at e0 hml2 hc0
        have HC0 := Lib.hid hc0; clear hc0
        have HFR := Lib.hid hfr; clear hfr
        have HP := Lib.hid hp; clear hp
        have HR0 := Lib.hid hr0
        go_wp2_with fail
        refine (OK.out ▸ specTrainOk_any _ _ _ _ rows _ HN.out HS.out HT.out (HF.out.ext hr0)).mono ?_
        rintro e w9 ⟨rfl, hb9⟩
        have hrow9 := hrow0.ext hb9
        have hr9 := hr0.trans hb9
        clear t0 t1 e0
        go_wp2
        go_loopw [5, 6] (fun m i wr => ∃ (q : Nat) (y : Int), q ≤ p ∧ i = .int .i64 q ∧ m = .int .i64 y ∧ 0 ≤ y ∧ y ≤ 30 * ((q : Nat) : Int) ∧ Ext w wr ∧ RowAt wr w.heap.size 47 #[.bool u, .slice (some ⟨b, off, none⟩) n c] ∧ Hid (R = widGo (if z < (sumWid y (row.drop q)) then (sumWid y (row.drop q)) else z) (rows.drop (k + 1)))) (fun _ i _ => p - (intOf i).toNat)
        case atStart => exact ⟨0, 0, Nat.zero_le _, rfl, rfl, Int.le_refl _, by decide, hr9, hrow9, HG⟩
        case round =>
          obtain ⟨q, y, hq, rfl, rfl, hy0, hy1, hr, hrow, hgo⟩ := hrel
          have t0 : wr.cell? ⟨w.heap.size, 0, none⟩ = some (.bool u) := hrow.cell rfl
          have t1 : wr.cell? ⟨w.heap.size, 1, none⟩ = some (.slice (some ⟨b, off, none⟩) n c) := hrow.cell rfl
          have e0 : wr.cell? ⟨b, off + k, none⟩ = some (.slice a' p c') := hr.cell HC0.out
          by_cases hlt : q < p
          · have hlt2 : q < row.length := by rw [← HP.out]; exact hlt
            obtain ⟨b2, off2, rfl, hcell⟩ := HFR.out.get q hlt2
            have hd := List.drop_eq_getElem_cons hlt2
            obtain ⟨bt, hbt⟩ : ∃ bt, row[q] = bt := ⟨_, rfl⟩
            have hbo := bOk_bounds (trainOk_boats OK.out HMEM.out (hbt ▸ List.getElem_mem hlt2))
            rw [hbt] at hcell hd
            clear hbt
            obtain ⟨bi, bl, bw, bd, bs, bc⟩ := bt
            have hl1 : 1 ≤ bw := hbo.2.2.1.1
            have hl2 : bw ≤ 30 := hbo.2.2.1.2
            have g0 : wr.cell? ⟨b2, off2 + q * 6, none⟩ = some (.int .i64 bi) := hcell 0 _ rfl _ hr
            have g1 : wr.cell? ⟨b2, off2 + q * 6 + 1, none⟩ = some (.int .i64 bl) := hcell 1 _ rfl _ hr
            have g2 : wr.cell? ⟨b2, off2 + q * 6 + 2, none⟩ = some (.int .i64 bw) := hcell 2 _ rfl _ hr
            have g3 : wr.cell? ⟨b2, off2 + q * 6 + 3, none⟩ = some (.int .i64 bd) := hcell 3 _ rfl _ hr
            have g4 : wr.cell? ⟨b2, off2 + q * 6 + 4, none⟩ = some (.int .i64 bs) := hcell 4 _ rfl _ hr
            have g5 : wr.cell? ⟨b2, off2 + q * 6 + 5, none⟩ = some (.int .i64 bc) := hcell 5 _ rfl _ hr
            have HG2 := Lib.hid (show R = widGo (if z < (sumWid (y + bw) (row.drop (q + 1))) then (sumWid (y + bw) (row.drop (q + 1))) else z) (rows.drop (k + 1)) by rw [hgo.out, hd]; rfl)
            clear hcell hd hgo hbo
            go_wp2
            go_roundw
            case rel => exact ⟨q + 1, y + bw, by omega, by go_num, rfl, by (first | omega | (split <;> omega)), by (first | omega | (split <;> omega)), by (repeat' (first | (with_reducible exact Ext.refl _) | (with_reducible assumption) | (with_reducible refine Ext.alloc ?_ _) | (with_reducible refine Ext.drewN ?_ _) | (with_reducible refine Ext.drew ?_) | (with_reducible refine Ext.setCell ?_ ?_ _) | (with_reducible exact Nat.le_refl _) | (with_reducible exact Nat.le_succ _) | (with_reducible refine Ext.trans ?_ (by assumption)) | (simp; done) | (simp; omega))), hrow, HG2⟩
            case measure => simp [intOf]; omega
          · have hqp : q = p := by omega
            have HG2 := Lib.hid (show R = widGo (if z < y then y else z) (rows.drop (k + 1)) by rw [hgo.out, List.drop_eq_nil_of_le (by have := HP.out; omega)]; rfl)
            clear hgo
            go_wp2
            go_roundw
            case rel => exact ⟨k + 1, if z < y then y else z, by omega, by go_num, rfl, by (first | omega | (split <;> omega)), by (first | omega | (split <;> omega)), hr, hrow, HG2⟩
            case measure => simp [intOf]; omega
      · have hR2 := Lib.hid (show R = z by rw [hgo.out, List.drop_eq_nil_of_le (by have := HN.out; omega)]; rfl)
        go_wp2
        go_ret
        exact ⟨ret_int hR2.out.symm, by (repeat' (first | (with_reducible exact Ext.refl _) | (with_reducible assumption) | (with_reducible refine Ext.alloc ?_ _) | (with_reducible refine Ext.drewN ?_ _) | (with_reducible refine Ext.drew ?_) | (with_reducible refine Ext.setCell ?_ ?_ _) | (with_reducible exact Nat.le_refl _) | (with_reducible exact Nat.le_succ _) | (with_reducible refine Ext.trans ?_ (by assumption)) | (simp; done) | (simp; omega)))⟩
end Go.Proofs.Ytmppoflgbmabpaa
/- FitsChamber on both sides. -/
namespace Go.Proofs.Ytmppoflgbmabpaa
open Go.RowKit
set_option linter.unusedSimpArgs false
set_option linter.unusedVariables false

/-! ### The plain law -/
theorem mostLen_b : ∀ (row : List Bt) (n : Int), 0 ≤ n → n ≤ 200 → (∀ b ∈ row, 1 ≤ b.len ∧ b.len ≤ 200) → 0 ≤ mostLen n row ∧ mostLen n row ≤ 200
  | [], n, h0, h1, _ => ⟨h0, h1⟩
  | b :: bs, n, h0, h1, h => by
    have hb := h b (by simp)
    have : mostLen n (b :: bs) = mostLen (if n < b.len then b.len else n) bs := rfl
    rw [this]
    exact mostLen_b bs _ (by split <;> omega) (by split <;> omega) (fun x hx => h x (by simp [hx]))
theorem lenGo_b : ∀ (rows : List (List Bt)) (s : Int), 0 ≤ s → (∀ r ∈ rows, ∀ b ∈ r, 1 ≤ b.len ∧ b.len ≤ 200) → 0 ≤ lenGo s rows ∧ lenGo s rows ≤ s + 200 * (rows.length : Int)
  | [], s, h0, _ => ⟨h0, by simp [lenGo]⟩
  | r :: rs, s, h0, h => by
    have e : lenGo s (r :: rs) = lenGo (s + mostLen 0 r) rs := rfl
    obtain ⟨k1, k2⟩ := mostLen_b r 0 (by decide) (by decide) (h r (by simp))
    obtain ⟨k3, k4⟩ := lenGo_b rs (s + mostLen 0 r) (by omega) (fun x hx => h x (by simp [hx]))
    rw [e, List.length_cons]
    omega
theorem sumWid_b : ∀ (row : List Bt) (n : Int), 0 ≤ n → (∀ b ∈ row, 1 ≤ b.wid ∧ b.wid ≤ 30) → 0 ≤ sumWid n row ∧ sumWid n row ≤ n + 30 * (row.length : Int)
  | [], n, h0, _ => ⟨h0, by simp [sumWid]⟩
  | b :: bs, n, h0, h => by
    have hb := h b (by simp)
    have e : sumWid n (b :: bs) = sumWid (n + b.wid) bs := rfl
    obtain ⟨k1, k2⟩ := sumWid_b bs (n + b.wid) (by omega) (fun x hx => h x (by simp [hx]))
    rw [e, List.length_cons]
    omega
theorem widGo_b : ∀ (rows : List (List Bt)) (s : Int), 0 ≤ s → s ≤ 180 → (∀ r ∈ rows, r.length ≤ 6 ∧ ∀ b ∈ r, 1 ≤ b.wid ∧ b.wid ≤ 30) → 0 ≤ widGo s rows ∧ widGo s rows ≤ 180
  | [], s, h0, h1, _ => ⟨h0, h1⟩
  | r :: rs, s, h0, h1, h => by
    have e : widGo s (r :: rs) = widGo (if s < sumWid 0 r then sumWid 0 r else s) rs := rfl
    obtain ⟨q1, q2⟩ := h r (by simp)
    obtain ⟨k1, k2⟩ := sumWid_b r 0 (by decide) q2
    rw [e]
    exact widGo_b rs _ (by split <;> omega) (by split <;> omega) (fun x hx => h x (by simp [hx]))
theorem lengthOf_b (rows : List (List Bt)) : 0 ≤ lengthOf rows ∧ lengthOf rows ≤ 1200 := by
  unfold lengthOf
  split
  · rename_i h
    obtain ⟨_, _, _, _, h5, _⟩ := trainOk_true h
    obtain ⟨k1, k2⟩ := lenGo_b rows 0 (by decide) (fun r hr b hb => (bOk_bounds (trainOk_boats h hr hb)).2.1)
    omega
  · omega
theorem widthOf_b (rows : List (List Bt)) : 0 ≤ widthOf rows ∧ widthOf rows ≤ 180 := by
  unfold widthOf
  split
  · rename_i h
    obtain ⟨_, _, _, h4, _, _⟩ := trainOk_true h
    exact widGo_b rows 0 (by decide) (by decide) (fun r hr => ⟨by
      obtain ⟨i, hi, rfl⟩ := List.getElem_of_mem hr
      have := row_le hi
      omega, fun b hb => (bOk_bounds (trainOk_boats h hr hb)).2.2.1⟩)
  · omega
/-- Do the trains lie in a chamber of length L and width W: k trains have been laid; tot: the length of the lines before this one; wide, long: this line. -/
def fitB (L W : Int) (k : Nat) (tot wide long : Int) : List Tn → Bool
  | [] => decide (tot + long ≤ L)
  | t :: ts => if W < widthOf t.2 then false
    else if 0 < k ∧ wide + widthOf t.2 ≤ W then fitB L W (k + 1) tot (wide + widthOf t.2) (if long < lengthOf t.2 then lengthOf t.2 else long) ts
    else fitB L W (k + 1) (tot + long) (widthOf t.2) (lengthOf t.2) ts
def fits (L W : Int) (ts : List Tn) : Bool := distinct ts && fitB L W 0 0 0 0 ts
theorem distinct_parts {ts : List Tn} (h : distinct ts = true) : ts.length ≤ 8 ∧ allOk ts = true := by
  unfold distinct at h
  simp only [Bool.and_eq_true, decide_eq_true_eq] at h
  exact ⟨h.1.1, h.1.2⟩

theorem implWidthOf_is (x : Int) (u : Bool) (a : Option Addr) (n c : Nat) (rows : List (List Bt)) (w : World) (hn : n = rows.length) (hs : n ≤ 1048576) (ht : rows.flatten.length ≤ 1048576) (hf : RowsAt w a rows) (hx : widthOf rows = x) :
    Calls Try.prog 56 #[.agg #[.bool u, .slice a n c]] w fun e w' => e = .returned (.int .i64 x) ∧ Ext w w' := hx ▸ implWidthOf_any u a n c rows w hn hs ht hf
theorem implLengthOf_is (x : Int) (u : Bool) (a : Option Addr) (n c : Nat) (rows : List (List Bt)) (w : World) (hn : n = rows.length) (hs : n ≤ 1048576) (ht : rows.flatten.length ≤ 1048576) (hf : RowsAt w a rows) (hx : lengthOf rows = x) :
    Calls Try.prog 57 #[.agg #[.bool u, .slice a n c]] w fun e w' => e = .returned (.int .i64 x) ∧ Ext w w' := hx ▸ implLengthOf_any u a n c rows w hn hs ht hf
theorem specWidthOf_is (x : Int) (u : Bool) (a : Option Addr) (n c : Nat) (rows : List (List Bt)) (w : World) (hn : n = rows.length) (hs : n ≤ 1048576) (ht : rows.flatten.length ≤ 1048576) (hf : RowsAt w a rows) (hx : widthOf rows = x) :
    Calls Try.prog 62 #[.agg #[.bool u, .slice a n c]] w fun e w' => e = .returned (.int .i64 x) ∧ Ext w w' := hx ▸ specWidthOf_any u a n c rows w hn hs ht hf
theorem specLengthOf_is (x : Int) (u : Bool) (a : Option Addr) (n c : Nat) (rows : List (List Bt)) (w : World) (hn : n = rows.length) (hs : n ≤ 1048576) (ht : rows.flatten.length ≤ 1048576) (hf : RowsAt w a rows) (hx : lengthOf rows = x) :
    Calls Try.prog 63 #[.agg #[.bool u, .slice a n c]] w fun e w' => e = .returned (.int .i64 x) ∧ Ext w w' := hx ▸ specLengthOf_any u a n c rows w hn hs ht hf

set_option maxRecDepth 100000 in
set_option maxHeartbeats 4000000 in
theorem implFits_any (R : Bool) (x0 x1 x2 x3 x4 x5 x6 x7 x8 : Int) (a0 : Option Addr) (n0 c0 : Nat) (a : Option Addr) (n c : Nat) (ts : List Tn) (w : World) (hn : n = ts.length) (hs : n ≤ 1048576) (hts : ∀ t ∈ ts, SmallT t) (hf : TrainsAt w a ts) (hR : fits x0 x1 ts = R) (hi0 : I64 x0) (hi1 : I64 x1) :
    Calls Try.prog 41 #[.agg #[.int .i64 x0, .int .i64 x1, .int .i64 x2, .int .i64 x3, .int .i64 x4, .int .i64 x5, .int .i64 x6, .int .i64 x7, .int .i64 x8, .slice a0 n0 c0], .slice a n c] w fun e w' => e = .returned (.bool R) ∧ Ext w w' := by
  have HF := Lib.hid hf; clear hf
  have HS := Lib.hid hs; clear hs
  have HT := Lib.hid hts; clear hts
  obtain ⟨D, hD⟩ : ∃ D, distinct ts = D := ⟨_, rfl⟩
  have HR := Lib.hid (show R = (D && fitB x0 x1 0 0 0 0 ts) by rw [← hR, fits, hD])
  clear hR
  cases D
  · have HD := Lib.hid hD; clear hD
    have HN := Lib.hid hn; clear hn
    have hr := Lib.hid (show R = false by rw [HR.out]; rfl)
    go_enter Try.func41, Try.ntmps41
    go_wp2_with fail
    (with_reducible refine (implDistinct_any false _ _ _ ts _ HN.out HS.out HT.out (HF.out.ext (by (repeat' (first | (with_reducible exact Ext.refl _) | (with_reducible assumption) | (with_reducible refine Ext.alloc ?_ _) | (with_reducible refine Ext.drewN ?_ _) | (with_reducible refine Ext.drew ?_) | (with_reducible refine Ext.setCell ?_ ?_ _) | (with_reducible exact Nat.le_refl _) | (with_reducible exact Nat.le_succ _) | (with_reducible refine Ext.trans ?_ (by assumption)) | (simp; done) | (simp; omega))))) HD.out).mono ?_); rintro e w1 ⟨rfl, hb1⟩
    have x0_1 := hb1
    obtain ⟨hc0_1, hf0_1⟩ := bcell x0_1.below
    have z0_1_0 : w.heap.size < w1.heap.size := by have h := x0_1.size; simp at h; omega
    go_wp2
    go_ret
    exact ⟨ret_bool hr.out.symm, by (repeat' (first | (with_reducible exact Ext.refl _) | (with_reducible assumption) | (with_reducible refine Ext.alloc ?_ _) | (with_reducible refine Ext.drewN ?_ _) | (with_reducible refine Ext.drew ?_) | (with_reducible refine Ext.setCell ?_ ?_ _) | (with_reducible exact Nat.le_refl _) | (with_reducible exact Nat.le_succ _) | (with_reducible refine Ext.trans ?_ (by assumption)) | (simp; done) | (simp; omega)))⟩
  · obtain ⟨h8, hall⟩ := distinct_parts hD
    rw [← hn] at h8
    have HALL := Lib.hid hall; clear hall
    have HD := Lib.hid hD; clear hD
    have HN := Lib.hid hn; clear hn
    have hr0 := Lib.hid (show R = fitB x0 x1 0 0 0 0 ts by rw [HR.out]; rfl)
    have tB := RowAt.new w 26 #[.int .i64 x0, .int .i64 x1, .int .i64 x2, .int .i64 x3, .int .i64 x4, .int .i64 x5, .int .i64 x6, .int .i64 x7, .int .i64 x8, .slice a0 n0 c0]
    unfold I64 at hi0 hi1
    go_enter Try.func41, Try.ntmps41
    go_wp2_with fail
    (with_reducible refine (implDistinct_any true _ _ _ ts _ HN.out HS.out HT.out (HF.out.ext (by (repeat' (first | (with_reducible exact Ext.refl _) | (with_reducible assumption) | (with_reducible refine Ext.alloc ?_ _) | (with_reducible refine Ext.drewN ?_ _) | (with_reducible refine Ext.drew ?_) | (with_reducible refine Ext.setCell ?_ ?_ _) | (with_reducible exact Nat.le_refl _) | (with_reducible exact Nat.le_succ _) | (with_reducible refine Ext.trans ?_ (by assumption)) | (simp; done) | (simp; omega))))) HD.out).mono ?_); rintro e w1 ⟨rfl, hb1⟩
    have x0_1 := hb1
    obtain ⟨hc0_1, hf0_1⟩ := bcell x0_1.below
    have z0_1_0 : w.heap.size < w1.heap.size := by have h := x0_1.size; simp at h; omega
    have tB1 := tB.ext x0_1
    have hw1 := Ext.trans ((Ext.refl w).alloc _) x0_1
    clear tB
    have HTB := Lib.hid tB1; clear tB1
    go_wp2
    go_loopw [5, 6, 7, 17] (fun v5 v6 v7 i wr => ∃ (k : Nat) (tot wide long : Int), k ≤ n ∧ i = .int .i64 k ∧ v5 = .int .i64 tot ∧ v6 = .int .i64 wide ∧ v7 = .int .i64 long ∧ (0 ≤ tot ∧ tot ≤ 1200 * (k : Int)) ∧ (0 ≤ wide ∧ wide ≤ 180 * (k : Int)) ∧ (0 ≤ long ∧ long ≤ 1200) ∧ Ext w wr ∧ RowAt wr w.heap.size 26 #[.int .i64 x0, .int .i64 x1, .int .i64 x2, .int .i64 x3, .int .i64 x4, .int .i64 x5, .int .i64 x6, .int .i64 x7, .int .i64 x8, .slice a0 n0 c0] ∧ Hid (R = fitB x0 x1 k tot wide long (ts.drop k))) (fun _ _ _ i _ => n - (intOf i).toNat)
    case atStart => exact ⟨0, 0, 0, 0, Nat.zero_le _, rfl, rfl, rfl, rfl, by omega, by omega, by omega, hw1, HTB.out, hr0.out⟩
    case round =>
      obtain ⟨k, tot, wide, long, hk, rfl, rfl, rfl, rfl, ht, hwd, hlg, hr, hbox, hgo⟩ := hrel
      obtain ⟨w5, rfl⟩ : ∃ x, x = wr := ⟨_, rfl⟩
      by_cases hlt : k < n
      · have hlt' : k < ts.length := by rw [← HN.out]; exact hlt
        obtain ⟨b, off, a', c', rfl, hc0, hc1, hml, hfr⟩ := HF.out k hlt'
        have e0 := hr.cell hc0
        have e1 := hr.cell hc1
        have HFR := Lib.hid (hfr.ext hr); clear hfr hc0 hc1
        have HD2 := Lib.hid (show R = fitB x0 x1 k tot wide long (ts[k] :: ts.drop (k + 1)) by rw [hgo.out, List.drop_eq_getElem_cons hlt'])
        obtain ⟨g1, g2, g3⟩ := HT.out ts[k] (List.getElem_mem _)
        obtain ⟨t, ht'⟩ : ∃ t, ts[k] = t := ⟨_, rfl⟩
        rw [ht'] at e0 e1 HFR HD2 hml g1 g3
        clear ht' g2 hgo
        obtain ⟨u, rows⟩ := t
        dsimp only at e0 e1 HFR HD2 hml g1 g3
        obtain ⟨m, hm⟩ : ∃ m, m = rows.length := ⟨_, rfl⟩
        rw [← hm] at e1 g1
        have HM := Lib.hid hm; clear hm
        have HG1 := Lib.hid g1; clear g1
        have HG3 := Lib.hid g3; clear g3
        clear hml
        obtain ⟨x, hx⟩ : ∃ x, widthOf rows = x := ⟨_, rfl⟩
        obtain ⟨y, hy⟩ : ∃ y, lengthOf rows = y := ⟨_, rfl⟩
        have hxb := widthOf_b rows
        have hyb := lengthOf_b rows
        rw [hx] at hxb
        rw [hy] at hyb
        have HD3 := Lib.hid (show R = if x1 < x then false else if 0 < k ∧ wide + x ≤ x1 then fitB x0 x1 (k + 1) tot (wide + x) (if long < y then y else long) (ts.drop (k + 1)) else fitB x0 x1 (k + 1) (tot + long) x y (ts.drop (k + 1)) by rw [HD2.out, fitB, hx, hy])
        clear HD2
        have HX := Lib.hid hx; clear hx
        have HY := Lib.hid hy; clear hy
        have A5 := RowAt.new w5 47 #[.bool u, .slice a' m c']
        have hE5 : Ext w5 (w5.alloc (.cells #[.bool u, .slice a' m c'] 47)) := (Ext.refl w5).alloc _
        obtain ⟨W, hW⟩ : ∃ W, w5.alloc (.cells #[.bool u, .slice a' m c'] 47) = W := ⟨_, rfl⟩
        rw [hW] at A5 hE5
        have p0 : ∀ z : Aft W, z.1.cell? ⟨w5.heap.size, 0, none⟩ = some (.bool u) := fun z => (A5.ext z.2).cell rfl
        have p1 : ∀ z : Aft W, z.1.cell? ⟨w5.heap.size, 1, none⟩ = some (.slice a' m c') := fun z => (A5.ext z.2).cell rfl
        have HW := Lib.hid hW; clear hW
        have HFW := Lib.hid (HFR.out.ext hE5); clear HFR
        clear A5
        go_wp2_with fail
        rw [HW.out]
        (refine wp_region_aft W (Ext.refl _) (by kernel_rfl) (by kernel_rfl) ?_; (repeat (go_big_quiet_step ((first | (go_at_call 56; exact aft_call (implWidthOf_is x _ _ _ _ rows _ HM.out HG1.out HG3.out (HFW.out.ext (Subtype.property _)) HX.out)) | (go_at_call 57; exact aft_call (implLengthOf_is y _ _ _ _ rows _ HM.out HG1.out HG3.out (HFW.out.ext (Subtype.property _)) HY.out)))))); refine wpQuiet_nil ?_; intro w2 hx2)
        clear p0 p1
        have hx2w := hE5.trans hx2
        have hwx := hr.trans hx2w
        have HB2 := Lib.hid (hbox.ext hx2w); clear hbox
        have l1 : w2.cell? ⟨w.heap.size, 1, none⟩ = some (.int .i64 x1) := HB2.out.cell rfl
        by_cases c1 : x1 < x
        · have hR := Lib.hid (show R = false by rw [HD3.out, if_pos c1])
          go_wp2
          go_ret
          exact ⟨ret_bool hR.out.symm, hwx⟩
        · by_cases c2 : 0 < k ∧ wide + x ≤ x1
          · have hR := Lib.hid (show R = fitB x0 x1 (k + 1) tot (wide + x) (if long < y then y else long) (ts.drop (k + 1)) by rw [HD3.out, if_neg c1, if_pos c2])
            obtain ⟨c3, c4⟩ := c2
            have d3 : (0 : Int) < (k : Int) := by omega
            have C4 := Lib.hid c4
            go_wp2
            all_goals
              go_roundw
              case rel => exact ⟨k + 1, _, _, _, by omega, by go_num, rfl, rfl, rfl, by omega, by omega, by (try split) <;> omega, hwx, HB2.out, hR.out⟩
              case measure => simp [intOf]; omega
          · have hR := Lib.hid (show R = fitB x0 x1 (k + 1) (tot + long) x y (ts.drop (k + 1)) by rw [HD3.out, if_neg c1, if_neg c2])
            have c3 : k = 0 ∨ (0 < k ∧ x1 < wide + x) := by omega
            clear c2
            rcases c3 with rfl | ⟨c3, c4⟩
            all_goals
              go_wp2
              go_roundw
              case rel => exact ⟨_ + 1, _, _, _, by omega, by go_num, rfl, rfl, rfl, by omega, by omega, by omega, hwx, HB2.out, hR.out⟩
              case measure => simp [intOf]; omega
      · have hd : ts.drop k = [] := List.drop_eq_nil_of_le (by rw [← HN.out]; omega)
        rw [hd] at hgo
        have hR := Lib.hid (show R = decide (tot + long ≤ x0) by rw [hgo.out]; rfl)
        have l0 : w5.cell? ⟨w.heap.size, 0, none⟩ = some (.int .i64 x0) := hbox.cell rfl
        clear hgo
        go_wp2
        go_ret
        exact ⟨ret_bool (by rw [hR.out]), hr⟩

set_option maxRecDepth 100000 in
set_option maxHeartbeats 4000000 in
theorem specFits_any (R : Bool) (x0 x1 x2 x3 x4 x5 x6 x7 x8 : Int) (a0 : Option Addr) (n0 c0 : Nat) (a : Option Addr) (n c : Nat) (ts : List Tn) (w : World) (hn : n = ts.length) (hs : n ≤ 1048576) (hts : ∀ t ∈ ts, SmallT t) (hf : TrainsAt w a ts) (hR : fits x0 x1 ts = R) (hi0 : I64 x0) (hi1 : I64 x1) :
    Calls Try.prog 47 #[.agg #[.int .i64 x0, .int .i64 x1, .int .i64 x2, .int .i64 x3, .int .i64 x4, .int .i64 x5, .int .i64 x6, .int .i64 x7, .int .i64 x8, .slice a0 n0 c0], .slice a n c] w fun e w' => e = .returned (.bool R) ∧ Ext w w' := by
  have HF := Lib.hid hf; clear hf
  have HS := Lib.hid hs; clear hs
  have HT := Lib.hid hts; clear hts
  by_cases h8 : n ≤ 8
  case neg =>
    have HR := Lib.hid (show R = false by rw [← hR, fits, distinct, ← hn, decide_eq_false h8]; rfl)
    clear hR hn
    have d8 : decide (8 < (n : Int)) = true := by simp; omega
    go_enter Try.func47, Try.ntmps47
    go_wp2
    go_ret
    exact ⟨ret_bool HR.out.symm, by (repeat' (first | (with_reducible exact Ext.refl _) | (with_reducible assumption) | (with_reducible refine Ext.alloc ?_ _) | (with_reducible refine Ext.drewN ?_ _) | (with_reducible refine Ext.drew ?_) | (with_reducible refine Ext.setCell ?_ ?_ _) | (with_reducible exact Nat.le_refl _) | (with_reducible exact Nat.le_succ _) | (with_reducible refine Ext.trans ?_ (by assumption)) | (simp; done) | (simp; omega)))⟩
  obtain ⟨D, hD⟩ : ∃ D, difGo [] (tIds ts) = D := ⟨_, rfl⟩
  have hr0 := Lib.hid (show R = ((allOk (ts.drop 0) && fitB x0 x1 0 0 0 0 (ts.drop 0)) && D) by
    rw [← hR, fits, distinct, ← hn, decide_eq_true h8, hD, List.drop_zero]
    cases allOk ts <;> cases D <;> simp)
  have HD := Lib.hid hD; clear hD hR
  have HN := Lib.hid hn; clear hn
  have d8 : decide (8 < (n : Int)) = false := by simp; omega
  have tB := RowAt.new w 26 #[.int .i64 x0, .int .i64 x1, .int .i64 x2, .int .i64 x3, .int .i64 x4, .int .i64 x5, .int .i64 x6, .int .i64 x7, .int .i64 x8, .slice a0 n0 c0]
  have hw1 := (Ext.refl w).alloc (.cells #[.int .i64 x0, .int .i64 x1, .int .i64 x2, .int .i64 x3, .int .i64 x4, .int .i64 x5, .int .i64 x6, .int .i64 x7, .int .i64 x8, .slice a0 n0 c0] 26)
  unfold I64 at hi0 hi1
  go_enter Try.func47, Try.ntmps47
  go_wp2
  go_loopw [5, 6, 7, 8] (fun v5 v6 v7 i wr => ∃ (k : Nat) (tot wide long : Int), k ≤ n ∧ i = .int .i64 k ∧ v5 = .int .i64 tot ∧ v7 = .int .i64 wide ∧ v6 = .int .i64 long ∧ (0 ≤ tot ∧ tot ≤ 1200 * (k : Int)) ∧ (0 ≤ wide ∧ wide ≤ 180 * (k : Int)) ∧ (0 ≤ long ∧ long ≤ 1200) ∧ Ext w wr ∧ RowAt wr w.heap.size 26 #[.int .i64 x0, .int .i64 x1, .int .i64 x2, .int .i64 x3, .int .i64 x4, .int .i64 x5, .int .i64 x6, .int .i64 x7, .int .i64 x8, .slice a0 n0 c0] ∧ Hid (R = ((allOk (ts.drop k) && fitB x0 x1 k tot wide long (ts.drop k)) && D))) (fun _ _ _ i _ => n - (intOf i).toNat)
  case atStart => exact ⟨0, 0, 0, 0, Nat.zero_le _, rfl, rfl, rfl, rfl, by omega, by omega, by omega, hw1, tB, hr0.out⟩
  case round =>
    obtain ⟨k, tot, wide, long, hk, rfl, rfl, rfl, rfl, ht, hwd, hlg, hr, hbox, hgo⟩ := hrel
    clear tB hw1
    obtain ⟨w5, rfl⟩ : ∃ x, x = wr := ⟨_, rfl⟩
    by_cases hlt : k < n
    · have hlt' : k < ts.length := by rw [← HN.out]; exact hlt
      obtain ⟨b, off, a', c', rfl, hc0, hc1, hml, hfr⟩ := HF.out k hlt'
      have e0 := hr.cell hc0
      have e1 := hr.cell hc1
      have HFR := Lib.hid (hfr.ext hr); clear hfr
      have HD2 := Lib.hid (show R = ((allOk (ts[k] :: ts.drop (k + 1)) && fitB x0 x1 k tot wide long (ts[k] :: ts.drop (k + 1))) && D) by rw [hgo.out, List.drop_eq_getElem_cons hlt'])
      obtain ⟨g1, g2, g3⟩ := HT.out ts[k] (List.getElem_mem _)
      obtain ⟨t, ht'⟩ : ∃ t, ts[k] = t := ⟨_, rfl⟩
      rw [ht'] at e0 e1 HFR HD2 hml g1 g3 hc0 hc1
      clear ht' g2 hgo
      obtain ⟨u, rows⟩ := t
      dsimp only at e0 e1 HFR HD2 hml g1 g3 hc0 hc1
      obtain ⟨m, hm⟩ : ∃ m, m = rows.length := ⟨_, rfl⟩
      rw [← hm] at e1 g1 hc1
      have HM := Lib.hid hm; clear hm
      have HG1 := Lib.hid g1; clear g1
      have HG3 := Lib.hid g3; clear g3
      have HC0 := Lib.hid hc0; clear hc0
      have HC1 := Lib.hid hc1; clear hc1
      clear hml
      obtain ⟨x, hx⟩ : ∃ x, widthOf rows = x := ⟨_, rfl⟩
      obtain ⟨y, hy⟩ : ∃ y, lengthOf rows = y := ⟨_, rfl⟩
      obtain ⟨ok, hok⟩ : ∃ ok, trainOk rows = ok := ⟨_, rfl⟩
      have hxb := widthOf_b rows
      have hyb := lengthOf_b rows
      rw [hx] at hxb
      rw [hy] at hyb
      have HD3 := Lib.hid (show R = (((ok && allOk (ts.drop (k + 1))) && (if x1 < x then false else if 0 < k ∧ wide + x ≤ x1 then fitB x0 x1 (k + 1) tot (wide + x) (if long < y then y else long) (ts.drop (k + 1)) else fitB x0 x1 (k + 1) (tot + long) x y (ts.drop (k + 1)))) && D) by rw [HD2.out, fitB, hx, hy, ← hok]; rfl)
      clear HD2
      have HX := Lib.hid hx; clear hx
      have HY := Lib.hid hy; clear hy
      have HOK := Lib.hid hok; clear hok
      cases ok
      · have hR := Lib.hid (show R = false by rw [HD3.out]; simp)
        go_wp2_with (go_at_call 61; refine (HOK.out ▸ specTrainOk_any _ _ _ _ rows _ HM.out HG1.out HG3.out HFR.out).mono ?_; rintro e w6 ⟨rfl, hb6⟩)
        go_ret
        exact ⟨ret_bool hR.out.symm, hr.trans hb6⟩
      go_wp2_with fail
      refine (HOK.out ▸ specTrainOk_any _ _ _ _ rows _ HM.out HG1.out HG3.out HFR.out).mono ?_
      rintro e w6 ⟨rfl, hb6⟩
      have hw6 := hr.trans hb6
      clear e0 e1
      have e0 := hw6.cell HC0.out
      have e1 := hw6.cell HC1.out
      go_wp2_with fail
      refine (specWidthOf_is x _ _ _ _ rows _ HM.out HG1.out HG3.out (HFR.out.ext hb6) HX.out).mono ?_
      rintro e w7 ⟨rfl, hb7⟩
      have hx57 := hb6.trans hb7
      have hw7 := hr.trans hx57
      have HB7 := Lib.hid (hbox.ext hx57); clear hbox
      have l1 : w7.cell? ⟨w.heap.size, 1, none⟩ = some (.int .i64 x1) := HB7.out.cell rfl
      clear e0 e1
      have e0 := hw7.cell HC0.out
      have e1 := hw7.cell HC1.out
      by_cases c1 : x1 < x
      · have hR := Lib.hid (show R = false by rw [HD3.out, if_pos c1]; simp)
        go_wp2
        go_ret
        exact ⟨ret_bool hR.out.symm, hw7⟩
      · by_cases c2 : 0 < k ∧ wide + x ≤ x1
        · have hR := Lib.hid (show R = ((allOk (ts.drop (k + 1)) && fitB x0 x1 (k + 1) tot (wide + x) (if long < y then y else long) (ts.drop (k + 1))) && D) by rw [HD3.out, if_neg c1, if_pos c2, Bool.true_and])
          obtain ⟨c3, c4⟩ := c2
          have d3 : (0 : Int) < (k : Int) := by omega
          go_wp2_with fail
          refine (specLengthOf_is y _ _ _ _ rows _ HM.out HG1.out HG3.out (HFR.out.ext hx57) HY.out).mono ?_
          rintro e w8 ⟨rfl, hb8⟩
          have hw8 := hw7.trans hb8
          have HB8 := Lib.hid (HB7.out.ext hb8)
          go_wp2
          all_goals
            go_roundw
            case rel => exact ⟨k + 1, _, _, _, by omega, by go_num, rfl, rfl, rfl, by omega, by omega, by (try split) <;> omega, hw8, HB8.out, hR.out⟩
            case measure => simp [intOf]; omega
        · have hR := Lib.hid (show R = ((allOk (ts.drop (k + 1)) && fitB x0 x1 (k + 1) (tot + long) x y (ts.drop (k + 1))) && D) by rw [HD3.out, if_neg c1, if_neg c2, Bool.true_and])
          have c3 : k = 0 ∨ (0 < k ∧ x1 < wide + x) := by omega
          clear c2
          rcases c3 with rfl | ⟨c3, c4⟩
          all_goals
            (try simp only [Nat.zero_mul, Nat.add_zero] at e0 e1)
            go_wp2_with fail
            refine (specLengthOf_is y _ _ _ _ rows _ HM.out HG1.out HG3.out (HFR.out.ext hx57) HY.out).mono ?_
            rintro e w8 ⟨rfl, hb8⟩
            have hw8 := hw7.trans hb8
            have HB8 := Lib.hid (HB7.out.ext hb8)
            go_wp2
            go_roundw
            case rel => exact ⟨_ + 1, _, _, _, by omega, by go_num, rfl, rfl, rfl, by omega, by omega, by omega, hw8, HB8.out, hR.out⟩
            case measure => simp [intOf]; omega
    · have hd : ts.drop k = [] := List.drop_eq_nil_of_le (by rw [← HN.out]; omega)
      rw [hd] at hgo
      have hR := Lib.hid (show R = (decide (tot + long ≤ x0) && D) by rw [hgo.out]; rfl)
      have l0 : w5.cell? ⟨w.heap.size, 0, none⟩ = some (.int .i64 x0) := hbox.cell rfl
      clear hgo
      by_cases c : tot + long ≤ x0
      · have hR2 := Lib.hid (show R = D by rw [hR.out, decide_eq_true c, Bool.true_and])
        go_wp2_with (go_at_call 64; refine (specDifferent_any D _ _ _ ts _ HN.out h8 HT.out (HF.out.ext hr) HD.out).mono ?_; rintro e w6 ⟨rfl, hb6⟩)
        go_ret
        exact ⟨ret_bool hR2.out.symm, hr.trans hb6⟩
      · have hR2 := Lib.hid (show R = false by rw [hR.out, decide_eq_false c, Bool.false_and])
        go_wp2
        go_ret
        exact ⟨ret_bool hR2.out.symm, hr⟩

end Go.Proofs.Ytmppoflgbmabpaa
