/- ReachOk, LevelOf on both sides. -/
import Derived.Test.YtknpdhafafomaaaProg
import Derived.Test.YtknpdhafafomaaaPlace
namespace Go.Proofs.Ytknpdhafafomaaa
open Go.RowKit
set_option linter.unusedSimpArgs false
set_option linter.unusedVariables false

def pipeGo (s : Int) : List Int → Bool
  | [] => true
  | x :: xs => if x < 0 ∨ 1000000000 - s < x then false else pipeGo (s + x) xs
theorem sumFrom_ge : ∀ (xs : List Int) (s : Int), (∀ x ∈ xs, 0 ≤ x) → s ≤ sumFrom s xs
  | [], s, _ => Int.le_refl _
  | x :: xs, s, h => by
    have h1 := sumFrom_ge xs (s + x) (fun y hy => h y (by simp [hy]))
    have h2 := h x (by simp)
    have e : sumFrom s (x :: xs) = sumFrom (s + x) xs := rfl
    omega
theorem sumFrom_le : ∀ (xs : List Int) (s : Int), (∀ x ∈ xs, 0 ≤ x ∧ x ≤ 1000000000) → sumFrom s xs ≤ s + 1000000000 * (xs.length : Int)
  | [], s, _ => by simp [sumFrom]
  | x :: xs, s, h => by
    have h1 := sumFrom_le xs (s + x) (fun y hy => h y (by simp [hy]))
    have h2 := h x (by simp)
    have e : sumFrom s (x :: xs) = sumFrom (s + x) xs := rfl
    rw [List.length_cons]
    omega
theorem pipeGo_eq : ∀ (xs : List Int) (s : Int), 0 ≤ s → s ≤ 1000000000 → pipeGo s xs = (xs.all (fun x => inR x 0 1000000000) && decide (sumFrom s xs ≤ 1000000000))
  | [], s, h0, h1 => by simp [pipeGo, sumFrom, h1]
  | x :: xs, s, h0, h1 => by
    have e : sumFrom s (x :: xs) = sumFrom (s + x) xs := rfl
    unfold pipeGo
    rw [List.all_cons, e]
    by_cases c : x < 0 ∨ 1000000000 - s < x
    · rw [if_pos c]
      by_cases c1 : inR x 0 1000000000 = true
      · have hx := inR_true c1
        rw [c1, Bool.true_and]
        by_cases c2 : xs.all (fun x => inR x 0 1000000000) = true
        · have hg := sumFrom_ge xs (s + x) (fun y hy => (inR_true (List.all_eq_true.1 c2 y hy)).1)
          rw [decide_eq_false (by omega), Bool.and_false]
        · simp only [Bool.not_eq_true] at c2
          rw [c2, Bool.false_and]
      · simp only [Bool.not_eq_true] at c1
        rw [c1, Bool.false_and, Bool.false_and]
    · rw [if_neg c, pipeGo_eq xs (s + x) (by omega) (by omega)]
      have c1 : inR x 0 1000000000 = true := by simp [inR]; omega
      rw [c1, Bool.true_and]
theorem reachOk_no1 {ps : List Pt} {vol : Int} {xs : List Int} (h : tableOk ps = false) : false = reachOk ps vol xs := by unfold reachOk; rw [h]; rfl
theorem reachOk_no2 {ps : List Pt} {vol : Int} {xs : List Int} (h : inR vol 0 1000000000 = false) : false = reachOk ps vol xs := by unfold reachOk; rw [h]; simp
theorem reachOk_no3 {ps : List Pt} {vol : Int} {xs : List Int} (h : 12 < xs.length) : false = reachOk ps vol xs := by unfold reachOk; rw [decide_eq_false (p := xs.length ≤ 12) (by omega)]; simp
theorem reachOk_yes {ps : List Pt} {vol : Int} {xs : List Int} (h1 : tableOk ps = true) (h2 : inR vol 0 1000000000 = true) (h3 : xs.length ≤ 12) : (xs.all (fun x => inR x 0 1000000000) && decide (sumFrom vol xs ≤ 1000000000)) = reachOk ps vol xs := by
  unfold reachOk
  rw [h1, h2, decide_eq_true h3]
  rfl

set_option maxRecDepth 100000 in
set_option maxHeartbeats 1000000 in
theorem implReachOk_any (ta pa : Option Addr) (tn tc pn pc : Nat) (vol : Int) (ps : List Pt) (xs : List Int) (w : World) (ht : tn = ps.length) (hts : tn ≤ maxLen) (hp : pn = xs.length) (hps : pn ≤ maxLen) (hft : FlatAt w ptCells 2 ta ps) (hfp : IntsAt w pa xs) (hvol : -9223372036854775808 ≤ vol ∧ vol ≤ 9223372036854775807) :
    Calls Try.prog 72 #[.agg #[.slice ta tn tc, .int .i64 vol, .slice pa pn pc]] w fun e w' => e = .returned (.bool (reachOk ps vol xs)) ∧ Ext w w' := by
  have HFT := Lib.hid hft; clear hft
  have HFP := Lib.hid hfp; clear hfp
  have HT := Lib.hid ht; clear ht
  have HTS := Lib.hid hts; clear hts
  have HP := Lib.hid hp; clear hp
  unfold maxLen at hps
  have hB := RowAt.new w 40 #[.slice ta tn tc, .int .i64 vol, .slice pa pn pc]
  have HB := Lib.hid hB; clear hB
  have eA := (Ext.refl w).alloc (.cells #[.slice ta tn tc, .int .i64 vol, .slice pa pn pc] 40)
  have HEA := Lib.hid eA; clear eA
  obtain ⟨b1, hb1⟩ : ∃ b, tableOk ps = b := ⟨_, rfl⟩
  have H1 := Lib.hid hb1; clear hb1
  cases b1
  · go_enter Try.func72, Try.ntmps72
    go_wp2_with (go_at_call 116; with_reducible refine (implTableOk_is _ _ _ _ ps _ HT.out HTS.out (HFT.out.ext HEA.out) H1.out).mono ?_; rintro e w1 ⟨rfl, hx1⟩)
    go_ret
    exact ⟨ret_bool (reachOk_no1 H1.out), HEA.out.trans hx1⟩
  obtain ⟨b2, hb2⟩ : ∃ b, inR vol 0 1000000000 = b := ⟨_, rfl⟩
  have H2 := Lib.hid hb2
  cases b2
  · go_enter Try.func72, Try.ntmps72
    go_wp2_with fail
    refine (implTableOk_is _ _ _ _ ps _ HT.out HTS.out (HFT.out.ext HEA.out) H1.out).mono ?_
    rintro e w1 ⟨rfl, hx1⟩
    have t1 : w1.cell? ⟨w.heap.size, 1, none⟩ = some (.int .i64 vol) := (HB.out.ext hx1).cell rfl
    go_wp2_with ((go_at_call 69; refine (inRange_any _ _ _ _).mono ?_; rintro e w' ⟨rfl, rfl⟩))
    go_ret
    exact ⟨ret_bool (reachOk_no2 H2.out), HEA.out.trans hx1⟩
  have hvb := inR_true hb2
  by_cases h12 : 12 < pn
  · go_enter Try.func72, Try.ntmps72
    go_wp2_with fail
    refine (implTableOk_is _ _ _ _ ps _ HT.out HTS.out (HFT.out.ext HEA.out) H1.out).mono ?_
    rintro e w1 ⟨rfl, hx1⟩
    have t1 : w1.cell? ⟨w.heap.size, 1, none⟩ = some (.int .i64 vol) := (HB.out.ext hx1).cell rfl
    have t2 : w1.cell? ⟨w.heap.size, 2, none⟩ = some (.slice pa pn pc) := (HB.out.ext hx1).cell rfl
    go_wp2_with ((go_at_call 69; refine (inRange_any _ _ _ _).mono ?_; rintro e w' ⟨rfl, rfl⟩))
    go_ret
    exact ⟨ret_bool (reachOk_no3 (by rw [← HP.out]; exact h12)), HEA.out.trans hx1⟩
  · have h12' : pn ≤ 12 := by omega
    have HY := Lib.hid (reachOk_yes (xs := xs) H1.out H2.out (by rw [← HP.out]; exact h12'))
    rw [← pipeGo_eq xs vol hvb.1 hvb.2] at HY
    go_enter Try.func72, Try.ntmps72
    go_wp2_with fail
    refine (implTableOk_is _ _ _ _ ps _ HT.out HTS.out (HFT.out.ext HEA.out) H1.out).mono ?_
    rintro e w1 ⟨rfl, hx1⟩
    have t1 : w1.cell? ⟨w.heap.size, 1, none⟩ = some (.int .i64 vol) := (HB.out.ext hx1).cell rfl
    have t2 : w1.cell? ⟨w.heap.size, 2, none⟩ = some (.slice pa pn pc) := (HB.out.ext hx1).cell rfl
    have HF1 := Lib.hid (HFP.out.ext (HEA.out.trans hx1))
    have HX1 := Lib.hid (HEA.out.trans hx1)
    clear hx1
    go_wp2_with ((go_at_call 69; refine (inRange_any _ _ _ _).mono ?_; rintro e w' ⟨rfl, rfl⟩))
    go_loop [3, 28] (fun l i => ∃ (k : Nat) (s : Int), k ≤ pn ∧ i = .int .i64 k ∧ l = .int .i64 (1000000000 - s) ∧ 0 ≤ s ∧ s ≤ 1000000000 ∧ Hid (pipeGo vol xs = pipeGo s (xs.drop k))) (fun _ i => pn - (intOf i).toNat)
    case atStart => exact ⟨0, vol, Nat.zero_le _, rfl, rfl, hvb.1, hvb.2, rfl⟩
    case round =>
      obtain ⟨k, s, hk, rfl, rfl, hs0, hs1, hgo⟩ := hrel
      by_cases hlt : k < pn
      · have hlt' : k < xs.length := by rw [← HP.out]; exact hlt
        obtain ⟨b, off, rfl, hc⟩ := HF1.out k hlt'
        have HD := Lib.hid (show pipeGo vol xs = pipeGo s (xs[k] :: xs.drop (k + 1)) by rw [hgo.out, List.drop_eq_getElem_cons hlt'])
        obtain ⟨x, hx⟩ : ∃ x, xs[k] = x := ⟨_, rfl⟩
        rw [hx] at hc HD
        clear hx hgo
        rcases (by omega : x < 0 ∨ (0 ≤ x ∧ 1000000000 - s < x) ∨ (0 ≤ x ∧ x ≤ 1000000000 - s)) with c | ⟨c, c2⟩ | ⟨c, c2⟩
        · have hF := Lib.hid (show pipeGo vol xs = false by rw [HD.out, pipeGo, if_pos (.inl c)])
          go_wp2
          go_ret
          exact ⟨ret_bool (by rw [← HY.out, hF.out]), HX1.out⟩
        · have hF := Lib.hid (show pipeGo vol xs = false by rw [HD.out, pipeGo, if_pos (.inr c2)])
          have d1 : decide (x < 0) = false := by simp; omega
          go_wp2
          go_ret
          exact ⟨ret_bool (by rw [← HY.out, hF.out]), HX1.out⟩
        · have hF := Lib.hid (show pipeGo vol xs = pipeGo (s + x) (xs.drop (k + 1)) by rw [HD.out, pipeGo, if_neg (by omega)])
          have d1 : decide (x < 0) = false := by simp; omega
          have d2 : decide (1000000000 - s < x) = false := by simp; omega
          go_wp2
          go_round
          case rel => exact ⟨k + 1, s + x, by omega, by go_num, by go_num, by omega, by omega, hF.out⟩
          case measure => simp [intOf]; omega
      · have hF := Lib.hid (show pipeGo vol xs = true by rw [hgo.out, List.drop_eq_nil_of_le (by rw [← HP.out]; omega)]; rfl)
        go_wp2
        go_ret
        exact ⟨ret_bool (by rw [← HY.out, hF.out]), HX1.out⟩

set_option maxHeartbeats 1000000 in
theorem sumOf_any (ta pa : Option Addr) (tn tc pn pc : Nat) (vol S : Int) (xs : List Int) (w : World) (hp : pn = xs.length) (hps : pn ≤ 12) (hfp : IntsAt w pa xs) (hvol : 0 ≤ vol ∧ vol ≤ 1000000000) (hxs : ∀ x ∈ xs, 0 ≤ x ∧ x ≤ 1000000000) (hS : sumFrom vol xs = S) :
    Calls Try.prog 119 #[.agg #[.slice ta tn tc, .int .i64 vol, .slice pa pn pc]] w fun e w' => e = .returned (.int .i64 S) ∧ Ext w w' := by
  have HFP := Lib.hid (hfp.ext ((Ext.refl w).alloc (.cells #[.slice ta tn tc, .int .i64 vol, .slice pa pn pc] 40))); clear hfp
  have HP := Lib.hid hp; clear hp
  have HXS := Lib.hid hxs; clear hxs
  have HS := Lib.hid hS; clear hS
  go_enter Try.func119, Try.ntmps119
  go_wp2
  go_loop [3, 4] (fun l i => ∃ (k : Nat) (s : Int), k ≤ pn ∧ i = .int .i64 k ∧ l = .int .i64 s ∧ 0 ≤ s ∧ s ≤ 1000000000 * ((k : Int) + 1) ∧ Hid (S = sumFrom s (xs.drop k))) (fun _ i => pn - (intOf i).toNat)
  case atStart => exact ⟨0, vol, Nat.zero_le _, rfl, rfl, hvol.1, by omega, HS.out.symm⟩
  case round =>
    obtain ⟨k, s, hk, rfl, rfl, hs0, hs1, hgo⟩ := hrel
    by_cases hlt : k < pn
    · have hlt' : k < xs.length := by rw [← HP.out]; exact hlt
      obtain ⟨b, off, rfl, hc⟩ := HFP.out k hlt'
      have HD := Lib.hid (show S = sumFrom s (xs[k] :: xs.drop (k + 1)) by rw [hgo.out, List.drop_eq_getElem_cons hlt'])
      have hxb := HXS.out xs[k] (List.getElem_mem _)
      obtain ⟨x, hx⟩ : ∃ x, xs[k] = x := ⟨_, rfl⟩
      rw [hx] at hc HD hxb
      clear hx hgo
      go_wp2
      go_round
      case rel => exact ⟨k + 1, s + x, by omega, by go_num, rfl, by omega, by omega, HD.out⟩
      case measure => simp [intOf]; omega
    · have hF := Lib.hid (show S = s by rw [hgo.out, List.drop_eq_nil_of_le (by rw [← HP.out]; omega)]; rfl)
      go_wp2
      go_ret
      exact ⟨ret_int hF.out.symm, by (repeat' (first | (with_reducible exact Ext.refl _) | (with_reducible assumption) | (with_reducible refine Ext.alloc ?_ _) | (with_reducible refine Ext.drewN ?_ _) | (with_reducible refine Ext.drew ?_) | (with_reducible refine Ext.setCell ?_ ?_ _) | (with_reducible exact Nat.le_refl _) | (with_reducible exact Nat.le_succ _) | (with_reducible refine Ext.trans ?_ (by assumption)) | (simp; done) | (simp; omega)))⟩

set_option maxRecDepth 100000 in
set_option maxHeartbeats 1000000 in
theorem specReachOk_any (ta pa : Option Addr) (tn tc pn pc : Nat) (vol : Int) (ps : List Pt) (xs : List Int) (w : World) (ht : tn = ps.length) (hts : tn ≤ maxLen) (hp : pn = xs.length) (hps : pn ≤ maxLen) (hft : FlatAt w ptCells 2 ta ps) (hfp : IntsAt w pa xs) (hvol : -9223372036854775808 ≤ vol ∧ vol ≤ 9223372036854775807) :
    Calls Try.prog 81 #[.agg #[.slice ta tn tc, .int .i64 vol, .slice pa pn pc]] w fun e w' => e = .returned (.bool (reachOk ps vol xs)) ∧ Ext w w' := by
  have HFT := Lib.hid hft; clear hft
  have HFP := Lib.hid hfp; clear hfp
  have HT := Lib.hid ht; clear ht
  have HTS := Lib.hid hts; clear hts
  have HP := Lib.hid hp; clear hp
  unfold maxLen at hps
  have hB := RowAt.new w 40 #[.slice ta tn tc, .int .i64 vol, .slice pa pn pc]
  have HB := Lib.hid hB; clear hB
  have eA := (Ext.refl w).alloc (.cells #[.slice ta tn tc, .int .i64 vol, .slice pa pn pc] 40)
  have HEA := Lib.hid eA; clear eA
  obtain ⟨b1, hb1⟩ : ∃ b, tableOk ps = b := ⟨_, rfl⟩
  have H1 := Lib.hid hb1; clear hb1
  cases b1
  · go_enter Try.func81, Try.ntmps81
    go_wp2_with (go_at_call 118; with_reducible refine (specTableOk_is _ _ _ _ ps _ HT.out HTS.out (HFT.out.ext HEA.out) H1.out).mono ?_; rintro e w1 ⟨rfl, hx1⟩)
    go_ret
    exact ⟨ret_bool (reachOk_no1 H1.out), HEA.out.trans hx1⟩
  obtain ⟨b2, hb2⟩ : ∃ b, inR vol 0 1000000000 = b := ⟨_, rfl⟩
  have H2 := Lib.hid hb2
  cases b2
  · go_enter Try.func81, Try.ntmps81
    go_wp2_with fail
    refine (specTableOk_is _ _ _ _ ps _ HT.out HTS.out (HFT.out.ext HEA.out) H1.out).mono ?_
    rintro e w1 ⟨rfl, hx1⟩
    have t1 : w1.cell? ⟨w.heap.size, 1, none⟩ = some (.int .i64 vol) := (HB.out.ext hx1).cell rfl
    go_wp2_with ((go_at_call 79; refine (l01In_any _ _ _ _).mono ?_; rintro e w' ⟨rfl, rfl⟩))
    go_ret
    exact ⟨ret_bool (reachOk_no2 H2.out), HEA.out.trans hx1⟩
  have hvb := inR_true hb2
  by_cases h12 : 12 < pn
  · go_enter Try.func81, Try.ntmps81
    go_wp2_with fail
    refine (specTableOk_is _ _ _ _ ps _ HT.out HTS.out (HFT.out.ext HEA.out) H1.out).mono ?_
    rintro e w1 ⟨rfl, hx1⟩
    have t1 : w1.cell? ⟨w.heap.size, 1, none⟩ = some (.int .i64 vol) := (HB.out.ext hx1).cell rfl
    have t2 : w1.cell? ⟨w.heap.size, 2, none⟩ = some (.slice pa pn pc) := (HB.out.ext hx1).cell rfl
    go_wp2_with ((go_at_call 79; refine (l01In_any _ _ _ _).mono ?_; rintro e w' ⟨rfl, rfl⟩))
    go_ret
    exact ⟨ret_bool (reachOk_no3 (by rw [← HP.out]; exact h12)), HEA.out.trans hx1⟩
  · have h12' : pn ≤ 12 := by omega
    have HY := Lib.hid (reachOk_yes (xs := xs) H1.out H2.out (by rw [← HP.out]; exact h12'))
    go_enter Try.func81, Try.ntmps81
    go_wp2_with fail
    refine (specTableOk_is _ _ _ _ ps _ HT.out HTS.out (HFT.out.ext HEA.out) H1.out).mono ?_
    rintro e w1 ⟨rfl, hx1⟩
    have t0 : w1.cell? ⟨w.heap.size, 0, none⟩ = some (.slice ta tn tc) := (HB.out.ext hx1).cell rfl
    have t1 : w1.cell? ⟨w.heap.size, 1, none⟩ = some (.int .i64 vol) := (HB.out.ext hx1).cell rfl
    have t2 : w1.cell? ⟨w.heap.size, 2, none⟩ = some (.slice pa pn pc) := (HB.out.ext hx1).cell rfl
    have HF1 := Lib.hid (HFP.out.ext (HEA.out.trans hx1))
    have HX1 := Lib.hid (HEA.out.trans hx1)
    clear hx1
    go_wp2_with ((go_at_call 79; refine (l01In_any _ _ _ _).mono ?_; rintro e w' ⟨rfl, rfl⟩))
    go_loop [3] (fun i => ∃ (k : Nat), k ≤ pn ∧ i = .int .i64 k ∧ Hid (xs.all (fun x => inR x 0 1000000000) = (xs.drop k).all (fun x => inR x 0 1000000000))) (fun i => pn - (intOf i).toNat)
    case atStart => exact ⟨0, Nat.zero_le _, rfl, rfl⟩
    case round =>
      obtain ⟨k, hk, rfl, hgo⟩ := hrel
      by_cases hlt : k < pn
      · have hlt' : k < xs.length := by rw [← HP.out]; exact hlt
        obtain ⟨b, off, rfl, hc⟩ := HF1.out k hlt'
        have HD := Lib.hid (show xs.all (fun x => inR x 0 1000000000) = (inR xs[k] 0 1000000000 && (xs.drop (k + 1)).all (fun x => inR x 0 1000000000)) by rw [hgo.out, List.drop_eq_getElem_cons hlt', List.all_cons])
        obtain ⟨x, hx⟩ : ∃ x, xs[k] = x := ⟨_, rfl⟩
        rw [hx] at hc HD
        clear hx hgo
        obtain ⟨b3, hb3⟩ : ∃ b, inR x 0 1000000000 = b := ⟨_, rfl⟩
        rw [hb3] at HD
        cases b3
        · go_wp2_with ((go_at_call 79; refine (l01In_any _ _ _ _).mono ?_; rintro e w' ⟨rfl, rfl⟩))
          go_ret
          exact ⟨ret_bool (by rw [← HY.out, HD.out]; rfl), HX1.out⟩
        · go_wp2_with ((go_at_call 79; refine (l01In_any _ _ _ _).mono ?_; rintro e w' ⟨rfl, rfl⟩))
          go_round
          case rel => exact ⟨k + 1, by omega, by go_num, by (show _ = _); rw [HD.out, Bool.true_and]⟩
          case measure => simp [intOf]; omega
      · have hF := Lib.hid (show xs.all (fun x => inR x 0 1000000000) = true by rw [hgo.out, List.drop_eq_nil_of_le (by rw [← HP.out]; omega)]; rfl)
        have HXS := Lib.hid (show ∀ x ∈ xs, 0 ≤ x ∧ x ≤ 1000000000 from fun x hx => inR_true (List.all_eq_true.1 hF.out x hx))
        have hsl := sumFrom_le xs vol HXS.out
        rw [← HP.out] at hsl
        have hsg := sumFrom_ge xs vol (fun x hx => (HXS.out x hx).1)
        obtain ⟨S, hS⟩ : ∃ S, sumFrom vol xs = S := ⟨_, rfl⟩
        rw [hS] at hsl hsg
        have HSS := Lib.hid hS
        clear hS
        go_wp2_with (go_at_call 119; refine (sumOf_any _ _ _ _ _ _ _ S xs _ HP.out h12' HF1.out hvb HXS.out HSS.out).mono ?_; rintro e w2 ⟨rfl, hx2⟩)
        go_ret
        exact ⟨ret_bool (by rw [← HY.out, hF.out, HSS.out, Bool.true_and]), HX1.out.trans hx2⟩

theorem implReachOk_is (R : Bool) (ta pa : Option Addr) (tn tc pn pc : Nat) (vol : Int) (ps : List Pt) (xs : List Int) (w : World) (ht : tn = ps.length) (hts : tn ≤ maxLen) (hp : pn = xs.length) (hps : pn ≤ maxLen) (hft : FlatAt w ptCells 2 ta ps) (hfp : IntsAt w pa xs) (hvol : -9223372036854775808 ≤ vol ∧ vol ≤ 9223372036854775807) (hR : reachOk ps vol xs = R) :
    Calls Try.prog 72 #[.agg #[.slice ta tn tc, .int .i64 vol, .slice pa pn pc]] w fun e w' => e = .returned (.bool R) ∧ Ext w w' := by
  subst hR
  exact implReachOk_any ta pa tn tc pn pc vol ps xs w ht hts hp hps hft hfp hvol
theorem specReachOk_is (R : Bool) (ta pa : Option Addr) (tn tc pn pc : Nat) (vol : Int) (ps : List Pt) (xs : List Int) (w : World) (ht : tn = ps.length) (hts : tn ≤ maxLen) (hp : pn = xs.length) (hps : pn ≤ maxLen) (hft : FlatAt w ptCells 2 ta ps) (hfp : IntsAt w pa xs) (hvol : -9223372036854775808 ≤ vol ∧ vol ≤ 9223372036854775807) (hR : reachOk ps vol xs = R) :
    Calls Try.prog 81 #[.agg #[.slice ta tn tc, .int .i64 vol, .slice pa pn pc]] w fun e w' => e = .returned (.bool R) ∧ Ext w w' := by
  subst hR
  exact specReachOk_any ta pa tn tc pn pc vol ps xs w ht hts hp hps hft hfp hvol
theorem level_no {ps : List Pt} {vol : Int} {xs : List Int} (h : reachOk ps vol xs = false) : (0 : Int) = levelOf ps vol xs := IsLevel.eq (by unfold IsLevel; rw [if_neg (by rw [h]; decide)])
theorem level_last {ps : List Pt} {vol : Int} {xs : List Int} (h : reachOk ps vol xs = true) (h0 : 0 < ps.length) (h1 : (ps[ps.length - 1]).2 < vol) : (ps[ps.length - 1]).1 = levelOf ps vol xs :=
  IsLevel.eq (by unfold IsLevel; rw [if_pos h]; exact ⟨h0, by rw [if_pos h1]⟩)
theorem level_at {ps : List Pt} {vol z : Int} {xs : List Int} (h : reachOk ps vol xs = true) (h0 : 0 < ps.length) (h1 : ¬ (ps[ps.length - 1]).2 < vol) (hz : IsPlace ps vol z) : z = levelOf ps vol xs :=
  IsLevel.eq (by unfold IsLevel; rw [if_pos h]; exact ⟨h0, by rw [if_neg h1]; exact hz⟩)
theorem placed_cases {ps : List Pt} {y : Int} {e : Ending} (h : Placed ps y e) (ht : tableOk ps = true) (h0 : 0 < ps.length) : (ps[ps.length - 1].2 < y ∧ e = .returned (.tuple #[.int .i64 0, .bool false])) ∨ (¬ ps[ps.length - 1].2 < y ∧ ∃ z, IsPlace ps y z ∧ e = .returned (.tuple #[.int .i64 z, .bool true])) := by
  unfold Placed at h
  rw [getD_last h0] at h
  by_cases c : y ≤ ps[ps.length - 1].2
  · rw [dif_pos ⟨ht, h0, c⟩] at h
    exact .inr ⟨by omega, h⟩
  · rw [dif_neg (fun h => c h.2.2)] at h
    exact .inl ⟨by omega, h⟩

set_option maxRecDepth 100000 in
set_option maxHeartbeats 2000000 in
theorem implLevelOf_any (ta pa : Option Addr) (tn tc pn pc : Nat) (vol : Int) (ps : List Pt) (xs : List Int) (w : World) (ht : tn = ps.length) (hts : tn ≤ maxLen) (hp : pn = xs.length) (hps : pn ≤ maxLen) (hft : FlatAt w ptCells 2 ta ps) (hfp : IntsAt w pa xs) (hvol : -9223372036854775808 ≤ vol ∧ vol ≤ 9223372036854775807) :
    Calls Try.prog 22 #[.agg #[.slice ta tn tc, .int .i64 vol, .slice pa pn pc]] w fun e w' => e = .returned (.int .i64 (levelOf ps vol xs)) ∧ Ext w w' := by
  have HFT := Lib.hid hft; clear hft
  have HFP := Lib.hid hfp; clear hfp
  have HT := Lib.hid ht
  have HTS := Lib.hid hts
  have HP := Lib.hid hp; clear hp
  have HPS := Lib.hid hps; clear hps
  unfold maxLen at hts
  have hB := RowAt.new w 40 #[.slice ta tn tc, .int .i64 vol, .slice pa pn pc]
  have HB := Lib.hid hB; clear hB
  have eA := (Ext.refl w).alloc (.cells #[.slice ta tn tc, .int .i64 vol, .slice pa pn pc] 40)
  have HEA := Lib.hid eA; clear eA
  obtain ⟨b1, hb1⟩ : ∃ b, reachOk ps vol xs = b := ⟨_, rfl⟩
  have H1 := Lib.hid hb1
  cases b1
  · clear hb1 ht
    go_enter Try.func22, Try.ntmps22
    go_wp2_with (go_at_call 72; refine (implReachOk_is _ _ _ _ _ _ _ _ ps xs _ HT.out HTS.out HP.out HPS.out (HFT.out.ext HEA.out) (HFP.out.ext HEA.out) hvol H1.out).mono ?_; rintro e w1 ⟨rfl, hx1⟩)
    go_ret
    exact ⟨ret_int (level_no H1.out), HEA.out.trans hx1⟩
  · obtain ⟨htab, hl2, hl20⟩ := tab_of (reachOk_parts hb1).1
    have hlen0 : 0 < ps.length := by omega
    have hlenl : ps.length - 1 < ps.length := by omega
    have HL0 := Lib.hid hlen0
    have HTOK := Lib.hid (reachOk_parts hb1).1
    rw [← ht] at hl2 hl20
    obtain ⟨m, rfl⟩ : ∃ m, tn = m + 1 := ⟨tn - 1, by omega⟩
    obtain ⟨b, off, rfl, hcl⟩ := HFT.out.get (ps.length - 1) hlenl
    have hlb := htab.get (ps.length - 1) hlenl
    have HLV := Lib.hid (fun h1 => level_last hb1 hlen0 h1)
    have HLA := Lib.hid (fun (z : Int) h1 hz => level_at (z := z) hb1 hlen0 h1 hz)
    obtain ⟨l1, l2, hll⟩ : ∃ l1 l2, ps[ps.length - 1]'hlenl = (l1, l2) := ⟨_, _, rfl⟩
    rw [hll] at hcl hlb HLV HLA
    have HLL := Lib.hid hll
    rw [show ps.length - 1 = m by omega] at hcl
    have e2 : ∀ w', Ext w w' → w'.cell? ⟨b, off + m * 2, none⟩ = some (.int .i64 l1) := hcl 0 _ rfl
    clear hb1 ht hcl hll htab
    dsimp only at hlb
    go_enter Try.func22, Try.ntmps22
    go_wp2_with fail
    refine (implReachOk_is _ _ _ _ _ _ _ _ ps xs _ HT.out HTS.out HP.out HPS.out (HFT.out.ext HEA.out) (HFP.out.ext HEA.out) hvol H1.out).mono ?_
    rintro e w1 ⟨rfl, hx1⟩
    have t0 : w1.cell? ⟨w.heap.size, 0, none⟩ = some (.slice (some ⟨b, off, none⟩) (m + 1) tc) := (HB.out.ext hx1).cell rfl
    have t1 : w1.cell? ⟨w.heap.size, 1, none⟩ = some (.int .i64 vol) := (HB.out.ext hx1).cell rfl
    have HX1 := Lib.hid hx1
    clear hx1
    go_wp2_with fail
    refine (implPlaceOf_any _ _ _ ps vol _ HT.out HTS.out (HFT.out.ext (HEA.out.trans HX1.out))).mono ?_
    rintro e w2 ⟨hpl, hx2⟩
    rcases placed_cases hpl HTOK.out HL0.out with ⟨c, rfl⟩ | ⟨c, z, hz, rfl⟩
    · have t2 : w2.cell? ⟨w.heap.size, 0, none⟩ = some (.slice (some ⟨b, off, none⟩) (m + 1) tc) := (HB.out.ext (HX1.out.trans hx2)).cell rfl
      have y2 := e2 _ (HEA.out.trans (HX1.out.trans hx2))
      rw [HLL.out] at c
      go_wp2
      go_ret
      exact ⟨ret_int (HLV.out c), HEA.out.trans (HX1.out.trans hx2)⟩
    · rw [HLL.out] at c
      go_wp2
      go_ret
      exact ⟨ret_int (HLA.out z c hz), HEA.out.trans (HX1.out.trans hx2)⟩

set_option maxRecDepth 100000 in
set_option maxHeartbeats 2000000 in
theorem specLevelOf_any (ta pa : Option Addr) (tn tc pn pc : Nat) (vol : Int) (ps : List Pt) (xs : List Int) (w : World) (ht : tn = ps.length) (hts : tn ≤ maxLen) (hp : pn = xs.length) (hps : pn ≤ maxLen) (hft : FlatAt w ptCells 2 ta ps) (hfp : IntsAt w pa xs) (hvol : -9223372036854775808 ≤ vol ∧ vol ≤ 9223372036854775807) :
    Calls Try.prog 95 #[.agg #[.slice ta tn tc, .int .i64 vol, .slice pa pn pc]] w fun e w' => e = .returned (.int .i64 (levelOf ps vol xs)) ∧ Ext w w' := by
  have HFT := Lib.hid hft; clear hft
  have HFP := Lib.hid hfp; clear hfp
  have HT := Lib.hid ht
  have HTS := Lib.hid hts
  have HP := Lib.hid hp; clear hp
  have HPS := Lib.hid hps; clear hps
  unfold maxLen at hts
  have hB := RowAt.new w 40 #[.slice ta tn tc, .int .i64 vol, .slice pa pn pc]
  have HB := Lib.hid hB; clear hB
  have eA := (Ext.refl w).alloc (.cells #[.slice ta tn tc, .int .i64 vol, .slice pa pn pc] 40)
  have HEA := Lib.hid eA; clear eA
  obtain ⟨b1, hb1⟩ : ∃ b, reachOk ps vol xs = b := ⟨_, rfl⟩
  have H1 := Lib.hid hb1
  cases b1
  · clear hb1 ht
    go_enter Try.func95, Try.ntmps95
    go_wp2_with (go_at_call 81; refine (specReachOk_is _ _ _ _ _ _ _ _ ps xs _ HT.out HTS.out HP.out HPS.out (HFT.out.ext HEA.out) (HFP.out.ext HEA.out) hvol H1.out).mono ?_; rintro e w1 ⟨rfl, hx1⟩)
    go_ret
    exact ⟨ret_int (level_no H1.out), HEA.out.trans hx1⟩
  · obtain ⟨htab, hl2, hl20⟩ := tab_of (reachOk_parts hb1).1
    have hlen0 : 0 < ps.length := by omega
    have hlenl : ps.length - 1 < ps.length := by omega
    have HL0 := Lib.hid hlen0
    have HTOK := Lib.hid (reachOk_parts hb1).1
    rw [← ht] at hl2 hl20
    obtain ⟨m, rfl⟩ : ∃ m, tn = m + 1 := ⟨tn - 1, by omega⟩
    obtain ⟨b, off, rfl, hcl⟩ := HFT.out.get (ps.length - 1) hlenl
    have hlb := htab.get (ps.length - 1) hlenl
    have HLV := Lib.hid (fun h1 => level_last hb1 hlen0 h1)
    have HLA := Lib.hid (fun (z : Int) h1 hz => level_at (z := z) hb1 hlen0 h1 hz)
    obtain ⟨l1, l2, hll⟩ : ∃ l1 l2, ps[ps.length - 1]'hlenl = (l1, l2) := ⟨_, _, rfl⟩
    rw [hll] at hcl hlb HLV HLA
    have HLL := Lib.hid hll
    rw [show ps.length - 1 = m by omega] at hcl
    have e2 : ∀ w', Ext w w' → w'.cell? ⟨b, off + m * 2, none⟩ = some (.int .i64 l1) := hcl 0 _ rfl
    clear hb1 ht hcl hll htab
    dsimp only at hlb
    go_enter Try.func95, Try.ntmps95
    go_wp2_with fail
    refine (specReachOk_is _ _ _ _ _ _ _ _ ps xs _ HT.out HTS.out HP.out HPS.out (HFT.out.ext HEA.out) (HFP.out.ext HEA.out) hvol H1.out).mono ?_
    rintro e w1 ⟨rfl, hx1⟩
    have t0 : w1.cell? ⟨w.heap.size, 0, none⟩ = some (.slice (some ⟨b, off, none⟩) (m + 1) tc) := (HB.out.ext hx1).cell rfl
    have t1 : w1.cell? ⟨w.heap.size, 1, none⟩ = some (.int .i64 vol) := (HB.out.ext hx1).cell rfl
    have HX1 := Lib.hid hx1
    clear hx1
    go_wp2_with fail
    refine (specPlaceOf_any _ _ _ ps vol _ HT.out HTS.out (HFT.out.ext (HEA.out.trans HX1.out))).mono ?_
    rintro e w2 ⟨hpl, hx2⟩
    rcases placed_cases hpl HTOK.out HL0.out with ⟨c, rfl⟩ | ⟨c, z, hz, rfl⟩
    · have t2 : w2.cell? ⟨w.heap.size, 0, none⟩ = some (.slice (some ⟨b, off, none⟩) (m + 1) tc) := (HB.out.ext (HX1.out.trans hx2)).cell rfl
      have y2 := e2 _ (HEA.out.trans (HX1.out.trans hx2))
      rw [HLL.out] at c
      go_wp2
      go_ret
      exact ⟨ret_int (HLV.out c), HEA.out.trans (HX1.out.trans hx2)⟩
    · rw [HLL.out] at c
      go_wp2
      go_ret
      exact ⟨ret_int (HLA.out z c hz), HEA.out.trans (HX1.out.trans hx2)⟩

end Go.Proofs.Ytknpdhafafomaaa
