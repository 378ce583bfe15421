/- FnLockage: the plain law: rounds of filling and draining by the functions of the contracts. -/
import Derived.Test.YtmppoflgbmabpaaProg
import Derived.Test.YtmppoflgbmabpaaM3
import Derived.Test.YtmppoflgbmabpaaFillN
import Derived.Test.YtmppoflgbmabpaaDrainN
import Derived.Test.YtmppoflgbmabpaaOpenG
import Derived.Test.YtmppoflgbmabpaaDrawLk
namespace Go.Proofs.Ytmppoflgbmabpaa
open Go.RowKit
set_option linter.unusedSimpArgs false
set_option linter.unusedVariables false

theorem fits_distL {x0 x1 : Int} {ts : List Tn} (h : fits x0 x1 ts = true) : distinct ts = true := by
  unfold fits at h
  rw [Bool.and_eq_true] at h
  exact h.1
theorem sum_from : ∀ (xs : List Int) (v : Int), sumFrom v xs = v + sumFrom 0 xs
  | [], v => by unfold sumFrom; simp
  | x :: xs, v => by
    have e : ∀ u, sumFrom u (x :: xs) = sumFrom (u + x) xs := fun u => rfl
    rw [e, e, sum_from xs (v + x), sum_from xs (0 + x)]
    omega
theorem sum_app (xs ys : List Int) (v : Int) : sumFrom v (xs ++ ys) = sumFrom (sumFrom v xs) ys := by unfold sumFrom; rw [List.foldl_append]
/-- A pipe that holds s. -/
def PipeOk (xs : List Int) (s : Int) : Prop := xs.length ≤ 2 ∧ (∀ x ∈ xs, 0 ≤ x) ∧ sumFrom 0 xs = s
theorem PipeOk.nonneg {xs : List Int} {s : Int} (h : PipeOk xs s) : 0 ≤ s := by
  have := sumFrom_ge xs 0 h.2.1
  rw [h.2.2] at this
  exact this
theorem pipe_le : ∀ (xs : List Int), (∀ x ∈ xs, 0 ≤ x) → ∀ x ∈ xs, x ≤ sumFrom 0 xs
  | y :: xs, h, x, hx => by
    have e : sumFrom 0 (y :: xs) = y + sumFrom 0 xs := by
      have : sumFrom 0 (y :: xs) = sumFrom (0 + y) xs := rfl
      rw [this, sum_from]; omega
    have h0 := sumFrom_ge xs 0 (fun z hz => h z (by simp [hz]))
    rcases List.mem_cons.1 hx with rfl | hx
    · omega
    · have := pipe_le xs (fun z hz => h z (by simp [hz])) x hx
      have := h y (by simp)
      omega
theorem PipeOk.reach {xs : List Int} {s v : Int} (h : PipeOk xs s) (h0 : 0 ≤ v) (h1 : v + s ≤ 1000000000) : reachOk tabL v xs = true := by
  have hn := h.nonneg
  obtain ⟨a, b, c⟩ := h
  have hle := pipe_le xs b
  rw [← reachOk_yes tabL_ok (by unfold inR; simp; omega) (by omega), Bool.and_eq_true, List.all_eq_true]
  refine ⟨fun x hx => ?_, ?_⟩
  · have := hle x hx
    have := b x hx
    unfold inR
    simp; omega
  · rw [sum_from, c]; simp; omega
theorem pipe_start {d : Nat} (hd : d ≤ 2) : PipeOk (List.replicate d 0) 0 := by
  refine ⟨by rw [List.length_replicate]; exact hd, fun x hx => by rw [List.eq_of_mem_replicate hx]; exact Int.le_refl _, ?_⟩
  match d, hd with
  | 0, _ => rfl
  | 1, _ => rfl
  | 2, _ => rfl
theorem pipe_send {xs : List Int} {s am : Int} (h : PipeOk xs s) (ha : 0 ≤ am) : PipeOk (sendXs xs am) (if xs.length ≠ 0 then s + am else s) ∧ (sendXs xs am).length = xs.length := by
  refine ⟨?_, sendXs_len xs am⟩
  obtain ⟨a, b, c⟩ := h
  match xs, a with
  | [], _ => exact ⟨(show 0 ≤ 2 by decide), fun x hx => (by cases hx), c⟩
  | [x], _ =>
    have hx := b x (by simp)
    have e : sumFrom 0 [x] = 0 + x := rfl
    have e1 : sendXs [x] am = [x + am] := rfl
    have e2 : sumFrom 0 [x + am] = 0 + (x + am) := rfl
    rw [e1, if_pos (by simp)]
    exact ⟨(show 1 ≤ 2 by decide), fun y hy => by rw [List.mem_singleton.1 hy]; omega, by rw [e2]; omega⟩
  | [x, y], _ =>
    have hx := b x (by simp)
    have hy := b y (by simp)
    have e : sumFrom 0 [x, y] = 0 + x + y := rfl
    have e1 : sendXs [x, y] am = [x, y + am] := rfl
    have e2 : sumFrom 0 [x, y + am] = 0 + x + (y + am) := rfl
    rw [e1, if_pos (by simp)]
    refine ⟨(show 2 ≤ 2 by decide), fun z hz => ?_, by rw [e2]; omega⟩
    rcases List.mem_cons.1 hz with rfl | hz
    · exact hx
    · rw [List.mem_singleton.1 hz]; omega
  | _ :: _ :: _ :: _, h => exact absurd h (by simp)
/-- The lock of the law: its gate is shut, or as it says. -/
structure LkL (x0 x1 x2 x3 B A R : Int) (ts : List Tn) : Prop where
  h0 : 40 ≤ x0 ∧ x0 ≤ 200
  h1 : 8 ≤ x1 ∧ x1 ≤ 20
  h2 : 0 ≤ x2 ∧ x2 ≤ 59
  h3 : 0 ≤ x3 ∧ x3 ≤ 29
  hB : 0 ≤ B ∧ B ≤ 29
  hA : 1 ≤ A ∧ A ≤ 20
  hR : R = 50 ∨ R = 500 ∨ R = 5000
  hd : distinct ts = true
theorem LkL.ok {x0 x1 x2 x3 B A R W g : Int} {ts : List Tn} (h : LkL x0 x1 x2 x3 B A R ts) (hW : 0 ≤ W ∧ W ≤ 8000) (hg : 0 ≤ g ∧ g ≤ 2) : lockOk x0 x1 x2 x3 B A R W g ts = true := by
  obtain ⟨h0, h1, h2, h3, h4, h5, h6, h7⟩ := h
  unfold lockOk
  simp only [Bool.and_eq_true, inR, decide_eq_true_eq]
  refine ⟨?_, h7⟩
  omega
theorem LkL.cham {x0 x1 x2 x3 B A R W g : Int} {ts : List Tn} (h : LkL x0 x1 x2 x3 B A R ts) (hW : 0 ≤ W ∧ W ≤ 8000) (hg : 0 ≤ g ∧ g ≤ 2) : chamber x0 x1 x2 x3 B A R W g ts = B + W / A := by
  unfold chamber
  rw [if_pos (h.ok hW hg), Int.tdiv_eq_ediv_of_nonneg hW.1]
  have hB := h.hB
  have h1 : W / A ≤ 8000 := Int.le_trans (Int.ediv_le_self A hW.1) hW.2
  rw [Int.min_eq_left (by omega)]
/-- A round of the first loop. -/
theorem lock_round {x0 x1 x2 x3 B A R W v s k T : Int} {ts : List Tn} {xs : List Int} (h : LkL x0 x1 x2 x3 B A R ts) (hT : 100000 ≤ T ∧ T ≤ 358000) (hk : 0 ≤ k ∧ k < 200) (hs : Stand A R B T W v s k) (hp : PipeOk xs s) :
    ∃ W1 v1, fillRes x0 x1 x2 x3 B A R W 0 ts tabL v xs = (W1, v1) ∧ (W ≤ W1 ∧ W1 - W ≤ R) ∧
      (¬ lvl v < B + W / A → Stand A R B T W1 v1 s (k + 1)) ∧
      (lvl v < B + W / A → ∃ W2 v2 xs2 s2, drainRes x0 x1 x2 x3 B A R W 0 ts tabL v xs = (W2, v2, xs2) ∧ PipeOk xs2 s2 ∧ xs2.length = xs.length ∧ Stand A R B T W2 v2 s2 (k + 1)) := by
  obtain ⟨b1, b2, b3, b4, b5, b6, b7⟩ := stand_bounds h.hA h.hR h.hB hT ⟨hk.1, by omega⟩ hs
  have hr := hp.reach (v := v) (by omega) (by omega)
  have hl := level_L hr (by omega)
  have hc := h.cham (W := W) (g := 0) ⟨b1, b2⟩ (by omega)
  have hok := h.ok (W := W) (g := 0) ⟨b1, b2⟩ (by omega)
  have hR := h.hR
  unfold fillRes drainRes
  rw [hok, hr, hl, hc, if_pos (show (true && (true && decide ((0 : Int) = 0))) = true by decide), if_pos (show (true && (true && decide ((0 : Int) = 0))) = true by decide)]
  by_cases c1 : lvl v ≤ B + W / A
  · rw [if_pos c1]
    refine ⟨W, v, rfl, by omega, fun c2 => stand_same hk.1 hs (by omega), fun c2 => ?_⟩
    obtain ⟨am, ham⟩ : ∃ am, am = min (min (A * (B + W / A - lvl v)) R) W := ⟨_, rfl⟩
    obtain ⟨g1, g2, g3, g4⟩ := stand_drain (decide (xs.length ≠ 0)) h.hA h.hR h.hB hT hk hs c2 ham
    rw [← ham, if_neg (by omega), sum_from, hp.2.2, if_neg (by omega)]
    obtain ⟨q1, q2⟩ := pipe_send hp g2
    refine ⟨_, _, _, _, rfl, q1, q2, ?_⟩
    have e1 : (if decide (xs.length ≠ 0) = true then v else v + am) = sendVol v xs am := by
      unfold sendVol
      by_cases e : xs.length = 0
      · rw [if_pos e, if_neg (by simp [e])]
      · rw [if_neg e, if_pos (by simpa using e)]
    have e2 : (if decide (xs.length ≠ 0) = true then s + am else s) = (if xs.length ≠ 0 then s + am else s) := by
      by_cases e : xs.length = 0
      · rw [if_neg (by simp [e]), if_neg (by simp [e])]
      · rw [if_pos (by simpa using e), if_pos e]
    rw [e1, e2] at g1
    exact g1
  · rw [if_neg c1]
    obtain ⟨tk, htk⟩ : ∃ tk, tk = min (min (A * (lvl v - (B + W / A))) R) v := ⟨_, rfl⟩
    obtain ⟨g1, g2, g3, g4⟩ := stand_fill h.hA h.hR h.hB hT hk hs (by omega) htk
    rw [← htk, if_neg (by omega)]
    exact ⟨_, _, rfl, by omega, fun _ => g1, fun c => absurd c (by omega)⟩
/-- A round of the second loop. -/
theorem sink_round {x0 x1 x2 x3 B A R W v k T : Int} {ts : List Tn} (h : LkL x0 x1 x2 x3 B A R ts) (hT : T ≤ 98000) (hs : Sink A R B T W v k) :
    ∃ W2 v2, drainRes x0 x1 x2 x3 B A R W 0 ts tabL v [] = (W2, v2, []) ∧ (W2 ≤ W ∧ W - W2 ≤ R) ∧ Sink A R B T W2 v2 (k + 1) := by
  have hs0 := hs
  unfold Sink at hs0
  obtain ⟨b1, b2, b3, b4, b5, _⟩ := hs0
  have hp : PipeOk [] 0 := pipe_start (d := 0) (by decide)
  have hr := hp.reach (v := v) (by omega) (by omega)
  have hl := level_L hr (by omega)
  have hc := h.cham (W := W) (g := 0) ⟨b1, b2⟩ (by omega)
  have hok := h.ok (W := W) (g := 0) ⟨b1, b2⟩ (by omega)
  have hR := h.hR
  unfold drainRes
  rw [hok, hr, hl, hc, if_pos (show (true && (true && decide ((0 : Int) = 0))) = true by decide)]
  by_cases c1 : B + W / A ≤ lvl v
  · rw [if_pos c1]
    exact ⟨W, v, rfl, by omega, sink_same hs (by omega)⟩
  · rw [if_neg c1]
    obtain ⟨am, ham⟩ : ∃ am, am = min (min (A * (B + W / A - lvl v)) R) W := ⟨_, rfl⟩
    obtain ⟨g1, g2, g3, g4⟩ := sink_drain h.hA h.hR h.hB hT hs (by omega) ham
    rw [← ham, sum_from, if_neg (by have : sumFrom 0 [] = 0 := rfl; omega)]
    exact ⟨_, _, rfl, by omega, g1⟩
/-- The upper gate opens behind the first loop. -/
theorem open_above {x0 x1 x2 x3 B A R W v s T vl : Int} {ts : List Tn} {xs : List Int} (h : LkL x0 x1 x2 x3 B A R ts) (hT : 100000 ≤ T ∧ T ≤ 358000) (hs : Stand A R B T W v s 200) (hp : PipeOk xs s) (hv : 0 ≤ vl ∧ vl ≤ 500000) :
    openRes x0 x1 x2 x3 B A R W 0 ts tabL v xs tabL vl [] 1 = (1, true) := by
  obtain ⟨b1, b2, b3, b4, b5, b6, b7⟩ := stand_bounds h.hA h.hR h.hB hT ⟨by omega, by omega⟩ hs
  have hr := hp.reach (v := v) (by omega) (by omega)
  have hr2 := (pipe_start (d := 0) (by decide)).reach (v := vl) (by omega) (by omega)
  have hl := level_L hr (by omega)
  have hc := h.cham (W := W) (g := 0) ⟨b1, b2⟩ (by omega)
  have hok := h.ok (W := W) (g := 0) ⟨b1, b2⟩ (by omega)
  have he := stand_end h.hA.1 hs
  have hr3 : reachOk tabL vl [] = true := hr2
  unfold openRes
  rw [hok, hr, hr3, hl, hc, if_pos (show (true && (true && (true && decide ((0 : Int) = 0)))) = true by decide), if_pos rfl, if_pos (by unfold inR; simp; omega)]
/-- The lower gate behind the second loop. -/
theorem open_below {x0 x1 x2 x3 B A R W v s T T2 Wb vl : Int} {ts : List Tn} {xs : List Int} (h : LkL x0 x1 x2 x3 B A R ts) (hv : 0 ≤ v ∧ v + s ≤ 1000000000) (hp : PipeOk xs s) (hT2 : T2 ≤ 98000) (hk : Sink A R B T2 W vl 200) :
    ∃ g is, openRes x0 x1 x2 x3 B A R W 0 ts tabL v xs tabL vl [] 2 = (g, is) ∧ (is = true → g = 2) ∧ (is = false → B + W / A < lvl vl) := by
  have he := sink_end hk
  unfold Sink at hk
  obtain ⟨b1, b2, b3, b4, b5, _⟩ := hk
  have hr := hp.reach (v := v) hv.1 hv.2
  have hr2 := (pipe_start (d := 0) (by decide)).reach (v := vl) (by omega) (by omega)
  have hr3 : reachOk tabL vl [] = true := hr2
  have hl := level_L hr3 (by omega)
  have hc := h.cham (W := W) (g := 0) ⟨b1, b2⟩ (by omega)
  have hok := h.ok (W := W) (g := 0) ⟨b1, b2⟩ (by omega)
  unfold openRes
  rw [hok, hr, hr3, hl, hc, if_pos (show (true && (true && (true && decide ((0 : Int) = 0)))) = true by decide), if_neg (by decide), if_pos rfl]
  by_cases c : inR (B + W / A) (lvl vl - 1) (lvl vl + 1) = true
  · rw [if_pos c]
    exact ⟨2, true, rfl, fun _ => rfl, fun h => by cases h⟩
  · rw [if_neg c]
    refine ⟨0, false, rfl, (fun h => by cases h), fun _ => ?_⟩
    unfold inR at c
    simp at c
    omega
/-- Where a gate is open nothing is filled. -/
theorem fill_open {x0 x1 x2 x3 B A R W v : Int} {ts : List Tn} {xs : List Int} : fillRes x0 x1 x2 x3 B A R W 1 ts tabL v xs = (W, v) := by
  unfold fillRes
  rw [if_neg]
  simp
end Go.Proofs.Ytmppoflgbmabpaa
