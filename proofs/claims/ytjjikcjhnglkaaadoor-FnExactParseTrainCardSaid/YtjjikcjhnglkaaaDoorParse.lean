/- ParseUint, parseBoat of the program: what they read. -/
import Derived.Test.YtjjikcjhnglkaaaDoorProg
import Derived.Test.YtjjikcjhnglkaaaDoorFormat
namespace Go.Proofs.YtjjikcjhnglkaaaDoor
open Go.RowKit
set_option linter.unusedSimpArgs false
set_option linter.unusedVariables false

theorem readU_none_fig {s : List UInt8} {i : Nat} (h : i < s.length) (hf : isFig s[i] = false) : readU s = none := by
  unfold readU
  rw [if_neg]
  rintro ⟨_, _, _, ha, _⟩
  have := List.all_eq_true.1 ha s[i] (List.getElem_mem _)
  rw [hf] at this
  cases this
theorem readU_yes {s : List UInt8} (h0 : s.length ≠ 0) (h1 : s.length ≤ 10) (h2 : ¬ (s.head? = some 48 ∧ 1 < s.length)) (h3 : s.all isFig = true) : readU s = if numGo 0 s ≤ 1000000000 then some (numGo 0 s) else none := by
  unfold readU
  by_cases h : numGo 0 s ≤ 1000000000
  · rw [if_pos ⟨h0, h1, h2, h3, h⟩, if_pos h]
  · rw [if_neg (fun hh => h hh.2.2.2.2), if_neg h]
theorem numGo_take {s : List UInt8} {i : Nat} (h : i < s.length) : numGo 0 (s.take (i + 1)) = 10 * numGo 0 (s.take i) + figVal s[i] := by
  rw [List.take_succ_eq_append_getElem h, numGo_app]
  rfl
theorem S_get (s : List UInt8) (i : Nat) (h : i < (S s).size) (h' : i < s.length) : (S s)[i] = s[i] := rfl

set_option maxRecDepth 100000 in
set_option maxHeartbeats 4000000 in
theorem implParseUint_any (s : List UInt8) (w : World) :
    Calls Tryd.prog 48 #[.string (S s)] w fun e w' => e = .returned (.tuple #[.int .i64 (looseU s), .bool (readU s).isSome]) ∧ w' = w := by
  obtain ⟨m, hm⟩ : ∃ m, s.length = m := ⟨_, rfl⟩
  obtain ⟨t, ht⟩ : ∃ t, S s = t := ⟨_, rfl⟩
  have hsz : t.size = m := by rw [← ht, S_size, hm]
  have HG2 := Lib.hid (show ∀ (i : Nat) (h : i < t.size) (h' : i < s.length), (t[i].toNat : Int) = (s[i].toNat : Int) from by subst ht; exact fun i h h' => rfl)
  rw [ht]
  clear ht
  by_cases h0 : m = 0
  · have hR : readU s = none := by unfold readU; rw [if_neg]; omega
    have hL : looseU s = 0 := by unfold looseU; rw [hR]
    rw [hR, hL]
    clear hR hL HG2
    subst h0
    go_enter Tryd.func48, Tryd.ntmps48
    go_wp2
    go_ret2
    exact ⟨rfl, rfl⟩
  by_cases h10 : 10 < m
  · have hR : readU s = none := by unfold readU; rw [if_neg]; omega
    have hL : looseU s = 0 := by unfold looseU; rw [hR]
    rw [hR, hL]
    clear hR hL HG2
    have e0 : ((m : Int) == 0) = false := by simp; omega
    have e1 : decide ((10 : Int) < m) = true := by simp; omega
    go_enter Tryd.func48, Tryd.ntmps48
    go_wp2
    go_ret2
    exact ⟨rfl, rfl⟩
  have e0 : ((m : Int) == 0) = false := by simp; omega
  have e1 : decide ((10 : Int) < m) = false := by simp; omega
  obtain ⟨v0, hv0⟩ : ∃ v : Nat, (s[0]'(by omega)).toNat = v := ⟨_, rfl⟩
  have hb0 : ∀ h : 0 < t.size, (t[0].toNat : Int) = (v0 : Int) := fun h => (HG2.out 0 h (by omega)).trans (by rw [hv0])
  have hhead : s.head? = some (s[0]'(by omega)) := by
    cases s with
    | nil => simp at hm; omega
    | cons b r => rfl
  have h48 : s.head? = some 48 ↔ v0 = 48 := by
    rw [hhead, ← hv0]
    constructor
    · intro h; rw [Option.some.inj h]; rfl
    · intro h; exact congrArg some (UInt8.toNat_inj.1 h)
  have HH := Lib.hid h48
  clear hhead h48
  by_cases hA : v0 = 48 ∧ 1 < m
  · have hR : readU s = none := by unfold readU; rw [if_neg]; rintro ⟨_, _, h, _⟩; exact h ⟨HH.out.2 hA.1, by omega⟩
    have hL : looseU s = 0 := by unfold looseU; rw [hR]
    rw [hR, hL]
    clear hR hL HG2 HH hv0
    obtain ⟨rfl, h1m⟩ := hA
    have e2 : decide ((1 : Int) < m) = true := by simp; omega
    have hlt : 0 < t.size := by omega
    go_enter Tryd.func48, Tryd.ntmps48
    go_wp2
    go_ret2
    exact ⟨rfl, rfl⟩
  have HA := Lib.hid (show ¬ (s.head? = some 48 ∧ 1 < s.length) from fun h => hA ⟨HH.out.1 h.1, by omega⟩)
  have hcase : ((v0 : Int) == 48) = false ∨ (((v0 : Int) == 48) = true ∧ decide ((1 : Int) < m) = false) := by
    by_cases h : v0 = 48
    · exact .inr ⟨by rw [h]; rfl, by simp; omega⟩
    · exact .inl (by simp; omega)
  have HM := Lib.hid hm
  clear HH hv0 hA hm
  have hlt0 : 0 < t.size := by omega
  obtain ⟨L, hL⟩ : ∃ L, looseU s = L := ⟨_, rfl⟩
  obtain ⟨O, hO⟩ : ∃ O, readU s = O := ⟨_, rfl⟩
  rw [hL, hO]
  have HL := Lib.hid hL; have HO := Lib.hid hO; clear hL hO
  rcases hcase with hc | ⟨hc, hc2⟩
  all_goals
    go_enter Tryd.func48, Tryd.ntmps48
    go_wp2
    clear hb0
    go_loopw [4, 5] (fun nn i wr => ∃ (k q : Nat), i = .int .i64 k ∧ nn = .int .i64 q ∧ k ≤ m ∧ q ≤ 10000000000 ∧ wr = w ∧ Hid (q = numGo 0 (s.take k)) ∧ Hid (q + 1 ≤ 10 ^ k) ∧ Hid ((s.take k).all isFig = true)) (fun _ i _ => m - (intOf i).toNat)
    case atStart => exact ⟨0, 0, rfl, rfl, Nat.zero_le _, by omega, rfl, Lib.hid rfl, Lib.hid (by decide), Lib.hid rfl⟩
    case round =>
      obtain ⟨k, q, rfl, rfl, hk, hq, rfl, hqe, hqp, hal⟩ := hrel
      by_cases hlt : k < m
      · have hks : k < s.length := by rw [HM.out]; exact hlt
        obtain ⟨v, hv⟩ : ∃ v : Nat, s[k].toNat = v := ⟨_, rfl⟩
        have hbk : ∀ h : k < t.size, (t[k].toNat : Int) = (v : Int) := fun h => (HG2.out k h hks).trans (by rw [hv])
        have hv255 : v ≤ 255 := by rw [← hv]; have := (s[k]).toNat_lt; omega
        have hltz : (k : Int) < (m : Int) := by omega
        have hkt : k < t.size := by omega
        by_cases c1 : v < 48
        · have hN := readU_none_fig hks (by unfold isFig; rw [decide_eq_false_iff_not]; omega)
          have hO0 : O = none := by rw [← HO.out]; exact hN
          have hL0 : L = 0 := by rw [← HL.out]; unfold looseU; rw [hN]
          subst hO0 hL0
          have c1z : decide ((v : Int) < 48) = true := by simp; omega
          clear hv hN
          go_wp2
          go_ret2
          exact ⟨rfl, rfl⟩
        by_cases c2 : 57 < v
        · have hN := readU_none_fig hks (by unfold isFig; rw [decide_eq_false_iff_not]; omega)
          have hO0 : O = none := by rw [← HO.out]; exact hN
          have hL0 : L = 0 := by rw [← HL.out]; unfold looseU; rw [hN]
          subst hO0 hL0
          have c1z : decide ((v : Int) < 48) = false := by simp; omega
          have c2z : decide ((57 : Int) < v) = true := by simp; omega
          clear hv hN
          go_wp2
          go_ret2
          exact ⟨rfl, rfl⟩
        have hfig : isFig s[k] = true := by unfold isFig; rw [decide_eq_true_eq]; omega
        obtain ⟨q', hq'⟩ : ∃ q', 10 * q + (v - 48) = q' := ⟨_, rfl⟩
        have HQ := Lib.hid (show q' = numGo 0 (s.take (k + 1)) by rw [numGo_take hks, ← hqe.out, ← hq', figVal_eq, hv])
        have HP := Lib.hid (show q' + 1 ≤ 10 ^ (k + 1) by rw [Nat.pow_succ]; have := hqp.out; omega)
        have HAL := Lib.hid (show (s.take (k + 1)).all isFig = true by rw [List.take_succ_eq_append_getElem hks, List.all_append, hal.out]; simp [hfig])
        have hq10 : q' ≤ 10000000000 := by
          have h1 : 10 ^ (k + 1) ≤ 10 ^ 10 := Nat.pow_le_pow_right (by decide) (by omega)
          have h2 : (10 : Nat) ^ 10 = 10000000000 := by decide
          have := HP.out
          omega
        have c1z : decide ((v : Int) < 48) = false := by simp; omega
        have c2z : decide ((57 : Int) < v) = false := by simp; omega
        have w1 : IntKind.u8.wrap ((v : Int) - 48) = (v : Int) - 48 := by rw [IntKind.wrap_u8]; omega
        have w2 : IntKind.i64.wrap (10 * (q : Int)) = 10 * (q : Int) := IntWalk.i64_in _ (by omega)
        have w3 : IntKind.i64.wrap ((v : Int) - 48) = (v : Int) - 48 := IntWalk.i64_in _ (by omega)
        have w4 : IntKind.i64.wrap (10 * (q : Int) + ((v : Int) - 48)) = (q' : Int) := by rw [IntWalk.i64_in _ (by omega)]; omega
        clear hv hfig hq'
        go_wp2
        go_roundw
        case rel => exact ⟨k + 1, q', by go_num, (by first | rfl | trivial), by omega, hq10, (by first | rfl | trivial), HQ, HP, HAL⟩
        case measure => simp [intOf]; omega
      · have hkm : k = m := by omega
        have htk : s.take k = s := by rw [hkm, ← HM.out, List.take_length]
        have hR := readU_yes (s := s) (by rw [HM.out]; exact h0) (by rw [HM.out]; omega) HA.out (by rw [← htk]; exact hal.out)
        have hqs : numGo 0 s = q := by rw [hqe.out, htk]
        rw [hqs] at hR
        have hltz : ¬ (k : Int) < (m : Int) := by omega
        by_cases c3 : q ≤ 1000000000
        · have hO0 : O = some q := by rw [← HO.out, hR, if_pos c3]
          have hL0 : L = q := by rw [← HL.out]; unfold looseU; rw [hR, if_pos c3]
          subst hO0 hL0
          have c3z : decide ((1000000000 : Int) < q) = false := by simp; omega
          clear hR htk hqs
          go_wp2
          go_ret2
          exact ⟨rfl, rfl⟩
        · have hO0 : O = none := by rw [← HO.out, hR, if_neg c3]
          have hL0 : L = 0 := by rw [← HL.out]; unfold looseU; rw [hR, if_neg c3]
          subst hO0 hL0
          have c3z : decide ((1000000000 : Int) < q) = true := by simp; omega
          clear hR htk hqs
          go_wp2
          go_ret2
          exact ⟨rfl, rfl⟩
end Go.Proofs.YtjjikcjhnglkaaaDoor
