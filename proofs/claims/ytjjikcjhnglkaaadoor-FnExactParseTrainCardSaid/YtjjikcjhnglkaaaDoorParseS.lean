/- l04Split, ParseUint of the reference. -/
import Derived.Test.YtjjikcjhnglkaaaDoorProg
import Derived.Test.YtjjikcjhnglkaaaDoorParseT
namespace Go.Proofs.YtjjikcjhnglkaaaDoor
open Go.RowKit
set_option linter.unusedSimpArgs false
set_option linter.unusedVariables false

theorem get_S (l : List UInt8) (i : Nat) (h : i < l.length) : (S l).get! i = l[i] := by
  show (l.toArray)[i]! = l[i]
  simp [h]
theorem loop_S (l : List UInt8) : ∀ (n i : Nat) (r : List UInt8), l.length - i = n → ByteArray.toList.loop (S l) i r = r.reverse ++ l.drop i := by
  intro n
  induction n with
  | zero =>
    intro i r h
    have hs : ¬ i < (S l).size := by show ¬ i < l.toArray.size; rw [List.size_toArray]; omega
    rw [ByteArray.toList.loop.eq_def, if_neg hs, List.drop_eq_nil_of_le (by omega), List.append_nil]
  | succ n ih =>
    intro i r h
    have hs : i < (S l).size := by show i < l.toArray.size; rw [List.size_toArray]; omega
    have hi : i < l.length := by omega
    rw [ByteArray.toList.loop.eq_def, if_pos hs, ih _ _ (by omega), List.drop_eq_getElem_cons hi, get_S l i hi]
    simp
theorem toList_S (l : List UInt8) : (S l).toList = l := by
  unfold ByteArray.toList
  rw [loop_S l _ 0 [] rfl]
  simp
theorem S_ne {a b : List UInt8} (h : ¬ a = b) : ((S a).toList == (S b).toList) = false := by
  rw [toList_S, toList_S]
  exact beq_eq_false_iff_ne.2 h
theorem S_eq (t : ByteArray) : (t.toList == t.toList) = true := beq_self_eq_true _
theorem S_cut (s : List UInt8) (i j : Nat) : (S s).extract i j = S ((s.drop i).take (j - i)) := by
  apply ByteArray.ext
  simp only [S, ByteArray.data_extract]
  rw [← Array.toList_inj]
  simp [Array.toList_extract, List.extract_eq_take_drop]
theorem take_more1 {s : List UInt8} {fr k : Nat} (h : fr ≤ k) (hk : k < s.length) : (s.drop fr).take (k + 1 - fr) = (s.drop fr).take (k - fr) ++ [s[k]] := by
  have e : k + 1 - fr = (k - fr) + 1 := by omega
  have hl : k - fr < (s.drop fr).length := by rw [List.length_drop]; omega
  rw [e, List.take_succ_eq_append_getElem hl]
  congr 2
  rw [List.getElem_drop]
  congr 1
  omega
theorem drop_cut {s : List UInt8} {fr k : Nat} (h : fr ≤ k) (hk : k < s.length) : s.drop fr = (s.drop fr).take (k - fr) ++ s[k] :: s.drop (k + 1) := by
  have e1 := (List.take_append_drop (k - fr) (s.drop fr)).symm
  rw [List.drop_drop, show fr + (k - fr) = k by omega, List.drop_eq_getElem_cons hk] at e1
  exact e1
/-- How far l04Split has come. -/
def Cut (c : UInt8) (s : List UInt8) (m k fr : Nat) (dn : List (List UInt8)) : Prop :=
  (k ≤ m ∧ fr ≤ k ∧ splitP c s = dn ++ splitP c (s.drop fr) ∧ c ∉ (s.drop fr).take (k - fr)) ∨ (k = m + 1 ∧ splitP c s = dn)
theorem cut_start (c : UInt8) (s : List UInt8) (m : Nat) : Cut c s m 0 0 [] := .inl ⟨Nat.zero_le _, Nat.le_refl _, by simp, by simp⟩
theorem cut_hit {c : UInt8} {s : List UInt8} {m k fr : Nat} {dn : List (List UInt8)} (hm : s.length = m) (hk : k < m) (h : Cut c s m k fr dn) (hc : s[k]'(by omega) = c) : Cut c s m (k + 1) (k + 1) (dn ++ [(s.drop fr).take (k - fr)]) := by
  rcases h with ⟨h1, h2, h3, h4⟩ | ⟨h1, _⟩
  · refine .inl ⟨by omega, Nat.le_refl _, ?_, by simp⟩
    have e := drop_cut (s := s) h2 (by omega)
    rw [hc] at e
    have e2 := splitP_app c _ (s.drop (k + 1)) h4
    rw [← e] at e2
    rw [h3, e2, List.append_assoc]
    rfl
  · omega
theorem cut_end {c : UInt8} {s : List UInt8} {m fr : Nat} {dn : List (List UInt8)} (hm : s.length = m) (h : Cut c s m m fr dn) : Cut c s m (m + 1) (m + 1) (dn ++ [(s.drop fr).take (m - fr)]) := by
  rcases h with ⟨h1, h2, h3, h4⟩ | ⟨h1, _⟩
  · refine .inr ⟨rfl, ?_⟩
    have e : (s.drop fr).take (m - fr) = s.drop fr := by rw [List.take_of_length_le]; rw [List.length_drop]; omega
    rw [e] at h4 ⊢
    rw [h3, splitP_self c _ h4]
  · omega
theorem cut_miss {c : UInt8} {s : List UInt8} {m k fr : Nat} {dn : List (List UInt8)} (hm : s.length = m) (hk : k < m) (h : Cut c s m k fr dn) (hc : s[k]'(by omega) ≠ c) : Cut c s m (k + 1) fr dn := by
  rcases h with ⟨h1, h2, h3, h4⟩ | ⟨h1, _⟩
  · refine .inl ⟨by omega, by omega, h3, ?_⟩
    rw [take_more1 h2 (by omega)]
    intro h
    rcases List.mem_append.1 h with h | h
    · exact h4 h
    · exact hc (List.mem_singleton.1 h).symm
  · omega

set_option maxRecDepth 100000 in
set_option maxHeartbeats 4000000 in
theorem l04Split_any (c : UInt8) (s : List UInt8) (w : World) (hs : s.length ≤ 1048575) :
    Calls Tryd.prog 26 #[.string (S s), .int .u8 c.toNat] w fun e w' => ∃ v, e = .returned v ∧ OwnStrs w' w.heap.size v (splitP c s) ∧ Ext w w' := by
  obtain ⟨m, hm⟩ : ∃ m, s.length = m := ⟨_, rfl⟩
  obtain ⟨t, ht⟩ : ∃ t, S s = t := ⟨_, rfl⟩
  have hsz : t.size = m := by rw [← ht, S_size, hm]
  have HG2 := Lib.hid (show ∀ (i : Nat) (h : i < t.size) (h' : i < s.length), (t[i].toNat : Int) = (s[i].toNat : Int) from by subst ht; exact fun i h h' => rfl)
  have HEX := Lib.hid (show ∀ i j : Nat, t.extract i j = S ((s.drop i).take (j - i)) from by subst ht; exact S_cut s)
  rw [ht]
  clear ht
  rw [hm] at hs
  have HM := Lib.hid hm; clear hm
  obtain ⟨cn, hcn⟩ : ∃ n : Nat, c.toNat = n := ⟨_, rfl⟩
  rw [hcn]
  have HC := Lib.hid hcn; clear hcn
  obtain ⟨ps, hps⟩ : ∃ ps, splitP c s = ps := ⟨_, rfl⟩
  have HPS := Lib.hid hps
  rw [hps]
  clear hps
  have HLIT := Lib.hid (show OwnStrs (w.alloc (.cells #[] 9)) w.heap.size (.slice (some ⟨w.heap.size, 0, none⟩) 0 0) [] from by
    have h := World.ownsRow_lit (base := w.heap.size) (e := 9) (size := 1) w #[] 0 (by simp) (by unfold maxLen; omega) rfl
    exact h)
  go_enter Tryd.func26, Tryd.ntmps26
  go_wp2
  go_loopw [5, 6, 7] (fun v fr i wr => ∃ (k f : Nat) (dn : List (List UInt8)), i = .int .i64 k ∧ fr = .int .i64 f ∧ k ≤ m + 1 ∧ f ≤ k ∧ dn.length ≤ k ∧ w.heap.size ≤ wr.heap.size ∧ Hid (Ext w wr) ∧ Hid (OwnStrs wr w.heap.size v dn) ∧ Hid (Cut c s m k f dn)) (fun _ _ i _ => m + 1 - (intOf i).toNat)
  case atStart => exact ⟨0, 0, [], rfl, rfl, by omega, Nat.le_refl _, Nat.le_refl _, by simp, Lib.hid ((Ext.refl w).alloc _), HLIT, Lib.hid (cut_start c s m)⟩
  case round =>
    clear HLIT
    obtain ⟨w3, rfl⟩ : ∃ x, x = wr := ⟨_, rfl⟩
    obtain ⟨k, f, dn, rfl, rfl, hk, hf, hdn, hsz3, hr, hown, hcut⟩ := hrel
    by_cases hlt : k ≤ m
    · have hltz : (k : Int) ≤ (m : Int) := by omega
      obtain ⟨pc, hpc⟩ : ∃ p, (s.drop f).take (k - f) = p := ⟨_, rfl⟩
      have hex : t.extract f k = S pc := by rw [← hpc]; exact HEX.out f k
      have HA := Lib.hid ((Ext.refl w3).alloc (.cells #[.string (S pc)] 9))
      by_cases hkm : k = m
      · subst hkm
        have HCN := Lib.hid (show Cut c s k (k + 1) (k + 1) (dn ++ [pc]) by rw [← hpc]; exact cut_end HM.out hcut.out)
        clear hpc hcut
        go_wp2_with (at_builtin; refine append_str rfl _ _ rfl w.heap.size _ dn (dn ++ [pc]) pc rfl rfl (hown.out.ext HA.out) w3.heap.size 1 rfl ?c1 (by first | (simp; omega) | (simp; done)) ?c2 ?_)
        case c1 => exact (RowAt.new w3 9 #[.string (S pc)]).cell rfl
        case c2 => (first | omega | (simp; done) | (simp; omega))
        intro v' w7 hown7 hg7 _
        have hv := World.ownsRow.lt hown.out
        have z7 := hg7.size
        simp only [World.size_alloc] at z7
        have HX7 := Lib.hid (Ext.own (hr.out.trans HA.out) hg7 (fun k hk => (hv k hk).1))
        have HO7 := Lib.hid hown7; clear hown7 hg7 hv HA
        go_wp2
        go_roundw
        case rel => exact ⟨k + 1, k + 1, dn ++ [pc], by go_num, by go_num, by omega, Nat.le_refl _, (by first | (simp; omega) | (simp; done)), by omega, HX7, HO7, HCN⟩
        case measure => simp [intOf] <;> omega
      · have hkl : k < m := by omega
        have hks : k < s.length := by rw [HM.out]; exact hkl
        have ekm : ((k : Int) == (m : Int)) = false := by simp; omega
        obtain ⟨v, hv⟩ : ∃ v : Nat, (s[k]'hks).toNat = v := ⟨_, rfl⟩
        have hbk : ∀ h : k < t.size, (t[k].toNat : Int) = (v : Int) := fun h => (HG2.out k h hks).trans (by rw [hv])
        have hkt : k < t.size := by omega
        by_cases hvc : v = cn
        · have HCN := Lib.hid (show Cut c s m (k + 1) (k + 1) (dn ++ [pc]) by
            rw [← hpc]
            exact cut_hit HM.out hkl hcut.out (UInt8.toNat_inj.1 (by rw [hv, hvc, HC.out])))
          subst hvc
          clear hpc hcut hv
          go_wp2_with (at_builtin; refine append_str rfl _ _ rfl w.heap.size _ dn (dn ++ [pc]) pc rfl rfl (hown.out.ext HA.out) w3.heap.size 1 rfl ?c1 (by first | (simp; omega) | (simp; done)) ?c2 ?_)
          case c1 => exact (RowAt.new w3 9 #[.string (S pc)]).cell rfl
          case c2 => (first | omega | (simp; done) | (simp; omega))
          intro v' w7 hown7 hg7 _
          have hv := World.ownsRow.lt hown.out
          have z7 := hg7.size
          simp only [World.size_alloc] at z7
          have HX7 := Lib.hid (Ext.own (hr.out.trans HA.out) hg7 (fun k hk => (hv k hk).1))
          have HO7 := Lib.hid hown7; clear hown7 hg7 hv HA
          go_wp2
          go_roundw
          case rel => exact ⟨k + 1, k + 1, dn ++ [pc], by go_num, by go_num, by omega, Nat.le_refl _, (by first | (simp; omega) | (simp; done)), by omega, HX7, HO7, HCN⟩
          case measure => simp [intOf] <;> omega
        · have HCN := Lib.hid (show Cut c s m (k + 1) f dn from cut_miss HM.out hkl hcut.out (fun e => hvc (by rw [← hv, e, HC.out])))
          have evc : ((v : Int) == (cn : Int)) = false := by simp; omega
          clear hpc hcut hv HA
          go_wp2
          go_roundw
          case rel => exact ⟨k + 1, f, dn, by go_num, rfl, by omega, by omega, by omega, hsz3, hr, hown, HCN⟩
          case measure => simp [intOf] <;> omega
    · have hkm : k = m + 1 := by omega
      have HD := Lib.hid (show ps = dn by
        rcases hcut.out with ⟨h1, _⟩ | ⟨_, h2⟩
        · omega
        · rw [← HPS.out, h2])
      have hltz : ¬ (k : Int) ≤ (m : Int) := by omega
      clear hkm
      go_wp2
      go_ret
      exact ⟨_, rfl, by rw [HD.out]; exact hown.out, hr.out⟩

theorem readU_spec {s : List UInt8} {q : Nat} (h1 : s.length ≤ 10) (h3 : s.all isFig = true) (hq : numGo 0 s = q) : readU s = if q ≤ 1000000000 ∧ dec q = s then some q else none := by
  by_cases h : q ≤ 1000000000 ∧ dec q = s
  · rw [if_pos h]
    have := readU_dec h.1
    rw [h.2] at this
    exact this
  · rw [if_neg h]
    cases hr : readU s with
    | none => rfl
    | some x =>
      obtain ⟨e1, e2⟩ := readU_back hr
      have hx : x = q := by
        unfold readU at hr
        split at hr
        · rw [← Option.some.inj hr]; exact hq
        · cases hr
      rw [hx] at e1 e2
      exact absurd ⟨e2, e1⟩ h

set_option maxRecDepth 100000 in
set_option maxHeartbeats 4000000 in
theorem specParseUint_any (s : List UInt8) (w : World) :
    Calls Tryd.prog 27 #[.string (S s)] w fun e w' => e = .returned (.tuple #[.int .i64 (looseU s), .bool (readU s).isSome]) ∧ Ext w w' := by
  obtain ⟨m, hm⟩ : ∃ m, s.length = m := ⟨_, rfl⟩
  obtain ⟨t, ht⟩ : ∃ t, S s = t := ⟨_, rfl⟩
  have hsz : t.size = m := by rw [← ht, S_size, hm]
  have HG2 := Lib.hid (show ∀ (i : Nat) (h : i < t.size) (h' : i < s.length), (t[i].toNat : Int) = (s[i].toNat : Int) from by subst ht; exact fun i h h' => rfl)
  have HT := Lib.hid ht
  rw [ht]
  clear ht
  by_cases h10 : 10 < m
  · have hR : readU s = none := by unfold readU; rw [if_neg]; omega
    have hL : looseU s = 0 := by unfold looseU; rw [hR]
    rw [hR, hL]
    clear hR hL HG2
    have e1 : decide ((10 : Int) < m) = true := by simp; omega
    go_enter Tryd.func27, Tryd.ntmps27
    go_wp2
    go_ret2
    exact ⟨rfl, by (repeat' (first | (with_reducible exact Ext.refl _) | (with_reducible assumption) | (with_reducible refine Ext.alloc ?_ _) | (with_reducible refine Ext.drewN ?_ _) | (with_reducible refine Ext.drew ?_) | (with_reducible refine Ext.setCell ?_ ?_ _) | (with_reducible exact Nat.le_refl _) | (with_reducible exact Nat.le_succ _) | (with_reducible refine Ext.trans ?_ (by assumption)) | (simp; done) | (simp; omega)))⟩
  have e1 : decide ((10 : Int) < m) = false := by simp; omega
  have HM := Lib.hid hm
  clear hm
  obtain ⟨L, hL⟩ : ∃ L, looseU s = L := ⟨_, rfl⟩
  obtain ⟨O, hO⟩ : ∃ O, readU s = O := ⟨_, rfl⟩
  rw [hL, hO]
  have HL := Lib.hid hL; have HO := Lib.hid hO; clear hL hO
  go_enter Tryd.func27, Tryd.ntmps27
  go_wp2
  go_loopw [4, 5] (fun nn i wr => ∃ (k q : Nat), i = .int .i64 k ∧ nn = .int .i64 q ∧ k ≤ m ∧ q ≤ 10000000000 ∧ wr = w ∧ Hid (q = numGo 0 (s.take k)) ∧ Hid (q + 1 ≤ 10 ^ k) ∧ Hid ((s.take k).all isFig = true)) (fun _ i _ => m - (intOf i).toNat)
  case atStart => exact ⟨0, 0, rfl, rfl, Nat.zero_le _, by omega, rfl, Lib.hid rfl, Lib.hid (by decide), Lib.hid rfl⟩
  case round =>
    obtain ⟨k, q, rfl, rfl, hk, hq, rfl, hqe, hqp, hal⟩ := hrel
    by_cases hlt : k < m
    · have hks : k < s.length := by rw [HM.out]; exact hlt
      obtain ⟨v, hv⟩ : ∃ v : Nat, s[k].toNat = v := ⟨_, rfl⟩
      have hbk : ∀ h : k < t.size, (t[k].toNat : Int) = (v : Int) := fun h => (HG2.out k h hks).trans (by rw [hv])
      have hv255 : v ≤ 255 := by rw [← hv]; have := (s[k]).toNat_lt; omega
      have hltz : (k : Int) < (m : Int) := by omega
      have hkt : k < t.size := by omega
      by_cases c1 : v < 48
      · have hN := readU_none_fig hks (by unfold isFig; rw [decide_eq_false_iff_not]; omega)
        have hO0 : O = none := by rw [← HO.out]; exact hN
        have hL0 : L = 0 := by rw [← HL.out]; unfold looseU; rw [hN]
        subst hO0 hL0
        have c1z : decide ((v : Int) < 48) = true := by simp; omega
        clear hv hN
        go_wp2
        go_ret2
        exact ⟨rfl, Ext.refl _⟩
      by_cases c2 : 57 < v
      · have hN := readU_none_fig hks (by unfold isFig; rw [decide_eq_false_iff_not]; omega)
        have hO0 : O = none := by rw [← HO.out]; exact hN
        have hL0 : L = 0 := by rw [← HL.out]; unfold looseU; rw [hN]
        subst hO0 hL0
        have c1z : decide ((v : Int) < 48) = false := by simp; omega
        have c2z : decide ((57 : Int) < v) = true := by simp; omega
        clear hv hN
        go_wp2
        go_ret2
        exact ⟨rfl, Ext.refl _⟩
      have hfig : isFig s[k] = true := by unfold isFig; rw [decide_eq_true_eq]; omega
      obtain ⟨q', hq'⟩ : ∃ q', 10 * q + (v - 48) = q' := ⟨_, rfl⟩
      have HQ := Lib.hid (show q' = numGo 0 (s.take (k + 1)) by rw [numGo_take hks, ← hqe.out, ← hq', figVal_eq, hv])
      have HP := Lib.hid (show q' + 1 ≤ 10 ^ (k + 1) by rw [Nat.pow_succ]; have := hqp.out; omega)
      have HAL := Lib.hid (show (s.take (k + 1)).all isFig = true by rw [List.take_succ_eq_append_getElem hks, List.all_append, hal.out]; simp [hfig])
      have hq10 : q' ≤ 10000000000 := by
        have h1 : 10 ^ (k + 1) ≤ 10 ^ 10 := Nat.pow_le_pow_right (by decide) (by omega)
        have h2 : (10 : Nat) ^ 10 = 10000000000 := by decide
        have := HP.out
        omega
      have c1z : decide ((v : Int) < 48) = false := by simp; omega
      have c2z : decide ((57 : Int) < v) = false := by simp; omega
      have w2 : IntKind.i64.wrap (10 * (q : Int)) = 10 * (q : Int) := IntWalk.i64_in _ (by omega)
      have w3 : IntKind.i64.wrap (v : Int) = (v : Int) := IntWalk.i64_in _ (by omega)
      have w4 : IntKind.i64.wrap (10 * (q : Int) + (v : Int)) = 10 * (q : Int) + (v : Int) := IntWalk.i64_in _ (by omega)
      have w5 : IntKind.i64.wrap (10 * (q : Int) + (v : Int) - 48) = (q' : Int) := by rw [IntWalk.i64_in _ (by omega)]; omega
      clear hv hfig hq'
      go_wp2
      go_roundw
      case rel => exact ⟨k + 1, q', by go_num, (by first | rfl | trivial), by omega, hq10, (by first | rfl | trivial), HQ, HP, HAL⟩
      case measure => simp [intOf] <;> omega
    · have hkm : k = m := by omega
      have htk : s.take k = s := by rw [hkm, ← HM.out, List.take_length]
      have hR := readU_spec (s := s) (q := q) (by rw [HM.out]; omega) (by rw [← htk]; exact hal.out) (by rw [hqe.out, htk])
      have hltz : ¬ (k : Int) < (m : Int) := by omega
      by_cases c3 : q ≤ 1000000000
      · have c3z : decide ((1000000000 : Int) < q) = false := by simp; omega
        have HRR := Lib.hid hR
        clear htk hR
        go_wp2_with fail
        refine (FormatInt_any q _ (by omega)).mono ?_
        rintro e w5 ⟨rfl, hb5⟩
        by_cases c4 : dec q = s
        · have hO0 : O = some q := by rw [← HO.out, HRR.out, if_pos ⟨c3, c4⟩]
          have hL0 : L = q := by rw [← HL.out]; unfold looseU; rw [HRR.out, if_pos ⟨c3, c4⟩]
          subst hO0 hL0
          have c5 : S (dec q) = t := by rw [c4]; exact HT.out
          rw [c5]
          clear c4
          go_wp2
          go_ret2
          exact ⟨rfl, hb5⟩
        · have hO0 : O = none := by rw [← HO.out, HRR.out, if_neg (fun h => c4 h.2)]
          have hL0 : L = 0 := by rw [← HL.out]; unfold looseU; rw [HRR.out, if_neg (fun h => c4 h.2)]
          subst hO0 hL0
          have c5 : ((S (dec q)).toList == t.toList) = false := by rw [← HT.out]; exact S_ne c4
          obtain ⟨t2, ht2⟩ : ∃ t2, S (dec q) = t2 := ⟨_, rfl⟩
          rw [ht2] at c5 ⊢
          clear c4 ht2
          go_wp2
          go_ret2
          exact ⟨rfl, hb5⟩
      · have hO0 : O = none := by rw [← HO.out, hR, if_neg (fun h => c3 h.1)]
        have hL0 : L = 0 := by rw [← HL.out]; unfold looseU; rw [hR, if_neg (fun h => c3 h.1)]
        subst hO0 hL0
        have c3z : decide ((1000000000 : Int) < q) = true := by simp; omega
        clear hR htk
        go_wp2
        go_ret2
        exact ⟨rfl, Ext.refl _⟩
end Go.Proofs.YtjjikcjhnglkaaaDoor
