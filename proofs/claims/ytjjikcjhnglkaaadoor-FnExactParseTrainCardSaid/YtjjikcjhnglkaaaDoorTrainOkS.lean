/- TrainOk: the closed form, and the reference. -/
import Derived.Test.YtjjikcjhnglkaaaDoorProg
import Derived.Test.YtjjikcjhnglkaaaDoorTrainOk
namespace Go.Proofs.YtjjikcjhnglkaaaDoor
open Go.RowKit
set_option linter.unusedSimpArgs false
set_option linter.unusedVariables false

theorem boatsGo_append : ∀ (xs ys : List Bt) (seen : List Int), boatsGo seen (xs ++ ys) = (boatsGo seen xs && boatsGo (seen ++ xs.map Bt.id) ys)
  | [], ys, seen => by simp [boatsGo]
  | b :: xs, ys, seen => by
    simp only [List.cons_append, boatsGo, boatsGo_append xs ys, List.map_cons, List.append_assoc, Bool.and_assoc]
    rfl
theorem implGo_empty : ∀ (rows : List (List Bt)) (seen : List Int), (∃ r ∈ rows, r.length = 0) → implGo seen rows = false
  | [], _, h => by simp at h
  | r :: rs, seen, h => by
    unfold implGo
    split
    · rfl
    · rename_i hc
      obtain ⟨r', hr', h0⟩ := h
      rcases List.mem_cons.1 hr' with rfl | hm
      · exact absurd (.inl h0) hc
      · rw [implGo_empty rs _ ⟨r', hm, h0⟩, Bool.and_false]
theorem implGo_full : ∀ (rows : List (List Bt)) (seen : List Int), (∀ r ∈ rows, r.length ≠ 0) → implGo seen rows = (decide (rows.flatten.length = 0 ∨ seen.length + rows.flatten.length ≤ 6) && boatsGo seen rows.flatten)
  | [], seen, _ => by simp [implGo, boatsGo]
  | r :: rs, seen, h => by
    have h0 := h r (by simp)
    unfold implGo
    rw [List.flatten_cons, List.length_append, boatsGo_append]
    split
    · rename_i hc
      rw [decide_eq_false (by omega), Bool.false_and]
    · rename_i hc
      rw [implGo_full rs _ (fun r' hr' => h r' (by simp [hr'])), List.length_append, List.length_map]
      cases boatsGo seen r
      · simp
      · rw [Bool.true_and, Bool.true_and]
        congr 1
        apply decide_eq_decide.2
        omega
theorem len_le_flatten : ∀ (rows : List (List Bt)), (∀ r ∈ rows, r.length ≠ 0) → rows.length ≤ rows.flatten.length
  | [], _ => by simp
  | r :: rs, h => by
    have := h r (by simp)
    have := len_le_flatten rs (fun r' hr' => h r' (by simp [hr']))
    rw [List.flatten_cons, List.length_append, List.length_cons]
    omega
theorem trainOk_empty {rows : List (List Bt)} (h : ∃ r ∈ rows, r.length = 0) : trainOk rows = false := by
  unfold trainOk
  split
  · rfl
  · exact implGo_empty _ _ h
theorem trainOk_full {rows : List (List Bt)} (h : ∀ r ∈ rows, r.length ≠ 0) : trainOk rows = (inR rows.flatten.length 1 6 && boatsGo [] rows.flatten) := by
  have hl := len_le_flatten rows h
  unfold trainOk
  split
  · rename_i hc
    have : inR rows.flatten.length 1 6 = false := by
      unfold inR
      apply decide_eq_false
      rcases hc with hc | hc
      · have : rows = [] := List.eq_nil_of_length_eq_zero hc
        subst this
        simp
      · omega
    rw [this, Bool.false_and]
  · rename_i hc
    rw [implGo_full rows [] h]
    congr 1
    unfold inR
    apply decide_eq_decide.2
    have : ([] : List Int).length = 0 := rfl
    omega
/-- What a valid train is like. -/
theorem trainOk_true {rows : List (List Bt)} (h : trainOk rows = true) : rows ≠ [] ∧ (∀ r ∈ rows, r.length ≠ 0) ∧ 1 ≤ rows.flatten.length ∧ rows.flatten.length ≤ 6 ∧ rows.length ≤ 6 ∧ boatsGo [] rows.flatten = true := by
  by_cases he : ∃ r ∈ rows, r.length = 0
  · rw [trainOk_empty he] at h; cases h
  · have he' : ∀ r ∈ rows, r.length ≠ 0 := fun r hr h0 => he ⟨r, hr, h0⟩
    rw [trainOk_full he', Bool.and_eq_true] at h
    have h2 := inR_true h.1
    have hl := len_le_flatten rows he'
    refine ⟨?_, he', by omega, by omega, by omega, h.2⟩
    rintro rfl
    simp at h2

/-- The step of the reference: the boat's Id among those ahead of it. -/
theorem boatsGo_step {flat : List Bt} {k : Nat} (hk : k < flat.length) : boatsGo ((flat.take k).map Bt.id) (flat.drop k) = (bOk flat[k] && !((flat.take k).map Bt.id).contains flat[k].id && boatsGo ((flat.take (k + 1)).map Bt.id) (flat.drop (k + 1))) := by
  rw [List.drop_eq_getElem_cons hk]
  simp only [boatsGo]
  rw [List.take_succ_eq_append_getElem hk, List.map_append]
  rfl
theorem contains_take {flat : List Bt} {k i : Nat} (hk : k < flat.length) (hi : i < k) (v : Int) (h : (flat[i]'(by omega)).id = v) : ((flat.take k).map Bt.id).contains v = true := by
  rw [List.contains_iff_mem, List.mem_map]
  refine ⟨flat[i]'(by omega), ?_, h⟩
  rw [List.mem_take_iff_getElem]
  exact ⟨i, by omega, rfl⟩
theorem contains_take_no {flat : List Bt} {k : Nat} (v : Int) (h : ∀ i (hi : i < flat.length), i < k → flat[i].id ≠ v) : ((flat.take k).map Bt.id).contains v = false := by
  rw [Bool.eq_false_iff]
  intro hc
  rw [List.contains_iff_mem, List.mem_map] at hc
  obtain ⟨b, hb, e⟩ := hc
  rw [List.mem_take_iff_getElem] at hb
  obtain ⟨i, hi, e2⟩ := hb
  exact h i (by omega) (by omega) (by rw [e2]; exact e)

theorem notIn6 {m : Nat} (h : 6 < m) : inR m 1 6 = false := by
  unfold inR
  apply decide_eq_false
  omega
set_option maxHeartbeats 4000000 in
theorem specTrainOk_any (u : Bool) (a : Option Addr) (n c : Nat) (rows : List (List Bt)) (w : World) (hn : n = rows.length) (hs : n ≤ 1048576) (ht : rows.flatten.length ≤ 1048576) (hf : RowsAt w a rows) :
    Calls Tryd.prog 19 #[.agg #[.bool u, .slice a n c]] w fun e w' => e = .returned (.bool (trainOk rows)) ∧ Ext w w' := by
  obtain ⟨R, hR'⟩ : ∃ R, trainOk rows = R := ⟨_, rfl⟩
  rw [hR']
  have HR := Lib.hid hR'; clear hR'
  have HF := Lib.hid hf; clear hf
  have HN := Lib.hid hn; clear hn
  have HT := Lib.hid ht
  have HS := Lib.hid (show n ≤ maxLen by unfold maxLen; omega)
  obtain ⟨flat, hfl⟩ : ∃ flat, flat = rows.flatten := ⟨_, rfl⟩
  have HFLAT := Lib.hid hfl
  obtain ⟨m, hm⟩ : ∃ m, m = flat.length := ⟨_, rfl⟩
  have hm2 : m ≤ 1048576 := by rw [hm, hfl]; exact ht
  have HM := Lib.hid hm
  clear hm hfl ht
  go_enter Tryd.func19, Tryd.ntmps19
  go_wp2_with fail
  (with_reducible refine (specBoats_any _ _ _ _ rows _ HN.out HS.out HT.out (HF.out.ext (by (repeat' (first | (with_reducible exact Ext.refl _) | (with_reducible assumption) | (with_reducible refine Ext.alloc ?_ _) | (with_reducible refine Ext.drewN ?_ _) | (with_reducible refine Ext.drew ?_) | (with_reducible refine Ext.setCell ?_ ?_ _) | (with_reducible exact Nat.le_refl _) | (with_reducible exact Nat.le_succ _) | (with_reducible refine Ext.trans ?_ (by assumption)) | (simp; done) | (simp; omega)))))).mono ?_); rintro e w1 ⟨a9, c9, rfl, ⟨hflat, _⟩, hb1⟩
  have x0_1 := hb1
  obtain ⟨hc0_1, hf0_1⟩ := bcell x0_1.below
  have z0_1_0 : w.heap.size < w1.heap.size := by have h := x0_1.size; simp at h; omega
  have hlen : rows.flatten.length = m := by rw [HM.out, HFLAT.out]
  rw [hlen]
  rw [← HFLAT.out] at hflat
  have HFL := Lib.hid hflat; clear hflat hlen
  have HB := Lib.hid (Ext.trans ((Ext.refl w).alloc _) hb1)
  go_wp2
  go_loop [4] (fun i => ∃ k : Nat, k ≤ n ∧ i = .int .i64 k ∧ Hid (∀ j (h : j < rows.length), j < k → rows[j].length ≠ 0)) (fun i => n - (intOf i).toNat)
  case atStart => exact ⟨0, Nat.zero_le _, rfl, fun _ _ h => absurd h (Nat.not_lt_zero _)⟩
  case round =>
    obtain ⟨k, hk, rfl, hne⟩ := hrel
    by_cases hlt : k < n
    · have hlt' : k < rows.length := by rw [← HN.out]; exact hlt
      obtain ⟨b, off, a', c', rfl, hc0, hml, hfr⟩ := HF.out k hlt'
      obtain ⟨p, hp⟩ : ∃ p, rows[k].length = p := ⟨_, rfl⟩
      have e0 : w1.cell? ⟨b, off + k, none⟩ = some (.slice a' p c') := by rw [← hp]; exact HB.out.cell hc0
      have HP := Lib.hid hp
      have HML := Lib.hid hml
      clear hp hfr hc0 hml
      by_cases hp0 : p = 0
      · have hR := Lib.hid (show R = false by rw [← HR.out]; exact trainOk_empty ⟨rows[k], List.getElem_mem _, by rw [HP.out]; exact hp0⟩)
        subst hp0
        go_wp2
        go_ret
        exact ⟨ret_bool hR.out.symm, by (repeat' (first | (with_reducible exact Ext.refl _) | (with_reducible assumption) | (with_reducible refine Ext.alloc ?_ _) | (with_reducible refine Ext.drewN ?_ _) | (with_reducible refine Ext.drew ?_) | (with_reducible refine Ext.setCell ?_ ?_ _) | (with_reducible exact Nat.le_refl _) | (with_reducible exact Nat.le_succ _) | (with_reducible refine Ext.trans ?_ (by assumption)) | (simp; done) | (simp; omega)))⟩
      · have q3 : ((p : Int) == 0) = false := by simpa using hp0
        go_wp2
        go_round
        case rel =>
          refine ⟨k + 1, by omega, by go_num, fun j hj hjk => ?_⟩
          by_cases e : j = k
          · subst e
            rw [HP.out]
            exact hp0
          · exact hne.out j hj (by omega)
        case measure => simp [intOf]; omega
    · have hne' : ∀ r ∈ rows, r.length ≠ 0 := fun r hr => by
        obtain ⟨j, hj, rfl⟩ := List.getElem_of_mem hr
        exact hne.out j hj (by have := HN.out; omega)
      have hfull := trainOk_full hne'
      rw [HR.out, ← HFLAT.out, ← HM.out] at hfull
      have HFULL := Lib.hid hfull
      clear hfull hne' hne
      have HG0 := Lib.hid (show R = (inR m 1 6 && boatsGo ((flat.take 0).map Bt.id) (flat.drop 0)) by rw [HFULL.out, List.drop_zero]; rfl)
      clear HFULL
      go_wp2
      go_loopw [5] (fun i wr => ∃ k : Nat, k ≤ m ∧ i = .int .i64 k ∧ Ext w1 wr ∧ Hid (R = (inR m 1 6 && boatsGo ((flat.take k).map Bt.id) (flat.drop k)))) (fun i _ => m - (intOf i).toNat)
      case atStart => exact ⟨0, Nat.zero_le _, rfl, by (repeat' (first | (with_reducible exact Ext.refl _) | (with_reducible assumption) | (with_reducible refine Ext.alloc ?_ _) | (with_reducible refine Ext.drewN ?_ _) | (with_reducible refine Ext.drew ?_) | (with_reducible refine Ext.setCell ?_ ?_ _) | (with_reducible exact Nat.le_refl _) | (with_reducible exact Nat.le_succ _) | (with_reducible refine Ext.trans ?_ (by assumption)) | (simp; done) | (simp; omega))), HG0⟩
      case round =>
        obtain ⟨k5, hk5, rfl, hr5, hgo⟩ := hrel
        obtain ⟨w5, rfl⟩ : ∃ x, x = wr := ⟨_, rfl⟩
        by_cases h6 : 6 < m
        · have hR := Lib.hid (show inR m 1 6 = R by rw [hgo.out, notIn6 h6, Bool.false_and])
          have d6 : decide ((m : Int) ≤ 6) = false := by simp; omega
          rcases Nat.lt_or_ge k5 m with hcase | hcase
          all_goals
            go_wp2_with (go_at_call 37; refine (l01In_any _ _ _ _).mono ?_; rintro e w' ⟨rfl, rfl⟩)
            go_ret
            exact ⟨ret_bool hR.out, by (repeat' (first | (with_reducible exact Ext.refl _) | (with_reducible assumption) | (with_reducible refine Ext.alloc ?_ _) | (with_reducible refine Ext.drewN ?_ _) | (with_reducible refine Ext.drew ?_) | (with_reducible refine Ext.setCell ?_ ?_ _) | (with_reducible exact Nat.le_refl _) | (with_reducible exact Nat.le_succ _) | (with_reducible refine Ext.trans ?_ (by assumption)) | (simp; done) | (simp; omega)))⟩
        have d6 : decide ((m : Int) ≤ 6) = true := by simp; omega
        by_cases hlt5 : k5 < m
        · have hlt5' : k5 < flat.length := by rw [← HM.out]; exact hlt5
          obtain ⟨b2, off2, rfl, hcell⟩ := HFL.out.get k5 hlt5'
          have hst := boatsGo_step hlt5'
          have HK := Lib.hid (rfl : flat[k5] = flat[k5])
          obtain ⟨bt, hbt⟩ : ∃ bt, flat[k5] = bt := ⟨_, rfl⟩
          clear HK
          rw [hbt] at hcell hst
          have HBT := Lib.hid hbt; clear hbt
          obtain ⟨bi, bl, bw, bd, bs, bc⟩ := bt
          have g0 : w5.cell? ⟨b2, off2 + k5 * 6, none⟩ = some (.int .i64 bi) := hcell 0 _ rfl _ hr5
          have g1 : w5.cell? ⟨b2, off2 + k5 * 6 + 1, none⟩ = some (.int .i64 bl) := hcell 1 _ rfl _ hr5
          have g2 : w5.cell? ⟨b2, off2 + k5 * 6 + 2, none⟩ = some (.int .i64 bw) := hcell 2 _ rfl _ hr5
          have g3 : w5.cell? ⟨b2, off2 + k5 * 6 + 3, none⟩ = some (.int .i64 bd) := hcell 3 _ rfl _ hr5
          have g4 : w5.cell? ⟨b2, off2 + k5 * 6 + 4, none⟩ = some (.int .i64 bs) := hcell 4 _ rfl _ hr5
          have g5 : w5.cell? ⟨b2, off2 + k5 * 6 + 5, none⟩ = some (.int .i64 bc) := hcell 5 _ rfl _ hr5
          have HID : Hid (∀ w', Ext w1 w' → w'.cell? ⟨b2, off2 + k5 * 6, none⟩ = some (.int .i64 bi)) := hcell 0 _ rfl
          have HG := Lib.hid (show R = (inR m 1 6 && (boatOk bi bl bw bd bs bc && !((flat.take k5).map Bt.id).contains bi && boatsGo ((flat.take (k5 + 1)).map Bt.id) (flat.drop (k5 + 1)))) by rw [hgo.out, hst]; rfl)
          clear hcell hst hgo
          cases c1 : boatOk bi bl bw bd bs bc
          · have hR := Lib.hid (show R = false by rw [HG.out, c1]; simp)
            go_wp2_with (go_at_call 36; refine (specBoatOk_any _ _ _ _ _ _ _).mono ?_; rintro e w6 ⟨rfl, hb6⟩)
            go_ret
            exact ⟨ret_bool hR.out.symm, by (repeat' (first | (with_reducible exact Ext.refl _) | (with_reducible assumption) | (with_reducible refine Ext.alloc ?_ _) | (with_reducible refine Ext.drewN ?_ _) | (with_reducible refine Ext.drew ?_) | (with_reducible refine Ext.setCell ?_ ?_ _) | (with_reducible exact Nat.le_refl _) | (with_reducible exact Nat.le_succ _) | (with_reducible refine Ext.trans ?_ (by assumption)) | (simp; done) | (simp; omega)))⟩
          · have C1 := Lib.hid c1
            go_wp2_with fail
            refine (specBoatOk_any _ _ _ _ _ _ _).mono ?_
            rintro e w6 ⟨rfl, hb6⟩
            rw [c1]
            clear g0 g1 g2 g3 g4 g5
            have hx6 : Ext w1 w6 := hr5.trans hb6
            have HX6 := Lib.hid hx6
            go_wp2
            go_loopw [6] (fun i wr => ∃ j : Nat, j ≤ k5 ∧ i = .int .i64 j ∧ Ext w1 wr ∧ Hid (∀ q (h : q < flat.length), q < j → flat[q].id ≠ bi)) (fun i _ => k5 - (intOf i).toNat)
            case atStart => exact ⟨0, Nat.zero_le _, rfl, by (repeat' (first | (with_reducible exact Ext.refl _) | (with_reducible assumption) | (with_reducible refine Ext.alloc ?_ _) | (with_reducible refine Ext.drewN ?_ _) | (with_reducible refine Ext.drew ?_) | (with_reducible refine Ext.setCell ?_ ?_ _) | (with_reducible exact Nat.le_refl _) | (with_reducible exact Nat.le_succ _) | (with_reducible refine Ext.trans ?_ (by assumption)) | (simp; done) | (simp; omega))), fun _ _ h => absurd h (Nat.not_lt_zero _)⟩
            case round =>
              obtain ⟨j, hj, rfl, hr, hno⟩ := hrel
              by_cases hlj : j < k5
              · have hlj' : j < flat.length := by omega
                obtain ⟨b3, off3, e3, hcell⟩ := HFL.out.get j hlj'
                cases e3
                obtain ⟨bj, hbj⟩ : ∃ v, flat[j].id = v := ⟨_, rfl⟩
                have HBJ := Lib.hid hbj
                have k0 : ∀ x : Aft wr, x.1.cell? ⟨b2, off2 + k5 * 6, none⟩ = some (.int .i64 bi) := fun x => HID.out _ (hr.trans x.2)
                have k1 : ∀ x : Aft wr, x.1.cell? ⟨b2, off2 + j * 6, none⟩ = some (.int .i64 bj) := fun x => by rw [← HBJ.out]; exact hcell 0 _ rfl _ (hr.trans x.2)
                have hlm : j < m := by omega
                clear hcell hbj
                cases q : (bj == bi)
                · have hne : bj ≠ bi := fun e => by rw [e] at q; simp at q
                  have HNE := Lib.hid hne; clear hne
                  go_wp2
                  (refine wp_region_aft wr (Ext.refl _) (by kernel_rfl) (by kernel_rfl) ?_; (repeat (go_big_quiet_step (fail))); refine wpQuiet_nil ?_; intro w2 hx2)
                  go_wp2
                  go_roundw
                  case rel =>
                    refine ⟨j + 1, by omega, by go_num, by (repeat' (first | (with_reducible exact Ext.refl _) | (with_reducible assumption) | (with_reducible refine Ext.alloc ?_ _) | (with_reducible refine Ext.drewN ?_ _) | (with_reducible refine Ext.drew ?_) | (with_reducible refine Ext.setCell ?_ ?_ _) | (with_reducible exact Nat.le_refl _) | (with_reducible exact Nat.le_succ _) | (with_reducible refine Ext.trans ?_ (by assumption)) | (simp; done) | (simp; omega))), fun q hq hqj => ?_⟩
                    by_cases e : q = j
                    · subst e
                      rw [HBJ.out]
                      exact HNE.out
                    · exact hno.out q hq (by omega)
                  case measure => simp [intOf]; omega
                · have he : bj = bi := by simpa using q
                  have hR := Lib.hid (show R = false by rw [HG.out, contains_take hlt5' hlj bi (HBJ.out.trans he)]; simp)
                  clear he
                  go_wp2
                  (refine wp_region_aft wr (Ext.refl _) (by kernel_rfl) (by kernel_rfl) ?_; (repeat (go_big_quiet_step (fail))); refine wpQuiet_nil ?_; intro w2 hx2)
                  go_wp2
                  go_ret
                  exact ⟨ret_bool hR.out.symm, by (repeat' (first | (with_reducible exact Ext.refl _) | (with_reducible assumption) | (with_reducible refine Ext.alloc ?_ _) | (with_reducible refine Ext.drewN ?_ _) | (with_reducible refine Ext.drew ?_) | (with_reducible refine Ext.setCell ?_ ?_ _) | (with_reducible exact Nat.le_refl _) | (with_reducible exact Nat.le_succ _) | (with_reducible refine Ext.trans ?_ (by assumption)) | (simp; done) | (simp; omega)))⟩
              · have HG2 := Lib.hid (show R = (inR m 1 6 && boatsGo ((flat.take (k5 + 1)).map Bt.id) (flat.drop (k5 + 1))) by rw [HG.out, C1.out, contains_take_no bi (fun i hi hik => hno.out i hi (by omega))]; simp)
                clear hno
                go_wp2
                go_roundw
                case rel => exact ⟨k5 + 1, by omega, by go_num, by (repeat' (first | (with_reducible exact Ext.refl _) | (with_reducible assumption) | (with_reducible refine Ext.alloc ?_ _) | (with_reducible refine Ext.drewN ?_ _) | (with_reducible refine Ext.drew ?_) | (with_reducible refine Ext.setCell ?_ ?_ _) | (with_reducible exact Nat.le_refl _) | (with_reducible exact Nat.le_succ _) | (with_reducible refine Ext.trans ?_ (by assumption)) | (simp; done) | (simp; omega))), HG2⟩
                case measure => simp [intOf]; omega
        · have hR := Lib.hid (show inR m 1 6 = R by rw [hgo.out, List.drop_eq_nil_of_le (by have := HM.out; omega)]; simp [boatsGo])
          go_wp2_with (go_at_call 37; refine (l01In_any _ _ _ _).mono ?_; rintro e w' ⟨rfl, rfl⟩)
          go_ret
          exact ⟨ret_bool hR.out, by (repeat' (first | (with_reducible exact Ext.refl _) | (with_reducible assumption) | (with_reducible refine Ext.alloc ?_ _) | (with_reducible refine Ext.drewN ?_ _) | (with_reducible refine Ext.drew ?_) | (with_reducible refine Ext.setCell ?_ ?_ _) | (with_reducible exact Nat.le_refl _) | (with_reducible exact Nat.le_succ _) | (with_reducible refine Ext.trans ?_ (by assumption)) | (simp; done) | (simp; omega)))⟩
end Go.Proofs.YtjjikcjhnglkaaaDoor
