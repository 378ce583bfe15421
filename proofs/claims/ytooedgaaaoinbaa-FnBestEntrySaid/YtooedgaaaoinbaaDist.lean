/- Trains without a common Id: the program and the reference. -/
import Derived.Test.YtooedgaaaoinbaaProg
import Derived.Test.YtooedgaaaoinbaaTrains
import Derived.Test.YtooedgaaaoinbaaGrow
namespace Go.Proofs.Ytooedgaaaoinbaa
open Go.RowKit
set_option linter.unusedSimpArgs false
set_option linter.unusedVariables false

/-! ### The plain law -/
def difGo (seen : List Int) : List (List Int) → Bool
  | [] => true
  | ids :: r => !(ids.any (fun i => seen.contains i)) && difGo (seen ++ ids) r
def tIds (ts : List Tn) : List (List Int) := ts.map fun t => idsOf t.2
def allOk (ts : List Tn) : Bool := ts.all fun t => trainOk t.2
def distinct (ts : List Tn) : Bool := decide (ts.length ≤ 8) && allOk ts && difGo [] (tIds ts)
theorem idsOf_len6 (rows : List (List Bt)) : (idsOf rows).length ≤ 6 := by
  unfold idsOf
  split
  · rename_i h
    rw [List.length_map]
    exact (trainOk_true h).2.2.2.1
  · simp
theorem boatsGo_nodup : ∀ (bs : List Bt) (seen : List Int), boatsGo seen bs = true → (∀ (i : Nat) (h : i < bs.length), bs[i].id ∉ seen) ∧ (∀ (i j : Nat) (hi : i < bs.length) (hj : j < bs.length), i < j → bs[i].id ≠ bs[j].id)
  | [], _, _ => ⟨(fun i h => absurd h (Nat.not_lt_zero _)), (fun i j h => absurd h (Nat.not_lt_zero _))⟩
  | b :: bs, seen, h => by
    simp only [boatsGo, Bool.and_eq_true] at h
    obtain ⟨⟨_, h2⟩, h3⟩ := h
    obtain ⟨k1, k2⟩ := boatsGo_nodup bs _ h3
    have hb : b.id ∉ seen := by simpa using h2
    refine ⟨fun i hi => ?_, fun i j hi hj hij => ?_⟩
    · cases i with
      | zero => exact hb
      | succ i =>
        have := k1 i (by simpa using hi)
        intro hc
        exact this (by simp only [List.getElem_cons_succ] at hc; exact List.mem_append_left _ hc)
    · cases j with
      | zero => omega
      | succ j =>
        cases i with
        | zero =>
          have := k1 j (by simpa using hj)
          intro hc
          exact this (by simp only [List.getElem_cons_zero, List.getElem_cons_succ] at hc; rw [← hc]; simp)
        | succ i => exact k2 i j (by simpa using hi) (by simpa using hj) (by omega)
theorem idsOf_nodup (rows : List (List Bt)) (i j : Nat) (hi : i < (idsOf rows).length) (hj : j < (idsOf rows).length) (hij : i < j) : (idsOf rows)[i] ≠ (idsOf rows)[j] := by
  by_cases h : trainOk rows = true
  · have e : idsOf rows = rows.flatten.map Bt.id := by rw [idsOf, h]; rfl
    have := (boatsGo_nodup _ _ (trainOk_true h).2.2.2.2.2).2 i j (by rw [e, List.length_map] at hi; exact hi) (by rw [e, List.length_map] at hj; exact hj) hij
    simp only [e, List.getElem_map]
    exact this
  · have e : idsOf rows = [] := by rw [idsOf, if_neg h]
    rw [e] at hi
    exact absurd hi (Nat.not_lt_zero _)
theorem any_found {seen ids : List Int} {q : Nat} (hq : q < ids.length) (h : seen.contains ids[q] = true) : (ids.any fun i => seen.contains i) = true :=
  List.any_eq_true.2 ⟨_, List.getElem_mem hq, h⟩
theorem any_none {seen ids : List Int} (h : ∀ (q : Nat) (hq : q < ids.length), seen.contains ids[q] = false) : (ids.any fun i => seen.contains i) = false := by
  rw [List.any_eq_false]
  intro x hx
  obtain ⟨q, hq, rfl⟩ := List.getElem_of_mem hx
  rw [h q hq]
  simp

/-! ### Memory -/
theorem OwnInts.none_nil {w : World} {base n c : Nat} {xs : List Int} (h : OwnInts w base (.slice none n c) xs) : c = 0 := by
  rcases h.2 with ⟨e, _⟩ | ⟨g, cap, cur, e, _⟩
  · injection e
  · injection e with e _ _
    cases e
theorem specIdsOf_own (ids : List Int) (m : Nat) (u : Bool) (a : Option Addr) (n c : Nat) (rows : List (List Bt)) (w : World) (hn : n = rows.length) (hs : n ≤ 1048576) (ht : rows.flatten.length ≤ 1048576) (hf : RowsAt w a rows) (hi : idsOf rows = ids) (hm : m = ids.length) :
    Calls Try.prog 52 #[.agg #[.bool u, .slice a n c]] w fun e w' => ∃ a' c', e = .returned (.slice a' m c') ∧ (a' = none → c' = 0) ∧ IntsAt w' a' ids ∧ Ext w w' :=
  (specIdsOf_any u a n c rows w hn hs ht hf).mono fun e w' ⟨v, he, ho, hx⟩ => by
    subst hi hm
    obtain ⟨a', c', rfl, hi, _⟩ := ho.read
    exact ⟨a', c', he, (fun e => by subst e; exact ho.none_nil), hi, hx⟩
theorem iMap (xs : List Int) : xs.flatMap iCells = xs.map (fun x => Value.int .i64 x) := by
  induction xs with
  | nil => rfl
  | cons x xs ih => rw [List.flatMap_cons, ih]; rfl
theorem wp_append_ints {w : World} {o : Oper} {a : Act} {K : Act → World → Prop} {Q : Exit → Act → World → Prop} (s x : Operand)
    (ho : o.op = .call { callee := .builtin .append, args := #[s, x], argTypes := #[26, 26] })
    (base : Nat) (v : Value) (done more : List Int) (hs : a.eval s = v) (hown : OwnInts w base v done)
    (a' : Option Addr) (m c : Nat) (hm : m = more.length) (hx : a.eval x = .slice a' m c) (hc : a' = none → c = 0) (hf : IntsAt w a' more) (hle : done.length + more.length ≤ 1048576) (hbase : base ≤ w.heap.size)
    (h : ∀ v' w', OwnInts w' base v' (done ++ more) → w.grownBy w' v.ownBlock → (v'.ownBlock = v.ownBlock ∨ v'.ownBlock = some w.heap.size) → K (a.put o.dst v') w') : o.wp Try.prog a w K Q := by
  subst hm
  refine wp_append_any w s x _ 3 ho base _ 1 8 Try.underlying26 info_int rfl (by decide) v _ _ hs hown a' _ c hx (more.flatMap iCells) (fun e => ⟨hc e, ?_⟩) (by rw [iMap]; simp) ?_ (fun u hu => ?_) (by unfold maxLen; omega) (by omega) hbase ?_
  · cases more with
    | nil => rfl
    | cons y ys => obtain ⟨_, _, e', _⟩ := hf 0 (by simp); rw [e] at e'; cases e'
  · intro ad e j u hu
    rw [iMap, List.getElem?_map] at hu
    by_cases hj : j < more.length
    · rw [List.getElem?_eq_getElem hj] at hu
      obtain ⟨b, off, e', hcell⟩ := hf j hj
      rw [e] at e'
      cases e'
      rw [add_plain rfl]
      rw [hcell]
      exact hu
    · rw [List.getElem?_eq_none (by omega)] at hu
      cases hu
  · rw [iMap] at hu
    obtain ⟨y, _, rfl⟩ := List.mem_map.1 hu
    rfl
  · intro v' w' h1 h2 h3
    exact h v' w' (by unfold OwnInts; rw [List.length_append, List.flatMap_append]; exact h1) h2 h3
theorem OwnInts.lit (w : World) : OwnInts (w.alloc (.cells #[] 3)) w.heap.size (.slice (some ⟨w.heap.size, 0, none⟩) 0 0) [] := by
  have := World.ownsRow_lit (base := w.heap.size) (e := 3) (size := 1) w #[] 0 (by simp) (by unfold maxLen; omega) rfl
  simpa [OwnInts] using this

set_option maxHeartbeats 4000000 in
theorem specDifferent_any (R : Bool) (a : Option Addr) (n c : Nat) (ts : List Tn) (w : World) (hn : n = ts.length) (hs : n ≤ 8) (hts : ∀ t ∈ ts, SmallT t) (hf : TrainsAt w a ts) (hR : difGo [] (tIds ts) = R) :
    Calls Try.prog 108 #[.slice a n c] w fun e w' => e = .returned (.bool R) ∧ Ext w w' := by
  have HF := Lib.hid hf; clear hf
  have HN := Lib.hid hn; clear hn
  have HT := Lib.hid hts; clear hts
  have HR := Lib.hid hR; clear hR
  go_enter Try.func108, Try.ntmps108
  go_wp2
  go_loopw [3, 4] (fun v i wr => ∃ (k s : Nat) (seen : List Int), k ≤ n ∧ i = .int .i64 k ∧ Ext w wr ∧ s ≤ 6 * k ∧ Hid (s = seen.length) ∧ Hid (OwnInts wr w.heap.size v seen) ∧ Hid (R = difGo seen (tIds (ts.drop k)))) (fun _ i _ => n - (intOf i).toNat)
  case atStart => exact ⟨0, 0, [], Nat.zero_le _, rfl, by (repeat' (first | (with_reducible exact Ext.refl _) | (with_reducible assumption) | (with_reducible refine Ext.alloc ?_ _) | (with_reducible refine Ext.drewN ?_ _) | (with_reducible refine Ext.drew ?_) | (with_reducible refine Ext.setCell ?_ ?_ _) | (with_reducible exact Nat.le_refl _) | (with_reducible exact Nat.le_succ _) | (with_reducible refine Ext.trans ?_ (by assumption)) | (simp; done) | (simp; omega))), Nat.zero_le _, rfl, OwnInts.lit w, HR.out.symm⟩
  case round =>
    obtain ⟨k, s, seen, hk, rfl, hr, hs6, hsl, hown, hgo⟩ := hrel
    obtain ⟨w5, rfl⟩ : ∃ x, x = wr := ⟨_, rfl⟩
    by_cases hlt : k < n
    · have hlt' : k < ts.length := by rw [← HN.out]; exact hlt
      obtain ⟨b, off, a', c', rfl, hc0, hc1, hml, hfr⟩ := HF.out k hlt'
      have e0 := hr.cell hc0
      have e1 := hr.cell hc1
      have HFR := Lib.hid (hfr.ext hr); clear hfr hc0 hc1
      have HD := Lib.hid (show R = difGo seen (tIds (ts[k] :: ts.drop (k + 1))) by rw [hgo.out, List.drop_eq_getElem_cons hlt'])
      obtain ⟨g1, g2, g3⟩ := HT.out ts[k] (List.getElem_mem _)
      obtain ⟨t, ht⟩ : ∃ t, ts[k] = t := ⟨_, rfl⟩
      rw [ht] at e0 e1 HFR HD hml g1 g3
      clear ht g2 hgo
      obtain ⟨u, rows⟩ := t
      dsimp only at e0 e1 HFR HD hml g1 g3
      obtain ⟨m, hm⟩ : ∃ m, m = rows.length := ⟨_, rfl⟩
      rw [← hm] at e1 g1
      have HM := Lib.hid hm; clear hm
      have HG1 := Lib.hid g1; clear g1
      have HG3 := Lib.hid g3; clear g3
      clear hml
      obtain ⟨ids, hids⟩ : ∃ ids, idsOf rows = ids := ⟨_, rfl⟩
      obtain ⟨p, hp⟩ : ∃ p, p = ids.length := ⟨_, rfl⟩
      have hp6 : p ≤ 6 := by rw [hp, ← hids]; exact idsOf_len6 rows
      have HD2 := Lib.hid (show R = (!(ids.any (fun i => seen.contains i)) && difGo (seen ++ ids) (tIds (ts.drop (k + 1)))) by rw [HD.out, ← hids]; rfl)
      clear HD
      have HI := Lib.hid hids; clear hids
      have HP := Lib.hid hp; clear hp
      go_wp2_with fail
      refine (specIdsOf_own ids p _ _ _ _ rows _ HM.out HG1.out HG3.out HFR.out HI.out HP.out).mono ?_
      rintro e w6 ⟨a6, c6, rfl, hnil, hi6, hb6⟩
      have HNIL := Lib.hid hnil; clear hnil
      have HI6 := Lib.hid hi6; clear hi6
      have hx6 : Ext w w6 := hr.trans hb6
      have HO6 := Lib.hid (hown.out.ext hb6); clear hown
      obtain ⟨a7, c7, hv, hs7, _⟩ := HO6.out.read
      rw [← hsl.out] at hv
      subst hv
      have HS7 := Lib.hid hs7; clear hs7
      clear e0 e1
      go_wp2
      go_loopw [6] (fun i wr => ∃ q : Nat, q ≤ p ∧ i = .int .i64 q ∧ Ext w6 wr ∧ Hid (∀ (j : Nat) (h : j < ids.length), j < q → seen.contains ids[j] = false)) (fun i _ => p - (intOf i).toNat)
      case atStart => exact ⟨0, Nat.zero_le _, rfl, Ext.refl _, fun _ _ h => absurd h (Nat.not_lt_zero _)⟩
      case round =>
        obtain ⟨q, hq, rfl, hr7, hnone⟩ := hrel
        obtain ⟨w7, rfl⟩ : ∃ x, x = wr := ⟨_, rfl⟩
        by_cases hqp : q < p
        · have hq' : q < ids.length := by rw [← HP.out]; exact hqp
          obtain ⟨b2, off2, rfl, hci⟩ := HI6.out q hq'
          obtain ⟨y, hy⟩ : ∃ y, ids[q] = y := ⟨_, rfl⟩
          rw [hy] at hci
          have HY := Lib.hid hy; clear hy
          have HCI := Lib.hid hci; clear hci
          go_wp2
          go_loopw [7] (fun i wr => ∃ j : Nat, j ≤ s ∧ i = .int .i64 j ∧ Ext w7 wr ∧ Hid (∀ (l : Nat) (h : l < seen.length), l < j → seen[l] ≠ y)) (fun i _ => s - (intOf i).toNat)
          case atStart => exact ⟨0, Nat.zero_le _, rfl, Ext.refl _, fun _ _ h => absurd h (Nat.not_lt_zero _)⟩
          case round =>
            obtain ⟨j, hj, rfl, hr8, hno⟩ := hrel
            by_cases hjs : j < s
            · have hj' : j < seen.length := by rw [← hsl.out]; exact hjs
              obtain ⟨b3, off3, rfl, hcs⟩ := HS7.out j hj'
              obtain ⟨x, hx⟩ : ∃ x, seen[j] = x := ⟨_, rfl⟩
              rw [hx] at hcs
              have HX := Lib.hid hx; clear hx
              have k0 : ∀ z : Aft wr, z.1.cell? ⟨b3, off3 + j, none⟩ = some (.int .i64 x) := fun z => (hr7.trans (hr8.trans z.2)).cell hcs
              have k1 : ∀ z : Aft wr, z.1.cell? ⟨b2, off2 + q, none⟩ = some (.int .i64 y) := fun z => (hr7.trans (hr8.trans z.2)).cell HCI.out
              clear hcs
              cases hxy : (x == y)
              · have HNE := Lib.hid (show x ≠ y from fun e => by rw [e] at hxy; simp at hxy)
                go_wp2
                (refine wp_region_aft wr (Ext.refl _) (by kernel_rfl) (by kernel_rfl) ?_; (repeat (go_big_quiet_step (fail))); refine wpQuiet_nil ?_; intro w2 hx2)
                go_wp2
                go_roundw
                case rel =>
                  refine ⟨j + 1, by omega, by go_num, by (repeat' (first | (with_reducible exact Ext.refl _) | (with_reducible assumption) | (with_reducible refine Ext.alloc ?_ _) | (with_reducible refine Ext.drewN ?_ _) | (with_reducible refine Ext.drew ?_) | (with_reducible refine Ext.setCell ?_ ?_ _) | (with_reducible exact Nat.le_refl _) | (with_reducible exact Nat.le_succ _) | (with_reducible refine Ext.trans ?_ (by assumption)) | (simp; done) | (simp; omega))), fun l hl hlj => ?_⟩
                  by_cases e : l = j
                  · subst e
                    rw [HX.out]
                    exact HNE.out
                  · exact hno.out l hl (by omega)
                case measure => simp [intOf]; omega
              · have he : x = y := by simpa using hxy
                have hR := Lib.hid (show R = false by
                  have : seen.contains ids[q] = true := by rw [HY.out, ← he, ← HX.out]; simp
                  rw [HD2.out, any_found hq' this]; rfl)
                clear he
                go_wp2
                (refine wp_region_aft wr (Ext.refl _) (by kernel_rfl) (by kernel_rfl) ?_; (repeat (go_big_quiet_step (fail))); refine wpQuiet_nil ?_; intro w2 hx2)
                go_wp2
                go_ret
                exact ⟨ret_bool hR.out.symm, hx6.trans (hr7.trans (hr8.trans (by (repeat' (first | (with_reducible exact Ext.refl _) | (with_reducible assumption) | (with_reducible refine Ext.alloc ?_ _) | (with_reducible refine Ext.drewN ?_ _) | (with_reducible refine Ext.drew ?_) | (with_reducible refine Ext.setCell ?_ ?_ _) | (with_reducible exact Nat.le_refl _) | (with_reducible exact Nat.le_succ _) | (with_reducible refine Ext.trans ?_ (by assumption)) | (simp; done) | (simp; omega))))))⟩
            · have HNO := Lib.hid (show seen.contains ids[q] = false by
                rw [HY.out]
                have : y ∉ seen := fun hm => by
                  obtain ⟨l, hl, e⟩ := List.getElem_of_mem hm
                  exact hno.out l hl (by have := hsl.out; omega) e
                simpa using this)
              clear hno
              go_wp2
              go_roundw
              case rel =>
                refine ⟨q + 1, by omega, by go_num, hr7.trans hr8, fun j hj hjq => ?_⟩
                by_cases e : j = q
                · subst e
                  exact HNO.out
                · exact hnone.out j hj (by omega)
              case measure => simp [intOf]; omega
        · have HAN := Lib.hid (show R = difGo (seen ++ ids) (tIds (ts.drop (k + 1))) by
            rw [HD2.out, any_none (fun j hj => hnone.out j hj (by have := HP.out; omega))]; rfl)
          clear hnone
          have HO7 := Lib.hid (HO6.out.ext hr7)
          have hw7 := hx6.trans hr7
          have hsz7 := hw7.size
          have HLE := Lib.hid (show seen.length + ids.length ≤ 1048576 by have h1 := hsl.out; have h2 := HP.out; omega)
          have HSL := Lib.hid (show s + p = (seen ++ ids).length by rw [List.length_append, ← hsl.out, ← HP.out])
          go_wp2_with (at_builtin; refine wpList_plain rfl fun K hK => wp_append_ints _ _ rfl w.heap.size _ seen ids rfl HO7.out a6 p c6 HP.out rfl HNIL.out (HI6.out.ext hr7) HLE.out hsz7 ?_)
          intro v' w9 hown9 hgrow9 _
          have hx9 : Ext w w9 := Ext.own2 hw7 hgrow9 HO7.out (Nat.le_refl _)
          have HO9 := Lib.hid hown9; clear hown9 hgrow9
          refine hK _ _ ?_
          clear hK K
          go_wp2
          go_roundw
          case rel => exact ⟨k + 1, s + p, _, by omega, by go_num, hx9, by omega, HSL.out, HO9.out, HAN.out⟩
          case measure => simp [intOf]; omega
    · have hd : ts.drop k = [] := List.drop_eq_nil_of_le (by rw [← HN.out]; omega)
      rw [hd] at hgo
      go_wp2
      go_ret
      exact ⟨ret_bool (by rw [hgo.out]; rfl), hr⟩

set_option maxHeartbeats 4000000 in
theorem specTrains_any (R : Bool) (a : Option Addr) (n c : Nat) (ts : List Tn) (w : World) (hn : n = ts.length) (hs : n ≤ 1048576) (hts : ∀ t ∈ ts, SmallT t) (hf : TrainsAt w a ts) (hR : distinct ts = R) :
    Calls Try.prog 111 #[.slice a n c] w fun e w' => e = .returned (.bool R) ∧ Ext w w' := by
  have HF := Lib.hid hf; clear hf
  have HT := Lib.hid hts; clear hts
  obtain ⟨D, hD⟩ : ∃ D, difGo [] (tIds ts) = D := ⟨_, rfl⟩
  have HDD := Lib.hid hD
  by_cases h8 : n ≤ 8
  · have HR := Lib.hid (show R = (allOk ts && D) by rw [← hR, distinct, hD, ← hn, decide_eq_true h8]; rfl)
    clear hR hD
    have HN := Lib.hid hn; clear hn
    have d8 : decide (8 < (n : Int)) = false := by simp; omega
    go_enter Try.func111, Try.ntmps111
    go_wp2
    go_loopw [3] (fun i wr => ∃ (k : Nat), k ≤ n ∧ i = .int .i64 k ∧ Ext w wr ∧ Hid (R = (allOk (ts.drop k) && D))) (fun i _ => n - (intOf i).toNat)
    case atStart => exact ⟨0, Nat.zero_le _, rfl, by (repeat' (first | (with_reducible exact Ext.refl _) | (with_reducible assumption) | (with_reducible refine Ext.alloc ?_ _) | (with_reducible refine Ext.drewN ?_ _) | (with_reducible refine Ext.drew ?_) | (with_reducible refine Ext.setCell ?_ ?_ _) | (with_reducible exact Nat.le_refl _) | (with_reducible exact Nat.le_succ _) | (with_reducible refine Ext.trans ?_ (by assumption)) | (simp; done) | (simp; omega))), HR.out⟩
    case round =>
      obtain ⟨k, hk, rfl, hr, hgo⟩ := hrel
      by_cases hlt : k < n
      · have hlt' : k < ts.length := by rw [← HN.out]; exact hlt
        obtain ⟨b, off, a', c', rfl, hc0, hc1, hml, hfr⟩ := HF.out k hlt'
        have e0 := hr.cell hc0
        have e1 := hr.cell hc1
        have HFR := Lib.hid (hfr.ext hr); clear hfr hc0 hc1
        have HD := Lib.hid (show R = (allOk (ts[k] :: ts.drop (k + 1)) && D) by rw [hgo.out, List.drop_eq_getElem_cons hlt'])
        obtain ⟨g1, g2, g3⟩ := HT.out ts[k] (List.getElem_mem _)
        obtain ⟨t, ht⟩ : ∃ t, ts[k] = t := ⟨_, rfl⟩
        rw [ht] at e0 e1 HFR HD hml g1 g3
        clear ht g2 hgo
        obtain ⟨u, rows⟩ := t
        dsimp only at e0 e1 HFR HD hml g1 g3
        obtain ⟨m, hm⟩ : ∃ m, m = rows.length := ⟨_, rfl⟩
        rw [← hm] at e1 g1
        have HM := Lib.hid hm; clear hm
        have HG1 := Lib.hid g1; clear g1
        have HG3 := Lib.hid g3; clear g3
        clear hml
        obtain ⟨q, hq⟩ : ∃ q, trainOk rows = q := ⟨_, rfl⟩
        have HD2 := Lib.hid (show R = ((q && allOk (ts.drop (k + 1))) && D) by rw [HD.out, ← hq]; rfl)
        clear HD
        have HQ := Lib.hid hq; clear hq
        cases q
        · have hR := Lib.hid (show R = false by rw [HD2.out]; simp)
          go_wp2_with (go_at_call 103; refine (HQ.out ▸ specTrainOk_any _ _ _ _ rows _ HM.out HG1.out HG3.out HFR.out).mono ?_; rintro e w6 ⟨rfl, hb6⟩)
          go_ret
          exact ⟨ret_bool hR.out.symm, hr.trans hb6⟩
        · have HD3 := Lib.hid (show R = (allOk (ts.drop (k + 1)) && D) by rw [HD2.out]; simp)
          go_wp2_with fail
          refine (HQ.out ▸ specTrainOk_any _ _ _ _ rows _ HM.out HG1.out HG3.out HFR.out).mono ?_
          rintro e w6 ⟨rfl, hb6⟩
          have hx6 := hr.trans hb6
          go_wp2
          go_roundw
          case rel => exact ⟨k + 1, by omega, by go_num, hx6, HD3.out⟩
          case measure => simp [intOf]; omega
      · have hd : ts.drop k = [] := List.drop_eq_nil_of_le (by rw [← HN.out]; omega)
        rw [hd] at hgo
        have HRD := Lib.hid (show R = D by rw [hgo.out]; rfl)
        clear hgo
        go_wp2_with fail
        refine (specDifferent_any D a n c ts _ HN.out h8 HT.out (HF.out.ext hr) HDD.out).mono ?_
        rintro e w6 ⟨rfl, hb6⟩
        have hx6 := hr.trans hb6
        go_wp2
        go_ret
        exact ⟨ret_bool HRD.out.symm, hx6⟩
  · have HR := Lib.hid (show R = false by rw [← hR, distinct, ← hn, decide_eq_false h8]; rfl)
    clear hR hD
    have HN := Lib.hid hn; clear hn
    have d8 : decide (8 < (n : Int)) = true := by simp; omega
    go_enter Try.func111, Try.ntmps111
    go_wp2
    go_loopw [3] (fun i wr => i = .int .i64 0 ∧ Ext w wr) (fun i _ => 0)
    case atStart => exact ⟨rfl, by (repeat' (first | (with_reducible exact Ext.refl _) | (with_reducible assumption) | (with_reducible refine Ext.alloc ?_ _) | (with_reducible refine Ext.drewN ?_ _) | (with_reducible refine Ext.drew ?_) | (with_reducible refine Ext.setCell ?_ ?_ _) | (with_reducible exact Nat.le_refl _) | (with_reducible exact Nat.le_succ _) | (with_reducible refine Ext.trans ?_ (by assumption)) | (simp; done) | (simp; omega)))⟩
    case round =>
      obtain ⟨rfl, hr⟩ := hrel
      have hlt' : 0 < ts.length := by rw [← HN.out]; omega
      obtain ⟨b, off, a', c', rfl, hc0, hc1, hml, hfr⟩ := HF.out 0 hlt'
      have e0 := hr.cell hc0
      have e1 := hr.cell hc1
      have HFR := Lib.hid (hfr.ext hr); clear hfr hc0 hc1
      obtain ⟨g1, g2, g3⟩ := HT.out ts[0] (List.getElem_mem _)
      obtain ⟨t, ht⟩ : ∃ t, ts[0] = t := ⟨_, rfl⟩
      rw [ht] at e0 e1 HFR hml g1 g3
      clear ht g2
      obtain ⟨u, rows⟩ := t
      dsimp only at e0 e1 HFR hml g1 g3
      rw [Nat.zero_mul, Nat.add_zero] at e0 e1
      obtain ⟨m, hm⟩ : ∃ m, m = rows.length := ⟨_, rfl⟩
      rw [← hm] at e1 g1
      have HM := Lib.hid hm; clear hm
      have HG1 := Lib.hid g1; clear g1
      have HG3 := Lib.hid g3; clear g3
      clear hml
      have hpos : 0 < n := by omega
      obtain ⟨q, hq⟩ : ∃ q, trainOk rows = q := ⟨_, rfl⟩
      have HQ := Lib.hid hq; clear hq
      cases q
      all_goals
        go_wp2_with (go_at_call 103; refine (HQ.out ▸ specTrainOk_any _ _ _ _ rows _ HM.out HG1.out HG3.out HFR.out).mono ?_; rintro e w6 ⟨rfl, hb6⟩)
        go_ret
        exact ⟨ret_bool HR.out.symm, hr.trans hb6⟩

/-- A list of ints in blocks from lo to hi, after another row has grown. -/
theorem IntOwn.grown {lo hi : Nat} {w w' : World} {v : Value} {xs : List Int} {r : Option Nat} (h : IntOwn w lo hi v xs) (hg : w.grownBy w' r) (hr : ∀ k, r = some k → k < lo ∨ hi ≤ k) : IntOwn w' lo hi v xs := by
  obtain ⟨a, c, e, hc⟩ := h
  exact ⟨a, c, e, hc.imp id fun ⟨B, off, cur, e1, h1, h2, h3, h4⟩ => ⟨B, off, cur, e1, h1, h2, (hg.block B h3.lt (fun e => by have := hr B e.symm; omega)).trans h3, h4⟩⟩

set_option maxHeartbeats 4000000 in
theorem implDistinct_any (R : Bool) (a : Option Addr) (n c : Nat) (ts : List Tn) (w : World) (hn : n = ts.length) (hs : n ≤ 1048576) (hts : ∀ t ∈ ts, SmallT t) (hf : TrainsAt w a ts) (hR : distinct ts = R) :
    Calls Try.prog 99 #[.slice a n c] w fun e w' => e = .returned (.bool R) ∧ Ext w w' := by
  have HF := Lib.hid hf; clear hf
  have HT := Lib.hid hts; clear hts
  by_cases h8 : n ≤ 8
  case neg =>
    have HR := Lib.hid (show R = false by rw [← hR, distinct, ← hn, decide_eq_false h8]; rfl)
    clear hR hn
    have d8 : decide (8 < (n : Int)) = true := by simp; omega
    go_enter Try.func99, Try.ntmps99
    go_wp2
    go_ret
    exact ⟨ret_bool HR.out.symm, by (repeat' (first | (with_reducible exact Ext.refl _) | (with_reducible assumption) | (with_reducible refine Ext.alloc ?_ _) | (with_reducible refine Ext.drewN ?_ _) | (with_reducible refine Ext.drew ?_) | (with_reducible refine Ext.setCell ?_ ?_ _) | (with_reducible exact Nat.le_refl _) | (with_reducible exact Nat.le_succ _) | (with_reducible refine Ext.trans ?_ (by assumption)) | (simp; done) | (simp; omega)))⟩
  have HR := Lib.hid (show R = (allOk ts && difGo [] (tIds ts)) by rw [← hR, distinct, ← hn, decide_eq_true h8]; rfl)
  clear hR
  have HN := Lib.hid hn; clear hn
  have d8 : decide (8 < (n : Int)) = false := by simp; omega
  go_enter Try.func99, Try.ntmps99
  go_wp2
  go_loopw [3, 13] (fun v i wr => ∃ (k s : Nat) (seen : List Int), k ≤ n ∧ i = .int .i64 k ∧ Ext w wr ∧ s ≤ 6 * k ∧ Hid (s = seen.length) ∧ Hid (OwnInts wr w.heap.size v seen) ∧ Hid (R = (allOk (ts.drop k) && difGo seen (tIds (ts.drop k))))) (fun _ i _ => n - (intOf i).toNat)
  case atStart => exact ⟨0, 0, [], Nat.zero_le _, rfl, by (repeat' (first | (with_reducible exact Ext.refl _) | (with_reducible assumption) | (with_reducible refine Ext.alloc ?_ _) | (with_reducible refine Ext.drewN ?_ _) | (with_reducible refine Ext.drew ?_) | (with_reducible refine Ext.setCell ?_ ?_ _) | (with_reducible exact Nat.le_refl _) | (with_reducible exact Nat.le_succ _) | (with_reducible refine Ext.trans ?_ (by assumption)) | (simp; done) | (simp; omega))), Nat.zero_le _, rfl, OwnInts.nil _ _, HR.out⟩
  case round =>
    obtain ⟨k, s, seen, hk, rfl, hr, hs6, hsl, hown, hgo⟩ := hrel
    obtain ⟨w5, rfl⟩ : ∃ x, x = wr := ⟨_, rfl⟩
    by_cases hlt : k < n
    · have hlt' : k < ts.length := by rw [← HN.out]; exact hlt
      obtain ⟨b, off, a', c', rfl, hc0, hc1, hml, hfr⟩ := HF.out k hlt'
      have e0 := hr.cell hc0
      have e1 := hr.cell hc1
      have HFR := Lib.hid (hfr.ext hr); clear hfr hc0 hc1
      have HD := Lib.hid (show R = (allOk (ts[k] :: ts.drop (k + 1)) && difGo seen (tIds (ts[k] :: ts.drop (k + 1)))) by rw [hgo.out, List.drop_eq_getElem_cons hlt'])
      obtain ⟨g1, g2, g3⟩ := HT.out ts[k] (List.getElem_mem _)
      obtain ⟨t, ht⟩ : ∃ t, ts[k] = t := ⟨_, rfl⟩
      rw [ht] at e0 e1 HFR HD hml g1 g3
      clear ht g2 hgo
      obtain ⟨u, rows⟩ := t
      dsimp only at e0 e1 HFR HD hml g1 g3
      obtain ⟨m, hm⟩ : ∃ m, m = rows.length := ⟨_, rfl⟩
      rw [← hm] at e1 g1
      have HM := Lib.hid hm; clear hm
      have HG1 := Lib.hid g1; clear g1
      have HG3 := Lib.hid g3; clear g3
      clear hml
      obtain ⟨ids, hids⟩ : ∃ ids, idsOf rows = ids := ⟨_, rfl⟩
      obtain ⟨p, hp⟩ : ∃ p, p = ids.length := ⟨_, rfl⟩
      have hp6 : p ≤ 6 := by rw [hp, ← hids]; exact idsOf_len6 rows
      obtain ⟨ok, hok⟩ : ∃ ok, trainOk rows = ok := ⟨_, rfl⟩
      have HD2 := Lib.hid (show R = ((ok && allOk (ts.drop (k + 1))) && (!(ids.any (fun i => seen.contains i)) && difGo (seen ++ ids) (tIds (ts.drop (k + 1))))) by rw [HD.out, ← hids, ← hok]; rfl)
      clear HD
      have HND := Lib.hid (show ∀ (i j : Nat) (hi : i < ids.length) (hj : j < ids.length), i < j → ids[i] ≠ ids[j] by rw [← hids]; exact idsOf_nodup rows)
      have HI := Lib.hid hids; clear hids
      have HP := Lib.hid hp; clear hp
      have HOK := Lib.hid hok; clear hok
      cases ok
      · have hR := Lib.hid (show R = false by rw [HD2.out]; simp)
        go_wp2_with (go_at_call 96; refine (HOK.out ▸ implTrainOk_any _ _ _ _ rows _ HM.out HG1.out HG3.out (HFR.out.ext (by (repeat' (first | (with_reducible exact Ext.refl _) | (with_reducible assumption) | (with_reducible refine Ext.alloc ?_ _) | (with_reducible refine Ext.drewN ?_ _) | (with_reducible refine Ext.drew ?_) | (with_reducible refine Ext.setCell ?_ ?_ _) | (with_reducible exact Nat.le_refl _) | (with_reducible exact Nat.le_succ _) | (with_reducible refine Ext.trans ?_ (by assumption)) | (simp; done) | (simp; omega)))))).mono ?_; rintro e w6 ⟨rfl, hb6⟩)
        go_ret
        exact ⟨ret_bool hR.out.symm, by (repeat' (first | (with_reducible exact Ext.refl _) | (with_reducible assumption) | (with_reducible refine Ext.alloc ?_ _) | (with_reducible refine Ext.drewN ?_ _) | (with_reducible refine Ext.drew ?_) | (with_reducible refine Ext.setCell ?_ ?_ _) | (with_reducible exact Nat.le_refl _) | (with_reducible exact Nat.le_succ _) | (with_reducible refine Ext.trans ?_ (by assumption)) | (simp; done) | (simp; omega)))⟩
      · have bx := RowAt.new w5 36 #[.bool u, .slice a' m c']
        go_wp2_with fail
        refine (HOK.out ▸ implTrainOk_any _ _ _ _ rows _ HM.out HG1.out HG3.out (HFR.out.ext ((Ext.refl _).alloc _))).mono ?_
        rintro e w6 ⟨rfl, hb6⟩
        have bx6 := bx.ext hb6
        have m0 : w6.cell? ⟨w5.heap.size, 0, none⟩ = some (.bool u) := bx6.cell rfl
        have m1 : w6.cell? ⟨w5.heap.size, 1, none⟩ = some (.slice a' m c') := bx6.cell rfl
        have hx56 : Ext w5 w6 := Ext.trans ((Ext.refl w5).alloc _) hb6
        clear bx bx6 hb6 e0 e1
        go_wp2_with fail
        refine (implIdsOf_is ids p _ _ _ _ rows _ HM.out HG1.out HG3.out (HFR.out.ext hx56) HI.out HP.out).mono ?_
        rintro e w7 ⟨a7, c7, rfl, hi7, hb7⟩
        have HI7 := Lib.hid hi7; clear hi7
        have hx7 : Ext w w7 := hr.trans (hx56.trans hb7)
        have HO7 := Lib.hid (hown.out.ext (hx56.trans hb7))
        have HBK7 := Lib.hid (show ∀ g, u3.ownBlock = some g → g < w6.heap.size ∨ w7.heap.size ≤ g from fun g hg => .inl (by have := (ownsRow_lt hown.out hg).2; have := hx56.size; omega))
        have HO77 := Lib.hid (show OwnInts w7 w.heap.size u3 (seen ++ ids.take 0) by rw [List.take_zero, List.append_nil]; exact HO7.out)
        have s7 := hb7.size
        clear m0 m1 hown HO7
        go_wp2
        go_loopw [3, 23] (fun v i wr => ∃ q : Nat, q ≤ p ∧ i = .int .i64 q ∧ Ext w wr ∧ w7.heap.size ≤ wr.heap.size ∧ Hid (IntOwn wr w6.heap.size w7.heap.size (.slice a7 p c7) ids) ∧ Hid (OwnInts wr w.heap.size v (seen ++ ids.take q)) ∧ Hid (∀ g, v.ownBlock = some g → g < w6.heap.size ∨ w7.heap.size ≤ g) ∧ Hid (∀ (j : Nat) (h : j < ids.length), j < q → seen.contains ids[j] = false)) (fun _ i _ => p - (intOf i).toNat)
        case atStart => exact ⟨0, Nat.zero_le _, rfl, hx7, Nat.le_refl _, HI7.out, HO77.out, HBK7.out, fun _ _ h => absurd h (Nat.not_lt_zero _)⟩
        case round =>
          obtain ⟨q, hq, rfl, hr8, hs8, hio, hown8, hbk8, hnone⟩ := hrel
          obtain ⟨w8, rfl⟩ : ∃ x, x = wr := ⟨_, rfl⟩
          by_cases hqp : q < p
          · have hq' : q < ids.length := by rw [← HP.out]; exact hqp
            obtain ⟨b2, off2, rfl, hci⟩ := hio.out.at q hq'
            obtain ⟨y, hy⟩ : ∃ y, ids[q] = y := ⟨_, rfl⟩
            rw [hy] at hci
            have HY := Lib.hid hy; clear hy
            obtain ⟨l, hl⟩ : ∃ l, l = seen ++ ids.take q := ⟨_, rfl⟩
            have HL := Lib.hid hl
            have HOW := Lib.hid (show OwnInts w8 w.heap.size u3 l by rw [hl]; exact hown8.out)
            obtain ⟨r, hrl⟩ : ∃ r, r = l.length := ⟨_, rfl⟩
            have hr54 : r ≤ 60 := by
              rw [hrl, hl, List.length_append, List.length_take, ← hsl.out]
              omega
            have hcon : l.contains y = seen.contains y := by
              rw [hl]
              have hno : y ∉ ids.take q := fun hm => by
                obtain ⟨j, hj, e⟩ := List.getElem_of_mem hm
                rw [List.getElem_take] at e
                have hjq : j < q := by rw [List.length_take] at hj; omega
                exact HND.out j q (by omega) hq' hjq (e.trans HY.out.symm)
              simp [hno]
            obtain ⟨d, hd⟩ : ∃ d, l.contains y = d := ⟨_, rfl⟩
            rw [hd] at hcon
            have HC := Lib.hid hcon; clear hcon
            have HDD := Lib.hid hd; clear hd
            have HRL := Lib.hid hrl; clear hrl hl
            obtain ⟨a9, c9, hv, hi9, _⟩ := HOW.out.read
            rw [← HRL.out] at hv
            have HI9 := Lib.hid hi9; clear hi9
            have HMX := Lib.hid (show r ≤ maxLen by unfold maxLen; omega)
            cases d
            · have HNO := Lib.hid (show seen.contains ids[q] = false by rw [HY.out]; exact HC.out.symm)
              obtain ⟨l', hl'⟩ : ∃ l', l' = seen ++ ids.take (q + 1) := ⟨_, rfl⟩
              have HL' := Lib.hid (show l' = l ++ [y] by rw [hl', HL.out, List.take_succ_eq_append_getElem hq', HY.out, List.append_assoc])
              have HLE := Lib.hid (show l'.length ≤ 1048576 by rw [HL'.out, List.length_append, ← HRL.out]; simp; omega)
              have HLL := Lib.hid hl'; clear hl'
              subst hv
              go_wp2_with fail
              refine (containsInts_is false _ r _ y l _ HRL.out HMX.out HI9.out HDD.out).mono ?_
              rintro e w9 ⟨rfl, rfl⟩
              have hsz8 := hr8.size
              go_wp2_with (at_builtin; refine append_int rfl _ _ rfl w.heap.size _ l l' y HL'.out rfl (HOW.out.ext ((Ext.refl w8).alloc (.cells #[.int .i64 y] 3))) w8.heap.size 1 rfl ((RowAt.new w8 3 #[.int .i64 y]).cell rfl) HLE.out (by simp; omega) ?_)
              intro v' w10 hown10 hg10 hat10
              have hx10 : Ext w w10 := Ext.own2 (hr8.trans ((Ext.refl w8).alloc _)) hg10 (HOW.out.ext ((Ext.refl w8).alloc (.cells #[.int .i64 y] 3))) (Nat.le_refl _)
              have HIO10 := Lib.hid ((hio.out.ext ((Ext.refl w8).alloc (.cells #[.int .i64 y] 3))).grown hg10 hbk8.out)
              have HBK10 := Lib.hid (show ∀ g, v'.ownBlock = some g → g < w6.heap.size ∨ w7.heap.size ≤ g from fun g hg => by
                rcases hat10 with h | h
                · exact hbk8.out g (by rw [← h]; exact hg)
                · rw [h] at hg
                  have := Option.some.inj hg
                  (try simp only [World.size_alloc] at this)
                  right; omega)
              have HO10 := Lib.hid (show OwnInts w10 w.heap.size v' (seen ++ ids.take (q + 1)) by rw [← HLL.out]; exact hown10)
              have hs10 := hg10.size
              (try simp only [World.size_alloc] at hs10)
              clear hown10 hg10 hat10
              go_wp2
              go_roundw
              case rel =>
                refine ⟨q + 1, by omega, by go_num, hx10, by omega, HIO10.out, HO10.out, HBK10.out, fun j hj hjq => ?_⟩
                by_cases e : j = q
                · subst e
                  exact HNO.out
                · exact hnone.out j hj (by omega)
              case measure => simp [intOf]; omega
            · have hR := Lib.hid (show R = false by
                rw [HD2.out, any_found hq' (by rw [HY.out]; exact HC.out.symm)]; simp)
              subst hv
              go_wp2_with (go_at_call 131; refine (containsInts_is true _ r _ y l _ HRL.out HMX.out HI9.out HDD.out).mono ?_; rintro e w9 ⟨rfl, rfl⟩)
              go_ret
              exact ⟨ret_bool hR.out.symm, by (repeat' (first | (with_reducible exact Ext.refl _) | (with_reducible assumption) | (with_reducible refine Ext.alloc ?_ _) | (with_reducible refine Ext.drewN ?_ _) | (with_reducible refine Ext.drew ?_) | (with_reducible refine Ext.setCell ?_ ?_ _) | (with_reducible exact Nat.le_refl _) | (with_reducible exact Nat.le_succ _) | (with_reducible refine Ext.trans ?_ (by assumption)) | (simp; done) | (simp; omega)))⟩
          · have hqe : q = p := by omega
            have HAN := Lib.hid (show R = (allOk (ts.drop (k + 1)) && difGo (seen ++ ids) (tIds (ts.drop (k + 1)))) by
              rw [HD2.out, any_none (fun j hj => hnone.out j hj (by have := HP.out; omega))]; simp)
            have HO9 := Lib.hid (show OwnInts w8 w.heap.size u3 (seen ++ ids) by
              have := hown8.out
              rw [hqe, HP.out, List.take_length] at this
              exact this)
            have HSL := Lib.hid (show s + p = (seen ++ ids).length by rw [List.length_append, ← hsl.out, ← HP.out])
            clear hnone hown8 hbk8 hio
            go_wp2
            go_roundw
            case rel => exact ⟨k + 1, s + p, _, by omega, by go_num, hr8, by omega, HSL.out, HO9.out, HAN.out⟩
            case measure => simp [intOf]; omega
    · have hd : ts.drop k = [] := List.drop_eq_nil_of_le (by rw [← HN.out]; omega)
      rw [hd] at hgo
      go_wp2
      go_ret
      exact ⟨ret_bool (by rw [hgo.out]; rfl), hr⟩
end Go.Proofs.Ytooedgaaaoinbaa
