/- ParseTrain of the program. -/
import Derived.Test.YtjjikcjhnglkaaaDoorProg
import Derived.Test.YtjjikcjhnglkaaaDoorParseI
import Derived.Test.YtjjikcjhnglkaaaDoorReform
namespace Go.Proofs.YtjjikcjhnglkaaaDoor
open Go.RowKit
set_option linter.unusedSimpArgs false
set_option linter.unusedVariables false

theorem loop_len : ∀ (n : Nat) (bs : ByteArray) (i : Nat) (r : List UInt8), bs.size - i = n → r.length ≤ (ByteArray.toList.loop bs i r).length := by
  intro n
  induction n with
  | zero =>
    intro bs i r h
    rw [ByteArray.toList.loop.eq_def, if_neg (by omega), List.length_reverse]
    exact Nat.le_refl _
  | succ n ih =>
    intro bs i r h
    rw [ByteArray.toList.loop.eq_def, if_pos (by omega)]
    have := ih bs (i + 1) (bs.get! i :: r) (by omega)
    rw [List.length_cons] at this
    omega
theorem toList_ne {t : ByteArray} (h : 0 < t.size) : ¬ t.toList = [] := fun e => by
  unfold ByteArray.toList at e
  rw [ByteArray.toList.loop.eq_def, if_pos h] at e
  have := loop_len _ t 1 (t.get! 0 :: []) rfl
  rw [e] at this
  simp at this
theorem toList_emp : (S []).toList = [] := by
  unfold ByteArray.toList
  rw [ByteArray.toList.loop.eq_def, if_neg (by rw [S_size]; simp)]
  rfl
theorem sum_splitP (c : UInt8) : ∀ s : List UInt8, ((splitP c s).map (fun p => p.length + 1)).sum = s.length + 1
  | [] => by rw [splitP]; rfl
  | b :: s => by
    have ih := sum_splitP c s
    by_cases hb : b = c
    · subst hb
      rw [splitP_hit, List.map_cons, List.sum_cons, ih, List.length_cons]
      simp; omega
    · obtain ⟨q, qs, hq⟩ := splitP_cons c s
      rw [hq, List.map_cons, List.sum_cons] at ih
      rw [splitP_miss hb hq, List.map_cons, List.sum_cons, List.length_cons, List.length_cons]
      omega
theorem readRow_len {s : List UInt8} {r : List Bt} (h : readRow s = some r) : r.length ≤ s.length + 1 := by
  rw [readAll_len _ _ h]
  exact splitP_count 43 s
theorem readRows_flat : ∀ (ps : List (List UInt8)) (rows : List (List Bt)), readAll readRow ps = some rows → rows.flatten.length ≤ (ps.map (fun p => p.length + 1)).sum
  | [], rows, h => by cases h; simp
  | p :: ps, rows, h => by
    rw [readAll] at h
    cases h1 : readRow p with
    | none => rw [h1] at h; cases h
    | some a =>
      cases h2 : readAll readRow ps with
      | none => rw [h1, h2] at h; cases h
      | some ys =>
        rw [h1, h2] at h
        cases h
        have ih := readRows_flat ps ys h2
        have := readRow_len h1
        rw [List.flatten_cons, List.length_append, List.map_cons, List.sum_cons]
        omega
/-- What has been read, and what is still to be read. -/
def catO {α : Type} (acc : List α) (x : Option (List α)) : Option (List α) := match x with | none => none | some ys => some (acc ++ ys)
theorem catO_cons {α : Type} {f : List UInt8 → Option α} {acc : List α} {p : List UInt8} {ps : List (List UInt8)} {a : α} (h : f p = some a) : catO acc (readAll f (p :: ps)) = catO (acc ++ [a]) (readAll f ps) := by
  rw [readAll, h]
  cases readAll f ps with
  | none => rfl
  | some ys => simp [catO]
theorem catO_none {α : Type} {f : List UInt8 → Option α} {acc : List α} {p : List UInt8} {ps : List (List UInt8)} (h : f p = none) : catO acc (readAll f (p :: ps)) = none := by
  rw [readAll, h]; rfl
theorem catO_end {α : Type} {f : List UInt8 → Option α} {acc : List α} : catO acc (readAll f []) = some acc := by simp [readAll, catO]
theorem SAt.own {w w' : World} {b : Nat} {ps : List (List UInt8)} {r : Option Nat} (h : SAt w b ps) (hg : w.grownBy w' r) (hr : ∀ k, r = some k → k ≠ b) : SAt w' b ps := fun j hj => by
  have h1 := h j hj
  have hlt := World.block_lt_of_cell? w _ h1
  have := hg.block b hlt (fun e => hr b e.symm rfl)
  rw [World.cell?_of_block this]
  exact h1
/-- What ParseTrain hands back. -/
def trainRes (s : List UInt8) : Bool × List (List Bt) × Bool := match readTrain s with | none => (false, [], false) | some (u, rows) => (u, rows, true)
theorem S_tail (b : UInt8) (r : List UInt8) : (S (b :: r)).extract 1 (S (b :: r)).size = S r := by
  apply ByteArray.ext
  simp [S, ByteArray.size]

set_option maxRecDepth 100000 in
set_option maxHeartbeats 8000000 in
theorem implParseTrain_any (u1 R : Bool) (r1 : List (List Bt)) (n1 : Nat) (s : List UInt8) (w : World) (hs : s.length ≤ 1048576) (hm : MaxW w) (hR : trainRes s = (u1, r1, R)) (hn1 : n1 = r1.length) :
    Calls Tryd.prog 12 #[.string (S s)] w fun e w' => One w w' u1 R r1 n1 e := by
  have MW := Lib.hid hm; clear hm
  have HE := Lib.hid ((Ext.refl w).alloc (.cells #[.bool false, .slice none 0 0] 29))
  have RET := Lib.hid (RowAt.new w 29 #[.bool false, .slice none 0 0])
  cases s with
  | nil =>
    obtain ⟨rfl, rfl, rfl⟩ : u1 = false ∧ r1 = [] ∧ R = false := by
      have h : trainRes [] = (false, [], false) := rfl
      rw [h] at hR
      injection hR with h1 h2
      injection h2 with h2 h3
      exact ⟨h1.symm, h2.symm, h3.symm⟩
    have hz := Lib.hid (show n1 = 0 from hn1)
    clear hR hn1 RET HE
    have hne := toList_emp
    have hbe : (S []).toList.isEmpty = true := by rw [hne]; rfl
    obtain ⟨t, ht⟩ : ∃ t, S [] = t := ⟨_, rfl⟩
    rw [ht] at hne hbe ⊢
    clear ht
    go_enter Tryd.func12, Tryd.ntmps12
    go_wp2
    refine bodyPost_ret (v := .tuple #[.agg #[.bool false, .slice none 0 0], .bool false]) (by simp [results, Tryd.results12, go_sem, *]) rfl (One.zero hz.out (by (repeat' (first | (with_reducible exact Ext.refl _) | (with_reducible assumption) | (with_reducible refine Ext.alloc ?_ _) | (with_reducible refine Ext.drewN ?_ _) | (with_reducible refine Ext.drew ?_) | (with_reducible refine Ext.setCell ?_ ?_ _) | (with_reducible exact Nat.le_refl _) | (with_reducible exact Nat.le_succ _) | (with_reducible refine Ext.trans ?_ (by assumption)) | (simp; done) | (simp; omega)))))
  | cons b r =>
    obtain ⟨t, ht⟩ : ∃ t, S (b :: r) = t := ⟨_, rfl⟩
    obtain ⟨m, hm⟩ : ∃ m, r.length + 1 = m := ⟨_, rfl⟩
    have hsz : t.size = m := by rw [← ht, S_size, ← hm]; rfl
    have hne := toList_ne (t := t) (by omega)
    have hbe : t.toList.isEmpty = false := by simpa using hne
    have HEX := Lib.hid (show t.extract 1 m = S r by rw [← hsz, ← ht]; exact S_tail b r)
    obtain ⟨v0, hv0⟩ : ∃ v : Nat, b.toNat = v := ⟨_, rfl⟩
    have hb0 : ∀ h : 0 < t.size, (t[0].toNat : Int) = (v0 : Int) := fun h => by
      subst ht
      rw [← hv0]
      rfl
    have hlt0 : 0 < t.size := by omega
    have hrl : r.length ≤ 1048575 := by simp at hs; omega
    rw [ht]
    clear ht hs
    have hm1 : 1 ≤ m := by omega
    by_cases hno : ¬ (b = 94 ∨ b = 118)
    · obtain ⟨rfl, rfl, rfl⟩ : u1 = false ∧ r1 = [] ∧ R = false := by
        have h : trainRes (b :: r) = (false, [], false) := by unfold trainRes; rw [readTrain_cons, if_neg hno]
        rw [h] at hR
        injection hR with h1 h2
        injection h2 with h2 h3
        exact ⟨h1.symm, h2.symm, h3.symm⟩
      have hz := Lib.hid (show n1 = 0 from hn1)
      have q1 : ((v0 : Int) != 94) = true := by
        have : v0 ≠ 94 := fun h => hno (.inl (UInt8.toNat_inj.1 (by rw [hv0, h]; rfl)))
        simp; omega
      have q2 : ((v0 : Int) != 118) = true := by
        have : v0 ≠ 118 := fun h => hno (.inr (UInt8.toNat_inj.1 (by rw [hv0, h]; rfl)))
        simp; omega
      clear hR hn1 RET HE hv0 hno hm
      go_enter Tryd.func12, Tryd.ntmps12
      go_wp2
      refine bodyPost_ret (v := .tuple #[.agg #[.bool false, .slice none 0 0], .bool false]) (by simp [results, Tryd.results12, go_sem, *]) rfl (One.zero hz.out (by (repeat' (first | (with_reducible exact Ext.refl _) | (with_reducible assumption) | (with_reducible refine Ext.alloc ?_ _) | (with_reducible refine Ext.drewN ?_ _) | (with_reducible refine Ext.drew ?_) | (with_reducible refine Ext.setCell ?_ ?_ _) | (with_reducible exact Nat.le_refl _) | (with_reducible exact Nat.le_succ _) | (with_reducible refine Ext.trans ?_ (by assumption)) | (simp; done) | (simp; omega)))))
    have HRES := Lib.hid (show trainRes (b :: r) = match readRows r with | none => (false, [], false) | some rows => if trainOk rows = true then (b == 94, rows, true) else (false, [], false) by
      unfold trainRes
      rw [readTrain_cons, if_pos (Classical.not_not.1 hno)]
      cases readRows r with
      | none => rfl
      | some rows =>
        dsimp only
        by_cases h : trainOk rows = true
        · rw [if_pos h, if_pos h]
        · rw [if_neg h, if_neg h])
    rw [HRES.out] at hR
    have HR := Lib.hid hR; have HN1 := Lib.hid hn1; clear hR hn1
    obtain ⟨X, hX⟩ : ∃ X, readRows r = X := ⟨_, rfl⟩
    rw [hX] at HR HRES
    obtain ⟨nl, hnl⟩ : ∃ n, n = (splitP 47 r).length := ⟨_, rfl⟩
    have hnl1 : nl ≤ 1048576 := by rw [hnl]; have := splitP_count 47 r; omega
    have HNL := Lib.hid hnl; clear hnl
    have HX := Lib.hid (show X = catO [] (readAll readRow ((splitP 47 r).drop 0)) by rw [← hX, List.drop_zero]; unfold readRows; cases readAll readRow (splitP 47 r) <;> rfl)
    have HXF := Lib.hid (show ∀ rows, X = some rows → rows.flatten.length ≤ 1048576 from fun rows h => by
      have h1 := readRows_flat (splitP 47 r) rows (hX.trans h)
      rw [sum_splitP] at h1
      omega)
    have HLL := Lib.hid (show ∀ p ∈ splitP 47 r, p.length ≤ 1048575 from fun p hp => Nat.le_trans (splitP_len hp) hrl)
    obtain ⟨ps, hps⟩ : ∃ ps, splitP 47 r = ps := ⟨_, rfl⟩
    have HPS := Lib.hid hps
    rw [hps] at HNL HX HLL
    clear hX hps hm
    rcases Classical.not_not.1 hno with hb | hb
    · have hv : v0 = 94 := by rw [← hv0, hb]; rfl
      have HBB := Lib.hid (show (b == 94) = true by rw [hb]; rfl)
      clear hv0 hno hb
      subst hv
      go_enter Tryd.func12, Tryd.ntmps12
      go_wp2_with fail
      rw [HEX.out]
      have HE2 := Lib.hid (HE.out.trans ((Ext.refl _).alloc (.cells #[.bool true, .slice none 0 0] 29)))
      have BT := RowAt.new (w.alloc (.cells #[.bool false, .slice none 0 0] 29)) 29 #[.bool true, .slice none 0 0]
      simp only [World.size_alloc] at BT
      have RT2 := Lib.hid (RET.out.ext ((Ext.refl _).alloc (.cells #[.bool true, .slice none 0 0] 29)))
      refine (split_any 47 r _ nl (by rw [HPS.out]; exact HNL.out) (by omega) (MW.out.ext HE2.out)).mono ?_
      rintro e w2 ⟨rfl, hsa, hlt, hb⟩
      rw [HPS.out] at hsa
      simp only [World.size_alloc] at hsa hlt
      have HSA := Lib.hid hsa
      have KT := Lib.hid (BT.ext hb); have KR := Lib.hid (RT2.out.ext hb); have HX2 := Lib.hid (HE2.out.trans hb)
      clear hsa hb BT RT2 HE2 HE RET HEX hb0 hsz hne hbe hlt0
      go_wp2
      go_loopw [33] (fun i wr => ∃ (k p : Nat) (av : Option Addr) (cv : Nat) (vs : List Value) (acc : List (List Bt)), i = .int .i64 k ∧ k ≤ nl ∧ p ≤ k ∧ w2.heap.size ≤ wr.heap.size ∧ Hid (Ext w wr) ∧ Hid (RowAt wr w.heap.size 29 #[.bool false, .slice none 0 0]) ∧ Hid (RowAt wr (w.heap.size + 1) 29 #[.bool true, .slice av p cv]) ∧ Hid (SAt wr (w.heap.size + 1 + 1) ps) ∧ Hid (p = acc.length) ∧ Hid (GR wr w2.heap.size wr.heap.size (.slice av p cv) vs acc) ∧ Hid (X = catO acc (readAll readRow (ps.drop k)))) (fun i _ => nl - (intOf i).toNat)
      case atStart => exact ⟨0, 0, none, 0, [], [], rfl, Nat.zero_le _, Nat.le_refl _, Nat.le_refl _, HX2, KR, KT, HSA, Lib.hid rfl, Lib.hid (GR.nil _ _ _), HX⟩
      case round =>
        clear HX2 KR KT HSA HX
        obtain ⟨w3, rfl⟩ : ∃ x, x = wr := ⟨_, rfl⟩
        obtain ⟨k, p, av, cv, vs, acc, rfl, hk, hpk, hsz, hX3, KR, KT, HSA, HP, HG, HXK⟩ := hrel
        by_cases hlk : k < nl
        · have hkp : k < ps.length := by rw [← HNL.out]; exact hlk
          obtain ⟨line, hline⟩ : ∃ l, ps[k] = l := ⟨_, rfl⟩
          have hll : line.length ≤ 1048575 := by rw [← hline]; exact HLL.out _ (List.getElem_mem _)
          have c0 : w3.cell? ⟨w.heap.size + 1 + 1, k, none⟩ = some (.string (S line)) := by rw [← hline]; exact HSA.out k hkp
          have HXL := Lib.hid (show X = catO acc (readAll readRow (line :: ps.drop (k + 1))) by rw [HXK.out, List.drop_eq_getElem_cons hkp, hline])
          clear HXK hline
          obtain ⟨n2, hn2⟩ : ∃ n, n = (splitP 43 line).length := ⟨_, rfl⟩
          have hn2b : n2 ≤ 1048576 := by rw [hn2]; have := splitP_count 43 line; omega
          have HN2 := Lib.hid hn2; clear hn2
          obtain ⟨qs, hqs⟩ : ∃ qs, splitP 43 line = qs := ⟨_, rfl⟩
          obtain ⟨Y, hY⟩ : ∃ Y, readRow line = Y := ⟨_, rfl⟩
          have HY := Lib.hid (show Y = catO [] (readAll readBoat (qs.drop 0)) by rw [← hY, List.drop_zero, ← hqs]; unfold readRow; cases readAll readBoat (splitP 43 line) <;> rfl)
          have HYL := Lib.hid hY; clear hY
          have HQS := Lib.hid hqs; clear hqs
          have HQL := Lib.hid (show ∀ p ∈ qs, p.length ≤ 1048575 from fun p hp => by rw [← HQS.out] at hp; exact Nat.le_trans (splitP_len hp) hll)
          have hlkz : (k : Int) < (nl : Int) := by omega
          go_wp2_with fail
          refine (split_any 43 line _ n2 HN2.out (by omega) (MW.out.ext hX3.out)).mono ?_
          rintro e w4 ⟨rfl, hsa, hlt4, hb4⟩
          rw [HQS.out] at hsa HN2
          have HSQ := Lib.hid hsa; have HB4 := Lib.hid hb4
          clear c0 hsa hb4
          go_wp2
          go_loopw [7, 40] (fun v7 i wr => ∃ (j : Nat) (dn : List Bt), i = .int .i64 j ∧ j ≤ n2 ∧ dn.length ≤ j ∧ w4.heap.size ≤ wr.heap.size ∧ Hid (Ext w4 wr) ∧ Hid (OwnRow wr w4.heap.size v7 dn) ∧ Hid (Y = catO dn (readAll readBoat (qs.drop j)))) (fun _ i _ => n2 - (intOf i).toNat)
          case atStart => exact ⟨0, [], rfl, Nat.zero_le _, Nat.le_refl _, Nat.le_refl _, Lib.hid (Ext.refl _), Lib.hid (World.ownsRow_nil _ _ _ _), HY⟩
          case round =>
            clear HY
            obtain ⟨w5, rfl⟩ : ∃ x, x = wr := ⟨_, rfl⟩
            obtain ⟨j, dn, rfl, hj, hdn, hsz5, hr, hown, HYJ⟩ := hrel
            by_cases hlj : j < n2
            · have hjq : j < qs.length := by rw [← HN2.out]; exact hlj
              obtain ⟨tx, htx⟩ : ∃ l, qs[j] = l := ⟨_, rfl⟩
              have htl : tx.length ≤ 1048575 := by rw [← htx]; exact HQL.out _ (List.getElem_mem _)
              have c0 : w5.cell? ⟨w3.heap.size, j, none⟩ = some (.string (S tx)) := by rw [← htx]; exact hr.out.cell (HSQ.out j hjq)
              have HYT := Lib.hid (show Y = catO dn (readAll readBoat (tx :: qs.drop (j + 1))) by rw [HYJ.out, List.drop_eq_getElem_cons hjq, htx])
              clear HYJ htx
              have hljz : (j : Int) < (n2 : Int) := by omega
              go_wp2_with fail
              refine (implParseBoat_any tx _ (by omega) (MW.out.ext (hX3.out.trans (HB4.out.trans hr.out)))).mono ?_
              rintro e w6 ⟨hb6, hcase⟩
              clear c0
              have z6 := hb6.size
              have HB6 := Lib.hid hb6; clear hb6
              have HX6 := Lib.hid (hX3.out.trans (HB4.out.trans (hr.out.trans HB6.out)))
              rcases hcase with ⟨bt, hrb, rfl⟩ | ⟨hrb, rfl⟩
              · have HYN := Lib.hid (show Y = catO (dn ++ [bt]) (readAll readBoat (qs.drop (j + 1))) by rw [HYT.out]; exact catO_cons hrb)
                clear hrb HYT
                obtain ⟨bi, bl, bw, bd, bs, bc⟩ := bt
                have HA := Lib.hid (((Ext.refl w6).alloc (.cells #[.int .i64 bi, .int .i64 bl, .int .i64 bw, .int .i64 bd, .int .i64 bs, .int .i64 bc] 44)).alloc (.cells #[.int .i64 bi, .int .i64 bl, .int .i64 bw, .int .i64 bd, .int .i64 bs, .int .i64 bc] 44))
                have HFO := Lib.hid (show FlatAt ((w6.alloc (.cells #[.int .i64 bi, .int .i64 bl, .int .i64 bw, .int .i64 bd, .int .i64 bs, .int .i64 bc] 44)).alloc (.cells #[.int .i64 bi, .int .i64 bl, .int .i64 bw, .int .i64 bd, .int .i64 bs, .int .i64 bc] 44)) bCells 6 (some ⟨w6.heap.size + 1, 0, none⟩) [⟨bi, bl, bw, bd, bs, bc⟩] from by
                  have h := flat_one (w6.alloc (.cells #[.int .i64 bi, .int .i64 bl, .int .i64 bw, .int .i64 bd, .int .i64 bs, .int .i64 bc] 44)) bi bl bw bd bs bc
                  rw [World.size_alloc] at h
                  exact h)
                have HOW := Lib.hid (hown.out.ext (HB6.out.trans HA.out))
                go_wp2_with (at_builtin; refine wpList_plain rfl fun K hK => wp_append_row _ _ rfl w4.heap.size _ dn [⟨bi, bl, bw, bd, bs, bc⟩] rfl HOW.out (some ⟨w6.heap.size + 1, 0, none⟩) 1 1 rfl rfl (fun h => by cases h) HFO.out (by simp; omega) (by simp; omega) ?_)
                intro v' w7 hown7 hg7 hat7
                have HX7 := Lib.hid (Ext.own2 (hr.out.trans (HB6.out.trans HA.out)) hg7 HOW.out (Nat.le_refl _))
                have HO7 := Lib.hid hown7
                have z7 := hg7.size
                simp only [World.size_alloc] at z7
                clear hown7 hg7 hat7 HOW HA HFO
                refine hK _ _ ?_
                clear hK K
                go_wp2
                go_roundw
                case rel => exact ⟨j + 1, dn ++ [⟨bi, bl, bw, bd, bs, bc⟩], by go_num, by omega, by simp; omega, by omega, HX7, HO7, HYN⟩
                case measure => simp [intOf]; omega
              · have hXN : X = none := by
                  rw [HXL.out]
                  refine catO_none ?_
                  rw [HYL.out, HYT.out]
                  exact catO_none hrb
                obtain ⟨rfl, rfl, rfl⟩ : u1 = false ∧ r1 = [] ∧ R = false := by
                  have h := HR.out
                  rw [hXN] at h
                  injection h with h1 h2
                  injection h2 with h2 h3
                  exact ⟨h1.symm, h2.symm, h3.symm⟩
                have hz := Lib.hid (show n1 = 0 from HN1.out)
                have K6 := KR.out.ext ((HB4.out.trans (hr.out.trans HB6.out)).trans ((Ext.refl w6).alloc (.cells #[.int .i64 0, .int .i64 0, .int .i64 0, .int .i64 0, .int .i64 0, .int .i64 0] 44)))
                have y0 : (w6.alloc (.cells #[.int .i64 0, .int .i64 0, .int .i64 0, .int .i64 0, .int .i64 0, .int .i64 0] 44)).cell? ⟨w.heap.size, 0, none⟩ = some (.bool false) := K6.cell rfl
                have y1 : (w6.alloc (.cells #[.int .i64 0, .int .i64 0, .int .i64 0, .int .i64 0, .int .i64 0, .int .i64 0] 44)).cell? ⟨w.heap.size, 1, none⟩ = some (.slice none 0 0) := K6.cell rfl
                have f0 := K6.frozen 0; have f1 := K6.frozen 1
                have hxx := HX6.out
                clear hXN hrb K6
                go_wp2
                refine bodyPost_ret (v := .tuple #[.agg #[.bool false, .slice none 0 0], .bool false]) (by simp [results, Tryd.results12, go_sem, *]) rfl (One.zero hz.out (by (repeat' (first | (with_reducible exact Ext.refl _) | (with_reducible assumption) | (with_reducible refine Ext.alloc ?_ _) | (with_reducible refine Ext.drewN ?_ _) | (with_reducible refine Ext.drew ?_) | (with_reducible refine Ext.setCell ?_ ?_ _) | (with_reducible exact Nat.le_refl _) | (with_reducible exact Nat.le_succ _) | (with_reducible refine Ext.trans ?_ (by assumption)) | (simp; done) | (simp; omega)))))
            · have hjn : j = n2 := by omega
              have HYE := Lib.hid (show readRow line = some dn by rw [HYL.out, HYJ.out, List.drop_eq_nil_of_le (by rw [hjn, HN2.out]; exact Nat.le_refl _)]; exact catO_end)
              have HXN := Lib.hid (show X = catO (acc ++ [dn]) (readAll readRow (ps.drop (k + 1))) by rw [HXL.out]; exact catO_cons HYE.out)
              clear HYJ HYE HXL HYL
              obtain ⟨au, cu, hv7⟩ := hown.out.form
              obtain ⟨q, hq⟩ : ∃ q, dn.length = q := ⟨_, rfl⟩
              rw [hq] at hv7
              subst hv7
              have HQ := Lib.hid hq; clear hq
              have HX35 := Lib.hid (HB4.out.trans hr.out)
              have KT5 := Lib.hid (KT.out.ext HX35.out); have KR5 := Lib.hid (KR.out.ext HX35.out); have HS5 := Lib.hid (HSA.out.ext HX35.out)
              have HA := Lib.hid ((Ext.refl w5).alloc (.cells #[.slice au q cu] 42))
              have HOW := Lib.hid (ownsRow_ext HG.out.2.1 (HX35.out.trans HA.out))
              rw [← HP.out] at HOW
              have HON := Lib.hid (one_new w5 42 (.slice au q cu))
              have HVG := Lib.hid (fun g (hg : (Value.slice av p cv).ownBlock = some g) => (ownsRow_lt HG.out.2.1 hg).1)
              have t1 : w5.cell? ⟨w.heap.size + 1, 1, none⟩ = some (.slice av p cv) := KT5.out.cell rfl
              have hljz : ¬ (j : Int) < (n2 : Int) := by omega
              go_wp2_with (at_builtin; refine wpList_plain rfl fun K hK => wp_append_outer _ _ rfl w2.heap.size _ _ vs rfl HOW.out (some ⟨w5.heap.size, 0, none⟩) 1 1 rfl [.slice au q cu] rfl (fun h => by cases h) HON.out (fun x hx => by cases List.mem_singleton.1 hx; rfl) (by omega) (by simp; omega) ?_)
              intro v' w7 hown7 hg7 hat7
              clear t1
              obtain ⟨g', cap', hv', _, _⟩ := World.ownsRow.form hown7 (by omega)
              subst hv'
              have z7 := hg7.size
              simp only [World.size_alloc] at z7
              have YG0 := GR.push (row := dn) HG.out (Nat.le_refl _) (HX35.out.trans HA.out) (ownsRow_low (hown.out.ext HA.out) (by omega)) (fun g hg => by have := (ownsRow_lt hown.out hg).1; omega) (by rw [← HP.out]; exact hown7) hg7 (by simp only [World.size_alloc]; exact hat7)
              have YT0 := (KT5.out.ext HA.out).own hg7 (fun g hg => by have := HVG.out g hg; omega)
              have YR0 := (KR5.out.ext HA.out).own hg7 (fun g hg => by have := HVG.out g hg; omega)
              have YS0 := (HS5.out.ext HA.out).own hg7 (fun g hg => by have := HVG.out g hg; omega)
              have YX0 := Ext.own (hX3.out.trans (HX35.out.trans HA.out)) hg7 (fun g hg => by have := HVG.out g hg; omega)
              have o1 : w7.cell? ⟨w.heap.size + 1, 1, none⟩ = some (.slice av p cv) := YT0.cell rfl
              have o2 := YT0.frozen 1
              have YT := Lib.hid (YT0.set 1 (.slice (some ⟨g', 0, none⟩) (p + 1) cap'))
              have YR := Lib.hid (YR0.other (p := ⟨w.heap.size + 1, 1, none⟩) (by dsimp only; omega) (.slice (some ⟨g', 0, none⟩) (p + 1) cap'))
              have YS := Lib.hid (YS0.own (grownBy_set w7 ⟨w.heap.size + 1, 1, none⟩ (.slice (some ⟨g', 0, none⟩) (p + 1) cap')) (fun g hg => by cases hg; dsimp only; omega))
              have YX := Lib.hid (YX0.setCell (p := ⟨w.heap.size + 1, 1, none⟩) (by dsimp only; omega) (.slice (some ⟨g', 0, none⟩) (p + 1) cap'))
              have YG := Lib.hid ((YG0.set (p := ⟨w.heap.size + 1, 1, none⟩) (.inl (by dsimp only; omega)) (.slice (some ⟨g', 0, none⟩) (p + 1) cap')).wide (hi' := (w7.setCell ⟨w.heap.size + 1, 1, none⟩ (.slice (some ⟨g', 0, none⟩) (p + 1) cap')).heap.size) (Nat.le_refl _) (by rw [size_setCell']; exact Nat.le_refl _))
              clear hown7 hg7 hat7 YG0 YT0 YR0 YS0 YX0 HOW HON HVG HA
              refine hK _ _ ?_
              clear hK K
              go_wp2
              go_roundw
              case rel => exact ⟨k + 1, p + 1, _, cap', _, _, by go_num, by omega, by omega, by (rw [size_setCell']; omega), YX, YR, YT, YS, Lib.hid (by rw [List.length_append, ← HP.out]; rfl), YG, HXN⟩
              case measure => simp [intOf]; omega
        · have hkn : k = nl := by omega
          have hXE : X = some acc := by rw [HXK.out, List.drop_eq_nil_of_le (by rw [hkn, HNL.out]; exact Nat.le_refl _)]; exact catO_end
          have HFL := Lib.hid (HXF.out acc hXE)
          obtain ⟨a0, cc0, hv0, _, hrows⟩ := HG.out.rows
          injection hv0 with e1 e2 e3
          subst e1
          have HRW := Lib.hid hrows; clear hrows e2 e3
          have t0 : w3.cell? ⟨w.heap.size + 1, 0, none⟩ = some (.bool true) := KT.out.cell rfl
          have t1 : w3.cell? ⟨w.heap.size + 1, 1, none⟩ = some (.slice av p cv) := KT.out.cell rfl
          have hlkz : ¬ (k : Int) < (nl : Int) := by omega
          have hpn : p ≤ 1048576 := by omega
          have HXE := Lib.hid hXE; clear hXE
          have hRa := HR.out
          rw [HXE.out] at hRa
          dsimp only at hRa
          cases tok : trainOk acc
          · rw [tok, if_neg (by decide)] at hRa
            obtain ⟨rfl, rfl, rfl⟩ : u1 = false ∧ r1 = [] ∧ R = false := by
              injection hRa with h1 h2
              injection h2 with h2 h3
              exact ⟨h1.symm, h2.symm, h3.symm⟩
            have hz := Lib.hid (show n1 = 0 from HN1.out)
            have TOK := Lib.hid tok
            clear hRa tok
            go_wp2_with fail
            refine (TOK.out ▸ implTrainOk_any _ _ _ _ acc _ HP.out hpn HFL.out HRW.out).mono ?_
            rintro e w4 ⟨rfl, hb4⟩
            clear t0 t1
            have K6 := KR.out.ext hb4
            have y0 : w4.cell? ⟨w.heap.size, 0, none⟩ = some (.bool false) := K6.cell rfl
            have y1 : w4.cell? ⟨w.heap.size, 1, none⟩ = some (.slice none 0 0) := K6.cell rfl
            have f0 := K6.frozen 0; have f1 := K6.frozen 1
            have hxx := hX3.out.trans hb4
            clear K6
            go_wp2
            refine bodyPost_ret (v := .tuple #[.agg #[.bool false, .slice none 0 0], .bool false]) (by simp [results, Tryd.results12, go_sem, *]) rfl (One.zero hz.out (by (repeat' (first | (with_reducible exact Ext.refl _) | (with_reducible assumption) | (with_reducible refine Ext.alloc ?_ _) | (with_reducible refine Ext.drewN ?_ _) | (with_reducible refine Ext.drew ?_) | (with_reducible refine Ext.setCell ?_ ?_ _) | (with_reducible exact Nat.le_refl _) | (with_reducible exact Nat.le_succ _) | (with_reducible refine Ext.trans ?_ (by assumption)) | (simp; done) | (simp; omega)))))
          · rw [tok, if_pos rfl, HBB.out] at hRa
            obtain ⟨rfl, rfl, rfl⟩ : u1 = true ∧ r1 = acc ∧ R = true := by
              injection hRa with h1 h2
              injection h2 with h2 h3
              exact ⟨h1.symm, h2.symm, h3.symm⟩
            have hz := Lib.hid (show n1 = p by rw [HN1.out, HP.out])
            have TOK := Lib.hid tok
            clear hRa tok
            go_wp2_with fail
            refine (TOK.out ▸ implTrainOk_any _ _ _ _ r1 _ HP.out hpn HFL.out HRW.out).mono ?_
            rintro e w4 ⟨rfl, hb4⟩
            clear t0 t1
            have z4 := hb4.size
            have K6 := KR.out.ext hb4
            have y0 : w4.cell? ⟨w.heap.size, 0, none⟩ = some (.bool false) := K6.cell rfl
            have y1 : w4.cell? ⟨w.heap.size, 1, none⟩ = some (.slice none 0 0) := K6.cell rfl
            have f0 := K6.frozen 0; have f1 := K6.frozen 1
            have T6 := KT.out.ext hb4
            have t0 : w4.cell? ⟨w.heap.size + 1, 0, none⟩ = some (.bool true) := T6.cell rfl
            have t1 : w4.cell? ⟨w.heap.size + 1, 1, none⟩ = some (.slice av p cv) := T6.cell rfl
            have hxx := hX3.out.trans hb4
            have HG4 := Lib.hid (HG.out.ext hb4)
            clear K6 T6
            go_wp2
            refine bodyPost_ret (v := .tuple #[.agg #[.bool true, .slice av p cv], .bool true]) (by simp [results, Tryd.results12, go_sem, *]) rfl ⟨av, cv, by rw [hz.out], ?_, by (repeat' (first | (with_reducible exact Ext.refl _) | (with_reducible assumption) | (with_reducible refine Ext.alloc ?_ _) | (with_reducible refine Ext.drewN ?_ _) | (with_reducible refine Ext.drew ?_) | (with_reducible refine Ext.setCell ?_ ?_ _) | (with_reducible exact Nat.le_refl _) | (with_reducible exact Nat.le_succ _) | (with_reducible refine Ext.trans ?_ (by assumption)) | (simp; done) | (simp; omega)))⟩
            exact (((HG4.out.set (p := ⟨w.heap.size, 0, none⟩) (.inl (by simp; try omega)) _).set (p := ⟨w.heap.size, 1, none⟩) (.inl (by simp; try omega)) _).wide (by omega) (by simp [size_setCell']; try omega)).ownAt
    · have hv : v0 = 118 := by rw [← hv0, hb]; rfl
      have HBB := Lib.hid (show (b == 94) = false by rw [hb]; rfl)
      clear hv0 hno hb
      subst hv
      go_enter Tryd.func12, Tryd.ntmps12
      go_wp2_with fail
      rw [HEX.out]
      have HE2 := Lib.hid (HE.out.trans ((Ext.refl _).alloc (.cells #[.bool false, .slice none 0 0] 29)))
      have BT := RowAt.new (w.alloc (.cells #[.bool false, .slice none 0 0] 29)) 29 #[.bool false, .slice none 0 0]
      simp only [World.size_alloc] at BT
      have RT2 := Lib.hid (RET.out.ext ((Ext.refl _).alloc (.cells #[.bool false, .slice none 0 0] 29)))
      refine (split_any 47 r _ nl (by rw [HPS.out]; exact HNL.out) (by omega) (MW.out.ext HE2.out)).mono ?_
      rintro e w2 ⟨rfl, hsa, hlt, hb⟩
      rw [HPS.out] at hsa
      simp only [World.size_alloc] at hsa hlt
      have HSA := Lib.hid hsa
      have KT := Lib.hid (BT.ext hb); have KR := Lib.hid (RT2.out.ext hb); have HX2 := Lib.hid (HE2.out.trans hb)
      clear hsa hb BT RT2 HE2 HE RET HEX hb0 hsz hne hbe hlt0
      go_wp2
      go_loopw [33] (fun i wr => ∃ (k p : Nat) (av : Option Addr) (cv : Nat) (vs : List Value) (acc : List (List Bt)), i = .int .i64 k ∧ k ≤ nl ∧ p ≤ k ∧ w2.heap.size ≤ wr.heap.size ∧ Hid (Ext w wr) ∧ Hid (RowAt wr w.heap.size 29 #[.bool false, .slice none 0 0]) ∧ Hid (RowAt wr (w.heap.size + 1) 29 #[.bool false, .slice av p cv]) ∧ Hid (SAt wr (w.heap.size + 1 + 1) ps) ∧ Hid (p = acc.length) ∧ Hid (GR wr w2.heap.size wr.heap.size (.slice av p cv) vs acc) ∧ Hid (X = catO acc (readAll readRow (ps.drop k)))) (fun i _ => nl - (intOf i).toNat)
      case atStart => exact ⟨0, 0, none, 0, [], [], rfl, Nat.zero_le _, Nat.le_refl _, Nat.le_refl _, HX2, KR, KT, HSA, Lib.hid rfl, Lib.hid (GR.nil _ _ _), HX⟩
      case round =>
        clear HX2 KR KT HSA HX
        obtain ⟨w3, rfl⟩ : ∃ x, x = wr := ⟨_, rfl⟩
        obtain ⟨k, p, av, cv, vs, acc, rfl, hk, hpk, hsz, hX3, KR, KT, HSA, HP, HG, HXK⟩ := hrel
        by_cases hlk : k < nl
        · have hkp : k < ps.length := by rw [← HNL.out]; exact hlk
          obtain ⟨line, hline⟩ : ∃ l, ps[k] = l := ⟨_, rfl⟩
          have hll : line.length ≤ 1048575 := by rw [← hline]; exact HLL.out _ (List.getElem_mem _)
          have c0 : w3.cell? ⟨w.heap.size + 1 + 1, k, none⟩ = some (.string (S line)) := by rw [← hline]; exact HSA.out k hkp
          have HXL := Lib.hid (show X = catO acc (readAll readRow (line :: ps.drop (k + 1))) by rw [HXK.out, List.drop_eq_getElem_cons hkp, hline])
          clear HXK hline
          obtain ⟨n2, hn2⟩ : ∃ n, n = (splitP 43 line).length := ⟨_, rfl⟩
          have hn2b : n2 ≤ 1048576 := by rw [hn2]; have := splitP_count 43 line; omega
          have HN2 := Lib.hid hn2; clear hn2
          obtain ⟨qs, hqs⟩ : ∃ qs, splitP 43 line = qs := ⟨_, rfl⟩
          obtain ⟨Y, hY⟩ : ∃ Y, readRow line = Y := ⟨_, rfl⟩
          have HY := Lib.hid (show Y = catO [] (readAll readBoat (qs.drop 0)) by rw [← hY, List.drop_zero, ← hqs]; unfold readRow; cases readAll readBoat (splitP 43 line) <;> rfl)
          have HYL := Lib.hid hY; clear hY
          have HQS := Lib.hid hqs; clear hqs
          have HQL := Lib.hid (show ∀ p ∈ qs, p.length ≤ 1048575 from fun p hp => by rw [← HQS.out] at hp; exact Nat.le_trans (splitP_len hp) hll)
          have hlkz : (k : Int) < (nl : Int) := by omega
          go_wp2_with fail
          refine (split_any 43 line _ n2 HN2.out (by omega) (MW.out.ext hX3.out)).mono ?_
          rintro e w4 ⟨rfl, hsa, hlt4, hb4⟩
          rw [HQS.out] at hsa HN2
          have HSQ := Lib.hid hsa; have HB4 := Lib.hid hb4
          clear c0 hsa hb4
          go_wp2
          go_loopw [7, 40] (fun v7 i wr => ∃ (j : Nat) (dn : List Bt), i = .int .i64 j ∧ j ≤ n2 ∧ dn.length ≤ j ∧ w4.heap.size ≤ wr.heap.size ∧ Hid (Ext w4 wr) ∧ Hid (OwnRow wr w4.heap.size v7 dn) ∧ Hid (Y = catO dn (readAll readBoat (qs.drop j)))) (fun _ i _ => n2 - (intOf i).toNat)
          case atStart => exact ⟨0, [], rfl, Nat.zero_le _, Nat.le_refl _, Nat.le_refl _, Lib.hid (Ext.refl _), Lib.hid (World.ownsRow_nil _ _ _ _), HY⟩
          case round =>
            clear HY
            obtain ⟨w5, rfl⟩ : ∃ x, x = wr := ⟨_, rfl⟩
            obtain ⟨j, dn, rfl, hj, hdn, hsz5, hr, hown, HYJ⟩ := hrel
            by_cases hlj : j < n2
            · have hjq : j < qs.length := by rw [← HN2.out]; exact hlj
              obtain ⟨tx, htx⟩ : ∃ l, qs[j] = l := ⟨_, rfl⟩
              have htl : tx.length ≤ 1048575 := by rw [← htx]; exact HQL.out _ (List.getElem_mem _)
              have c0 : w5.cell? ⟨w3.heap.size, j, none⟩ = some (.string (S tx)) := by rw [← htx]; exact hr.out.cell (HSQ.out j hjq)
              have HYT := Lib.hid (show Y = catO dn (readAll readBoat (tx :: qs.drop (j + 1))) by rw [HYJ.out, List.drop_eq_getElem_cons hjq, htx])
              clear HYJ htx
              have hljz : (j : Int) < (n2 : Int) := by omega
              go_wp2_with fail
              refine (implParseBoat_any tx _ (by omega) (MW.out.ext (hX3.out.trans (HB4.out.trans hr.out)))).mono ?_
              rintro e w6 ⟨hb6, hcase⟩
              clear c0
              have z6 := hb6.size
              have HB6 := Lib.hid hb6; clear hb6
              have HX6 := Lib.hid (hX3.out.trans (HB4.out.trans (hr.out.trans HB6.out)))
              rcases hcase with ⟨bt, hrb, rfl⟩ | ⟨hrb, rfl⟩
              · have HYN := Lib.hid (show Y = catO (dn ++ [bt]) (readAll readBoat (qs.drop (j + 1))) by rw [HYT.out]; exact catO_cons hrb)
                clear hrb HYT
                obtain ⟨bi, bl, bw, bd, bs, bc⟩ := bt
                have HA := Lib.hid (((Ext.refl w6).alloc (.cells #[.int .i64 bi, .int .i64 bl, .int .i64 bw, .int .i64 bd, .int .i64 bs, .int .i64 bc] 44)).alloc (.cells #[.int .i64 bi, .int .i64 bl, .int .i64 bw, .int .i64 bd, .int .i64 bs, .int .i64 bc] 44))
                have HFO := Lib.hid (show FlatAt ((w6.alloc (.cells #[.int .i64 bi, .int .i64 bl, .int .i64 bw, .int .i64 bd, .int .i64 bs, .int .i64 bc] 44)).alloc (.cells #[.int .i64 bi, .int .i64 bl, .int .i64 bw, .int .i64 bd, .int .i64 bs, .int .i64 bc] 44)) bCells 6 (some ⟨w6.heap.size + 1, 0, none⟩) [⟨bi, bl, bw, bd, bs, bc⟩] from by
                  have h := flat_one (w6.alloc (.cells #[.int .i64 bi, .int .i64 bl, .int .i64 bw, .int .i64 bd, .int .i64 bs, .int .i64 bc] 44)) bi bl bw bd bs bc
                  rw [World.size_alloc] at h
                  exact h)
                have HOW := Lib.hid (hown.out.ext (HB6.out.trans HA.out))
                go_wp2_with (at_builtin; refine wpList_plain rfl fun K hK => wp_append_row _ _ rfl w4.heap.size _ dn [⟨bi, bl, bw, bd, bs, bc⟩] rfl HOW.out (some ⟨w6.heap.size + 1, 0, none⟩) 1 1 rfl rfl (fun h => by cases h) HFO.out (by simp; omega) (by simp; omega) ?_)
                intro v' w7 hown7 hg7 hat7
                have HX7 := Lib.hid (Ext.own2 (hr.out.trans (HB6.out.trans HA.out)) hg7 HOW.out (Nat.le_refl _))
                have HO7 := Lib.hid hown7
                have z7 := hg7.size
                simp only [World.size_alloc] at z7
                clear hown7 hg7 hat7 HOW HA HFO
                refine hK _ _ ?_
                clear hK K
                go_wp2
                go_roundw
                case rel => exact ⟨j + 1, dn ++ [⟨bi, bl, bw, bd, bs, bc⟩], by go_num, by omega, by simp; omega, by omega, HX7, HO7, HYN⟩
                case measure => simp [intOf]; omega
              · have hXN : X = none := by
                  rw [HXL.out]
                  refine catO_none ?_
                  rw [HYL.out, HYT.out]
                  exact catO_none hrb
                obtain ⟨rfl, rfl, rfl⟩ : u1 = false ∧ r1 = [] ∧ R = false := by
                  have h := HR.out
                  rw [hXN] at h
                  injection h with h1 h2
                  injection h2 with h2 h3
                  exact ⟨h1.symm, h2.symm, h3.symm⟩
                have hz := Lib.hid (show n1 = 0 from HN1.out)
                have K6 := KR.out.ext ((HB4.out.trans (hr.out.trans HB6.out)).trans ((Ext.refl w6).alloc (.cells #[.int .i64 0, .int .i64 0, .int .i64 0, .int .i64 0, .int .i64 0, .int .i64 0] 44)))
                have y0 : (w6.alloc (.cells #[.int .i64 0, .int .i64 0, .int .i64 0, .int .i64 0, .int .i64 0, .int .i64 0] 44)).cell? ⟨w.heap.size, 0, none⟩ = some (.bool false) := K6.cell rfl
                have y1 : (w6.alloc (.cells #[.int .i64 0, .int .i64 0, .int .i64 0, .int .i64 0, .int .i64 0, .int .i64 0] 44)).cell? ⟨w.heap.size, 1, none⟩ = some (.slice none 0 0) := K6.cell rfl
                have f0 := K6.frozen 0; have f1 := K6.frozen 1
                have hxx := HX6.out
                clear hXN hrb K6
                go_wp2
                refine bodyPost_ret (v := .tuple #[.agg #[.bool false, .slice none 0 0], .bool false]) (by simp [results, Tryd.results12, go_sem, *]) rfl (One.zero hz.out (by (repeat' (first | (with_reducible exact Ext.refl _) | (with_reducible assumption) | (with_reducible refine Ext.alloc ?_ _) | (with_reducible refine Ext.drewN ?_ _) | (with_reducible refine Ext.drew ?_) | (with_reducible refine Ext.setCell ?_ ?_ _) | (with_reducible exact Nat.le_refl _) | (with_reducible exact Nat.le_succ _) | (with_reducible refine Ext.trans ?_ (by assumption)) | (simp; done) | (simp; omega)))))
            · have hjn : j = n2 := by omega
              have HYE := Lib.hid (show readRow line = some dn by rw [HYL.out, HYJ.out, List.drop_eq_nil_of_le (by rw [hjn, HN2.out]; exact Nat.le_refl _)]; exact catO_end)
              have HXN := Lib.hid (show X = catO (acc ++ [dn]) (readAll readRow (ps.drop (k + 1))) by rw [HXL.out]; exact catO_cons HYE.out)
              clear HYJ HYE HXL HYL
              obtain ⟨au, cu, hv7⟩ := hown.out.form
              obtain ⟨q, hq⟩ : ∃ q, dn.length = q := ⟨_, rfl⟩
              rw [hq] at hv7
              subst hv7
              have HQ := Lib.hid hq; clear hq
              have HX35 := Lib.hid (HB4.out.trans hr.out)
              have KT5 := Lib.hid (KT.out.ext HX35.out); have KR5 := Lib.hid (KR.out.ext HX35.out); have HS5 := Lib.hid (HSA.out.ext HX35.out)
              have HA := Lib.hid ((Ext.refl w5).alloc (.cells #[.slice au q cu] 42))
              have HOW := Lib.hid (ownsRow_ext HG.out.2.1 (HX35.out.trans HA.out))
              rw [← HP.out] at HOW
              have HON := Lib.hid (one_new w5 42 (.slice au q cu))
              have HVG := Lib.hid (fun g (hg : (Value.slice av p cv).ownBlock = some g) => (ownsRow_lt HG.out.2.1 hg).1)
              have t1 : w5.cell? ⟨w.heap.size + 1, 1, none⟩ = some (.slice av p cv) := KT5.out.cell rfl
              have hljz : ¬ (j : Int) < (n2 : Int) := by omega
              go_wp2_with (at_builtin; refine wpList_plain rfl fun K hK => wp_append_outer _ _ rfl w2.heap.size _ _ vs rfl HOW.out (some ⟨w5.heap.size, 0, none⟩) 1 1 rfl [.slice au q cu] rfl (fun h => by cases h) HON.out (fun x hx => by cases List.mem_singleton.1 hx; rfl) (by omega) (by simp; omega) ?_)
              intro v' w7 hown7 hg7 hat7
              clear t1
              obtain ⟨g', cap', hv', _, _⟩ := World.ownsRow.form hown7 (by omega)
              subst hv'
              have z7 := hg7.size
              simp only [World.size_alloc] at z7
              have YG0 := GR.push (row := dn) HG.out (Nat.le_refl _) (HX35.out.trans HA.out) (ownsRow_low (hown.out.ext HA.out) (by omega)) (fun g hg => by have := (ownsRow_lt hown.out hg).1; omega) (by rw [← HP.out]; exact hown7) hg7 (by simp only [World.size_alloc]; exact hat7)
              have YT0 := (KT5.out.ext HA.out).own hg7 (fun g hg => by have := HVG.out g hg; omega)
              have YR0 := (KR5.out.ext HA.out).own hg7 (fun g hg => by have := HVG.out g hg; omega)
              have YS0 := (HS5.out.ext HA.out).own hg7 (fun g hg => by have := HVG.out g hg; omega)
              have YX0 := Ext.own (hX3.out.trans (HX35.out.trans HA.out)) hg7 (fun g hg => by have := HVG.out g hg; omega)
              have o1 : w7.cell? ⟨w.heap.size + 1, 1, none⟩ = some (.slice av p cv) := YT0.cell rfl
              have o2 := YT0.frozen 1
              have YT := Lib.hid (YT0.set 1 (.slice (some ⟨g', 0, none⟩) (p + 1) cap'))
              have YR := Lib.hid (YR0.other (p := ⟨w.heap.size + 1, 1, none⟩) (by dsimp only; omega) (.slice (some ⟨g', 0, none⟩) (p + 1) cap'))
              have YS := Lib.hid (YS0.own (grownBy_set w7 ⟨w.heap.size + 1, 1, none⟩ (.slice (some ⟨g', 0, none⟩) (p + 1) cap')) (fun g hg => by cases hg; dsimp only; omega))
              have YX := Lib.hid (YX0.setCell (p := ⟨w.heap.size + 1, 1, none⟩) (by dsimp only; omega) (.slice (some ⟨g', 0, none⟩) (p + 1) cap'))
              have YG := Lib.hid ((YG0.set (p := ⟨w.heap.size + 1, 1, none⟩) (.inl (by dsimp only; omega)) (.slice (some ⟨g', 0, none⟩) (p + 1) cap')).wide (hi' := (w7.setCell ⟨w.heap.size + 1, 1, none⟩ (.slice (some ⟨g', 0, none⟩) (p + 1) cap')).heap.size) (Nat.le_refl _) (by rw [size_setCell']; exact Nat.le_refl _))
              clear hown7 hg7 hat7 YG0 YT0 YR0 YS0 YX0 HOW HON HVG HA
              refine hK _ _ ?_
              clear hK K
              go_wp2
              go_roundw
              case rel => exact ⟨k + 1, p + 1, _, cap', _, _, by go_num, by omega, by omega, by (rw [size_setCell']; omega), YX, YR, YT, YS, Lib.hid (by rw [List.length_append, ← HP.out]; rfl), YG, HXN⟩
              case measure => simp [intOf]; omega
        · have hkn : k = nl := by omega
          have hXE : X = some acc := by rw [HXK.out, List.drop_eq_nil_of_le (by rw [hkn, HNL.out]; exact Nat.le_refl _)]; exact catO_end
          have HFL := Lib.hid (HXF.out acc hXE)
          obtain ⟨a0, cc0, hv0, _, hrows⟩ := HG.out.rows
          injection hv0 with e1 e2 e3
          subst e1
          have HRW := Lib.hid hrows; clear hrows e2 e3
          have t0 : w3.cell? ⟨w.heap.size + 1, 0, none⟩ = some (.bool false) := KT.out.cell rfl
          have t1 : w3.cell? ⟨w.heap.size + 1, 1, none⟩ = some (.slice av p cv) := KT.out.cell rfl
          have hlkz : ¬ (k : Int) < (nl : Int) := by omega
          have hpn : p ≤ 1048576 := by omega
          have HXE := Lib.hid hXE; clear hXE
          have hRa := HR.out
          rw [HXE.out] at hRa
          dsimp only at hRa
          cases tok : trainOk acc
          · rw [tok, if_neg (by decide)] at hRa
            obtain ⟨rfl, rfl, rfl⟩ : u1 = false ∧ r1 = [] ∧ R = false := by
              injection hRa with h1 h2
              injection h2 with h2 h3
              exact ⟨h1.symm, h2.symm, h3.symm⟩
            have hz := Lib.hid (show n1 = 0 from HN1.out)
            have TOK := Lib.hid tok
            clear hRa tok
            go_wp2_with fail
            refine (TOK.out ▸ implTrainOk_any _ _ _ _ acc _ HP.out hpn HFL.out HRW.out).mono ?_
            rintro e w4 ⟨rfl, hb4⟩
            clear t0 t1
            have K6 := KR.out.ext hb4
            have y0 : w4.cell? ⟨w.heap.size, 0, none⟩ = some (.bool false) := K6.cell rfl
            have y1 : w4.cell? ⟨w.heap.size, 1, none⟩ = some (.slice none 0 0) := K6.cell rfl
            have f0 := K6.frozen 0; have f1 := K6.frozen 1
            have hxx := hX3.out.trans hb4
            clear K6
            go_wp2
            refine bodyPost_ret (v := .tuple #[.agg #[.bool false, .slice none 0 0], .bool false]) (by simp [results, Tryd.results12, go_sem, *]) rfl (One.zero hz.out (by (repeat' (first | (with_reducible exact Ext.refl _) | (with_reducible assumption) | (with_reducible refine Ext.alloc ?_ _) | (with_reducible refine Ext.drewN ?_ _) | (with_reducible refine Ext.drew ?_) | (with_reducible refine Ext.setCell ?_ ?_ _) | (with_reducible exact Nat.le_refl _) | (with_reducible exact Nat.le_succ _) | (with_reducible refine Ext.trans ?_ (by assumption)) | (simp; done) | (simp; omega)))))
          · rw [tok, if_pos rfl, HBB.out] at hRa
            obtain ⟨rfl, rfl, rfl⟩ : u1 = false ∧ r1 = acc ∧ R = true := by
              injection hRa with h1 h2
              injection h2 with h2 h3
              exact ⟨h1.symm, h2.symm, h3.symm⟩
            have hz := Lib.hid (show n1 = p by rw [HN1.out, HP.out])
            have TOK := Lib.hid tok
            clear hRa tok
            go_wp2_with fail
            refine (TOK.out ▸ implTrainOk_any _ _ _ _ r1 _ HP.out hpn HFL.out HRW.out).mono ?_
            rintro e w4 ⟨rfl, hb4⟩
            clear t0 t1
            have z4 := hb4.size
            have K6 := KR.out.ext hb4
            have y0 : w4.cell? ⟨w.heap.size, 0, none⟩ = some (.bool false) := K6.cell rfl
            have y1 : w4.cell? ⟨w.heap.size, 1, none⟩ = some (.slice none 0 0) := K6.cell rfl
            have f0 := K6.frozen 0; have f1 := K6.frozen 1
            have T6 := KT.out.ext hb4
            have t0 : w4.cell? ⟨w.heap.size + 1, 0, none⟩ = some (.bool false) := T6.cell rfl
            have t1 : w4.cell? ⟨w.heap.size + 1, 1, none⟩ = some (.slice av p cv) := T6.cell rfl
            have hxx := hX3.out.trans hb4
            have HG4 := Lib.hid (HG.out.ext hb4)
            clear K6 T6
            go_wp2
            refine bodyPost_ret (v := .tuple #[.agg #[.bool false, .slice av p cv], .bool true]) (by simp [results, Tryd.results12, go_sem, *]) rfl ⟨av, cv, by rw [hz.out], ?_, by (repeat' (first | (with_reducible exact Ext.refl _) | (with_reducible assumption) | (with_reducible refine Ext.alloc ?_ _) | (with_reducible refine Ext.drewN ?_ _) | (with_reducible refine Ext.drew ?_) | (with_reducible refine Ext.setCell ?_ ?_ _) | (with_reducible exact Nat.le_refl _) | (with_reducible exact Nat.le_succ _) | (with_reducible refine Ext.trans ?_ (by assumption)) | (simp; done) | (simp; omega)))⟩
            exact (((HG4.out.set (p := ⟨w.heap.size, 0, none⟩) (.inl (by simp; try omega)) _).set (p := ⟨w.heap.size, 1, none⟩) (.inl (by simp; try omega)) _).wide (by omega) (by simp [size_setCell']; try omega)).ownAt
end Go.Proofs.YtjjikcjhnglkaaaDoor
