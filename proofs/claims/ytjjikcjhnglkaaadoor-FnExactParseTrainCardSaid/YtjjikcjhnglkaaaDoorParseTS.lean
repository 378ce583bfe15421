/- ParseTrain of the reference. -/
import Derived.Test.YtjjikcjhnglkaaaDoorProg
import Derived.Test.YtjjikcjhnglkaaaDoorParseS
import Derived.Test.YtjjikcjhnglkaaaDoorFormatI
namespace Go.Proofs.YtjjikcjhnglkaaaDoor
open Go.RowKit
set_option linter.unusedSimpArgs false
set_option linter.unusedVariables false

/-- Texts in a slice. -/
def SLat (w : World) (a : Option Addr) (ps : List (List UInt8)) : Prop := ∀ j (h : j < ps.length), ∃ b off, a = some ⟨b, off, none⟩ ∧ w.cell? ⟨b, off + j, none⟩ = some (.string (S ps[j]))
theorem SLat.ext {w w' : World} {a : Option Addr} {ps : List (List UInt8)} (h : SLat w a ps) (hx : Ext w w') : SLat w' a ps := fun j hj => let ⟨b, off, e, hc⟩ := h j hj; ⟨b, off, e, hx.cell hc⟩
theorem SLat.own {w w' : World} {a : Option Addr} {ps : List (List UInt8)} {r : Option Nat} (h : SLat w a ps) (hg : w.grownBy w' r) (hr : ∀ k, r = some k → ∀ ad, a = some ad → ad.block ≠ k) : SLat w' a ps := fun j hj => by
  obtain ⟨b, off, e, h1⟩ := h j hj
  refine ⟨b, off, e, ?_⟩
  have hlt := World.block_lt_of_cell? w _ h1
  have := hg.block b hlt (fun e2 => hr b e2.symm _ e rfl)
  rw [World.cell?_of_block this]
  exact h1
theorem OwnStrs.at {w : World} {base : Nat} {v : Value} {ps : List (List UInt8)} (h : OwnStrs w base v ps) : ∃ a c, v = .slice a ps.length c ∧ SLat w a ps ∧ (∀ ad, a = some ad → base ≤ ad.block ∧ ad.block < w.heap.size) := by
  obtain ⟨a, c, hv, hf, hb⟩ := ownsRow_flat sCells_len h
  refine ⟨a, c, hv, fun j hj => ?_, fun ad e => ⟨(hb ad e).1, let ⟨_, hr⟩ := (hb ad e).2; hr.lt⟩⟩
  obtain ⟨b, off, e, hc⟩ := hf j hj
  have := hc 0 _ rfl
  exact ⟨b, off, e, by simpa using this⟩
theorem looseN_zero {ps : List (List UInt8)} {i : Nat} (h : ps.length ≤ i) : looseN ps i = 0 := by
  unfold looseN
  rw [List.getElem?_eq_none h]
theorem numK_end {ps : List (List UInt8)} {j i : Nat} (hj : j = ps.length ∨ j = 6) (hi : i < 6) : numK ps j i = looseN ps i := by
  unfold numK
  by_cases h : i < j
  · rw [if_pos h]
  · rw [if_neg h, looseN_zero (by omega)]
theorem looseRows_flat : ∀ ps : List (List UInt8), (ps.map looseRow).flatten.length ≤ (ps.map (fun p => p.length + 1)).sum
  | [] => by simp
  | p :: ps => by
    have ih := looseRows_flat ps
    have h1 : (looseRow p).length ≤ p.length + 1 := by unfold looseRow; rw [List.length_map]; exact splitP_count 43 p
    rw [List.map_cons, List.flatten_cons, List.length_append, List.map_cons, List.sum_cons]
    omega
theorem make6 (w : World) : (Instr.makeSlice 46 (.int .i64 6) (.int .i64 6)).run Tryd.prog w = .ok (.slice (some ⟨w.heap.size, 0, none⟩) 6 6) (w.alloc (.cells #[.int .i64 0, .int .i64 0, .int .i64 0, .int .i64 0, .int .i64 0, .int .i64 0] 3)) := by kernel_rfl
theorem trainRes_spec (b : UInt8) (r : List UInt8) : trainRes (b :: r) = if fmtTrain (b == 94) (looseRows r) = b :: r then (b == 94, looseRows r, true) else (false, [], false) := by
  unfold trainRes
  rw [← specRead_read, specRead_cons]
  by_cases h : fmtTrain (b == 94) (looseRows r) = b :: r
  · rw [if_pos h, if_pos h]
  · rw [if_neg h, if_neg h]

set_option maxRecDepth 100000 in
set_option maxHeartbeats 8000000 in
theorem specParseTrain_any (u1 R : Bool) (r1 : List (List Bt)) (n1 : Nat) (s : List UInt8) (w : World) (hs : s.length ≤ 1048576) (hR : trainRes s = (u1, r1, R)) (hn1 : n1 = r1.length) :
    Calls Tryd.prog 11 #[.string (S s)] w fun e w' => One w w' u1 R r1 n1 e := by
  have HE := Lib.hid ((Ext.refl w).alloc (.cells #[.bool false, .slice none 0 0] 29))
  have RET := Lib.hid (RowAt.new w 29 #[.bool false, .slice none 0 0])
  cases s with
  | nil =>
    obtain ⟨rfl, rfl, rfl⟩ : u1 = false ∧ r1 = [] ∧ R = false := by
      have h : trainRes [] = (false, [], false) := rfl
      rw [h] at hR
      injection hR with h1 h2
      injection h2 with h2 h3
      exact ⟨h1.symm, h2.symm, h3.symm⟩
    have hz := Lib.hid (show n1 = 0 from hn1)
    clear hR hn1 RET HE
    have hne := toList_emp
    have hbe : (S []).toList.isEmpty = true := by rw [hne]; rfl
    obtain ⟨t, ht⟩ : ∃ t, S [] = t := ⟨_, rfl⟩
    rw [ht] at hne hbe ⊢
    clear ht
    go_enter Tryd.func11, Tryd.ntmps11
    go_wp2
    refine bodyPost_ret (v := .tuple #[.agg #[.bool false, .slice none 0 0], .bool false]) (by simp [results, Tryd.results11, go_sem, *]) rfl (One.zero hz.out (by (repeat' (first | (with_reducible exact Ext.refl _) | (with_reducible assumption) | (with_reducible refine Ext.alloc ?_ _) | (with_reducible refine Ext.drewN ?_ _) | (with_reducible refine Ext.drew ?_) | (with_reducible refine Ext.setCell ?_ ?_ _) | (with_reducible exact Nat.le_refl _) | (with_reducible exact Nat.le_succ _) | (with_reducible refine Ext.trans ?_ (by assumption)) | (simp; done) | (simp; omega)))))
  | cons b r =>
    obtain ⟨t, ht⟩ : ∃ t, S (b :: r) = t := ⟨_, rfl⟩
    obtain ⟨m, hm⟩ : ∃ m, r.length + 1 = m := ⟨_, rfl⟩
    have hsz : t.size = m := by rw [← ht, S_size, ← hm]; rfl
    have hne := toList_ne (t := t) (by omega)
    have hbe : t.toList.isEmpty = false := by simpa using hne
    have HEX := Lib.hid (show t.extract 1 m = S r by rw [← hsz, ← ht]; exact S_tail b r)
    obtain ⟨v0, hv0⟩ : ∃ v : Nat, b.toNat = v := ⟨_, rfl⟩
    have hb0 : ∀ h : 0 < t.size, (t[0].toNat : Int) = (v0 : Int) := fun h => by
      subst ht
      rw [← hv0]
      rfl
    have hlt0 : 0 < t.size := by omega
    have hrl : r.length ≤ 1048575 := by simp at hs; omega
    have HTT := Lib.hid ht
    rw [ht]
    clear ht hs
    have hm1 : 1 ≤ m := by omega
    have HRES := Lib.hid (trainRes_spec b r)
    rw [HRES.out] at hR
    have HR := Lib.hid hR; have HN1 := Lib.hid hn1; clear hR hn1 HRES
    obtain ⟨ps, hps⟩ : ∃ ps, splitP 47 r = ps := ⟨_, rfl⟩
    have HPS := Lib.hid hps
    obtain ⟨nl, hnl⟩ : ∃ n, ps.length = n := ⟨_, rfl⟩
    have hnl1 : nl ≤ 1048576 := by rw [← hnl, ← hps]; have := splitP_count 47 r; omega
    have HNL := Lib.hid hnl; clear hnl
    have HLO := Lib.hid (show looseRows r = ps.map looseRow by rw [← hps]; rfl)
    have HXF := Lib.hid (show (ps.map looseRow).flatten.length ≤ 1048576 from by
      have h1 := looseRows_flat ps
      rw [← hps, sum_splitP] at h1
      rw [← hps]
      omega)
    have HLL := Lib.hid (show ∀ p ∈ ps, p.length ≤ 1048575 from fun p hp => by rw [← hps] at hp; exact Nat.le_trans (splitP_len hp) hrl)
    clear hps hm
    by_cases hb : b = 94
    · have hv : v0 = 94 := by rw [← hv0, hb]; rfl
      have HBB := Lib.hid (show (b == 94) = true by rw [hb]; rfl)
      clear hv0 hb
      subst hv
      go_enter Tryd.func11, Tryd.ntmps11
      go_wp2_with fail
      rw [HEX.out]
      have HE2 := Lib.hid (HE.out.trans ((Ext.refl _).alloc (.cells #[.bool true, .slice none 0 0] 29)))
      have BT := RowAt.new (w.alloc (.cells #[.bool false, .slice none 0 0] 29)) 29 #[.bool true, .slice none 0 0]
      simp only [World.size_alloc] at BT
      have RT2 := Lib.hid (RET.out.ext ((Ext.refl _).alloc (.cells #[.bool true, .slice none 0 0] 29)))
      refine (l04Split_any 47 r _ hrl).mono ?_
      rintro e w2 ⟨vl, rfl, hos, hb⟩
      rw [HPS.out] at hos
      obtain ⟨al, cl, hvl, hsl, hbl⟩ := hos.at
      rw [HNL.out] at hvl
      subst hvl
      have z2 := hb.size
      simp only [World.size_alloc] at hbl z2
      have HSA := Lib.hid hsl
      have HBL := Lib.hid hbl
      have KT := Lib.hid (BT.ext hb); have KR := Lib.hid (RT2.out.ext hb); have HX2 := Lib.hid (HE2.out.trans hb)
      clear hsl hbl hos hb BT RT2 HE2 HE RET HEX hb0 hsz hne hbe hlt0
      go_wp2
      go_loopw [6] (fun i wr => ∃ (k p : Nat) (av : Option Addr) (cv : Nat) (vs : List Value) (acc : List (List Bt)), i = .int .i64 k ∧ k ≤ nl ∧ p ≤ k ∧ w2.heap.size ≤ wr.heap.size ∧ Hid (Ext w wr) ∧ Hid (RowAt wr w.heap.size 29 #[.bool false, .slice none 0 0]) ∧ Hid (RowAt wr (w.heap.size + 1) 29 #[.bool true, .slice av p cv]) ∧ Hid (SLat wr al ps) ∧ Hid (p = acc.length) ∧ Hid (GR wr w2.heap.size wr.heap.size (.slice av p cv) vs acc) ∧ Hid (acc = (ps.take k).map looseRow)) (fun i _ => nl - (intOf i).toNat)
      case atStart => exact ⟨0, 0, none, 0, [], [], rfl, Nat.zero_le _, Nat.le_refl _, Nat.le_refl _, HX2, KR, KT, HSA, Lib.hid rfl, Lib.hid (GR.nil _ _ _), Lib.hid rfl⟩
      case round =>
        clear HX2 KR KT HSA
        obtain ⟨w3, rfl⟩ : ∃ x, x = wr := ⟨_, rfl⟩
        obtain ⟨k, p, av, cv, vs, acc, rfl, hk, hpk, hsz, hX3, KR, KT, HSA, HP, HG, HAC⟩ := hrel
        by_cases hlk : k < nl
        · have hkp : k < ps.length := by rw [HNL.out]; exact hlk
          obtain ⟨line, hline⟩ : ∃ l, ps[k] = l := ⟨_, rfl⟩
          have hll : line.length ≤ 1048575 := by rw [← hline]; exact HLL.out _ (List.getElem_mem _)
          obtain ⟨bl, offl, hal, hcl⟩ := HSA.out k hkp
          rw [hline] at hcl
          have HAK := Lib.hid (take_more looseRow hkp hline)
          have HAL := Lib.hid hal
          clear hline
          rw [hal]
          have HLT0 := Lib.hid ((Ext.refl w3).alloc (.cells #[] 44))
          have HLIT := Lib.hid (OwnRow.lit w3)
          have c0 : (w3.alloc (.cells #[] 44)).cell? ⟨bl, offl + k, none⟩ = some (.string (S line)) := HLT0.out.cell hcl
          clear hal hcl
          obtain ⟨qs, hqs⟩ : ∃ qs, splitP 43 line = qs := ⟨_, rfl⟩
          obtain ⟨n2, hn2⟩ : ∃ n, qs.length = n := ⟨_, rfl⟩
          have hn2b : n2 ≤ 1048576 := by rw [← hn2, ← hqs]; have := splitP_count 43 line; omega
          have HN2 := Lib.hid hn2; clear hn2
          have HQS := Lib.hid hqs; clear hqs
          have HQL := Lib.hid (show ∀ p ∈ qs, p.length ≤ 1048575 from fun p hp => by rw [← HQS.out] at hp; exact Nat.le_trans (splitP_len hp) hll)
          have hlkz : (k : Int) < (nl : Int) := by omega
          go_wp2_with fail
          refine (l04Split_any 43 line _ hll).mono ?_
          rintro e w4 ⟨vq, rfl, hos, hb4⟩
          rw [HQS.out] at hos
          obtain ⟨aq, cq, hvq, hsq, hbq⟩ := hos.at
          rw [HN2.out] at hvq
          subst hvq
          have z4 := hb4.size
          simp only [World.size_alloc] at z4 hbq
          have HBQ := Lib.hid hbq
          have HSQ := Lib.hid hsq; have HB4 := Lib.hid (HLT0.out.trans hb4)
          have HL4 := Lib.hid (HLIT.out.ext hb4)
          clear c0 hsq hbq hos hb4 HLT0 HLIT
          go_wp2
          go_loopw [7, 9] (fun v7 i wr => ∃ (j : Nat) (dn : List Bt), i = .int .i64 j ∧ j ≤ n2 ∧ dn.length ≤ j ∧ w4.heap.size ≤ wr.heap.size ∧ Hid (Ext w3 wr) ∧ Hid (∀ g, v7.ownBlock = some g → g = w3.heap.size ∨ w4.heap.size ≤ g) ∧ Hid (SLat wr aq qs) ∧ Hid (OwnRow wr w3.heap.size v7 dn) ∧ Hid (dn = (qs.take j).map looseBoat)) (fun _ i _ => n2 - (intOf i).toNat)
          case atStart => exact ⟨0, [], rfl, Nat.zero_le _, Nat.le_refl _, Nat.le_refl _, HB4, Lib.hid (fun g hg => .inl (Option.some.inj hg).symm), HSQ, HL4, Lib.hid rfl⟩
          case round =>
            clear HSQ HL4
            obtain ⟨w5, rfl⟩ : ∃ x, x = wr := ⟨_, rfl⟩
            obtain ⟨j, dn, rfl, hj, hdn, hsz5, hr, hvb, hsq, hown, hdj⟩ := hrel
            by_cases hlj : j < n2
            · have hjq : j < qs.length := by rw [HN2.out]; exact hlj
              obtain ⟨tx, htx⟩ : ∃ l, qs[j] = l := ⟨_, rfl⟩
              have htl : tx.length ≤ 1048575 := by rw [← htx]; exact HQL.out _ (List.getElem_mem _)
              obtain ⟨bq, offq, haq, hcq⟩ := hsq.out j hjq
              rw [htx] at hcq
              have HDK := Lib.hid (take_more looseBoat hjq htx)
              have HAQ := Lib.hid haq
              rw [haq]
              have c0 : w5.cell? ⟨bq, offq + j, none⟩ = some (.string (S tx)) := hcq
              clear htx haq hcq
              obtain ⟨fs, hfs⟩ : ∃ fs, splitP 58 tx = fs := ⟨_, rfl⟩
              obtain ⟨nf, hnf⟩ : ∃ n, fs.length = n := ⟨_, rfl⟩
              have HNF := Lib.hid hnf; clear hnf
              have HFS := Lib.hid hfs; clear hfs
              have hljz : (j : Int) < (n2 : Int) := by omega
              go_wp2_with fail
              refine (l04Split_any 58 tx _ htl).mono ?_
              rintro e w6 ⟨vf, rfl, hos, hb6⟩
              rw [HFS.out] at hos
              obtain ⟨af, cf, hvf, hsf, hbf⟩ := hos.at
              rw [HNF.out] at hvf
              subst hvf
              have z6 := hb6.size
              have HSF := Lib.hid hsf; have HB6 := Lib.hid hb6
              clear c0 hsf hbf hos hb6
              have qM : ∀ w : World, (Instr.makeSlice 46 (.int .i64 6) (.int .i64 6)).run Tryd.prog w = .ok (.slice (some ⟨w.heap.size, 0, none⟩) 6 6) (w.alloc (.cells #[.int .i64 0, .int .i64 0, .int .i64 0, .int .i64 0, .int .i64 0, .int .i64 0] 3)) := make6
              go_wp2
              clear qM
              have HNB := Lib.hid (show ∃ c : Array Value, RowAt (w6.alloc (.cells #[.int .i64 0, .int .i64 0, .int .i64 0, .int .i64 0, .int .i64 0, .int .i64 0] 3)) w6.heap.size 3 c ∧ ∀ x, x < 6 → c[x]? = some (.int .i64 (numK fs 0 x)) from ⟨_, RowAt.new w6 3 _, fun j hj => by
                have : j = 0 ∨ j = 1 ∨ j = 2 ∨ j = 3 ∨ j = 4 ∨ j = 5 := by omega
                rcases this with rfl | rfl | rfl | rfl | rfl | rfl <;> rfl⟩)
              go_loopw [12] (fun i wr => ∃ q : Nat, i = .int .i64 q ∧ q ≤ 6 ∧ q ≤ nf ∧ w6.heap.size < wr.heap.size ∧ Hid (Ext w6 wr) ∧ Hid (∃ c : Array Value, RowAt wr w6.heap.size 3 c ∧ ∀ x, x < 6 → c[x]? = some (.int .i64 (numK fs q x)))) (fun i _ => 6 - (intOf i).toNat)
              case atStart => exact ⟨0, rfl, by omega, Nat.zero_le _, by simp, Lib.hid ((Ext.refl w6).alloc _), HNB⟩
              case round =>
                clear HNB
                obtain ⟨w7, rfl⟩ : ∃ x, x = wr := ⟨_, rfl⟩
                obtain ⟨q, rfl, hq6, hqn, hsz7, hr7, hnb⟩ := hrel
                by_cases hboth : q < nf ∧ q < 6
                · obtain ⟨h1, h2⟩ := hboth
                  have hqf : q < fs.length := by rw [HNF.out]; exact h1
                  obtain ⟨pt, hpt⟩ : ∃ l, fs[q] = l := ⟨_, rfl⟩
                  obtain ⟨bf, offf, haf, hcf⟩ := HSF.out q hqf
                  rw [hpt] at hcf
                  have HPT := Lib.hid hpt
                  rw [haf]
                  have c0 := hr7.out.cell hcf
                  clear hpt hcf haf
                  have h1z : (q : Int) < (nf : Int) := by omega
                  have h2z : (q : Int) < 6 := by omega
                  go_wp2_with fail
                  refine (specParseUint_any pt _).mono ?_
                  rintro e w8 ⟨rfl, hb8⟩
                  clear c0
                  have z8 := hb8.size
                  obtain ⟨Lx, hLx⟩ : ∃ L, looseU pt = L := ⟨_, rfl⟩
                  obtain ⟨Ob, hOb⟩ : ∃ O, (readU pt).isSome = O := ⟨_, rfl⟩
                  rw [hLx, hOb]
                  clear hOb
                  obtain ⟨c, hrow, hcs⟩ := hnb.out
                  have hrow8 := hrow.ext hb8
                  have HNB := Lib.hid (show ∃ c : Array Value, RowAt (w8.setCell ⟨w6.heap.size, q, none⟩ (.int .i64 Lx)) w6.heap.size 3 c ∧ ∀ j, j < 6 → c[j]? = some (.int .i64 (numK fs (q + 1) j)) from ⟨_, hrow8.set q (.int .i64 Lx), fun j hj => by
                    have hsz6 : q < c.size := (Array.getElem?_eq_some_iff.1 (hcs q h2)).1
                    rw [Array.getElem?_setIfInBounds]
                    by_cases hjk : q = j
                    · subst hjk
                      rw [if_pos rfl, if_pos hsz6, numK_at hqf, HPT.out, hLx]
                    · rw [if_neg hjk, hcs j hj, numK_step (fun e => hjk e.symm)]⟩)
                  have n0 : w8.cell? ⟨w6.heap.size, q, none⟩ = some (.int .i64 (numK fs q q)) := hrow8.cell (hcs q h2)
                  have n1 := hrow8.frozen q
                  have HXS := Lib.hid ((hr7.out.trans hb8).setCell (p := ⟨w6.heap.size, q, none⟩) (Nat.le_refl _) (.int .i64 Lx))
                  clear hLx hrow hcs hrow8 hb8
                  go_wp2
                  clear n0 n1
                  go_roundw
                  case rel => exact ⟨q + 1, by go_num, by omega, by omega, by simp [World.setCell]; omega, HXS, HNB⟩
                  case measure => simp [intOf] <;> omega
                · have hend : q = fs.length ∨ q = 6 := by rw [HNF.out]; omega
                  obtain ⟨c, hrow, hcs⟩ := hnb.out
                  have KN := Lib.hid hrow
                  obtain ⟨y0, hy0⟩ : ∃ y, looseN fs 0 = y := ⟨_, rfl⟩
                  obtain ⟨y1, hy1⟩ : ∃ y, looseN fs 1 = y := ⟨_, rfl⟩
                  obtain ⟨y2, hy2⟩ : ∃ y, looseN fs 2 = y := ⟨_, rfl⟩
                  obtain ⟨y3, hy3⟩ : ∃ y, looseN fs 3 = y := ⟨_, rfl⟩
                  obtain ⟨y4, hy4⟩ : ∃ y, looseN fs 4 = y := ⟨_, rfl⟩
                  obtain ⟨y5, hy5⟩ : ∃ y, looseN fs 5 = y := ⟨_, rfl⟩
                  have HC0 := Lib.hid (show c[0]? = some (.int .i64 y0) by rw [hcs 0 (by omega), numK_end hend (by omega), hy0])
                  have HC1 := Lib.hid (show c[1]? = some (.int .i64 y1) by rw [hcs 1 (by omega), numK_end hend (by omega), hy1])
                  have HC2 := Lib.hid (show c[2]? = some (.int .i64 y2) by rw [hcs 2 (by omega), numK_end hend (by omega), hy2])
                  have HC3 := Lib.hid (show c[3]? = some (.int .i64 y3) by rw [hcs 3 (by omega), numK_end hend (by omega), hy3])
                  have HC4 := Lib.hid (show c[4]? = some (.int .i64 y4) by rw [hcs 4 (by omega), numK_end hend (by omega), hy4])
                  have HC5 := Lib.hid (show c[5]? = some (.int .i64 y5) by rw [hcs 5 (by omega), numK_end hend (by omega), hy5])
                  have HLB := Lib.hid (show looseBoat tx = ⟨y0, y1, y2, y3, y4, y5⟩ by unfold looseBoat; rw [HFS.out, hy0, hy1, hy2, hy3, hy4, hy5])
                  clear hy0 hy1 hy2 hy3 hy4 hy5 hrow hcs hend hnb
                  have HX57 := Lib.hid (HB6.out.trans hr7.out)
                  have HOG := Lib.hid (fun g (hg : Value.ownBlock _ = some g) => ownsRow_lt hown.out hg)
                  have hcase : (¬ (q : Int) < (nf : Int)) ∨ ((q : Int) < (nf : Int) ∧ ¬ (q : Int) < 6) := by omega
                  rcases hcase with h1z | ⟨h1z, h2z⟩
                  all_goals
                    go_wp2_with fail
                    refine wp_region_held_drew (S := (fun w' => w'.cell? ⟨w6.heap.size, 0, none⟩ = some (.int .i64 y0) ∧ w'.cell? ⟨w6.heap.size, 1, none⟩ = some (.int .i64 y1) ∧ w'.cell? ⟨w6.heap.size, 2, none⟩ = some (.int .i64 y2) ∧ w'.cell? ⟨w6.heap.size, 3, none⟩ = some (.int .i64 y3) ∧ w'.cell? ⟨w6.heap.size, 4, none⟩ = some (.int .i64 y4) ∧ w'.cell? ⟨w6.heap.size, 5, none⟩ = some (.int .i64 y5))) (by kernel_rfl) ?_ (fun hH0 => ?_)
                    · (try dsimp only)
                      (exact ⟨KN.out.cell HC0.out, KN.out.cell HC1.out, KN.out.cell HC2.out, KN.out.cell HC3.out, KN.out.cell HC4.out, KN.out.cell HC5.out⟩)
                    (obtain ⟨wc, hwc⟩ : ∃ x, x = w7.drew := ⟨_, rfl⟩; have hdr : Ext w7 wc := (by rw [hwc]; exact (Ext.refl _).drew); (try rw [← hwc] at hH0); (try rw [← hwc]); have zdr := hdr.size; have KN := Lib.hid (KN.out.ext hdr); have HXc := Lib.hid hdr; clear hwc hdr)
                    refine take_l 0 (v := ?_) rfl (by kernel_rfl) (by kernel_rfl) (by kernel_rfl) (fun _ _ _ h => h) (by rfl) ?_ (by assumption) ?_
                    rotate_left
                    · (intro w hSw; (try dsimp only at hSw); go_simp; (try with_reducible rfl))
                    (try simp only [Act.put, List.setIfInBounds_toArray, List.set_cons_zero, List.set_cons_succ])
                    refine take_l 1 (v := ?_) rfl (by kernel_rfl) (by kernel_rfl) (by kernel_rfl) (fun _ _ _ h => h) (by rfl) ?_ (by assumption) ?_
                    rotate_left
                    · (intro w hSw; (try dsimp only at hSw); go_simp; (try with_reducible rfl))
                    (try simp only [Act.put, List.setIfInBounds_toArray, List.set_cons_zero, List.set_cons_succ])
                    refine take_l 2 (v := ?_) rfl (by kernel_rfl) (by kernel_rfl) (by kernel_rfl) (fun _ _ _ h => h) (by rfl) ?_ (by assumption) ?_
                    rotate_left
                    · (intro w hSw; (try dsimp only at hSw); go_simp; (try with_reducible rfl))
                    (try simp only [Act.put, List.setIfInBounds_toArray, List.set_cons_zero, List.set_cons_succ])
                    refine take_l 3 (v := ?_) rfl (by kernel_rfl) (by kernel_rfl) (by kernel_rfl) (fun _ _ _ h => h) (by rfl) ?_ (by assumption) ?_
                    rotate_left
                    · (intro w hSw; (try dsimp only at hSw); go_simp; (try with_reducible rfl))
                    (try simp only [Act.put, List.setIfInBounds_toArray, List.set_cons_zero, List.set_cons_succ])
                    refine take_l 4 (v := ?_) rfl (by kernel_rfl) (by kernel_rfl) (by kernel_rfl) (fun _ _ _ h => h) (by rfl) ?_ (by assumption) ?_
                    rotate_left
                    · (intro w hSw; (try dsimp only at hSw); go_simp; (try with_reducible rfl))
                    (try simp only [Act.put, List.setIfInBounds_toArray, List.set_cons_zero, List.set_cons_succ])
                    refine take_l 5 (v := ?_) rfl (by kernel_rfl) (by kernel_rfl) (by kernel_rfl) (fun _ _ _ h => h) (by rfl) ?_ (by assumption) ?_
                    rotate_left
                    · (intro w hSw; (try dsimp only at hSw); go_simp; (try with_reducible rfl))
                    (try simp only [Act.put, List.setIfInBounds_toArray, List.set_cons_zero, List.set_cons_succ])
                    refine take_l 6 (v := ?_) rfl (by kernel_rfl) (by kernel_rfl) (by kernel_rfl) (fun _ _ _ h => h) (by rfl) ?_ (by assumption) ?_
                    rotate_left
                    · (intro w hSw; (try dsimp only at hSw); go_simp; (try with_reducible rfl))
                    (try simp only [Act.put, List.setIfInBounds_toArray, List.set_cons_zero, List.set_cons_succ])
                    refine take_l 7 (v := ?_) rfl (by kernel_rfl) (by kernel_rfl) (by kernel_rfl) (fun _ _ _ h => h) (by rfl) ?_ (by assumption) ?_
                    rotate_left
                    · (intro w hSw; (try dsimp only at hSw); go_simp; (try with_reducible rfl))
                    (try simp only [Act.put, List.setIfInBounds_toArray, List.set_cons_zero, List.set_cons_succ])
                    refine take_l 8 (v := ?_) rfl (by kernel_rfl) (by kernel_rfl) (by kernel_rfl) (fun _ _ _ h => h) (by rfl) ?_ (by assumption) ?_
                    rotate_left
                    · (intro w hSw; (try dsimp only at hSw); go_simp; (try with_reducible rfl))
                    (try simp only [Act.put, List.setIfInBounds_toArray, List.set_cons_zero, List.set_cons_succ])
                    refine take_l 9 (v := ?_) rfl (by kernel_rfl) (by kernel_rfl) (by kernel_rfl) (fun _ _ _ h => h) (by rfl) ?_ (by assumption) ?_
                    rotate_left
                    · (intro w hSw; (try dsimp only at hSw); go_simp; (try with_reducible rfl))
                    (try simp only [Act.put, List.setIfInBounds_toArray, List.set_cons_zero, List.set_cons_succ])
                    refine take_l 10 (v := ?_) rfl (by kernel_rfl) (by kernel_rfl) (by kernel_rfl) (fun _ _ _ h => h) (by rfl) ?_ (by assumption) ?_
                    rotate_left
                    · (intro w hSw; (try dsimp only at hSw); go_simp; (try with_reducible rfl))
                    (try simp only [Act.put, List.setIfInBounds_toArray, List.set_cons_zero, List.set_cons_succ])
                    refine take_l 11 (v := ?_) rfl (by kernel_rfl) (by kernel_rfl) (by kernel_rfl) (fun _ _ _ h => h) (by rfl) ?_ (by assumption) ?_
                    rotate_left
                    · (intro w hSw; (try dsimp only at hSw); go_simp; (try with_reducible rfl))
                    (try simp only [Act.put, List.setIfInBounds_toArray, List.set_cons_zero, List.set_cons_succ])
                    refine take_l 12 (v := ?_) rfl (by kernel_rfl) (by kernel_rfl) (by kernel_rfl) (fun _ _ _ h => h) (by rfl) ?_ (by assumption) ?_
                    rotate_left
                    · (intro w hSw; (try dsimp only at hSw); go_simp; (try with_reducible rfl))
                    (try simp only [Act.put, List.setIfInBounds_toArray, List.set_cons_zero, List.set_cons_succ])
                    refine take_l 13 (v := ?_) rfl (by kernel_rfl) (by kernel_rfl) (by kernel_rfl) (fun _ _ _ h => h) (by rfl) ?_ (by assumption) ?_
                    rotate_left
                    · (intro w hSw; (try dsimp only at hSw); go_simp; (try with_reducible rfl))
                    (try simp only [Act.put, List.setIfInBounds_toArray, List.set_cons_zero, List.set_cons_succ])
                    refine take_l 14 (v := ?_) rfl (by kernel_rfl) (by kernel_rfl) (by kernel_rfl) (fun _ _ _ h => h) (by rfl) ?_ (by assumption) ?_
                    rotate_left
                    · (intro w hSw; (try dsimp only at hSw); go_simp; (try with_reducible rfl))
                    (try simp only [Act.put, List.setIfInBounds_toArray, List.set_cons_zero, List.set_cons_succ])
                    refine take_l 15 (v := ?_) rfl (by kernel_rfl) (by kernel_rfl) (by kernel_rfl) (fun _ _ _ h => h) (by rfl) ?_ (by assumption) ?_
                    rotate_left
                    · (intro w hSw; (try dsimp only at hSw); go_simp; (try with_reducible rfl))
                    (try simp only [Act.put, List.setIfInBounds_toArray, List.set_cons_zero, List.set_cons_succ])
                    refine take_l 16 (v := ?_) rfl (by kernel_rfl) (by kernel_rfl) (by kernel_rfl) (fun _ _ _ h => h) (by rfl) ?_ (by assumption) ?_
                    rotate_left
                    · (intro w hSw; (try dsimp only at hSw); go_simp; (try with_reducible rfl))
                    (try simp only [Act.put, List.setIfInBounds_toArray, List.set_cons_zero, List.set_cons_succ])
                    refine take_l 17 (v := ?_) rfl (by kernel_rfl) (by kernel_rfl) (by kernel_rfl) (fun _ _ _ h => h) (by rfl) ?_ (by assumption) ?_
                    rotate_left
                    · (intro w hSw; (try dsimp only at hSw); go_simp; (try with_reducible rfl))
                    (try simp only [Act.put, List.setIfInBounds_toArray, List.set_cons_zero, List.set_cons_succ])
                    refine take_l 18 (v := ?_) rfl (by kernel_rfl) (by kernel_rfl) (by kernel_rfl) (fun _ _ _ h => h) (by rfl) ?_ (by assumption) ?_
                    rotate_left
                    · (intro w hSw; (try dsimp only at hSw); go_simp; (try with_reducible rfl))
                    (try simp only [Act.put, List.setIfInBounds_toArray, List.set_cons_zero, List.set_cons_succ])
                    refine take_l 19 (v := ?_) rfl (by kernel_rfl) (by kernel_rfl) (by kernel_rfl) (fun _ _ _ h => h) (by rfl) ?_ (by assumption) ?_
                    rotate_left
                    · (intro w hSw; (try dsimp only at hSw); go_simp; (try with_reducible rfl))
                    (try simp only [Act.put, List.setIfInBounds_toArray, List.set_cons_zero, List.set_cons_succ])
                    refine wpAnyH_ready (rs := [20]) (by kernel_rfl) (by simp) ?_
                    refine cons_l (i := 20) rfl (fun K hK => ?_) ?_
                    (go_simp; have hal := (Ext.refl wc).alloc (.cells #[.int .i64 y0, .int .i64 y1, .int .i64 y2, .int .i64 y3, .int .i64 y4, .int .i64 y5] 44); have hfo := flat_one wc y0 y1 y2 y3 y4 y5; obtain ⟨bB, hbB⟩ : ∃ x, x = wc.heap.size := ⟨_, rfl⟩; obtain ⟨wn, hwn⟩ : ∃ x, x = wc.alloc (.cells #[.int .i64 y0, .int .i64 y1, .int .i64 y2, .int .i64 y3, .int .i64 y4, .int .i64 y5] 44) := ⟨_, rfl⟩; rw [← hwn] at hal hfo; rw [← hbB] at hfo; (try rw [← hwn]); (try rw [← hbB]); have zal := hal.size; have HFO := Lib.hid hfo; have KN := Lib.hid (KN.out.ext hal); have HXc := Lib.hid (HXc.out.trans hal); clear hwn hfo hal; obtain ⟨wc, hq⟩ : ∃ x, x = wn := ⟨_, rfl⟩; subst hq)
                    refine hK.out _ _ ?_ (fun hH1 => ?_)
                    · (try dsimp only)
                      (exact ⟨KN.out.cell HC0.out, KN.out.cell HC1.out, KN.out.cell HC2.out, KN.out.cell HC3.out, KN.out.cell HC4.out, KN.out.cell HC5.out⟩)
                    clear hK K hH0
                    (try simp only [Act.put, List.setIfInBounds_toArray, List.set_cons_zero, List.set_cons_succ])
                    refine wpAnyH_ready (rs := [21]) (by kernel_rfl) (by simp) ?_
                    refine cons_l (i := 21) rfl (fun K hK => ?_) ?_
                    (have HOW := Lib.hid (hown.out.ext (HX57.out.trans HXc.out)); refine step_of_wp _ rfl (wp_append_row _ _ rfl w3.heap.size _ dn [⟨y0, y1, y2, y3, y4, y5⟩] rfl HOW.out (some ⟨bB, 0, none⟩) 1 1 rfl rfl (fun h => by cases h) HFO.out (by simp; omega) (by omega) ?_); intro v' wn hown9 hg9 hat9; have HO9 := Lib.hid hown9; have zz9 := hg9.size; have KN := Lib.hid (KN.out.own hg9 (fun g hg => by have := HOG.out g hg; omega)); have HX9 := Lib.hid (Ext.own (hr.out.trans (HX57.out.trans HXc.out)) hg9 (fun g hg => (HOG.out g hg).1)); have HS9 := Lib.hid ((hsq.out.ext (HX57.out.trans HXc.out)).own hg9 (fun g hg ad e => by have h1 := HBQ.out ad e; have h2 := hvb.out g hg; omega)); have HV9 := Lib.hid (show ∀ g, v'.ownBlock = some g → g = w3.heap.size ∨ w4.heap.size ≤ g from fun g hg => by rcases hat9 with h | h; (· rw [h] at hg; exact hvb.out g hg); (· rw [h] at hg; have := Option.some.inj hg; omega)); clear hown9 hg9 hat9 HOW; obtain ⟨wc, hq⟩ : ∃ x, x = wn := ⟨_, rfl⟩; subst hq)
                    refine hK.out _ _ ?_ (fun hH2 => ?_)
                    · (try dsimp only)
                      (exact ⟨KN.out.cell HC0.out, KN.out.cell HC1.out, KN.out.cell HC2.out, KN.out.cell HC3.out, KN.out.cell HC4.out, KN.out.cell HC5.out⟩)
                    clear hK K hH1
                    (try simp only [Act.put, List.setIfInBounds_toArray, List.set_cons_zero, List.set_cons_succ])
                    refine take_l 22 (v := ?_) rfl (by kernel_rfl) (by kernel_rfl) (by kernel_rfl) (fun _ _ _ h => h) (by rfl) ?_ (by assumption) ?_
                    rotate_left
                    · (intro w hSw; (try dsimp only at hSw); go_simp; (try with_reducible rfl))
                    (try simp only [Act.put, List.setIfInBounds_toArray, List.set_cons_zero, List.set_cons_succ])
                    refine wpAnyH_done (by kernel_rfl) ?_ _
                    rotate_left
                    exact AllReadyH.nil
                    exact AllReadyH.nil
                    all_goals
                      go_wp2
                      go_roundw
                      case rel => exact ⟨j + 1, dn ++ [⟨y0, y1, y2, y3, y4, y5⟩], by go_num, by omega, by simp; omega, by omega, HX9, HV9, (by have h := HS9.out; rw [HAQ.out] at h; exact Lib.hid h), HO9, Lib.hid (by rw [HDK.out, ← hdj.out, HLB.out])⟩
                      case measure => simp [intOf] <;> omega
            · have hjn : j = n2 := by omega
              have HDE := Lib.hid (show dn = looseRow line by rw [hdj.out, hjn, ← HN2.out, List.take_length, ← HQS.out]; rfl)
              have HACN := Lib.hid (show acc ++ [dn] = (ps.take (k + 1)).map looseRow by rw [HAK.out, ← HAC.out, HDE.out])
              clear hdj
              obtain ⟨au, cu, hv7⟩ := hown.out.form
              obtain ⟨q, hq⟩ : ∃ q, dn.length = q := ⟨_, rfl⟩
              rw [hq] at hv7
              subst hv7
              have HQ := Lib.hid hq; clear hq
              have KT5 := Lib.hid (KT.out.ext hr.out); have KR5 := Lib.hid (KR.out.ext hr.out); have HS5 := Lib.hid (HSA.out.ext hr.out)
              have HA := Lib.hid ((Ext.refl w5).alloc (.cells #[.slice au q cu] 42))
              have HOW := Lib.hid (ownsRow_ext HG.out.2.1 (hr.out.trans HA.out))
              rw [← HP.out] at HOW
              have HON := Lib.hid (one_new w5 42 (.slice au q cu))
              have HVG := Lib.hid (fun g (hg : (Value.slice av p cv).ownBlock = some g) => (ownsRow_lt HG.out.2.1 hg).1)
              have t1 : w5.cell? ⟨w.heap.size + 1, 1, none⟩ = some (.slice av p cv) := KT5.out.cell rfl
              have hljz : ¬ (j : Int) < (n2 : Int) := by omega
              go_wp2_with (at_builtin; refine wpList_plain rfl fun K hK => wp_append_outer _ _ rfl w2.heap.size _ _ vs rfl HOW.out (some ⟨w5.heap.size, 0, none⟩) 1 1 rfl [.slice au q cu] rfl (fun h => by cases h) HON.out (fun x hx => by cases List.mem_singleton.1 hx; rfl) (by omega) (by simp; omega) ?_)
              intro v' w7 hown7 hg7 hat7
              clear t1
              obtain ⟨g', cap', hv', _, _⟩ := World.ownsRow.form hown7 (by omega)
              subst hv'
              have z7 := hg7.size
              simp only [World.size_alloc] at z7
              have YG0 := GR.push (row := dn) HG.out (Nat.le_refl _) (hr.out.trans HA.out) (ownsRow_low (hown.out.ext HA.out) (by omega)) (fun g hg => (ownsRow_lt hown.out hg).1) (by rw [← HP.out]; exact hown7) hg7 (by simp only [World.size_alloc]; exact hat7)
              have YT0 := (KT5.out.ext HA.out).own hg7 (fun g hg => by have := HVG.out g hg; omega)
              have YR0 := (KR5.out.ext HA.out).own hg7 (fun g hg => by have := HVG.out g hg; omega)
              have YS0 := (HS5.out.ext HA.out).own hg7 (fun g hg ad e => by have := HVG.out g hg; have := HBL.out ad e; omega)
              have YX0 := Ext.own (hX3.out.trans (hr.out.trans HA.out)) hg7 (fun g hg => by have := HVG.out g hg; omega)
              have o1 : w7.cell? ⟨w.heap.size + 1, 1, none⟩ = some (.slice av p cv) := YT0.cell rfl
              have o2 := YT0.frozen 1
              have YT := Lib.hid (YT0.set 1 (.slice (some ⟨g', 0, none⟩) (p + 1) cap'))
              have YR := Lib.hid (YR0.other (p := ⟨w.heap.size + 1, 1, none⟩) (by dsimp only; omega) (.slice (some ⟨g', 0, none⟩) (p + 1) cap'))
              have YS := Lib.hid (YS0.own (grownBy_set w7 ⟨w.heap.size + 1, 1, none⟩ (.slice (some ⟨g', 0, none⟩) (p + 1) cap')) (fun g hg ad e => by cases hg; have := HBL.out ad e; dsimp only; omega))
              have YX := Lib.hid (YX0.setCell (p := ⟨w.heap.size + 1, 1, none⟩) (by dsimp only; omega) (.slice (some ⟨g', 0, none⟩) (p + 1) cap'))
              have YG := Lib.hid ((YG0.set (p := ⟨w.heap.size + 1, 1, none⟩) (.inl (by dsimp only; omega)) (.slice (some ⟨g', 0, none⟩) (p + 1) cap')).wide (hi' := (w7.setCell ⟨w.heap.size + 1, 1, none⟩ (.slice (some ⟨g', 0, none⟩) (p + 1) cap')).heap.size) (Nat.le_refl _) (by rw [size_setCell']; exact Nat.le_refl _))
              clear hown7 hg7 hat7 YG0 YT0 YR0 YS0 YX0 HOW HON HVG HA
              refine hK _ _ ?_
              clear hK K
              go_wp2
              go_roundw
              case rel => exact ⟨k + 1, p + 1, _, cap', _, _, by go_num, by omega, by omega, by (rw [size_setCell']; omega), YX, YR, YT, (by have h := YS.out; rw [HAL.out] at h; exact Lib.hid h), Lib.hid (by rw [List.length_append, ← HP.out]; rfl), YG, HACN⟩
              case measure => simp [intOf] <;> omega
        · have hkn : k = nl := by omega
          have HAE := Lib.hid (show acc = looseRows r by rw [HAC.out, hkn, ← HNL.out, List.take_length, HLO.out])
          have HFL := Lib.hid (show acc.flatten.length ≤ 1048576 by rw [HAE.out, HLO.out]; exact HXF.out)
          obtain ⟨a0, cc0, hv0, _, hrows⟩ := HG.out.rows
          injection hv0 with e1 e2 e3
          subst e1
          have HRW := Lib.hid hrows; clear hrows e2 e3
          have t0 : w3.cell? ⟨w.heap.size + 1, 0, none⟩ = some (.bool true) := KT.out.cell rfl
          have t1 : w3.cell? ⟨w.heap.size + 1, 1, none⟩ = some (.slice av p cv) := KT.out.cell rfl
          have hlkz : ¬ (k : Int) < (nl : Int) := by omega
          have hpn : p ≤ 1048576 := by omega
          have hRa := HR.out
          rw [HBB.out, ← HAE.out] at hRa
          have HRA := Lib.hid hRa; clear hRa
          go_wp2_with fail
          refine (specFormatTrain_any _ _ _ _ acc _ HP.out hpn HFL.out HRW.out).mono ?_
          rintro e w4 ⟨rfl, hb4⟩
          clear t0 t1
          have z4 := hb4.size
          have K6 := KR.out.ext hb4
          have y0 : w4.cell? ⟨w.heap.size, 0, none⟩ = some (.bool false) := K6.cell rfl
          have y1 : w4.cell? ⟨w.heap.size, 1, none⟩ = some (.slice none 0 0) := K6.cell rfl
          have f0 := K6.frozen 0; have f1 := K6.frozen 1
          have hxx := hX3.out.trans hb4
          have T6 := KT.out.ext hb4
          have HG4 := Lib.hid (HG.out.ext hb4)
          clear K6
          by_cases c4 : fmtTrain true acc = b :: r
          · have hRa := HRA.out
            rw [if_pos c4] at hRa
            obtain ⟨rfl, rfl, rfl⟩ : u1 = true ∧ r1 = acc ∧ R = true := by
              injection hRa with h1 h2
              injection h2 with h2 h3
              exact ⟨h1.symm, h2.symm, h3.symm⟩
            have hz := Lib.hid (show n1 = p by rw [HN1.out, HP.out])
            have c5 : S (fmtTrain true r1) = t := by rw [c4]; exact HTT.out
            rw [c5]
            have t0 : w4.cell? ⟨w.heap.size + 1, 0, none⟩ = some (.bool true) := T6.cell rfl
            have t1 : w4.cell? ⟨w.heap.size + 1, 1, none⟩ = some (.slice av p cv) := T6.cell rfl
            clear hRa c4 T6 c5
            go_wp2
            refine bodyPost_ret (v := .tuple #[.agg #[.bool true, .slice av p cv], .bool true]) (by simp [results, Tryd.results11, go_sem, *]) rfl ⟨av, cv, by rw [hz.out], ?_, by (repeat' (first | (with_reducible exact Ext.refl _) | (with_reducible assumption) | (with_reducible refine Ext.alloc ?_ _) | (with_reducible refine Ext.drewN ?_ _) | (with_reducible refine Ext.drew ?_) | (with_reducible refine Ext.setCell ?_ ?_ _) | (with_reducible exact Nat.le_refl _) | (with_reducible exact Nat.le_succ _) | (with_reducible refine Ext.trans ?_ (by assumption)) | (simp; done) | (simp; omega)))⟩
            exact (((HG4.out.set (p := ⟨w.heap.size, 0, none⟩) (.inl (by simp; try omega)) _).set (p := ⟨w.heap.size, 1, none⟩) (.inl (by simp; try omega)) _).wide (by omega) (by simp [size_setCell']; try omega)).ownAt
          · have hRa := HRA.out
            rw [if_neg c4] at hRa
            obtain ⟨rfl, rfl, rfl⟩ : u1 = false ∧ r1 = [] ∧ R = false := by
              injection hRa with h1 h2
              injection h2 with h2 h3
              exact ⟨h1.symm, h2.symm, h3.symm⟩
            have hz := Lib.hid (show n1 = 0 from HN1.out)
            have c5 : ((S (fmtTrain true acc)).toList == t.toList) = false := by rw [← HTT.out]; exact S_ne c4
            obtain ⟨t2, ht2⟩ : ∃ t2, S (fmtTrain true acc) = t2 := ⟨_, rfl⟩
            rw [ht2] at c5 ⊢
            clear hRa c4 T6 ht2
            go_wp2
            refine bodyPost_ret (v := .tuple #[.agg #[.bool false, .slice none 0 0], .bool false]) (by simp [results, Tryd.results11, go_sem, *]) rfl (One.zero hz.out (by (repeat' (first | (with_reducible exact Ext.refl _) | (with_reducible assumption) | (with_reducible refine Ext.alloc ?_ _) | (with_reducible refine Ext.drewN ?_ _) | (with_reducible refine Ext.drew ?_) | (with_reducible refine Ext.setCell ?_ ?_ _) | (with_reducible exact Nat.le_refl _) | (with_reducible exact Nat.le_succ _) | (with_reducible refine Ext.trans ?_ (by assumption)) | (simp; done) | (simp; omega)))))
    · have hq94 : ((v0 : Int) == 94) = false := by
        have : v0 ≠ 94 := fun h => hb (UInt8.toNat_inj.1 (by rw [hv0, h]; rfl))
        simp; omega
      have HBB := Lib.hid (show (b == 94) = false from beq_eq_false_iff_ne.2 hb)
      clear hv0 hb
      go_enter Tryd.func11, Tryd.ntmps11
      go_wp2_with fail
      rw [HEX.out]
      have HE2 := Lib.hid (HE.out.trans ((Ext.refl _).alloc (.cells #[.bool false, .slice none 0 0] 29)))
      have BT := RowAt.new (w.alloc (.cells #[.bool false, .slice none 0 0] 29)) 29 #[.bool false, .slice none 0 0]
      simp only [World.size_alloc] at BT
      have RT2 := Lib.hid (RET.out.ext ((Ext.refl _).alloc (.cells #[.bool false, .slice none 0 0] 29)))
      refine (l04Split_any 47 r _ hrl).mono ?_
      rintro e w2 ⟨vl, rfl, hos, hb⟩
      rw [HPS.out] at hos
      obtain ⟨al, cl, hvl, hsl, hbl⟩ := hos.at
      rw [HNL.out] at hvl
      subst hvl
      have z2 := hb.size
      simp only [World.size_alloc] at hbl z2
      have HSA := Lib.hid hsl
      have HBL := Lib.hid hbl
      have KT := Lib.hid (BT.ext hb); have KR := Lib.hid (RT2.out.ext hb); have HX2 := Lib.hid (HE2.out.trans hb)
      clear hsl hbl hos hb BT RT2 HE2 HE RET HEX hb0 hsz hne hbe hlt0
      go_wp2
      go_loopw [6] (fun i wr => ∃ (k p : Nat) (av : Option Addr) (cv : Nat) (vs : List Value) (acc : List (List Bt)), i = .int .i64 k ∧ k ≤ nl ∧ p ≤ k ∧ w2.heap.size ≤ wr.heap.size ∧ Hid (Ext w wr) ∧ Hid (RowAt wr w.heap.size 29 #[.bool false, .slice none 0 0]) ∧ Hid (RowAt wr (w.heap.size + 1) 29 #[.bool false, .slice av p cv]) ∧ Hid (SLat wr al ps) ∧ Hid (p = acc.length) ∧ Hid (GR wr w2.heap.size wr.heap.size (.slice av p cv) vs acc) ∧ Hid (acc = (ps.take k).map looseRow)) (fun i _ => nl - (intOf i).toNat)
      case atStart => exact ⟨0, 0, none, 0, [], [], rfl, Nat.zero_le _, Nat.le_refl _, Nat.le_refl _, HX2, KR, KT, HSA, Lib.hid rfl, Lib.hid (GR.nil _ _ _), Lib.hid rfl⟩
      case round =>
        clear HX2 KR KT HSA
        obtain ⟨w3, rfl⟩ : ∃ x, x = wr := ⟨_, rfl⟩
        obtain ⟨k, p, av, cv, vs, acc, rfl, hk, hpk, hsz, hX3, KR, KT, HSA, HP, HG, HAC⟩ := hrel
        by_cases hlk : k < nl
        · have hkp : k < ps.length := by rw [HNL.out]; exact hlk
          obtain ⟨line, hline⟩ : ∃ l, ps[k] = l := ⟨_, rfl⟩
          have hll : line.length ≤ 1048575 := by rw [← hline]; exact HLL.out _ (List.getElem_mem _)
          obtain ⟨bl, offl, hal, hcl⟩ := HSA.out k hkp
          rw [hline] at hcl
          have HAK := Lib.hid (take_more looseRow hkp hline)
          have HAL := Lib.hid hal
          clear hline
          rw [hal]
          have HLT0 := Lib.hid ((Ext.refl w3).alloc (.cells #[] 44))
          have HLIT := Lib.hid (OwnRow.lit w3)
          have c0 : (w3.alloc (.cells #[] 44)).cell? ⟨bl, offl + k, none⟩ = some (.string (S line)) := HLT0.out.cell hcl
          clear hal hcl
          obtain ⟨qs, hqs⟩ : ∃ qs, splitP 43 line = qs := ⟨_, rfl⟩
          obtain ⟨n2, hn2⟩ : ∃ n, qs.length = n := ⟨_, rfl⟩
          have hn2b : n2 ≤ 1048576 := by rw [← hn2, ← hqs]; have := splitP_count 43 line; omega
          have HN2 := Lib.hid hn2; clear hn2
          have HQS := Lib.hid hqs; clear hqs
          have HQL := Lib.hid (show ∀ p ∈ qs, p.length ≤ 1048575 from fun p hp => by rw [← HQS.out] at hp; exact Nat.le_trans (splitP_len hp) hll)
          have hlkz : (k : Int) < (nl : Int) := by omega
          go_wp2_with fail
          refine (l04Split_any 43 line _ hll).mono ?_
          rintro e w4 ⟨vq, rfl, hos, hb4⟩
          rw [HQS.out] at hos
          obtain ⟨aq, cq, hvq, hsq, hbq⟩ := hos.at
          rw [HN2.out] at hvq
          subst hvq
          have z4 := hb4.size
          simp only [World.size_alloc] at z4 hbq
          have HBQ := Lib.hid hbq
          have HSQ := Lib.hid hsq; have HB4 := Lib.hid (HLT0.out.trans hb4)
          have HL4 := Lib.hid (HLIT.out.ext hb4)
          clear c0 hsq hbq hos hb4 HLT0 HLIT
          go_wp2
          go_loopw [7, 9] (fun v7 i wr => ∃ (j : Nat) (dn : List Bt), i = .int .i64 j ∧ j ≤ n2 ∧ dn.length ≤ j ∧ w4.heap.size ≤ wr.heap.size ∧ Hid (Ext w3 wr) ∧ Hid (∀ g, v7.ownBlock = some g → g = w3.heap.size ∨ w4.heap.size ≤ g) ∧ Hid (SLat wr aq qs) ∧ Hid (OwnRow wr w3.heap.size v7 dn) ∧ Hid (dn = (qs.take j).map looseBoat)) (fun _ i _ => n2 - (intOf i).toNat)
          case atStart => exact ⟨0, [], rfl, Nat.zero_le _, Nat.le_refl _, Nat.le_refl _, HB4, Lib.hid (fun g hg => .inl (Option.some.inj hg).symm), HSQ, HL4, Lib.hid rfl⟩
          case round =>
            clear HSQ HL4
            obtain ⟨w5, rfl⟩ : ∃ x, x = wr := ⟨_, rfl⟩
            obtain ⟨j, dn, rfl, hj, hdn, hsz5, hr, hvb, hsq, hown, hdj⟩ := hrel
            by_cases hlj : j < n2
            · have hjq : j < qs.length := by rw [HN2.out]; exact hlj
              obtain ⟨tx, htx⟩ : ∃ l, qs[j] = l := ⟨_, rfl⟩
              have htl : tx.length ≤ 1048575 := by rw [← htx]; exact HQL.out _ (List.getElem_mem _)
              obtain ⟨bq, offq, haq, hcq⟩ := hsq.out j hjq
              rw [htx] at hcq
              have HDK := Lib.hid (take_more looseBoat hjq htx)
              have HAQ := Lib.hid haq
              rw [haq]
              have c0 : w5.cell? ⟨bq, offq + j, none⟩ = some (.string (S tx)) := hcq
              clear htx haq hcq
              obtain ⟨fs, hfs⟩ : ∃ fs, splitP 58 tx = fs := ⟨_, rfl⟩
              obtain ⟨nf, hnf⟩ : ∃ n, fs.length = n := ⟨_, rfl⟩
              have HNF := Lib.hid hnf; clear hnf
              have HFS := Lib.hid hfs; clear hfs
              have hljz : (j : Int) < (n2 : Int) := by omega
              go_wp2_with fail
              refine (l04Split_any 58 tx _ htl).mono ?_
              rintro e w6 ⟨vf, rfl, hos, hb6⟩
              rw [HFS.out] at hos
              obtain ⟨af, cf, hvf, hsf, hbf⟩ := hos.at
              rw [HNF.out] at hvf
              subst hvf
              have z6 := hb6.size
              have HSF := Lib.hid hsf; have HB6 := Lib.hid hb6
              clear c0 hsf hbf hos hb6
              have qM : ∀ w : World, (Instr.makeSlice 46 (.int .i64 6) (.int .i64 6)).run Tryd.prog w = .ok (.slice (some ⟨w.heap.size, 0, none⟩) 6 6) (w.alloc (.cells #[.int .i64 0, .int .i64 0, .int .i64 0, .int .i64 0, .int .i64 0, .int .i64 0] 3)) := make6
              go_wp2
              clear qM
              have HNB := Lib.hid (show ∃ c : Array Value, RowAt (w6.alloc (.cells #[.int .i64 0, .int .i64 0, .int .i64 0, .int .i64 0, .int .i64 0, .int .i64 0] 3)) w6.heap.size 3 c ∧ ∀ x, x < 6 → c[x]? = some (.int .i64 (numK fs 0 x)) from ⟨_, RowAt.new w6 3 _, fun j hj => by
                have : j = 0 ∨ j = 1 ∨ j = 2 ∨ j = 3 ∨ j = 4 ∨ j = 5 := by omega
                rcases this with rfl | rfl | rfl | rfl | rfl | rfl <;> rfl⟩)
              go_loopw [12] (fun i wr => ∃ q : Nat, i = .int .i64 q ∧ q ≤ 6 ∧ q ≤ nf ∧ w6.heap.size < wr.heap.size ∧ Hid (Ext w6 wr) ∧ Hid (∃ c : Array Value, RowAt wr w6.heap.size 3 c ∧ ∀ x, x < 6 → c[x]? = some (.int .i64 (numK fs q x)))) (fun i _ => 6 - (intOf i).toNat)
              case atStart => exact ⟨0, rfl, by omega, Nat.zero_le _, by simp, Lib.hid ((Ext.refl w6).alloc _), HNB⟩
              case round =>
                clear HNB
                obtain ⟨w7, rfl⟩ : ∃ x, x = wr := ⟨_, rfl⟩
                obtain ⟨q, rfl, hq6, hqn, hsz7, hr7, hnb⟩ := hrel
                by_cases hboth : q < nf ∧ q < 6
                · obtain ⟨h1, h2⟩ := hboth
                  have hqf : q < fs.length := by rw [HNF.out]; exact h1
                  obtain ⟨pt, hpt⟩ : ∃ l, fs[q] = l := ⟨_, rfl⟩
                  obtain ⟨bf, offf, haf, hcf⟩ := HSF.out q hqf
                  rw [hpt] at hcf
                  have HPT := Lib.hid hpt
                  rw [haf]
                  have c0 := hr7.out.cell hcf
                  clear hpt hcf haf
                  have h1z : (q : Int) < (nf : Int) := by omega
                  have h2z : (q : Int) < 6 := by omega
                  go_wp2_with fail
                  refine (specParseUint_any pt _).mono ?_
                  rintro e w8 ⟨rfl, hb8⟩
                  clear c0
                  have z8 := hb8.size
                  obtain ⟨Lx, hLx⟩ : ∃ L, looseU pt = L := ⟨_, rfl⟩
                  obtain ⟨Ob, hOb⟩ : ∃ O, (readU pt).isSome = O := ⟨_, rfl⟩
                  rw [hLx, hOb]
                  clear hOb
                  obtain ⟨c, hrow, hcs⟩ := hnb.out
                  have hrow8 := hrow.ext hb8
                  have HNB := Lib.hid (show ∃ c : Array Value, RowAt (w8.setCell ⟨w6.heap.size, q, none⟩ (.int .i64 Lx)) w6.heap.size 3 c ∧ ∀ j, j < 6 → c[j]? = some (.int .i64 (numK fs (q + 1) j)) from ⟨_, hrow8.set q (.int .i64 Lx), fun j hj => by
                    have hsz6 : q < c.size := (Array.getElem?_eq_some_iff.1 (hcs q h2)).1
                    rw [Array.getElem?_setIfInBounds]
                    by_cases hjk : q = j
                    · subst hjk
                      rw [if_pos rfl, if_pos hsz6, numK_at hqf, HPT.out, hLx]
                    · rw [if_neg hjk, hcs j hj, numK_step (fun e => hjk e.symm)]⟩)
                  have n0 : w8.cell? ⟨w6.heap.size, q, none⟩ = some (.int .i64 (numK fs q q)) := hrow8.cell (hcs q h2)
                  have n1 := hrow8.frozen q
                  have HXS := Lib.hid ((hr7.out.trans hb8).setCell (p := ⟨w6.heap.size, q, none⟩) (Nat.le_refl _) (.int .i64 Lx))
                  clear hLx hrow hcs hrow8 hb8
                  go_wp2
                  clear n0 n1
                  go_roundw
                  case rel => exact ⟨q + 1, by go_num, by omega, by omega, by simp [World.setCell]; omega, HXS, HNB⟩
                  case measure => simp [intOf] <;> omega
                · have hend : q = fs.length ∨ q = 6 := by rw [HNF.out]; omega
                  obtain ⟨c, hrow, hcs⟩ := hnb.out
                  have KN := Lib.hid hrow
                  obtain ⟨y0, hy0⟩ : ∃ y, looseN fs 0 = y := ⟨_, rfl⟩
                  obtain ⟨y1, hy1⟩ : ∃ y, looseN fs 1 = y := ⟨_, rfl⟩
                  obtain ⟨y2, hy2⟩ : ∃ y, looseN fs 2 = y := ⟨_, rfl⟩
                  obtain ⟨y3, hy3⟩ : ∃ y, looseN fs 3 = y := ⟨_, rfl⟩
                  obtain ⟨y4, hy4⟩ : ∃ y, looseN fs 4 = y := ⟨_, rfl⟩
                  obtain ⟨y5, hy5⟩ : ∃ y, looseN fs 5 = y := ⟨_, rfl⟩
                  have HC0 := Lib.hid (show c[0]? = some (.int .i64 y0) by rw [hcs 0 (by omega), numK_end hend (by omega), hy0])
                  have HC1 := Lib.hid (show c[1]? = some (.int .i64 y1) by rw [hcs 1 (by omega), numK_end hend (by omega), hy1])
                  have HC2 := Lib.hid (show c[2]? = some (.int .i64 y2) by rw [hcs 2 (by omega), numK_end hend (by omega), hy2])
                  have HC3 := Lib.hid (show c[3]? = some (.int .i64 y3) by rw [hcs 3 (by omega), numK_end hend (by omega), hy3])
                  have HC4 := Lib.hid (show c[4]? = some (.int .i64 y4) by rw [hcs 4 (by omega), numK_end hend (by omega), hy4])
                  have HC5 := Lib.hid (show c[5]? = some (.int .i64 y5) by rw [hcs 5 (by omega), numK_end hend (by omega), hy5])
                  have HLB := Lib.hid (show looseBoat tx = ⟨y0, y1, y2, y3, y4, y5⟩ by unfold looseBoat; rw [HFS.out, hy0, hy1, hy2, hy3, hy4, hy5])
                  clear hy0 hy1 hy2 hy3 hy4 hy5 hrow hcs hend hnb
                  have HX57 := Lib.hid (HB6.out.trans hr7.out)
                  have HOG := Lib.hid (fun g (hg : Value.ownBlock _ = some g) => ownsRow_lt hown.out hg)
                  have hcase : (¬ (q : Int) < (nf : Int)) ∨ ((q : Int) < (nf : Int) ∧ ¬ (q : Int) < 6) := by omega
                  rcases hcase with h1z | ⟨h1z, h2z⟩
                  all_goals
                    go_wp2_with fail
                    refine wp_region_held_drew (S := (fun w' => w'.cell? ⟨w6.heap.size, 0, none⟩ = some (.int .i64 y0) ∧ w'.cell? ⟨w6.heap.size, 1, none⟩ = some (.int .i64 y1) ∧ w'.cell? ⟨w6.heap.size, 2, none⟩ = some (.int .i64 y2) ∧ w'.cell? ⟨w6.heap.size, 3, none⟩ = some (.int .i64 y3) ∧ w'.cell? ⟨w6.heap.size, 4, none⟩ = some (.int .i64 y4) ∧ w'.cell? ⟨w6.heap.size, 5, none⟩ = some (.int .i64 y5))) (by kernel_rfl) ?_ (fun hH0 => ?_)
                    · (try dsimp only)
                      (exact ⟨KN.out.cell HC0.out, KN.out.cell HC1.out, KN.out.cell HC2.out, KN.out.cell HC3.out, KN.out.cell HC4.out, KN.out.cell HC5.out⟩)
                    (obtain ⟨wc, hwc⟩ : ∃ x, x = w7.drew := ⟨_, rfl⟩; have hdr : Ext w7 wc := (by rw [hwc]; exact (Ext.refl _).drew); (try rw [← hwc] at hH0); (try rw [← hwc]); have zdr := hdr.size; have KN := Lib.hid (KN.out.ext hdr); have HXc := Lib.hid hdr; clear hwc hdr)
                    refine take_l 0 (v := ?_) rfl (by kernel_rfl) (by kernel_rfl) (by kernel_rfl) (fun _ _ _ h => h) (by rfl) ?_ (by assumption) ?_
                    rotate_left
                    · (intro w hSw; (try dsimp only at hSw); go_simp; (try with_reducible rfl))
                    (try simp only [Act.put, List.setIfInBounds_toArray, List.set_cons_zero, List.set_cons_succ])
                    refine take_l 1 (v := ?_) rfl (by kernel_rfl) (by kernel_rfl) (by kernel_rfl) (fun _ _ _ h => h) (by rfl) ?_ (by assumption) ?_
                    rotate_left
                    · (intro w hSw; (try dsimp only at hSw); go_simp; (try with_reducible rfl))
                    (try simp only [Act.put, List.setIfInBounds_toArray, List.set_cons_zero, List.set_cons_succ])
                    refine take_l 2 (v := ?_) rfl (by kernel_rfl) (by kernel_rfl) (by kernel_rfl) (fun _ _ _ h => h) (by rfl) ?_ (by assumption) ?_
                    rotate_left
                    · (intro w hSw; (try dsimp only at hSw); go_simp; (try with_reducible rfl))
                    (try simp only [Act.put, List.setIfInBounds_toArray, List.set_cons_zero, List.set_cons_succ])
                    refine take_l 3 (v := ?_) rfl (by kernel_rfl) (by kernel_rfl) (by kernel_rfl) (fun _ _ _ h => h) (by rfl) ?_ (by assumption) ?_
                    rotate_left
                    · (intro w hSw; (try dsimp only at hSw); go_simp; (try with_reducible rfl))
                    (try simp only [Act.put, List.setIfInBounds_toArray, List.set_cons_zero, List.set_cons_succ])
                    refine take_l 4 (v := ?_) rfl (by kernel_rfl) (by kernel_rfl) (by kernel_rfl) (fun _ _ _ h => h) (by rfl) ?_ (by assumption) ?_
                    rotate_left
                    · (intro w hSw; (try dsimp only at hSw); go_simp; (try with_reducible rfl))
                    (try simp only [Act.put, List.setIfInBounds_toArray, List.set_cons_zero, List.set_cons_succ])
                    refine take_l 5 (v := ?_) rfl (by kernel_rfl) (by kernel_rfl) (by kernel_rfl) (fun _ _ _ h => h) (by rfl) ?_ (by assumption) ?_
                    rotate_left
                    · (intro w hSw; (try dsimp only at hSw); go_simp; (try with_reducible rfl))
                    (try simp only [Act.put, List.setIfInBounds_toArray, List.set_cons_zero, List.set_cons_succ])
                    refine take_l 6 (v := ?_) rfl (by kernel_rfl) (by kernel_rfl) (by kernel_rfl) (fun _ _ _ h => h) (by rfl) ?_ (by assumption) ?_
                    rotate_left
                    · (intro w hSw; (try dsimp only at hSw); go_simp; (try with_reducible rfl))
                    (try simp only [Act.put, List.setIfInBounds_toArray, List.set_cons_zero, List.set_cons_succ])
                    refine take_l 7 (v := ?_) rfl (by kernel_rfl) (by kernel_rfl) (by kernel_rfl) (fun _ _ _ h => h) (by rfl) ?_ (by assumption) ?_
                    rotate_left
                    · (intro w hSw; (try dsimp only at hSw); go_simp; (try with_reducible rfl))
                    (try simp only [Act.put, List.setIfInBounds_toArray, List.set_cons_zero, List.set_cons_succ])
                    refine take_l 8 (v := ?_) rfl (by kernel_rfl) (by kernel_rfl) (by kernel_rfl) (fun _ _ _ h => h) (by rfl) ?_ (by assumption) ?_
                    rotate_left
                    · (intro w hSw; (try dsimp only at hSw); go_simp; (try with_reducible rfl))
                    (try simp only [Act.put, List.setIfInBounds_toArray, List.set_cons_zero, List.set_cons_succ])
                    refine take_l 9 (v := ?_) rfl (by kernel_rfl) (by kernel_rfl) (by kernel_rfl) (fun _ _ _ h => h) (by rfl) ?_ (by assumption) ?_
                    rotate_left
                    · (intro w hSw; (try dsimp only at hSw); go_simp; (try with_reducible rfl))
                    (try simp only [Act.put, List.setIfInBounds_toArray, List.set_cons_zero, List.set_cons_succ])
                    refine take_l 10 (v := ?_) rfl (by kernel_rfl) (by kernel_rfl) (by kernel_rfl) (fun _ _ _ h => h) (by rfl) ?_ (by assumption) ?_
                    rotate_left
                    · (intro w hSw; (try dsimp only at hSw); go_simp; (try with_reducible rfl))
                    (try simp only [Act.put, List.setIfInBounds_toArray, List.set_cons_zero, List.set_cons_succ])
                    refine take_l 11 (v := ?_) rfl (by kernel_rfl) (by kernel_rfl) (by kernel_rfl) (fun _ _ _ h => h) (by rfl) ?_ (by assumption) ?_
                    rotate_left
                    · (intro w hSw; (try dsimp only at hSw); go_simp; (try with_reducible rfl))
                    (try simp only [Act.put, List.setIfInBounds_toArray, List.set_cons_zero, List.set_cons_succ])
                    refine take_l 12 (v := ?_) rfl (by kernel_rfl) (by kernel_rfl) (by kernel_rfl) (fun _ _ _ h => h) (by rfl) ?_ (by assumption) ?_
                    rotate_left
                    · (intro w hSw; (try dsimp only at hSw); go_simp; (try with_reducible rfl))
                    (try simp only [Act.put, List.setIfInBounds_toArray, List.set_cons_zero, List.set_cons_succ])
                    refine take_l 13 (v := ?_) rfl (by kernel_rfl) (by kernel_rfl) (by kernel_rfl) (fun _ _ _ h => h) (by rfl) ?_ (by assumption) ?_
                    rotate_left
                    · (intro w hSw; (try dsimp only at hSw); go_simp; (try with_reducible rfl))
                    (try simp only [Act.put, List.setIfInBounds_toArray, List.set_cons_zero, List.set_cons_succ])
                    refine take_l 14 (v := ?_) rfl (by kernel_rfl) (by kernel_rfl) (by kernel_rfl) (fun _ _ _ h => h) (by rfl) ?_ (by assumption) ?_
                    rotate_left
                    · (intro w hSw; (try dsimp only at hSw); go_simp; (try with_reducible rfl))
                    (try simp only [Act.put, List.setIfInBounds_toArray, List.set_cons_zero, List.set_cons_succ])
                    refine take_l 15 (v := ?_) rfl (by kernel_rfl) (by kernel_rfl) (by kernel_rfl) (fun _ _ _ h => h) (by rfl) ?_ (by assumption) ?_
                    rotate_left
                    · (intro w hSw; (try dsimp only at hSw); go_simp; (try with_reducible rfl))
                    (try simp only [Act.put, List.setIfInBounds_toArray, List.set_cons_zero, List.set_cons_succ])
                    refine take_l 16 (v := ?_) rfl (by kernel_rfl) (by kernel_rfl) (by kernel_rfl) (fun _ _ _ h => h) (by rfl) ?_ (by assumption) ?_
                    rotate_left
                    · (intro w hSw; (try dsimp only at hSw); go_simp; (try with_reducible rfl))
                    (try simp only [Act.put, List.setIfInBounds_toArray, List.set_cons_zero, List.set_cons_succ])
                    refine take_l 17 (v := ?_) rfl (by kernel_rfl) (by kernel_rfl) (by kernel_rfl) (fun _ _ _ h => h) (by rfl) ?_ (by assumption) ?_
                    rotate_left
                    · (intro w hSw; (try dsimp only at hSw); go_simp; (try with_reducible rfl))
                    (try simp only [Act.put, List.setIfInBounds_toArray, List.set_cons_zero, List.set_cons_succ])
                    refine take_l 18 (v := ?_) rfl (by kernel_rfl) (by kernel_rfl) (by kernel_rfl) (fun _ _ _ h => h) (by rfl) ?_ (by assumption) ?_
                    rotate_left
                    · (intro w hSw; (try dsimp only at hSw); go_simp; (try with_reducible rfl))
                    (try simp only [Act.put, List.setIfInBounds_toArray, List.set_cons_zero, List.set_cons_succ])
                    refine take_l 19 (v := ?_) rfl (by kernel_rfl) (by kernel_rfl) (by kernel_rfl) (fun _ _ _ h => h) (by rfl) ?_ (by assumption) ?_
                    rotate_left
                    · (intro w hSw; (try dsimp only at hSw); go_simp; (try with_reducible rfl))
                    (try simp only [Act.put, List.setIfInBounds_toArray, List.set_cons_zero, List.set_cons_succ])
                    refine wpAnyH_ready (rs := [20]) (by kernel_rfl) (by simp) ?_
                    refine cons_l (i := 20) rfl (fun K hK => ?_) ?_
                    (go_simp; have hal := (Ext.refl wc).alloc (.cells #[.int .i64 y0, .int .i64 y1, .int .i64 y2, .int .i64 y3, .int .i64 y4, .int .i64 y5] 44); have hfo := flat_one wc y0 y1 y2 y3 y4 y5; obtain ⟨bB, hbB⟩ : ∃ x, x = wc.heap.size := ⟨_, rfl⟩; obtain ⟨wn, hwn⟩ : ∃ x, x = wc.alloc (.cells #[.int .i64 y0, .int .i64 y1, .int .i64 y2, .int .i64 y3, .int .i64 y4, .int .i64 y5] 44) := ⟨_, rfl⟩; rw [← hwn] at hal hfo; rw [← hbB] at hfo; (try rw [← hwn]); (try rw [← hbB]); have zal := hal.size; have HFO := Lib.hid hfo; have KN := Lib.hid (KN.out.ext hal); have HXc := Lib.hid (HXc.out.trans hal); clear hwn hfo hal; obtain ⟨wc, hq⟩ : ∃ x, x = wn := ⟨_, rfl⟩; subst hq)
                    refine hK.out _ _ ?_ (fun hH1 => ?_)
                    · (try dsimp only)
                      (exact ⟨KN.out.cell HC0.out, KN.out.cell HC1.out, KN.out.cell HC2.out, KN.out.cell HC3.out, KN.out.cell HC4.out, KN.out.cell HC5.out⟩)
                    clear hK K hH0
                    (try simp only [Act.put, List.setIfInBounds_toArray, List.set_cons_zero, List.set_cons_succ])
                    refine wpAnyH_ready (rs := [21]) (by kernel_rfl) (by simp) ?_
                    refine cons_l (i := 21) rfl (fun K hK => ?_) ?_
                    (have HOW := Lib.hid (hown.out.ext (HX57.out.trans HXc.out)); refine step_of_wp _ rfl (wp_append_row _ _ rfl w3.heap.size _ dn [⟨y0, y1, y2, y3, y4, y5⟩] rfl HOW.out (some ⟨bB, 0, none⟩) 1 1 rfl rfl (fun h => by cases h) HFO.out (by simp; omega) (by omega) ?_); intro v' wn hown9 hg9 hat9; have HO9 := Lib.hid hown9; have zz9 := hg9.size; have KN := Lib.hid (KN.out.own hg9 (fun g hg => by have := HOG.out g hg; omega)); have HX9 := Lib.hid (Ext.own (hr.out.trans (HX57.out.trans HXc.out)) hg9 (fun g hg => (HOG.out g hg).1)); have HS9 := Lib.hid ((hsq.out.ext (HX57.out.trans HXc.out)).own hg9 (fun g hg ad e => by have h1 := HBQ.out ad e; have h2 := hvb.out g hg; omega)); have HV9 := Lib.hid (show ∀ g, v'.ownBlock = some g → g = w3.heap.size ∨ w4.heap.size ≤ g from fun g hg => by rcases hat9 with h | h; (· rw [h] at hg; exact hvb.out g hg); (· rw [h] at hg; have := Option.some.inj hg; omega)); clear hown9 hg9 hat9 HOW; obtain ⟨wc, hq⟩ : ∃ x, x = wn := ⟨_, rfl⟩; subst hq)
                    refine hK.out _ _ ?_ (fun hH2 => ?_)
                    · (try dsimp only)
                      (exact ⟨KN.out.cell HC0.out, KN.out.cell HC1.out, KN.out.cell HC2.out, KN.out.cell HC3.out, KN.out.cell HC4.out, KN.out.cell HC5.out⟩)
                    clear hK K hH1
                    (try simp only [Act.put, List.setIfInBounds_toArray, List.set_cons_zero, List.set_cons_succ])
                    refine take_l 22 (v := ?_) rfl (by kernel_rfl) (by kernel_rfl) (by kernel_rfl) (fun _ _ _ h => h) (by rfl) ?_ (by assumption) ?_
                    rotate_left
                    · (intro w hSw; (try dsimp only at hSw); go_simp; (try with_reducible rfl))
                    (try simp only [Act.put, List.setIfInBounds_toArray, List.set_cons_zero, List.set_cons_succ])
                    refine wpAnyH_done (by kernel_rfl) ?_ _
                    rotate_left
                    exact AllReadyH.nil
                    exact AllReadyH.nil
                    all_goals
                      go_wp2
                      go_roundw
                      case rel => exact ⟨j + 1, dn ++ [⟨y0, y1, y2, y3, y4, y5⟩], by go_num, by omega, by simp; omega, by omega, HX9, HV9, (by have h := HS9.out; rw [HAQ.out] at h; exact Lib.hid h), HO9, Lib.hid (by rw [HDK.out, ← hdj.out, HLB.out])⟩
                      case measure => simp [intOf] <;> omega
            · have hjn : j = n2 := by omega
              have HDE := Lib.hid (show dn = looseRow line by rw [hdj.out, hjn, ← HN2.out, List.take_length, ← HQS.out]; rfl)
              have HACN := Lib.hid (show acc ++ [dn] = (ps.take (k + 1)).map looseRow by rw [HAK.out, ← HAC.out, HDE.out])
              clear hdj
              obtain ⟨au, cu, hv7⟩ := hown.out.form
              obtain ⟨q, hq⟩ : ∃ q, dn.length = q := ⟨_, rfl⟩
              rw [hq] at hv7
              subst hv7
              have HQ := Lib.hid hq; clear hq
              have KT5 := Lib.hid (KT.out.ext hr.out); have KR5 := Lib.hid (KR.out.ext hr.out); have HS5 := Lib.hid (HSA.out.ext hr.out)
              have HA := Lib.hid ((Ext.refl w5).alloc (.cells #[.slice au q cu] 42))
              have HOW := Lib.hid (ownsRow_ext HG.out.2.1 (hr.out.trans HA.out))
              rw [← HP.out] at HOW
              have HON := Lib.hid (one_new w5 42 (.slice au q cu))
              have HVG := Lib.hid (fun g (hg : (Value.slice av p cv).ownBlock = some g) => (ownsRow_lt HG.out.2.1 hg).1)
              have t1 : w5.cell? ⟨w.heap.size + 1, 1, none⟩ = some (.slice av p cv) := KT5.out.cell rfl
              have hljz : ¬ (j : Int) < (n2 : Int) := by omega
              go_wp2_with (at_builtin; refine wpList_plain rfl fun K hK => wp_append_outer _ _ rfl w2.heap.size _ _ vs rfl HOW.out (some ⟨w5.heap.size, 0, none⟩) 1 1 rfl [.slice au q cu] rfl (fun h => by cases h) HON.out (fun x hx => by cases List.mem_singleton.1 hx; rfl) (by omega) (by simp; omega) ?_)
              intro v' w7 hown7 hg7 hat7
              clear t1
              obtain ⟨g', cap', hv', _, _⟩ := World.ownsRow.form hown7 (by omega)
              subst hv'
              have z7 := hg7.size
              simp only [World.size_alloc] at z7
              have YG0 := GR.push (row := dn) HG.out (Nat.le_refl _) (hr.out.trans HA.out) (ownsRow_low (hown.out.ext HA.out) (by omega)) (fun g hg => (ownsRow_lt hown.out hg).1) (by rw [← HP.out]; exact hown7) hg7 (by simp only [World.size_alloc]; exact hat7)
              have YT0 := (KT5.out.ext HA.out).own hg7 (fun g hg => by have := HVG.out g hg; omega)
              have YR0 := (KR5.out.ext HA.out).own hg7 (fun g hg => by have := HVG.out g hg; omega)
              have YS0 := (HS5.out.ext HA.out).own hg7 (fun g hg ad e => by have := HVG.out g hg; have := HBL.out ad e; omega)
              have YX0 := Ext.own (hX3.out.trans (hr.out.trans HA.out)) hg7 (fun g hg => by have := HVG.out g hg; omega)
              have o1 : w7.cell? ⟨w.heap.size + 1, 1, none⟩ = some (.slice av p cv) := YT0.cell rfl
              have o2 := YT0.frozen 1
              have YT := Lib.hid (YT0.set 1 (.slice (some ⟨g', 0, none⟩) (p + 1) cap'))
              have YR := Lib.hid (YR0.other (p := ⟨w.heap.size + 1, 1, none⟩) (by dsimp only; omega) (.slice (some ⟨g', 0, none⟩) (p + 1) cap'))
              have YS := Lib.hid (YS0.own (grownBy_set w7 ⟨w.heap.size + 1, 1, none⟩ (.slice (some ⟨g', 0, none⟩) (p + 1) cap')) (fun g hg ad e => by cases hg; have := HBL.out ad e; dsimp only; omega))
              have YX := Lib.hid (YX0.setCell (p := ⟨w.heap.size + 1, 1, none⟩) (by dsimp only; omega) (.slice (some ⟨g', 0, none⟩) (p + 1) cap'))
              have YG := Lib.hid ((YG0.set (p := ⟨w.heap.size + 1, 1, none⟩) (.inl (by dsimp only; omega)) (.slice (some ⟨g', 0, none⟩) (p + 1) cap')).wide (hi' := (w7.setCell ⟨w.heap.size + 1, 1, none⟩ (.slice (some ⟨g', 0, none⟩) (p + 1) cap')).heap.size) (Nat.le_refl _) (by rw [size_setCell']; exact Nat.le_refl _))
              clear hown7 hg7 hat7 YG0 YT0 YR0 YS0 YX0 HOW HON HVG HA
              refine hK _ _ ?_
              clear hK K
              go_wp2
              go_roundw
              case rel => exact ⟨k + 1, p + 1, _, cap', _, _, by go_num, by omega, by omega, by (rw [size_setCell']; omega), YX, YR, YT, (by have h := YS.out; rw [HAL.out] at h; exact Lib.hid h), Lib.hid (by rw [List.length_append, ← HP.out]; rfl), YG, HACN⟩
              case measure => simp [intOf] <;> omega
        · have hkn : k = nl := by omega
          have HAE := Lib.hid (show acc = looseRows r by rw [HAC.out, hkn, ← HNL.out, List.take_length, HLO.out])
          have HFL := Lib.hid (show acc.flatten.length ≤ 1048576 by rw [HAE.out, HLO.out]; exact HXF.out)
          obtain ⟨a0, cc0, hv0, _, hrows⟩ := HG.out.rows
          injection hv0 with e1 e2 e3
          subst e1
          have HRW := Lib.hid hrows; clear hrows e2 e3
          have t0 : w3.cell? ⟨w.heap.size + 1, 0, none⟩ = some (.bool false) := KT.out.cell rfl
          have t1 : w3.cell? ⟨w.heap.size + 1, 1, none⟩ = some (.slice av p cv) := KT.out.cell rfl
          have hlkz : ¬ (k : Int) < (nl : Int) := by omega
          have hpn : p ≤ 1048576 := by omega
          have hRa := HR.out
          rw [HBB.out, ← HAE.out] at hRa
          have HRA := Lib.hid hRa; clear hRa
          go_wp2_with fail
          refine (specFormatTrain_any _ _ _ _ acc _ HP.out hpn HFL.out HRW.out).mono ?_
          rintro e w4 ⟨rfl, hb4⟩
          clear t0 t1
          have z4 := hb4.size
          have K6 := KR.out.ext hb4
          have y0 : w4.cell? ⟨w.heap.size, 0, none⟩ = some (.bool false) := K6.cell rfl
          have y1 : w4.cell? ⟨w.heap.size, 1, none⟩ = some (.slice none 0 0) := K6.cell rfl
          have f0 := K6.frozen 0; have f1 := K6.frozen 1
          have hxx := hX3.out.trans hb4
          have T6 := KT.out.ext hb4
          have HG4 := Lib.hid (HG.out.ext hb4)
          clear K6
          by_cases c4 : fmtTrain false acc = b :: r
          · have hRa := HRA.out
            rw [if_pos c4] at hRa
            obtain ⟨rfl, rfl, rfl⟩ : u1 = false ∧ r1 = acc ∧ R = true := by
              injection hRa with h1 h2
              injection h2 with h2 h3
              exact ⟨h1.symm, h2.symm, h3.symm⟩
            have hz := Lib.hid (show n1 = p by rw [HN1.out, HP.out])
            have c5 : S (fmtTrain false r1) = t := by rw [c4]; exact HTT.out
            rw [c5]
            have t0 : w4.cell? ⟨w.heap.size + 1, 0, none⟩ = some (.bool false) := T6.cell rfl
            have t1 : w4.cell? ⟨w.heap.size + 1, 1, none⟩ = some (.slice av p cv) := T6.cell rfl
            clear hRa c4 T6 c5
            go_wp2
            refine bodyPost_ret (v := .tuple #[.agg #[.bool false, .slice av p cv], .bool true]) (by simp [results, Tryd.results11, go_sem, *]) rfl ⟨av, cv, by rw [hz.out], ?_, by (repeat' (first | (with_reducible exact Ext.refl _) | (with_reducible assumption) | (with_reducible refine Ext.alloc ?_ _) | (with_reducible refine Ext.drewN ?_ _) | (with_reducible refine Ext.drew ?_) | (with_reducible refine Ext.setCell ?_ ?_ _) | (with_reducible exact Nat.le_refl _) | (with_reducible exact Nat.le_succ _) | (with_reducible refine Ext.trans ?_ (by assumption)) | (simp; done) | (simp; omega)))⟩
            exact (((HG4.out.set (p := ⟨w.heap.size, 0, none⟩) (.inl (by simp; try omega)) _).set (p := ⟨w.heap.size, 1, none⟩) (.inl (by simp; try omega)) _).wide (by omega) (by simp [size_setCell']; try omega)).ownAt
          · have hRa := HRA.out
            rw [if_neg c4] at hRa
            obtain ⟨rfl, rfl, rfl⟩ : u1 = false ∧ r1 = [] ∧ R = false := by
              injection hRa with h1 h2
              injection h2 with h2 h3
              exact ⟨h1.symm, h2.symm, h3.symm⟩
            have hz := Lib.hid (show n1 = 0 from HN1.out)
            have c5 : ((S (fmtTrain false acc)).toList == t.toList) = false := by rw [← HTT.out]; exact S_ne c4
            obtain ⟨t2, ht2⟩ : ∃ t2, S (fmtTrain false acc) = t2 := ⟨_, rfl⟩
            rw [ht2] at c5 ⊢
            clear hRa c4 T6 ht2
            go_wp2
            refine bodyPost_ret (v := .tuple #[.agg #[.bool false, .slice none 0 0], .bool false]) (by simp [results, Tryd.results11, go_sem, *]) rfl (One.zero hz.out (by (repeat' (first | (with_reducible exact Ext.refl _) | (with_reducible assumption) | (with_reducible refine Ext.alloc ?_ _) | (with_reducible refine Ext.drewN ?_ _) | (with_reducible refine Ext.drew ?_) | (with_reducible refine Ext.setCell ?_ ?_ _) | (with_reducible exact Nat.le_refl _) | (with_reducible exact Nat.le_succ _) | (with_reducible refine Ext.trans ?_ (by assumption)) | (simp; done) | (simp; omega)))))
end Go.Proofs.YtjjikcjhnglkaaaDoor
