/- FnBestEntry: the walk of the law. -/
import Derived.Test.YtooedgaaaoinbaaProg
import Derived.Test.YtooedgaaaoinbaaBestP
import Derived.Test.YtooedgaaaoinbaaBest
import Derived.Test.YtooedgaaaoinbaaDrawLk
namespace Go.Proofs.Ytooedgaaaoinbaa
open Go.RowKit
set_option linter.unusedSimpArgs false
set_option linter.unusedVariables false

theorem lkb_start {x0 x1 x2 x3 x4 x5 x6 x7 x8 : Int} {ts : List Tn} (h : LkOk x0 x1 x2 x3 x4 x5 x6 x7 x8) (hf : fits x0 x1 ts = true) : lockOk x0 x1 x2 x3 x4 x5 x6 x7 x8 ts = true := by
  have h0 := h.h0
  have h1 := h.h1
  have h2 := h.h2
  have h3 := h.h3
  have h4 := h.h4
  have h5 := h.h5
  have h6 := h.h6
  have h7 := h.h7
  have h8 := h.h8
  unfold fits at hf
  rw [Bool.and_eq_true] at hf
  unfold lockOk
  simp only [Bool.and_eq_true, inR, decide_eq_true_eq]
  refine ⟨?_, hf.1⟩
  omega
theorem bits_fin5 : ∀ d : Fin 33, (bits BinOp.and IntKind.i64 ((d.val : Nat) : Int) 1 == 1) = decide (d.val % 2 = 1) := by decide +kernel
theorem cnt_push (dT : List Tn) (t : Tn) (k nq : Nat) (h : k = cntOf boatsS dT) (h2 : nq = boatsS t) : k + nq = cntOf boatsS (dT ++ [t]) := by
  rw [cntOf_app, ← h, h2]; simp [cntOf]

set_option maxRecDepth 100000 in
set_option maxHeartbeats 4000000 in
theorem bestw_any (a : Option Addr) (n c : Nat) (bs : List Int) (w : World) (hn : n = bs.length) (hs : n ≤ maxLen) (hf : BytesAt w a bs) :
    Calls Try.prog 9 #[.slice a n c] w fun e w' => e = .returned (.bool true) ∧ Ext w w' := by
  have HS := Lib.hid hs
  have HF := Lib.hid hf; clear hf
  have HN := Lib.hid hn; clear hn
  by_cases hsz : (1048576 : Int) < n
  · have hd : decide ((1048576 : Int) < n) = true := by simpa using hsz
    go_enter Try.func9, Try.ntmps9
    go_wp2_with ((go_at_call 38; refine (big_any _ _ _ _ HS.out).mono ?_; rintro e w' ⟨rfl, rfl⟩))
    go_ret
    exact ⟨rfl, by (repeat' (first | (with_reducible exact Ext.refl _) | (with_reducible assumption) | (with_reducible refine Ext.alloc ?_ _) | (with_reducible refine Ext.drewN ?_ _) | (with_reducible refine Ext.drew ?_) | (with_reducible refine Ext.setCell ?_ ?_ _) | (with_reducible exact Nat.le_refl _) | (with_reducible exact Nat.le_succ _) | (with_reducible refine Ext.trans ?_ (by assumption)) | (simp; done) | (simp; omega)))⟩
  have hs2 : n ≤ 1048576 := by omega
  have hd : decide ((1048576 : Int) < n) = false := by simpa using hsz
  go_enter Try.func9, Try.ntmps9
  go_wp2_with fail
  refine (big_any _ _ _ _ HS.out).mono ?_
  rintro e w1 ⟨rfl, rfl⟩
  go_wp2_with fail
  refine (DrawLock_any _ _ _ bs _ HN.out hs2 HF.out).mono ?_
  rintro e w2 ⟨x0, x1, x2, x3, x4, x5, x6, x7, x8, a1, n1, c1, lo1, hi1, es, ts, a2, n2, c2, lo2, es2, qs, K, hlk, hins, hn1, hq, hn2, hl1, hl2, hl3, rfl, hg1, hg2, hx2⟩
  have HX2 := Lib.hid hx2
  have HQT := Lib.hid hq.small
  have HN2 := Lib.hid hn2
  have hn5 : n2 ≤ 5 := by have := hq.1; have := hq.2.1; omega
  have hlok := lkb_start hlk hins.1
  have HLOK := Lib.hid hlok
  have hi0 : I64 x0 := by have := hlk.h0; unfold I64; omega
  have hi1' : I64 x1 := by have := hlk.h1; unfold I64; omega
  have HTS := Lib.hid hins.small
  have hn8 : n1 ≤ 8 := by have := hins.2.1; omega
  have HTQ2 := Lib.hid (show TrainsAt w2 a2 qs from by
    obtain ⟨a', c', e', h'⟩ := hg2.trains
    injection e' with e1 _ _
    rw [e1]
    exact h')
  obtain ⟨HT2, HAC⟩ := (show TrainsAt w2 a1 ts ∧ (a1 = none → c1 = 0) from by
    obtain ⟨a', c', e', hnn, h'⟩ := hg1.own
    injection e' with e1 e2 e3
    rw [e1, e3]
    exact ⟨h'.trains, hnn.2⟩)
  have HT2 := Lib.hid HT2
  have HAC := Lib.hid HAC
  have HN1 := Lib.hid hn1; clear hn1
  obtain ⟨R, hR⟩ : ∃ R, bestRes boatsS x0 x1 x2 x3 x4 x5 x6 x7 x8 ts qs = R := ⟨_, rfl⟩
  obtain ⟨S, hS⟩ := best_of hlok (by rw [← hn2]; exact hn5) hR
  have hRI : bestRes boatsI x0 x1 x2 x3 x4 x5 x6 x7 x8 ts qs = R := by rw [bestRes_same]; exact hR
  have hr8 : R.length ≤ 8 := by rw [← hR]; exact bestRes_len _ _ _ _ _ _ _ _ _ _ _ _
  obtain ⟨rn, hrn⟩ : ∃ r, r = R.length := ⟨_, rfl⟩
  rw [← hrn] at hr8
  have HBO := Lib.hid hS; have HRI := Lib.hid hRI; have HRN := Lib.hid hrn; clear hS hRI hrn hR hlok
  obtain ⟨P, hP⟩ : ∃ P, 2 ^ n2 = P := ⟨_, rfl⟩
  have hP32 : P ≤ 32 := by rw [← hP]; exact pow_le5 hn5
  have hP1 : 1 ≤ P := by rw [← hP]; exact Nat.one_le_two_pow
  have hpz : (2 : Int) ^ n2 = (P : Int) := by rw [← hP]; exact (Int.natCast_pow 2 n2).symm
  have HPP := Lib.hid hP; clear hP
  have hwp : IntKind.i64.wrap (P : Int) = (P : Int) := IntWalk.i64_in _ (by omega)
  obtain ⟨Lb, hLb⟩ : ∃ x, x = w2.heap.size := ⟨_, rfl⟩
  obtain ⟨wA, hwA⟩ : ∃ x, x = (w2.alloc (.cells #[.int .i64 x0, .int .i64 x1, .int .i64 x2, .int .i64 x3, .int .i64 x4, .int .i64 x5, .int .i64 x6, .int .i64 x7, .int .i64 x8, .slice a1 n1 c1] 33)) := ⟨_, rfl⟩
  have HRL := Lib.hid (RowAt.new w2 33 #[.int .i64 x0, .int .i64 x1, .int .i64 x2, .int .i64 x3, .int .i64 x4, .int .i64 x5, .int .i64 x6, .int .i64 x7, .int .i64 x8, .slice a1 n1 c1])
  have HXA := Lib.hid ((Ext.refl w2).alloc (.cells #[.int .i64 x0, .int .i64 x1, .int .i64 x2, .int .i64 x3, .int .i64 x4, .int .i64 x5, .int .i64 x6, .int .i64 x7, .int .i64 x8, .slice a1 n1 c1] 33))
  rw [← hLb] at HRL; rw [← hwA] at HRL HXA
  clear hlk hins hq hn2 hg1 hg2 hx2
  have d0_ : wA.cell? ⟨Lb, 0, none⟩ = some (.int .i64 x0) := HRL.out.cell rfl
  have d1_ : wA.cell? ⟨Lb, 1, none⟩ = some (.int .i64 x1) := HRL.out.cell rfl
  have d2_ : wA.cell? ⟨Lb, 2, none⟩ = some (.int .i64 x2) := HRL.out.cell rfl
  have d3_ : wA.cell? ⟨Lb, 3, none⟩ = some (.int .i64 x3) := HRL.out.cell rfl
  have d4_ : wA.cell? ⟨Lb, 4, none⟩ = some (.int .i64 x4) := HRL.out.cell rfl
  have d5_ : wA.cell? ⟨Lb, 5, none⟩ = some (.int .i64 x5) := HRL.out.cell rfl
  have d6_ : wA.cell? ⟨Lb, 6, none⟩ = some (.int .i64 x6) := HRL.out.cell rfl
  have d7_ : wA.cell? ⟨Lb, 7, none⟩ = some (.int .i64 x7) := HRL.out.cell rfl
  have d8_ : wA.cell? ⟨Lb, 8, none⟩ = some (.int .i64 x8) := HRL.out.cell rfl
  have d9_ : wA.cell? ⟨Lb, 9, none⟩ = some (.slice a1 n1 c1) := HRL.out.cell rfl
  go_wp2_with fail
  (try rw [← hLb])
  (try rw [← hwA])
  clear hwA hLb
  refine (implBest_any R rn _ _ _ _ _ _ _ _ _ _ _ _ ts _ _ _ qs _ HN1.out (by omega) HTS.out (HT2.out.ext HXA.out) HAC.out HN2.out (by omega) HQT.out (HTQ2.out.ext HXA.out) hi0 hi1' HRN.out HRI.out).mono ?_
  rintro e wB ⟨ab, cb, rfl, hob, hbB⟩
  have HLB := Lib.hid (HRL.out.ext hbB)
  have HXB := Lib.hid (HX2.out.trans (HXA.out.trans hbB))
  have HTQ := Lib.hid (HTQ2.out.ext (HXA.out.trans hbB))
  have HTB := Lib.hid (HT2.out.ext (HXA.out.trans hbB))
  have HIB := Lib.hid hob.at
  clear hob hbB HRL HXA HTQ2 HT2
  clear d0_ d1_ d2_ d3_ d4_ d5_ d6_ d7_ d8_ d9_
  have d0_ : wB.cell? ⟨Lb, 0, none⟩ = some (.int .i64 x0) := HLB.out.cell rfl
  have d1_ : wB.cell? ⟨Lb, 1, none⟩ = some (.int .i64 x1) := HLB.out.cell rfl
  have d2_ : wB.cell? ⟨Lb, 2, none⟩ = some (.int .i64 x2) := HLB.out.cell rfl
  have d3_ : wB.cell? ⟨Lb, 3, none⟩ = some (.int .i64 x3) := HLB.out.cell rfl
  have d4_ : wB.cell? ⟨Lb, 4, none⟩ = some (.int .i64 x4) := HLB.out.cell rfl
  have d5_ : wB.cell? ⟨Lb, 5, none⟩ = some (.int .i64 x5) := HLB.out.cell rfl
  have d6_ : wB.cell? ⟨Lb, 6, none⟩ = some (.int .i64 x6) := HLB.out.cell rfl
  have d7_ : wB.cell? ⟨Lb, 7, none⟩ = some (.int .i64 x7) := HLB.out.cell rfl
  have d8_ : wB.cell? ⟨Lb, 8, none⟩ = some (.int .i64 x8) := HLB.out.cell rfl
  have d9_ : wB.cell? ⟨Lb, 9, none⟩ = some (.slice a1 n1 c1) := HLB.out.cell rfl
  obtain ⟨es1, hes, hen, hec⟩ := HTB.out.ents
  have HES := Lib.hid hes; have HEN := Lib.hid hen; have HEC := Lib.hid hec; clear hes hen hec
  go_wp2
  clear d0_ d1_ d2_ d3_ d4_ d5_ d6_ d7_ d8_ d9_
  go_loopw [7, 8] (fun vm vc wr => ∃ (cc most : Nat), cc ≤ P ∧ most ≤ 8388608 ∧ vc = .int .i64 cc ∧ vm = .int .i64 most ∧ Hid (Ext wB wr) ∧ Hid (most = mostTo x0 x1 ts qs cc)) (fun vm vc _ => P - (intOf vc).toNat)
  case atStart => exact ⟨0, 0, Nat.zero_le _, Nat.zero_le _, rfl, rfl, Lib.hid (Ext.refl _), Lib.hid rfl⟩
  case round =>
    obtain ⟨cc, most, hcc, hmost, rfl, rfl, hr, hmt⟩ := hrel
    obtain ⟨w3, rfl⟩ : ∃ x, x = wr := ⟨_, rfl⟩
    have z3 := hr.out.size
    have HL3 := Lib.hid (HLB.out.ext hr.out)
    by_cases hc0 : cc < P
    case pos =>
      have hcz : (cc : Int) < (P : Int) := by omega
      have HEO := Lib.hid HES.out.one
      have HNE := Lib.hid (show n1 = es1.length by rw [HES.out.1]; exact HN1.out)
      have HEC2 := Lib.hid (show ∀ ad, a1 = some ad → ∀ (j : Nat) u, (es1.flatMap eC)[j]? = some u → w3.cell? (ad.add j) = some u from fun ad e j u hu => hr.out.cell (HEC.out ad e j u hu))
      have HL := Lib.hid (show (w3.alloc (.cells #[] 36)).ownsRow w3.heap.size 36 2 (.slice (some ⟨w3.heap.size, 0, none⟩) 0 0) 0 (([] : List (Bool × Value)).flatMap eC) from by
        have := World.ownsRow_lit (base := w3.heap.size) (e := 36) (size := 2) w3 #[] 0 (by simp) (by unfold maxLen; omega) rfl
        simpa using this)
      have HX0 := Lib.hid ((Ext.refl w3).alloc (.cells #[] 36))
      have HNC := Lib.hid (show a1 = none → c1 = 0 ∧ n1 = 0 from fun e => ⟨HAC.out e, by rw [HNE.out, HEN.out e]; rfl⟩)
      have HEC3 := Lib.hid (show ∀ ad, a1 = some ad → ∀ (j : Nat) u, (es1.flatMap eC)[j]? = some u → (w3.alloc (.cells #[] 36)).cell? (ad.add j) = some u from fun ad e j u hu => HX0.out.cell (HEC2.out ad e j u hu))
      go_wp2_with (at_builtin; refine wpList_plain rfl fun K hK => wp_append_trains _ _ rfl w3.heap.size _ 0 [] rfl HL.out a1 n1 c1 rfl es1 HNE.out.symm HNC.out HEC3.out HEO.out (by omega) (by simp) ?_)
      intro v4 w4 hown4 hg4 hat4
      have z4 := hg4.size; simp only [World.size_alloc] at z4
      have HX4 := Lib.hid (Ext.own2 HX0.out hg4 HL.out (Nat.le_refl _))
      have HO4 := Lib.hid (show w4.ownsRow w3.heap.size 36 2 v4 n1 (es1.flatMap eC) by simpa using hown4); clear hown4 hg4 hat4 HL HX0 HEC3
      refine hK _ _ ?_
      clear hK K
      go_wp2
      go_loopw [9, 10, 11] (fun vl vn vi wr => ∃ (i k dl : Nat) (dT : List Tn) (ed : List (Bool × Value)), i ≤ n2 ∧ dl ≤ i ∧ k ≤ 1048576 * i ∧ vi = .int .i64 i ∧ vn = .int .i64 k ∧ Hid (Ext w3 wr) ∧ Hid (dl = dT.length) ∧ Hid (EntOk wB (es1 ++ ed) (ts ++ dT)) ∧ Hid (wr.ownsRow w3.heap.size 36 2 vl (n1 + dl) ((es1 ++ ed).flatMap eC)) ∧ Hid (selB cc 0 qs = dT ++ selB cc i (qs.drop i)) ∧ Hid (k = cntOf boatsS dT)) (fun _ _ vi _ => n2 - (intOf vi).toNat)
      case atStart => exact ⟨0, 0, 0, [], [], Nat.zero_le _, Nat.le_refl _, Nat.zero_le _, rfl, rfl, HX4, rfl, Lib.hid (by rw [List.append_nil, List.append_nil]; exact HES.out), Lib.hid (by rw [List.append_nil, Nat.add_zero]; exact HO4.out), Lib.hid (by rw [List.drop_zero]; rfl), Lib.hid rfl⟩
      case round =>
        obtain ⟨i, k, dl, dT, ed, hi, hdl, hk, rfl, rfl, hx, hdt, hent, hol, hsT, hkc⟩ := hrel
        obtain ⟨w5, rfl⟩ : ∃ x, x = wr := ⟨_, rfl⟩
        have z5 := hx.out.size
        have HX5 := Lib.hid (hr.out.trans hx.out)
        by_cases hlt : i < n2
        case pos =>
          have hlq : i < qs.length := by rw [← HN2.out]; exact hlt
          have HDR := Lib.hid (show qs.drop i = qs[i] :: qs.drop (i + 1) from List.drop_eq_getElem_cons hlq)
          obtain ⟨b0, off, a', c', rfl, hc0', hc1', hml, hfr⟩ := HTQ.out i hlq
          have E0 := Lib.hid hc0'; have E1 := Lib.hid hc1'
          obtain ⟨g9, g2, g3⟩ := HQT.out qs[i] (List.getElem_mem _)
          obtain ⟨t, ht'⟩ : ∃ t, qs[i] = t := ⟨_, rfl⟩
          rw [ht'] at E0 E1 hfr HDR hml g9 g2 g3
          clear ht' hc0' hc1'
          obtain ⟨u, rows⟩ := t
          dsimp only at E0 E1 hfr HDR hml g9 g2 g3
          obtain ⟨m, hm⟩ : ∃ m, m = rows.length := ⟨_, rfl⟩
          rw [← hm] at E1 g9
          obtain ⟨nb, hnb⟩ : ∃ x, rows.flatten.length = x := ⟨_, rfl⟩
          have hnb8 : nb ≤ 1048576 := by rw [← hnb]; exact g3
          have HM := Lib.hid hm; have HG1 := Lib.hid g9; have HG2 := Lib.hid g2; have HG3 := Lib.hid g3; have HML := Lib.hid hml; have HFR := Lib.hid hfr; have HNB := Lib.hid hnb; clear hm g9 g2 g3 hml hfr hnb
          have e0 := HX5.out.cell E0.out; have e1 := HX5.out.cell E1.out
          clear hlq
          obtain ⟨d, hd⟩ : ∃ d, cc / 2 ^ i = d := ⟨_, rfl⟩
          have hdz : (cc : Int) / 2 ^ i = (d : Int) := by rw [← hd]; push_cast; rfl
          have hd8 : d ≤ 32 := by rw [← hd]; exact Nat.le_trans (Nat.div_le_self _ _) (by omega)
          obtain ⟨bt, hbt⟩ : ∃ bt, decide (d % 2 = 1) = bt := ⟨_, rfl⟩
          have hba : (bits BinOp.and IntKind.i64 (d : Int) 1 == 1) = bt := by rw [← hbt]; exact bits_fin5 ⟨d, by omega⟩
          have hbit : bitB cc i = decide (d % 2 = 1) := by unfold bitB; rw [hd]
          rw [hbt] at hbit
          have hltz : (i : Int) < (n2 : Int) := by omega
          have HBT := Lib.hid hbit; have HD := Lib.hid hd; clear hbit hd hbt hd8
          cases bt
          case false =>
            have HT1 := Lib.hid (show selB cc 0 qs = dT ++ selB cc (i + 1) (qs.drop (i + 1)) by rw [hsT.out, HDR.out, selB, HBT.out, if_neg (by decide)])
            clear e0 e1
            go_wp2
            go_roundw
            case rel => exact ⟨i + 1, k, dl, dT, ed, by omega, by omega, by omega, by go_num, rfl, hx, hdt, hent, hol, HT1, hkc⟩
            case measure => simp [intOf] <;> omega
          case true =>
            have HT1 := Lib.hid (show selB cc 0 qs = (dT ++ [(u, rows)]) ++ selB cc (i + 1) (qs.drop (i + 1)) by rw [hsT.out, HDR.out, selB, HBT.out, if_pos rfl, List.append_assoc]; rfl)
            have HEN1 := Lib.hid (show EntOk wB ((es1 ++ ed) ++ [(u, .slice a' m c')]) ((ts ++ dT) ++ [(u, rows)]) by rw [HM.out]; exact hent.out.push HML.out HFR.out)
            have HA1 := Lib.hid ((Ext.refl w5).alloc (.cells #[.bool u, .slice a' m c'] 36))
            have HOL := Lib.hid (ownsRow_ext hol.out HA1.out)
            have HOC := Lib.hid (one_trainC w5 u (.slice a' m c'))
            go_wp2_with (at_builtin; refine wpList_plain rfl fun K hK => wp_append_trains _ _ rfl w3.heap.size _ (n1 + dl) (es1 ++ ed) rfl HOL.out (some ⟨w5.heap.size, 0, none⟩) 1 1 rfl [(u, .slice a' m c')] rfl (fun h => by cases h) HOC.out (fun e he => by cases List.mem_singleton.1 he; rfl) (by omega) (by simp; omega) ?_)
            intro v6 w6 hown6 hg6 hat6
            have z6 := hg6.size; simp only [World.size_alloc] at z6
            have HX6 := Lib.hid (Ext.own2 (hx.out.trans HA1.out) hg6 HOL.out (Nat.le_refl _))
            have HOL6 := Lib.hid hown6; clear hown6 hg6 hat6 HOL HOC HA1
            refine hK _ _ ?_
            clear hK K e0 e1
            have HE6 := Lib.hid (hr.out.trans HX6.out)
            have e0 := HE6.out.cell E0.out; have e1 := HE6.out.cell E1.out
            go_wp2_with fail
            with_reducible refine (specIdsOf_any _ _ _ _ rows _ HM.out HG1.out HG3.out (HFR.out.ext HE6.out)).mono ?_
            rintro e w7 ⟨vq, rfl, hoq, hb7⟩
            obtain ⟨aq, cq, rfl⟩ := ownsRow_formB hoq
            obtain ⟨nq, hnq⟩ : ∃ x, x = (idsOf rows).length := ⟨_, rfl⟩
            rw [← hnq]
            have HNQ := Lib.hid (show nq = boatsS (u, rows) by rw [hnq]; unfold idsOf boatsS; split; exact List.length_map _; rfl)
            have hnq8 : nq ≤ nb := by rw [HNQ.out, ← HNB.out]; unfold boatsS; split; exact Nat.le_refl _; exact Nat.zero_le _
            have HKN := Lib.hid (cnt_push dT (u, rows) k nq hkc.out HNQ.out)
            clear hoq hnq
            have HX7 := Lib.hid (HX6.out.trans hb7); have z7 := hb7.size
            have HOL7 := Lib.hid (ownsRow_ext HOL6.out hb7); clear hb7 e0 e1 HOL6
            have hkn : IntKind.i64.wrap ((k : Int) + (nq : Int)) = (k : Int) + (nq : Int) := IntWalk.i64_in _ (by omega)
            go_wp2
            go_roundw
            case rel => exact ⟨i + 1, k + nq, dl + 1, dT ++ [(u, rows)], ed ++ [(u, .slice a' m c')], by omega, by omega, by omega, by go_num, by go_num, HX7, Lib.hid (by rw [List.length_append, ← hdt.out]; rfl), Lib.hid (by rw [← List.append_assoc, ← List.append_assoc]; exact HEN1.out), Lib.hid (by have h := HOL7.out; rw [← Nat.add_assoc]; simpa using h), HT1, HKN⟩
            case measure => simp [intOf] <;> omega
        case neg =>
          have hdr : qs.drop i = [] := List.drop_eq_nil_of_le (by rw [← HN2.out]; omega)
          have HT1 := Lib.hid (show selB cc 0 qs = dT by rw [hsT.out, hdr]; simp [selB])
          obtain ⟨fb, hfb⟩ : ∃ fb, fits x0 x1 (ts ++ dT) = fb := ⟨_, rfl⟩
          have HG := Lib.hid (show mostTo x0 x1 ts qs (cc + 1) = if fb = true then (if most < k then k else most) else most by rw [mostTo, HT1.out, ← hkc.out, hfb, ← hmt.out])
          have HFB := Lib.hid hfb; clear hfb hdr
          obtain ⟨al, cl, rfl⟩ := ownsRow_formB hol.out
          have HLL := Lib.hid (show n1 + dl = (ts ++ dT).length by rw [List.length_append, ← HN1.out, ← hdt.out])
          have HTA := Lib.hid (hent.out.trains HX5.out (show w5.ownsRow w3.heap.size 36 2 (.slice al (n1 + dl) cl) (ts ++ dT).length ((es1 ++ ed).flatMap eC) by rw [← HLL.out]; exact hol.out))
          have HSM := Lib.hid (show ∀ t ∈ ts ++ dT, SmallT t from fun t ht => by
            rcases List.mem_append.1 ht with h | h
            · exact HTS.out t h
            · refine HQT.out t ?_
              have h2 : t ∈ selB cc 0 qs := by rw [HT1.out]; exact h
              exact selB_mem h2)
          have HL5 := Lib.hid (HLB.out.ext HX5.out)
          have d0_ : w5.cell? ⟨Lb, 0, none⟩ = some (.int .i64 x0) := HL5.out.cell rfl
          have d1_ : w5.cell? ⟨Lb, 1, none⟩ = some (.int .i64 x1) := HL5.out.cell rfl
          have d2_ : w5.cell? ⟨Lb, 2, none⟩ = some (.int .i64 x2) := HL5.out.cell rfl
          have d3_ : w5.cell? ⟨Lb, 3, none⟩ = some (.int .i64 x3) := HL5.out.cell rfl
          have d4_ : w5.cell? ⟨Lb, 4, none⟩ = some (.int .i64 x4) := HL5.out.cell rfl
          have d5_ : w5.cell? ⟨Lb, 5, none⟩ = some (.int .i64 x5) := HL5.out.cell rfl
          have d6_ : w5.cell? ⟨Lb, 6, none⟩ = some (.int .i64 x6) := HL5.out.cell rfl
          have d7_ : w5.cell? ⟨Lb, 7, none⟩ = some (.int .i64 x7) := HL5.out.cell rfl
          have d8_ : w5.cell? ⟨Lb, 8, none⟩ = some (.int .i64 x8) := HL5.out.cell rfl
          have d9_ : w5.cell? ⟨Lb, 9, none⟩ = some (.slice a1 n1 c1) := HL5.out.cell rfl
          go_wp2_with fail
          with_reducible refine (implFits_any fb _ _ _ _ _ _ _ _ _ _ _ _ _ _ _ (ts ++ dT) _ HLL.out (by omega) HSM.out HTA.out HFB.out hi0 hi1').mono ?_
          rintro e w6 ⟨rfl, hb6⟩
          clear d0_ d1_ d2_ d3_ d4_ d5_ d6_ d7_ d8_ d9_
          have HX6 := Lib.hid (HX5.out.trans hb6)
          cases fb
          case false =>
            have HG2 := Lib.hid (show most = mostTo x0 x1 ts qs (cc + 1) by rw [HG.out]; rfl)
            go_wp2
            go_roundw
            case rel => exact ⟨cc + 1, most, by omega, hmost, by go_num, rfl, HX6, HG2⟩
            case measure => simp [intOf] <;> omega
          case true =>
            by_cases hmk : most < k
            case pos =>
              have HG2 := Lib.hid (show k = mostTo x0 x1 ts qs (cc + 1) by rw [HG.out, if_pos rfl, if_pos hmk])
              have hmz : (most : Int) < (k : Int) := by omega
              go_wp2
              go_roundw
              case rel => exact ⟨cc + 1, k, by omega, by omega, by go_num, by go_num, HX6, HG2⟩
              case measure => simp [intOf] <;> omega
            case neg =>
              have HG2 := Lib.hid (show most = mostTo x0 x1 ts qs (cc + 1) by rw [HG.out, if_pos rfl, if_neg hmk])
              have hmz : (k : Int) ≤ (most : Int) := by omega
              go_wp2
              go_roundw
              case rel => exact ⟨cc + 1, most, by omega, hmost, by go_num, by go_num, HX6, HG2⟩
              case measure => simp [intOf] <;> omega
    case neg =>
      have hcP : cc = P := by omega
      have HMP := Lib.hid (show most = mostTo x0 x1 ts qs (2 ^ qs.length) by rw [hmt.out, hcP, ← HN2.out, HPP.out])
      have hcz : ¬ (cc : Int) < (P : Int) := by omega
      clear hmt
      have HEO := Lib.hid HES.out.one
      have HNE := Lib.hid (show n1 = es1.length by rw [HES.out.1]; exact HN1.out)
      have HEC2 := Lib.hid (show ∀ ad, a1 = some ad → ∀ (j : Nat) u, (es1.flatMap eC)[j]? = some u → w3.cell? (ad.add j) = some u from fun ad e j u hu => hr.out.cell (HEC.out ad e j u hu))
      have HL := Lib.hid (show (w3.alloc (.cells #[] 36)).ownsRow w3.heap.size 36 2 (.slice (some ⟨w3.heap.size, 0, none⟩) 0 0) 0 (([] : List (Bool × Value)).flatMap eC) from by
        have := World.ownsRow_lit (base := w3.heap.size) (e := 36) (size := 2) w3 #[] 0 (by simp) (by unfold maxLen; omega) rfl
        simpa using this)
      have HX0 := Lib.hid ((Ext.refl w3).alloc (.cells #[] 36))
      have HNC := Lib.hid (show a1 = none → c1 = 0 ∧ n1 = 0 from fun e => ⟨HAC.out e, by rw [HNE.out, HEN.out e]; rfl⟩)
      have HEC3 := Lib.hid (show ∀ ad, a1 = some ad → ∀ (j : Nat) u, (es1.flatMap eC)[j]? = some u → (w3.alloc (.cells #[] 36)).cell? (ad.add j) = some u from fun ad e j u hu => HX0.out.cell (HEC2.out ad e j u hu))
      go_wp2_with (at_builtin; refine wpList_plain rfl fun K hK => wp_append_trains _ _ rfl w3.heap.size _ 0 [] rfl HL.out a1 n1 c1 rfl es1 HNE.out.symm HNC.out HEC3.out HEO.out (by omega) (by simp) ?_)
      intro v4 w4 hown4 hg4 hat4
      have z4 := hg4.size; simp only [World.size_alloc] at z4
      have HX4 := Lib.hid (Ext.own2 HX0.out hg4 HL.out (Nat.le_refl _))
      have HO4 := Lib.hid (show w4.ownsRow w3.heap.size 36 2 v4 n1 (es1.flatMap eC) by simpa using hown4); clear hown4 hg4 hat4 HL HX0 HEC3
      refine hK _ _ ?_
      clear hK K
      go_wp2
      go_loopw [12, 13, 14] (fun vl vb vi wr => ∃ (i k dl : Nat) (dT : List Tn) (ed : List (Bool × Value)), i ≤ rn ∧ dl ≤ i ∧ k ≤ 1048576 * i ∧ vi = .int .i64 i ∧ vb = .int .i64 k ∧ Hid (Ext w3 wr) ∧ Hid (dl = dT.length) ∧ Hid (EntOk wB (es1 ++ ed) (ts ++ dT)) ∧ Hid (wr.ownsRow w3.heap.size 36 2 vl (n1 + dl) ((es1 ++ ed).flatMap eC)) ∧ Hid (S = dT ++ S.drop i) ∧ Hid (k = cntOf boatsS dT) ∧ Hid (∀ t ∈ dT, SmallT t)) (fun _ _ vi _ => rn - (intOf vi).toNat)
      case atStart => exact ⟨0, 0, 0, [], [], Nat.zero_le _, Nat.le_refl _, Nat.zero_le _, rfl, rfl, HX4, rfl, Lib.hid (by rw [List.append_nil, List.append_nil]; exact HES.out), Lib.hid (by rw [List.append_nil, Nat.add_zero]; exact HO4.out), Lib.hid (by rw [List.drop_zero]; rfl), Lib.hid rfl, Lib.hid (fun t h => by cases h)⟩
      case round =>
        obtain ⟨i, k, dl, dT, ed, hi, hdl, hk, rfl, rfl, hx, hdt, hent, hol, hsT, hkc, hsd⟩ := hrel
        obtain ⟨w5, rfl⟩ : ∃ x, x = wr := ⟨_, rfl⟩
        have z5 := hx.out.size
        have HX5 := Lib.hid (hr.out.trans hx.out)
        by_cases hlt : i < rn
        case pos =>
          have hltR : i < R.length := by rw [← HRN.out]; exact hlt
          obtain ⟨j, hj, hRj, hdrop, hprev⟩ := HBO.out.at i hltR
          obtain ⟨bR, offR, eR, hcR⟩ := HIB.out i hltR
          subst eR
          rw [hRj] at hcR
          have ER := Lib.hid hcR
          have HDR := Lib.hid hdrop
          have hj5 : j < n2 := by rw [HN2.out]; exact hj
          have hjz : (j : Int) < (n2 : Int) := by omega
          have hjz2 : ¬ (n2 : Int) ≤ (j : Int) := by omega
          have hj0 : (0 : Int) ≤ (j : Int) := by omega
          obtain ⟨b0, off, a', c', rfl, hc0', hc1', hml, hfr⟩ := HTQ.out j hj
          have E0 := Lib.hid hc0'; have E1 := Lib.hid hc1'
          obtain ⟨g9, g2, g3⟩ := HQT.out qs[j] (List.getElem_mem _)
          obtain ⟨t, ht'⟩ : ∃ t, qs[j] = t := ⟨_, rfl⟩
          rw [ht'] at E0 E1 hfr HDR hml g9 g2 g3
          clear ht' hc0' hc1'
          obtain ⟨u, rows⟩ := t
          dsimp only at E0 E1 hfr HDR hml g9 g2 g3
          obtain ⟨m, hm⟩ : ∃ m, m = rows.length := ⟨_, rfl⟩
          rw [← hm] at E1 g9
          obtain ⟨nb, hnb⟩ : ∃ x, rows.flatten.length = x := ⟨_, rfl⟩
          have hnb8 : nb ≤ 1048576 := by rw [← hnb]; exact g3
          have HM := Lib.hid hm; have HG1 := Lib.hid g9; have HG2 := Lib.hid g2; have HG3 := Lib.hid g3; have HML := Lib.hid hml; have HFR := Lib.hid hfr; have HNB := Lib.hid hnb; clear hm g9 g2 g3 hml hfr hnb
          have e0 := HX5.out.cell E0.out; have e1 := HX5.out.cell E1.out
          have HSU := Lib.hid (show SmallT (u, rows) from ⟨by rw [← HM.out]; exact HG1.out, HG2.out, HG3.out⟩)
          have f0 := HX5.out.cell ER.out
          have HT1 := Lib.hid (show S = (dT ++ [(u, rows)]) ++ S.drop (i + 1) by rw [List.append_assoc]; exact hsT.out.trans (by rw [HDR.out]; rfl))
          clear hRj hdrop hcR
          have hltz : (i : Int) < (rn : Int) := by omega
          rcases Nat.eq_zero_or_pos i with hi0' | hi0'
          case inl =>
            subst hi0'; clear hprev
            have ER := Lib.hid (show wB.cell? ⟨bR, offR, none⟩ = some (.int .i64 j) from ER.out)
            go_wp2_with fail
            have p0 : ∀ z : Aft w5, z.1.cell? ⟨bR, offR, none⟩ = some (.int .i64 j) := fun z => z.2.cell f0
            have hdj1 : decide ((j : Int) < 0) = false := decide_eq_false (by omega)
            have hdj2 : decide (n2 ≤ j) = false := decide_eq_false (by omega)
            (refine wp_region_aft w5 (Ext.refl _) (by kernel_rfl) (by kernel_rfl) ?_; (repeat (go_big_quiet_step (fail))); refine wpQuiet_nil ?_; intro w2 hx2)
            have hx5q := Lib.hid hx2; clear hx2 p0
            obtain ⟨w8, hw8⟩ : ∃ x, x = w2 := ⟨_, rfl⟩
            rw [← hw8] at hx5q; (try rw [← hw8]); clear hw8
            replace hx := Lib.hid (hx.out.trans hx5q.out); replace hol := Lib.hid (ownsRow_ext hol.out hx5q.out)
            clear e0 e1 f0
            have HX8 := hr.out.trans hx.out
            have e0 := HX8.cell E0.out; have e1 := HX8.cell E1.out; have f0 := HX8.cell ER.out; have z8 := hx5q.out.size; clear HX8
            have HEN1 := Lib.hid (show EntOk wB ((es1 ++ ed) ++ [(u, .slice a' m c')]) ((ts ++ dT) ++ [(u, rows)]) by rw [HM.out]; exact hent.out.push HML.out HFR.out)
            have HA1 := Lib.hid ((Ext.refl w8).alloc (.cells #[.bool u, .slice a' m c'] 36))
            have HOL := Lib.hid (ownsRow_ext hol.out HA1.out)
            have HOC := Lib.hid (one_trainC w8 u (.slice a' m c'))
            go_wp2_with (at_builtin; refine wpList_plain rfl fun K hK => wp_append_trains _ _ rfl w3.heap.size _ (n1 + dl) (es1 ++ ed) rfl HOL.out (some ⟨w8.heap.size, 0, none⟩) 1 1 rfl [(u, .slice a' m c')] rfl (fun h => by cases h) HOC.out (fun e he => by cases List.mem_singleton.1 he; rfl) (by omega) (by simp; omega) ?_)
            intro v6 w6 hown6 hg6 hat6
            have z6 := hg6.size; simp only [World.size_alloc] at z6
            have HX6 := Lib.hid (Ext.own2 (hx.out.trans HA1.out) hg6 HOL.out (Nat.le_refl _))
            have HOL6 := Lib.hid hown6; clear hown6 hg6 hat6 HOL HOC HA1
            refine hK _ _ ?_
            clear hK K e0 e1 f0
            have HE6 := Lib.hid (hr.out.trans HX6.out)
            have e0 := HE6.out.cell E0.out; have e1 := HE6.out.cell E1.out; have f0 := HE6.out.cell ER.out
            go_wp2_with fail
            with_reducible refine (specIdsOf_any _ _ _ _ rows _ HM.out HG1.out HG3.out (HFR.out.ext HE6.out)).mono ?_
            rintro e w7 ⟨vq, rfl, hoq, hb7⟩
            obtain ⟨aq, cq, rfl⟩ := ownsRow_formB hoq
            obtain ⟨nq, hnq⟩ : ∃ x, x = (idsOf rows).length := ⟨_, rfl⟩
            rw [← hnq]
            have HNQ := Lib.hid (show nq = boatsS (u, rows) by rw [hnq]; unfold idsOf boatsS; split; exact List.length_map _; rfl)
            have hnq8 : nq ≤ nb := by rw [HNQ.out, ← HNB.out]; unfold boatsS; split; exact Nat.le_refl _; exact Nat.zero_le _
            have HKN := Lib.hid (cnt_push dT (u, rows) k nq hkc.out HNQ.out)
            clear hoq hnq
            have HX7 := Lib.hid (HX6.out.trans hb7); have z7 := hb7.size
            have HOL7 := Lib.hid (ownsRow_ext HOL6.out hb7); clear hb7 e0 e1 HOL6 f0
            have hkn : IntKind.i64.wrap ((k : Int) + (nq : Int)) = (k : Int) + (nq : Int) := IntWalk.i64_in _ (by omega)
            go_wp2
            go_roundw
            case rel => exact ⟨0 + 1, k + nq, dl + 1, dT ++ [(u, rows)], ed ++ [(u, .slice a' m c')], by omega, by omega, by omega, by go_num, by go_num, HX7, Lib.hid (by rw [List.length_append, ← hdt.out]; rfl), Lib.hid (by rw [← List.append_assoc, ← List.append_assoc]; exact HEN1.out), Lib.hid (by have h := HOL7.out; rw [← Nat.add_assoc]; simpa using h), HT1, HKN, Lib.hid (fun t ht => (List.mem_append.1 ht).elim (hsd.out t) (fun h => by rw [List.mem_singleton.1 h]; exact HSU.out))⟩
            case measure => simp [intOf] <;> omega
          case inr =>
            have hpr := hprev hi0'
            obtain ⟨i1, rfl⟩ : ∃ q, i = q + 1 := ⟨i - 1, by omega⟩
            obtain ⟨r1, hr1⟩ : ∃ r, R[i1 + 1 - 1]'(by omega) = r := ⟨_, rfl⟩
            rw [hr1] at hpr
            obtain ⟨bR', offR', eR, hcR⟩ := HIB.out i1 (by omega)
            cases eR
            have hq1 : R[i1]'(by omega) = r1 := by rw [← hr1]; congr 1
            rw [hq1] at hcR
            have EP := Lib.hid hcR; clear hcR hq1 hr1 hprev
            have f1 := HX5.out.cell EP.out
            have hpr2 : ¬ (j : Int) ≤ r1 := by omega
            have hiw : ((i1 + 1 : Nat) : Int) - 1 = (i1 : Int) := by omega
            have hip : (0 : Int) < (i1 : Int) + 1 := by omega
            have hip0 : (0 : Int) ≤ (i1 : Int) + 1 := by omega
            have hip1 : (i1 : Int) + 1 < (rn : Int) := by omega
            have hip2 : (i1 : Int) < (rn : Int) := by omega
            have hip3 : ((i1 : Int) + 1).toNat = i1 + 1 := by omega
            have hip4 : IntKind.i64.wrap ((i1 : Int) + 1 - 1) = (i1 : Int) := by rw [IntWalk.i64_in _ (by omega)]; omega
            have hip6 : (0 : Int) ≤ (i1 : Int) := by omega
            have hdj3 : decide ((0 : Int) < (i1 : Int) + 1) = true := decide_eq_true (by omega)
            have hdj4 : decide ((j : Int) ≤ r1) = false := decide_eq_false (by omega)
            go_wp2_with fail
            have p0 : ∀ z : Aft w5, z.1.cell? ⟨bR, offR + (i1 + 1), none⟩ = some (.int .i64 j) := fun z => z.2.cell f0
            have p1 : ∀ z : Aft w5, z.1.cell? ⟨bR, offR + i1, none⟩ = some (.int .i64 r1) := fun z => z.2.cell f1
            have hdj1 : decide ((j : Int) < 0) = false := decide_eq_false (by omega)
            have hdj2 : decide (n2 ≤ j) = false := decide_eq_false (by omega)
            (refine wp_region_aft w5 (Ext.refl _) (by kernel_rfl) (by kernel_rfl) ?_; (repeat (go_big_quiet_step (fail))); refine wpQuiet_nil ?_; intro w2 hx2)
            have hx5q := Lib.hid hx2; clear hx2 p0 p1
            obtain ⟨w8, hw8⟩ : ∃ x, x = w2 := ⟨_, rfl⟩
            rw [← hw8] at hx5q; (try rw [← hw8]); clear hw8
            replace hx := Lib.hid (hx.out.trans hx5q.out); replace hol := Lib.hid (ownsRow_ext hol.out hx5q.out)
            clear e0 e1 f0 f1
            have HX8 := hr.out.trans hx.out
            have e0 := HX8.cell E0.out; have e1 := HX8.cell E1.out; have f0 := HX8.cell ER.out; have z8 := hx5q.out.size; clear HX8
            have HEN1 := Lib.hid (show EntOk wB ((es1 ++ ed) ++ [(u, .slice a' m c')]) ((ts ++ dT) ++ [(u, rows)]) by rw [HM.out]; exact hent.out.push HML.out HFR.out)
            have HA1 := Lib.hid ((Ext.refl w8).alloc (.cells #[.bool u, .slice a' m c'] 36))
            have HOL := Lib.hid (ownsRow_ext hol.out HA1.out)
            have HOC := Lib.hid (one_trainC w8 u (.slice a' m c'))
            go_wp2_with (at_builtin; refine wpList_plain rfl fun K hK => wp_append_trains _ _ rfl w3.heap.size _ (n1 + dl) (es1 ++ ed) rfl HOL.out (some ⟨w8.heap.size, 0, none⟩) 1 1 rfl [(u, .slice a' m c')] rfl (fun h => by cases h) HOC.out (fun e he => by cases List.mem_singleton.1 he; rfl) (by omega) (by simp; omega) ?_)
            intro v6 w6 hown6 hg6 hat6
            have z6 := hg6.size; simp only [World.size_alloc] at z6
            have HX6 := Lib.hid (Ext.own2 (hx.out.trans HA1.out) hg6 HOL.out (Nat.le_refl _))
            have HOL6 := Lib.hid hown6; clear hown6 hg6 hat6 HOL HOC HA1
            refine hK _ _ ?_
            clear hK K e0 e1 f0
            have HE6 := Lib.hid (hr.out.trans HX6.out)
            have e0 := HE6.out.cell E0.out; have e1 := HE6.out.cell E1.out; have f0 := HE6.out.cell ER.out
            go_wp2_with fail
            with_reducible refine (specIdsOf_any _ _ _ _ rows _ HM.out HG1.out HG3.out (HFR.out.ext HE6.out)).mono ?_
            rintro e w7 ⟨vq, rfl, hoq, hb7⟩
            obtain ⟨aq, cq, rfl⟩ := ownsRow_formB hoq
            obtain ⟨nq, hnq⟩ : ∃ x, x = (idsOf rows).length := ⟨_, rfl⟩
            rw [← hnq]
            have HNQ := Lib.hid (show nq = boatsS (u, rows) by rw [hnq]; unfold idsOf boatsS; split; exact List.length_map _; rfl)
            have hnq8 : nq ≤ nb := by rw [HNQ.out, ← HNB.out]; unfold boatsS; split; exact Nat.le_refl _; exact Nat.zero_le _
            have HKN := Lib.hid (cnt_push dT (u, rows) k nq hkc.out HNQ.out)
            clear hoq hnq
            have HX7 := Lib.hid (HX6.out.trans hb7); have z7 := hb7.size
            have HOL7 := Lib.hid (ownsRow_ext HOL6.out hb7); clear hb7 e0 e1 HOL6 f0
            have hkn : IntKind.i64.wrap ((k : Int) + (nq : Int)) = (k : Int) + (nq : Int) := IntWalk.i64_in _ (by omega)
            go_wp2
            go_roundw
            case rel => exact ⟨(i1 + 1) + 1, k + nq, dl + 1, dT ++ [(u, rows)], ed ++ [(u, .slice a' m c')], by omega, by omega, by omega, by go_num, by go_num, HX7, Lib.hid (by rw [List.length_append, ← hdt.out]; rfl), Lib.hid (by rw [← List.append_assoc, ← List.append_assoc]; exact HEN1.out), Lib.hid (by have h := HOL7.out; rw [← Nat.add_assoc]; simpa using h), HT1, HKN, Lib.hid (fun t ht => (List.mem_append.1 ht).elim (hsd.out t) (fun h => by rw [List.mem_singleton.1 h]; exact HSU.out))⟩
            case measure => simp [intOf] <;> omega
        case neg =>
          have hdr : S.drop i = [] := List.drop_eq_nil_of_le (by have := HBO.out.1; have := HRN.out; omega)
          have hSd : S = dT := by have h := hsT.out; rw [hdr, List.append_nil] at h; exact h
          have hkm : k = most := by rw [hkc.out, ← hSd, HBO.out.2.2.2.1, HMP.out]
          subst hkm
          have HFT := Lib.hid (show rn = 0 ∨ fits x0 x1 (ts ++ dT) = true from HBO.out.2.2.2.2.imp (fun h => by rw [HRN.out, h]; rfl) (fun h => by rw [← hSd]; exact h))
          clear hdr hSd
          obtain ⟨al, cl, rfl⟩ := ownsRow_formB hol.out
          have HLL := Lib.hid (show n1 + dl = (ts ++ dT).length by rw [List.length_append, ← HN1.out, ← hdt.out])
          have HTA := Lib.hid (hent.out.trains HX5.out (show w5.ownsRow w3.heap.size 36 2 (.slice al (n1 + dl) cl) (ts ++ dT).length ((es1 ++ ed).flatMap eC) by rw [← HLL.out]; exact hol.out))
          have HSM := Lib.hid (show ∀ t ∈ ts ++ dT, SmallT t from fun t ht => (List.mem_append.1 ht).elim (HTS.out t) (hsd.out t))
          have HL5 := Lib.hid (HLB.out.ext HX5.out)
          have d0_ : w5.cell? ⟨Lb, 0, none⟩ = some (.int .i64 x0) := HL5.out.cell rfl
          have d1_ : w5.cell? ⟨Lb, 1, none⟩ = some (.int .i64 x1) := HL5.out.cell rfl
          have d2_ : w5.cell? ⟨Lb, 2, none⟩ = some (.int .i64 x2) := HL5.out.cell rfl
          have d3_ : w5.cell? ⟨Lb, 3, none⟩ = some (.int .i64 x3) := HL5.out.cell rfl
          have d4_ : w5.cell? ⟨Lb, 4, none⟩ = some (.int .i64 x4) := HL5.out.cell rfl
          have d5_ : w5.cell? ⟨Lb, 5, none⟩ = some (.int .i64 x5) := HL5.out.cell rfl
          have d6_ : w5.cell? ⟨Lb, 6, none⟩ = some (.int .i64 x6) := HL5.out.cell rfl
          have d7_ : w5.cell? ⟨Lb, 7, none⟩ = some (.int .i64 x7) := HL5.out.cell rfl
          have d8_ : w5.cell? ⟨Lb, 8, none⟩ = some (.int .i64 x8) := HL5.out.cell rfl
          have d9_ : w5.cell? ⟨Lb, 9, none⟩ = some (.slice a1 n1 c1) := HL5.out.cell rfl
          by_cases hrz : rn = 0
          case pos =>
            subst hrz
            go_wp2_with fail
            refine (implLockOk_any true _ _ _ _ _ _ _ _ _ _ _ _ ts _ HN1.out (by omega) HTS.out (HTB.out.ext HX5.out) HLOK.out).mono ?_
            rintro e w6 ⟨rfl, hb6⟩
            go_wp2
            go_ret
            exact ⟨rfl, HXB.out.trans (HX5.out.trans hb6)⟩
          case neg =>
            have HFF := Lib.hid (HFT.out.resolve_left hrz)
            have hrb : ((rn : Int) == 0) = false := by simpa using hrz
            go_wp2_with fail
            with_reducible refine (specFits_any true _ _ _ _ _ _ _ _ _ _ _ _ _ _ _ (ts ++ dT) _ HLL.out (by omega) HSM.out HTA.out HFF.out hi0 hi1').mono ?_
            rintro e w6 ⟨rfl, hb6⟩
            clear d0_ d1_ d2_ d3_ d4_ d5_ d6_ d7_ d8_ d9_
            have d0_ : w6.cell? ⟨Lb, 0, none⟩ = some (.int .i64 x0) := (HL5.out.ext hb6).cell rfl
            have d1_ : w6.cell? ⟨Lb, 1, none⟩ = some (.int .i64 x1) := (HL5.out.ext hb6).cell rfl
            have d2_ : w6.cell? ⟨Lb, 2, none⟩ = some (.int .i64 x2) := (HL5.out.ext hb6).cell rfl
            have d3_ : w6.cell? ⟨Lb, 3, none⟩ = some (.int .i64 x3) := (HL5.out.ext hb6).cell rfl
            have d4_ : w6.cell? ⟨Lb, 4, none⟩ = some (.int .i64 x4) := (HL5.out.ext hb6).cell rfl
            have d5_ : w6.cell? ⟨Lb, 5, none⟩ = some (.int .i64 x5) := (HL5.out.ext hb6).cell rfl
            have d6_ : w6.cell? ⟨Lb, 6, none⟩ = some (.int .i64 x6) := (HL5.out.ext hb6).cell rfl
            have d7_ : w6.cell? ⟨Lb, 7, none⟩ = some (.int .i64 x7) := (HL5.out.ext hb6).cell rfl
            have d8_ : w6.cell? ⟨Lb, 8, none⟩ = some (.int .i64 x8) := (HL5.out.ext hb6).cell rfl
            have d9_ : w6.cell? ⟨Lb, 9, none⟩ = some (.slice a1 n1 c1) := (HL5.out.ext hb6).cell rfl
            go_wp2_with fail
            refine (implLockOk_any true _ _ _ _ _ _ _ _ _ _ _ _ ts _ HN1.out (by omega) HTS.out (HTB.out.ext (HX5.out.trans hb6)) HLOK.out).mono ?_
            rintro e w7 ⟨rfl, hb7⟩
            go_wp2
            go_ret
            exact ⟨rfl, HXB.out.trans (HX5.out.trans (hb6.trans hb7))⟩
end Go.Proofs.Ytooedgaaaoinbaa
