/- BestEntry of the program. -/
import Derived.Test.YtooedgaaaoinbaaProg
import Derived.Test.YtooedgaaaoinbaaBestG
import Derived.Test.YtooedgaaaoinbaaMark
namespace Go.Proofs.Ytooedgaaaoinbaa
open Go.RowKit
set_option linter.unusedSimpArgs false
set_option linter.unusedVariables false

theorem bits_fin : ∀ d : Fin 257, (bits BinOp.and IntKind.i64 ((d.val : Nat) : Int) 1 == 1) = decide (d.val % 2 = 1) := by decide +kernel
theorem bits_one {d : Nat} (h : d ≤ 256) : (bits BinOp.and IntKind.i64 (d : Int) 1 == 1) = decide (d % 2 = 1) := bits_fin ⟨d, by omega⟩
theorem pow_le8 : ∀ {N : Nat}, N ≤ 8 → 2 ^ N ≤ 256 := fun h => by
  have : (2 : Nat) ^ _ ≤ 2 ^ 8 := Nat.pow_le_pow_right (by decide) h
  simpa using this

set_option maxRecDepth 100000 in
set_option maxHeartbeats 4000000 in
theorem implBest_any (R : List Int) (rn : Nat) (x0 x1 x2 x3 x4 x5 x6 x7 x8 : Int) (a : Option Addr) (n c : Nat) (ts : List Tn) (b : Option Addr) (qn qc : Nat) (qs : List Tn) (w : World) (hn : n = ts.length) (hs : n ≤ 1048576) (hts : ∀ t ∈ ts, SmallT t) (hf : TrainsAt w a ts) (hac : a = none → c = 0) (hqn : qn = qs.length) (hqs : qn ≤ 1048576) (hqt : ∀ t ∈ qs, SmallT t) (hqf : TrainsAt w b qs) (hi0 : I64 x0) (hi1 : I64 x1) (hrn : rn = R.length) (hR : bestRes boatsI x0 x1 x2 x3 x4 x5 x6 x7 x8 ts qs = R) :
    Calls Try.prog 32 #[.agg #[.int .i64 x0, .int .i64 x1, .int .i64 x2, .int .i64 x3, .int .i64 x4, .int .i64 x5, .int .i64 x6, .int .i64 x7, .int .i64 x8, .slice a n c], .slice b qn qc] w fun e w' => ∃ a' c', e = .returned (.slice a' rn c') ∧ IntOwn w' w.heap.size w'.heap.size (.slice a' rn c') R ∧ Ext w w' := by
  obtain ⟨k1, hk1⟩ : ∃ k, lockOk x0 x1 x2 x3 x4 x5 x6 x7 x8 ts = k := ⟨_, rfl⟩
  unfold bestRes at hR
  rw [hk1] at hR
  have hk8 : k1 = true → ts.length ≤ 8 := fun h => by rw [h] at hk1; unfold lockOk at hk1; simp only [Bool.and_eq_true] at hk1; exact (distinct_parts hk1.2).1
  have HK1 := Lib.hid hk1; clear hk1
  obtain ⟨es, hes, hen, hec⟩ := hf.ents
  have HES := Lib.hid hes; have HEN := Lib.hid hen; have HEC := Lib.hid hec; clear hes hen hec
  have HAC := Lib.hid hac; clear hac
  have HN := Lib.hid hn; clear hn
  have HS := Lib.hid hs; clear hs
  have HTS := Lib.hid hts; clear hts
  have HF := Lib.hid hf; clear hf
  have HQN := Lib.hid hqn; clear hqn
  have HQS := Lib.hid hqs
  have HQT := Lib.hid hqt; clear hqt
  have HQF := Lib.hid hqf; clear hqf
  have HRN := Lib.hid hrn; clear hrn
  obtain ⟨W, hW⟩ : ∃ W, w.alloc (.cells #[.int .i64 x0, .int .i64 x1, .int .i64 x2, .int .i64 x3, .int .i64 x4, .int .i64 x5, .int .i64 x6, .int .i64 x7, .int .i64 x8, .slice a n c] 33) = W := ⟨_, rfl⟩
  have hB := RowAt.new w 33 #[.int .i64 x0, .int .i64 x1, .int .i64 x2, .int .i64 x3, .int .i64 x4, .int .i64 x5, .int .i64 x6, .int .i64 x7, .int .i64 x8, .slice a n c]
  have hE := (Ext.refl w).alloc (.cells #[.int .i64 x0, .int .i64 x1, .int .i64 x2, .int .i64 x3, .int .i64 x4, .int .i64 x5, .int .i64 x6, .int .i64 x7, .int .i64 x8, .slice a n c] 33)
  rw [hW] at hB hE
  have zW : W.heap.size = w.heap.size + 1 := by rw [← hW, World.size_alloc]
  have HB := Lib.hid hB; have HE := Lib.hid hE; have HW := Lib.hid hW; clear hB hE hW
  cases k1
  case false =>
    have HR := Lib.hid (show R = [] by simpa using hR.symm); clear hR hk8
    have HR0 := Lib.hid (show rn = 0 by rw [HRN.out, HR.out]; rfl)
    go_enter Try.func32, Try.ntmps32
    go_wp2_with fail
    rw [HW.out]
    with_reducible refine (implLockOk_any false _ _ _ _ _ _ _ _ _ _ _ _ ts _ HN.out HS.out HTS.out (HF.out.ext HE.out) HK1.out).mono ?_
    rintro e w1 ⟨rfl, hb1⟩
    have HB1 := Lib.hid (HB.out.ext hb1); have HE1 := Lib.hid (HE.out.trans hb1); have z1 := hb1.size; clear hb1
    go_wp2
    go_ret
    exact ⟨none, 0, by (show Ending.returned (Value.slice none 0 0) = _); rw [HR0.out], by rw [HR.out, HR0.out]; exact ⟨none, 0, rfl, .inl rfl⟩, HE1.out⟩
  case true =>
    obtain ⟨N, hN⟩ : ∃ N, min qs.length 8 = N := ⟨_, rfl⟩
    obtain ⟨P, hP⟩ : ∃ P, 2 ^ N = P := ⟨_, rfl⟩
    have hN8 : N ≤ 8 := by omega
    have hP8 : P ≤ 256 := by rw [← hP]; exact pow_le8 hN8
    have hP1 : 1 ≤ P := by rw [← hP]; exact Nat.one_le_two_pow
    have hq8 : (qs.take 8).length = N := by rw [List.length_take]; omega
    rw [if_pos rfl, hN, hP] at hR
    have hNq : N ≤ qn := by rw [HQN.out]; omega
    have hmn : (if (8 : Int) < (qn : Int) then (8 : Int) else (qn : Int)) = (N : Int) := by have := HQN.out; split <;> omega
    have hpz : (2 : Int) ^ N = (P : Int) := by rw [← hP]; exact (Int.natCast_pow 2 N).symm
    obtain ⟨q8, hq8'⟩ : ∃ q, qs.take 8 = q := ⟨_, rfl⟩
    rw [hq8'] at hR hq8
    have HQ8 := Lib.hid hq8'; have HQL := Lib.hid hq8; have HR0 := Lib.hid hR.symm; have HNN := Lib.hid hN; have HPP := Lib.hid hP; clear hq8' hq8 hR hN hP
    have hn8 : n ≤ 8 := by rw [HN.out]; exact hk8 rfl
    clear hk8
    have hwp : IntKind.i64.wrap (P : Int) = (P : Int) := IntWalk.i64_in _ (by omega)
    have hwp1 : IntKind.i64.wrap ((P : Int) - 1) = (P : Int) - 1 := IntWalk.i64_in _ (by omega)
    go_enter Try.func32, Try.ntmps32
    go_wp2_with fail
    rw [HW.out]
    with_reducible refine (implLockOk_any true _ _ _ _ _ _ _ _ _ _ _ _ ts _ HN.out HS.out HTS.out (HF.out.ext HE.out) HK1.out).mono ?_
    rintro e w1 ⟨rfl, hb1⟩
    have HB1 := Lib.hid (HB.out.ext hb1); have HE1 := Lib.hid (HE.out.trans hb1); have z1 := hb1.size; clear hb1
    go_wp2
    go_loopw [6, 7, 8] (fun vb vm vc wr => ∃ (cc most : Nat) (bl : List Int), cc ≤ 255 ∧ most ≤ 8388608 ∧ vc = .int .i64 cc ∧ vm = .int .i64 most ∧ Hid (Ext w1 wr) ∧ Hid (OwnInts wr w1.heap.size vb bl) ∧ Hid (R = bestGo boatsI x0 x1 ts q8 N cc most bl)) (fun vb vm vc _ => (intOf vc).toNat)
    case atStart => exact ⟨P - 1, 0, [], by omega, by omega, by (try go_num); (try (congr 1; omega)), rfl, Lib.hid (Ext.refl _), Lib.hid (World.ownsRow_nil _ _ _ _), HR0⟩
    case round =>
      obtain ⟨cc, most, bl, hcc, hmost, rfl, rfl, hr, hob, hgo⟩ := hrel
      obtain ⟨w2, rfl⟩ : ∃ x, x = wr := ⟨_, rfl⟩
      have z2 := hr.out.size
      have HB2 := Lib.hid (HB1.out.ext hr.out); have HE2 := Lib.hid (HE1.out.trans hr.out)
      by_cases hc0 : cc = 0
      · subst hc0
        have HRb := Lib.hid (show R = bl by rw [hgo.out]; rfl); clear hgo
        obtain ⟨a9, c9, rfl⟩ := ownsRow_formB hob.out
        have HBL := Lib.hid (show bl.length = rn by rw [HRN.out, HRb.out])
        have HOW9 := Lib.hid ((OwnInts.own hob.out).keep (lo' := w.heap.size) (by omega) (Nat.le_refl _) (fun _ _ _ _ _ hr => hr))
        go_wp2
        go_ret
        exact ⟨a9, c9, by (show Ending.returned (Value.slice a9 bl.length c9) = _); rw [HBL.out], by rw [HRb.out, ← HBL.out]; exact HOW9.out, HE2.out⟩
      obtain ⟨cn, rfl⟩ : ∃ m, cc = m + 1 := ⟨cc - 1, by omega⟩
      have hcp : (0 : Int) < ((cn + 1 : Nat) : Int) := by omega
      have k9 : w2.cell? ⟨w.heap.size, 9, none⟩ = some (.slice a n c) := HB2.out.cell rfl
      go_wp2_with fail
      clear k9
      have HEO := Lib.hid HES.out.one
      have HNE := Lib.hid (show n = es.length by rw [HES.out.1]; exact HN.out)
      have HEC2 := Lib.hid (show ∀ ad, a = some ad → ∀ (j : Nat) u, (es.flatMap eC)[j]? = some u → w2.cell? (ad.add j) = some u from fun ad e j u hu => HE2.out.cell (HEC.out ad e j u hu))
      with_reducible refine (cloneTrains_any _ _ _ es _ HNE.out (by omega) HAC.out HEN.out HEC2.out HEO.out).mono ?_
      rintro e w3 ⟨a3, c3, rfl, ho3, hx3⟩
      have z3 := hx3.size
      have HO3 := Lib.hid ho3; have HX3 := Lib.hid hx3; clear ho3 hx3
      have HB3 := Lib.hid (HB2.out.ext HX3.out)
      go_wp2
      go_loopw [9, 10, 11, 12] (fun vl vt vn vi wr => ∃ (i k dl : Nat) (dT : List Tn) (ed : List (Bool × Value)) (dI : List Int), i ≤ N ∧ dl ≤ i ∧ k ≤ 1048576 * i ∧ vi = .int .i64 i ∧ vn = .int .i64 k ∧ w3.heap.size ≤ wr.heap.size ∧ Hid (Ext w2 wr) ∧ Hid (dl = dT.length) ∧ Hid (EntOk w (es ++ ed) (ts ++ dT)) ∧ Hid (wr.ownsRow w2.heap.size 36 2 vl (n + dl) ((es ++ ed).flatMap eC)) ∧ Hid (OwnInts wr w2.heap.size vt dI) ∧ Hid (∀ g, vl.ownBlock = some g → vt.ownBlock ≠ some g) ∧ Hid (selT (cn + 1) N 0 q8 = dT ++ selT (cn + 1) N i (q8.drop i)) ∧ Hid (selI (cn + 1) N 0 q8 = dI ++ selI (cn + 1) N i (q8.drop i)) ∧ Hid (dI.length ≤ i) ∧ Hid (k = cntOf boatsI dT)) (fun _ _ _ vi _ => N - (intOf vi).toNat)
      case atStart => exact ⟨0, 0, 0, [], [], [], Nat.zero_le _, Nat.le_refl _, Nat.zero_le _, rfl, rfl, Nat.le_refl _, HX3, rfl, Lib.hid (by rw [List.append_nil, List.append_nil]; exact HES.out), Lib.hid (by rw [List.append_nil, Nat.add_zero]; exact HO3.out), Lib.hid (World.ownsRow_nil _ _ _ _), Lib.hid (fun g hg e => by cases e), Lib.hid (by rw [List.drop_zero]; rfl), Lib.hid (by rw [List.drop_zero]; rfl), Lib.hid (Nat.le_refl _), Lib.hid rfl⟩
      case round =>
        obtain ⟨i, k, dl, dT, ed, dI, hi, hdl, hk, rfl, rfl, hz, hx, hdt, hent, hol, hot, hne, hsT, hsI, hdi, hkc⟩ := hrel
        obtain ⟨w4, rfl⟩ : ∃ x, x = wr := ⟨_, rfl⟩
        have z4 := hx.out.size
        have HB4 := Lib.hid (HB2.out.ext hx.out); have HE4 := Lib.hid (HE2.out.trans hx.out)
        have HOB4 := Lib.hid (OwnInts.ext hob.out hx.out)
        by_cases hlt : i < N
        case pos =>
          have hlq : i < qs.length := by rw [← HQN.out]; omega
          obtain ⟨b0, off, a', c', rfl, hc0, hc1, hml, hfr⟩ := HQF.out i hlq
          have E0 := Lib.hid (HE2.out.cell hc0); have E1 := Lib.hid (HE2.out.cell hc1)
          have e0 := hx.out.cell E0.out
          have e1 := hx.out.cell E1.out
          have HDR := Lib.hid (show q8.drop i = qs[i] :: q8.drop (i + 1) by rw [← HQ8.out, List.drop_eq_getElem_cons (by rw [List.length_take]; omega), List.getElem_take])
          obtain ⟨g9, g2, g3⟩ := HQT.out qs[i] (List.getElem_mem _)
          obtain ⟨t, ht'⟩ : ∃ t, qs[i] = t := ⟨_, rfl⟩
          rw [ht'] at e0 e1 E0 E1 hfr HDR hml g9 g2 g3
          clear ht' hlq hc0 hc1
          obtain ⟨u, rows⟩ := t
          dsimp only at e0 e1 E0 E1 hfr HDR hml g9 g2 g3
          obtain ⟨m, hm⟩ : ∃ m, m = rows.length := ⟨_, rfl⟩
          rw [← hm] at e1 E1 g9
          obtain ⟨nb, hnb⟩ : ∃ x, rows.flatten.length = x := ⟨_, rfl⟩
          have hnb8 : nb ≤ 1048576 := by rw [← hnb]; exact g3
          have HM := Lib.hid hm; have HG1 := Lib.hid g9; have HG2 := Lib.hid g2; have HG3 := Lib.hid g3; have HML := Lib.hid hml; have HFR := Lib.hid hfr; have HNB := Lib.hid hnb; clear hm g9 g2 g3 hml hfr hnb
          obtain ⟨r, hr8⟩ : ∃ r, N - 1 - i = r := ⟨_, rfl⟩
          have hr1 : ((N : Int) - 1 - (i : Int)).toNat = r := by omega
          have wr1 : IntKind.i64.wrap ((N : Int) - 1) = (N : Int) - 1 := IntWalk.i64_in _ (by omega)
          have wr2 : IntKind.i64.wrap ((N : Int) - 1 - (i : Int)) = (N : Int) - 1 - (i : Int) := IntWalk.i64_in _ (by omega)
          obtain ⟨d, hd⟩ : ∃ d, (cn + 1) / 2 ^ r = d := ⟨_, rfl⟩
          have hdz : ((cn : Int) + 1) / 2 ^ r = (d : Int) := by rw [← hd]; push_cast; rfl
          have hd8 : d ≤ 256 := by rw [← hd]; exact Nat.le_trans (Nat.div_le_self _ _) (by omega)
          obtain ⟨bt, hbt⟩ : ∃ bt, decide (d % 2 = 1) = bt := ⟨_, rfl⟩
          have hba : (bits BinOp.and IntKind.i64 (d : Int) 1 == 1) = bt := by rw [← hbt]; exact bits_one hd8
          have hbit : bitOn (cn + 1) N i = decide (d % 2 = 1) := by unfold bitOn; rw [hr8, hd]
          rw [hbt] at hbit
          have hltz : (i : Int) < (N : Int) := by omega
          have HBT := Lib.hid hbit; have HD := Lib.hid hd; have HR8 := Lib.hid hr8; clear hbit hd hr8 hbt hd8
          cases bt
          case false =>
            have HT1 := Lib.hid (show selT (cn + 1) N 0 q8 = dT ++ selT (cn + 1) N (i + 1) (q8.drop (i + 1)) by rw [hsT.out, HDR.out, selT, HBT.out, if_neg (by decide)])
            have HI1 := Lib.hid (show selI (cn + 1) N 0 q8 = dI ++ selI (cn + 1) N (i + 1) (q8.drop (i + 1)) by rw [hsI.out, HDR.out, selI, HBT.out, if_neg (by decide)])
            go_wp2
            go_roundw
            case rel => exact ⟨i + 1, k, dl, dT, ed, dI, by omega, by omega, by omega, by go_num, rfl, hz, hx, hdt, hent, hol, hot, hne, HT1, HI1, Lib.hid (Nat.le_succ_of_le hdi.out), hkc⟩
            case measure => simp [intOf] <;> omega
          case true =>
            have HT1 := Lib.hid (show selT (cn + 1) N 0 q8 = (dT ++ [(u, rows)]) ++ selT (cn + 1) N (i + 1) (q8.drop (i + 1)) by rw [hsT.out, HDR.out, selT, HBT.out, if_pos rfl, List.append_assoc]; rfl)
            have HI1 := Lib.hid (show selI (cn + 1) N 0 q8 = (dI ++ [(i : Int)]) ++ selI (cn + 1) N (i + 1) (q8.drop (i + 1)) by rw [hsI.out, HDR.out, selI, HBT.out, if_pos rfl, List.append_assoc]; rfl)
            have HK1b := Lib.hid (show k + nb = cntOf boatsI (dT ++ [(u, rows)]) by rw [cntOf_app, ← hkc.out]; simp [cntOf, boatsI, HNB.out])
            have HEN1 := Lib.hid (show EntOk w ((es ++ ed) ++ [(u, .slice a' m c')]) ((ts ++ dT) ++ [(u, rows)]) by rw [HM.out]; exact hent.out.push HML.out HFR.out)
            have HA1 := Lib.hid ((Ext.refl w4).alloc (.cells #[.bool u, .slice a' m c'] 36))
            have HOL := Lib.hid (ownsRow_ext hol.out HA1.out)
            have HOC := Lib.hid (one_trainC w4 u (.slice a' m c'))
            go_wp2_with (at_builtin; refine wpList_plain rfl fun K hK => wp_append_trains _ _ rfl w2.heap.size _ (n + dl) (es ++ ed) rfl HOL.out (some ⟨w4.heap.size, 0, none⟩) 1 1 rfl [(u, .slice a' m c')] rfl (fun h => by cases h) HOC.out (fun e he => by cases List.mem_singleton.1 he; rfl) (by omega) (by simp; omega) ?_)
            intro v5 w5 hown5 hg5 hat5
            have z5 := hg5.size; simp only [World.size_alloc] at z5
            have HX5 := Lib.hid (Ext.own2 (hx.out.trans HA1.out) hg5 HOL.out (Nat.le_refl _))
            have HOT5 := Lib.hid (show OwnInts w5 w2.heap.size _ dI from ownsRow_kept (OwnInts.ext hot.out HA1.out) hg5 (fun g hgv e => hne.out g e hgv))
            have hne5 := Lib.hid (show ∀ g, v5.ownBlock = some g → _ ≠ some g from fun g hgv e => by
              rcases hat5 with h | h
              · exact hne.out g (h ▸ hgv) e
              · have h1 := (ownsRow_lt (OwnInts.ext hot.out HA1.out) e).2
                rw [h] at hgv
                have := Option.some.inj hgv
                simp only [World.size_alloc] at h1 this
                omega)
            have HOL5 := Lib.hid hown5; clear hown5 hg5 hat5 HOL HOC HA1
            have HB5 := Lib.hid (HB2.out.ext HX5.out); have HE5 := Lib.hid (HE2.out.trans HX5.out)
            refine hK _ _ ?_
            clear hK K
            have HA5 := Lib.hid ((Ext.refl w5).alloc (.cells #[.int .i64 i] 3))
            have HOT6 := Lib.hid (OwnInts.ext HOT5.out HA5.out)
            have HIC := Lib.hid (show IntsAt (w5.alloc (.cells #[.int .i64 i] 3)) (some ⟨w5.heap.size, 0, none⟩) [(i : Int)] from fun j hj => by
              have : j = 0 := by simpa using hj
              subst this
              exact ⟨w5.heap.size, 0, rfl, (RowAt.new w5 3 #[.int .i64 i]).cell rfl⟩)
            have hdi1 : dI.length + [(i : Int)].length ≤ 1048576 := by have := hdi.out; simp; omega
            have HDI1 := Lib.hid hdi1; clear hdi1
            go_wp2_with (at_builtin; refine wpList_plain rfl fun K hK => wp_append_ints _ _ rfl w2.heap.size _ dI [(i : Int)] rfl HOT6.out (some ⟨w5.heap.size, 0, none⟩) 1 1 rfl rfl (fun h => by cases h) HIC.out HDI1.out (by simp; omega) ?_)
            intro v6 w6 hown6 hg6 hat6
            have z6 := hg6.size; simp only [World.size_alloc] at z6
            have HX6 := Lib.hid (Ext.own2 (HX5.out.trans HA5.out) hg6 HOT6.out (Nat.le_refl _))
            have HOL6 := Lib.hid (ownsRow_kept (ownsRow_ext HOL5.out HA5.out) hg6 hne5.out)
            have hne6 := Lib.hid (show ∀ g, v5.ownBlock = some g → v6.ownBlock ≠ some g from fun g hgv e => by
              rcases hat6 with h | h
              · exact hne5.out g hgv (h ▸ e)
              · have h1 := (ownsRow_lt (ownsRow_ext HOL5.out HA5.out) hgv).2
                rw [h] at e
                have := Option.some.inj e
                simp only [World.size_alloc] at h1 this
                omega)
            have HOI6 := Lib.hid hown6; clear hown6 hg6 hat6 HOT6 HIC HA5 HOT5 HOL5
            have HE6 := Lib.hid (HE2.out.trans HX6.out)
            refine hK _ _ ?_
            clear hK K
            have e0 := HX6.out.cell E0.out; have e1 := HX6.out.cell E1.out
            go_wp2_with fail
            with_reducible refine (countBoats_any nb _ _ _ _ rows _ HM.out HG1.out HG3.out (HFR.out.ext HE6.out) HNB.out).mono ?_
            rintro e w7 ⟨rfl, hb7⟩
            have HX7 := Lib.hid (HX6.out.trans hb7); have z7 := hb7.size
            have HOL7 := Lib.hid (ownsRow_ext HOL6.out hb7); have HOI7 := Lib.hid (OwnInts.ext HOI6.out hb7); clear hb7 e0 e1 HOL6 HOI6
            have hkn : IntKind.i64.wrap ((k : Int) + (nb : Int)) = (k : Int) + (nb : Int) := IntWalk.i64_in _ (by omega)
            go_wp2
            go_roundw
            case rel => exact ⟨i + 1, k + nb, dl + 1, dT ++ [(u, rows)], ed ++ [(u, .slice a' m c')], dI ++ [(i : Int)], by omega, by omega, by omega, by go_num, by go_num, by omega, HX7, Lib.hid (by rw [List.length_append, ← hdt.out]; rfl), Lib.hid (by rw [← List.append_assoc, ← List.append_assoc]; exact HEN1.out), Lib.hid (by have h := HOL7.out; rw [← Nat.add_assoc]; simpa using h), HOI7, hne6, HT1, HI1, Lib.hid (by rw [List.length_append]; have := hdi.out; simp; omega), HK1b⟩
            case measure => simp [intOf] <;> omega
        case neg =>
          have hiN : i = N := by omega
          have hdr : q8.drop i = [] := List.drop_eq_nil_of_le (by have := HQL.out; omega)
          have HT1 := Lib.hid (show selT (cn + 1) N 0 q8 = dT by rw [hsT.out, hdr]; simp [selT])
          have HI1 := Lib.hid (show selI (cn + 1) N 0 q8 = dI by rw [hsI.out, hdr]; simp [selI])
          obtain ⟨fb, hfb⟩ : ∃ fb, fits x0 x1 (ts ++ dT) = fb := ⟨_, rfl⟩
          obtain ⟨mb, hmb⟩ : ∃ mb, decide (most < k) = mb := ⟨_, rfl⟩
          have hmz : decide ((most : Int) < (k : Int)) = mb := by rw [← hmb]; exact decide_eq_decide.2 (by omega)
          have HG := Lib.hid (show R = if (mb && fb) = true then bestGo boatsI x0 x1 ts q8 N cn k dI else bestGo boatsI x0 x1 ts q8 N cn most bl by rw [hgo.out, bestGo, HT1.out, HI1.out, ← hkc.out, hfb, hmb])
          have HFB := Lib.hid hfb; clear hfb hdr
          obtain ⟨al, cl, rfl⟩ := ownsRow_formB hol.out
          have HLL := Lib.hid (show n + dl = (ts ++ dT).length by rw [List.length_append, ← HN.out, ← hdt.out])
          have HTA := Lib.hid (hent.out.trains HE4.out (show w4.ownsRow w2.heap.size 36 2 (.slice al (n + dl) cl) (ts ++ dT).length ((es ++ ed).flatMap eC) by rw [← HLL.out]; exact hol.out))
          have HSM := Lib.hid (show ∀ t ∈ ts ++ dT, SmallT t from fun t ht => by
            rcases List.mem_append.1 ht with h | h
            · exact HTS.out t h
            · refine HQT.out t (List.mem_of_mem_take (i := 8) ?_)
              rw [HQ8.out]
              have h2 : t ∈ selT (cn + 1) N 0 q8 := by rw [HT1.out]; exact h
              exact selT_mem h2)
          have k0_ : w4.cell? ⟨w.heap.size, 0, none⟩ = some (.int .i64 x0) := HB4.out.cell rfl
          have k1_ : w4.cell? ⟨w.heap.size, 1, none⟩ = some (.int .i64 x1) := HB4.out.cell rfl
          have k2_ : w4.cell? ⟨w.heap.size, 2, none⟩ = some (.int .i64 x2) := HB4.out.cell rfl
          have k3_ : w4.cell? ⟨w.heap.size, 3, none⟩ = some (.int .i64 x3) := HB4.out.cell rfl
          have k4_ : w4.cell? ⟨w.heap.size, 4, none⟩ = some (.int .i64 x4) := HB4.out.cell rfl
          have k5_ : w4.cell? ⟨w.heap.size, 5, none⟩ = some (.int .i64 x5) := HB4.out.cell rfl
          have k6_ : w4.cell? ⟨w.heap.size, 6, none⟩ = some (.int .i64 x6) := HB4.out.cell rfl
          have k7_ : w4.cell? ⟨w.heap.size, 7, none⟩ = some (.int .i64 x7) := HB4.out.cell rfl
          have k8_ : w4.cell? ⟨w.heap.size, 8, none⟩ = some (.int .i64 x8) := HB4.out.cell rfl
          have k9_ : w4.cell? ⟨w.heap.size, 9, none⟩ = some (.slice a n c) := HB4.out.cell rfl
          have hcp2 : IntKind.i64.wrap ((cn : Int) + 1 - 1) = (cn : Int) := by rw [IntWalk.i64_in _ (by omega)]; omega
          cases mb
          case false =>
            have HG2 := Lib.hid (show R = bestGo boatsI x0 x1 ts q8 N cn most bl by rw [HG.out]; simp)
            go_wp2
            go_roundw
            case rel => exact ⟨cn, most, bl, by omega, hmost, by go_num, rfl, Lib.hid (hr.out.trans hx.out), HOB4, HG2⟩
            case measure => simp [intOf] <;> omega
          case true =>
            go_wp2_with fail
            cases fb
            case false =>
              with_reducible refine (implFits_any false _ _ _ _ _ _ _ _ _ _ _ _ _ _ _ (ts ++ dT) _ HLL.out (by omega) HSM.out HTA.out HFB.out hi0 hi1).mono ?_
              rintro e w5 ⟨rfl, hb5⟩
              have HX5 := Lib.hid (hr.out.trans (hx.out.trans hb5))
              have HG2 := Lib.hid (show R = bestGo boatsI x0 x1 ts q8 N cn most bl by rw [HG.out]; simp)
              have HO5 := Lib.hid (OwnInts.ext HOB4.out hb5)
              clear hb5
              go_wp2
              go_roundw
              case rel => exact ⟨cn, most, bl, by omega, hmost, by go_num, rfl, HX5, HO5, HG2⟩
              case measure => simp [intOf] <;> omega
            case true =>
              with_reducible refine (implFits_any true _ _ _ _ _ _ _ _ _ _ _ _ _ _ _ (ts ++ dT) _ HLL.out (by omega) HSM.out HTA.out HFB.out hi0 hi1).mono ?_
              rintro e w5 ⟨rfl, hb5⟩
              have HX5 := Lib.hid (hr.out.trans (hx.out.trans hb5))
              have HG2 := Lib.hid (show R = bestGo boatsI x0 x1 ts q8 N cn k dI by rw [HG.out]; simp)
              have HO5 := Lib.hid ((OwnInts.ext hot.out hb5).wide (base' := w1.heap.size) (by omega))
              clear hb5
              go_wp2
              go_roundw
              case rel => exact ⟨cn, k, dI, by omega, by omega, by go_num, rfl, HX5, HO5, HG2⟩
              case measure => simp [intOf] <;> omega
end Go.Proofs.Ytooedgaaaoinbaa
