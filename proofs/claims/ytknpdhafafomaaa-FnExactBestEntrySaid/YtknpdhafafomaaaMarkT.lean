/- Marks over lists of trains and over locks. -/
import Derived.Test.YtknpdhafafomaaaProg
import Derived.Test.YtknpdhafafomaaaTrains
namespace Go.Proofs.Ytknpdhafafomaaa
open Go.RowKit
set_option linter.unusedSimpArgs false
set_option linter.unusedVariables false

def mLen : List Tn → Nat
  | [] => 0
  | t :: ts => 1 + 6 * total t.2 + mLen ts
def numTrains (k : Int) : List Tn → List Tn
  | [] => []
  | t :: ts => ((k % 3 == 0), numRows (k + 1) t.2) :: numTrains (k + 1 + 6 * (total t.2 : Int)) ts
theorem numTrains_len : ∀ (ts : List Tn) (k : Int), (numTrains k ts).length = ts.length
  | [], _ => rfl
  | t :: ts, k => by simp [numTrains, numTrains_len ts]
theorem numTrains_get : ∀ (ts : List Tn) (k : Int) (j : Nat) (h : j < (numTrains k ts).length) (h' : j < ts.length), (numTrains k ts)[j] = (((k + (mLen (ts.take j) : Int)) % 3 == 0), numRows (k + (mLen (ts.take j) : Int) + 1) ts[j].2)
  | [], _, j, h, h' => absurd h' (Nat.not_lt_zero _)
  | t :: ts, k, 0, h, h' => by simp [numTrains, mLen]
  | t :: ts, k, j + 1, h, h' => by
    simp only [numTrains, List.getElem_cons_succ, List.take_succ_cons]
    rw [numTrains_get ts _ j (by simpa [numTrains] using h) (by simpa using h')]
    have e : k + 1 + 6 * (total t.2 : Int) + (mLen (ts.take j) : Int) = k + ((mLen (t :: ts.take j) : Nat) : Int) := by simp only [mLen]; push_cast; omega
    rw [e]
theorem mLen_append : ∀ (a b : List Tn), mLen (a ++ b) = mLen a + mLen b
  | [], b => by simp [mLen]
  | t :: a, b => by rw [List.cons_append, mLen, mLen, mLen_append a b]; omega
theorem mLen_step (ts : List Tn) (j : Nat) (h : j < ts.length) : mLen (ts.take (j + 1)) = mLen (ts.take j) + 1 + 6 * total ts[j].2 := by
  rw [List.take_succ_eq_append_getElem h, mLen_append]
  simp only [mLen]
  omega
theorem mLen_take_le (ts : List Tn) (j : Nat) : mLen (ts.take j) ≤ mLen ts := by
  have h := congrArg mLen (List.take_append_drop j ts)
  rw [mLen_append] at h
  omega

theorem szTGo_mlen : ∀ (ts : List Tn) (l : Int), 0 ≤ l → ¬ szTGo l ts < 0 → (mLen ts : Int) ≤ 6 * (l - szTGo l ts) + (ts.length : Int)
  | [], l, h0, h => by simp [mLen, szTGo]
  | t :: ts, l, h0, h => by
    simp only [szTGo] at h ⊢
    split at h
    · omega
    · rename_i h2
      rw [if_neg h2]
      have hv := szRows_val h0 (by omega : 0 ≤ szRows l t.2)
      have ih := szTGo_mlen ts (szRows l t.2) (by omega) h
      rw [List.length_cons]
      simp only [mLen]
      push_cast
      omega
theorem szTrains_mlen {l : Int} {ts : List Tn} (h0 : 0 ≤ l) (h1 : l ≤ 1048576) (h : ¬ szTrains l ts < 0) : mLen ts ≤ 1073741824 := by
  unfold szTrains at h
  split at h
  · omega
  · rename_i h2
    obtain ⟨e, hl⟩ := szRow_val h2
    have := szTGo_mlen ts _ (by omega) h
    omega

set_option maxHeartbeats 4000000 in
theorem markTrainS_any (a : Option Addr) (n c lo hi : Nat) (ts : List Tn) (k : Int) (w : World) (hn : n = ts.length) (hs : n ≤ 1048576) (hts : ∀ t ∈ ts, SmallT t) (ht : mLen ts ≤ 1073741824) (h0 : 0 ≤ k) (h1 : k ≤ 4294967296) (hhi : hi ≤ w.heap.size) (hf : OwnTrains w lo hi a ts) :
    Calls Try.prog 40 #[.slice a n c, .int .i64 k] w fun e w' => e = .returned (.int .i64 (k + (mLen ts : Int))) ∧ OwnTrains w' lo hi a (numTrains k ts) ∧ Chg lo hi w w' := by
  rcases hf with hxs | ⟨ob, oo, oc, p, q, rfl, hl, hh, hrow, hall⟩
  · subst hxs
    have hn0 : n = 0 := hn
    clear hn
    subst hn0
    go_enter Try.func40, Try.ntmps40
    go_wp2
    go_loopw [1, 5] (fun kk i wr => i = .int .i64 0 ∧ kk = .int .i64 k ∧ w = wr) (fun _ _ _ => 0)
    case atStart => exact ⟨rfl, rfl, rfl⟩
    case round =>
      obtain ⟨rfl, rfl, rfl⟩ := hrel
      go_wp2
      go_ret
      exact ⟨ret_int (by simp [mLen]), .inl rfl, Chg.refl _ _ _⟩
  · have HALL := Lib.hid hall; clear hall
    have HLL := Lib.hid (show lo ≤ ob ∧ ob < hi from ⟨hl, hh⟩)
    have HN := Lib.hid hn; clear hn
    have HR := Lib.hid hts; clear hts
    have HROW := Lib.hid hrow; clear hrow
    obtain ⟨T, hT⟩ : ∃ T, mLen ts = T := ⟨_, rfl⟩
    have HTT := Lib.hid hT
    rw [hT] at ht
    rw [hT]
    clear hT
    go_enter Try.func40, Try.ntmps40
    go_wp2
    go_loopw [1, 5] (fun kk i wr => ∃ (j t : Nat) (oc : Array Value), j ≤ n ∧ i = .int .i64 j ∧ kk = .int .i64 (k + (t : Int)) ∧ t ≤ T ∧ hi ≤ wr.heap.size ∧ Hid (t = mLen (ts.take j)) ∧ Hid (Chg lo hi w wr) ∧ RowAt wr ob 33 oc ∧ Hid (∀ r (h : r < ts.length), ∃ a' c, oc[oo + r * 2]? = some (.bool (if r < j then ((k + (mLen (ts.take r) : Int)) % 3 == 0) else ts[r].1)) ∧ oc[oo + r * 2 + 1]? = some (.slice a' ts[r].2.length c) ∧ OwnRows wr (p r) (q r) a' (if r < j then numRows (k + (mLen (ts.take r) : Int) + 1) ts[r].2 else ts[r].2))) (fun _ i _ => n - (intOf i).toNat)
    case atStart => exact ⟨0, 0, oc, Nat.zero_le _, rfl, by simp, Nat.zero_le _, hhi, by (show _ = _); simp [mLen], Chg.refl _ _ _, HROW.out, fun r hr => by
      obtain ⟨⟨a', c, e1, e2, _, e3⟩, _⟩ := HALL.out r hr
      exact ⟨a', c, by simpa using e1, e2, by simpa using e3⟩⟩
    case round =>
      obtain ⟨j, t, oc, hj, rfl, rfl, htT, hwr, hteq, hchg, hrow, hown⟩ := hrel
      by_cases hlt : j < n
      · have hlt' : j < ts.length := by rw [← HN.out]; exact hlt
        obtain ⟨ra, rc, hv0, hv1, hro⟩ := hown.out j hlt'
        rw [if_neg (Nat.lt_irrefl j)] at hro
        rw [if_neg (Nat.lt_irrefl j)] at hv0
        have HRO := Lib.hid hro; clear hro
        have HV0 := Lib.hid hv0; clear hv0
        have HV1 := Lib.hid hv1; clear hv1
        obtain ⟨⟨_, _, _, _, hml, _⟩, hp1, hp2, hp3, _⟩ := HALL.out j hlt'
        obtain ⟨g1, g2, g3⟩ := HR.out ts[j] (List.getElem_mem _)
        obtain ⟨m, hm⟩ : ∃ m, ts[j].2.length = m := ⟨_, rfl⟩
        obtain ⟨T2, hT2⟩ : ∃ T2, total ts[j].2 = T2 := ⟨_, rfl⟩
        have hstep := mLen_step ts j hlt'
        rw [← hteq.out, hT2] at hstep
        have hle := mLen_take_le ts (j + 1)
        rw [hstep, HTT.out] at hle
        have e0 : wr.cell? ⟨ob, oo + j * 2, none⟩ = some (.bool ts[j].1) := hrow.cell HV0.out
        have e1 : wr.cell? ⟨ob, oo + j * 2 + 1, none⟩ = some (.slice ra m rc) := by have := hrow.cell HV1.out; rw [hm] at this; exact this
        have f0 := hrow.frozen (oo + j * 2)
        have z0 := hrow.lt
        rw [total_flatten] at hT2
        have HT3 := Lib.hid (show total ts[j].2 ≤ 1048576 by rw [total_flatten]; exact g3)
        have HT2 := Lib.hid (show total ts[j].2 = T2 by rw [total_flatten]; exact hT2)
        have HG1 := Lib.hid g1; clear g1
        have HG2 := Lib.hid g2; clear g2
        have HM := Lib.hid hm; clear hm
        have HSTEP := Lib.hid hstep; clear hstep
        clear g3 hT2 hml
        obtain ⟨u0, hu0⟩ : ∃ u, ts[j].1 = u := ⟨_, rfl⟩
        rw [hu0] at e0
        have HU0 := Lib.hid hu0; clear hu0
        go_wp2_with fail
        refine (markBoatSS_any ra m rc (p j) (q j) ts[j].2 _ _ HM.out.symm (by rw [← HM.out]; exact HG1.out) HG2.out HT3.out (by omega) (by omega) (HRO.out.keep (Nat.le_refl _) (Nat.le_refl _) (fun B tt cc g1 g2 hr => hr.other (by dsimp only; omega) _))).mono ?_
        rw [HT2.out]
        rintro e w1 ⟨rfl, hro1, hc1⟩
        have HRO1 := Lib.hid hro1; clear hro1
        have hs1 := hc1.size
        rw [size_setCell'] at hs1
        have HC1 := Lib.hid hc1; clear hc1
        go_wp2
        go_roundw
        case rel =>
          have hc1 := HC1.out
          have hob : ob < p j ∨ q j ≤ ob := hp3
          refine ⟨j + 1, t + 1 + 6 * T2, _, by omega, by go_num, by go_num, hle, by omega, HSTEP.out.symm, ?_, (hrow.set (oo + j * 2) _).chg hc1 hob, fun r hr => ?_⟩
          · exact (hchg.out.set (p := ⟨ob, oo + j * 2, none⟩) HLL.out.1 HLL.out.2 _).trans (hc1.wide hp1 hp2)
          · have hsz : oo + j * 2 < oc.size := (Array.getElem?_eq_some_iff.1 HV0.out).1
            obtain ⟨⟨_, _, _, _, _, _⟩, hr1, hr2, hr3, hr4⟩ := HALL.out r hr
            by_cases e : r = j
            · subst e
              refine ⟨ra, rc, ?_, ?_, ?_⟩
              · rw [if_pos (Nat.lt_succ_self _), Array.getElem?_setIfInBounds_self_of_lt hsz, ← hteq.out]
              · rw [Array.getElem?_setIfInBounds_ne (by omega)]
                exact HV1.out
              · rw [if_pos (Nat.lt_succ_self _), ← hteq.out]
                exact HRO1.out
            · obtain ⟨a', c', h2, h3, h4⟩ := hown.out r hr
              have e1 : (r < j + 1) = (r < j) := propext ⟨fun h => by omega, fun h => by omega⟩
              simp only [e1]
              refine ⟨a', c', ?_, ?_, ?_⟩
              · rw [Array.getElem?_setIfInBounds_ne (by omega)]; exact h2
              · rw [Array.getElem?_setIfInBounds_ne (by omega)]; exact h3
              · have hd : q r ≤ p j ∨ q j ≤ p r := by
                  rcases Nat.lt_or_ge r j with h | h
                  · exact .inl ((HALL.out j hlt').2.2.2.2 r h)
                  · exact .inr (hr4 j (by omega))
                exact (h4.keep (Nat.le_refl _) (Nat.le_refl _) (fun B tt cc g1 g2 hR => hR.other (p := ⟨ob, oo + j * 2, none⟩) (by dsimp only; omega) _)).chg hc1 hd
        case measure => simp [intOf]; omega
      · have hjn : j = n := by omega
        subst hjn
        have HTE := Lib.hid (show t = T by rw [hteq.out, HN.out, List.take_length, HTT.out])
        go_wp2
        go_ret
        refine ⟨ret_int (by rw [HTE.out]), .inr ⟨ob, oo, oc, p, q, rfl, HLL.out.1, HLL.out.2, hrow, fun r hr => ?_⟩, hchg.out⟩
        have hr' : r < ts.length := by rw [numTrains_len] at hr; exact hr
        obtain ⟨a', c', h2, h3, h4⟩ := hown.out r hr'
        rw [if_pos (by rw [HN.out]; exact hr')] at h2 h4
        obtain ⟨⟨_, _, _, _, hml, _⟩, hw⟩ := HALL.out r hr'
        rw [numTrains_get ts k r hr hr']
        exact ⟨⟨a', c', h2, by rw [numRows_len]; exact h3, by rw [numRows_len]; exact hml, h4⟩, hw⟩

set_option maxHeartbeats 2000000 in
theorem heldTrainS_any (a : Option Addr) (n c : Nat) (ts : List Tn) (k : Int) (w : World) (hn : n = ts.length) (hs : n ≤ 1048576) (hts : ∀ t ∈ ts, SmallT t) (ht : mLen ts ≤ 1073741824) (h0 : 0 ≤ k) (h1 : k ≤ 4294967296) (hf : TrainsAt w a (numTrains k ts)) :
    Calls Try.prog 103 #[.slice a n c, .int .i64 k] w fun e w' => e = .returned (.int .i64 (k + (mLen ts : Int))) ∧ w = w' := by
  have HF := Lib.hid hf; clear hf
  have HN := Lib.hid hn; clear hn
  have HR := Lib.hid hts; clear hts
  obtain ⟨T, hT⟩ : ∃ T, mLen ts = T := ⟨_, rfl⟩
  have HTT := Lib.hid hT
  rw [hT] at ht
  rw [hT]
  clear hT
  go_enter Try.func103, Try.ntmps103
  go_wp2
  go_loop [1, 5] (fun kk i => ∃ (j t : Nat), j ≤ n ∧ i = .int .i64 j ∧ kk = .int .i64 (k + (t : Int)) ∧ t ≤ T ∧ Hid (t = mLen (ts.take j))) (fun _ i => n - (intOf i).toNat)
  case atStart => exact ⟨0, 0, Nat.zero_le _, rfl, by simp, Nat.zero_le _, by (show _ = _); simp [mLen]⟩
  case round =>
    obtain ⟨j, t, hj, rfl, rfl, htT, hteq⟩ := hrel
    by_cases hlt : j < n
    · have hlt' : j < ts.length := by rw [← HN.out]; exact hlt
      obtain ⟨b, off, ra, rc, rfl, hc0, hc1, hml, hro⟩ := HF.out j (by rw [numTrains_len]; exact hlt')
      rw [numTrains_get ts k j (by rw [numTrains_len]; exact hlt') hlt', ← hteq.out] at hc0 hc1 hml hro
      dsimp only at hc0 hc1 hml hro
      rw [numRows_len] at hc1 hml
      obtain ⟨g1, g2, g3⟩ := HR.out ts[j] (List.getElem_mem _)
      obtain ⟨m, hm⟩ : ∃ m, ts[j].2.length = m := ⟨_, rfl⟩
      obtain ⟨T2, hT2⟩ : ∃ T2, total ts[j].2 = T2 := ⟨_, rfl⟩
      have hstep := mLen_step ts j hlt'
      rw [← hteq.out, hT2] at hstep
      have hle := mLen_take_le ts (j + 1)
      rw [hstep, HTT.out] at hle
      rw [hm] at hc1
      have HT3 := Lib.hid (show total ts[j].2 ≤ 1048576 by rw [total_flatten]; exact g3)
      have HT2 := Lib.hid hT2; clear hT2
      have HG1 := Lib.hid g1; clear g1
      have HG2 := Lib.hid g2; clear g2
      have HM := Lib.hid hm; clear hm
      have HSTEP := Lib.hid hstep; clear hstep
      have HRO := Lib.hid hro; clear hro
      clear g3 hml
      go_wp2_with fail
      refine (heldBoatSS_any ra m rc ts[j].2 _ _ HM.out.symm (by rw [← HM.out]; exact HG1.out) HG2.out HT3.out (by omega) (by omega) HRO.out).mono ?_
      rw [HT2.out]
      rintro e w1 ⟨rfl, rfl⟩
      go_wp2
      go_round
      case rel => exact ⟨j + 1, t + 1 + 6 * T2, by omega, by go_num, by go_num, hle, HSTEP.out.symm⟩
      case measure => simp [intOf]; omega
    · have hjn : j = n := by omega
      subst hjn
      have HTE := Lib.hid (show t = T by rw [hteq.out, HN.out, List.take_length, HTT.out])
      clear hteq
      go_wp2
      go_ret
      exact ⟨ret_int (by rw [HTE.out]), rfl⟩

set_option maxHeartbeats 1000000 in
theorem markLock_is (T : Nat) (x0 x1 x2 x3 x4 x5 x6 x7 x8 : Int) (a : Option Addr) (n c lo hi : Nat) (ts : List Tn) (k : Int) (w : World) (hn : n = ts.length) (hs : n ≤ 1048576) (hts : ∀ t ∈ ts, SmallT t) (ht : T ≤ 1073741824) (h0 : 0 ≤ k) (h1 : k ≤ 4294967296) (hhi : hi ≤ w.heap.size) (hf : OwnTrains w lo hi a ts) (hT : mLen ts = T) :
    Calls Try.prog 39 #[.agg #[.int .i64 x0, .int .i64 x1, .int .i64 x2, .int .i64 x3, .int .i64 x4, .int .i64 x5, .int .i64 x6, .int .i64 x7, .int .i64 x8, .slice a n c], .int .i64 k] w fun e w' => e = .returned (.int .i64 (k + (T : Int))) ∧ OwnTrains w' lo hi a (numTrains k ts) ∧ Chg lo hi w w' := by
  have HF := Lib.hid hf; clear hf
  have HN := Lib.hid hn; clear hn
  have HS := Lib.hid hs; clear hs
  have HR := Lib.hid hts; clear hts
  have HTT := Lib.hid hT; clear hT
  have HT := Lib.hid ht; clear ht
  go_enter Try.func39, Try.ntmps39
  go_wp2_with fail
  refine (markTrainS_any _ _ _ lo hi ts _ _ HN.out HS.out HR.out (HTT.out ▸ HT.out) h0 h1 (by simp; omega) (HF.out.ext ((Ext.refl _).alloc _))).mono ?_
  rw [HTT.out]
  rintro e w1 ⟨rfl, hro1, hc1⟩
  have HRO1 := Lib.hid hro1; clear hro1
  have HC1 := Lib.hid ((Chg.of_ext ((Ext.refl w).alloc _)).trans hc1)
  clear hc1
  go_wp2
  go_ret
  exact ⟨rfl, HRO1.out, HC1.out⟩
set_option maxHeartbeats 1000000 in
theorem heldLock_is (T : Nat) (x0 x1 x2 x3 x4 x5 x6 x7 x8 : Int) (a : Option Addr) (n c : Nat) (ts : List Tn) (k : Int) (w : World) (hn : n = ts.length) (hs : n ≤ 1048576) (hts : ∀ t ∈ ts, SmallT t) (ht : T ≤ 1073741824) (h0 : 0 ≤ k) (h1 : k ≤ 4294967296) (hf : TrainsAt w a (numTrains k ts)) (hT : mLen ts = T) :
    Calls Try.prog 48 #[.agg #[.int .i64 x0, .int .i64 x1, .int .i64 x2, .int .i64 x3, .int .i64 x4, .int .i64 x5, .int .i64 x6, .int .i64 x7, .int .i64 x8, .slice a n c], .int .i64 k] w fun e w' => e = .returned (.int .i64 (k + (T : Int))) ∧ Ext w w' := by
  have HF := Lib.hid hf; clear hf
  have HN := Lib.hid hn; clear hn
  have HS := Lib.hid hs; clear hs
  have HR := Lib.hid hts; clear hts
  have HTT := Lib.hid hT; clear hT
  have HT := Lib.hid ht; clear ht
  have d0 : decide (k + (T : Int) < 0) = false := by simp; omega
  go_enter Try.func48, Try.ntmps48
  go_wp2_with fail
  refine (heldTrainS_any _ _ _ ts _ _ HN.out HS.out HR.out (HTT.out ▸ HT.out) h0 h1 (HF.out.ext ((Ext.refl _).alloc _))).mono ?_
  rw [HTT.out]
  rintro e w1 ⟨rfl, rfl⟩
  go_wp2
  go_ret
  exact ⟨rfl, by (repeat' (first | (with_reducible exact Ext.refl _) | (with_reducible assumption) | (with_reducible refine Ext.alloc ?_ _) | (with_reducible refine Ext.drewN ?_ _) | (with_reducible refine Ext.drew ?_) | (with_reducible refine Ext.setCell ?_ ?_ _) | (with_reducible exact Nat.le_refl _) | (with_reducible exact Nat.le_succ _) | (with_reducible refine Ext.trans ?_ (by assumption)) | (simp; done) | (simp; omega)))⟩
end Go.Proofs.Ytknpdhafafomaaa
