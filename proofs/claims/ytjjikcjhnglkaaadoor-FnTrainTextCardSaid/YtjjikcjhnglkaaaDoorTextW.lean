/- FnTrainText: the walk of the law. -/
import Derived.Test.YtjjikcjhnglkaaaDoorProg
import Derived.Test.YtjjikcjhnglkaaaDoorParseT
import Derived.Test.YtjjikcjhnglkaaaDoorFormatI
import Derived.Test.YtjjikcjhnglkaaaDoorCoupled
namespace Go.Proofs.YtjjikcjhnglkaaaDoor
open Go.RowKit
set_option linter.unusedSimpArgs false
set_option linter.unusedVariables false

theorem txtBoat_short {b : Bt} (h : bOk b = true) : (txtBoat b).length ≤ 30 := by
  have hb := bOk_bounds h
  have h1 := join_len (sep := [58]) (m := 4) ((nums6 b).map (fun x => dec x.toNat)) (fun x hx => by
    obtain ⟨y, hy, rfl⟩ := List.mem_map.1 hx
    have hy2 : y.toNat < 10 ^ (3 + 1) := by
      have : (10 : Nat) ^ (3 + 1) = 10000 := by decide
      rw [this]
      simp [nums6] at hy
      omega
    rw [dec_itoa]
    exact (digits_len y.toNat 3 hy2).2)
  unfold txtBoat
  exact h1
theorem txtRow_short {r : List Bt} (h : ∀ b ∈ r, bOk b = true) (hr : r.length ≤ 6) : (txtRow r).length ≤ 186 := by
  have h1 := join_len (sep := [43]) (m := 30) (r.map txtBoat) (fun x hx => by
    obtain ⟨b, hb, rfl⟩ := List.mem_map.1 hx
    exact txtBoat_short (h b hb))
  rw [List.length_map] at h1
  unfold txtRow
  have h2 : r.length * ([(43 : UInt8)].length + 30) ≤ 6 * ([(43 : UInt8)].length + 30) := Nat.mul_le_mul_right _ hr
  have h3 : 6 * ([(43 : UInt8)].length + 30) = 186 := rfl
  omega
theorem txtRows_short {rows : List (List Bt)} (h : ∀ r ∈ rows, (txtRow r).length ≤ 186) (hr : rows.length ≤ 6) : (txtRows rows).length ≤ 1122 := by
  have h1 := join_len (sep := [47]) (m := 186) (rows.map txtRow) (fun x hx => by
    obtain ⟨b, hb, rfl⟩ := List.mem_map.1 hx
    exact h b hb)
  rw [List.length_map] at h1
  unfold txtRows
  have h2 : rows.length * ([(47 : UInt8)].length + 186) ≤ 6 * ([(47 : UInt8)].length + 186) := Nat.mul_le_mul_right _ hr
  have h3 : 6 * ([(47 : UInt8)].length + 186) = 1122 := rfl
  omega

set_option maxRecDepth 100000 in
set_option maxHeartbeats 8000000 in
theorem traintext_any (a : Option Addr) (n c : Nat) (bs : List Int) (w : World) (hn : n = bs.length) (hs : n ≤ maxLen) (hf : BytesAt w a bs) (htab : TabW w) (hmax : MaxW w) :
    Calls Tryd.prog 5 #[.slice a n c] w fun e w' => e = .returned (.bool true) ∧ Ext w w' := by
  have HS := Lib.hid hs
  have HF := Lib.hid hf; clear hf
  have HN := Lib.hid hn; clear hn
  have TB := Lib.hid htab; have MW := Lib.hid hmax; clear htab hmax
  by_cases hsz : (1048576 : Int) < n
  · have hd : decide ((1048576 : Int) < n) = true := by simpa using hsz
    go_enter Tryd.func5, Tryd.ntmps5
    go_wp2_with ((go_at_call 15; refine (big_any _ _ _ _ HS.out).mono ?_; rintro e w' ⟨rfl, rfl⟩))
    go_ret
    exact ⟨rfl, by (repeat' (first | (with_reducible exact Ext.refl _) | (with_reducible assumption) | (with_reducible refine Ext.alloc ?_ _) | (with_reducible refine Ext.drewN ?_ _) | (with_reducible refine Ext.drew ?_) | (with_reducible refine Ext.setCell ?_ ?_ _) | (with_reducible exact Nat.le_refl _) | (with_reducible exact Nat.le_succ _) | (with_reducible refine Ext.trans ?_ (by assumption)) | (simp; done) | (simp; omega)))⟩
  have hs2 : n ≤ 1048576 := by omega
  have hd : decide ((1048576 : Int) < n) = false := by simpa using hsz
  go_enter Tryd.func5, Tryd.ntmps5
  go_wp2_with fail
  refine (big_any _ _ _ _ HS.out).mono ?_
  rintro e w1 ⟨rfl, rfl⟩
  go_wp2_with fail
  refine (DrawTrain_any _ _ _ bs _ HN.out hs2 HF.out).mono ?_
  rintro e w2 ⟨u, a1, c1, k, rows, hk, hga, rfl, hown, hx2⟩
  have HX := Lib.hid hx2
  have HOK := Lib.hid (hga.ok (by decide) (by decide) hk.1 (by omega))
  have HRW := Lib.hid hown.rows
  obtain ⟨_, _, _, ht6, hn6, _⟩ := trainOk_true HOK.out
  obtain ⟨n1, hn1⟩ : ∃ n, n = rows.length := ⟨_, rfl⟩
  rw [← hn1] at hn6 ⊢
  have HN1 := Lib.hid hn1; have HT6 := Lib.hid (show rows.flatten.length ≤ 1048576 by omega)
  have HB6 := Lib.hid (show ∀ r ∈ rows, ∀ b ∈ r, bOk b = true from fun r hr b hb => trainOk_boats HOK.out hr hb)
  have hlen := txtRows_short (rows := rows) (fun r hr => txtRow_short (HB6.out r hr) (by
    obtain ⟨j, hj, rfl⟩ := List.getElem_of_mem hr
    exact Nat.le_trans (row_le hj) ht6)) (by rw [← hn1]; exact hn6)
  clear hn1 ht6 hga hown hx2 hk
  obtain ⟨tl, htl⟩ : ∃ l, txtRows rows = l := ⟨_, rfl⟩
  obtain ⟨T, hT⟩ : ∃ T, fmtTrain u rows = T := ⟨_, rfl⟩
  have hTc : T = (if u then 94 else 118) :: tl := by rw [← hT, ← htl]; exact fmtTrain_ok HOK.out
  rw [htl] at hlen
  have hTl : T.length ≤ 1123 := by rw [hTc, List.length_cons]; omega
  have HR1 := Lib.hid (show trainRes T = (u, rows, true) by unfold trainRes; rw [← hT, readTrain_fmt HOK.out])
  have HR2 := Lib.hid (show trainRes (T ++ [47]) = (false, [], false) by unfold trainRes; rw [← hT, readTrain_more HOK.out])
  have HR3 := Lib.hid (show trainRes tl = (false, [], false) by unfold trainRes; rw [← htl, readTrain_headless HOK.out])
  have HFT := Lib.hid hT
  obtain ⟨t, ht⟩ : ∃ t, S T = t := ⟨_, rfl⟩
  obtain ⟨m, hm⟩ : ∃ m, T.length = m := ⟨_, rfl⟩
  have hsz2 : t.size = m := by rw [← ht, S_size, hm]
  have hm1 : 1 ≤ m := by rw [← hm, hTc, List.length_cons]; omega
  have hm2 : m ≤ 1123 := by omega
  have hne := toList_ne (t := t) (by omega)
  have hbe : t.toList.isEmpty = false := by simpa using hne
  have HEX := Lib.hid (show t.extract 1 m = S tl by rw [← hsz2, ← ht, hTc]; exact S_tail _ tl)
  have HAD := Lib.hid (show t ++ ({ data := #[47] } : ByteArray) = S (T ++ [47]) by rw [← ht]; exact S_add T [47])
  have hz1 : ¬ (t.size + ({ data := #[47] } : ByteArray).size > 9223372036854775807) := by rw [hsz2]; show ¬ (m + 1 > _); omega
  have HST := Lib.hid ht
  have hTl2 : (T ++ [47]).length ≤ 1048576 := by rw [List.length_append]; simp; omega
  have hTl3 : tl.length ≤ 1048576 := by omega
  clear hTc htl hT ht hm
  have hlt0 : 0 < t.size := by omega
  go_wp2_with fail
  have QT := Lib.hid ((RowAt.new w2 29 #[.bool u, .slice a1 n1 c1]).ext (Ext.refl _))
  have hal := ((Ext.refl w2).alloc (.cells #[.bool u, .slice a1 n1 c1] 29))
  obtain ⟨bT, hbT⟩ : ∃ x, x = w2.heap.size := ⟨_, rfl⟩
  obtain ⟨w3, hw3⟩ : ∃ x, x = (w2.alloc (.cells #[.bool u, .slice a1 n1 c1] 29)) := ⟨_, rfl⟩
  have sT : w3.heap.size = bT + 1 := by rw [hw3, hbT]; simp
  have mT : w2.heap.size ≤ bT := Nat.le_of_eq hbT.symm; have nT : bT ≤ w2.heap.size := Nat.le_of_eq hbT
  rw [← hbT] at QT
  rw [← hw3] at QT hal
  (try simp only [World.size_alloc])
  (try rw [← hw3])
  (try rw [← hbT])
  clear hw3 hbT
  replace HX := Lib.hid (HX.out.trans hal)
  replace HRW := Lib.hid (HRW.out.ext hal)
  have zz3 := hal.size
  clear hal
  have KT := QT; clear QT
  with_reducible refine (implFormatTrain_any _ _ _ _ rows _ HN1.out (by omega) HT6.out HRW.out (TB.out.ext HX.out)).mono ?_
  rintro e w4 ⟨rfl, hb⟩
  rw [HFT.out, HST.out]
  replace HX := Lib.hid (HX.out.trans hb)
  replace KT := Lib.hid (KT.out.ext hb)
  replace HRW := Lib.hid (HRW.out.ext hb)
  have zz4 := hb.size
  clear hb
  go_wp2_with fail
  rw [← HST.out]
  with_reducible refine (implParseTrain_any u true rows n1 T _ (by omega) (MW.out.ext HX.out) HR1.out HN1.out).mono ?_
  rintro e w5 ⟨a3, c3, rfl, ho3, hb⟩
  rw [HST.out]
  have HR3W := Lib.hid ho3.rows; clear ho3
  replace HX := Lib.hid (HX.out.trans hb)
  replace KT := Lib.hid (KT.out.ext hb)
  replace HRW := Lib.hid (HRW.out.ext hb)
  have zz5 := hb.size
  clear hb
  go_wp2_with fail
  have QX := Lib.hid ((RowAt.new w5 29 #[.bool u, .slice a3 n1 c3]).ext (Ext.refl _))
  have hal := ((Ext.refl w5).alloc (.cells #[.bool u, .slice a3 n1 c3] 29))
  obtain ⟨bX, hbX⟩ : ∃ x, x = w5.heap.size := ⟨_, rfl⟩
  obtain ⟨w6, hw6⟩ : ∃ x, x = (w5.alloc (.cells #[.bool u, .slice a3 n1 c3] 29)) := ⟨_, rfl⟩
  have sX : w6.heap.size = bX + 1 := by rw [hw6, hbX]; simp
  have mX : w5.heap.size ≤ bX := Nat.le_of_eq hbX.symm; have nX : bX ≤ w5.heap.size := Nat.le_of_eq hbX
  rw [← hbX] at QX
  rw [← hw6] at QX hal
  (try simp only [World.size_alloc])
  (try rw [← hw6])
  (try rw [← hbX])
  clear hw6 hbX
  replace HX := Lib.hid (HX.out.trans hal)
  replace KT := Lib.hid (KT.out.ext hal)
  replace HRW := Lib.hid (HRW.out.ext hal)
  replace HR3W := Lib.hid (HR3W.out.ext hal)
  have zz6 := hal.size
  clear hal
  have KX := QX; clear QX
  rw [HAD.out]
  with_reducible refine (implParseTrain_any false false [] 0 (T ++ [47]) _ hTl2 (MW.out.ext HX.out) HR2.out rfl).mono ?_
  rintro e w7 ⟨a4, c4, rfl, ho4, hb⟩
  clear ho4
  replace HX := Lib.hid (HX.out.trans hb)
  replace KT := Lib.hid (KT.out.ext hb)
  replace KX := Lib.hid (KX.out.ext hb)
  replace HRW := Lib.hid (HRW.out.ext hb)
  replace HR3W := Lib.hid (HR3W.out.ext hb)
  have zz7 := hb.size
  clear hb
  go_wp2_with fail
  have QY := Lib.hid ((RowAt.new w7 29 #[.bool false, .slice a4 0 c4]).ext (Ext.refl _))
  have hal := ((Ext.refl w7).alloc (.cells #[.bool false, .slice a4 0 c4] 29))
  obtain ⟨bY, hbY⟩ : ∃ x, x = w7.heap.size := ⟨_, rfl⟩
  obtain ⟨w8, hw8⟩ : ∃ x, x = (w7.alloc (.cells #[.bool false, .slice a4 0 c4] 29)) := ⟨_, rfl⟩
  have sY : w8.heap.size = bY + 1 := by rw [hw8, hbY]; simp
  have mY : w7.heap.size ≤ bY := Nat.le_of_eq hbY.symm; have nY : bY ≤ w7.heap.size := Nat.le_of_eq hbY
  rw [← hbY] at QY
  rw [← hw8] at QY hal
  (try simp only [World.size_alloc])
  (try rw [← hw8])
  (try rw [← hbY])
  clear hw8 hbY
  replace HX := Lib.hid (HX.out.trans hal)
  replace KT := Lib.hid (KT.out.ext hal)
  replace KX := Lib.hid (KX.out.ext hal)
  replace HRW := Lib.hid (HRW.out.ext hal)
  replace HR3W := Lib.hid (HR3W.out.ext hal)
  have zz8 := hal.size
  clear hal
  have KY := QY; clear QY
  rw [HEX.out]
  with_reducible refine (implParseTrain_any false false [] 0 tl _ hTl3 (MW.out.ext HX.out) HR3.out rfl).mono ?_
  rintro e w9 ⟨a5, c5, rfl, ho5, hb⟩
  clear ho5
  replace HX := Lib.hid (HX.out.trans hb)
  replace KT := Lib.hid (KT.out.ext hb)
  replace KX := Lib.hid (KX.out.ext hb)
  replace KY := Lib.hid (KY.out.ext hb)
  replace HRW := Lib.hid (HRW.out.ext hb)
  replace HR3W := Lib.hid (HR3W.out.ext hb)
  have zz9 := hb.size
  clear hb
  have e0_ : (w9.alloc (.cells #[.bool false, .slice a5 0 c5] 29)).cell? ⟨bX, 0, none⟩ = some (.bool u) := (KX.out.ext ((Ext.refl w9).alloc _)).cell rfl
  have e1_ : (w9.alloc (.cells #[.bool false, .slice a5 0 c5] 29)).cell? ⟨bX, 1, none⟩ = some (.slice a3 n1 c3) := (KX.out.ext ((Ext.refl w9).alloc _)).cell rfl
  have e2_ : (w9.alloc (.cells #[.bool false, .slice a5 0 c5] 29)).cell? ⟨bT, 0, none⟩ = some (.bool u) := (KT.out.ext ((Ext.refl w9).alloc _)).cell rfl
  have e3_ : (w9.alloc (.cells #[.bool false, .slice a5 0 c5] 29)).cell? ⟨bT, 1, none⟩ = some (.slice a1 n1 c1) := (KT.out.ext ((Ext.refl w9).alloc _)).cell rfl
  go_wp2_with fail
  clear e0_ e1_ e2_ e3_
  have QZ := Lib.hid ((RowAt.new w9 29 #[.bool false, .slice a5 0 c5]).ext (Ext.refl _))
  have hal := ((Ext.refl w9).alloc (.cells #[.bool false, .slice a5 0 c5] 29))
  obtain ⟨bZ, hbZ⟩ : ∃ x, x = w9.heap.size := ⟨_, rfl⟩
  obtain ⟨w10, hw10⟩ : ∃ x, x = (w9.alloc (.cells #[.bool false, .slice a5 0 c5] 29)) := ⟨_, rfl⟩
  have sZ : w10.heap.size = bZ + 1 := by rw [hw10, hbZ]; simp
  have mZ : w9.heap.size ≤ bZ := Nat.le_of_eq hbZ.symm; have nZ : bZ ≤ w9.heap.size := Nat.le_of_eq hbZ
  rw [← hbZ] at QZ
  rw [← hw10] at QZ hal
  (try simp only [World.size_alloc])
  (try rw [← hw10])
  (try rw [← hbZ])
  clear hw10 hbZ
  replace HX := Lib.hid (HX.out.trans hal)
  replace KT := Lib.hid (KT.out.ext hal)
  replace KX := Lib.hid (KX.out.ext hal)
  replace KY := Lib.hid (KY.out.ext hal)
  replace HRW := Lib.hid (HRW.out.ext hal)
  replace HR3W := Lib.hid (HR3W.out.ext hal)
  have zz10 := hal.size
  clear hal
  have KZ := QZ; clear QZ
  with_reducible refine (sameTrains_same u _ _ n1 _ _ rows _ HN1.out (by omega) HT6.out HR3W.out HRW.out).mono ?_
  rintro e w11 ⟨rfl, hb⟩
  replace HX := Lib.hid (HX.out.trans hb)
  replace KT := Lib.hid (KT.out.ext hb)
  replace KX := Lib.hid (KX.out.ext hb)
  replace KY := Lib.hid (KY.out.ext hb)
  replace KZ := Lib.hid (KZ.out.ext hb)
  replace HRW := Lib.hid (HRW.out.ext hb)
  replace HR3W := Lib.hid (HR3W.out.ext hb)
  have zz11 := hb.size
  clear hb
  go_wp2
  go_ret
  exact ⟨rfl, HX.out⟩
end Go.Proofs.YtjjikcjhnglkaaaDoor
