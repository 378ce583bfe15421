/- FormatTrain of the program: what it writes. -/
import Derived.Test.YtjjikcjhnglkaaaDoorProg
import Derived.Test.YtjjikcjhnglkaaaDoorFormat
namespace Go.Proofs.YtjjikcjhnglkaaaDoor
open Go.RowKit
set_option linter.unusedSimpArgs false
set_option linter.unusedVariables false

theorem txtBoat_len {b : Bt} (h : bOk b = true) : (txtBoat b).length ≤ 60006 := by rw [← boatText_txt]; exact boatText_len h
theorem joinTail_len {sep : List UInt8} {m : Nat} : ∀ (xs : List (List UInt8)), (∀ x ∈ xs, x.length ≤ m) → (Lib.joinTail sep xs).length ≤ xs.length * (sep.length + m)
  | [], _ => by simp [Lib.joinTail]
  | x :: xs, h => by
    have h1 := joinTail_len (sep := sep) xs (fun y hy => h y (by simp [hy]))
    have h2 := h x (by simp)
    have e : Lib.joinTail sep (x :: xs) = sep ++ x ++ Lib.joinTail sep xs := rfl
    rw [e, List.length_append, List.length_append, List.length_cons, Nat.add_mul]
    omega
theorem join_len {sep : List UInt8} {m : Nat} (xs : List (List UInt8)) (h : ∀ x ∈ xs, x.length ≤ m) : (Lib.join xs sep).length ≤ xs.length * (sep.length + m) := by
  match xs, h with
  | [], _ => simp [Lib.join]
  | x :: xs, h =>
    have e := Lib.join_cons x xs sep
    have h1 := joinTail_len (sep := sep) xs (fun y hy => h y (by simp [hy]))
    have h2 := h x (by simp)
    rw [e, List.length_append, List.length_cons, Nat.add_mul]
    omega
theorem txtRow_len {r : List Bt} (h : ∀ b ∈ r, bOk b = true) (hr : r.length ≤ 6) : (txtRow r).length ≤ 360042 := by
  have h1 := join_len (sep := [43]) (m := 60006) (r.map txtBoat) (fun x hx => by
    obtain ⟨b, hb, rfl⟩ := List.mem_map.1 hx
    exact txtBoat_len (h b hb))
  rw [List.length_map] at h1
  unfold txtRow
  have h2 : r.length * ([43].length + 60006) ≤ 6 * ([(43 : UInt8)].length + 60006) := Nat.mul_le_mul_right _ hr
  have h3 : 6 * ([(43 : UInt8)].length + 60006) = 360042 := rfl
  omega
theorem txtRows_len {rows : List (List Bt)} (h : ∀ r ∈ rows, (txtRow r).length ≤ 360042) (hr : rows.length ≤ 6) : (txtRows rows).length ≤ 2160258 := by
  have h1 := join_len (sep := [47]) (m := 360042) (rows.map txtRow) (fun x hx => by
    obtain ⟨b, hb, rfl⟩ := List.mem_map.1 hx
    exact h b hb)
  rw [List.length_map] at h1
  unfold txtRows
  have h2 : rows.length * ([(47 : UInt8)].length + 360042) ≤ 6 * ([(47 : UInt8)].length + 360042) := Nat.mul_le_mul_right _ hr
  have h3 : 6 * ([(47 : UInt8)].length + 360042) = 2160258 := rfl
  omega
theorem take_more {α β : Type} (f : α → β) {xs : List α} {k : Nat} (hk : k < xs.length) {x : α} (hx : xs[k] = x) : (xs.take (k + 1)).map f = (xs.take k).map f ++ [f x] := by
  rw [List.take_succ_eq_append_getElem hk, List.map_append, hx]
  rfl

set_option maxRecDepth 100000 in
set_option maxHeartbeats 8000000 in
theorem implFormatTrain_any (u : Bool) (a : Option Addr) (n c : Nat) (rows : List (List Bt)) (w : World) (hn : n = rows.length) (hs : n ≤ 1048576) (ht : rows.flatten.length ≤ 1048576) (hf : RowsAt w a rows) (htab : TabW w) :
    Calls Tryd.prog 9 #[.agg #[.bool u, .slice a n c]] w fun e w' => e = .returned (.string (S (fmtTrain u rows))) ∧ Ext w w' := by
  have HF := Lib.hid hf; clear hf
  have HS := Lib.hid hs
  have HT := Lib.hid ht; clear ht
  have TB := Lib.hid htab; clear htab
  cases hok : trainOk rows
  · have hR := Lib.hid (show fmtTrain u rows = [] by rw [fmtTrain, hok]; rfl)
    have OK := Lib.hid hok; clear hok
    have HN := Lib.hid hn; clear hn
    go_enter Tryd.func9, Tryd.ntmps9
    go_wp2_with fail
    (with_reducible refine (OK.out ▸ implTrainOk_any _ _ _ _ rows _ HN.out HS.out HT.out (HF.out.ext (by (repeat' (first | (with_reducible exact Ext.refl _) | (with_reducible assumption) | (with_reducible refine Ext.alloc ?_ _) | (with_reducible refine Ext.drewN ?_ _) | (with_reducible refine Ext.drew ?_) | (with_reducible refine Ext.setCell ?_ ?_ _) | (with_reducible exact Nat.le_refl _) | (with_reducible exact Nat.le_succ _) | (with_reducible refine Ext.trans ?_ (by assumption)) | (simp; done) | (simp; omega)))))).mono ?_); rintro e w1 ⟨rfl, hb1⟩
    have x0_1 := hb1
    obtain ⟨hc0_1, hf0_1⟩ := bcell x0_1.below
    have z0_1_0 : w.heap.size < w1.heap.size := by have h := x0_1.size; simp at h; omega
    go_wp2
    go_ret
    exact ⟨by rw [hR.out]; rfl, by (repeat' (first | (with_reducible exact Ext.refl _) | (with_reducible assumption) | (with_reducible refine Ext.alloc ?_ _) | (with_reducible refine Ext.drewN ?_ _) | (with_reducible refine Ext.drew ?_) | (with_reducible refine Ext.setCell ?_ ?_ _) | (with_reducible exact Nat.le_refl _) | (with_reducible exact Nat.le_succ _) | (with_reducible refine Ext.trans ?_ (by assumption)) | (simp; done) | (simp; omega)))⟩
  · obtain ⟨hne, hfull, _, ht6, hn6, _⟩ := trainOk_true hok
    have HNE := Lib.hid hne; have HFULL := Lib.hid hfull; clear hne hfull
    rw [← hn] at hn6
    have HR := Lib.hid (fmtTrain_ok (u := u) hok)
    have OK := Lib.hid hok; clear hok
    have HN := Lib.hid hn; clear hn
    have HT6 := Lib.hid ht6; clear ht6
    have HB6 := Lib.hid (show ∀ r ∈ rows, ∀ b ∈ r, bOk b = true from fun r hr b hb => trainOk_boats OK.out hr hb)
    have HR6 := Lib.hid (show ∀ r ∈ rows, r.length ≤ 6 from fun r hr => by
      obtain ⟨k, hk, rfl⟩ := List.getElem_of_mem hr
      exact Nat.le_trans (row_le hk) HT6.out)
    have HRL := Lib.hid (show ∀ r ∈ rows, (txtRow r).length ≤ 360042 from fun r hr => txtRow_len (HB6.out r hr) (HR6.out r hr))
    go_enter Tryd.func9, Tryd.ntmps9
    go_wp2_with fail
    (with_reducible refine (OK.out ▸ implTrainOk_any _ _ _ _ rows _ HN.out HS.out HT.out (HF.out.ext (by (repeat' (first | (with_reducible exact Ext.refl _) | (with_reducible assumption) | (with_reducible refine Ext.alloc ?_ _) | (with_reducible refine Ext.drewN ?_ _) | (with_reducible refine Ext.drew ?_) | (with_reducible refine Ext.setCell ?_ ?_ _) | (with_reducible exact Nat.le_refl _) | (with_reducible exact Nat.le_succ _) | (with_reducible refine Ext.trans ?_ (by assumption)) | (simp; done) | (simp; omega)))))).mono ?_); rintro e w1 ⟨rfl, hb1⟩
    have x0_1 := hb1
    obtain ⟨hc0_1, hf0_1⟩ := bcell x0_1.below
    have z0_1_0 : w.heap.size < w1.heap.size := by have h := x0_1.size; simp at h; omega
    have HB := Lib.hid (Ext.trans ((Ext.refl w).alloc _) hb1)
    have RB := Lib.hid ((RowAt.new w 29 #[.bool u, .slice a n c]).ext hb1)
    have HF1 := Lib.hid (HF.out.ext HB.out)
    have TB1 := Lib.hid (TB.out.ext HB.out)
    clear hb1 x0_1 hc0_1 hf0_1
    have b1 : w1.cell? ⟨w.heap.size, 1, none⟩ = some (.slice a n c) := RB.out.cell rfl
    go_wp2
    clear b1
    go_loopw [3, 18] (fun v i wr => ∃ (k : Nat) (ss : List (List UInt8)), i = .int .i64 k ∧ k ≤ n ∧ Hid (Ext w1 wr) ∧ Hid (ss = (rows.take k).map txtRow) ∧ Hid (OwnStrs wr w1.heap.size v ss)) (fun _ i _ => n - (intOf i).toNat)
    case atStart => exact ⟨0, [], rfl, Nat.zero_le _, Lib.hid (Ext.refl _), Lib.hid rfl, Lib.hid (OwnStrs.nil _ _)⟩
    case round =>
      obtain ⟨w2, rfl⟩ : ∃ x, x = wr := ⟨_, rfl⟩
      obtain ⟨k, ss, rfl, hk, hr, hss, hown⟩ := hrel
      have zr := hr.out.size
      by_cases hlt : k < n
      · have hlt' : k < rows.length := by rw [← HN.out]; exact hlt
        obtain ⟨b, off, a', c', rfl, hc0, hml, hfr⟩ := HF1.out k hlt'
        have hmem : rows[k] ∈ rows := List.getElem_mem _
        obtain ⟨row, hrow'⟩ : ∃ row, rows[k] = row := ⟨_, rfl⟩
        have HTK := Lib.hid (take_more txtRow hlt' hrow')
        rw [hrow'] at hc0 hfr hmem
        have HMEM := Lib.hid hmem; clear hmem
        clear hrow' hml
        obtain ⟨p, hp⟩ : ∃ p, p = row.length := ⟨_, rfl⟩
        have hp6 : p ≤ 6 := by rw [hp]; exact HR6.out row HMEM.out
        have hp0 : 0 < p := by have := HFULL.out row HMEM.out; omega
        rw [← hp] at hc0
        have HC0 := Lib.hid hc0; clear hc0
        have HFR := Lib.hid hfr; clear hfr
        have HP := Lib.hid hp; clear hp
        have e0 := hr.out.cell HC0.out
        have hltz : (k : Int) < (n : Int) := by omega
        go_wp2
        clear e0
        go_loopw [6, 24] (fun v6 i wr => ∃ (q : Nat) (bs : List (List UInt8)), i = .int .i64 q ∧ q ≤ p ∧ Hid (Ext w2 wr) ∧ Hid (bs = (row.take q).map txtBoat) ∧ Hid (OwnStrs wr w2.heap.size v6 bs)) (fun _ i _ => p - (intOf i).toNat)
        case atStart => exact ⟨0, [], rfl, Nat.zero_le _, Lib.hid (Ext.refl _), Lib.hid rfl, Lib.hid (OwnStrs.nil _ _)⟩
        case round =>
          obtain ⟨w3, rfl⟩ : ∃ x, x = wr := ⟨_, rfl⟩
          obtain ⟨q, bs, rfl, hq, hr2, hbs, hown2⟩ := hrel
          have zr2 := hr2.out.size
          by_cases hlq : q < p
          · have hlq' : q < row.length := by rw [← HP.out]; exact hlq
            obtain ⟨b2, off2, rfl, hcell⟩ := HFR.out q hlq'
            have hmb : row[q] ∈ row := List.getElem_mem _
            obtain ⟨bt, hbt⟩ : ∃ bt, row[q] = bt := ⟨_, rfl⟩
            have HTQ := Lib.hid (take_more txtBoat hlq' hbt)
            rw [hbt] at hcell hmb
            have HBO := Lib.hid (HB6.out row HMEM.out bt hmb)
            have HNN := Lib.hid (bOk_nonNeg HBO.out)
            clear hbt hmb
            obtain ⟨bi, bl, bw, bd, bsp, bc⟩ := bt
            have HX3 := Lib.hid (hr.out.trans hr2.out)
            have g0 : w3.cell? ⟨b2, off2 + q * 6, none⟩ = some (.int .i64 bi) := HX3.out.cell (hcell 0 _ rfl)
            have g1 : w3.cell? ⟨b2, off2 + q * 6 + 1, none⟩ = some (.int .i64 bl) := HX3.out.cell (hcell 1 _ rfl)
            have g2 : w3.cell? ⟨b2, off2 + q * 6 + 2, none⟩ = some (.int .i64 bw) := HX3.out.cell (hcell 2 _ rfl)
            have g3 : w3.cell? ⟨b2, off2 + q * 6 + 3, none⟩ = some (.int .i64 bd) := HX3.out.cell (hcell 3 _ rfl)
            have g4 : w3.cell? ⟨b2, off2 + q * 6 + 4, none⟩ = some (.int .i64 bsp) := HX3.out.cell (hcell 4 _ rfl)
            have g5 : w3.cell? ⟨b2, off2 + q * 6 + 5, none⟩ = some (.int .i64 bc) := HX3.out.cell (hcell 5 _ rfl)
            clear hcell
            have hlqz : (q : Int) < (p : Int) := by omega
            go_wp2
            clear g0 g1 g2 g3 g4 g5
            have HX4 := Lib.hid (((Ext.refl w3).alloc (.cells #[.int .i64 bi, .int .i64 bl, .int .i64 bw, .int .i64 bd, .int .i64 bsp, .int .i64 bc] 44)).alloc (.cells #[.int .i64 bi, .int .i64 bl, .int .i64 bw, .int .i64 bd, .int .i64 bsp, .int .i64 bc] 3))
            have HSX := Lib.hid (six_new (w3.alloc (.cells #[.int .i64 bi, .int .i64 bl, .int .i64 bw, .int .i64 bd, .int .i64 bsp, .int .i64 bc] 44)) bi bl bw bd bsp bc)
            simp only [World.size_alloc] at HSX
            obtain ⟨w4, hw4⟩ : ∃ x, x = ((w3.alloc (.cells #[.int .i64 bi, .int .i64 bl, .int .i64 bw, .int .i64 bd, .int .i64 bsp, .int .i64 bc] 44)).alloc (.cells #[.int .i64 bi, .int .i64 bl, .int .i64 bw, .int .i64 bd, .int .i64 bsp, .int .i64 bc] 3)) := ⟨_, rfl⟩
            rw [← hw4] at HX4 HSX
            (try rw [← hw4])
            clear hw4
            have z4 := HX4.out.size
            go_loopw [9, 42] (fun v9 i wr => ∃ (r : Nat) (ps : List (List UInt8)), i = .int .i64 r ∧ r ≤ 6 ∧ Hid (Ext w4 wr) ∧ Hid (ps = (([bi, bl, bw, bd, bsp, bc] : List Int).take r).map (fun x => dec x.toNat)) ∧ Hid (OwnStrs wr w4.heap.size v9 ps)) (fun _ i _ => 6 - (intOf i).toNat)
            case atStart => exact ⟨0, [], rfl, by omega, Lib.hid (Ext.refl _), Lib.hid rfl, Lib.hid (OwnStrs.nil _ _)⟩
            case round =>
              obtain ⟨w5, rfl⟩ : ∃ x, x = wr := ⟨_, rfl⟩
              obtain ⟨r, ps, rfl, hr6, hr3, hps, hown3⟩ := hrel
              have zr3 := hr3.out.size
              by_cases hlr : r < 6
              · have hlr' : r < ([bi, bl, bw, bd, bsp, bc] : List Int).length := hlr
                obtain ⟨b3, off3, e3, hc3⟩ := HSX.out r hlr'
                cases e3
                obtain ⟨x, hx⟩ : ∃ x, ([bi, bl, bw, bd, bsp, bc] : List Int)[r] = x := ⟨_, rfl⟩
                have HTR := Lib.hid (take_more (fun x : Int => dec x.toNat) hlr' hx)
                have hxb : 0 ≤ x ∧ x ≤ 1000000000 := HNN.out x (by rw [← hx]; exact List.getElem_mem _)
                rw [hx, Nat.zero_add] at hc3
                clear hx
                obtain ⟨y, rfl⟩ : ∃ y : Nat, x = (y : Int) := ⟨x.toNat, by omega⟩
                have f0 := hr3.out.cell hc3
                clear hc3
                have hlrz : (r : Int) < 6 := by omega
                go_wp2_with fail
                refine (implFormatInt_any y _ (by omega) (TB1.out.ext (hr.out.trans (hr2.out.trans (HX4.out.trans hr3.out))))).mono ?_
                rintro e w6 ⟨rfl, hb6⟩
                have z6 := hb6.size
                clear f0
                obtain ⟨ps', hps'⟩ : ∃ x, x = (([bi, bl, bw, bd, bsp, bc] : List Int).take (r + 1)).map (fun x => dec x.toNat) := ⟨_, rfl⟩
                have HD := Lib.hid (show ps' = ps ++ [dec y] by rw [hps', HTR.out, hps.out]; simp)
                have HLE := Lib.hid (show ps'.length ≤ 1048576 by rw [hps', List.length_map, List.length_take]; omega)
                have HPS := Lib.hid hps'; clear hps'
                have HA := Lib.hid ((Ext.refl w6).alloc (.cells #[.string (S (dec y))] 9))
                go_wp2_with (at_builtin; refine append_str rfl _ _ rfl w4.heap.size _ ps ps' (dec y) HD.out rfl (hown3.out.ext (hb6.trans HA.out)) w6.heap.size 1 rfl ?c1 HLE.out ?c2 ?_)
                case c1 => exact (RowAt.new w6 9 #[.string (S (dec y))]).cell rfl
                case c2 => simp; omega
                intro v' w7 hown7 hgrow7 _
                have hv := World.ownsRow.lt hown3.out
                have HX7 := Lib.hid (Ext.own (hr3.out.trans (hb6.trans HA.out)) hgrow7 (fun k hk => (hv k hk).1))
                have HO7 := Lib.hid hown7; clear hown7 hgrow7 hv HA
                go_wp2
                go_roundw
                case rel => exact ⟨r + 1, ps', by go_num, by omega, HX7, HPS, HO7⟩
                case measure => simp [intOf]; omega
              · have hr7 : r = 6 := by omega
                have HPQ := Lib.hid (show ps = (nums6 ⟨bi, bl, bw, bd, bsp, bc⟩).map (fun x => dec x.toNat) by rw [hps.out, hr7]; rfl)
                have HTX := Lib.hid (show Lib.join ps [58] = txtBoat ⟨bi, bl, bw, bd, bsp, bc⟩ by rw [HPQ.out]; rfl)
                have hrz : ¬ (r : Int) < 6 := by omega
                go_wp2_with fail
                refine (join_own w4.heap.size _ ps [58] _ hown3.out (by rw [HPQ.out]; simp [nums6]) (by rw [HPQ.out]; simp [nums6]) (by rw [HTX.out]; have := txtBoat_len HBO.out; omega)).mono ?_
                rintro e w6 ⟨rfl, hb6⟩
                rw [HTX.out]
                have z6 := hb6.size
                have HX6 := Lib.hid (HX4.out.trans (hr3.out.trans hb6))
                obtain ⟨tx, htx⟩ : ∃ tx, txtBoat ⟨bi, bl, bw, bd, bsp, bc⟩ = tx := ⟨_, rfl⟩
                rw [htx] at HTQ ⊢
                clear htx
                obtain ⟨bs', hbs'⟩ : ∃ x, x = (row.take (q + 1)).map txtBoat := ⟨_, rfl⟩
                have HD := Lib.hid (show bs' = bs ++ [tx] by rw [hbs', HTQ.out, hbs.out])
                have HLE := Lib.hid (show bs'.length ≤ 1048576 by rw [hbs', List.length_map, List.length_take]; omega)
                have HBS := Lib.hid hbs'; clear hbs' HTX HPQ
                have HA := Lib.hid ((Ext.refl w6).alloc (.cells #[.string (S tx)] 9))
                go_wp2_with (at_builtin; refine append_str rfl _ _ rfl w2.heap.size _ bs bs' tx HD.out rfl (hown2.out.ext (HX6.out.trans HA.out)) w6.heap.size 1 rfl ?c1 HLE.out ?c2 ?_)
                case c1 => exact (RowAt.new w6 9 #[.string (S tx)]).cell rfl
                case c2 => simp; omega
                intro v' w7 hown7 hgrow7 _
                have hv := World.ownsRow.lt hown2.out
                have HX7 := Lib.hid (Ext.own (hr2.out.trans (HX6.out.trans HA.out)) hgrow7 (fun k hk => (hv k hk).1))
                have HO7 := Lib.hid hown7; clear hown7 hgrow7 hv HA
                go_wp2
                go_roundw
                case rel => exact ⟨q + 1, bs', by go_num, by omega, HX7, HBS, HO7⟩
                case measure => simp [intOf]; omega
          · have hqp : q = p := by omega
            have HPQ := Lib.hid (show bs = row.map txtBoat by rw [hbs.out, hqp, HP.out, List.take_length])
            have HTX := Lib.hid (show Lib.join bs [43] = txtRow row by rw [HPQ.out]; rfl)
            have hqz : ¬ (q : Int) < (p : Int) := by omega
            go_wp2_with fail
            refine (join_own w2.heap.size _ bs [43] _ hown2.out (by rw [HPQ.out]; intro h; have := congrArg List.length h; rw [List.length_map, ← HP.out] at this; simp at this; omega) (by rw [HPQ.out, List.length_map, ← HP.out]; omega) (by rw [HTX.out]; have := HRL.out row HMEM.out; omega)).mono ?_
            rintro e w6 ⟨rfl, hb6⟩
            rw [HTX.out]
            have z6 := hb6.size
            have HX6 := Lib.hid (hr2.out.trans hb6)
            obtain ⟨tx, htx⟩ : ∃ tx, txtRow row = tx := ⟨_, rfl⟩
            rw [htx] at HTK ⊢
            clear htx
            obtain ⟨ss', hss'⟩ : ∃ x, x = (rows.take (k + 1)).map txtRow := ⟨_, rfl⟩
            have HD := Lib.hid (show ss' = ss ++ [tx] by rw [hss', HTK.out, hss.out])
            have HLE := Lib.hid (show ss'.length ≤ 1048576 by rw [hss', List.length_map, List.length_take]; omega)
            have HSS := Lib.hid hss'; clear hss' HTX HPQ
            have HA := Lib.hid ((Ext.refl w6).alloc (.cells #[.string (S tx)] 9))
            go_wp2_with (at_builtin; refine append_str rfl _ _ rfl w1.heap.size _ ss ss' tx HD.out rfl (hown.out.ext (HX6.out.trans HA.out)) w6.heap.size 1 rfl ?c1 HLE.out ?c2 ?_)
            case c1 => exact (RowAt.new w6 9 #[.string (S tx)]).cell rfl
            case c2 => simp; omega
            intro v' w7 hown7 hgrow7 _
            have hv := World.ownsRow.lt hown.out
            have HX7 := Lib.hid (Ext.own (hr.out.trans (HX6.out.trans HA.out)) hgrow7 (fun k hk => (hv k hk).1))
            have HO7 := Lib.hid hown7; clear hown7 hgrow7 hv HA
            go_wp2
            go_roundw
            case rel => exact ⟨k + 1, ss', by go_num, by omega, HX7, HSS, HO7⟩
            case measure => simp [intOf]; omega
      · have hkn : k = n := by omega
        have HPQ := Lib.hid (show ss = rows.map txtRow by rw [hss.out, hkn, HN.out, List.take_length])
        have HTX := Lib.hid (show Lib.join ss [47] = txtRows rows by rw [HPQ.out]; rfl)
        have hlen := txtRows_len HRL.out (by rw [← HN.out]; exact hn6)
        have c0 := (RB.out.ext hr.out).cell (j := 0) (v := .bool u) rfl
        have hkz : ¬ (k : Int) < (n : Int) := by omega
        obtain ⟨tx, htx⟩ : ∃ tx, txtRows rows = tx := ⟨_, rfl⟩
        rw [htx] at HTX HR hlen
        clear htx
        have hz1 : ¬ (({ data := #[94] } : ByteArray).size + (S tx).size > 9223372036854775807) := by rw [S_size]; show ¬ (1 + _ > _); omega
        have hz2 : ¬ (({ data := #[118] } : ByteArray).size + (S tx).size > 9223372036854775807) := by rw [S_size]; show ¬ (1 + _ > _); omega
        cases u
        all_goals
          go_wp2_with fail
          refine (join_own w1.heap.size _ ss [47] _ hown.out (by rw [HPQ.out]; intro h; have := congrArg List.length h; rw [List.length_map, ← HN.out] at this; simp at this; have := HNE.out; exact this (List.eq_nil_of_length_eq_zero (by rw [← HN.out]; assumption))) (by rw [HPQ.out, List.length_map, ← HN.out]; omega) (by rw [HTX.out]; omega)).mono ?_
          rintro e w6 ⟨rfl, hb6⟩
          rw [HTX.out]
          go_wp2
          go_ret
          exact ⟨by rw [HR.out]; rfl, HB.out.trans (hr.out.trans hb6)⟩
end Go.Proofs.YtjjikcjhnglkaaaDoor
