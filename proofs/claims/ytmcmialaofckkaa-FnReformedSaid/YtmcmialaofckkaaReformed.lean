/- FnReformed: boats that are put into new rows are the same, in their order; no row is too wide, and no boat begins a row without need. -/
import Derived.Test.YtmcmialaofckkaaProg
import Derived.Test.YtmcmialaofckkaaBytes
import Derived.Test.YtmcmialaofckkaaDrawTrain
import Derived.Test.YtmcmialaofckkaaReform
import Derived.Test.YtmcmialaofckkaaTrainWid
import Derived.Test.YtmcmialaofckkaaMark
import Derived.Test.YtmcmialaofckkaaReg
namespace Go.Proofs.Ytmcmialaofckkaa
open Go.RowKit
set_option linter.unusedSimpArgs false
set_option linter.unusedVariables false

def firstWid : List Bt → Int
  | [] => 0
  | b :: _ => b.wid
/-- Rows of which none is empty or too wide, and none begun without need. -/
def Tight (W : Int) (x : List (List Bt)) : Prop :=
  (∀ r ∈ x, r.length ≠ 0) ∧ (∀ r ∈ x, sumWid 0 r ≤ W) ∧ ∀ k, k + 1 < x.length → W < sumWid 0 (x.getD k []) + firstWid (x.getD (k + 1) [])
theorem sumWid_snoc (n : Int) (r : List Bt) (b : Bt) : sumWid n (r ++ [b]) = sumWid n r + b.wid := by simp [sumWid]
theorem firstWid_snoc {r : List Bt} (h : r.length ≠ 0) (b : Bt) : firstWid (r ++ [b]) = firstWid r := by
  cases r with
  | nil => exact absurd rfl h
  | cons c r => rfl
theorem getD_mem {x : List (List Bt)} {k : Nat} (h : k < x.length) : x.getD k [] ∈ x := by
  rw [List.getD_eq_getElem?_getD, List.getElem?_eq_getElem h]
  exact List.getElem_mem h
theorem Tight.grow {W : Int} {x : List (List Bt)} {used : Int} {b : Bt} (h : Tight W x) (h0 : 0 < x.length) (hu : used = sumWid 0 (x.getD (x.length - 1) [])) (hb : used + b.wid ≤ W) : Tight W (addLast x b) := by
  have hlast := getD_mem (x := x) (k := x.length - 1) (by omega)
  have hg : ∀ k, (addLast x b).getD k [] = if k = x.length - 1 then x.getD (x.length - 1) [] ++ [b] else x.getD k [] := fun k => by
    unfold addLast
    rw [List.getD_eq_getElem?_getD, List.getElem?_set]
    by_cases e : x.length - 1 = k
    · subst e
      rw [if_pos rfl, if_pos (by omega), if_pos rfl]
      rfl
    · rw [if_neg e, if_neg (fun e2 => e e2.symm), List.getD_eq_getElem?_getD]
  refine ⟨fun r hr => ?_, fun r hr => ?_, fun k hk => ?_⟩
  · rcases List.mem_or_eq_of_mem_set hr with h1 | h1
    · exact h.1 r h1
    · rw [h1, List.length_append]; simp
  · rcases List.mem_or_eq_of_mem_set hr with h1 | h1
    · exact h.2.1 r h1
    · rw [h1, sumWid_snoc, ← hu]; exact hb
  · rw [addLast_len] at hk
    have hk3 := h.2.2 k hk
    rw [hg, hg, if_neg (by omega)]
    split
    · rename_i e
      rw [firstWid_snoc (h.1 _ hlast), ← e]
      exact hk3
    · exact hk3
theorem Tight.push {W : Int} {x : List (List Bt)} {used : Int} {b : Bt} (h : Tight W x) (hu : 0 < x.length → used = sumWid 0 (x.getD (x.length - 1) [])) (hb : b.wid ≤ W) (hn : ¬ (0 < x.length ∧ used + b.wid ≤ W)) : Tight W (x ++ [[b]]) := by
  refine ⟨fun r hr => ?_, fun r hr => ?_, fun k hk => ?_⟩
  · rcases List.mem_append.1 hr with h1 | h1
    · exact h.1 r h1
    · rw [List.mem_singleton.1 h1]; exact (by decide : (1 : Nat) ≠ 0)
  · rcases List.mem_append.1 hr with h1 | h1
    · exact h.2.1 r h1
    · rw [List.mem_singleton.1 h1]; simp [sumWid]; exact hb
  · rw [List.length_append] at hk
    simp only [List.length_cons, List.length_nil] at hk
    by_cases e : k + 1 < x.length
    · have := h.2.2 k e
      simp only [List.getD_eq_getElem?_getD] at this ⊢
      rw [List.getElem?_append_left (by omega), List.getElem?_append_left e]
      exact this
    · have e2 : k + 1 = x.length := by omega
      have hu2 := hu (by omega)
      have ek : x.length - 1 = k := by omega
      rw [ek] at hu2
      have : ¬ used + b.wid ≤ W := fun h2 => hn ⟨by omega, h2⟩
      simp only [List.getD_eq_getElem?_getD] at hu2 ⊢
      rw [List.getElem?_append_left (by omega), ← hu2, List.getElem?_append_right (by omega), e2, Nat.sub_self]
      show W < used + b.wid
      omega
theorem ref_spec (W : Int) : ∀ (bs : List Bt) (acc : List (List Bt)) (used : Int), (∀ b ∈ bs, 1 ≤ b.wid ∧ b.wid ≤ W) → Tight W acc → (0 < acc.length → used = sumWid 0 (acc.getD (acc.length - 1) [])) →
    ∃ x, refGo W acc used bs = some x ∧ Tight W x ∧ x.flatten = acc.flatten ++ bs
  | [], acc, used, _, hT, _ => ⟨acc, rfl, hT, by simp⟩
  | b :: bs, acc, used, hb, hT, hu => by
    have hb1 := hb b (by simp)
    have hbs : ∀ c ∈ bs, 1 ≤ c.wid ∧ c.wid ≤ W := fun c hc => hb c (by simp [hc])
    by_cases hc : 0 < acc.length ∧ used + b.wid ≤ W
    · have hne : acc ≠ [] := fun e => by rw [e] at hc; exact absurd hc.1 (Nat.lt_irrefl _)
      obtain ⟨x, h1, h2, h3⟩ := ref_spec W bs (addLast acc b) (used + b.wid) hbs (hT.grow hc.1 (hu hc.1) hc.2) (fun _ => by
        rw [addLast_len, hu hc.1]
        unfold addLast
        rw [List.getD_eq_getElem?_getD (l := List.set _ _ _), List.getElem?_set, if_pos rfl, if_pos (by omega)]
        simp only [Option.getD_some]
        rw [sumWid_snoc])
      refine ⟨x, ?_, h2, ?_⟩
      · rw [refGo, if_neg (by omega), if_pos hc]; exact h1
      · rw [h3, addLast_flatten acc b hne]; simp
    · obtain ⟨x, h1, h2, h3⟩ := ref_spec W bs (acc ++ [[b]]) b.wid hbs (hT.push hu hb1.2 hc) (fun _ => by simp [sumWid])
      refine ⟨x, ?_, h2, ?_⟩
      · rw [refGo, if_neg (by omega), if_neg hc]; exact h1
      · rw [h3]; simp
theorem Tight.nil (W : Int) : Tight W [] := ⟨(fun r h => by cases h), (fun r h => by cases h), fun k h => absurd h (Nat.not_lt_zero _)⟩
theorem widGo_le {W : Int} : ∀ (x : List (List Bt)) (s : Int), s ≤ W → (∀ r ∈ x, sumWid 0 r ≤ W) → widGo s x ≤ W
  | [], _, h, _ => h
  | r :: x, s, h, hx => by
    have h1 := hx r (by simp)
    have := widGo_le x (if s < sumWid 0 r then sumWid 0 r else s) (by split <;> omega) (fun q hq => hx q (by simp [hq]))
    exact this
/-- All that the law asks of a train put anew. -/
theorem reformed_all {rows : List (List Bt)} {k : Nat} {W : Int} (u : Bool) (hg : GoodAcc 1 k rows) (hk1 : 1 ≤ k) (hk4 : k ≤ 4) (hW : 9 ≤ W) :
    ∃ x, refRes u rows W = (u, x, true) ∧ refRes u rows 0 = (false, [], false) ∧ Tight W x ∧ x.flatten = rows.flatten ∧ trainOk x = true ∧ idsOf x = idsOf rows ∧ widthOf x ≤ W ∧ GoodAcc 1 k x := by
  have hok := hg.ok (by decide) (by decide) hk1 (by omega)
  have hwid : ∀ b ∈ rows.flatten, 1 ≤ b.wid ∧ b.wid ≤ W := fun b hb => by
    obtain ⟨j, hj, rfl⟩ := List.getElem_of_mem hb
    have := (hg.2.2 j hj).2.2.1
    omega
  obtain ⟨x, h1, h2, h3⟩ := ref_spec W rows.flatten [] 0 hwid (Tight.nil W) (fun h => absurd h (Nat.lt_irrefl _))
  simp only [List.flatten_nil, List.nil_append] at h3
  have hgx : GoodAcc 1 k x := ⟨by rw [h3]; exact hg.1, h2.1, by rw [h3]; exact hg.2.2⟩
  have hokx := hgx.ok (by decide) (by decide) hk1 (by omega)
  refine ⟨x, by rw [refRes, if_pos hok, h1], ?_, h2, h3, hokx, by rw [idsOf, idsOf, hok, hokx, h3], ?_, hgx⟩
  · rw [refRes, if_pos hok]
    have : rows.flatten ≠ [] := fun e => by have := hg.1; rw [e] at this; simp at this; omega
    cases hf : rows.flatten with
    | nil => exact absurd hf this
    | cons b bs =>
      have := hwid b (by rw [hf]; simp)
      rw [refGo, if_pos (by omega)]
  · rw [widthOf, if_pos hokx]
    exact widGo_le x 0 (by omega) h2.2.1

set_option maxHeartbeats 1000000 in
theorem sameInts_same (a a' : Option Addr) (n c c' : Nat) (xs : List Int) (w : World) (hn : n = xs.length) (hs : n ≤ 1048576) (hf : IntsAt w a xs) (hf' : IntsAt w a' xs) :
    Calls Try.prog 22 #[.slice a n c, .slice a' n c'] w fun e w' => e = .returned (.bool true) ∧ Ext w w' := by
  have HF := Lib.hid hf; clear hf
  have HF' := Lib.hid hf'; clear hf'
  have HN := Lib.hid hn; clear hn
  go_enter Try.func22, Try.ntmps22
  go_wp2
  go_loopw [5] (fun i wr => ∃ (k : Nat), k ≤ n ∧ i = .int .i64 k ∧ Ext w wr) (fun i _ => n - (intOf i).toNat)
  case atStart => exact ⟨0, Nat.zero_le _, rfl, by (repeat' (first | (with_reducible exact Ext.refl _) | (with_reducible assumption) | (with_reducible refine Ext.alloc ?_ _) | (with_reducible refine Ext.drewN ?_ _) | (with_reducible refine Ext.drew ?_) | (with_reducible refine Ext.setCell ?_ ?_ _) | (with_reducible exact Nat.le_refl _) | (with_reducible exact Nat.le_succ _) | (with_reducible refine Ext.trans ?_ (by assumption)) | (simp; done) | (simp; omega)))⟩
  case round =>
    obtain ⟨k, hk, rfl, hr⟩ := hrel
    by_cases hlt : k < n
    · have hlt' : k < xs.length := by rw [← HN.out]; exact hlt
      obtain ⟨b, off, rfl, hc⟩ := HF.out k hlt'
      obtain ⟨b', off', rfl, hc'⟩ := HF'.out k hlt'
      obtain ⟨x, hx⟩ : ∃ x, xs[k] = x := ⟨_, rfl⟩
      rw [hx] at hc hc'
      have e0 : ∀ y : Aft wr, y.1.cell? ⟨b, off + k, none⟩ = some (.int .i64 x) := fun y => (hr.trans y.2).cell hc
      have e1 : ∀ y : Aft wr, y.1.cell? ⟨b', off' + k, none⟩ = some (.int .i64 x) := fun y => (hr.trans y.2).cell hc'
      clear hc hc' hx
      go_wp2_with fail
      (refine wp_region_aft wr (Ext.refl _) (by kernel_rfl) (by kernel_rfl) ?_; (repeat (go_big_quiet_step (fail))); refine wpQuiet_nil ?_; intro w2 hx2)
      go_wp2
      go_roundw
      case rel => exact ⟨k + 1, by omega, by go_num, by (repeat' (first | (with_reducible exact Ext.refl _) | (with_reducible assumption) | (with_reducible refine Ext.alloc ?_ _) | (with_reducible refine Ext.drewN ?_ _) | (with_reducible refine Ext.drew ?_) | (with_reducible refine Ext.setCell ?_ ?_ _) | (with_reducible exact Nat.le_refl _) | (with_reducible exact Nat.le_succ _) | (with_reducible refine Ext.trans ?_ (by assumption)) | (simp; done) | (simp; omega)))⟩
      case measure => simp [intOf]; omega
    · go_wp2
      go_ret
      exact ⟨rfl, by (repeat' (first | (with_reducible exact Ext.refl _) | (with_reducible assumption) | (with_reducible refine Ext.alloc ?_ _) | (with_reducible refine Ext.drewN ?_ _) | (with_reducible refine Ext.drew ?_) | (with_reducible refine Ext.setCell ?_ ?_ _) | (with_reducible exact Nat.le_refl _) | (with_reducible exact Nat.le_succ _) | (with_reducible refine Ext.trans ?_ (by assumption)) | (simp; done) | (simp; omega)))⟩

set_option maxHeartbeats 8000000 in
set_option maxRecDepth 100000 in
theorem reformed_any (a : Option Addr) (n c : Nat) (xs : List Int) (w : World) (hn : n = xs.length) (hs : n ≤ maxLen) (hf : BytesAt w a xs) :
    Calls Try.prog 4 #[.slice a n c] w fun e w' => e = .returned (.bool true) ∧ Ext w w' := by
  have HS := Lib.hid hs
  have HF := Lib.hid hf; clear hf
  have HN := Lib.hid hn; clear hn
  by_cases hsz : (1048576 : Int) < n
  · have hd : decide ((1048576 : Int) < n) = true := by simpa using hsz
    go_enter Try.func4, Try.ntmps4
    go_wp2_with ((go_at_call 15; refine (big_any _ _ _ _ HS.out).mono ?_; rintro e w' ⟨rfl, rfl⟩))
    go_ret
    exact ⟨rfl, by (repeat' (first | (with_reducible exact Ext.refl _) | (with_reducible assumption) | (with_reducible refine Ext.alloc ?_ _) | (with_reducible refine Ext.drewN ?_ _) | (with_reducible refine Ext.drew ?_) | (with_reducible refine Ext.setCell ?_ ?_ _) | (with_reducible exact Nat.le_refl _) | (with_reducible exact Nat.le_succ _) | (with_reducible refine Ext.trans ?_ (by assumption)) | (simp; done) | (simp; omega)))⟩
  have hs2 : n ≤ 1048576 := by omega
  have hd : decide ((1048576 : Int) < n) = false := by simpa using hsz
  go_enter Try.func4, Try.ntmps4
  go_wp2_with fail
  refine (big_any _ _ _ _ HS.out).mono ?_
  rintro e w1 ⟨rfl, rfl⟩
  go_wp2_with fail
  refine (DrawTrain_any _ _ _ xs _ HN.out hs2 HF.out).mono ?_
  rintro e w2 ⟨u, a2, c2, k, rows, hk, hgood, rfl, how, hx2⟩
  have HX2 := Lib.hid hx2; clear hx2
  have HR := Lib.hid how.rows
  have hlen : rows.length ≤ 4 := by have := hgood.small.1; omega
  have HL := Lib.hid (show rows.flatten.length ≤ 1048576 by rw [hgood.1]; omega)
  have HGD := Lib.hid hgood
  clear how hgood
  obtain ⟨m, hm⟩ : ∃ m, rows.length = m := ⟨_, rfl⟩
  rw [hm] at hlen ⊢
  have HM := Lib.hid hm.symm; clear hm
  go_wp2_with fail
  have eA := (Ext.refl w2).alloc (.cells #[.bool u, .slice a2 m c2] 26)
  have rA := RowAt.new w2 26 #[.bool u, .slice a2 m c2]
  refine (at_any _ _ _ xs 0 _ HN.out hs2 (by decide) (by decide) (HF.out.ext (HX2.out.trans eA))).mono ?_
  rintro e w3 ⟨z, hz0, hz255, rfl, rfl⟩
  obtain ⟨W, hW⟩ : ∃ W, 9 + z % 30 = W := ⟨_, rfl⟩
  have hW9 : 9 ≤ W := by omega
  have hW38 : W ≤ 38 := by omega
  obtain ⟨x, r1, r0, hT, hfl, hokx, hids, hwid, hgx⟩ := reformed_all u HGD.out hk.1 hk.2 hW9
  have R1 := Lib.hid r1
  have R0 := Lib.hid r0
  clear r1 r0
  go_wp2_with fail
  refine (implReform_any u true x x.length u a2 m c2 rows W _ HM.out (by omega) HL.out (HR.out.ext eA) (by unfold I64; omega) R1.out rfl).mono ?_
  rintro e w4 ⟨a1, c1, rfl, how1, hx4⟩
  have HX4 := Lib.hid hx4
  have HA4 := Lib.hid (rA.ext hx4)
  have HRX := Lib.hid how1.rows
  clear how1 hx4 rA
  obtain ⟨nx, hnx⟩ : ∃ nx, x.length = nx := ⟨_, rfl⟩
  have hnx4 : nx ≤ 4 := by have := hgx.small.1; omega
  have hrx4 : ∀ r ∈ x, r.length ≤ 4 := fun r hr => by have := hgx.small.2 r hr; omega
  rw [hnx]
  have HNX := Lib.hid hnx; clear hnx
  have HT := Lib.hid hT
  have HRX4 := Lib.hid hrx4
  have HOKX := Lib.hid hokx
  have HIDS := Lib.hid hids
  have HWID := Lib.hid hwid
  have HGX := Lib.hid hgx
  have HFL := Lib.hid hfl
  clear hT hrx4 hokx hids hwid hgx hfl
  have eX := (Ext.refl w4).alloc (.cells #[.bool u, .slice a1 nx c1] 26)
  have rX := RowAt.new w4 26 #[.bool u, .slice a1 nx c1]
  go_wp2_with fail
  have HX5 := Lib.hid ((eA.trans HX4.out).trans eX)
  have HA5 := Lib.hid (HA4.out.ext eX)
  have HRX5 := Lib.hid (HRX.out.ext eX)
  have HRX' := Lib.hid rX
  obtain ⟨w5, hw5⟩ : ∃ w5, w4.alloc (.cells #[.bool u, .slice a1 nx c1] 26) = w5 := ⟨_, rfl⟩
  rw [hw5] at HX5 HA5 HRX5 HRX'
  rw [hw5]
  obtain ⟨X, hX⟩ : ∃ X, w4.heap.size = X := ⟨_, rfl⟩
  rw [hX] at HRX'
  rw [hX]
  obtain ⟨A, hA⟩ : ∃ A, w2.heap.size = A := ⟨_, rfl⟩
  rw [hA] at HA5
  rw [hA]
  clear hw5 hX hA eA eX HX4 HA4 HRX rX
  have x0 : w5.cell? ⟨X, 0, none⟩ = some (.bool u) := HRX'.out.cell rfl
  have x1 : w5.cell? ⟨X, 1, none⟩ = some (.slice a1 nx c1) := HRX'.out.cell rfl
  have y0 : w5.cell? ⟨A, 0, none⟩ = some (.bool u) := HA5.out.cell rfl
  have y1 : w5.cell? ⟨A, 1, none⟩ = some (.slice a2 m c2) := HA5.out.cell rfl
  go_loop [7] (fun i => ∃ j : Nat, j ≤ nx ∧ i = .int .i64 j) (fun i => nx - (intOf i).toNat)
  case atStart => exact ⟨0, Nat.zero_le _, rfl⟩
  case round =>
    obtain ⟨j, hj, rfl⟩ := hrel
    by_cases hlt : j < nx
    · have hlt' : j < x.length := by rw [HNX.out]; exact hlt
      obtain ⟨b, off, a', c', rfl, hc0, hml, hfr⟩ := HRX5.out j hlt'
      have hS := HT.out.2.1 x[j] (List.getElem_mem _)
      have hD : j + 1 < x.length → W < sumWid 0 x[j] + firstWid (x.getD (j + 1) []) := fun h => by
        have := HT.out.2.2 j h
        rw [List.getD_eq_getElem?_getD, List.getElem?_eq_getElem hlt'] at this
        exact this
      have hl4 := HRX4.out x[j] (List.getElem_mem _)
      have hmem : x[j] ∈ x := List.getElem_mem _
      obtain ⟨row, hrow⟩ : ∃ row, x[j] = row := ⟨_, rfl⟩
      rw [hrow] at hc0 hfr hS hD hl4 hmem
      clear hrow hml
      obtain ⟨S, hSd⟩ : ∃ S, sumWid 0 row = S := ⟨_, rfl⟩
      rw [hSd] at hS hD
      have HG := Lib.hid (show S = sumWid 0 (row.drop 0) by rw [List.drop_zero]; exact hSd.symm)
      clear hSd
      obtain ⟨p, hp⟩ : ∃ p, p = row.length := ⟨_, rfl⟩
      rw [← hp] at hc0 hl4
      have HP := Lib.hid hp; clear hp
      have HFR := Lib.hid hfr; clear hfr
      have HD := Lib.hid hD; clear hD
      have HMEM := Lib.hid hmem; clear hmem
      go_wp2
      go_loop [8, 9] (fun s i => ∃ (q : Nat) (y : Int), q ≤ p ∧ i = .int .i64 q ∧ s = .int .i64 y ∧ 0 ≤ y ∧ y ≤ 30 * ((q : Nat) : Int) ∧ Hid (S = sumWid y (row.drop q))) (fun _ i => p - (intOf i).toNat)
      case atStart => exact ⟨0, 0, Nat.zero_le _, rfl, rfl, Int.le_refl _, by decide, HG⟩
      case round =>
        obtain ⟨q, y, hq, rfl, rfl, hy0, hy1, hgo⟩ := hrel
        by_cases hlt2 : q < p
        · have hlt2' : q < row.length := by rw [← HP.out]; exact hlt2
          obtain ⟨b2, off2, rfl, hcell⟩ := HFR.out.get q hlt2'
          have hd := List.drop_eq_getElem_cons hlt2'
          obtain ⟨bt, hbt⟩ : ∃ bt, row[q] = bt := ⟨_, rfl⟩
          have hbo := bOk_bounds (trainOk_boats HOKX.out HMEM.out (hbt ▸ List.getElem_mem hlt2'))
          rw [hbt] at hcell hd
          clear hbt
          obtain ⟨bi, bl, bw, bd, bs, bc⟩ := bt
          have hl1 : 1 ≤ bw := hbo.2.2.1.1
          have hl2 : bw ≤ 30 := hbo.2.2.1.2
          have g2 : w5.cell? ⟨b2, off2 + q * 6 + 2, none⟩ = some (.int .i64 bw) := hcell 2 _ rfl _ (Ext.refl _)
          have HG2 := Lib.hid (show S = sumWid (y + bw) (row.drop (q + 1)) by rw [hgo.out, hd]; rfl)
          clear hcell hd hgo hbo
          go_wp2
          go_round
          case rel => exact ⟨q + 1, y + bw, by omega, by go_num, rfl, by omega, by omega, HG2⟩
          case measure => simp [intOf]; omega
        · have hqp : q = p := by omega
          have hyS : y = S := by rw [hgo.out, List.drop_eq_nil_of_le (by have := HP.out; omega)]; rfl
          subst hyS
          clear hgo HG
          have d1 : decide (W < y) = false := by simp; omega
          by_cases hnext : j + 1 < nx
          · have hnx' : j + 1 < x.length := by rw [HNX.out]; exact hnext
            obtain ⟨b5, off5, a5, c5, e5, hc5, hml5, hfr5⟩ := HRX5.out (j + 1) hnx'
            cases e5
            have hD := HD.out hnx'
            have hne := HT.out.1 x[j + 1] (List.getElem_mem _)
            have hfw : firstWid (x.getD (j + 1) []) = firstWid x[j + 1] := by rw [List.getD_eq_getElem?_getD, List.getElem?_eq_getElem hnx']; rfl
            rw [hfw] at hD
            have hl5 := HRX4.out x[j + 1] (List.getElem_mem _)
            obtain ⟨row5, hrow5⟩ : ∃ row, x[j + 1] = row := ⟨_, rfl⟩
            rw [hrow5] at hc5 hfr5 hD hne hl5
            have hmem5 : row5 ∈ x := hrow5 ▸ List.getElem_mem _
            clear hrow5 hfw hml5
            cases row5 with
            | nil => exact absurd rfl hne
            | cons bt row5 =>
              have hbo := bOk_bounds (trainOk_boats HOKX.out hmem5 (b := bt) (by simp))
              obtain ⟨b6, off6, rfl, hcell⟩ := hfr5.get 0 (by simp)
              obtain ⟨bi, bl, bw, bd, bs, bc⟩ := bt
              have hl1 : 1 ≤ bw := hbo.2.2.1.1
              have hl2 : bw ≤ 30 := hbo.2.2.1.2
              have g2 : w5.cell? ⟨b6, off6 + 0 * 6 + 2, none⟩ = some (.int .i64 bw) := hcell 2 _ rfl _ (Ext.refl _)
              rw [Nat.zero_mul, Nat.add_zero] at g2
              rw [List.length_cons] at hc5
              have hD2 : W < y + bw := hD
              have d2 : decide (y + bw ≤ W) = false := by simp; omega
              clear hcell hbo hD hne hmem5 hfr5
              go_wp2
              go_round
              case rel => exact ⟨j + 1, by omega, by go_num⟩
              case measure => simp [intOf]; omega
          · go_wp2
            go_round
            case rel => exact ⟨j + 1, by omega, by go_num⟩
            case measure => simp [intOf]; omega
    · go_wp2_with fail
      refine (implReform_any false false [] 0 u a2 m c2 rows 0 _ HM.out (by omega) HL.out (HR.out.ext HX5.out) (by unfold I64; omega) R0.out rfl).mono ?_
      rintro e w6 ⟨a9, c9, rfl, _, hx6⟩
      have e6 := hx6.trans ((Ext.refl w6).alloc (.cells #[.bool false, .slice a9 0 c9] 26))
      go_wp2_with fail
      have HX7 := Lib.hid e6
      have HRX7 := Lib.hid (HRX5.out.ext e6)
      have HR7 := Lib.hid (HR.out.ext (HX5.out.trans e6))
      have TX7 := Lib.hid (HRX'.out.ext e6)
      have TA7 := Lib.hid (HA5.out.ext e6)
      obtain ⟨w7, hw7⟩ : ∃ w7, w6.alloc (.cells #[.bool false, .slice a9 0 c9] 26) = w7 := ⟨_, rfl⟩
      rw [hw7] at HX7 HRX7 HR7 TX7 TA7
      rw [hw7]
      clear hw7 e6 hx6 x0 x1 y0 y1
      obtain ⟨ids, hid1⟩ : ∃ ids, idsOf rows = ids := ⟨_, rfl⟩
      have HI1 := Lib.hid hid1
      have HI2 := Lib.hid (HIDS.out.trans hid1)
      clear hid1
      obtain ⟨mi, hmi⟩ : ∃ mi, mi = ids.length := ⟨_, rfl⟩
      have hmi4 : mi ≤ 1048576 := by
        rw [hmi, ← HI1.out, idsOf]
        split
        · rw [List.length_map]; exact HL.out
        · exact Nat.zero_le _
      have HMI := Lib.hid hmi; clear hmi
      have HLX := Lib.hid (show x.flatten.length ≤ 1048576 by rw [HFL.out]; exact HL.out)
      have hnx2 : nx ≤ 1048576 := by omega
      have hm2 : m ≤ 1048576 := by omega
      obtain ⟨V, hV⟩ : ∃ V, widthOf x = V := ⟨_, rfl⟩
      have hdV : decide (V ≤ W) = true := by rw [← hV]; simpa using HWID.out
      have HV := Lib.hid hV; clear hV
      have HSK := Lib.hid (fun (w' : World) (h : Ext w7 w') => (⟨(TX7.out.ext h).cell rfl, (TX7.out.ext h).cell rfl, (TA7.out.ext h).cell rfl, (TA7.out.ext h).cell rfl⟩ : w'.cell? ⟨X, 0, none⟩ = some (.bool u) ∧ w'.cell? ⟨X, 1, none⟩ = some (.slice a1 nx c1) ∧ w'.cell? ⟨A, 0, none⟩ = some (.bool u) ∧ w'.cell? ⟨A, 1, none⟩ = some (.slice a2 m c2)))
      refine wp_region_held_drew (S := (fun w' => w'.cell? ⟨X, 0, none⟩ = some (.bool u) ∧ w'.cell? ⟨X, 1, none⟩ = some (.slice a1 nx c1) ∧ w'.cell? ⟨A, 0, none⟩ = some (.bool u) ∧ w'.cell? ⟨A, 1, none⟩ = some (.slice a2 m c2))) (by kernel_rfl) ?_ (fun hH0 => ?_)
      · (try dsimp only)
        (exact HSK.out _ (by (repeat' (first | (with_reducible exact Ext.refl _) | (with_reducible assumption) | (with_reducible refine Ext.alloc ?_ _) | (with_reducible refine Ext.drewN ?_ _) | (with_reducible refine Ext.drew ?_) | (with_reducible refine Ext.setCell ?_ ?_ _) | (with_reducible exact Nat.le_refl _) | (with_reducible exact Nat.le_succ _) | (with_reducible refine Ext.trans ?_ (by assumption)) | (simp; done) | (simp; omega)))))
      refine take_l 0 (v := ?_) rfl (by kernel_rfl) (by kernel_rfl) (by kernel_rfl) (fun _ _ _ h => h) (by rfl) ?_ (by assumption) ?_
      rotate_left
      · (intro w hSw; (try dsimp only at hSw); go_simp; (try with_reducible rfl))
      (try simp only [Act.put, List.setIfInBounds_toArray, List.set_cons_zero, List.set_cons_succ])
      refine take_l 2 (v := ?_) rfl (by kernel_rfl) (by kernel_rfl) (by kernel_rfl) (fun _ _ _ h => h) (by rfl) ?_ (by assumption) ?_
      rotate_left
      · (intro w hSw; (try dsimp only at hSw); go_simp; (try with_reducible rfl))
      (try simp only [Act.put, List.setIfInBounds_toArray, List.set_cons_zero, List.set_cons_succ])
      refine wpAnyH_ready (rs := [1]) (by kernel_rfl) (by simp) ?_
      refine cons_l (i := 1) rfl (fun K hK => ?_) ?_
      go_simp; (go_at_call 23; with_reducible refine (implIdsOf_is ids mi _ _ _ _ x _ HNX.out.symm hnx2 HLX.out (HRX7.out.ext (by (repeat' (first | (with_reducible exact Ext.refl _) | (with_reducible assumption) | (with_reducible refine Ext.alloc ?_ _) | (with_reducible refine Ext.drewN ?_ _) | (with_reducible refine Ext.drew ?_) | (with_reducible refine Ext.setCell ?_ ?_ _) | (with_reducible exact Nat.le_refl _) | (with_reducible exact Nat.le_succ _) | (with_reducible refine Ext.trans ?_ (by assumption)) | (simp; done) | (simp; omega))))) HI2.out HMI.out).mono ?_); rintro e wa ⟨aA, cA, rfl, hoA, hbA⟩; have xA : Ext w7 wa := Ext.trans (by (repeat' (first | (with_reducible exact Ext.refl _) | (with_reducible assumption) | (with_reducible refine Ext.alloc ?_ _) | (with_reducible refine Ext.drewN ?_ _) | (with_reducible refine Ext.drew ?_) | (with_reducible refine Ext.setCell ?_ ?_ _) | (with_reducible exact Nat.le_refl _) | (with_reducible exact Nat.le_succ _) | (with_reducible refine Ext.trans ?_ (by assumption)) | (simp; done) | (simp; omega)))) hbA; have OA := Lib.hid hoA.at; clear hoA hbA
      refine hK.out _ _ ?_ (fun hH1 => ?_)
      · (try dsimp only)
        (exact HSK.out _ (by (repeat' (first | (with_reducible exact Ext.refl _) | (with_reducible assumption) | (with_reducible refine Ext.alloc ?_ _) | (with_reducible refine Ext.drewN ?_ _) | (with_reducible refine Ext.drew ?_) | (with_reducible refine Ext.setCell ?_ ?_ _) | (with_reducible exact Nat.le_refl _) | (with_reducible exact Nat.le_succ _) | (with_reducible refine Ext.trans ?_ (by assumption)) | (simp; done) | (simp; omega)))))
      clear hK K hH0
      (try simp only [Act.put, List.setIfInBounds_toArray, List.set_cons_zero, List.set_cons_succ])
      refine wpAnyH_ready (rs := [3]) (by kernel_rfl) (by simp) ?_
      refine cons_l (i := 3) rfl (fun K hK => ?_) ?_
      go_simp; (go_at_call 23; with_reducible refine (implIdsOf_is ids mi _ _ _ _ rows _ HM.out hm2 HL.out (HR7.out.ext (by (repeat' (first | (with_reducible exact Ext.refl _) | (with_reducible assumption) | (with_reducible refine Ext.alloc ?_ _) | (with_reducible refine Ext.drewN ?_ _) | (with_reducible refine Ext.drew ?_) | (with_reducible refine Ext.setCell ?_ ?_ _) | (with_reducible exact Nat.le_refl _) | (with_reducible exact Nat.le_succ _) | (with_reducible refine Ext.trans ?_ (by assumption)) | (simp; done) | (simp; omega))))) HI1.out HMI.out).mono ?_); rintro e wb ⟨aB, cB, rfl, hoB, hbB⟩; have xB : Ext wa wb := hbB; have xAB := xA.trans xB; have OB := Lib.hid hoB.at; clear hoB hbB
      refine hK.out _ _ ?_ (fun hH2 => ?_)
      · (try dsimp only)
        (exact HSK.out _ (by (repeat' (first | (with_reducible exact Ext.refl _) | (with_reducible assumption) | (with_reducible refine Ext.alloc ?_ _) | (with_reducible refine Ext.drewN ?_ _) | (with_reducible refine Ext.drew ?_) | (with_reducible refine Ext.setCell ?_ ?_ _) | (with_reducible exact Nat.le_refl _) | (with_reducible exact Nat.le_succ _) | (with_reducible refine Ext.trans ?_ (by assumption)) | (simp; done) | (simp; omega)))))
      clear hK K hH1
      (try simp only [Act.put, List.setIfInBounds_toArray, List.set_cons_zero, List.set_cons_succ])
      refine wpAnyH_ready (rs := [4]) (by kernel_rfl) (by simp) ?_
      refine cons_l (i := 4) rfl (fun K hK => ?_) ?_
      go_simp; (go_at_call 22; with_reducible refine (sameInts_same _ _ _ _ _ ids _ HMI.out hmi4 (OA.out.ext xB) OB.out).mono ?_); rintro e wc ⟨rfl, hbC⟩; have xAC := xAB.trans hbC
      refine hK.out _ _ ?_ (fun hH3 => ?_)
      · (try dsimp only)
        (exact HSK.out _ (by (repeat' (first | (with_reducible exact Ext.refl _) | (with_reducible assumption) | (with_reducible refine Ext.alloc ?_ _) | (with_reducible refine Ext.drewN ?_ _) | (with_reducible refine Ext.drew ?_) | (with_reducible refine Ext.setCell ?_ ?_ _) | (with_reducible exact Nat.le_refl _) | (with_reducible exact Nat.le_succ _) | (with_reducible refine Ext.trans ?_ (by assumption)) | (simp; done) | (simp; omega)))))
      clear hK K hH2
      (try simp only [Act.put, List.setIfInBounds_toArray, List.set_cons_zero, List.set_cons_succ])
      refine take_l 5 (v := ?_) rfl (by kernel_rfl) (by kernel_rfl) (by kernel_rfl) (fun _ _ _ h => h) (by rfl) ?_ (by assumption) ?_
      rotate_left
      · (intro w hSw; (try dsimp only at hSw); go_simp; (try with_reducible rfl))
      (try simp only [Act.put, List.setIfInBounds_toArray, List.set_cons_zero, List.set_cons_succ])
      refine take_l 6 (v := ?_) rfl (by kernel_rfl) (by kernel_rfl) (by kernel_rfl) (fun _ _ _ h => h) (by rfl) ?_ (by assumption) ?_
      rotate_left
      · (intro w hSw; (try dsimp only at hSw); go_simp; (try with_reducible rfl))
      (try simp only [Act.put, List.setIfInBounds_toArray, List.set_cons_zero, List.set_cons_succ])
      refine take_l 7 (v := ?_) rfl (by kernel_rfl) (by kernel_rfl) (by kernel_rfl) (fun _ _ _ h => h) (by rfl) ?_ (by assumption) ?_
      rotate_left
      · (intro w hSw; (try dsimp only at hSw); go_simp; (try with_reducible rfl))
      (try simp only [Act.put, List.setIfInBounds_toArray, List.set_cons_zero, List.set_cons_succ])
      refine take_l 8 (v := ?_) rfl (by kernel_rfl) (by kernel_rfl) (by kernel_rfl) (fun _ _ _ h => h) (by rfl) ?_ (by assumption) ?_
      rotate_left
      · (intro w hSw; (try dsimp only at hSw); go_simp; (try with_reducible rfl))
      (try simp only [Act.put, List.setIfInBounds_toArray, List.set_cons_zero, List.set_cons_succ])
      refine take_l 9 (v := ?_) rfl (by kernel_rfl) (by kernel_rfl) (by kernel_rfl) (fun _ _ _ h => h) (by rfl) ?_ (by assumption) ?_
      rotate_left
      · (intro w hSw; (try dsimp only at hSw); go_simp; (try with_reducible rfl))
      (try simp only [Act.put, List.setIfInBounds_toArray, List.set_cons_zero, List.set_cons_succ])
      refine take_l 10 (v := ?_) rfl (by kernel_rfl) (by kernel_rfl) (by kernel_rfl) (fun _ _ _ h => h) (by rfl) ?_ (by assumption) ?_
      rotate_left
      · (intro w hSw; (try dsimp only at hSw); go_simp; (try with_reducible rfl))
      (try simp only [Act.put, List.setIfInBounds_toArray, List.set_cons_zero, List.set_cons_succ])
      refine take_l 11 (v := ?_) rfl (by kernel_rfl) (by kernel_rfl) (by kernel_rfl) (fun _ _ _ h => h) (by rfl) ?_ (by assumption) ?_
      rotate_left
      · (intro w hSw; (try dsimp only at hSw); go_simp; (try with_reducible rfl))
      (try simp only [Act.put, List.setIfInBounds_toArray, List.set_cons_zero, List.set_cons_succ])
      refine take_l 12 (v := ?_) rfl (by kernel_rfl) (by kernel_rfl) (by kernel_rfl) (fun _ _ _ h => h) (by rfl) ?_ (by assumption) ?_
      rotate_left
      · (intro w hSw; (try dsimp only at hSw); go_simp; (try with_reducible rfl))
      (try simp only [Act.put, List.setIfInBounds_toArray, List.set_cons_zero, List.set_cons_succ])
      refine take_l 13 (v := ?_) rfl (by kernel_rfl) (by kernel_rfl) (by kernel_rfl) (fun _ _ _ h => h) (by rfl) ?_ (by assumption) ?_
      rotate_left
      · (intro w hSw; (try dsimp only at hSw); go_simp; (try with_reducible rfl))
      (try simp only [Act.put, List.setIfInBounds_toArray, List.set_cons_zero, List.set_cons_succ])
      refine take_l 15 (v := ?_) rfl (by kernel_rfl) (by kernel_rfl) (by kernel_rfl) (fun _ _ _ h => h) (by rfl) ?_ (by assumption) ?_
      rotate_left
      · (intro w hSw; (try dsimp only at hSw); go_simp; (try with_reducible rfl))
      (try simp only [Act.put, List.setIfInBounds_toArray, List.set_cons_zero, List.set_cons_succ])
      refine wpAnyH_ready (rs := [14]) (by kernel_rfl) (by simp) ?_
      refine cons_l (i := 14) rfl (fun K hK => ?_) ?_
      go_simp; (go_at_call 24; with_reducible refine (implWidthOf_any _ _ _ _ x _ HNX.out.symm hnx2 HLX.out (HRX7.out.ext (by (repeat' (first | (with_reducible exact Ext.refl _) | (with_reducible assumption) | (with_reducible refine Ext.alloc ?_ _) | (with_reducible refine Ext.drewN ?_ _) | (with_reducible refine Ext.drew ?_) | (with_reducible refine Ext.setCell ?_ ?_ _) | (with_reducible exact Nat.le_refl _) | (with_reducible exact Nat.le_succ _) | (with_reducible refine Ext.trans ?_ (by assumption)) | (simp; done) | (simp; omega)))))).mono ?_); rintro e wd ⟨rfl, hbD⟩; rw [HV.out]; have xAD := xAC.trans hbD
      refine hK.out _ _ ?_ (fun hH4 => ?_)
      · (try dsimp only)
        (exact HSK.out _ (by (repeat' (first | (with_reducible exact Ext.refl _) | (with_reducible assumption) | (with_reducible refine Ext.alloc ?_ _) | (with_reducible refine Ext.drewN ?_ _) | (with_reducible refine Ext.drew ?_) | (with_reducible refine Ext.setCell ?_ ?_ _) | (with_reducible exact Nat.le_refl _) | (with_reducible exact Nat.le_succ _) | (with_reducible refine Ext.trans ?_ (by assumption)) | (simp; done) | (simp; omega)))))
      clear hK K hH3
      (try simp only [Act.put, List.setIfInBounds_toArray, List.set_cons_zero, List.set_cons_succ])
      refine take_l 16 (v := ?_) rfl (by kernel_rfl) (by kernel_rfl) (by kernel_rfl) (fun _ _ _ h => h) (by rfl) ?_ (by assumption) ?_
      rotate_left
      · (intro w hSw; (try dsimp only at hSw); go_simp; (try with_reducible rfl))
      (try simp only [Act.put, List.setIfInBounds_toArray, List.set_cons_zero, List.set_cons_succ])
      refine take_l 17 (v := ?_) rfl (by kernel_rfl) (by kernel_rfl) (by kernel_rfl) (fun _ _ _ h => h) (by rfl) ?_ (by assumption) ?_
      rotate_left
      · (intro w hSw; (try dsimp only at hSw); go_simp; (try with_reducible rfl))
      (try simp only [Act.put, List.setIfInBounds_toArray, List.set_cons_zero, List.set_cons_succ])
      refine take_l 18 (v := ?_) rfl (by kernel_rfl) (by kernel_rfl) (by kernel_rfl) (fun _ _ _ h => h) (by rfl) ?_ (by assumption) ?_
      rotate_left
      · (intro w hSw; (try dsimp only at hSw); go_simp; (try with_reducible rfl))
      (try simp only [Act.put, List.setIfInBounds_toArray, List.set_cons_zero, List.set_cons_succ])
      refine take_l 19 (v := ?_) rfl (by kernel_rfl) (by kernel_rfl) (by kernel_rfl) (fun _ _ _ h => h) (by rfl) ?_ (by assumption) ?_
      rotate_left
      · (intro w hSw; (try dsimp only at hSw); go_simp; (try with_reducible rfl))
      (try simp only [Act.put, List.setIfInBounds_toArray, List.set_cons_zero, List.set_cons_succ])
      refine take_l 20 (v := ?_) rfl (by kernel_rfl) (by kernel_rfl) (by kernel_rfl) (fun _ _ _ h => h) (by rfl) ?_ (by assumption) ?_
      rotate_left
      · (intro w hSw; (try dsimp only at hSw); go_simp; (try with_reducible rfl))
      (try simp only [Act.put, List.setIfInBounds_toArray, List.set_cons_zero, List.set_cons_succ])
      refine take_l 21 (v := ?_) rfl (by kernel_rfl) (by kernel_rfl) (by kernel_rfl) (fun _ _ _ h => h) (by rfl) ?_ (by assumption) ?_
      rotate_left
      · (intro w hSw; (try dsimp only at hSw); go_simp; (try with_reducible rfl))
      (try simp only [Act.put, List.setIfInBounds_toArray, List.set_cons_zero, List.set_cons_succ])
      refine take_l 22 (v := ?_) rfl (by kernel_rfl) (by kernel_rfl) (by kernel_rfl) (fun _ _ _ h => h) (by rfl) ?_ (by assumption) ?_
      rotate_left
      · (intro w hSw; (try dsimp only at hSw); go_simp; (try with_reducible rfl))
      (try simp only [Act.put, List.setIfInBounds_toArray, List.set_cons_zero, List.set_cons_succ])
      refine wpAnyH_done (by kernel_rfl) ?_ _
      rotate_left
      exact AllReadyH.nil
      exact AllReadyH.nil
      exact AllReadyH.nil
      exact AllReadyH.nil
      all_goals
        go_wp2
        go_ret
        exact ⟨rfl, HX2.out.trans (HX5.out.trans (HX7.out.trans xAD))⟩
end Go.Proofs.Ytmcmialaofckkaa
