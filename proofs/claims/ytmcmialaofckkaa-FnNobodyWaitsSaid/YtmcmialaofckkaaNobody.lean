/- FnNobodyWaits: a call that has waited long goes before all later ones that have no appointment. -/
import Derived.Test.YtmcmialaofckkaaProg
import Derived.Test.YtmcmialaofckkaaBytes
import Derived.Test.YtmcmialaofckkaaDrawTrain
import Derived.Test.YtmcmialaofckkaaComes
import Derived.Test.YtmcmialaofckkaaCouple
namespace Go.Proofs.Ytmcmialaofckkaa
open Go.RowKit
set_option linter.unusedSimpArgs false
set_option linter.unusedVariables false

def lone (cl : Int) : List (List Bt) := [[⟨77, 1, 1, 1, 1, cl⟩]]
theorem lone_ok {cl : Int} (h0 : 0 ≤ cl) (h1 : cl ≤ 2) : trainOk (lone cl) = true := by
  have : cl = 0 ∨ cl = 1 ∨ cl = 2 := by omega
  rcases this with rfl | rfl | rfl <;> decide
theorem rank_in {rows : List (List Bt)} {si bo now : Int} (hok : trainOk rows = true) (h0 : 0 ≤ si) (h1 : si ≤ now) (h2 : now ≤ 1000000) (h3 : -1 ≤ bo) (h4 : bo ≤ 1000000) :
    rankOf rows si bo now = (if bo ≠ -1 ∧ bo ≤ now then -1 else if (now - si) / 20 < classOf rows then classOf rows - (now - si) / 20 else 0) := by
  have a1 : inR si 0 1000000 = true := by simp [inR]; omega
  have a2 : inR bo (-1) 1000000 = true := by simp [inR]; omega
  have a3 : inR now si 1000000 = true := by simp [inR]; omega
  rw [rankOf, if_pos ⟨by rw [callOk, hok, a1, a2]; rfl, a3⟩]
theorem rank_free {rows : List (List Bt)} {si now : Int} (hok : trainOk rows = true) (h0 : 0 ≤ si) (h1 : si ≤ now) (h2 : now ≤ 1000000) : 0 ≤ rankOf rows si (-1) now ∧ rankOf rows si (-1) now ≤ 2 := by
  rw [rank_in hok h0 h1 h2 (by omega) (by omega), if_neg (by simp)]
  have := cls_bounds hok
  split <;> omega
theorem rank_old {rows : List (List Bt)} {si now : Int} (hok : trainOk rows = true) (h0 : 0 ≤ si) (h1 : 40 ≤ now - si) (h2 : now ≤ 1000000) : rankOf rows si (-1) now = 0 := by
  rw [rank_in hok h0 (by omega) h2 (by omega) (by omega), if_neg (by simp)]
  have := cls_bounds hok
  rw [if_neg (by omega)]
theorem rank_now {rows : List (List Bt)} {si now : Int} (hok : trainOk rows = true) (h0 : 0 ≤ si) (h1 : si ≤ now) (h2 : now ≤ 1000000) : rankOf rows si now now = -1 := by
  rw [rank_in hok h0 h1 h2 (by omega) (by omega), if_pos (by omega)]
theorem comes_old {ra rb : List (List Bt)} {sa sb now : Int} (ha : trainOk ra = true) (hb : trainOk rb = true) (h0 : 0 ≤ sa) (h1 : sa < sb) (h2 : sb ≤ now) (h3 : now ≤ 1000000) (ho : 40 ≤ now - sa) : comesBefore ra rb sa (-1) sb (-1) now = true := by
  have a := rank_old ha h0 ho h3
  have b := rank_free hb (by omega) h2 h3
  unfold comesBefore
  rw [a, if_neg (by omega)]
  split
  · simp; omega
  · rw [if_neg (by omega), if_pos (by omega)]
    simp; omega
theorem comes_now {ra rb : List (List Bt)} {sa sb now : Int} (ha : trainOk ra = true) (hb : trainOk rb = true) (h0 : 0 ≤ sa) (h1 : sa ≤ now) (h2 : 0 ≤ sb) (h3 : sb ≤ now) (h4 : now ≤ 1000000) : comesBefore rb ra sb now sa (-1) now = true ∧ comesBefore ra rb sa (-1) sb now now = false := by
  have a := rank_free ha h0 h1 h4
  have b := rank_now hb h2 h3 h4
  unfold comesBefore
  rw [b]
  constructor
  · rw [if_neg (by omega), if_pos (by omega)]
    simp; omega
  · rw [if_neg (by omega), if_pos (by omega)]
    simp; omega

theorem box4 {w : World} {B : Nat} {t : TypeId} {x0 x1 x2 x3 : Value} (h : RowAt w B t #[x0, x1, x2, x3]) : w.cell? ⟨B, 0, none⟩ = some x0 ∧ w.cell? ⟨B, 1, none⟩ = some x1 ∧ w.cell? ⟨B, 2, none⟩ = some x2 ∧ w.cell? ⟨B, 3, none⟩ = some x3 :=
  ⟨h.cell rfl, h.cell rfl, h.cell rfl, h.cell rfl⟩
theorem lone_at {w : World} {R : Nat} {cl : Int} {t1 t2 : TypeId} (h1 : RowAt w R t1 #[.int .i64 77, .int .i64 1, .int .i64 1, .int .i64 1, .int .i64 1, .int .i64 cl]) (h2 : RowAt w (R + 1) t2 #[.slice (some ⟨R, 0, none⟩) 1 1]) : RowsAt w (some ⟨R + 1, 0, none⟩) (lone cl) := fun k hk => by
  have hk0 : k = 0 := by simpa [lone] using hk
  subst hk0
  refine ⟨R + 1, 0, some ⟨R, 0, none⟩, 1, rfl, h2.cell rfl, ⟨(show 1 ≤ maxLen by decide), fun h => by cases h⟩, fun j hj => ?_⟩
  have hj0 : j = 0 := by simpa [lone] using hj
  subst hj0
  refine ⟨R, 0, rfl, fun j v hv => ?_⟩
  rw [Nat.zero_mul, Nat.add_zero, Nat.zero_add]
  exact h1.cell (by simpa [bCells, lone] using hv)

set_option maxHeartbeats 8000000 in
set_option maxRecDepth 100000 in
theorem nobody_any (a : Option Addr) (n c : Nat) (xs : List Int) (w : World) (hn : n = xs.length) (hs : n ≤ maxLen) (hf : BytesAt w a xs) :
    Calls Try.prog 3 #[.slice a n c] w fun e w' => e = .returned (.bool true) ∧ Ext w w' := by
  have HS := Lib.hid hs
  have HF := Lib.hid hf; clear hf
  have HN := Lib.hid hn; clear hn
  by_cases hsz : (1048576 : Int) < n
  · have hd : decide ((1048576 : Int) < n) = true := by simpa using hsz
    go_enter Try.func3, Try.ntmps3
    go_wp2_with ((go_at_call 15; refine (big_any _ _ _ _ HS.out).mono ?_; rintro e w' ⟨rfl, rfl⟩))
    go_ret
    exact ⟨rfl, by (repeat' (first | (with_reducible exact Ext.refl _) | (with_reducible assumption) | (with_reducible refine Ext.alloc ?_ _) | (with_reducible refine Ext.drewN ?_ _) | (with_reducible refine Ext.drew ?_) | (with_reducible refine Ext.setCell ?_ ?_ _) | (with_reducible exact Nat.le_refl _) | (with_reducible exact Nat.le_succ _) | (with_reducible refine Ext.trans ?_ (by assumption)) | (simp; done) | (simp; omega)))⟩
  have hs2 : n ≤ 1048576 := by omega
  have hd : decide ((1048576 : Int) < n) = false := by simpa using hsz
  go_enter Try.func3, Try.ntmps3
  go_wp2_with fail
  refine (big_any _ _ _ _ HS.out).mono ?_
  rintro e w1 ⟨rfl, rfl⟩
  go_wp2_with fail
  refine (DrawTrain_any _ _ _ xs _ HN.out hs2 HF.out).mono ?_
  rintro e w2 ⟨u, a2, c2, k, rows, hk, hgood, rfl, how, hx2⟩
  have HX2 := Lib.hid hx2; clear hx2
  have HR := Lib.hid how.rows
  have hok := hgood.ok (by decide) (by decide) hk.1 (by omega)
  have hlen : rows.length ≤ 4 := by have := hgood.small.1; omega
  have HL := Lib.hid (show rows.flatten.length ≤ 1048576 by rw [hgood.1]; omega)
  clear how hgood
  obtain ⟨m, hm⟩ : ∃ m, rows.length = m := ⟨_, rfl⟩
  rw [hm] at hlen ⊢
  have HM := Lib.hid hm.symm; clear hm
  go_wp2_with fail
  refine (at_any _ _ _ xs 0 _ HN.out hs2 (by decide) (by decide) (HF.out.ext HX2.out)).mono ?_
  rintro e w3 ⟨s, hs0, hs255, rfl, rfl⟩
  go_wp2_with fail
  have HRA := Lib.hid ((RowAt.new w2 30 #[.bool u, .slice a2 m c2, .int .i64 s, .int .i64 (-1)]).ext ((Ext.refl _).alloc (.cells #[.bool u, .slice a2 m c2, .int .i64 s, .int .i64 (-1)] 30)))
  have HRB := Lib.hid (RowAt.new (w2.alloc (.cells #[.bool u, .slice a2 m c2, .int .i64 s, .int .i64 (-1)] 30)) 30 #[.bool u, .slice a2 m c2, .int .i64 s, .int .i64 (-1)])
  have HX3 := Lib.hid (((Ext.refl w2).alloc (.cells #[.bool u, .slice a2 m c2, .int .i64 s, .int .i64 (-1)] 30)).alloc (.cells #[.bool u, .slice a2 m c2, .int .i64 s, .int .i64 (-1)] 30))
  (try simp only [World.size_alloc] at HRB)
  obtain ⟨w3, hw3⟩ : ∃ w3, (w2.alloc (.cells #[.bool u, .slice a2 m c2, .int .i64 s, .int .i64 (-1)] 30)).alloc (.cells #[.bool u, .slice a2 m c2, .int .i64 s, .int .i64 (-1)] 30) = w3 := ⟨_, rfl⟩
  rw [hw3] at HRA HRB HX3
  rw [hw3]
  clear hw3
  obtain ⟨A, hA⟩ : ∃ A, w2.heap.size = A := ⟨_, rfl⟩
  have hAle : w2.heap.size ≤ A := by omega
  rw [hA] at HRA HRB ⊢
  clear hA
  have HF3 := Lib.hid (HF.out.ext (HX2.out.trans HX3.out))
  refine wp_region_held_drew (S := (fun w' => w'.cell? ⟨A, 1, none⟩ = some (.slice a2 m c2) ∧ w'.cell? ⟨A, 2, none⟩ = some (.int .i64 s))) (by kernel_rfl) ?_ (fun hH0 => ?_)
  · (try dsimp only)
    (first | exact ⟨HRA.out.cell rfl, HRA.out.cell rfl⟩ | exact ⟨(HRA.out.drewN 1).cell rfl, (HRA.out.drewN 1).cell rfl⟩ | exact ⟨((show RowAt w3.drew A _ _ from HRA.out).other (by dsimp only; omega) _).cell rfl, ((show RowAt w3.drew A _ _ from HRA.out).other (by dsimp only; omega) _).cell rfl⟩)
  refine take_l 0 (v := ?_) rfl (by kernel_rfl) (by kernel_rfl) (by kernel_rfl) (fun _ _ _ h => h) (by rfl) ?_ (by assumption) ?_
  rotate_left
  · (intro w hSw; (try dsimp only at hSw); go_simp; (try with_reducible rfl))
  (try simp only [Act.put, List.setIfInBounds_toArray, List.set_cons_zero, List.set_cons_succ])
  refine take_l 1 (v := ?_) rfl (by kernel_rfl) (by kernel_rfl) (by kernel_rfl) (fun _ _ _ h => h) (by rfl) ?_ (by assumption) ?_
  rotate_left
  · (intro w hSw; (try dsimp only at hSw); go_simp; (try with_reducible rfl))
  (try simp only [Act.put, List.setIfInBounds_toArray, List.set_cons_zero, List.set_cons_succ])
  refine take_l 2 (v := ?_) rfl (by kernel_rfl) (by kernel_rfl) (by kernel_rfl) (fun _ _ _ h => h) (by rfl) ?_ (by assumption) ?_
  rotate_left
  · (intro w hSw; (try dsimp only at hSw); go_simp; (try with_reducible rfl))
  (try simp only [Act.put, List.setIfInBounds_toArray, List.set_cons_zero, List.set_cons_succ])
  refine take_l 3 (v := ?_) rfl (by kernel_rfl) (by kernel_rfl) (by kernel_rfl) (fun _ _ _ h => h) (by rfl) ?_ (by assumption) ?_
  rotate_left
  · (intro w hSw; (try dsimp only at hSw); go_simp; (try with_reducible rfl))
  (try simp only [Act.put, List.setIfInBounds_toArray, List.set_cons_zero, List.set_cons_succ])
  refine wpAnyH_ready (rs := [4]) (by kernel_rfl) (by simp) ?_
  refine cons_l (i := 4) rfl (fun K hK => ?_) ?_
  go_simp; (go_at_call 17; with_reducible refine (at_any _ _ _ xs 1 _ HN.out hs2 (by decide) (by decide) (HF3.out.ext (by (repeat' (first | (with_reducible exact Ext.refl _) | (with_reducible assumption) | (with_reducible refine Ext.alloc ?_ _) | (with_reducible refine Ext.drewN ?_ _) | (with_reducible refine Ext.drew ?_) | (with_reducible refine Ext.setCell ?_ ?_ _) | (with_reducible exact Nat.le_refl _) | (with_reducible exact Nat.le_succ _) | (with_reducible refine Ext.trans ?_ (by assumption)) | (simp; done) | (simp; omega)))))).mono ?_); rintro e w' ⟨s1, s10, s11, rfl, rfl⟩
  refine hK.out _ _ ?_ (fun hH1 => ?_)
  · (try dsimp only)
    (first | exact ⟨HRA.out.cell rfl, HRA.out.cell rfl⟩ | exact ⟨(HRA.out.drewN 1).cell rfl, (HRA.out.drewN 1).cell rfl⟩ | exact ⟨((show RowAt w3.drew A _ _ from HRA.out).other (by dsimp only; omega) _).cell rfl, ((show RowAt w3.drew A _ _ from HRA.out).other (by dsimp only; omega) _).cell rfl⟩)
  clear hK K hH0
  (try simp only [Act.put, List.setIfInBounds_toArray, List.set_cons_zero, List.set_cons_succ])
  refine take_l 5 (v := ?_) rfl (by kernel_rfl) (by kernel_rfl) (by kernel_rfl) (fun _ _ _ h => h) (by rfl) ?_ (by assumption) ?_
  rotate_left
  · (intro w hSw; (try dsimp only at hSw); go_simp; (try with_reducible rfl))
  (try simp only [Act.put, List.setIfInBounds_toArray, List.set_cons_zero, List.set_cons_succ])
  refine take_l 6 (v := ?_) rfl (by kernel_rfl) (by kernel_rfl) (by kernel_rfl) (fun _ _ _ h => h) (by rfl) ?_ (by assumption) ?_
  rotate_left
  · (intro w hSw; (try dsimp only at hSw); go_simp; (try with_reducible rfl))
  (try simp only [Act.put, List.setIfInBounds_toArray, List.set_cons_zero, List.set_cons_succ])
  refine wpAnyH_ready (rs := [7]) (by kernel_rfl) (by simp) ?_
  refine cons_l (i := 7) rfl (fun K hK => ?_) ?_
  (have k0 := HRB.out.cell (j := 2) (v := .int .i64 s) rfl; have k1 := HRB.out.frozen 2; have k2 := HRB.out.lt); go_simp
  refine hK.out _ _ ?_ (fun hH2 => ?_)
  · (try dsimp only)
    (first | exact ⟨HRA.out.cell rfl, HRA.out.cell rfl⟩ | exact ⟨(HRA.out.drewN 1).cell rfl, (HRA.out.drewN 1).cell rfl⟩ | exact ⟨((show RowAt w3.drew A _ _ from HRA.out).other (by dsimp only; omega) _).cell rfl, ((show RowAt w3.drew A _ _ from HRA.out).other (by dsimp only; omega) _).cell rfl⟩)
  clear hK K hH1
  (try simp only [Act.put, List.setIfInBounds_toArray, List.set_cons_zero, List.set_cons_succ])
  refine wpAnyH_done (by kernel_rfl) ?_ _
  rotate_left
  exact AllReadyH.nil
  exact AllReadyH.nil
  have hw1 : IntKind.i64.wrap (IntKind.i64.wrap (s + 1) + s1) = s + 1 + s1 := by rw [IntWalk.i64_in (s + 1) (by omega), IntWalk.i64_in _ (by omega)]
  rw [hw1]
  clear hw1 hH2
  obtain ⟨t, ht⟩ : ∃ t, s + 1 + s1 = t := ⟨_, rfl⟩
  rw [ht]
  have HRA4 := Lib.hid ((show RowAt w3.drew A _ _ from HRA.out).other (p := ⟨A + 1, 2, none⟩) (by dsimp only; omega) (.int .i64 t))
  have HRB4 := Lib.hid ((show RowAt w3.drew (A + 1) _ _ from HRB.out).set 2 (.int .i64 t))
  have HX4 := Lib.hid (HX3.out.drew.setCell (p := ⟨A + 1, 2, none⟩) (by dsimp only; omega) (.int .i64 t))
  refine world_as fun w4 hww => ?_
  have hw4 : w4 = (w3.drew).setCell ⟨A + 1, 2, none⟩ (.int .i64 t) := hww
  clear hww
  rw [← hw4] at HRA4 HRB4 HX4
  clear hw4 HRA HRB HX3 HF3 k0 k1 k2
  have HF4 := Lib.hid (HF.out.ext (HX2.out.trans HX4.out))
  (try simp only [List.setIfInBounds_toArray, List.set_cons_zero, List.set_cons_succ] at HRB4)
  go_wp2_with fail
  refine wp_region_held_drew (S := (fun w' => w'.cell? ⟨A + 1, 2, none⟩ = some (.int .i64 t))) (by kernel_rfl) ?_ (fun hH0 => ?_)
  · (try dsimp only)
    (first | exact HRB4.out.cell rfl | exact (HRB4.out.drewN 1).cell rfl)
  refine take_l 0 (v := ?_) rfl (by kernel_rfl) (by kernel_rfl) (by kernel_rfl) (fun _ _ _ h => h) (by rfl) ?_ (by assumption) ?_
  rotate_left
  · (intro w hSw; (try dsimp only at hSw); go_simp; (try with_reducible rfl))
  (try simp only [Act.put, List.setIfInBounds_toArray, List.set_cons_zero, List.set_cons_succ])
  refine take_l 1 (v := ?_) rfl (by kernel_rfl) (by kernel_rfl) (by kernel_rfl) (fun _ _ _ h => h) (by rfl) ?_ (by assumption) ?_
  rotate_left
  · (intro w hSw; (try dsimp only at hSw); go_simp; (try with_reducible rfl))
  (try simp only [Act.put, List.setIfInBounds_toArray, List.set_cons_zero, List.set_cons_succ])
  refine take_l 2 (v := ?_) rfl (by kernel_rfl) (by kernel_rfl) (by kernel_rfl) (fun _ _ _ h => h) (by rfl) ?_ (by assumption) ?_
  rotate_left
  · (intro w hSw; (try dsimp only at hSw); go_simp; (try with_reducible rfl))
  (try simp only [Act.put, List.setIfInBounds_toArray, List.set_cons_zero, List.set_cons_succ])
  refine wpAnyH_ready (rs := [3]) (by kernel_rfl) (by simp) ?_
  refine cons_l (i := 3) rfl (fun K hK => ?_) ?_
  go_simp; (go_at_call 17; with_reducible refine (at_any _ _ _ xs 2 _ HN.out hs2 (by decide) (by decide) (HF4.out.ext (by (repeat' (first | (with_reducible exact Ext.refl _) | (with_reducible assumption) | (with_reducible refine Ext.alloc ?_ _) | (with_reducible refine Ext.drewN ?_ _) | (with_reducible refine Ext.drew ?_) | (with_reducible refine Ext.setCell ?_ ?_ _) | (with_reducible exact Nat.le_refl _) | (with_reducible exact Nat.le_succ _) | (with_reducible refine Ext.trans ?_ (by assumption)) | (simp; done) | (simp; omega)))))).mono ?_); rintro e w' ⟨s2, hs20, hs22, rfl, rfl⟩
  refine hK.out _ _ ?_ (fun hH1 => ?_)
  · (try dsimp only)
    (first | exact HRB4.out.cell rfl | exact (HRB4.out.drewN 1).cell rfl)
  clear hK K hH0
  (try simp only [Act.put, List.setIfInBounds_toArray, List.set_cons_zero, List.set_cons_succ])
  refine take_l 4 (v := ?_) rfl (by kernel_rfl) (by kernel_rfl) (by kernel_rfl) (fun _ _ _ h => h) (by rfl) ?_ (by assumption) ?_
  rotate_left
  · (intro w hSw; (try dsimp only at hSw); go_simp; (try with_reducible rfl))
  (try simp only [Act.put, List.setIfInBounds_toArray, List.set_cons_zero, List.set_cons_succ])
  refine take_l 5 (v := ?_) rfl (by kernel_rfl) (by kernel_rfl) (by kernel_rfl) (fun _ _ _ h => h) (by rfl) ?_ (by assumption) ?_
  rotate_left
  · (intro w hSw; (try dsimp only at hSw); go_simp; (try with_reducible rfl))
  (try simp only [Act.put, List.setIfInBounds_toArray, List.set_cons_zero, List.set_cons_succ])
  refine wpAnyH_done (by kernel_rfl) ?_ _
  rotate_left
  exact AllReadyH.nil
  rw [IntWalk.i64_in _ (by omega)]
  obtain ⟨now, hnow⟩ : ∃ now, t + s2 = now := ⟨_, rfl⟩
  rw [hnow]
  have HRA5 := Lib.hid (HRA4.out.drewN 1)
  have HRB5 := Lib.hid (HRB4.out.drewN 1)
  have HX5 := Lib.hid (HX4.out.drewN 1)
  refine world_as fun w5 hww => ?_
  have hw5 : w5 = w4.drewN 1 := hww
  clear hww
  rw [← hw5] at HRA5 HRB5 HX5
  clear hw5 HRA4 HRB4 HX4 HF4
  have b0 := HRB5.out.cell (j := 0) (v := .bool u) rfl
  have b1 := HRB5.out.cell (j := 1) (v := .slice a2 m c2) rfl
  have b2 := HRB5.out.cell (j := 2) (v := .int .i64 t) rfl
  have b3 := HRB5.out.cell (j := 3) (v := .int .i64 (-1)) rfl
  have HF5 := Lib.hid (HF.out.ext (HX2.out.trans HX5.out))
  go_wp2_with fail
  have HX6 := Lib.hid (HX5.out.alloc (.cells #[.bool u, .slice a2 m c2, .int .i64 t, .int .i64 now] 30))
  refine (at_any _ _ _ xs 3 _ HN.out hs2 (by decide) (by decide) (HF.out.ext (HX2.out.trans (HX5.out.trans (by (repeat' (first | (with_reducible exact Ext.refl _) | (with_reducible assumption) | (with_reducible refine Ext.alloc ?_ _) | (with_reducible refine Ext.drewN ?_ _) | (with_reducible refine Ext.drew ?_) | (with_reducible refine Ext.setCell ?_ ?_ _) | (with_reducible exact Nat.le_refl _) | (with_reducible exact Nat.le_succ _) | (with_reducible refine Ext.trans ?_ (by assumption)) | (simp; done) | (simp; omega)))))))).mono ?_
  rintro e w6 ⟨cl, hcl0, hcl255, rfl, rfl⟩
  have hcm0 : 0 ≤ cl % 3 := by omega
  have hcm2 : cl % 3 ≤ 2 := by omega
  have EXS := Lib.hid ((((Ext.refl w5).alloc (.cells #[.bool false, .slice (some ⟨w5.heap.size + 1 + 1, 0, none⟩) 1 1, .int .i64 t, .int .i64 now] 30)).alloc (.cells #[.int .i64 77, .int .i64 1, .int .i64 1, .int .i64 1, .int .i64 1, .int .i64 (cl % 3)] 32)).alloc (.cells #[.slice (some ⟨w5.heap.size + 1, 0, none⟩) 1 1] 33))
  have HRBS := Lib.hid (HRB5.out.ext EXS.out)
  have HRAS := Lib.hid (HRA5.out.ext EXS.out)
  have b4 := HRBS.out.frozen 0
  have b5 := HRBS.out.frozen 1
  have b6 := HRBS.out.cell (j := 0) (v := .bool u) rfl
  have b7 := HRBS.out.cell (j := 1) (v := .slice a2 m c2) rfl
  have a0 := HRAS.out.cell (j := 0) (v := .bool u) rfl
  have a1 := HRAS.out.cell (j := 1) (v := .slice a2 m c2) rfl
  have a2' := HRAS.out.cell (j := 2) (v := .int .i64 s) rfl
  have a3 := HRAS.out.cell (j := 3) (v := .int .i64 (-1)) rfl
  have hA1 := HRBS.out.lt
  have HXS := Lib.hid ((RowAt.new w5 30 #[.bool false, .slice (some ⟨w5.heap.size + 1 + 1, 0, none⟩) 1 1, .int .i64 t, .int .i64 now]).ext (((Ext.refl _).alloc (.cells #[.int .i64 77, .int .i64 1, .int .i64 1, .int .i64 1, .int .i64 1, .int .i64 (cl % 3)] 32)).alloc (.cells #[.slice (some ⟨w5.heap.size + 1, 0, none⟩) 1 1] 33)))
  have HBTS := Lib.hid ((RowAt.new (w5.alloc (.cells #[.bool false, .slice (some ⟨w5.heap.size + 1 + 1, 0, none⟩) 1 1, .int .i64 t, .int .i64 now] 30)) 32 #[.int .i64 77, .int .i64 1, .int .i64 1, .int .i64 1, .int .i64 1, .int .i64 (cl % 3)]).ext ((Ext.refl _).alloc (.cells #[.slice (some ⟨w5.heap.size + 1, 0, none⟩) 1 1] 33)))
  have HRWS := Lib.hid (RowAt.new ((w5.alloc (.cells #[.bool false, .slice (some ⟨w5.heap.size + 1 + 1, 0, none⟩) 1 1, .int .i64 t, .int .i64 now] 30)).alloc (.cells #[.int .i64 77, .int .i64 1, .int .i64 1, .int .i64 1, .int .i64 1, .int .i64 (cl % 3)] 32)) 33 #[.slice (some ⟨w5.heap.size + 1, 0, none⟩) 1 1])
  have hs5 := HRB5.out.lt
  simp only [World.size_alloc] at HBTS HRWS
  have st : ∀ (w : World) (B : Nat) (t : TypeId) (c : Array Value) (x y : Value), B ≠ A + 1 → RowAt w B t c → RowAt ((w.setCell ⟨A + 1, 0, none⟩ x).setCell ⟨A + 1, 1, none⟩ y) B t c := fun w B t c x y hne h => (h.other (p := ⟨A + 1, 0, none⟩) (by dsimp only; omega) x).other (p := ⟨A + 1, 1, none⟩) (by dsimp only; omega) y
  have HXF := Lib.hid (st _ _ _ _ (.bool false) (.slice (some ⟨w5.heap.size + 1 + 1, 0, none⟩) 1 1) (by omega) HXS.out)
  have HBTF := Lib.hid (st _ _ _ _ (.bool false) (.slice (some ⟨w5.heap.size + 1 + 1, 0, none⟩) 1 1) (by omega) HBTS.out)
  have HRWF := Lib.hid (st _ _ _ _ (.bool false) (.slice (some ⟨w5.heap.size + 1 + 1, 0, none⟩) 1 1) (by omega) HRWS.out)
  have HAF := Lib.hid (st _ _ _ _ (.bool false) (.slice (some ⟨w5.heap.size + 1 + 1, 0, none⟩) 1 1) (by omega) HRAS.out)
  have HLO := Lib.hid (lone_at HBTF.out HRWF.out)
  have HBF := Lib.hid ((HRBS.out.set 0 (.bool false)).set 1 (.slice (some ⟨w5.heap.size + 1 + 1, 0, none⟩) 1 1))
  (try simp only [List.setIfInBounds_toArray, List.set_cons_zero, List.set_cons_succ] at HBF)
  have HXF2 := Lib.hid (((HX5.out.trans EXS.out).setCell (p := ⟨A + 1, 0, none⟩) (by dsimp only; omega) (.bool false)).setCell (p := ⟨A + 1, 1, none⟩) (by dsimp only; omega) (.slice (some ⟨w5.heap.size + 1 + 1, 0, none⟩) 1 1))
  clear st HXS HBTS HRWS HBTF HRWF
  go_wp2_with fail
  obtain ⟨wF, hwF⟩ : ∃ wF, ((((w5.alloc (.cells #[.bool false, .slice (some ⟨w5.heap.size + 1 + 1, 0, none⟩) 1 1, .int .i64 t, .int .i64 now] 30)).alloc (.cells #[.int .i64 77, .int .i64 1, .int .i64 1, .int .i64 1, .int .i64 1, .int .i64 (cl % 3)] 32)).alloc (.cells #[.slice (some ⟨w5.heap.size + 1, 0, none⟩) 1 1] 33)).setCell ⟨A + 1, 0, none⟩ (.bool false)).setCell ⟨A + 1, 1, none⟩ (.slice (some ⟨w5.heap.size + 1 + 1, 0, none⟩) 1 1) = wF := ⟨_, rfl⟩
  rw [hwF] at HXF HAF HLO HBF HXF2
  rw [hwF]
  clear hwF HRAS HRBS EXS HX6 HX5 HRA5 HRB5 HF5 a0 a1 a2' a3 b0 b1 b2 b3 b4 b5 b6 b7 hA1 hs5
  have HRF := Lib.hid (HR.out.ext HXF2.out)
  obtain ⟨L, hL⟩ : ∃ L, w5.heap.size = L := ⟨_, rfl⟩
  rw [hL] at HXF HLO HBF ⊢
  clear hL
  have OKA := Lib.hid (show callOk rows s (-1) = true by rw [callOk, hok]; simp [inR]; omega)
  have hlo := lone_ok hcm0 hcm2
  have OKB := Lib.hid (show callOk (lone (cl % 3)) t (-1) = true by rw [callOk, hlo]; simp [inR]; omega)
  have CNW := Lib.hid (comes_now (now := now) (sa := s) (sb := t) hok hlo (by omega) (by omega) (by omega) (by omega) (by omega))
  have hold : 40 ≤ now - s → rankOf rows s (-1) now = 0 ∧ comesBefore rows (lone (cl % 3)) s (-1) t (-1) now = true := fun ho => ⟨rank_old hok (by omega) (by omega) (by omega), comes_old hok hlo (by omega) (by omega) (by omega) (by omega) (by omega)⟩
  have HLL := Lib.hid (show (lone (cl % 3)).flatten.length ≤ 1048576 by simp [lone])
  have HLN := Lib.hid (show 1 = (lone (cl % 3)).length from rfl)
  generalize lone (cl % 3) = lo at *
  have hwn : IntKind.i64.wrap (now - s) = now - s := IntWalk.i64_in _ (by omega)
  by_cases ho : 40 ≤ now - s
  · have hdo : decide (40 ≤ now - s) = true := by simpa using ho
    obtain ⟨rk, co⟩ := hold ho
    have RK := Lib.hid rk
    have CO := Lib.hid co
    clear rk co hold
    refine (implCallOk_any _ _ _ _ _ _ rows _ HM.out (by omega) HL.out HRF.out).mono ?_
    rintro e w7 ⟨rfl, h7⟩
    rw [OKA.out]
    obtain ⟨a0, a1, a2', a3⟩ := box4 (HAF.out.ext h7)
    obtain ⟨b0, b1, b2, b3⟩ := box4 (HBF.out.ext h7)
    obtain ⟨x0, x1, x2, x3⟩ := box4 (HXF.out.ext h7)
    go_wp2_with fail
    refine (implCallOk_any _ _ _ _ _ _ lo _ HLN.out (by decide) HLL.out (HLO.out.ext h7)).mono ?_
    rintro e w8 ⟨rfl, h8⟩
    rw [OKB.out]
    have h28 := h7.trans h8
    obtain ⟨a0, a1, a2', a3⟩ := box4 (HAF.out.ext h28)
    obtain ⟨b0, b1, b2, b3⟩ := box4 (HBF.out.ext h28)
    obtain ⟨x0, x1, x2, x3⟩ := box4 (HXF.out.ext h28)
    clear h7 h8
    go_wp2_with fail
    refine (implComesBefore_any _ _ _ _ _ _ _ _ s (-1) t (-1) now rows lo _ HM.out (by omega) HL.out (HRF.out.ext h28) HLN.out (by decide) HLL.out (HLO.out.ext h28)).mono ?_
    rintro e w9 ⟨rfl, h9⟩
    rw [CO.out]
    have h29 := h28.trans h9
    obtain ⟨a0, a1, a2', a3⟩ := box4 (HAF.out.ext h29)
    obtain ⟨b0, b1, b2, b3⟩ := box4 (HBF.out.ext h29)
    obtain ⟨x0, x1, x2, x3⟩ := box4 (HXF.out.ext h29)
    clear h9
    go_wp2_with fail
    refine (implComesBefore_any _ _ _ _ _ _ _ _ t now s (-1) now lo rows _ HLN.out (by decide) HLL.out (HLO.out.ext h29) HM.out (by omega) HL.out (HRF.out.ext h29)).mono ?_
    rintro e w10 ⟨rfl, h10⟩
    rw [CNW.out.1]
    have h210 := h29.trans h10
    obtain ⟨a0, a1, a2', a3⟩ := box4 (HAF.out.ext h210)
    obtain ⟨b0, b1, b2, b3⟩ := box4 (HBF.out.ext h210)
    obtain ⟨x0, x1, x2, x3⟩ := box4 (HXF.out.ext h210)
    clear h10
    go_wp2_with fail
    refine (implComesBefore_any _ _ _ _ _ _ _ _ s (-1) t now now rows lo _ HM.out (by omega) HL.out (HRF.out.ext h210) HLN.out (by decide) HLL.out (HLO.out.ext h210)).mono ?_
    rintro e w11 ⟨rfl, h11⟩
    rw [CNW.out.2]
    have h211 := h210.trans h11
    obtain ⟨a0, a1, a2', a3⟩ := box4 (HAF.out.ext h211)
    obtain ⟨b0, b1, b2, b3⟩ := box4 (HBF.out.ext h211)
    obtain ⟨x0, x1, x2, x3⟩ := box4 (HXF.out.ext h211)
    clear h11
    go_wp2_with fail
    refine (implRankOf_any _ _ _ _ s (-1) now rows _ HM.out (by omega) HL.out (HRF.out.ext h211)).mono ?_
    rintro e w12 ⟨rfl, h12⟩
    rw [RK.out]
    go_wp2
    go_ret
    exact ⟨rfl, HX2.out.trans (HXF2.out.trans (h211.trans h12))⟩
  · have hdo : decide (40 ≤ now - s) = false := by simpa using ho
    clear hold
    refine (implCallOk_any _ _ _ _ _ _ rows _ HM.out (by omega) HL.out HRF.out).mono ?_
    rintro e w7 ⟨rfl, h7⟩
    rw [OKA.out]
    obtain ⟨a0, a1, a2', a3⟩ := box4 (HAF.out.ext h7)
    obtain ⟨b0, b1, b2, b3⟩ := box4 (HBF.out.ext h7)
    obtain ⟨x0, x1, x2, x3⟩ := box4 (HXF.out.ext h7)
    go_wp2_with fail
    refine (implCallOk_any _ _ _ _ _ _ lo _ HLN.out (by decide) HLL.out (HLO.out.ext h7)).mono ?_
    rintro e w8 ⟨rfl, h8⟩
    rw [OKB.out]
    have h28 := h7.trans h8
    obtain ⟨a0, a1, a2', a3⟩ := box4 (HAF.out.ext h28)
    obtain ⟨b0, b1, b2, b3⟩ := box4 (HBF.out.ext h28)
    obtain ⟨x0, x1, x2, x3⟩ := box4 (HXF.out.ext h28)
    clear h7 h8
    go_wp2_with fail
    refine (implComesBefore_any _ _ _ _ _ _ _ _ t now s (-1) now lo rows _ HLN.out (by decide) HLL.out (HLO.out.ext h28) HM.out (by omega) HL.out (HRF.out.ext h28)).mono ?_
    rintro e w9 ⟨rfl, h9⟩
    rw [CNW.out.1]
    have h29 := h28.trans h9
    obtain ⟨a0, a1, a2', a3⟩ := box4 (HAF.out.ext h29)
    obtain ⟨b0, b1, b2, b3⟩ := box4 (HBF.out.ext h29)
    obtain ⟨x0, x1, x2, x3⟩ := box4 (HXF.out.ext h29)
    clear h9
    go_wp2_with fail
    refine (implComesBefore_any _ _ _ _ _ _ _ _ s (-1) t now now rows lo _ HM.out (by omega) HL.out (HRF.out.ext h29) HLN.out (by decide) HLL.out (HLO.out.ext h29)).mono ?_
    rintro e w10 ⟨rfl, h10⟩
    rw [CNW.out.2]
    have h210 := h29.trans h10
    obtain ⟨a0, a1, a2', a3⟩ := box4 (HAF.out.ext h210)
    obtain ⟨b0, b1, b2, b3⟩ := box4 (HBF.out.ext h210)
    obtain ⟨x0, x1, x2, x3⟩ := box4 (HXF.out.ext h210)
    clear h10
    go_wp2
    go_ret
    exact ⟨rfl, HX2.out.trans (HXF2.out.trans h210)⟩
end Go.Proofs.Ytmcmialaofckkaa
