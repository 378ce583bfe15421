/- FnCoupled: trains that are coupled have the length of both, and can be divided again. -/
import Derived.Test.YtjjikcjhnglkaaaDoorProg
import Derived.Test.YtjjikcjhnglkaaaDoorBytes
import Derived.Test.YtjjikcjhnglkaaaDoorDrawTrain
import Derived.Test.YtjjikcjhnglkaaaDoorDivide
import Derived.Test.YtjjikcjhnglkaaaDoorCouple
import Derived.Test.YtjjikcjhnglkaaaDoorTrainWid
import Derived.Test.YtjjikcjhnglkaaaDoorTrainMin
import Derived.Test.YtjjikcjhnglkaaaDoorFormatS
import Derived.Test.YtjjikcjhnglkaaaDoorReg
namespace Go.Proofs.YtjjikcjhnglkaaaDoor
open Go.RowKit
set_option linter.unusedSimpArgs false
set_option linter.unusedVariables false

/-! ### The plain law -/
def twoRows : List (List Bt) := [[⟨90, 7, 3, 40, 1, 0⟩], [⟨91, 5, 20, 4, 9, 2⟩]]
theorem lenGo_add (s : Int) (ra rb : List (List Bt)) : lenGo s (ra ++ rb) = lenGo (lenGo s ra) rb := List.foldl_append
theorem widGo_add (s : Int) (ra rb : List (List Bt)) : widGo s (ra ++ rb) = widGo (widGo s ra) rb := List.foldl_append
theorem draGo_add (s : Int) (ra rb : List Bt) : draGo s (ra ++ rb) = draGo (draGo s ra) rb := List.foldl_append
theorem spdGo_add (s : Int) (ra rb : List Bt) : spdGo s (ra ++ rb) = spdGo (spdGo s ra) rb := List.foldl_append
theorem clsGo_add (s : Int) (ra rb : List Bt) : clsGo s (ra ++ rb) = clsGo (clsGo s ra) rb := List.foldl_append
theorem draGo_le {m : Int} : ∀ (bs : List Bt) (s : Int), s ≤ m → (∀ b ∈ bs, b.dra ≤ m) → draGo s bs ≤ m
  | [], _, h, _ => h
  | b :: bs, s, h, hb => by
    have h1 := hb b (by simp)
    exact draGo_le bs (if s < b.dra then b.dra else s) (by split <;> omega) (fun c hc => hb c (by simp [hc]))
theorem spdGo_ge {m : Int} : ∀ (bs : List Bt) (s : Int), m ≤ s → (∀ b ∈ bs, m ≤ b.spd) → m ≤ spdGo s bs
  | [], _, h, _ => h
  | b :: bs, s, h, hb => by
    have h1 := hb b (by simp)
    exact spdGo_ge bs (if b.spd < s then b.spd else s) (by split <;> omega) (fun c hc => hb c (by simp [hc]))
theorem clsGo_ge {m : Int} : ∀ (bs : List Bt) (s : Int), m ≤ s → (∀ b ∈ bs, m ≤ b.cls) → m ≤ clsGo s bs
  | [], _, h, _ => h
  | b :: bs, s, h, hb => by
    have h1 := hb b (by simp)
    exact clsGo_ge bs (if b.cls < s then b.cls else s) (by split <;> omega) (fun c hc => hb c (by simp [hc]))
structure Coupled (u : Bool) (k : Nat) (ra : List (List Bt)) : Prop where
  cou : couRes u u ra twoRows = (u, ra ++ twoRows, true)
  div : divRes u (ra ++ twoRows) (ra.length : Int) = (u, ra, twoRows, true)
  no : couRes u u ra ra = (false, [], false)
  ok : trainOk (ra ++ twoRows) = true
  len : lengthOf (ra ++ twoRows) = lengthOf ra + 12
  wid : 20 ≤ widthOf (ra ++ twoRows)
  dra : draughtOf (ra ++ twoRows) = 40
  spd : speedOf (ra ++ twoRows) = 1
  cls : classOf (ra ++ twoRows) = 0
  ids : (idsOf (ra ++ twoRows)).length = (idsOf ra).length + 2
theorem coupled_all (u : Bool) {k : Nat} {ra : List (List Bt)} (hg : GoodAcc 1 k ra) (h1 : 1 ≤ k) (h4 : k ≤ 4) : Coupled u k ra := by
  have hok := hg.ok (by decide) (by decide) h1 (by omega)
  have hb : ∀ b ∈ ra.flatten, (1 ≤ b.id ∧ b.id ≤ 4) ∧ b.dra ≤ 30 ∧ 1 ≤ b.spd ∧ 0 ≤ b.cls := fun b hb => by
    obtain ⟨j, hj, rfl⟩ := List.getElem_of_mem hb
    have h := hg.2.2 j hj
    have hj2 := hj
    rw [hg.1] at hj2
    have := h.1
    have := h.2.2.2.1
    have := h.2.2.2.2.1
    have := h.2.2.2.2.2
    omega
  have hfull : ∀ r ∈ ra ++ twoRows, r.length ≠ 0 := fun r hr => by
    rcases List.mem_append.1 hr with h | h
    · exact hg.2.1 r h
    · have : ∀ r ∈ twoRows, r.length ≠ 0 := by decide
      exact this r h
  have hfl : (ra ++ twoRows).flatten = ra.flatten ++ [⟨90, 7, 3, 40, 1, 0⟩, ⟨91, 5, 20, 4, 9, 2⟩] := by rw [List.flatten_append]; rfl
  have hnot : ∀ v : Int, 4 < v → v ∉ ra.flatten.map Bt.id := fun v hv hm => by
    obtain ⟨b, hbm, rfl⟩ := List.mem_map.1 hm
    have := hb b hbm
    omega
  have hokt : trainOk (ra ++ twoRows) = true := by
    rw [trainOk_full hfull, hfl, List.length_append, hg.1, boatsGo_append, (trainOk_true hok).2.2.2.2.2]
    have n90 : (ra.flatten.map Bt.id).contains (90 : Int) = false := by simpa using hnot 90 (by decide)
    have n91 : (ra.flatten.map Bt.id ++ [90]).contains (91 : Int) = false := by simpa using hnot 91 (by decide)
    simp only [boatsGo, List.nil_append, n90, n91]
    simp [inR, bOk, boatOk]
    omega
  obtain ⟨b0, r, rs, hr⟩ := trainOk_head hok
  have hflat : ∃ bs, ra.flatten = b0 :: bs := ⟨r ++ rs.flatten, by rw [hr]; rfl⟩
  obtain ⟨bs, hbs⟩ := hflat
  have hlen1 : 1 ≤ ra.length := by rw [hr]; simp
  refine ⟨?_, ?_, ?_, hokt, ?_, ?_, ?_, ?_, ?_, ?_⟩
  · rw [couRes, if_pos ⟨hok, by decide, rfl, hokt⟩]
  · rw [divRes, if_pos ⟨hokt, by omega, by rw [List.length_append]; have : twoRows.length = 2 := rfl; omega⟩]
    simp
  · rw [couRes, if_neg]
    rintro ⟨_, _, _, h⟩
    have h2 := (trainOk_true h).2.2.2.2.2
    rw [List.flatten_append, boatsGo_append, Bool.and_eq_true] at h2
    have h3 := h2.2
    rw [hbs] at h3
    simp [boatsGo] at h3
  · rw [lengthOf, lengthOf, if_pos hokt, if_pos hok, lenGo_add]
    simp only [lenGo, twoRows, List.foldl_cons, List.foldl_nil]
    have e1 : mostLen 0 [(⟨90, 7, 3, 40, 1, 0⟩ : Bt)] = 7 := by decide
    have e2 : mostLen 0 [(⟨91, 5, 20, 4, 9, 2⟩ : Bt)] = 5 := by decide
    rw [e1, e2]
    omega
  · rw [widthOf, if_pos hokt, widGo_add]
    simp only [widGo, twoRows, List.foldl_cons, List.foldl_nil]
    have e1 : sumWid 0 [(⟨90, 7, 3, 40, 1, 0⟩ : Bt)] = 3 := by decide
    have e2 : sumWid 0 [(⟨91, 5, 20, 4, 9, 2⟩ : Bt)] = 20 := by decide
    rw [e1, e2]
    split <;> split <;> omega
  · rw [draughtOf, if_pos hokt, hfl, draGo_add]
    have := draGo_le (m := 30) ra.flatten 0 (by decide) (fun b h => (hb b h).2.1)
    simp only [draGo, List.foldl_cons, List.foldl_nil] at this ⊢
    split <;> split <;> omega
  · rw [speedOf, if_pos hokt, hfl, hbs]
    simp only [List.cons_append]
    rw [← List.cons_append, spdGo_add]
    have := spdGo_ge (m := 1) (b0 :: bs) b0.spd (hb b0 (by rw [hbs]; simp)).2.2.1 (fun b h => (hb b (by rw [hbs]; exact h)).2.2.1)
    generalize spdGo b0.spd (b0 :: bs) = y at this ⊢
    simp only [spdGo, List.foldl_cons, List.foldl_nil]
    split <;> split <;> omega
  · rw [classOf, if_pos hokt, hfl, hbs]
    simp only [List.cons_append]
    rw [← List.cons_append, clsGo_add]
    have := clsGo_ge (m := 0) (b0 :: bs) b0.cls (hb b0 (by rw [hbs]; simp)).2.2.2 (fun b h => (hb b (by rw [hbs]; exact h)).2.2.2)
    generalize clsGo b0.cls (b0 :: bs) = y at this ⊢
    simp only [clsGo, List.foldl_cons, List.foldl_nil]
    split <;> split <;> omega
  · rw [idsOf, idsOf, if_pos hokt, if_pos hok, hfl]
    simp

/-! ### sameTrains -/
set_option maxHeartbeats 4000000 in
set_option maxRecDepth 100000 in
theorem sameTrains_same (u : Bool) (a a' : Option Addr) (n c c' : Nat) (rows : List (List Bt)) (w : World) (hn : n = rows.length) (hs : n ≤ 1048576) (ht : rows.flatten.length ≤ 1048576) (hf : RowsAt w a rows) (hf' : RowsAt w a' rows) :
    Calls Tryd.prog 17 #[.agg #[.bool u, .slice a n c], .agg #[.bool u, .slice a' n c']] w fun e w' => e = .returned (.bool true) ∧ Ext w w' := by
  have HF := Lib.hid hf; clear hf
  have HF' := Lib.hid hf'; clear hf'
  have HN := Lib.hid hn; clear hn
  have HT := Lib.hid ht; clear ht
  have rA := (RowAt.new w 29 #[.bool u, .slice a n c]).ext ((Ext.refl _).alloc (.cells #[.bool u, .slice a' n c'] 29))
  have rB := RowAt.new (w.alloc (.cells #[.bool u, .slice a n c] 29)) 29 #[.bool u, .slice a' n c']
  rw [World.size_alloc] at rB
  have hx := ((Ext.refl w).alloc (.cells #[.bool u, .slice a n c] 29)).alloc (.cells #[.bool u, .slice a' n c'] 29)
  go_enter Tryd.func17, Tryd.ntmps17
  go_wp2_with fail
  have HA := Lib.hid rA
  have HB := Lib.hid rB
  have HX := Lib.hid hx
  obtain ⟨w1, hw1⟩ : ∃ w1, (w.alloc (.cells #[.bool u, .slice a n c] 29)).alloc (.cells #[.bool u, .slice a' n c'] 29) = w1 := ⟨_, rfl⟩
  rw [hw1] at HA HB HX
  rw [hw1]
  obtain ⟨A, hA⟩ : ∃ A, w.heap.size = A := ⟨_, rfl⟩
  rw [hA] at HA HB
  rw [hA]
  clear hw1 hA rA rB hx
  have HF1 := Lib.hid (HF.out.ext HX.out)
  have HF1' := Lib.hid (HF'.out.ext HX.out)
  have HSK := Lib.hid (fun (w' : World) (h : Ext w1 w') => (⟨(HA.out.ext h).cell rfl, (HA.out.ext h).cell rfl, (HB.out.ext h).cell rfl, (HB.out.ext h).cell rfl⟩ : w'.cell? ⟨A, 0, none⟩ = some (.bool u) ∧ w'.cell? ⟨A, 1, none⟩ = some (.slice a n c) ∧ w'.cell? ⟨A + 1, 0, none⟩ = some (.bool u) ∧ w'.cell? ⟨A + 1, 1, none⟩ = some (.slice a' n c')))
  refine wp_region_held_drew (S := (fun w' => w'.cell? ⟨A, 0, none⟩ = some (.bool u) ∧ w'.cell? ⟨A, 1, none⟩ = some (.slice a n c) ∧ w'.cell? ⟨A + 1, 0, none⟩ = some (.bool u) ∧ w'.cell? ⟨A + 1, 1, none⟩ = some (.slice a' n c'))) (by kernel_rfl) ?_ (fun hH0 => ?_)
  · (try dsimp only)
    (exact HSK.out _ (by (repeat' (first | (with_reducible exact Ext.refl _) | (with_reducible assumption) | (with_reducible refine Ext.alloc ?_ _) | (with_reducible refine Ext.drewN ?_ _) | (with_reducible refine Ext.drew ?_) | (with_reducible refine Ext.setCell ?_ ?_ _) | (with_reducible exact Nat.le_refl _) | (with_reducible exact Nat.le_succ _) | (with_reducible refine Ext.trans ?_ (by assumption)) | (simp; done) | (simp; omega)))))
  refine take_l 0 (v := ?_) rfl (by kernel_rfl) (by kernel_rfl) (by kernel_rfl) (fun _ _ _ h => h) (by rfl) ?_ (by assumption) ?_
  rotate_left
  · (intro w hSw; (try dsimp only at hSw); go_simp; (try with_reducible rfl))
  (try simp only [Act.put, List.setIfInBounds_toArray, List.set_cons_zero, List.set_cons_succ])
  refine take_l 1 (v := ?_) rfl (by kernel_rfl) (by kernel_rfl) (by kernel_rfl) (fun _ _ _ h => h) (by rfl) ?_ (by assumption) ?_
  rotate_left
  · (intro w hSw; (try dsimp only at hSw); go_simp; (try with_reducible rfl))
  (try simp only [Act.put, List.setIfInBounds_toArray, List.set_cons_zero, List.set_cons_succ])
  refine take_l 2 (v := ?_) rfl (by kernel_rfl) (by kernel_rfl) (by kernel_rfl) (fun _ _ _ h => h) (by rfl) ?_ (by assumption) ?_
  rotate_left
  · (intro w hSw; (try dsimp only at hSw); go_simp; (try with_reducible rfl))
  (try simp only [Act.put, List.setIfInBounds_toArray, List.set_cons_zero, List.set_cons_succ])
  refine take_l 3 (v := ?_) rfl (by kernel_rfl) (by kernel_rfl) (by kernel_rfl) (fun _ _ _ h => h) (by rfl) ?_ (by assumption) ?_
  rotate_left
  · (intro w hSw; (try dsimp only at hSw); go_simp; (try with_reducible rfl))
  (try simp only [Act.put, List.setIfInBounds_toArray, List.set_cons_zero, List.set_cons_succ])
  refine take_l 4 (v := ?_) rfl (by kernel_rfl) (by kernel_rfl) (by kernel_rfl) (fun _ _ _ h => h) (by rfl) ?_ (by assumption) ?_
  rotate_left
  · (intro w hSw; (try dsimp only at hSw); go_simp; (try with_reducible rfl))
  (try simp only [Act.put, List.setIfInBounds_toArray, List.set_cons_zero, List.set_cons_succ])
  refine take_l 5 (v := ?_) rfl (by kernel_rfl) (by kernel_rfl) (by kernel_rfl) (fun _ _ _ h => h) (by rfl) ?_ (by assumption) ?_
  rotate_left
  · (intro w hSw; (try dsimp only at hSw); go_simp; (try with_reducible rfl))
  (try simp only [Act.put, List.setIfInBounds_toArray, List.set_cons_zero, List.set_cons_succ])
  refine take_l 6 (v := ?_) rfl (by kernel_rfl) (by kernel_rfl) (by kernel_rfl) (fun _ _ _ h => h) (by rfl) ?_ (by assumption) ?_
  rotate_left
  · (intro w hSw; (try dsimp only at hSw); go_simp; (try with_reducible rfl))
  (try simp only [Act.put, List.setIfInBounds_toArray, List.set_cons_zero, List.set_cons_succ])
  refine take_l 8 (v := ?_) rfl (by kernel_rfl) (by kernel_rfl) (by kernel_rfl) (fun _ _ _ h => h) (by rfl) ?_ (by assumption) ?_
  rotate_left
  · (intro w hSw; (try dsimp only at hSw); go_simp; (try with_reducible rfl))
  (try simp only [Act.put, List.setIfInBounds_toArray, List.set_cons_zero, List.set_cons_succ])
  refine wpAnyH_ready (rs := [7]) (by kernel_rfl) (by simp) ?_
  refine cons_l (i := 7) rfl (fun K hK => ?_) ?_
  go_simp; (go_at_call 7; with_reducible refine (specFormatTrain_any _ _ _ _ rows _ HN.out hs HT.out (HF1.out.ext (by (repeat' (first | (with_reducible exact Ext.refl _) | (with_reducible assumption) | (with_reducible refine Ext.alloc ?_ _) | (with_reducible refine Ext.drewN ?_ _) | (with_reducible refine Ext.drew ?_) | (with_reducible refine Ext.setCell ?_ ?_ _) | (with_reducible exact Nat.le_refl _) | (with_reducible exact Nat.le_succ _) | (with_reducible refine Ext.trans ?_ (by assumption)) | (simp; done) | (simp; omega)))))).mono ?_); rintro e wa ⟨rfl, hbA⟩; have xA : Ext w1 wa := Ext.trans (by (repeat' (first | (with_reducible exact Ext.refl _) | (with_reducible assumption) | (with_reducible refine Ext.alloc ?_ _) | (with_reducible refine Ext.drewN ?_ _) | (with_reducible refine Ext.drew ?_) | (with_reducible refine Ext.setCell ?_ ?_ _) | (with_reducible exact Nat.le_refl _) | (with_reducible exact Nat.le_succ _) | (with_reducible refine Ext.trans ?_ (by assumption)) | (simp; done) | (simp; omega)))) hbA
  refine hK.out _ _ ?_ (fun hH1 => ?_)
  · (try dsimp only)
    (exact HSK.out _ (by (repeat' (first | (with_reducible exact Ext.refl _) | (with_reducible assumption) | (with_reducible refine Ext.alloc ?_ _) | (with_reducible refine Ext.drewN ?_ _) | (with_reducible refine Ext.drew ?_) | (with_reducible refine Ext.setCell ?_ ?_ _) | (with_reducible exact Nat.le_refl _) | (with_reducible exact Nat.le_succ _) | (with_reducible refine Ext.trans ?_ (by assumption)) | (simp; done) | (simp; omega)))))
  clear hK K hH0
  (try simp only [Act.put, List.setIfInBounds_toArray, List.set_cons_zero, List.set_cons_succ])
  refine wpAnyH_ready (rs := [9]) (by kernel_rfl) (by simp) ?_
  refine cons_l (i := 9) rfl (fun K hK => ?_) ?_
  go_simp; (go_at_call 7; with_reducible refine (specFormatTrain_any _ _ _ _ rows _ HN.out hs HT.out (HF1'.out.ext (by (repeat' (first | (with_reducible exact Ext.refl _) | (with_reducible assumption) | (with_reducible refine Ext.alloc ?_ _) | (with_reducible refine Ext.drewN ?_ _) | (with_reducible refine Ext.drew ?_) | (with_reducible refine Ext.setCell ?_ ?_ _) | (with_reducible exact Nat.le_refl _) | (with_reducible exact Nat.le_succ _) | (with_reducible refine Ext.trans ?_ (by assumption)) | (simp; done) | (simp; omega)))))).mono ?_); rintro e wb ⟨rfl, hbB⟩; have xB := xA.trans hbB
  refine hK.out _ _ ?_ (fun hH2 => ?_)
  · (try dsimp only)
    (exact HSK.out _ (by (repeat' (first | (with_reducible exact Ext.refl _) | (with_reducible assumption) | (with_reducible refine Ext.alloc ?_ _) | (with_reducible refine Ext.drewN ?_ _) | (with_reducible refine Ext.drew ?_) | (with_reducible refine Ext.setCell ?_ ?_ _) | (with_reducible exact Nat.le_refl _) | (with_reducible exact Nat.le_succ _) | (with_reducible refine Ext.trans ?_ (by assumption)) | (simp; done) | (simp; omega)))))
  clear hK K hH1
  (try simp only [Act.put, List.setIfInBounds_toArray, List.set_cons_zero, List.set_cons_succ])
  refine take_l 10 (v := ?_) rfl (by kernel_rfl) (by kernel_rfl) (by kernel_rfl) (fun _ _ _ h => h) (by rfl) ?_ (by assumption) ?_
  rotate_left
  · (intro w hSw; (try dsimp only at hSw); go_simp; (try with_reducible rfl))
  (try simp only [Act.put, List.setIfInBounds_toArray, List.set_cons_zero, List.set_cons_succ])
  refine take_l 11 (v := ?_) rfl (by kernel_rfl) (by kernel_rfl) (by kernel_rfl) (fun _ _ _ h => h) (by rfl) ?_ (by assumption) ?_
  rotate_left
  · (intro w hSw; (try dsimp only at hSw); go_simp; (try with_reducible rfl))
  (try simp only [Act.put, List.setIfInBounds_toArray, List.set_cons_zero, List.set_cons_succ])
  refine take_l 12 (v := ?_) rfl (by kernel_rfl) (by kernel_rfl) (by kernel_rfl) (fun _ _ _ h => h) (by rfl) ?_ (by assumption) ?_
  rotate_left
  · (intro w hSw; (try dsimp only at hSw); go_simp; (try with_reducible rfl))
  (try simp only [Act.put, List.setIfInBounds_toArray, List.set_cons_zero, List.set_cons_succ])
  refine take_l 13 (v := ?_) rfl (by kernel_rfl) (by kernel_rfl) (by kernel_rfl) (fun _ _ _ h => h) (by rfl) ?_ (by assumption) ?_
  rotate_left
  · (intro w hSw; (try dsimp only at hSw); go_simp; (try with_reducible rfl))
  (try simp only [Act.put, List.setIfInBounds_toArray, List.set_cons_zero, List.set_cons_succ])
  refine take_l 14 (v := ?_) rfl (by kernel_rfl) (by kernel_rfl) (by kernel_rfl) (fun _ _ _ h => h) (by rfl) ?_ (by assumption) ?_
  rotate_left
  · (intro w hSw; (try dsimp only at hSw); go_simp; (try with_reducible rfl))
  (try simp only [Act.put, List.setIfInBounds_toArray, List.set_cons_zero, List.set_cons_succ])
  refine take_l 15 (v := ?_) rfl (by kernel_rfl) (by kernel_rfl) (by kernel_rfl) (fun _ _ _ h => h) (by rfl) ?_ (by assumption) ?_
  rotate_left
  · (intro w hSw; (try dsimp only at hSw); go_simp; (try with_reducible rfl))
  (try simp only [Act.put, List.setIfInBounds_toArray, List.set_cons_zero, List.set_cons_succ])
  refine take_l 16 (v := ?_) rfl (by kernel_rfl) (by kernel_rfl) (by kernel_rfl) (fun _ _ _ h => h) (by rfl) ?_ (by assumption) ?_
  rotate_left
  · (intro w hSw; (try dsimp only at hSw); go_simp; (try with_reducible rfl))
  (try simp only [Act.put, List.setIfInBounds_toArray, List.set_cons_zero, List.set_cons_succ])
  refine take_l 17 (v := ?_) rfl (by kernel_rfl) (by kernel_rfl) (by kernel_rfl) (fun _ _ _ h => h) (by rfl) ?_ (by assumption) ?_
  rotate_left
  · (intro w hSw; (try dsimp only at hSw); go_simp; (try with_reducible rfl))
  (try simp only [Act.put, List.setIfInBounds_toArray, List.set_cons_zero, List.set_cons_succ])
  refine take_l 18 (v := ?_) rfl (by kernel_rfl) (by kernel_rfl) (by kernel_rfl) (fun _ _ _ h => h) (by rfl) ?_ (by assumption) ?_
  rotate_left
  · (intro w hSw; (try dsimp only at hSw); go_simp; (try with_reducible rfl))
  (try simp only [Act.put, List.setIfInBounds_toArray, List.set_cons_zero, List.set_cons_succ])
  refine take_l 19 (v := ?_) rfl (by kernel_rfl) (by kernel_rfl) (by kernel_rfl) (fun _ _ _ h => h) (by rfl) ?_ (by assumption) ?_
  rotate_left
  · (intro w hSw; (try dsimp only at hSw); go_simp; (try with_reducible rfl))
  (try simp only [Act.put, List.setIfInBounds_toArray, List.set_cons_zero, List.set_cons_succ])
  refine take_l 20 (v := ?_) rfl (by kernel_rfl) (by kernel_rfl) (by kernel_rfl) (fun _ _ _ h => h) (by rfl) ?_ (by assumption) ?_
  rotate_left
  · (intro w hSw; (try dsimp only at hSw); go_simp; (try with_reducible rfl))
  (try simp only [Act.put, List.setIfInBounds_toArray, List.set_cons_zero, List.set_cons_succ])
  refine take_l 21 (v := ?_) rfl (by kernel_rfl) (by kernel_rfl) (by kernel_rfl) (fun _ _ _ h => h) (by rfl) ?_ (by assumption) ?_
  rotate_left
  · (intro w hSw; (try dsimp only at hSw); go_simp; (try with_reducible rfl))
  (try simp only [Act.put, List.setIfInBounds_toArray, List.set_cons_zero, List.set_cons_succ])
  refine wpAnyH_done (by kernel_rfl) ?_ _
  rotate_left
  exact AllReadyH.nil
  exact AllReadyH.nil
  all_goals
    go_wp2
    go_ret
    exact ⟨rfl, HX.out.trans xB⟩
end Go.Proofs.YtjjikcjhnglkaaaDoor
