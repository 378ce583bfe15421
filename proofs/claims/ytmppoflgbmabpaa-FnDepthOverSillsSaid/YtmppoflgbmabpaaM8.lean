/- Reaches in memory of their own; what their sizes tell. -/
import Derived.Test.YtmppoflgbmabpaaProg
import Derived.Test.YtmppoflgbmabpaaM3
import Derived.Test.YtmppoflgbmabpaaM2
import Derived.Lib.SliceRun
namespace Go.Proofs.Ytmppoflgbmabpaa
open Go.RowKit
set_option linter.unusedSimpArgs false
set_option linter.unusedVariables false

theorem szReach_bounds {l : Int} {tn pn : Nat} (h0 : 0 ≤ l) (h1 : l ≤ 1048576) (h : ¬ (if szRow l tn < 0 then -1 else szRow (szRow l tn) pn) < 0) : tn ≤ 1048576 ∧ pn ≤ 1048576 ∧ (if szRow l tn < 0 then -1 else szRow (szRow l tn) pn) ≤ l := by
  split at h
  · omega
  · rename_i h2
    rw [if_neg h2]
    obtain ⟨e, hl⟩ := szRow_val h2
    obtain ⟨e2, hl2⟩ := szRow_val h
    omega
/-- A reach whose points and whose pipe lie in blocks of their own, from lo to hi. -/
def OwnReach (w : World) (lo hi : Nat) (ta : Option Addr) (tn tc : Nat) (pa : Option Addr) (pn pc : Nat) (ps : List Pt) (xs : List Int) : Prop :=
  ∃ mid, (lo ≤ mid ∧ mid ≤ hi) ∧ PtOwn w lo mid (.slice ta tn tc) ps ∧ IntOwn w mid hi (.slice pa pn pc) xs
theorem OwnReach.mk {w : World} {lo mid hi : Nat} {ta : Option Addr} {tn tc : Nat} {pa : Option Addr} {pn pc : Nat} {ps : List Pt} {xs : List Int} (h1 : lo ≤ mid ∧ mid ≤ hi) (h2 : PtOwn w lo mid (.slice ta tn tc) ps) (h3 : IntOwn w mid hi (.slice pa pn pc) xs) : OwnReach w lo hi ta tn tc pa pn pc ps xs := ⟨mid, h1, h2, h3⟩
theorem OwnReach.ext {w w' : World} {lo hi : Nat} {ta : Option Addr} {tn tc : Nat} {pa : Option Addr} {pn pc : Nat} {ps : List Pt} {xs : List Int} (h : OwnReach w lo hi ta tn tc pa pn pc ps xs) (hx : Ext w w') : OwnReach w' lo hi ta tn tc pa pn pc ps xs :=
  let ⟨mid, h1, h2, h3⟩ := h; ⟨mid, h1, h2.ext hx, h3.ext hx⟩
theorem OwnReach.chg {w w' : World} {lo hi lo2 hi2 : Nat} {ta : Option Addr} {tn tc : Nat} {pa : Option Addr} {pn pc : Nat} {ps : List Pt} {xs : List Int} (h : OwnReach w lo hi ta tn tc pa pn pc ps xs) (hc : Chg lo2 hi2 w w') (ho : hi ≤ lo2 ∨ hi2 ≤ lo) : OwnReach w' lo hi ta tn tc pa pn pc ps xs :=
  let ⟨mid, h1, h2, h3⟩ := h; ⟨mid, h1, h2.chg hc (by omega), h3.chg hc (by omega)⟩
theorem OwnReach.pts {w : World} {lo hi : Nat} {ta : Option Addr} {tn tc : Nat} {pa : Option Addr} {pn pc : Nat} {ps : List Pt} {xs : List Int} (h : OwnReach w lo hi ta tn tc pa pn pc ps xs) : FlatAt w ptCells 2 ta ps :=
  let ⟨_, _, h2, _⟩ := h; h2.at
theorem OwnReach.ints {w : World} {lo hi : Nat} {ta : Option Addr} {tn tc : Nat} {pa : Option Addr} {pn pc : Nat} {ps : List Pt} {xs : List Int} (h : OwnReach w lo hi ta tn tc pa pn pc ps xs) : IntsAt w pa xs :=
  let ⟨_, _, _, h3⟩ := h; h3.at
theorem OwnTrains.chg {lo hi lo2 hi2 : Nat} {w w' : World} {a : Option Addr} {ts : List Tn} (h : OwnTrains w lo hi a ts) (hc : Chg lo2 hi2 w w') (ho : hi ≤ lo2 ∨ hi2 ≤ lo) : OwnTrains w' lo hi a ts :=
  h.keep (Nat.le_refl _) (Nat.le_refl _) (fun B t c h1 h2 hr => hr.chg hc (by omega))
end Go.Proofs.Ytmppoflgbmabpaa
/- Copies of reaches: the program's. -/
namespace Go.Proofs.Ytmppoflgbmabpaa
open Go.RowKit
set_option linter.unusedSimpArgs false
set_option linter.unusedVariables false

theorem OwnReach.keep {w w' : World} {lo hi lo' hi' : Nat} {ta : Option Addr} {tn tc : Nat} {pa : Option Addr} {pn pc : Nat} {ps : List Pt} {xs : List Int} (h : OwnReach w lo hi ta tn tc pa pn pc ps xs) (hl : lo' ≤ lo) (hh : hi ≤ hi') (hk : ∀ B t c, lo ≤ B → B < hi → RowAt w B t c → RowAt w' B t c) : OwnReach w' lo' hi' ta tn tc pa pn pc ps xs :=
  let ⟨mid, h1, h2, h3⟩ := h; ⟨mid, ⟨by omega, by omega⟩, h2.keep hl (Nat.le_refl _) (fun B t c g1 g2 hr => hk B t c g1 (by omega) hr), h3.keep (Nat.le_refl _) hh (fun B t c g1 g2 hr => hk B t c (by omega) g2 hr)⟩
theorem ptCells_len (p : Pt) : (ptCells p).length = 2 := rfl
theorem ptFlat_len : ∀ (ps : List Pt), (ps.flatMap ptCells).length = ps.length * 2
  | [] => rfl
  | p :: ps => by rw [List.flatMap_cons, List.length_append, ptFlat_len ps, ptCells_len, List.length_cons]; omega
theorem ptFlat_one (ps : List Pt) : ∀ u ∈ ps.flatMap ptCells, u.oneCell' = true := fun u hu => by
  obtain ⟨p, _, hp⟩ := List.mem_flatMap.1 hu
  simp [ptCells] at hp
  rcases hp with rfl | rfl <;> rfl
theorem PtOwn.of_row {w : World} {base n : Nat} {v : Value} {ps : List Pt} (hn : n = ps.length) (h : w.ownsRow base 37 2 v n (ps.flatMap ptCells)) : PtOwn w base w.heap.size v ps := by
  rcases h.2 with ⟨rfl, h0⟩ | ⟨g, cap, cur, rfl, hb, hheap, hnc, hcm, hcs, htake⟩
  · have : ps = [] := List.eq_nil_of_length_eq_zero (by omega)
    subst this
    exact ⟨none, 0, rfl, .inl rfl⟩
  · have hrow : RowAt w g 37 cur := hheap
    refine ⟨some ⟨g, 0, none⟩, cap, by rw [hn], .inr ⟨g, 0, cur, rfl, hb, hrow.lt, hrow, fun k hk => ?_⟩⟩
    have e0 := flatMap_get ptCells_len ps k 0 hk (by decide)
    have e1 := flatMap_get ptCells_len ps k 1 hk (by decide)
    rw [← htake, List.getElem?_take] at e0 e1
    rw [Nat.zero_add]
    constructor
    · split at e0
      · simpa [ptCells] using e0
      · simp [ptCells] at e0
    · split at e1
      · simpa [ptCells] using e1
      · simp [ptCells] at e1
theorem flatPts_cells {w : World} {a' : Option Addr} {ps : List Pt} (h : FlatAt w ptCells 2 a' ps) : ∀ ad, a' = some ad → ∀ (j : Nat) u, (ps.flatMap ptCells)[j]? = some u → w.cell? (ad.add j) = some u := by
  intro ad e j u hu
  have hj : j < ps.length * 2 := by
    have := (List.getElem?_eq_some_iff.1 hu).1
    rw [ptFlat_len] at this
    exact this
  have hk : j / 2 < ps.length := by omega
  obtain ⟨b, off, e', hc⟩ := h (j / 2) hk
  rw [e] at e'
  cases e'
  rw [add_plain rfl]
  have e0 := flatMap_get ptCells_len ps (j / 2) (j % 2) hk (Nat.mod_lt _ (by decide))
  rw [(by omega : j / 2 * 2 + j % 2 = j), hu] at e0
  have := hc (j % 2) u e0.symm
  rw [Nat.add_assoc, (by omega : j / 2 * 2 + j % 2 = j)] at this
  exact this
theorem pts_none {w : World} {a' : Option Addr} {ps : List Pt} (h : FlatAt w ptCells 2 a' ps) (e : a' = none) : ps = [] := by
  cases ps with
  | nil => rfl
  | cons r rs => obtain ⟨_, _, e', _⟩ := h 0 (by simp); rw [e] at e'; cases e'
theorem ints_none {w : World} {a' : Option Addr} {xs : List Int} (h : IntsAt w a' xs) (e : a' = none) : xs = [] := by
  cases xs with
  | nil => rfl
  | cons r rs => obtain ⟨_, _, e', _⟩ := h 0 (by simp); rw [e] at e'; cases e'

set_option maxHeartbeats 1000000 in
theorem clonePts_any (a : Option Addr) (n c : Nat) (ps : List Pt) (w : World) (hn : n = ps.length) (hs : n ≤ 1048576) (hc : True) (hf : FlatAt w ptCells 2 a ps) :
    Calls Try.prog 27 #[.slice a n c] w fun e w' => ∃ a' c', e = .returned (.slice a' n c') ∧ PtOwn w' w.heap.size w'.heap.size (.slice a' n c') ps ∧ Ext w w' := by
  have qT : ∀ (w : World) (a : Option Addr) (n c n' c' : Nat), (binOp .eql 30 (.slice a n c) (.slice none n' c')).run Try.prog w = .ok (.bool a.isNone) w := fun w a n c n' c' => Lib.run_eql_slice_nil w _ _ a n c n' c' Try.underlying30
  have HF := Lib.hid hf; clear hf
  have HN := Lib.hid hn
  clear hn
  cases a with
  | none =>
    have hr := Lib.hid (pts_none HF.out rfl)
    have hn0 := Lib.hid (show n = 0 by rw [HN.out, hr.out]; rfl)
    go_enter Try.func27, Try.ntmps27
    go_wp2
    go_ret
    exact ⟨none, 0, by (show Ending.returned (Value.slice none 0 0) = _); rw [hn0.out], by rw [hr.out, hn0.out]; exact ⟨none, 0, rfl, .inl rfl⟩, Ext.refl _⟩
  | some ad =>
    have HL := Lib.hid (show (w.alloc (.cells #[] 37)).ownsRow w.heap.size 37 2 (.slice (some ⟨w.heap.size, 0, none⟩) 0 0) 0 [] from by
      have := World.ownsRow_lit (base := w.heap.size) (e := 37) (size := 2) w #[] 0 (by simp) (by unfold maxLen; omega) rfl
      simpa using this)
    have HFC := Lib.hid (flatPts_cells (HF.out.ext ((Ext.refl w).alloc (.cells #[] 37))))
    go_enter Try.func27, Try.ntmps27
    go_wp2_with (at_builtin; refine wpList_plain rfl fun K hK => wp_append_any _ _ _ _ 37 rfl w.heap.size _ 2 16 Try.underlying30 info_point rfl (by decide) (.slice (some ⟨w.heap.size, 0, none⟩) 0 0) 0 [] rfl HL.out (some ad) n c rfl (ps.flatMap ptCells) (fun h => by cases h) (by rw [ptFlat_len, HN.out]) HFC.out (ptFlat_one ps) (by unfold maxLen; omega) (by omega) (by simp) ?_)
    intro v' w5 hown5 hgrow5 _
    have hx5 : Ext w w5 := Ext.own2 ((Ext.refl w).alloc (.cells #[] 37)) hgrow5 HL.out (Nat.le_refl _)
    have HP := Lib.hid (PtOwn.of_row (n := n) HN.out (by simpa using hown5))
    obtain ⟨a9, c9, hv, _⟩ := HP.out
    rw [← HN.out] at hv
    subst hv
    clear hown5 hgrow5
    refine hK _ _ ?_
    clear hK K
    go_wp2
    go_ret
    exact ⟨a9, c9, rfl, HP.out, hx5⟩
theorem iFlat_map : ∀ (xs : List Int), xs.flatMap iCells = xs.map (fun x => Value.int .i64 x)
  | [] => rfl
  | x :: xs => by rw [List.flatMap_cons, List.map_cons, iFlat_map xs]; rfl
theorem flatInts_cells {w : World} {a' : Option Addr} {xs : List Int} (h : IntsAt w a' xs) : ∀ ad, a' = some ad → ∀ (j : Nat) u, (xs.flatMap iCells)[j]? = some u → w.cell? (ad.add j) = some u := by
  intro ad e j u hu
  rw [iFlat_map, List.getElem?_map] at hu
  cases hx : xs[j]? with
  | none => rw [hx] at hu; cases hu
  | some x =>
    rw [hx] at hu
    cases hu
    obtain ⟨hj, hx'⟩ := List.getElem?_eq_some_iff.1 hx
    obtain ⟨b, off, e', hc⟩ := h j hj
    rw [e] at e'
    cases e'
    rw [add_plain rfl, ← hx']
    exact hc

set_option maxHeartbeats 1000000 in
theorem cloneInts_any (a : Option Addr) (n c : Nat) (xs : List Int) (w : World) (hn : n = xs.length) (hs : n ≤ 1048576) (hc : True) (hf : IntsAt w a xs) :
    Calls Try.prog 52 #[.slice a n c] w fun e w' => ∃ a' c', e = .returned (.slice a' n c') ∧ IntOwn w' w.heap.size w'.heap.size (.slice a' n c') xs ∧ Ext w w' := by
  have qT : ∀ (w : World) (a : Option Addr) (n c n' c' : Nat), (binOp .eql 31 (.slice a n c) (.slice none n' c')).run Try.prog w = .ok (.bool a.isNone) w := fun w a n c n' c' => Lib.run_eql_slice_nil w _ _ a n c n' c' Try.underlying31
  have HF := Lib.hid hf; clear hf
  have HN := Lib.hid hn
  clear hn
  cases a with
  | none =>
    have hr := Lib.hid (ints_none HF.out rfl)
    have hn0 := Lib.hid (show n = 0 by rw [HN.out, hr.out]; rfl)
    go_enter Try.func52, Try.ntmps52
    go_wp2
    go_ret
    exact ⟨none, 0, by (show Ending.returned (Value.slice none 0 0) = _); rw [hn0.out], by rw [hr.out, hn0.out]; exact ⟨none, 0, rfl, .inl rfl⟩, Ext.refl _⟩
  | some ad =>
    have HL := Lib.hid (show (w.alloc (.cells #[] 3)).ownsRow w.heap.size 3 1 (.slice (some ⟨w.heap.size, 0, none⟩) 0 0) 0 [] from by
      have := World.ownsRow_lit (base := w.heap.size) (e := 3) (size := 1) w #[] 0 (by simp) (by unfold maxLen; omega) rfl
      simpa using this)
    have HFC := Lib.hid (flatInts_cells (HF.out.ext ((Ext.refl w).alloc (.cells #[] 3))))
    have HFL := Lib.hid (show (xs.flatMap iCells).length = n * 1 by rw [iFlat_map, List.length_map, HN.out, Nat.mul_one])
    have HFO := Lib.hid (show ∀ u ∈ xs.flatMap iCells, u.oneCell' = true from fun u hu => by
      rw [iFlat_map] at hu
      obtain ⟨x, _, rfl⟩ := List.mem_map.1 hu
      rfl)
    go_enter Try.func52, Try.ntmps52
    go_wp2_with (at_builtin; refine wpList_plain rfl fun K hK => wp_append_any _ _ _ _ 3 rfl w.heap.size _ 1 8 Try.underlying31 info_int2 rfl (by decide) (.slice (some ⟨w.heap.size, 0, none⟩) 0 0) 0 [] rfl HL.out (some ad) n c rfl (xs.flatMap iCells) (fun h => by cases h) HFL.out HFC.out HFO.out (by unfold maxLen; omega) (by omega) (by simp) ?_)
    intro v' w5 hown5 hgrow5 _
    have hx5 : Ext w w5 := Ext.own2 ((Ext.refl w).alloc (.cells #[] 3)) hgrow5 HL.out (Nat.le_refl _)
    have HP := Lib.hid (OwnInts.own (show OwnInts w5 w.heap.size v' xs from by unfold OwnInts; rw [← HN.out]; simpa using hown5))
    obtain ⟨a9, c9, hv, _⟩ := HP.out
    rw [← HN.out] at hv
    subst hv
    clear hown5 hgrow5
    refine hK _ _ ?_
    clear hK K
    go_wp2
    go_ret
    exact ⟨a9, c9, rfl, HP.out, hx5⟩

set_option maxRecDepth 100000 in
set_option maxHeartbeats 1000000 in
theorem copyReach_any (ta pa : Option Addr) (tn tc pn pc : Nat) (vol : Int) (ps : List Pt) (xs : List Int) (w : World) (ht : tn = ps.length) (hts : tn ≤ 1048576) (hp : pn = xs.length) (hps : pn ≤ 1048576) (hft : FlatAt w ptCells 2 ta ps) (hfp : IntsAt w pa xs) (hct : True) (hcp : True) :
    Calls Try.prog 31 #[.agg #[.slice ta tn tc, .int .i64 vol, .slice pa pn pc]] w fun e w' => ∃ a1 c1 a2 c2, e = .returned (.agg #[.slice a1 tn c1, .int .i64 vol, .slice a2 pn c2]) ∧ OwnReach w' w.heap.size w'.heap.size a1 tn c1 a2 pn c2 ps xs ∧ Ext w w' := by
  have HFT := Lib.hid hft; clear hft
  have HFP := Lib.hid hfp; clear hfp
  have HT := Lib.hid ht; clear ht
  have HP := Lib.hid hp; clear hp
  have HCT := Lib.hid hct; clear hct
  have HCP := Lib.hid hcp; clear hcp
  have R0 := (RowAt.new w 33 #[.slice ta tn tc, .int .i64 vol, .slice pa pn pc]).ext ((Ext.refl _).alloc (.cells #[.slice none 0 0, .int .i64 0, .slice none 0 0] 33))
  have R1 := RowAt.new (w.alloc (.cells #[.slice ta tn tc, .int .i64 vol, .slice pa pn pc] 33)) 33 #[.slice none 0 0, .int .i64 0, .slice none 0 0]
  rw [World.size_alloc] at R1
  have HE0 := Lib.hid (((Ext.refl w).alloc (.cells #[.slice ta tn tc, .int .i64 vol, .slice pa pn pc] 33)).alloc (.cells #[.slice none 0 0, .int .i64 0, .slice none 0 0] 33))
  have HR0 := Lib.hid R0
  have HR1 := Lib.hid R1
  go_enter Try.func31, Try.ntmps31
  go_wp2_with fail
  obtain ⟨W, hW⟩ : ∃ x, x = ((w.alloc (.cells #[.slice ta tn tc, .int .i64 vol, .slice pa pn pc] 33)).alloc (.cells #[.slice none 0 0, .int .i64 0, .slice none 0 0] 33)) := ⟨_, rfl⟩
  have hWs : w.heap.size + 1 + 1 ≤ W.heap.size := by rw [hW]; simp
  rw [← hW] at HR0 HR1 HE0
  (try rw [← hW])
  clear hW R0 R1
  have c0 : W.cell? ⟨w.heap.size, 0, none⟩ = some (.slice ta tn tc) := HR0.out.cell rfl
  have HSK := Lib.hid (fun (w' : World) (h : Ext W w') => (⟨(HR0.out.ext h).cell rfl, (HR0.out.ext h).cell rfl, (HR0.out.ext h).cell rfl⟩ : w'.cell? ⟨w.heap.size, 0, none⟩ = some (.slice ta tn tc) ∧ w'.cell? ⟨w.heap.size, 1, none⟩ = some (.int .i64 vol) ∧ w'.cell? ⟨w.heap.size, 2, none⟩ = some (.slice pa pn pc)))
  refine wp_region_held_drew (S := (fun w' => w'.cell? ⟨w.heap.size, 0, none⟩ = some (.slice ta tn tc) ∧ w'.cell? ⟨w.heap.size, 1, none⟩ = some (.int .i64 vol) ∧ w'.cell? ⟨w.heap.size, 2, none⟩ = some (.slice pa pn pc))) (by kernel_rfl) ?_ (fun hH0 => ?_)
  · (try dsimp only)
    (first | exact HZZ.out | (refine HSK.out _ ?_; (repeat' (first | (with_reducible assumption) | (with_reducible exact Ext.refl _) | (with_reducible refine Ext.alloc ?_ _) | (with_reducible refine Ext.drew ?_) | (with_reducible refine Ext.setCell ?_ ?_ _) | (simp; done) | (simp; omega)))))
  refine take_l 0 (v := ?_) rfl (by kernel_rfl) (by kernel_rfl) (by kernel_rfl) (fun _ _ _ h => h) (by rfl) ?_ (by assumption) ?_
  rotate_left
  · (intro w hSw; (try dsimp only at hSw); go_simp; (try with_reducible rfl))
  (try simp only [Act.put, List.setIfInBounds_toArray, List.set_cons_zero, List.set_cons_succ])
  refine take_l 1 (v := ?_) rfl (by kernel_rfl) (by kernel_rfl) (by kernel_rfl) (fun _ _ _ h => h) (by rfl) ?_ (by assumption) ?_
  rotate_left
  · (intro w hSw; (try dsimp only at hSw); go_simp; (try with_reducible rfl))
  (try simp only [Act.put, List.setIfInBounds_toArray, List.set_cons_zero, List.set_cons_succ])
  refine take_l 3 (v := ?_) rfl (by kernel_rfl) (by kernel_rfl) (by kernel_rfl) (fun _ _ _ h => h) (by rfl) ?_ (by assumption) ?_
  rotate_left
  · (intro w hSw; (try dsimp only at hSw); go_simp; (try with_reducible rfl))
  (try simp only [Act.put, List.setIfInBounds_toArray, List.set_cons_zero, List.set_cons_succ])
  refine take_l 4 (v := ?_) rfl (by kernel_rfl) (by kernel_rfl) (by kernel_rfl) (fun _ _ _ h => h) (by rfl) ?_ (by assumption) ?_
  rotate_left
  · (intro w hSw; (try dsimp only at hSw); go_simp; (try with_reducible rfl))
  (try simp only [Act.put, List.setIfInBounds_toArray, List.set_cons_zero, List.set_cons_succ])
  refine take_l 5 (v := ?_) rfl (by kernel_rfl) (by kernel_rfl) (by kernel_rfl) (fun _ _ _ h => h) (by rfl) ?_ (by assumption) ?_
  rotate_left
  · (intro w hSw; (try dsimp only at hSw); go_simp; (try with_reducible rfl))
  (try simp only [Act.put, List.setIfInBounds_toArray, List.set_cons_zero, List.set_cons_succ])
  refine take_l 6 (v := ?_) rfl (by kernel_rfl) (by kernel_rfl) (by kernel_rfl) (fun _ _ _ h => h) (by rfl) ?_ (by assumption) ?_
  rotate_left
  · (intro w hSw; (try dsimp only at hSw); go_simp; (try with_reducible rfl))
  (try simp only [Act.put, List.setIfInBounds_toArray, List.set_cons_zero, List.set_cons_succ])
  refine wpAnyH_ready (rs := [2]) (by kernel_rfl) (by simp) ?_
  refine cons_l (i := 2) rfl (fun K hK => ?_) ?_
  go_simp; (go_at_call 27; with_reducible refine (clonePts_any _ _ _ ps _ HT.out hts HCT.out (HFT.out.ext (HE0.out.trans (by (repeat' (first | (with_reducible assumption) | (with_reducible exact Ext.refl _) | (with_reducible refine Ext.alloc ?_ _) | (with_reducible refine Ext.drew ?_) | (with_reducible refine Ext.setCell ?_ ?_ _) | (simp; done) | (simp; omega))))))).mono ?_); rintro e y1 ⟨a1, c1, rfl, hp1, hb1⟩; have xy1 : Ext W y1 := Ext.trans (by (repeat' (first | (with_reducible assumption) | (with_reducible exact Ext.refl _) | (with_reducible refine Ext.alloc ?_ _) | (with_reducible refine Ext.drew ?_) | (with_reducible refine Ext.setCell ?_ ?_ _) | (simp; done) | (simp; omega)))) hb1; have zy1 := hb1.size; (try simp only [World.size_drew] at zy1 hp1); have HP1 := Lib.hid hp1; clear hp1
  refine hK.out _ _ ?_ (fun hH1 => ?_)
  · (try dsimp only)
    (first | exact HZZ.out | (refine HSK.out _ ?_; (repeat' (first | (with_reducible assumption) | (with_reducible exact Ext.refl _) | (with_reducible refine Ext.alloc ?_ _) | (with_reducible refine Ext.drew ?_) | (with_reducible refine Ext.setCell ?_ ?_ _) | (simp; done) | (simp; omega)))))
  clear hK K hH0
  (try simp only [Act.put, List.setIfInBounds_toArray, List.set_cons_zero, List.set_cons_succ])
  refine wpAnyH_ready (rs := [7]) (by kernel_rfl) (by simp) ?_
  refine cons_l (i := 7) rfl (fun K hK => ?_) ?_
  go_simp; (go_at_call 52; with_reducible refine (cloneInts_any _ _ _ xs _ HP.out hps HCP.out (HFP.out.ext (HE0.out.trans (by (repeat' (first | (with_reducible assumption) | (with_reducible exact Ext.refl _) | (with_reducible refine Ext.alloc ?_ _) | (with_reducible refine Ext.drew ?_) | (with_reducible refine Ext.setCell ?_ ?_ _) | (simp; done) | (simp; omega))))))).mono ?_); rintro e y2 ⟨a2, c2, rfl, hp2, hb2⟩; have xy2 : Ext W y2 := Ext.trans xy1 hb2; have zy2 := hb2.size; have HO := Lib.hid (OwnReach.mk (lo := W.heap.size) (hi := y2.heap.size) ⟨zy1, zy2⟩ (HP1.out.ext hb2) hp2); have YR := Lib.hid (HR1.out.ext xy2); have k0 : y2.cell? ⟨w.heap.size + 1, 0, none⟩ = some (.slice none 0 0) := YR.out.cell rfl; have k1 : y2.cell? ⟨w.heap.size + 1, 1, none⟩ = some (.int .i64 0) := YR.out.cell rfl; have k2 : y2.cell? ⟨w.heap.size + 1, 2, none⟩ = some (.slice none 0 0) := YR.out.cell rfl; have g0 := YR.out.frozen 0; have g1 := YR.out.frozen 1; have g2 := YR.out.frozen 2; have HZZ := Lib.hid (show ((((y2.setCell ⟨w.heap.size + 1, 0, none⟩ (.slice a1 tn c1)).setCell ⟨w.heap.size + 1, 1, none⟩ (.int .i64 vol)).setCell ⟨w.heap.size + 1, 2, none⟩ (.slice a2 pn c2)).cell? ⟨w.heap.size, 0, none⟩ = some (.slice ta tn tc) ∧ (((y2.setCell ⟨w.heap.size + 1, 0, none⟩ (.slice a1 tn c1)).setCell ⟨w.heap.size + 1, 1, none⟩ (.int .i64 vol)).setCell ⟨w.heap.size + 1, 2, none⟩ (.slice a2 pn c2)).cell? ⟨w.heap.size, 1, none⟩ = some (.int .i64 vol) ∧ (((y2.setCell ⟨w.heap.size + 1, 0, none⟩ (.slice a1 tn c1)).setCell ⟨w.heap.size + 1, 1, none⟩ (.int .i64 vol)).setCell ⟨w.heap.size + 1, 2, none⟩ (.slice a2 pn c2)).cell? ⟨w.heap.size, 2, none⟩ = some (.slice pa pn pc)) from by have Q := (((HR0.out.ext xy2).other (p := ⟨w.heap.size + 1, 0, none⟩) (by simp) (.slice a1 tn c1)).other (p := ⟨w.heap.size + 1, 1, none⟩) (by simp) (.int .i64 vol)).other (p := ⟨w.heap.size + 1, 2, none⟩) (by simp) (.slice a2 pn c2); exact ⟨Q.cell rfl, Q.cell rfl, Q.cell rfl⟩); clear hp2 hb1 hb2
  refine hK.out _ _ ?_ (fun hH2 => ?_)
  · (try dsimp only)
    (first | exact HZZ.out | (refine HSK.out _ ?_; (repeat' (first | (with_reducible assumption) | (with_reducible exact Ext.refl _) | (with_reducible refine Ext.alloc ?_ _) | (with_reducible refine Ext.drew ?_) | (with_reducible refine Ext.setCell ?_ ?_ _) | (simp; done) | (simp; omega)))))
  clear hK K hH1
  (try simp only [Act.put, List.setIfInBounds_toArray, List.set_cons_zero, List.set_cons_succ])
  refine take_l 8 (v := ?_) rfl (by kernel_rfl) (by kernel_rfl) (by kernel_rfl) (fun _ _ _ h => h) (by rfl) ?_ (by assumption) ?_
  rotate_left
  · (intro w hSw; (try dsimp only at hSw); go_simp; (try with_reducible rfl))
  (try simp only [Act.put, List.setIfInBounds_toArray, List.set_cons_zero, List.set_cons_succ])
  refine wpAnyH_ready (rs := [9]) (by kernel_rfl) (by simp) ?_
  refine cons_l (i := 9) rfl (fun K hK => ?_) ?_
  go_simp
  refine hK.out _ _ ?_ (fun hH3 => ?_)
  · (try dsimp only)
    (first | exact HZZ.out | (refine HSK.out _ ?_; (repeat' (first | (with_reducible assumption) | (with_reducible exact Ext.refl _) | (with_reducible refine Ext.alloc ?_ _) | (with_reducible refine Ext.drew ?_) | (with_reducible refine Ext.setCell ?_ ?_ _) | (simp; done) | (simp; omega)))))
  clear hK K hH2
  (try simp only [Act.put, List.setIfInBounds_toArray, List.set_cons_zero, List.set_cons_succ])
  refine wpAnyH_done (by kernel_rfl) ?_ _
  rotate_left
  exact AllReadyH.nil
  exact AllReadyH.nil
  exact AllReadyH.nil
  all_goals
    have T1 := ((YR.out.set 0 (.slice a1 tn c1)).set 1 (.int .i64 vol)).set 2 (.slice a2 pn c2)
    have q0 : (((y2.setCell ⟨w.heap.size + 1, 0, none⟩ (.slice a1 tn c1)).setCell ⟨w.heap.size + 1, 1, none⟩ (.int .i64 vol)).setCell ⟨w.heap.size + 1, 2, none⟩ (.slice a2 pn c2)).cell? ⟨w.heap.size + 1, 0, none⟩ = some (.slice a1 tn c1) := T1.cell rfl
    have q1 : (((y2.setCell ⟨w.heap.size + 1, 0, none⟩ (.slice a1 tn c1)).setCell ⟨w.heap.size + 1, 1, none⟩ (.int .i64 vol)).setCell ⟨w.heap.size + 1, 2, none⟩ (.slice a2 pn c2)).cell? ⟨w.heap.size + 1, 1, none⟩ = some (.int .i64 vol) := T1.cell rfl
    have q2 : (((y2.setCell ⟨w.heap.size + 1, 0, none⟩ (.slice a1 tn c1)).setCell ⟨w.heap.size + 1, 1, none⟩ (.int .i64 vol)).setCell ⟨w.heap.size + 1, 2, none⟩ (.slice a2 pn c2)).cell? ⟨w.heap.size + 1, 2, none⟩ = some (.slice a2 pn c2) := T1.cell rfl
    clear T1
    go_wp2
    refine bodyPost_ret (v := .agg #[.slice a1 tn c1, .int .i64 vol, .slice a2 pn c2]) (by simp [results, Try.results31, go_sem, *]) rfl ⟨a1, c1, a2, c2, rfl, ?_, (((HE0.out.trans xy2).setCell (by dsimp only; omega) _).setCell (by dsimp only; omega) _).setCell (by dsimp only; omega) _⟩
    exact HO.out.keep (by omega) (by simp only [size_setCell']; exact Nat.le_refl _) (fun B t c h1 h2 hr => by
      (repeat' (first | (with_reducible assumption) | (with_reducible refine RowAt.other ?_ ?_ _))) <;> dsimp only <;> omega)
end Go.Proofs.Ytmppoflgbmabpaa
