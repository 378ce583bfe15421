/- parseBoat of the program. -/
import Derived.Test.YtjjikcjhnglkaaaDoorProg
import Derived.Test.YtjjikcjhnglkaaaDoorParse
namespace Go.Proofs.YtjjikcjhnglkaaaDoor
open Go.RowKit
set_option linter.unusedSimpArgs false
set_option linter.unusedVariables false

theorem splitP_len {c : UInt8} : ∀ {s p : List UInt8}, p ∈ splitP c s → p.length ≤ s.length
  | [], p, h => by
    rw [splitP] at h
    rw [List.mem_singleton.1 h]
    exact Nat.le_refl _
  | b :: s, p, h => by
    by_cases hb : b = c
    · subst hb
      rw [splitP_hit] at h
      rcases List.mem_cons.1 h with rfl | h
      · exact Nat.zero_le _
      · have := splitP_len h
        rw [List.length_cons]; omega
    · obtain ⟨q, qs, hq⟩ := splitP_cons c s
      rw [splitP_miss hb hq] at h
      have hq1 := splitP_len (c := c) (s := s) (p := q) (by rw [hq]; simp)
      rcases List.mem_cons.1 h with rfl | h
      · rw [List.length_cons, List.length_cons]; omega
      · have := splitP_len (c := c) (s := s) (p := p) (by rw [hq]; simp [h])
        rw [List.length_cons]; omega
theorem splitP_count (c : UInt8) : ∀ s : List UInt8, (splitP c s).length ≤ s.length + 1
  | [] => by rw [splitP]; simp
  | b :: s => by
    have ih := splitP_count c s
    by_cases hb : b = c
    · subst hb
      rw [splitP_hit, List.length_cons, List.length_cons]; omega
    · obtain ⟨q, qs, hq⟩ := splitP_cons c s
      rw [hq] at ih
      rw [splitP_miss hb hq, List.length_cons, List.length_cons]
      rw [List.length_cons] at ih
      omega
/-- The variable that Split reads holds some number. -/
def MaxW (w : World) : Prop := ∃ m, w.cell? ⟨0, 0, none⟩ = some (.int .i64 m)
theorem MaxW.ext {w w' : World} (h : MaxW w) (hx : Ext w w') : MaxW w' := let ⟨m, hm⟩ := h; ⟨m, hx.cell hm⟩
/-- Texts in block b. -/
def SAt (w : World) (b : Nat) (ps : List (List UInt8)) : Prop := ∀ j (h : j < ps.length), w.cell? ⟨b, j, none⟩ = some (.string (S ps[j]))
theorem SAt.ext {w w' : World} {b : Nat} {ps : List (List UInt8)} (h : SAt w b ps) (hx : Ext w w') : SAt w' b ps := fun j hj => hx.cell (h j hj)
theorem S_back (x : ByteArray) : S x.data.toList = x := by cases x; simp [S]
/-- Split. -/
theorem split_any (c : UInt8) (s : List UInt8) (w : World) (n : Nat) (hn : n = (splitP c s).length) (hs : s.length ≤ 100000000) (hm : MaxW w) :
    Calls Tryd.prog 28 #[.string (S s), .string (S [c])] w fun e w' => e = .returned (.slice (some ⟨w.heap.size, 0, none⟩) n n) ∧ SAt w' w.heap.size (splitP c s) ∧ w.heap.size < w'.heap.size ∧ Ext w w' := by
  obtain ⟨m, hm⟩ := hm
  have h := Tryd.strings_Split (S s) (S [c]) m w (by rw [S_size]; omega) hm (by rw [S_size]; exact Nat.le_refl 1)
  have e1 : (Lib.splitB (S [c]) 0 (Lib.countB (S s) (S [c])) (S s)).map (·.data.toList) = splitP c s := by rw [Lib.splitB_data]; exact splitK_P c s
  have e2 : Lib.splitB (S [c]) 0 (Lib.countB (S s) (S [c])) (S s) = (splitP c s).map S := by
    rw [← e1, List.map_map]
    refine (List.map_id'' (fun x => ?_) _).symm
    exact S_back x
  have e3 : Lib.countB (S s) (S [c]) + 1 = n := by rw [hn, ← e1, List.length_map, Lib.splitB_all _ (by rw [S_size]; exact Nat.le_refl 1) 0 _ _ rfl]
  rw [e2, e3] at h
  refine h.mono ?_
  rintro e w' ⟨rfl, rfl⟩
  refine ⟨rfl, fun j hj => ?_, by simp, (Ext.refl w).alloc _⟩
  exact (RowAt.new w 9 _).cell (by simp [hj])
theorem readAll_some {α : Type} {f : List UInt8 → Option α} : ∀ (ss : List (List UInt8)), (∀ s ∈ ss, (f s).isSome = true) → ∃ ys, readAll f ss = some ys ∧ ys.length = ss.length
  | [], _ => ⟨[], rfl, rfl⟩
  | s :: ss, h => by
    obtain ⟨ys, h1, h2⟩ := readAll_some ss (fun x hx => h x (by simp [hx]))
    obtain ⟨y, hy⟩ := Option.isSome_iff_exists.1 (h s (by simp))
    exact ⟨y :: ys, by rw [readAll, hy, h1], by rw [List.length_cons, List.length_cons, h2]⟩
theorem readAll_len {α : Type} {f : List UInt8 → Option α} : ∀ (ss : List (List UInt8)) (xs : List α), readAll f ss = some xs → xs.length = ss.length
  | [], xs, h => by cases h; rfl
  | s :: ss, xs, h => by
    rw [readAll] at h
    cases h1 : f s with
    | none => rw [h1] at h; cases h
    | some a =>
      cases h2 : readAll f ss with
      | none => rw [h1, h2] at h; cases h
      | some ys =>
        rw [h1, h2] at h
        cases h
        rw [List.length_cons, List.length_cons, readAll_len ss ys h2]
theorem readBoat_no {s : List UInt8} (h : (splitP 58 s).length ≠ 6) : readBoat s = none := by
  unfold readBoat
  cases h1 : readAll readU (splitP 58 s) with
  | none => rfl
  | some xs =>
    cases h2 : boat6 xs with
    | none => exact h2
    | some b =>
      obtain ⟨_, _, _, _, _, _, e, _⟩ := boat6_inv h2
      have hl : xs.length = (splitP 58 s).length := by
        have := readAll_len _ _ h1
        exact this
      rw [e] at hl
      exact absurd hl.symm h
theorem readBoat_none {s p : List UInt8} (hp : p ∈ splitP 58 s) (h : readU p = none) : readBoat s = none := by
  unfold readBoat
  rw [readAll_none _ p hp h]
theorem readBoat_yes {s : List UInt8} (h6 : (splitP 58 s).length = 6) (h : ∀ p ∈ splitP 58 s, (readU p).isSome = true) : readBoat s = some (looseBoat s) := by
  obtain ⟨ys, h1, h2⟩ := readAll_some _ h
  rw [h6] at h2
  match ys, h2 with
  | [a, b, c, d, e, f], _ =>
    have hr : readBoat s = some ⟨a, b, c, d, e, f⟩ := by unfold readBoat; rw [h1]; rfl
    rw [hr, looseBoat_read s _ hr]
/-- The numbers read up to the k-th part. -/
def numK (ps : List (List UInt8)) (k j : Nat) : Int := if j < k then looseN ps j else 0
theorem numK_step {ps : List (List UInt8)} {k j : Nat} (h : j ≠ k) : numK ps (k + 1) j = numK ps k j := by
  unfold numK
  by_cases h1 : j < k
  · rw [if_pos h1, if_pos (by omega)]
  · rw [if_neg h1, if_neg (by omega)]
theorem numK_at {ps : List (List UInt8)} {k : Nat} (hk : k < ps.length) : numK ps (k + 1) k = looseU ps[k] := by
  unfold numK looseN
  rw [if_pos (by omega), List.getElem?_eq_getElem hk]

set_option maxRecDepth 100000 in
set_option maxHeartbeats 4000000 in
theorem implParseBoat_any (s : List UInt8) (w : World) (hs : s.length ≤ 100000000) (hm : MaxW w) :
    Calls Tryd.prog 29 #[.string (S s)] w fun e w' => Ext w w' ∧ ((∃ b, readBoat s = some b ∧ e = .returned (.tuple #[.agg #[.int .i64 b.id, .int .i64 b.len, .int .i64 b.wid, .int .i64 b.dra, .int .i64 b.spd, .int .i64 b.cls], .bool true])) ∨
      (readBoat s = none ∧ e = .returned (.tuple #[.agg #[.int .i64 0, .int .i64 0, .int .i64 0, .int .i64 0, .int .i64 0, .int .i64 0], .bool false]))) := by
  have MW := Lib.hid hm; clear hm
  obtain ⟨n, hn⟩ : ∃ n, n = (splitP 58 s).length := ⟨_, rfl⟩
  have HN := Lib.hid hn; clear hn
  have HE := Lib.hid ((Ext.refl w).alloc (.cells #[.int .i64 0, .int .i64 0, .int .i64 0, .int .i64 0, .int .i64 0, .int .i64 0] 44))
  have RB := Lib.hid (RowAt.new w 44 #[.int .i64 0, .int .i64 0, .int .i64 0, .int .i64 0, .int .i64 0, .int .i64 0])
  by_cases h6 : n = 6
  · subst h6
    go_enter Tryd.func29, Tryd.ntmps29
    go_wp2_with fail
    refine (split_any 58 s _ 6 HN.out hs (MW.out.ext HE.out)).mono ?_
    rintro e w2 ⟨rfl, hsa, hlt, hb⟩
    simp only [World.size_alloc] at hsa hlt
    have HSA := Lib.hid hsa; clear hsa
    have KB := Lib.hid (RB.out.ext hb)
    have HX2 := Lib.hid (HE.out.trans hb)
    obtain ⟨ps, hps⟩ : ∃ ps, splitP 58 s = ps := ⟨_, rfl⟩
    have HPS := Lib.hid hps
    rw [hps] at HSA HN
    clear hps hb HE RB
    go_wp2
    have HXA := Lib.hid ((Ext.refl w2).alloc (.cells #[.int .i64 0, .int .i64 0, .int .i64 0, .int .i64 0, .int .i64 0, .int .i64 0] 68))
    have HNB := Lib.hid (show ∃ c : Array Value, RowAt (w2.alloc (.cells #[.int .i64 0, .int .i64 0, .int .i64 0, .int .i64 0, .int .i64 0, .int .i64 0] 68)) w2.heap.size 68 c ∧ ∀ j, j < 6 → c[j]? = some (.int .i64 (numK ps 0 j)) from ⟨_, RowAt.new w2 68 _, fun j hj => by
      have : j = 0 ∨ j = 1 ∨ j = 2 ∨ j = 3 ∨ j = 4 ∨ j = 5 := by omega
      rcases this with rfl | rfl | rfl | rfl | rfl | rfl <;> rfl⟩)
    go_loopw [18] (fun i wr => ∃ k : Nat, i = .int .i64 k ∧ k ≤ 6 ∧ w2.heap.size < wr.heap.size ∧ Hid (Ext w2 wr) ∧ Hid (∃ c : Array Value, RowAt wr w2.heap.size 68 c ∧ ∀ j, j < 6 → c[j]? = some (.int .i64 (numK ps k j))) ∧ Hid (∀ j (h : j < ps.length), j < k → (readU ps[j]).isSome = true)) (fun i _ => 6 - (intOf i).toNat)
    case atStart => exact ⟨0, rfl, by omega, by simp, HXA, HNB, Lib.hid (fun j h hj => absurd hj (Nat.not_lt_zero _))⟩
    case round =>
      clear HXA HNB
      obtain ⟨w3, rfl⟩ : ∃ x, x = wr := ⟨_, rfl⟩
      obtain ⟨k, rfl, hk, hsz, hr, hnb, hrd⟩ := hrel
      have K3 := Lib.hid (KB.out.ext hr.out)
      by_cases hlt6 : k < 6
      · have hkp : k < ps.length := by rw [← HN.out]; exact hlt6
        obtain ⟨p, hp⟩ : ∃ p, ps[k] = p := ⟨_, rfl⟩
        have c0 : w3.cell? ⟨w.heap.size + 1, k, none⟩ = some (.string (S p)) := by rw [← hp]; exact hr.out.cell (HSA.out k hkp)
        have hltz : (k : Int) < 6 := by omega
        have HPK := Lib.hid hp; clear hp
        go_wp2_with fail
        refine (implParseUint_any p _).mono ?_
        rintro e w4 ⟨rfl, he⟩
        rw [he]
        clear he w4 c0
        obtain ⟨L, hL⟩ : ∃ L, looseU p = L := ⟨_, rfl⟩
        rw [hL]
        cases hO : readU p with
        | none =>
          have hR := Lib.hid (readBoat_none (s := s) (p := p) (by rw [HPS.out, ← HPK.out]; exact List.getElem_mem _) hO)
          have f0 := K3.out.frozen 0; have f1 := K3.out.frozen 1; have f2 := K3.out.frozen 2; have f3 := K3.out.frozen 3; have f4 := K3.out.frozen 4; have f5 := K3.out.frozen 5
          have c0 := K3.out.cell (j := 0) (v := .int .i64 0) rfl; have c1 := K3.out.cell (j := 1) (v := .int .i64 0) rfl; have c2 := K3.out.cell (j := 2) (v := .int .i64 0) rfl; have c3 := K3.out.cell (j := 3) (v := .int .i64 0) rfl; have c4 := K3.out.cell (j := 4) (v := .int .i64 0) rfl; have c5 := K3.out.cell (j := 5) (v := .int .i64 0) rfl
          have HX := HX2.out.trans hr.out
          clear hL hO
          have hns : (none : Option Nat).isSome = false := rfl
          go_wp2
          refine bodyPost_ret (v := .tuple #[.agg #[.int .i64 0, .int .i64 0, .int .i64 0, .int .i64 0, .int .i64 0, .int .i64 0], .bool false]) (by simp [results, Tryd.results29, go_sem, *]) rfl ⟨?_, .inr ⟨hR.out, rfl⟩⟩
          (repeat' (first | (with_reducible exact Ext.refl _) | (with_reducible assumption) | (with_reducible refine Ext.alloc ?_ _) | (with_reducible refine Ext.drewN ?_ _) | (with_reducible refine Ext.drew ?_) | (with_reducible refine Ext.setCell ?_ ?_ _) | (with_reducible exact Nat.le_refl _) | (with_reducible exact Nat.le_succ _) | (with_reducible refine Ext.trans ?_ (by assumption)) | (simp; done) | (simp; omega)))
        | some x =>
          obtain ⟨c, hrow, hcs⟩ := hnb.out
          have HNB := Lib.hid (show ∃ c : Array Value, RowAt (w3.setCell ⟨w2.heap.size, k, none⟩ (.int .i64 L)) w2.heap.size 68 c ∧ ∀ j, j < 6 → c[j]? = some (.int .i64 (numK ps (k + 1) j)) from ⟨_, hrow.set k (.int .i64 L), fun j hj => by
            have hsz6 : k < c.size := (Array.getElem?_eq_some_iff.1 (hcs k hlt6)).1
            rw [Array.getElem?_setIfInBounds]
            by_cases hjk : k = j
            · subst hjk
              rw [if_pos rfl, if_pos hsz6, numK_at hkp, HPK.out, hL]
            · rw [if_neg hjk, hcs j hj, numK_step (fun e => hjk e.symm)]⟩)
          have HRD := Lib.hid (show ∀ j (h : j < ps.length), j < k + 1 → (readU ps[j]).isSome = true from fun j h hj => by
            by_cases hjk : j = k
            · subst hjk
              rw [HPK.out, hO]; rfl
            · exact hrd.out j h (by omega))
          have n0 : w3.cell? ⟨w2.heap.size, k, none⟩ = some (.int .i64 (numK ps k k)) := hrow.cell (hcs k hlt6)
          have n1 := hrow.frozen k
          have HXS := Lib.hid (hr.out.setCell (p := ⟨w2.heap.size, k, none⟩) (Nat.le_refl _) (.int .i64 L))
          have hss : (some x : Option Nat).isSome = true := rfl
          clear hL hO hrow hcs
          go_wp2
          clear n0 n1
          go_roundw
          case rel => exact ⟨k + 1, by go_num, by omega, by simpa [World.setCell] using hsz, HXS, HNB, HRD⟩
          case measure => simp [intOf]; omega
      · have hk6 : k = 6 := by omega
        subst hk6
        obtain ⟨c, hrow, hcs⟩ := hnb.out
        have hall : ∀ p ∈ splitP 58 s, (readU p).isSome = true := fun p hp => by
          rw [HPS.out] at hp
          obtain ⟨j, hj, rfl⟩ := List.getElem_of_mem hp
          exact hrd.out j hj (by have := HN.out; omega)
        have hRY := readBoat_yes (s := s) (by rw [HPS.out]; exact HN.out.symm) hall
        have hLB : looseBoat s = ⟨numK ps 6 0, numK ps 6 1, numK ps 6 2, numK ps 6 3, numK ps 6 4, numK ps 6 5⟩ := by unfold looseBoat; rw [HPS.out]; rfl
        rw [hLB] at hRY
        have y0 : w3.cell? ⟨w2.heap.size, 0, none⟩ = some (.int .i64 (numK ps 6 0)) := hrow.cell (hcs 0 (by omega))
        have y1 : w3.cell? ⟨w2.heap.size, 1, none⟩ = some (.int .i64 (numK ps 6 1)) := hrow.cell (hcs 1 (by omega))
        have y2 : w3.cell? ⟨w2.heap.size, 2, none⟩ = some (.int .i64 (numK ps 6 2)) := hrow.cell (hcs 2 (by omega))
        have y3 : w3.cell? ⟨w2.heap.size, 3, none⟩ = some (.int .i64 (numK ps 6 3)) := hrow.cell (hcs 3 (by omega))
        have y4 : w3.cell? ⟨w2.heap.size, 4, none⟩ = some (.int .i64 (numK ps 6 4)) := hrow.cell (hcs 4 (by omega))
        have y5 : w3.cell? ⟨w2.heap.size, 5, none⟩ = some (.int .i64 (numK ps 6 5)) := hrow.cell (hcs 5 (by omega))
        obtain ⟨x0, hx0⟩ : ∃ x, numK ps 6 0 = x := ⟨_, rfl⟩
        obtain ⟨x1, hx1⟩ : ∃ x, numK ps 6 1 = x := ⟨_, rfl⟩
        obtain ⟨x2, hx2⟩ : ∃ x, numK ps 6 2 = x := ⟨_, rfl⟩
        obtain ⟨x3, hx3⟩ : ∃ x, numK ps 6 3 = x := ⟨_, rfl⟩
        obtain ⟨x4, hx4⟩ : ∃ x, numK ps 6 4 = x := ⟨_, rfl⟩
        obtain ⟨x5, hx5⟩ : ∃ x, numK ps 6 5 = x := ⟨_, rfl⟩
        rw [hx0] at y0 hRY; rw [hx1] at y1 hRY; rw [hx2] at y2 hRY; rw [hx3] at y3 hRY; rw [hx4] at y4 hRY; rw [hx5] at y5 hRY
        have HRY := Lib.hid hRY
        clear hx0 hx1 hx2 hx3 hx4 hx5 hRY hLB hall hrow hcs
        have f0 := K3.out.frozen 0; have f1 := K3.out.frozen 1; have f2 := K3.out.frozen 2; have f3 := K3.out.frozen 3; have f4 := K3.out.frozen 4; have f5 := K3.out.frozen 5
        have c0 := K3.out.cell (j := 0) (v := .int .i64 0) rfl; have c1 := K3.out.cell (j := 1) (v := .int .i64 0) rfl; have c2 := K3.out.cell (j := 2) (v := .int .i64 0) rfl; have c3 := K3.out.cell (j := 3) (v := .int .i64 0) rfl; have c4 := K3.out.cell (j := 4) (v := .int .i64 0) rfl; have c5 := K3.out.cell (j := 5) (v := .int .i64 0) rfl
        have HX := HX2.out.trans hr.out
        go_wp2
        refine bodyPost_ret (v := .tuple #[.agg #[.int .i64 x0, .int .i64 x1, .int .i64 x2, .int .i64 x3, .int .i64 x4, .int .i64 x5], .bool true]) (by simp [results, Tryd.results29, go_sem, *]) rfl ⟨?_, .inl ⟨_, HRY.out, rfl⟩⟩
        (repeat' (first | (with_reducible exact Ext.refl _) | (with_reducible assumption) | (with_reducible refine Ext.alloc ?_ _) | (with_reducible refine Ext.drewN ?_ _) | (with_reducible refine Ext.drew ?_) | (with_reducible refine Ext.setCell ?_ ?_ _) | (with_reducible exact Nat.le_refl _) | (with_reducible exact Nat.le_succ _) | (with_reducible refine Ext.trans ?_ (by assumption)) | (simp; done) | (simp; omega)))
  · have hR := Lib.hid (readBoat_no (s := s) (by rw [← HN.out]; exact h6))
    have e6 : ((n : Int) != 6) = true := by simp; omega
    go_enter Tryd.func29, Tryd.ntmps29
    go_wp2_with fail
    refine (split_any 58 s _ n HN.out hs (MW.out.ext HE.out)).mono ?_
    rintro e w2 ⟨rfl, hsa, hlt, hb⟩
    have KB := Lib.hid (RB.out.ext hb)
    have f0 := KB.out.frozen 0; have f1 := KB.out.frozen 1; have f2 := KB.out.frozen 2; have f3 := KB.out.frozen 3; have f4 := KB.out.frozen 4; have f5 := KB.out.frozen 5
    have c0 := KB.out.cell (j := 0) (v := .int .i64 0) rfl; have c1 := KB.out.cell (j := 1) (v := .int .i64 0) rfl; have c2 := KB.out.cell (j := 2) (v := .int .i64 0) rfl; have c3 := KB.out.cell (j := 3) (v := .int .i64 0) rfl; have c4 := KB.out.cell (j := 4) (v := .int .i64 0) rfl; have c5 := KB.out.cell (j := 5) (v := .int .i64 0) rfl
    have HX := HE.out.trans hb
    go_wp2
    refine bodyPost_ret (v := .tuple #[.agg #[.int .i64 0, .int .i64 0, .int .i64 0, .int .i64 0, .int .i64 0, .int .i64 0], .bool false]) (by simp [results, Tryd.results29, go_sem, *]) rfl ⟨?_, .inr ⟨hR.out, rfl⟩⟩
    (repeat' (first | (with_reducible exact Ext.refl _) | (with_reducible assumption) | (with_reducible refine Ext.alloc ?_ _) | (with_reducible refine Ext.drewN ?_ _) | (with_reducible refine Ext.drew ?_) | (with_reducible refine Ext.setCell ?_ ?_ _) | (with_reducible exact Nat.le_refl _) | (with_reducible exact Nat.le_succ _) | (with_reducible refine Ext.trans ?_ (by assumption)) | (simp; done) | (simp; omega)))
end Go.Proofs.YtjjikcjhnglkaaaDoor
