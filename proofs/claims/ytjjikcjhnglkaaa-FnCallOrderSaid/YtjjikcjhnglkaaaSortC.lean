/- The sort of a list of ints by OrderCalls' closure: insertionSortCmpFunc, stableCmpFunc, SortStableFunc. -/
import Derived.Test.YtjjikcjhnglkaaaProg
import Derived.Test.YtjjikcjhnglkaaaOrdC
import Derived.Test.YtjjikcjhnglkaaaMark
import Derived.Sort.LotA
import Derived.Sort.WalkA
import Derived.Shelf.RegionOpenPlain
import Derived.BigRegion
namespace Go.Proofs.Ytjjikcjhnglkaaa
open Go.RowKit Go.Sort
set_option linter.unusedSimpArgs false
set_option linter.unusedVariables false

def ltI (cf : Int → Int → Int) (x y : Int) : Bool := decide (cf x y < 0)
/-- The row of ints that is being sorted: the rest of the world is as it was in w1. -/
def SR (w1 W : World) (g off : Nat) (d : Array Int) : Prop := Ext w1 W ∧ w1.heap.size ≤ g ∧ ∃ cur, RowAt W g 3 cur ∧ ∀ k, k < d.size → cur[off + k]? = some (.int .i64 d[k]!)
theorem SR.to {w1 W W' : World} {g off : Nat} {d : Array Int} (h : SR w1 W g off d) (hx : Ext W W') : SR w1 W' g off d :=
  let ⟨h1, h2, cur, h3, h4⟩ := h; ⟨h1.trans hx, h2, cur, h3.ext hx, h4⟩
theorem SR.cell {w1 W : World} {g off : Nat} {d : Array Int} (h : SR w1 W g off d) (k : Nat) (hk : k < d.size) : W.cell? ⟨g, off + k, none⟩ = some (.int .i64 d[k]!) :=
  let ⟨_, _, cur, h3, h4⟩ := h; h3.cell (h4 k hk)
theorem SR.frozen {w1 W : World} {g off : Nat} {d : Array Int} (h : SR w1 W g off d) (k : Nat) : W.frozen? ⟨g, k, none⟩ = false :=
  let ⟨_, _, cur, h3, h4⟩ := h; h3.frozen k
theorem SR.set {w1 W : World} {g off : Nat} {d : Array Int} (h : SR w1 W g off d) (i : Nat) (hi : i < d.size) (x : Int) : SR w1 (W.setCell ⟨g, off + i, none⟩ (.int .i64 x)) g off (d.setIfInBounds i x) := by
  obtain ⟨h1, h2, cur, h3, h4⟩ := h
  have hsz : off + i < cur.size := (Array.getElem?_eq_some_iff.1 (h4 i hi)).1
  refine ⟨h1.setCell h2 _, h2, _, h3.set _ _, fun k hk => ?_⟩
  rw [Array.size_setIfInBounds] at hk
  by_cases e : k = i
  · subst e
    rw [Array.getElem?_setIfInBounds_self_of_lt hsz]
    simp [hk]
  · rw [Array.getElem?_setIfInBounds_ne (by omega), h4 k hk]
    simp only [getElem!_def]
    rw [Array.getElem?_setIfInBounds_ne (by omega)]
theorem SR.swap {w1 W : World} {g off : Nat} {d : Array Int} (h : SR w1 W g off d) (i j : Nat) (hi : i < d.size) (hj : j < d.size) :
    SR w1 ((W.setCell ⟨g, off + i, none⟩ (.int .i64 d[j]!)).setCell ⟨g, off + j, none⟩ (.int .i64 d[i]!)) g off (swp d i j) :=
  (h.set i hi _).set j (by simpa using hj) _
theorem SR.drew {w1 W : World} {g off : Nat} {d : Array Int} (h : SR w1 W g off d) : SR w1 W.drew g off d := h.to ((Ext.refl _).drew)

theorem swp_all {p : Int → Prop} {d : Array Int} {i j : Nat} (hi : i < d.size) (hj : j < d.size) (h : ∀ k, k < d.size → p d[k]!) : ∀ k, k < d.size → p (swp d i j)[k]! := by
  intro k hk
  rw [swp_get d hi hj]
  split
  · exact h i hi
  split
  · exact h j hj
  exact h k hk

set_option maxRecDepth 100000 in
set_option maxHeartbeats 4000000 in
theorem isort_any (cf : Int → Int → Int) (cb : Array Value) (p : Int → Prop) (w1 : World)
    (hcmp : ∀ W, Ext w1 W → ∀ x y, p x → p y → Calls Try.prog 15 (#[.int .i64 x, .int .i64 y] ++ cb) W fun e w' => e = .returned (.int .i64 (cf x y)) ∧ Ext W w')
    (g off cap n : Nat) (d : Array Int) (w : World) (hn : n = d.size) (hs : n ≤ 100) (hp : ∀ k, k < d.size → p d[k]!) (hr : SR w1 w g off d) :
    Calls Try.prog 28 #[.slice (some ⟨g, off, none⟩) n cap, .int .i64 0, .int .i64 n, .func (.func 15) #[] cb] w fun e w' => e = .returned (.tuple #[]) ∧ SR w1 w' g off (insertionSort (ltI cf) d 0 n) := by
  have HC := Lib.hid hcmp; have HR := Lib.hid hr; have HP := Lib.hid hp; have HN := Lib.hid hn
  clear hcmp hr hp hn
  go_enter Try.func28, Try.ntmps28
  go_wp2
  go_loopw [8] (fun vi wr => ∃ (i : Nat) (dk : Array Int), vi = .int .i64 i ∧ 0 < i ∧ i ≤ n + 1 ∧ Hid (dk.size = n) ∧ Hid (SR w1 wr g off dk) ∧ Hid (∀ k, k < dk.size → p dk[k]!) ∧ Hid (insOuter (ltI cf) 0 n i dk = insOuter (ltI cf) 0 n 1 d)) (fun vi _ => n + 1 - (intOf vi).toNat)
  case atStart => exact ⟨1, d, rfl, by omega, by omega, HN.out.symm, HR.out, HP.out, rfl⟩
  case round =>
    obtain ⟨i, dk, rfl, hi0, hin, hsk, S1, P1, HO⟩ := hrel
    by_cases hlt : i < n
    · have hltz : (i : Int) < (n : Int) := by omega
      go_wp2
      go_loopw [9] (fun vj wr2 => ∃ (j : Nat) (dj : Array Int), vj = .int .i64 j ∧ j ≤ i ∧ Hid (dj.size = n) ∧ Hid (SR w1 wr2 g off dj) ∧ Hid (∀ k, k < dj.size → p dj[k]!) ∧ Hid (insInner (ltI cf) 0 j dj = insInner (ltI cf) 0 i dk)) (fun vj _ => (intOf vj).toNat)
      case atStart => exact ⟨i, dk, rfl, Nat.le_refl _, hsk, S1, P1, rfl⟩
      case round =>
        clear S1 P1
        obtain ⟨j, dj, rfl, hji, hsj, SJ, PJ, HI⟩ := hrel
        have OUT := Lib.hid (show (j ≤ 0 ∨ ltI cf dj[j]! dj[j - 1]! = false) → insOuter (ltI cf) 0 n (i + 1) dj = insOuter (ltI cf) 0 n 1 d from fun h => by
          rw [← HO.out, insOuter_go _ _ _ _ _ hlt, ← HI.out, insInner_stop _ _ _ _ h])
        by_cases hj0 : j = 0
        · subst hj0
          go_wp2_with fail
          (refine wp_region_aft wr (Ext.refl _) (by kernel_rfl) (by kernel_rfl) ?_; (repeat (go_big_quiet_step (fail))); refine wpQuiet_nil ?_; intro w2 hx2)
          go_wp2
          go_roundw
          case rel => exact ⟨i + 1, dj, by go_num, by omega, by omega, hsj, SJ.out.to hx2, PJ, OUT.out (.inl (by omega))⟩
          case measure => simp [intOf]; omega
        obtain ⟨jp, hjp⟩ : ∃ q, j = q + 1 := ⟨j - 1, by omega⟩
        subst hjp
        have hsj' := hsj.out
        obtain ⟨x1, hx1⟩ : ∃ x, x = dj[jp + 1]! := ⟨_, rfl⟩
        obtain ⟨x0, hx0⟩ : ∃ x, x = dj[jp]! := ⟨_, rfl⟩
        have hp1 : p x1 := hx1 ▸ PJ.out (jp + 1) (by omega)
        have hp0 : p x0 := hx0 ▸ PJ.out jp (by omega)
        obtain ⟨iN, hiN⟩ : ∃ q, q = jp + 1 := ⟨_, rfl⟩
        have l1 : ∀ y : Aft wr, y.1.cell? ⟨g, off + iN, none⟩ = some (.int .i64 x1) := fun y => by rw [hiN, hx1]; exact (SJ.out.to y.2).cell _ (by omega)
        have l0 : ∀ y : Aft wr, y.1.cell? ⟨g, off + jp, none⟩ = some (.int .i64 x0) := fun y => by rw [hx0]; exact (SJ.out.to y.2).cell _ (by omega)
        have hc : ∀ y : Aft wr, Calls Try.prog 15 (#[.int .i64 x1, .int .i64 x0] ++ cb) y.1 fun e w' => e = .returned (.int .i64 (cf x1 x0)) ∧ Ext y.1 w' := fun y => HC.out _ (SJ.out.1.trans y.2) _ _ hp1 hp0
        have ea : ((jp : Int) + 1).toNat = iN := by omega
        have pa : (0 : Int) ≤ (jp : Int) + 1 := by omega
        have ba : (jp : Int) + 1 < (n : Int) := by omega
        have ra : IntKind.i64.wrap ((jp : Int) + 1) = (jp : Int) + 1 := by rw [IntKind.wrap_i64]; omega
        have bc : (jp : Int) < (n : Int) := by omega
        have rc : IntKind.i64.wrap (jp : Int) = (jp : Int) := by rw [IntKind.wrap_i64]; omega
        have pj : (0 : Int) < (jp : Int) + 1 := by omega
        have HX1 := Lib.hid hx1; have HX0 := Lib.hid hx0; have HIN := Lib.hid hiN
        clear hx1 hx0 hiN hsj' hp1 hp0
        by_cases hlv : cf x1 x0 < 0
        · have hd : decide (cf x1 x0 < 0) = true := decide_eq_true hlv
          go_wp2_with fail
          (refine wp_region_aft wr (Ext.refl _) (by kernel_rfl) (by kernel_rfl) ?_; (repeat (go_big_quiet_step ((go_at_call 15; exact aft_call (hc _))))); refine wpQuiet_nil ?_; intro w2 hx2)
          have S2 := Lib.hid (SJ.out.to hx2)
          have S3 := Lib.hid (show SR w1 ((w2.setCell ⟨g, off + iN, none⟩ (.int .i64 x0)).setCell ⟨g, off + jp, none⟩ (.int .i64 x1)).drew g off (swp dj (jp + 1) jp) from by
            rw [HIN.out, HX1.out, HX0.out]; exact (S2.out.swap (jp + 1) jp (by have := hsj.out; omega) (by have := hsj.out; omega)).drew)
          have c1 := l1 ⟨w2, hx2⟩
          have c0 := l0 ⟨w2, hx2⟩
          dsimp only at c1 c0
          have f1 : w2.frozen? ⟨g, off + iN, none⟩ = false := S2.out.frozen _
          have f0 : w2.frozen? ⟨g, off + jp, none⟩ = false := S2.out.frozen _
          obtain ⟨u, c2⟩ : ∃ u, (w2.setCell ⟨g, off + iN, none⟩ (.int .i64 x0)).cell? ⟨g, off + jp, none⟩ = some u := by
            rw [HIN.out]; exact ⟨_, (S2.out.set (jp + 1) (by have := hsj.out; omega) x0).cell jp (by have := hsj.out; simp; omega)⟩
          have f2 : (w2.setCell ⟨g, off + iN, none⟩ (.int .i64 x0)).frozen? ⟨g, off + jp, none⟩ = false := by
            rw [HIN.out]; exact (S2.out.set (jp + 1) (by have := hsj.out; omega) x0).frozen _
          clear l1 l0 hc hx2
          go_wp2_with fail
          have hmx : Try.prog.follows .mixedOrders = true := by kernel_rfl
          go_big_region_o
          clear c1 c0 f1 f0 c2 f2 S2
          generalize ((w2.setCell ⟨g, off + iN, none⟩ (.int .i64 x0)).setCell ⟨g, off + jp, none⟩ (.int .i64 x1)).drew = w3 at S3 ⊢
          go_wp2
          go_roundw
          case rel => exact ⟨jp, swp dj (jp + 1) jp, by first | rfl | go_num | (congr 1; omega), by omega, (show Hid _ from (by show (swp dj (jp + 1) jp).size = n; rw [swp_size]; exact hsj.out)), S3, (show Hid _ from (by
            show ∀ k, k < (swp dj (jp + 1) jp).size → p (swp dj (jp + 1) jp)[k]!
            rw [swp_size]; exact swp_all (by have := hsj.out; omega) (by have := hsj.out; omega) PJ.out)), (show Hid _ from (by
            show insInner (ltI cf) 0 jp (swp dj (jp + 1) jp) = insInner (ltI cf) 0 i dk
            rw [← HI.out, insInner_go (ltI cf) 0 (jp + 1) dj (by omega) (by rw [Nat.add_sub_cancel, ← HX1.out, ← HX0.out]; exact hd), Nat.add_sub_cancel]))⟩
          case measure => simp [intOf]
        · have hd : decide (cf x1 x0 < 0) = false := decide_eq_false hlv
          go_wp2_with fail
          (refine wp_region_aft wr (Ext.refl _) (by kernel_rfl) (by kernel_rfl) ?_; (repeat (go_big_quiet_step ((go_at_call 15; exact aft_call (hc _))))); refine wpQuiet_nil ?_; intro w2 hx2)
          go_wp2
          go_roundw
          case rel => exact ⟨i + 1, dj, by go_num, by omega, by omega, hsj, SJ.out.to hx2, PJ, OUT.out (.inr (by rw [Nat.add_sub_cancel, ← HX1.out, ← HX0.out]; exact hd))⟩
          case measure => simp [intOf]; omega
    · have hltz : ¬ (i : Int) < (n : Int) := by omega
      go_wp2
      go_end0
      exact ⟨rfl, by unfold insertionSort; rw [← insOuter_stop (ltI cf) 0 n i dk hlt, HO.out] at S1; exact S1.out⟩

set_option maxRecDepth 100000 in
set_option maxHeartbeats 4000000 in
theorem stable_any (cf : Int → Int → Int) (cb : Array Value) (p : Int → Prop) (w1 : World)
    (hcmp : ∀ W, Ext w1 W → ∀ x y, p x → p y → Calls Try.prog 15 (#[.int .i64 x, .int .i64 y] ++ cb) W fun e w' => e = .returned (.int .i64 (cf x y)) ∧ Ext W w')
    (g off cap n : Nat) (d : Array Int) (w : World) (hn : n = d.size) (hs : n ≤ 19) (hp : ∀ k, k < d.size → p d[k]!) (hr : SR w1 w g off d) :
    Calls Try.prog 23 #[.slice (some ⟨g, off, none⟩) n cap, .int .i64 n, .func (.func 15) #[] cb] w fun e w' => e = .returned (.tuple #[]) ∧ SR w1 w' g off (insertionSort (ltI cf) d 0 n) := by
  have HC := Lib.hid hcmp; have HR := Lib.hid hr; have HP := Lib.hid hp; have HN := Lib.hid hn
  clear hcmp hr hp hn
  have h20 : ¬ (20 : Int) ≤ (n : Int) := by omega
  have h21 : ¬ (20 : Int) < (n : Int) := by omega
  go_enter Try.func23, Try.ntmps23
  go_wp2
  go_loopw [7, 8] (fun va vb wr => va = .int .i64 0 ∧ vb = .int .i64 20 ∧ w = wr) (fun _ _ _ => 0)
  case atStart => exact ⟨rfl, rfl, rfl⟩
  case round =>
    obtain ⟨rfl, rfl, rfl⟩ := hrel
    go_wp2_with fail
    refine (isort_any cf cb p w1 HC.out g off cap n d _ HN.out (by omega) HP.out HR.out).mono ?_
    rintro e w2 ⟨rfl, hs2⟩
    have HS := Lib.hid hs2; clear hs2
    go_wp2
    go_loopw [6, 7, 8, 9] (fun v6 _ _ _ wr => v6 = .int .i64 20 ∧ w2 = wr) (fun _ _ _ _ _ => 0)
    case atStart => exact ⟨rfl, rfl⟩
    case round =>
      obtain ⟨rfl, rfl⟩ := hrel
      go_wp2
      go_end0
      exact ⟨rfl, HS.out⟩

set_option maxHeartbeats 2000000 in
theorem sortStable_any (cf : Int → Int → Int) (cb : Array Value) (p : Int → Prop) (w1 : World)
    (hcmp : ∀ W, Ext w1 W → ∀ x y, p x → p y → Calls Try.prog 15 (#[.int .i64 x, .int .i64 y] ++ cb) W fun e w' => e = .returned (.int .i64 (cf x y)) ∧ Ext W w')
    (g off cap n : Nat) (d : Array Int) (w : World) (hn : n = d.size) (hs : n ≤ 19) (hp : ∀ k, k < d.size → p d[k]!) (hr : SR w1 w g off d) :
    Calls Try.prog 14 #[.slice (some ⟨g, off, none⟩) n cap, .func (.func 15) #[] cb] w fun e w' => e = .returned (.tuple #[]) ∧ SR w1 w' g off (insertionSort (ltI cf) d 0 n) := by
  have HC := Lib.hid hcmp; have HR := Lib.hid hr; have HP := Lib.hid hp; have HN := Lib.hid hn
  clear hcmp hr hp hn
  go_enter Try.func14, Try.ntmps14
  go_wp2_with fail
  refine (stable_any cf cb p w1 HC.out g off cap n d _ HN.out hs HP.out HR.out).mono ?_
  rintro e w2 ⟨rfl, hs2⟩
  go_wp2
  go_end0
  exact ⟨rfl, hs2⟩
end Go.Proofs.Ytjjikcjhnglkaaa
