/- Draws of boats and of trains. -/
import Derived.Test.YtjjikcjhnglkaaaProg
import Derived.Test.YtjjikcjhnglkaaaDraw
import Derived.Test.YtjjikcjhnglkaaaReform
namespace Go.Proofs.Ytjjikcjhnglkaaa
open Go.RowKit
set_option linter.unusedSimpArgs false
set_option linter.unusedVariables false

set_option maxHeartbeats 1000000 in
theorem l01Once_any (w0 w : World) (B : Nat) (bs : List Int) (m : Int) (h0 : 0 < m) (h1 : m ≤ 1000000000000) (hc : CurAt w0 w B bs) :
    Calls Try.prog 26 #[.pointer (some ⟨B, 0, none⟩), .int .i64 m] w fun e w' => ∃ b : Bool, e = .returned (.bool b) ∧ CurAt w0 w' B bs ∧ w.grownBy w' (some B) := by
  have HC := Lib.hid hc; clear hc
  go_enter Try.func26, Try.ntmps26
  go_wp2_with fail
  refine (l01Below_any w0 _ B bs m h0 h1 HC.out).mono ?_
  rintro e w1 ⟨z, hz, rfl, hc1, ho1⟩
  have HC1 := Lib.hid hc1; clear hc1
  have HO1 := Lib.hid ho1; clear ho1
  go_wp2
  go_ret
  exact ⟨_, rfl, HC1.out, HO1.out⟩

set_option maxHeartbeats 1000000 in
theorem l01PickInt_any (w0 w : World) (B : Nat) (bs : List Int) (a : Option Addr) (n c : Nat) (xs : List Int) (hn : n = xs.length) (hp : 0 < n) (hs : n ≤ 1000) (hf : IntsAt w a xs) (hB : ∀ ad, a = some ad → ad.block ≠ B) (hc : CurAt w0 w B bs) :
    Calls Try.prog 19 #[.pointer (some ⟨B, 0, none⟩), .slice a n c] w fun e w' => ∃ x ∈ xs, e = .returned (.int .i64 x) ∧ CurAt w0 w' B bs ∧ w.grownBy w' (some B) := by
  have HC := Lib.hid hc; clear hc
  have HF := Lib.hid hf; clear hf
  have HN := Lib.hid hn; clear hn
  have HBB := Lib.hid hB; clear hB
  go_enter Try.func19, Try.ntmps19
  go_wp2_with fail
  refine (l01Below_any w0 _ B bs n (by omega) (by omega) HC.out).mono ?_
  rintro e w1 ⟨z, ⟨hz0, hz1⟩, rfl, hc1, ho1⟩
  obtain ⟨j, rfl⟩ := Int.eq_ofNat_of_zero_le hz0
  have hj : j < n := by omega
  have hj' : j < xs.length := by rw [← HN.out]; exact hj
  obtain ⟨b, off, rfl, hcell⟩ := HF.out j hj'
  have hcell1 : w1.cell? ⟨b, off + j, none⟩ = some (.int .i64 xs[j]) := (World.cell?_of_block (ho1.block b (World.block_lt_of_cell? w _ hcell) (fun e => HBB.out _ rfl (Option.some.inj e)))).trans hcell
  obtain ⟨x, hx⟩ : ∃ x, xs[j] = x := ⟨_, rfl⟩
  have HX := Lib.hid (show x ∈ xs by rw [← hx]; exact List.getElem_mem _)
  rw [hx] at hcell1
  clear hx hcell
  have HC1 := Lib.hid hc1; clear hc1
  have HO1 := Lib.hid ho1; clear ho1
  go_wp2
  go_ret
  exact ⟨x, HX.out, rfl, HC1.out, HO1.out⟩

/-- A boat that has been drawn. -/
def BtOk (id : Int) (b : Bt) : Prop := b.id = id ∧ (1 ≤ b.len ∧ b.len ≤ 200) ∧ (1 ≤ b.wid ∧ b.wid ≤ 9) ∧ (1 ≤ b.dra ∧ b.dra ≤ 30) ∧ (1 ≤ b.spd ∧ b.spd ≤ 12) ∧ (0 ≤ b.cls ∧ b.cls ≤ 2)
theorem ints_new (w : World) (x0 x1 x2 x3 : Int) : IntsAt (w.alloc (.cells #[.int .i64 x0, .int .i64 x1, .int .i64 x2, .int .i64 x3] 3)) (some ⟨w.heap.size, 0, none⟩) [x0, x1, x2, x3] := by
  intro k hk
  refine ⟨w.heap.size, 0, rfl, ?_⟩
  rw [Nat.zero_add]
  have h := RowAt.new w 3 #[.int .i64 x0, .int .i64 x1, .int .i64 x2, .int .i64 x3]
  match k, hk with
  | 0, _ => exact h.cell rfl
  | 1, _ => exact h.cell rfl
  | 2, _ => exact h.cell rfl
  | 3, _ => exact h.cell rfl

set_option maxRecDepth 100000 in
set_option maxHeartbeats 2000000 in
theorem l04Boat_any (w0 w : World) (B : Nat) (bs : List Int) (id : Int) (hc : CurAt w0 w B bs) :
    Calls Try.prog 27 #[.pointer (some ⟨B, 0, none⟩), .int .i64 id] w fun e w' => ∃ bt : Bt, BtOk id bt ∧ e = .returned (.agg #[.int .i64 bt.id, .int .i64 bt.len, .int .i64 bt.wid, .int .i64 bt.dra, .int .i64 bt.spd, .int .i64 bt.cls]) ∧ CurAt w0 w' B bs ∧ w.grownBy w' (some B) := by
  have zB := hc.lt
  have HC := Lib.hid hc; clear hc
  have RZ := RowAt.new w 57 #[.int .i64 0, .int .i64 0, .int .i64 0, .int .i64 0, .int .i64 0, .int .i64 0]
  have E2 := ((Ext.refl w).alloc (.cells #[.int .i64 0, .int .i64 0, .int .i64 0, .int .i64 0, .int .i64 0, .int .i64 0] 57)).alloc (.cells #[.int .i64 5, .int .i64 12, .int .i64 30, .int .i64 80] 3)
  have HIN := Lib.hid (ints_new (w.alloc (.cells #[.int .i64 0, .int .i64 0, .int .i64 0, .int .i64 0, .int .i64 0, .int .i64 0] 57)) 5 12 30 80)
  rw [World.size_alloc] at HIN
  go_enter Try.func27, Try.ntmps27
  go_wp2_with fail
  refine (l01PickInt_any w0 _ B bs _ 4 _ [5, 12, 30, 80] rfl (by decide) (by decide) HIN.out (fun ad e => by cases e; dsimp only; omega) (HC.out.ext E2)).mono ?_
  rintro e w1 ⟨x, hx, rfl, hc1, ho1⟩
  have HXL := Lib.hid (show 1 ≤ x ∧ x ≤ 200 by simp at hx; omega)
  clear hx
  have HR1 := Lib.hid ((RZ.ext ((Ext.refl _).alloc (.cells #[.int .i64 5, .int .i64 12, .int .i64 30, .int .i64 80] 3))).only ho1 (by omega))
  have HO1 := Lib.hid (show w.grownBy w1 (some B) from ⟨ho1.os, ho1.tape, ho1.output, Nat.le_trans E2.size ho1.size, fun k hk hne => (ho1.block k (Nat.lt_of_lt_of_le hk E2.size) hne).trans (E2.below.block k hk)⟩)
  have HC1 := Lib.hid hc1
  clear hc1 ho1 RZ E2
  go_wp2_with fail
  refine (l01Below_any w0 _ B bs 9 (by decide) (by decide) HC1.out).mono ?_
  rintro e w2 ⟨y2, hy2, rfl, hc2, ho2⟩
  have HC2 := Lib.hid hc2
  have HR2 := Lib.hid (HR1.out.only ho2 (by omega))
  have HO2 := Lib.hid (only_trans HO1.out ho2)
  clear hc2 ho2
  go_wp2_with fail
  refine (l01Below_any w0 _ B bs 30 (by decide) (by decide) HC2.out).mono ?_
  rintro e w3 ⟨y3, hy3, rfl, hc3, ho3⟩
  have HC3 := Lib.hid hc3
  have HR3 := Lib.hid (HR2.out.only ho3 (by omega))
  have HO3 := Lib.hid (only_trans HO2.out ho3)
  clear hc3 ho3
  go_wp2_with fail
  refine (l01Below_any w0 _ B bs 12 (by decide) (by decide) HC3.out).mono ?_
  rintro e w4 ⟨y4, hy4, rfl, hc4, ho4⟩
  have HC4 := Lib.hid hc4
  have HR4 := Lib.hid (HR3.out.only ho4 (by omega))
  have HO4 := Lib.hid (only_trans HO3.out ho4)
  clear hc4 ho4
  go_wp2_with fail
  refine (l01Below_any w0 _ B bs 3 (by decide) (by decide) HC4.out).mono ?_
  rintro e w5 ⟨y5, hy5, rfl, hc5, ho5⟩
  have HC5 := Lib.hid hc5
  have HR5 := Lib.hid (HR4.out.only ho5 (by omega))
  have HO5 := Lib.hid (only_trans HO4.out ho5)
  clear hc5 ho5
  have q0 : w5.cell? ⟨w.heap.size, 0, none⟩ = some (.int .i64 0) := HR5.out.cell rfl
  have q1 : w5.cell? ⟨w.heap.size, 1, none⟩ = some (.int .i64 0) := HR5.out.cell rfl
  have q2 : w5.cell? ⟨w.heap.size, 2, none⟩ = some (.int .i64 0) := HR5.out.cell rfl
  have q3 : w5.cell? ⟨w.heap.size, 3, none⟩ = some (.int .i64 0) := HR5.out.cell rfl
  have q4 : w5.cell? ⟨w.heap.size, 4, none⟩ = some (.int .i64 0) := HR5.out.cell rfl
  have q5 : w5.cell? ⟨w.heap.size, 5, none⟩ = some (.int .i64 0) := HR5.out.cell rfl
  have f0 := HR5.out.frozen 0
  have f1 := HR5.out.frozen 1
  have f2 := HR5.out.frozen 2
  have f3 := HR5.out.frozen 3
  have f4 := HR5.out.frozen 4
  have f5 := HR5.out.frozen 5
  have zz := HR5.out.lt
  go_wp2
  refine bodyPost_ret (v := .agg #[.int .i64 id, .int .i64 x, .int .i64 (1 + y2), .int .i64 (1 + y3), .int .i64 (1 + y4), .int .i64 y5]) (by simp [results, Try.results27, go_sem, *]) rfl ⟨⟨id, x, 1 + y2, 1 + y3, 1 + y4, y5⟩, ⟨rfl, HXL.out, by dsimp only; omega, by dsimp only; omega, by dsimp only; omega, by dsimp only; omega⟩, rfl, ?_, ?_⟩
  · have hB0 := HC.out.1
    exact ((((((HC5.out.only (grownBy_set _ ⟨w.heap.size, 0, none⟩ _) (by dsimp only; omega) (by dsimp only; omega)).only (grownBy_set _ ⟨w.heap.size, 1, none⟩ _) (by dsimp only; omega) (by dsimp only; omega)).only (grownBy_set _ ⟨w.heap.size, 2, none⟩ _) (by dsimp only; omega) (by dsimp only; omega)).only (grownBy_set _ ⟨w.heap.size, 3, none⟩ _) (by dsimp only; omega) (by dsimp only; omega)).only (grownBy_set _ ⟨w.heap.size, 4, none⟩ _) (by dsimp only; omega) (by dsimp only; omega)).only (grownBy_set _ ⟨w.heap.size, 5, none⟩ _) (by dsimp only; omega) (by dsimp only; omega))
  · have st : ∀ (a : World) (j : Nat) (x : Value), w.grownBy a (some B) → w.grownBy (a.setCell ⟨w.heap.size, j, none⟩ x) (some B) := fun a j x h => grown_step h (Ext.refl _) (grownBy_set a ⟨w.heap.size, j, none⟩ x) (fun k hk => by cases hk; exact .inr (Nat.le_refl _))
    exact st _ _ _ (st _ _ _ (st _ _ _ (st _ _ _ (st _ _ _ (st _ _ _ HO5.out)))))
end Go.Proofs.Ytjjikcjhnglkaaa
