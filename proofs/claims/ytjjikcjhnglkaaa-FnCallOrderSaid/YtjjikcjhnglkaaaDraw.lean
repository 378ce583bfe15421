/- The cursor over the bytes of a draw: what l01New, l01Byte and l01Below do. -/
import Derived.Test.YtjjikcjhnglkaaaProg
import Derived.Test.YtjjikcjhnglkaaaLib
import Derived.Test.YtjjikcjhnglkaaaMem
import Derived.Test.YtjjikcjhnglkaaaBytes
namespace Go.Proofs.Ytjjikcjhnglkaaa
open Go.RowKit
set_option linter.unusedSimpArgs false
set_option linter.unusedVariables false

theorem and255 (n : Int) : 0 ≤ bits .and .i64 n 255 ∧ bits .and .i64 n 255 ≤ 255 := by
  have h : bits .and .i64 n 255 = IntKind.i64.wrap ((BitVec.ofInt 64 n &&& BitVec.ofInt 64 255).toNat : Int) := rfl
  have h2 : (BitVec.ofInt 64 n &&& BitVec.ofInt 64 255).toNat ≤ 255 := by
    rw [BitVec.toNat_and]
    exact Nat.le_trans Nat.and_le_right (by decide)
  rw [h, IntKind.wrap_i64]
  omega

/-! ### One block alone has changed -/
theorem only_refl (w : World) (B : Nat) : w.grownBy w (some B) := ⟨rfl, rfl, rfl, Nat.le_refl _, fun _ _ _ => rfl⟩
theorem only_trans {a b c : World} {B : Nat} (h : a.grownBy b (some B)) (k : b.grownBy c (some B)) : a.grownBy c (some B) :=
  ⟨k.os.trans h.os, k.tape.trans h.tape, k.output.trans h.output, Nat.le_trans h.size k.size, fun i hi hne => (k.block i (Nat.lt_of_lt_of_le hi h.size) hne).trans (h.block i hi hne)⟩
theorem only_ext {a b c : World} {B : Nat} (h : a.grownBy b (some B)) (k : Ext b c) : a.grownBy c (some B) :=
  ⟨k.below.os.trans h.os, k.below.tape.trans h.tape, k.below.output.trans h.output, Nat.le_trans h.size k.size, fun i hi hne => (k.below.block i (Nat.lt_of_lt_of_le hi h.size)).trans (h.block i hi hne)⟩
theorem only_drewN {a b : World} {B : Nat} (h : a.grownBy b (some B)) (n : Nat) : a.grownBy (b.drewN n) (some B) := only_ext h ((Ext.refl b).drewN n)
theorem only_setCell {a b : World} {B : Nat} (h : a.grownBy b (some B)) (j : Nat) (v : Value) : a.grownBy (b.setCell ⟨B, j, none⟩ v) (some B) :=
  ⟨h.os, h.tape, h.output, by simpa [World.setCell] using h.size, fun i hi hne => (Below.heap_setCell b ⟨B, j, none⟩ v i (fun e => hne (by rw [e]))).trans (h.block i hi hne)⟩
theorem Ext.only {w0 w w' : World} {B : Nat} (h : Ext w0 w) (k : w.grownBy w' (some B)) (hB : w0.heap.size ≤ B) : Ext w0 w' :=
  ⟨k.os.trans h.below.os, k.tape.trans h.below.tape, k.output.trans h.below.output, Nat.le_trans h.size k.size, fun i hi => (k.block i (Nat.lt_of_lt_of_le hi h.size) (fun e => by have := Option.some.inj e; omega)).trans (h.below.block i hi)⟩
theorem RowAt.only {w w' : World} {B B2 : Nat} {t : TypeId} {c : Array Value} (h : RowAt w B2 t c) (k : w.grownBy w' (some B)) (hne : B2 ≠ B) : RowAt w' B2 t c :=
  (k.block B2 h.lt (fun e => hne (Option.some.inj e))).trans h

/-- Block B is a cursor over the bytes 'bs', which were there in w0 before B was made; nothing of w0 has changed. -/
def CurAt (w0 w : World) (B : Nat) (bs : List Int) : Prop :=
  w0.heap.size ≤ B ∧ Ext w0 w ∧ ∃ (a : Option Addr) (cp : Nat) (i h : Int), RowAt w B 45 #[.slice a bs.length cp, .int .i64 i, .int .i64 h] ∧ 0 ≤ i ∧ i ≤ bs.length ∧ bs.length ≤ 1048576 ∧ BytesAt w0 a bs
theorem CurAt.only {w0 w w' : World} {B B2 : Nat} {bs : List Int} (h : CurAt w0 w B bs) (k : w.grownBy w' (some B2)) (hne : B ≠ B2) (hB : w0.heap.size ≤ B2) : CurAt w0 w' B bs :=
  let ⟨h1, h2, a, cp, i, hh, hr, h3⟩ := h; ⟨h1, h2.only k hB, a, cp, i, hh, hr.only k hne, h3⟩
theorem CurAt.ext {w0 w w' : World} {B : Nat} {bs : List Int} (h : CurAt w0 w B bs) (k : Ext w w') : CurAt w0 w' B bs :=
  let ⟨h1, h2, a, cp, i, hh, hr, h3⟩ := h; ⟨h1, h2.trans k, a, cp, i, hh, hr.ext k, h3⟩
theorem CurAt.own {w0 w w' : World} {B : Nat} {bs : List Int} {v : Value} (h : CurAt w0 w B bs) (hg : w.grownBy w' v.ownBlock) (hv : ∀ k, v.ownBlock = some k → B < k) : CurAt w0 w' B bs :=
  let ⟨h1, h2, a, cp, i, hh, hr, h3⟩ := h
  ⟨h1, ⟨hg.os.trans h2.below.os, hg.tape.trans h2.below.tape, hg.output.trans h2.below.output, Nat.le_trans h2.size hg.size, fun i hi => (hg.block i (Nat.lt_of_lt_of_le hi h2.size) (fun e => by have := hv i e.symm; omega)).trans (h2.below.block i hi)⟩,
    a, cp, i, hh, (hg.block B hr.lt (fun e => by have := hv B e.symm; omega)).trans hr, h3⟩
theorem CurAt.lt {w0 w : World} {B : Nat} {bs : List Int} (h : CurAt w0 w B bs) : B < w.heap.size := let ⟨_, _, _, _, _, _, hr, _⟩ := h; hr.lt

/-- A number from the cursor at B, of which P holds; nothing but the cursor has changed. -/
def Drawn (w0 w : World) (B : Nat) (bs : List Int) (P : Int → Prop) (e : Ending) (w' : World) : Prop :=
  ∃ z : Int, P z ∧ e = .returned (.int .i64 z) ∧ CurAt w0 w' B bs ∧ w.grownBy w' (some B)

set_option maxHeartbeats 1000000 in
theorem l01Byte_any (w0 w : World) (B : Nat) (bs : List Int) (hc : CurAt w0 w B bs) :
    Calls Try.prog 17 #[.pointer (some ⟨B, 0, none⟩)] w (Drawn w0 w B bs (fun z => 0 ≤ z ∧ z ≤ 255)) := by
  obtain ⟨hB, hx, a, cp, i, h, hrow, hi0, hi1, hlen, hby⟩ := hc
  have g0 : w.cell? ⟨B, 0, none⟩ = some (.slice a bs.length cp) := hrow.cell (j := 0) rfl
  have g1 : w.cell? ⟨B, 1, none⟩ = some (.int .i64 i) := hrow.cell (j := 1) rfl
  have g2 : w.cell? ⟨B, 2, none⟩ = some (.int .i64 h) := hrow.cell (j := 2) rfl
  have f1 := hrow.frozen 1
  have f2 := hrow.frozen 2
  generalize hn : bs.length = n at *
  have HN := Lib.hid hn; clear hn
  by_cases hlt : i < n
  · obtain ⟨i, rfl⟩ := Int.eq_ofNat_of_zero_le hi0
    obtain ⟨c0, c1, b, off, rfl, hcell⟩ := hby i (by rw [HN.out]; omega)
    generalize bs[i]'(by rw [HN.out]; omega) = y at c0 c1 hcell
    have HB := Lib.hid hby; clear hby
    go_enter Try.func17, Try.ntmps17
    go_wp2
    generalize wrap64 (wrap64 (h * 6364136223846793005) + 1442695040888963407) = h2
    have r1 := hrow.set 2 (.int .i64 h2)
    have o1 := only_setCell (only_refl w B) 2 (.int .i64 h2)
    generalize w.setCell ⟨B, 2, none⟩ (.int .i64 h2) = w1 at r1 o1 ⊢
    have x1 := hx.only o1 hB
    clear g0 g1 g2 f1 f2 hrow
    have g0 : w1.cell? ⟨B, 0, none⟩ = some (.slice _ n cp) := r1.cell (j := 0) rfl
    have g1 : w1.cell? ⟨B, 1, none⟩ = some (.int .i64 _) := r1.cell (j := 1) rfl
    have g2 : w1.cell? ⟨B, 2, none⟩ = some (.int .i64 h2) := r1.cell (j := 2) rfl
    have f1 := r1.frozen 1
    have e0 : w1.cell? ⟨b, off + i, none⟩ = some (.int .u8 y) := x1.cell hcell
    clear hcell
    go_quiet (fail)
    generalize hX : bits .and .i64 _ 255 = X
    have hX0 : 0 ≤ X ∧ X ≤ 255 := by rw [← hX]; exact and255 _
    clear hX
    go_wp2
    go_quiet (fail)
    go_wp2
    go_quiet (fail)
    generalize hY : bits .and .i64 _ 255 = Y
    have hY0 : 0 ≤ Y ∧ Y ≤ 255 := by rw [← hY]; exact and255 _
    clear hY
    go_wp2
    go_ret
    have o2 := fun N => only_setCell (only_drewN o1 N) 1 (.int .i64 ((i : Int) + 1))
    exact ⟨Y, hY0, rfl, ⟨hB, hx.only (o2 _) hB, _, cp, (i : Int) + 1, h2, by rw [HN.out]; exact r1.set 1 _, by omega, by rw [HN.out]; omega, by rw [HN.out]; omega, HB.out⟩, o2 _⟩
  · have hd : decide (i < (n : Int)) = false := by simpa using hlt
    have HB := Lib.hid hby; clear hby
    go_enter Try.func17, Try.ntmps17
    go_wp2
    generalize wrap64 (wrap64 (h * 6364136223846793005) + 1442695040888963407) = h2
    have r1 := hrow.set 2 (.int .i64 h2)
    have o1 := only_setCell (only_refl w B) 2 (.int .i64 h2)
    generalize w.setCell ⟨B, 2, none⟩ (.int .i64 h2) = w1 at r1 o1 ⊢
    have x1 := hx.only o1 hB
    clear g0 g1 g2 f1 f2 hrow
    have g0 : w1.cell? ⟨B, 0, none⟩ = some (.slice _ n cp) := r1.cell (j := 0) rfl
    have g1 : w1.cell? ⟨B, 1, none⟩ = some (.int .i64 _) := r1.cell (j := 1) rfl
    have g2 : w1.cell? ⟨B, 2, none⟩ = some (.int .i64 h2) := r1.cell (j := 2) rfl
    have f1 := r1.frozen 1
    go_quiet (fail)
    generalize hX : bits .and .i64 _ 255 = X
    have hX0 : 0 ≤ X ∧ X ≤ 255 := by rw [← hX]; exact and255 _
    clear hX
    go_wp2
    go_quiet (fail)
    go_wp2
    go_ret
    exact ⟨X, hX0, rfl, ⟨hB, x1.drewN _ |>.drewN _, _, cp, i, h2, by rw [HN.out]; exact r1, hi0, by rw [HN.out]; omega, by rw [HN.out]; omega, HB.out⟩, only_drewN (only_drewN o1 _) _⟩

set_option maxRecDepth 100000 in
set_option maxHeartbeats 1000000 in
theorem l01New_any (a : Option Addr) (n c : Nat) (bs : List Int) (w : World) (hn : n = bs.length) (hs : n ≤ 1048576) (hf : BytesAt w a bs) :
    Calls Try.prog 10 #[.slice a n c] w fun e w' => e = .returned (.pointer (some ⟨w.heap.size, 0, none⟩)) ∧ CurAt w w' w.heap.size bs := by
  have HF := Lib.hid hf; clear hf
  have HN := Lib.hid hn; clear hn
  go_enter Try.func10, Try.ntmps10
  go_wp2
  go_loop [3, 4] (fun hh i => ∃ (k : Nat) (z : Int), k ≤ n ∧ i = .int .i64 k ∧ hh = .int .i64 z) (fun _ i => n - (intOf i).toNat)
  case atStart => exact ⟨0, _, Nat.zero_le _, rfl, rfl⟩
  case round =>
    obtain ⟨k, z, hk, rfl, rfl⟩ := hrel
    have fin : ∀ z : Int, CurAt w (w.alloc (.cells #[.slice a n c, .int .i64 0, .int .i64 z] 45)) w.heap.size bs := fun z =>
      ⟨Nat.le_refl _, (Ext.refl w).alloc _, a, c, 0, z, by rw [← HN.out]; exact RowAt.new _ _ _, by omega, by omega, by rw [← HN.out]; omega, HF.out⟩
    by_cases hlt : k < n
    · by_cases h4 : k < 4000
      · obtain ⟨c0, c1, b, off, rfl, hcell⟩ := HF.out k (by rw [← HN.out]; exact hlt)
        generalize bs[k]'(by rw [← HN.out]; exact hlt) = y at c0 c1 hcell
        go_wp2
        go_round
        case rel => exact ⟨k + 1, _, by omega, by go_num, rfl⟩
        case measure => simp [intOf]; omega
      · have hd : decide ((k : Int) < 4000) = false := by simp; omega
        go_wp2
        go_ret
        exact ⟨rfl, fin z⟩
    · have hd : decide ((k : Int) < (n : Int)) = false := by simp; omega
      go_wp2
      go_ret
      exact ⟨rfl, fin z⟩

theorem Drawn.imp {w0 w : World} {B : Nat} {bs : List Int} {P Q : Int → Prop} {e : Ending} {w' : World} (h : Drawn w0 w B bs P e w') (hi : ∀ z, P z → Q z) : Drawn w0 w B bs Q e w' :=
  let ⟨z, hz, r⟩ := h; ⟨z, hi z hz, r⟩

set_option maxHeartbeats 1000000 in
theorem l01Below_any (w0 w : World) (B : Nat) (bs : List Int) (m : Int) (h0 : 0 < m) (h1 : m ≤ 1000000000000) (hc : CurAt w0 w B bs) :
    Calls Try.prog 11 #[.pointer (some ⟨B, 0, none⟩), .int .i64 m] w (Drawn w0 w B bs (fun z => 0 ≤ z ∧ z < m)) := by
  have HC := Lib.hid hc; clear hc
  by_cases hm : m ≤ 256
  · go_enter Try.func11, Try.ntmps11
    go_wp2_with fail
    refine (l01Byte_any w0 _ B bs HC.out).mono ?_
    rintro e w1 ⟨z, hz, rfl, hc1, ho1⟩
    go_wp2
    go_ret
    have h2 := Int.emod_nonneg z (show m ≠ 0 by omega)
    have h3 := Int.emod_lt_of_pos z h0
    exact ⟨z % m, ⟨h2, h3⟩, rfl, hc1, ho1⟩
  · go_enter Try.func11, Try.ntmps11
    go_wp2_with fail
    refine (l01Byte_any w0 _ B bs HC.out).mono ?_
    rintro e w1 ⟨x1, hx1, rfl, hc1, ho1⟩
    have HC1 := Lib.hid hc1; clear hc1
    go_wp2_with fail
    refine (l01Byte_any w0 _ B bs HC1.out).mono ?_
    rintro e w2 ⟨x2, hx2, rfl, hc2, ho2⟩
    have HC2 := Lib.hid hc2; clear hc2
    go_wp2_with fail
    refine (l01Byte_any w0 _ B bs HC2.out).mono ?_
    rintro e w3 ⟨x3, hx3, rfl, hc3, ho3⟩
    have HC3 := Lib.hid hc3; clear hc3
    go_wp2_with fail
    refine (l01Byte_any w0 _ B bs HC3.out).mono ?_
    rintro e w4 ⟨x4, hx4, rfl, hc4, ho4⟩
    have HC4 := Lib.hid hc4; clear hc4
    go_wp2
    go_ret
    have h2 := Int.emod_nonneg (x1 * 16777216 + x2 * 65536 + x3 * 256 + x4) (show m ≠ 0 by omega)
    have h3 := Int.emod_lt_of_pos (x1 * 16777216 + x2 * 65536 + x3 * 256 + x4) h0
    exact ⟨_, ⟨h2, h3⟩, rfl, HC4.out, only_trans (only_trans (only_trans ho1 ho2) ho3) ho4⟩
end Go.Proofs.Ytjjikcjhnglkaaa
