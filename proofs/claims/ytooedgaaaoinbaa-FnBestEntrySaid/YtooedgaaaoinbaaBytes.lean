/- Bytes that come in: at, big; a block of one cell type. -/
import Derived.Test.YtooedgaaaoinbaaProg
import Derived.Test.YtooedgaaaoinbaaLib
import Derived.Test.YtooedgaaaoinbaaMem
namespace Go.Proofs.Ytooedgaaaoinbaa
open Go.RowKit
set_option linter.unusedSimpArgs false
set_option linter.unusedVariables false

/-- The bytes xs lie at a. -/
def BytesAt (w : World) (a : Option Addr) (xs : List Int) : Prop := ∀ k (h : k < xs.length), 0 ≤ xs[k] ∧ xs[k] ≤ 255 ∧ ∃ b off, a = some ⟨b, off, none⟩ ∧ w.cell? ⟨b, off + k, none⟩ = some (.int .u8 xs[k])
theorem BytesAt.ext {w w' : World} {a : Option Addr} {xs : List Int} (h : BytesAt w a xs) (hx : Ext w w') : BytesAt w' a xs :=
  fun k hk => let ⟨h0, h1, b, off, e, hc⟩ := h k hk; ⟨h0, h1, b, off, e, hx.cell hc⟩

theorem RowAt.alloc {w : World} {B : Nat} {t : TypeId} {c : Array Value} (h : RowAt w B t c) (o : Obj) : RowAt (w.alloc o) B t c := h.ext ((Ext.refl w).alloc o)

set_option maxHeartbeats 400000 in
theorem big_any (a : Option Addr) (n c : Nat) (w : World) (hs : n ≤ maxLen) :
    Calls Try.prog 38 #[.slice a n c] w fun e w' => e = .returned (.bool (decide ((1048576 : Int) < n))) ∧ w = w' := by
  unfold maxLen at hs
  go_enter Try.func38, Try.ntmps38
  go_wp2
  go_ret
  exact ⟨rfl, rfl⟩

/-- Some number from 0 to 255. -/
def SomeByte (w : World) (e : Ending) (w' : World) : Prop := ∃ z : Int, 0 ≤ z ∧ z ≤ 255 ∧ e = .returned (.int .i64 z) ∧ w = w'

set_option maxHeartbeats 400000 in
theorem at_any (a : Option Addr) (n c : Nat) (xs : List Int) (i : Int) (w : World) (hn : n = xs.length) (hs : n ≤ 1048576) (h0 : 0 ≤ i) (h1 : i ≤ 1000000) (hf : BytesAt w a xs) :
    Calls Try.prog 41 #[.slice a n c, .int .i64 i] w (SomeByte w) := by
  by_cases hz : n = 0
  · subst hz
    go_enter Try.func41, Try.ntmps41
    go_wp2
    go_ret
    exact ⟨0, by omega, by omega, rfl, rfl⟩
  · obtain ⟨i, rfl⟩ := Int.eq_ofNat_of_zero_le h0
    have hm : (i * 5 + 1) % n < n := Nat.mod_lt _ (by omega)
    obtain ⟨h0, h255, b, off, rfl, hc⟩ := hf ((i * 5 + 1) % n) (by omega)
    generalize hx : xs[(i * 5 + 1) % n] = x at *
    have HN := Lib.hid hn; clear hn hx hf
    have hne : ((n : Int) == 0) = false := by simpa using hz
    have hi : ((i : Int) * 5 + 1) % (n : Int) = (((i * 5 + 1) % n : Nat) : Int) := by push_cast; rfl
    have hi2 : (((i : Int) * 5 + 1) % (n : Int)).toNat = (i * 5 + 1) % n := by omega
    have hlt : (((i : Int) * 5 + 1) % (n : Int)) < n := by omega
    have hge : 0 ≤ (((i : Int) * 5 + 1) % (n : Int)) := by omega
    generalize (i * 5 + 1) % n = m at *
    go_enter Try.func41, Try.ntmps41
    go_wp2
    go_ret
    exact ⟨x, h0, h255, rfl, rfl⟩
end Go.Proofs.Ytooedgaaaoinbaa
