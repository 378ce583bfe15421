/- Bytes that come in: at, big; a block of one cell type. -/
import Derived.Test.YtjjikcjhnglkaaaProg
import Derived.Test.YtjjikcjhnglkaaaLib
import Derived.Test.YtjjikcjhnglkaaaMem
namespace Go.Proofs.Ytjjikcjhnglkaaa
open Go.RowKit
set_option linter.unusedSimpArgs false
set_option linter.unusedVariables false

/-- The bytes xs lie at a. -/
def BytesAt (w : World) (a : Option Addr) (xs : List Int) : Prop := ∀ k (h : k < xs.length), 0 ≤ xs[k] ∧ xs[k] ≤ 255 ∧ ∃ b off, a = some ⟨b, off, none⟩ ∧ w.cell? ⟨b, off + k, none⟩ = some (.int .u8 xs[k])
theorem BytesAt.ext {w w' : World} {a : Option Addr} {xs : List Int} (h : BytesAt w a xs) (hx : Ext w w') : BytesAt w' a xs :=
  fun k hk => let ⟨h0, h1, b, off, e, hc⟩ := h k hk; ⟨h0, h1, b, off, e, hx.cell hc⟩

theorem RowAt.alloc {w : World} {B : Nat} {t : TypeId} {c : Array Value} (h : RowAt w B t c) (o : Obj) : RowAt (w.alloc o) B t c := h.ext ((Ext.refl w).alloc o)

set_option maxHeartbeats 400000 in
theorem big_any (a : Option Addr) (n c : Nat) (w : World) (hs : n ≤ maxLen) :
    Calls Try.prog 4 #[.slice a n c] w fun e w' => e = .returned (.bool (decide ((1048576 : Int) < n))) ∧ w = w' := by
  unfold maxLen at hs
  go_enter Try.func4, Try.ntmps4
  go_wp2
  go_ret
  exact ⟨rfl, rfl⟩

/-- Some number from 0 to 255. -/
def SomeByte (w : World) (e : Ending) (w' : World) : Prop := ∃ z : Int, 0 ≤ z ∧ z ≤ 255 ∧ e = .returned (.int .i64 z) ∧ w = w'

end Go.Proofs.Ytjjikcjhnglkaaa
