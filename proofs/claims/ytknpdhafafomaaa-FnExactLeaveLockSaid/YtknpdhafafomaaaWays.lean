/- A region that comes in several ways whose ends differ by the blocks alone: one proof behind it. -/
import Derived.Test.YtknpdhafafomaaaProg
import Derived.Test.YtknpdhafafomaaaReg
import Derived.Test.YtknpdhafafomaaaMem
namespace Go.Proofs.Ytknpdhafafomaaa
open Go.RowKit
theorem wp_ways {P : Program} {c : Code} {Q : Exit → Act → World → Prop} {a : Act} {w : World} (G : Nat → Option Addr → Nat → World → Prop) (F : Nat → Option Addr → Nat → Addr → Addr → Addr → Addr → Addr → Act)
    (h : c.wp P (fun e a' w' => match e with | .normal => ∃ b p q y0 y1 y2 y3 y4, G b p q w' ∧ a' = F b p q y0 y1 y2 y3 y4 | _ => False) a w)
    (k : ∀ b p q y0 y1 y2 y3 y4 w', G b p q w' → Q .normal (F b p q y0 y1 y2 y3 y4) w') : c.wp P Q a w := by
  refine Code.wp_mono (fun e a' w' hq => ?_) h
  cases e with
  | normal =>
    obtain ⟨b, p, q, y0, y1, y2, y3, y4, hg, rfl⟩ := hq
    exact k b p q y0 y1 y2 y3 y4 w' hg
  | _ => exact hq.elim
theorem RowAt.cast {w : World} {B : Nat} {t : TypeId} {c c' : Array Value} (h : RowAt w B t c) (e : c = c') : RowAt w B t c' := e ▸ h
end Go.Proofs.Ytknpdhafafomaaa
