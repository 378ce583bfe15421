/- A row of cells stored into a box, cell by cell; regions with two boxes that come in several ways. -/
import Derived.Test.YtknpdhafafomaaaProg
import Derived.Test.YtknpdhafafomaaaReg
import Derived.Test.YtknpdhafafomaaaMem
import Derived.Test.YtknpdhafafomaaaWays
namespace Go.Proofs.Ytknpdhafafomaaa
open Go.RowKit
/-- The world behind storing the values from place k of block b on. -/
def putAt (w : World) (b k : Nat) : List Value → World
  | [] => w
  | v :: vs => putAt (w.setCell ⟨b, k, none⟩ v) b (k + 1) vs
theorem put_size (b : Nat) : ∀ (vs : List Value) (w : World) (k : Nat), (putAt w b k vs).heap.size = w.heap.size
  | [], _, _ => rfl
  | v :: vs, w, k => (put_size b vs _ (k + 1)).trans (by simp [World.setCell])
theorem put_other {B b : Nat} {t : TypeId} {c : Array Value} (hb : b ≠ B) : ∀ (vs : List Value) (w : World) (k : Nat), RowAt w B t c → RowAt (putAt w b k vs) B t c
  | [], _, _, h => h
  | v :: vs, _, k, h => put_other hb vs _ (k + 1) (h.other (p := ⟨b, k, none⟩) hb v)
theorem put_ext {w0 : World} {b : Nat} (hb : w0.heap.size ≤ b) : ∀ (vs : List Value) (w : World) (k : Nat), Ext w0 w → Ext w0 (putAt w b k vs)
  | [], _, _, h => h
  | v :: vs, _, k, h => put_ext hb vs _ (k + 1) (h.setCell (p := ⟨b, k, none⟩) hb v)
def putArr (c : Array Value) (k : Nat) : List Value → Array Value
  | [] => c
  | v :: vs => putArr (c.setIfInBounds k v) (k + 1) vs
theorem put_at {b : Nat} {t : TypeId} : ∀ (vs : List Value) (w : World) (k : Nat) (c : Array Value), RowAt w b t c → RowAt (putAt w b k vs) b t (putArr c k vs)
  | [], _, _, _, h => h
  | v :: vs, _, k, _, h => put_at vs _ (k + 1) _ (h.set k v)
theorem put_kept {w : World} {b k lo hi : Nat} {vs : List Value} (hb : b < lo ∨ hi ≤ b) : ∀ (B : Nat) (t : TypeId) (c : Array Value), lo ≤ B → B < hi → RowAt w B t c → RowAt (putAt w b k vs) B t c :=
  fun B t c h1 h2 hr => put_other (by omega) vs w k hr
theorem ext_kept {w w' : World} {lo hi : Nat} (hx : Ext w w') : ∀ (B : Nat) (t : TypeId) (c : Array Value), lo ≤ B → B < hi → RowAt w B t c → RowAt w' B t c :=
  fun _ _ _ _ _ hr => hr.ext hx
/-- As wp_ways, with two boxes. -/
theorem wp_ways2 {P : Program} {c : Code} {Q : Exit → Act → World → Prop} {a : Act} {w : World} (G : Nat → Nat → Option Addr → Nat → Option Addr → Nat → Option Addr → Nat → World → Prop) (F : Nat → Nat → Option Addr → Nat → Option Addr → Nat → Option Addr → Nat → Addr → Addr → Addr → Addr → Addr → Act)
    (h : c.wp P (fun e a' w' => match e with | .normal => ∃ b1 b2 p q p1 q1 p2 q2 y0 y1 y2 y3 y4, G b1 b2 p q p1 q1 p2 q2 w' ∧ a' = F b1 b2 p q p1 q1 p2 q2 y0 y1 y2 y3 y4 | _ => False) a w)
    (k : ∀ b1 b2 p q p1 q1 p2 q2 y0 y1 y2 y3 y4 w', G b1 b2 p q p1 q1 p2 q2 w' → Q .normal (F b1 b2 p q p1 q1 p2 q2 y0 y1 y2 y3 y4) w') : c.wp P Q a w := by
  refine Code.wp_mono (fun e a' w' hq => ?_) h
  cases e with
  | normal =>
    obtain ⟨b1, b2, p, q, p1, q1, p2, q2, y0, y1, y2, y3, y4, hg, rfl⟩ := hq
    exact k b1 b2 p q p1 q1 p2 q2 y0 y1 y2 y3 y4 w' hg
  | _ => exact hq.elim
theorem alloc_named (w : World) (t : TypeId) (c : Array Value) : ∃ b w', w' = w.alloc (.cells c t) ∧ b = w.heap.size ∧ Ext w w' ∧ RowAt w' b t c ∧ w.heap.size ≤ b ∧ b ≤ w.heap.size ∧ b < w'.heap.size :=
  ⟨_, _, rfl, rfl, (Ext.refl w).alloc _, RowAt.new w t c, Nat.le_refl _, Nat.le_refl _, (RowAt.new w t c).lt⟩
/-- Inside a region that draws its order: what has come up in several ways goes on as one. -/
theorem cut_any2 {P : Program} {md : Region.Mode} {ops : Array Oper} {Q : Exit → Act → World → Prop} {S : World → Prop} {fuel : Nat} {listed : Array Bool} {goal : Prop} (G : Nat → Nat → Option Addr → Nat → Option Addr → Nat → Option Addr → Nat → World → Prop) (F : Nat → Nat → Option Addr → Nat → Option Addr → Nat → Option Addr → Nat → Addr → Addr → Addr → Addr → Addr → Act)
    (h : (∀ a w, (∃ b1 b2 p q p1 q1 p2 q2 y0 y1 y2 y3 y4, G b1 b2 p q p1 q1 p2 q2 w ∧ a = F b1 b2 p q p1 q1 p2 q2 y0 y1 y2 y3 y4) → wpAnyH P md ops Q S fuel listed a w) → goal)
    (k : ∀ b1 b2 p q p1 q1 p2 q2 y0 y1 y2 y3 y4 w, G b1 b2 p q p1 q1 p2 q2 w → wpAnyH P md ops Q S fuel listed (F b1 b2 p q p1 q1 p2 q2 y0 y1 y2 y3 y4) w) : goal :=
  h (fun _ w ⟨b1, b2, p, q, p1, q1, p2, q2, y0, y1, y2, y3, y4, hg, e⟩ => e ▸ k b1 b2 p q p1 q1 p2 q2 y0 y1 y2 y3 y4 w hg)
end Go.Proofs.Ytknpdhafafomaaa
