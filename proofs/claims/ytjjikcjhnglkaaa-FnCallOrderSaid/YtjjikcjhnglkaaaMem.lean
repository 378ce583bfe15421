/- Memory that a call makes: flat slices, blocks of the call's own, regions whose calls make memory. -/
import Derived.Test.YtjjikcjhnglkaaaLib
namespace Go.Proofs.Ytjjikcjhnglkaaa
open Go.RowKit

/-! ### Slices whose elements are structs of one-cell fields -/
/-- The elements 'xs' lie one behind the other at a, each as its cells 'enc x'. -/
def FlatAt {α : Type} (w : World) (enc : α → List Value) (sz : Nat) (a : Option Addr) (xs : List α) : Prop :=
  ∀ k (h : k < xs.length), ∃ b off, a = some ⟨b, off, none⟩ ∧ ∀ j v, (enc xs[k])[j]? = some v → w.cell? ⟨b, off + k * sz + j, none⟩ = some v
theorem FlatAt.ext {α : Type} {w w' : World} {enc : α → List Value} {sz : Nat} {a : Option Addr} {xs : List α} (h : FlatAt w enc sz a xs) (hx : Ext w w') : FlatAt w' enc sz a xs :=
  fun k hk => let ⟨b, off, e, hc⟩ := h k hk; ⟨b, off, e, fun j v hv => hx.cell (hc j v hv)⟩
/-- An element's cells, in every later world. -/
theorem FlatAt.get {α : Type} {w : World} {enc : α → List Value} {sz : Nat} {a : Option Addr} {xs : List α} (h : FlatAt w enc sz a xs) (k : Nat) (hk : k < xs.length) :
    ∃ b off, a = some ⟨b, off, none⟩ ∧ ∀ j v, (enc xs[k])[j]? = some v → ∀ w', Ext w w' → w'.cell? ⟨b, off + k * sz + j, none⟩ = some v :=
  let ⟨b, off, e, hc⟩ := h k hk; ⟨b, off, e, fun j v hv _ hx => hx.cell (hc j v hv)⟩

/-- Block B is a block of cells of the call's own, none of them frozen. -/
def RowAt (w : World) (B : Nat) (t : TypeId) (c : Array Value) : Prop := w.heap[B]? = some (.cells c t (0, 0))
theorem RowAt.lt {w : World} {B : Nat} {t : TypeId} {c : Array Value} (h : RowAt w B t c) : B < w.heap.size := (Array.getElem?_eq_some_iff.1 h).1
theorem RowAt.cell {w : World} {B : Nat} {t : TypeId} {c : Array Value} (h : RowAt w B t c) {j : Nat} {v : Value} (hv : c[j]? = some v) : w.cell? ⟨B, j, none⟩ = some v := by
  unfold RowAt at h
  simp [World.cell?, h, hv]
theorem RowAt.frozen {w : World} {B : Nat} {t : TypeId} {c : Array Value} (h : RowAt w B t c) (j : Nat) : w.frozen? ⟨B, j, none⟩ = false := by
  unfold RowAt at h
  simp [World.frozen?, h]
theorem RowAt.ext {w w' : World} {B : Nat} {t : TypeId} {c : Array Value} (h : RowAt w B t c) (hx : Ext w w') : RowAt w' B t c := (hx.below.block B h.lt).trans h
theorem RowAt.set {w : World} {B : Nat} {t : TypeId} {c : Array Value} (h : RowAt w B t c) (j : Nat) (v : Value) : RowAt (w.setCell ⟨B, j, none⟩ v) B t (c.setIfInBounds j v) := by
  unfold RowAt at *
  simp only [World.setCell, Array.getElem?_modify, h]
  simp
theorem RowAt.new (w : World) (t : TypeId) (c : Array Value) : RowAt (w.alloc (.cells c t)) w.heap.size t c := heap_alloc_new w _
theorem RowAt.drewN {w : World} {B : Nat} {t : TypeId} {c : Array Value} (h : RowAt w B t c) (n : Nat) : RowAt (w.drewN n) B t c := h
theorem RowAt.other {w : World} {B : Nat} {t : TypeId} {c : Array Value} (h : RowAt w B t c) {p : Addr} (hp : p.block ≠ B) (v : Value) : RowAt (w.setCell p v) B t c := by
  unfold RowAt at *
  rw [Below.heap_setCell w p v B (fun e => hp e.symm)]
  exact h

/-- A world in which nothing of w has changed. -/
def Aft (w : World) := { w' : World // Ext w w' }
instance (w : World) : Nonempty (Aft w) := ⟨⟨w, Ext.refl w⟩⟩
theorem aft_call {P : Program} {f : FuncId} {args : Array Value} {v : Value} {w0 : World} {x : Aft w0} (h : Calls P f args x.1 fun e w' => e = .returned v ∧ Ext x.1 w') :
    Calls P f args x.1 fun e w'' => e = .returned v ∧ ∃ y : Aft w0, w'' = y.1 := h.mono fun _ w' ⟨he, hx⟩ => ⟨he, ⟨⟨w', x.2.trans hx⟩, rfl⟩⟩
theorem aft_same {P : Program} {f : FuncId} {args : Array Value} {v : Value} {w0 : World} {x : Aft w0} (h : Calls P f args x.1 fun e w' => e = .returned v ∧ x.1 = w') :
    Calls P f args x.1 fun e w'' => e = .returned v ∧ ∃ y : Aft w0, w'' = y.1 := h.mono fun _ _ ⟨he, hx⟩ => ⟨he, ⟨x, hx.symm⟩⟩
/-- A region that draws its order, whose operations read and whose calls make new memory at the most: one walk in the order of the text. -/
theorem wp_region_aft {P : Program} {id : Nat} {Q : Exit → Act → World → Prop} {a : Act} {w : World} {l : List Oper} (w0 : World) (h0 : Ext w0 w) (hm : P.follows .mixedOrders = true) (hB : Region.lexB .any l.toArray = true)
    (h : wpQuiet P l.toArray (fun w' => ∃ x : Aft w0, w' = x.1) (fun a' => ∀ w', Ext w0 w' → Q .normal a' w') l a) : (Code.region id l.toArray true).wp P Q a w := by
  refine wp_region_quiet (C := fun w' => ∃ x : Aft w0, w' = x.1) hm hB ⟨⟨_, h0.drew⟩, rfl⟩ ?_
  have e : (fun a' => ∀ w', Ext w0 w' → Q .normal a' w') = (fun a' => ∀ w', (∃ x : Aft w0, w' = x.1) → Q .normal a' w') := by
    funext a'
    apply propext
    constructor
    · rintro h w' ⟨x, rfl⟩
      exact h _ x.2
    · intro h w' hx
      exact h w' ⟨⟨w', hx⟩, rfl⟩
    
  rw [e] at h
  simpa using h

theorem run_make_rowN {P : Program} (t e : TypeId) (i : TypeInfo) (z : Value) (ht : P.underlying t = some (.slice e)) (hi : P.info? e = some i) (hz : i.zero = some z)
    (kl kc : IntKind) (n c : Nat) (hnc : n ≤ c) (hbytes : i.bytes * c ≤ 281474976710656) (h63 : c ≤ 9223372036854775807) (w : World) :
    (Instr.makeSlice t (.int kl (n : Int)) (.int kc (c : Int))).run P w = .ok (.slice (some ⟨w.heap.size, 0, none⟩) n c) (w.alloc (.cells (madeCells z.cells (c * i.size)) e)) := by
  have hb : (i.bytes : Int) * (c : Int) ≤ 281474976710656 := by
    have h : ((i.bytes * c : Nat) : Int) ≤ 281474976710656 := by omega
    rwa [Int.natCast_mul] at h
  have hr := run_make (P := P) w t e i z ht hi hz kl kc n c (by omega) (by omega) hb (by omega)
  simp only [Int.toNat_natCast] at hr
  exact hr

end Go.Proofs.Ytjjikcjhnglkaaa
