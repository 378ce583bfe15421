/- Slices of the call's own, as flat slices. -/
import Derived.Test.YtjjikcjhnglkaaaLib
import Derived.Test.YtjjikcjhnglkaaaMem
import Derived.Test.YtjjikcjhnglkaaaOpen
namespace Go.Proofs.Ytjjikcjhnglkaaa
open Go.RowKit
theorem flatMap_get {α : Type} {ec : α → List Value} {sz : Nat} (hsz : ∀ x, (ec x).length = sz) : ∀ (xs : List α) (k j : Nat) (hk : k < xs.length), j < sz → (xs.flatMap ec)[k * sz + j]? = (ec xs[k])[j]?
  | x :: xs, 0, j, _, hj => by
    simp only [Nat.zero_mul, Nat.zero_add, List.flatMap_cons, List.getElem_cons_zero]
    rw [List.getElem?_append_left (by rw [hsz]; exact hj)]
  | x :: xs, k + 1, j, hk, hj => by
    simp only [List.flatMap_cons, List.getElem_cons_succ]
    rw [List.getElem?_append_right (by rw [hsz, Nat.add_mul]; omega), hsz]
    have : (k + 1) * sz + j - sz = k * sz + j := by rw [Nat.add_mul]; omega
    rw [this]
    exact flatMap_get hsz xs k j (by simpa using hk) hj
/-- What the call owns, read as a flat slice; 'lo': it lies in new memory. -/
theorem ownsRow_flat {α : Type} {ec : α → List Value} {sz : Nat} (hsz : ∀ x, (ec x).length = sz) {w : World} {base : Nat} {e : TypeId} {v : Value} {xs : List α} (h : w.ownsRow base e sz v xs.length (xs.flatMap ec)) :
    ∃ (a : Option Addr) (cap : Nat), v = .slice a xs.length cap ∧ FlatAt w ec sz a xs ∧ (∀ ad, a = some ad → base ≤ ad.block ∧ ∃ cur, RowAt w ad.block e cur) := by
  rcases h.2 with ⟨rfl, hn⟩ | ⟨g, cap, cur, rfl, hg, hh, hnc, hcm, hcs, htake⟩
  · have hps : xs = [] := List.eq_nil_of_length_eq_zero hn
    subst hps
    exact ⟨none, 0, rfl, fun k hk => absurd hk (Nat.not_lt_zero _), fun _ h => by cases h⟩
  · refine ⟨some ⟨g, 0, none⟩, cap, rfl, fun k hk => ⟨g, 0, rfl, fun j u hu => ?_⟩, fun ad had => by cases had; exact ⟨hg, cur, hh⟩⟩
    have hj : j < sz := by
      have := (List.getElem?_eq_some_iff.1 hu).1
      rwa [hsz] at this
    have hc := World.ownsRow.cells h (g := g) rfl (k * sz + j) u (by rw [flatMap_get hsz xs k j hk hj]; exact hu)
    rw [add_plain rfl] at hc
    simp only [Nat.zero_add] at hc ⊢
    exact hc

/-- append of m elements to a slice of the call's own, its element type's row of the table in one equation. -/
theorem wpList_append_row {P : Program} {w : World} {ops : Array Oper} {rest : List Oper} {o : Oper} {a : Act} {Q : Exit → Act → World → Prop} (hgd : o.guard = none) (s x : Operand) (t : TypeId)
    (ho : o.op = .call { callee := .builtin .append, args := #[s, x], argTypes := #[t, t] })
    (base : Nat) (e : TypeId) (z : Value) (size bytes : Nat) (ht : P.underlying t = some (.slice e)) (hinf : (P.info? e).map (fun i => (i.zero, i.size, i.bytes)) = some (some z, size, bytes))
    (hzs : z.cells.size = size) (hsz : 0 < size)
    (v : Value) (n : Nat) (xs : List Value) (hs : a.eval s = v) (hown : w.ownsRow base e size v n xs)
    (ad : Addr) (m c : Nat) (news : List Value) (hx : a.eval x = .slice (some ad) m c) (hl : news.length = m * size) (hnews : ∀ (j : Nat) u, news[j]? = some u → w.cell? (ad.add j) = some u) (h1 : ∀ u ∈ news, u.oneCell' = true)
    (h63 : n + m ≤ maxLen) (hbytes : (n + m) * bytes ≤ 140737488355328) (hbase : base ≤ w.heap.size)
    (h : ∀ v' w', w'.ownsRow base e size v' (n + m) (xs ++ news) → w.grownBy w' v.ownBlock → (v' = .slice none 0 0 ↔ v = .slice none 0 0 ∧ m = 0) → wpList P ops Q rest (a.put o.dst v') w') : wpList P ops Q (o :: rest) a w := by
  obtain ⟨i0, hi, hz0, hz1, hz2⟩ := info_parts hinf
  exact wpList_append_own w hgd s x t ho base e i0 z size bytes ht hi hz0 hz1 hz2 hzs hsz v n xs hs hown ad m c news hx hl hnews h1 h63 hbytes hbase h
theorem cells_new (w : World) (t : TypeId) (news : List Value) : ∀ (j : Nat) u, news[j]? = some u → (w.alloc (.cells news.toArray t)).cell? ((⟨w.heap.size, 0, none⟩ : Addr).add j) = some u := fun j u h => by
  rw [add_plain rfl]
  simp only [Nat.zero_add]
  exact (RowAt.new w t news.toArray).cell (by simpa using h)
/-- What the call owns from 'base' on, after another block than these has changed. -/
theorem ownsRow_only {w w' : World} {base : Nat} {e : TypeId} {size : Nat} {v : Value} {n : Nat} {xs : List Value} {B : Nat} (h : w.ownsRow base e size v n xs) (hg : w.grownBy w' (some B)) (hB : B < base) : w'.ownsRow base e size v n xs :=
  h.kept hg (by
    cases hb : v.ownBlock with
    | none => exact .inl rfl
    | some k => exact .inr (fun e => by have := (World.ownsRow.lt h k hb).1; have := Option.some.inj e; omega))
theorem ownsRow_ext {w w' : World} {base : Nat} {e : TypeId} {size : Nat} {v : Value} {n : Nat} {xs : List Value} (h : w.ownsRow base e size v n xs) (hx : Ext w w') : w'.ownsRow base e size v n xs :=
  h.kept (row := none) ⟨hx.below.os, hx.below.tape, hx.below.output, hx.size, fun k hk _ => hx.below.block k hk⟩ (by cases hb : v.ownBlock <;> simp)
theorem Ext.own {w0 w w' : World} {v : Value} (h : Ext w0 w) (hg : w.grownBy w' v.ownBlock) (hv : ∀ k, v.ownBlock = some k → w0.heap.size ≤ k) : Ext w0 w' :=
  ⟨hg.os.trans h.below.os, hg.tape.trans h.below.tape, hg.output.trans h.below.output, Nat.le_trans h.size hg.size, fun i hi => (hg.block i (Nat.lt_of_lt_of_le hi h.size) (fun e => by have := hv i e.symm; omega)).trans (h.below.block i hi)⟩
theorem RowAt.own {w w' : World} {B : Nat} {t : TypeId} {c : Array Value} {v : Value} (h : RowAt w B t c) (hg : w.grownBy w' v.ownBlock) (hv : ∀ k, v.ownBlock = some k → k ≠ B) : RowAt w' B t c :=
  (hg.block B h.lt (fun e => hv B e.symm rfl)).trans h
end Go.Proofs.Ytjjikcjhnglkaaa
