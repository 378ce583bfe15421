/- IdsOf: the list of the Ids, on both sides. -/
import Derived.Test.YtjjikcjhnglkaaaDoorProg
import Derived.Test.YtjjikcjhnglkaaaDoorTrainMin
import Derived.Maps.AppendAt
namespace Go.Proofs.YtjjikcjhnglkaaaDoor
open Go.RowKit
set_option linter.unusedSimpArgs false
set_option linter.unusedVariables false

def iCells (x : Int) : List Value := [.int .i64 x]
theorem iCells_len (x : Int) : (iCells x).length = 1 := rfl
theorem info_int : (Tryd.prog.info? 3).map (fun i => (i.zero, i.size, i.bytes)) = some (some (.int .i64 0), 1, 8) := by kernel_rfl
def idsOf (rows : List (List Bt)) : List Int := if trainOk rows then rows.flatten.map Bt.id else []
/-- The ints 'xs' in a row of the call's own, from block 'base' on. -/
def OwnInts (w : World) (base : Nat) (v : Value) (xs : List Int) : Prop := w.ownsRow base 3 1 v xs.length (xs.flatMap iCells)

/-- append of one int to a slice of the call's own. -/
theorem append_int {w : World} {ops : Array Oper} {rest : List Oper} {o : Oper} {a : Act} {Q : Exit → Act → World → Prop} (hgd : o.guard = none) (s x : Operand)
    (ho : o.op = .call { callee := .builtin .append, args := #[s, x], argTypes := #[46, 46] })
    (base : Nat) (v : Value) (done done' : List Int) (z : Int) (hd : done' = done ++ [z]) (hs : a.eval s = v) (hown : OwnInts w base v done)
    (B c : Nat) (hx : a.eval x = .slice (some ⟨B, 0, none⟩) 1 c) (hc : w.cell? ⟨B, 0, none⟩ = some (.int .i64 z)) (hle : done'.length ≤ 1048576) (hbase : base ≤ w.heap.size)
    (h : ∀ v' w', OwnInts w' base v' done' → w.grownBy w' v.ownBlock → (v'.ownBlock = v.ownBlock ∨ v'.ownBlock = some w.heap.size) → wpList Tryd.prog ops Q rest (a.put o.dst v') w') : wpList Tryd.prog ops Q (o :: rest) a w := by
  subst hd
  rw [List.length_append] at hle
  obtain ⟨i0, hi, hz0, hz1, hz2⟩ := info_parts info_int
  refine wpList_append_own_at w hgd s x _ ho base 3 i0 _ 1 8 Tryd.underlying46 hi hz0 hz1 hz2 rfl (by decide) v _ _ hs hown ⟨B, 0, none⟩ 1 c [.int .i64 z] hx rfl ?_ (by simp [Value.oneCell']) (by simp at hle; unfold maxLen; omega) (by simp at hle; omega) hbase ?_
  · intro j u hu
    match j, hu with
    | 0, hu => cases hu; rw [add_plain rfl]; exact hc
    | j + 1, hu => simp at hu
  · intro v' w' h1 h2 _ h4
    refine h v' w' ?_ h2 h4
    unfold OwnInts
    rw [List.length_append, List.flatMap_append]
    exact h1
theorem OwnInts.ext {w w' : World} {base : Nat} {v : Value} {xs : List Int} (h : OwnInts w base v xs) (hx : Ext w w') : OwnInts w' base v xs := ownsRow_ext h hx
theorem OwnInts.nil (w : World) (base : Nat) : OwnInts w base (.slice none 0 0) [] := World.ownsRow_nil _ _ _ _
/-- What is owned, read. -/
theorem OwnInts.read {w : World} {base : Nat} {v : Value} {xs : List Int} (h : OwnInts w base v xs) : ∃ (a : Option Addr) (c : Nat), v = .slice a xs.length c ∧ IntsAt w a xs ∧ ∀ ad, a = some ad → base ≤ ad.block ∧ ∃ cur, RowAt w ad.block 3 cur := by
  obtain ⟨a, c, e, hf, hn⟩ := ownsRow_flat iCells_len h
  refine ⟨a, c, e, fun k hk => ?_, hn⟩
  obtain ⟨b, off, ea, hc⟩ := hf k hk
  exact ⟨b, off, ea, by have := hc 0 _ rfl; simpa using this⟩
theorem OwnInts.wide {w : World} {base base' : Nat} {v : Value} {xs : List Int} (h : OwnInts w base v xs) (hb : base' ≤ base) : OwnInts w base' v xs := by
  refine ⟨h.1, ?_⟩
  rcases h.2 with h2 | ⟨g, cap, cur, h3, h4, h5⟩
  · exact .inl h2
  · exact .inr ⟨g, cap, cur, h3, Nat.le_trans hb h4, h5⟩
theorem ids_step {flat : List Bt} {k : Nat} (hk : k < flat.length) : (flat.take (k + 1)).map Bt.id = (flat.take k).map Bt.id ++ [flat[k].id] := by
  rw [List.take_succ_eq_append_getElem hk, List.map_append]
  rfl

theorem FlatAt.grown {α : Type} {w w' : World} {enc : α → List Value} {sz : Nat} {a : Option Addr} {xs : List α} {B : Nat} (h : FlatAt w enc sz a xs) (hg : w.grownBy w' (some B)) (hb : ∀ ad, a = some ad → ad.block ≠ B) : FlatAt w' enc sz a xs :=
  fun k hk => let ⟨b, off, e, hc⟩ := h k hk; ⟨b, off, e, fun j v hv => by
    have h1 := hc j v hv
    have hlt := World.block_lt_of_cell? w _ h1
    have := hg.block b hlt (fun e' => hb _ e (Option.some.inj e'))
    rw [World.cell?_of_block this]
    exact h1⟩
/-- The row of the call's own that began at block B grows; all else that was there at w1 stands. -/
theorem grown_step {w1 wr wx w5 : World} {B : Nat} {o : Option Nat} (h : w1.grownBy wr (some B)) (hx : Ext wr wx) (hg : wx.grownBy w5 o) (ho : ∀ k, o = some k → k = B ∨ w1.heap.size ≤ k) : w1.grownBy w5 (some B) := by
  refine ⟨hg.os.trans (hx.below.os.trans h.os), hg.tape.trans (hx.below.tape.trans h.tape), hg.output.trans (hx.below.output.trans h.output), Nat.le_trans h.size (Nat.le_trans hx.size hg.size), fun k hk hne => ?_⟩
  have e1 := h.block k hk hne
  have e2 := hx.below.block k (Nat.lt_of_lt_of_le hk h.size)
  have e3 := hg.block k (Nat.lt_of_lt_of_le hk (Nat.le_trans h.size hx.size)) (fun e => by
    rcases ho k e.symm with rfl | h2
    · exact hne rfl
    · omega)
  exact e3.trans (e2.trans e1)

end Go.Proofs.YtjjikcjhnglkaaaDoor
