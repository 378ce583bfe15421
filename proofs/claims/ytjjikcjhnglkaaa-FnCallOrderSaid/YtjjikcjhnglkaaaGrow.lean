/- Rows that a call lays one by one: what it owns of them; append in one law, nil or not, at a list, at an operation and at a step of a drawn region. -/
import Derived.Test.YtjjikcjhnglkaaaProg
import Derived.Test.YtjjikcjhnglkaaaMark
import Derived.Laws.OwnMore
import Derived.Deep.AppendLies
namespace Go.Proofs.Ytjjikcjhnglkaaa
open Go.RowKit
set_option linter.unusedSimpArgs false
set_option linter.unusedVariables false

section
variable {P : Program} (w : World)
theorem run_append_any (t ty e : TypeId) (base : Nat) (z : Value) (size bytes : Nat) (ht : P.underlying t = some (.slice e)) (hinf : (P.info? e).map (fun i => (i.zero, i.size, i.bytes)) = some (some z, size, bytes))
    (hzs : z.cells.size = size) (hsz : 0 < size) (v : Value) (n : Nat) (xs : List Value) (hown : w.ownsRow base e size v n xs)
    (a' : Option Addr) (m c : Nat) (news : List Value) (hc : a' = none → c = 0 ∧ m = 0) (hl : news.length = m * size) (hnews : ∀ ad, a' = some ad → ∀ (j : Nat) u, news[j]? = some u → w.cell? (ad.add j) = some u) (h1 : ∀ u ∈ news, u.oneCell' = true)
    (h63 : n + m ≤ maxLen) (hbytes : (n + m) * bytes ≤ 140737488355328) (hbase : base ≤ w.heap.size) :
    ∃ v' w', (Builtin.append_ #[t, t] ty #[v, .slice a' m c]).run P w = .ok v' w' ∧ w'.ownsRow base e size v' (n + m) (xs ++ news) ∧ w.grownBy w' v.ownBlock ∧ (v'.ownBlock = v.ownBlock ∨ v'.ownBlock = some w.heap.size) := by
  obtain ⟨i0, hi, hz0, hz1, hz2⟩ := info_parts hinf
  cases a' with
  | none =>
    obtain ⟨rfl, rfl⟩ := hc rfl
    have hn : news = [] := List.eq_nil_of_length_eq_zero (by rw [hl]; simp)
    subst hn
    exact ⟨v, w, run_append_owned_none (P := P) (w := w) base t ty e i0 size ht hi v n xs hown, by rw [List.append_nil]; exact hown, ⟨rfl, rfl, rfl, Nat.le_refl _, fun _ _ _ => rfl⟩, .inl rfl⟩
  | some ad =>
    obtain ⟨v', w', hr, h2, h3, _, h5⟩ := run_append_own_at (P := P) w base t ty e i0 z size bytes ht hi hz0 hz1 hz2 hzs hsz v n xs hown ad m c news hl (hnews ad rfl) h1 h63 hbytes hbase
    exact ⟨v', w', hr, h2, h3, h5⟩
theorem wp_append_any {o : Oper} {a : Act} {K : Act → World → Prop} {Q : Exit → Act → World → Prop} (s x : Operand) (t e : TypeId)
    (ho : o.op = .call { callee := .builtin .append, args := #[s, x], argTypes := #[t, t] })
    (base : Nat) (z : Value) (size bytes : Nat) (ht : P.underlying t = some (.slice e)) (hinf : (P.info? e).map (fun i => (i.zero, i.size, i.bytes)) = some (some z, size, bytes))
    (hzs : z.cells.size = size) (hsz : 0 < size) (v : Value) (n : Nat) (xs : List Value) (hs : a.eval s = v) (hown : w.ownsRow base e size v n xs)
    (a' : Option Addr) (m c : Nat) (hx : a.eval x = .slice a' m c) (news : List Value) (hc : a' = none → c = 0 ∧ m = 0) (hl : news.length = m * size) (hnews : ∀ ad, a' = some ad → ∀ (j : Nat) u, news[j]? = some u → w.cell? (ad.add j) = some u) (h1 : ∀ u ∈ news, u.oneCell' = true)
    (h63 : n + m ≤ maxLen) (hbytes : (n + m) * bytes ≤ 140737488355328) (hbase : base ≤ w.heap.size)
    (h : ∀ v' w', w'.ownsRow base e size v' (n + m) (xs ++ news) → w.grownBy w' v.ownBlock → (v'.ownBlock = v.ownBlock ∨ v'.ownBlock = some w.heap.size) → K (a.put o.dst v') w') : o.wp P a w K Q := by
  obtain ⟨v', w', hr, h2, h3, h4⟩ := run_append_any (P := P) w t o.type e base z size bytes ht hinf hzs hsz v n xs hown a' m c news hc hl hnews h1 h63 hbytes hbase
  unfold Oper.wp execOp
  simp only [ho, resolve, invoke, builtin, Sem.run_bind, Sem.run_pure, Result.andThen_ok, List.map_toArray, List.map_cons, List.map_nil, hs, hx, hr]
  exact h v' w' h2 h3 h4
theorem step_of_wp {o : Oper} {ops : Array Oper} {a : Act} {K : Act → World → Prop} {Q : Exit → Act → World → Prop} {E : Prop} (hgd : o.guard = none) (h : o.wp P a w K Q) : if Region.wanted o (yielded ops a.tmps) = true then Oper.wp P o a w K Q else E := by
  have hw : Region.wanted o (yielded ops a.tmps) = true := by simp [Region.wanted, hgd]
  rw [if_pos hw]
  exact h
end

/-! ### Rows that grow -/
def OwnRow (w : World) (lo : Nat) (u : Value) (row : List Bt) : Prop := w.ownsRow lo 57 6 u row.length (row.flatMap bCells)
/-- The rows lie in the outer slice v, the slices of the rows being vs, all in blocks of the call's own from lo to hi, none of them met twice. -/
def GR (w : World) (lo hi : Nat) (v : Value) (vs : List Value) (rows : List (List Bt)) : Prop :=
  vs.length = rows.length ∧ w.ownsRow lo 54 1 v rows.length vs ∧ (∀ g, v.ownBlock = some g → g < hi) ∧
    ∀ k (h : k < rows.length), ∃ u, vs[k]? = some u ∧ OwnRow w lo u rows[k] ∧ (∀ g, u.ownBlock = some g → g < hi ∧ v.ownBlock ≠ some g ∧ ∀ (k' : Nat), k' < k → ∀ u', vs[k']? = some u' → u'.ownBlock ≠ some g)
theorem GR.nil (w : World) (lo hi : Nat) : GR w lo hi (.slice none 0 0) [] [] := ⟨rfl, World.ownsRow_nil _ _ _ _, (fun g h => by cases h), (fun k h => absurd h (Nat.not_lt_zero _))⟩
theorem ownsRow_kept {w w' : World} {base : Nat} {e : TypeId} {size : Nat} {v : Value} {n : Nat} {xs : List Value} {row : Option Nat} (h : w.ownsRow base e size v n xs) (hg : w.grownBy w' row) (ho : ∀ g, v.ownBlock = some g → row ≠ some g) : w'.ownsRow base e size v n xs :=
  h.kept hg (by
    cases hb : v.ownBlock with
    | none => exact .inl rfl
    | some k => exact .inr (fun e => ho k hb e.symm))
theorem ownsRow_lt {w : World} {base : Nat} {e : TypeId} {size : Nat} {v : Value} {n : Nat} {xs : List Value} (h : w.ownsRow base e size v n xs) {g : Nat} (hg : v.ownBlock = some g) : base ≤ g ∧ g < w.heap.size := World.ownsRow.lt h g hg
theorem GR.ext {w w' : World} {lo hi : Nat} {v : Value} {vs : List Value} {rows : List (List Bt)} (h : GR w lo hi v vs rows) (hx : Ext w w') : GR w' lo hi v vs rows :=
  ⟨h.1, ownsRow_ext h.2.1 hx, h.2.2.1, fun k hk => let ⟨u, h1, h2, h3⟩ := h.2.2.2 k hk; ⟨u, h1, ownsRow_ext h2 hx, h3⟩⟩
theorem ownsRow_low {w : World} {base base' : Nat} {e : TypeId} {size : Nat} {v : Value} {n : Nat} {xs : List Value} (h : w.ownsRow base e size v n xs) (hb : base' ≤ base) : w.ownsRow base' e size v n xs := by
  refine ⟨h.1, ?_⟩
  rcases h.2 with h2 | ⟨g, cap, cur, h3, h4, h5⟩
  · exact .inl h2
  · exact .inr ⟨g, cap, cur, h3, Nat.le_trans hb h4, h5⟩
theorem GR.wide {w : World} {lo hi lo' hi' : Nat} {v : Value} {vs : List Value} {rows : List (List Bt)} (h : GR w lo hi v vs rows) (hl : lo' ≤ lo) (hh : hi ≤ hi') : GR w lo' hi' v vs rows :=
  ⟨h.1, ownsRow_low h.2.1 hl, fun g hg => Nat.lt_of_lt_of_le (h.2.2.1 g hg) hh, fun k hk => let ⟨u, h1, h2, h3⟩ := h.2.2.2 k hk; ⟨u, h1, ownsRow_low h2 hl, fun g hg => ⟨Nat.lt_of_lt_of_le (h3 g hg).1 hh, (h3 g hg).2⟩⟩⟩
/-- Another block than those of the rows has changed. -/
theorem GR.grown {w w' : World} {lo hi : Nat} {v : Value} {vs : List Value} {rows : List (List Bt)} {r : Option Nat} (h : GR w lo hi v vs rows) (hg : w.grownBy w' r) (hr : ∀ B, r = some B → B < lo ∨ hi ≤ B) : GR w' lo hi v vs rows :=
  ⟨h.1, ownsRow_kept h.2.1 hg (fun g hv e => by have h1 := h.2.2.1 g hv; have h2 := ownsRow_lt h.2.1 hv; have := hr g e; omega), h.2.2.1, fun k hk =>
    let ⟨u, h1, h2, h3⟩ := h.2.2.2 k hk
    ⟨u, h1, ownsRow_kept h2 hg (fun g hu e => by have q1 := (h3 g hu).1; have q2 := ownsRow_lt h2 hu; have := hr g e; omega), h3⟩⟩
theorem GR.set {w : World} {lo hi : Nat} {v : Value} {vs : List Value} {rows : List (List Bt)} (h : GR w lo hi v vs rows) {p : Addr} (hp : p.block < lo ∨ hi ≤ p.block) (x : Value) : GR (w.setCell p x) lo hi v vs rows :=
  h.grown (r := some p.block) ⟨rfl, rfl, rfl, by rw [size_setCell']; exact Nat.le_refl _, fun k hk hne => Below.heap_setCell w p x k (fun e => hne (by rw [e]))⟩ (fun B e => by cases e; exact hp)
/-- One row more. -/
theorem GR.push {w w1 w2 : World} {lo hi : Nat} {v v' u : Value} {vs : List Value} {rows : List (List Bt)} {row : List Bt} (h : GR w lo hi v vs rows) (hhi : hi ≤ w.heap.size) (hx : Ext w w1) (hu : OwnRow w1 lo u row) (hub : ∀ g, u.ownBlock = some g → hi ≤ g)
    (hown : w2.ownsRow lo 54 1 v' (rows.length + 1) (vs ++ [u])) (hg : w1.grownBy w2 v.ownBlock) (hat : v'.ownBlock = v.ownBlock ∨ v'.ownBlock = some w1.heap.size) : GR w2 lo w2.heap.size v' (vs ++ [u]) (rows ++ [row]) := by
  have hs1 := hx.size
  have hs2 := hg.size
  refine ⟨by simp [h.1], by simpa using hown, fun g hv => (ownsRow_lt hown hv).2, fun k hk => ?_⟩
  have hk' : k ≤ rows.length := by simp at hk; omega
  by_cases e : k = rows.length
  · subst e
    refine ⟨u, by rw [← h.1]; simp, ?_, fun g hgu => ?_⟩
    · simp only [List.getElem_concat_length]
      exact ownsRow_kept hu hg (fun g hgu e => by have := hub g hgu; have := h.2.2.1 g e; omega)
    · have q1 := ownsRow_lt hu hgu
      have q2 := hub g hgu
      refine ⟨by omega, fun e => ?_, fun k' hk' u' hu' e => ?_⟩
      · rcases hat with hat | hat
        · rw [hat] at e
          have := h.2.2.1 g e
          omega
        · rw [hat] at e
          have := Option.some.inj e
          omega
      · rw [List.getElem?_append_left (by rw [h.1]; exact hk')] at hu'
        obtain ⟨u2, e2, _, h3⟩ := h.2.2.2 k' hk'
        rw [hu'] at e2
        cases e2
        have := (h3 g e).1
        omega
  · have hlt : k < rows.length := by omega
    obtain ⟨u2, e2, h2, h3⟩ := h.2.2.2 k hlt
    refine ⟨u2, by rw [List.getElem?_append_left (by rw [h.1]; exact hlt)]; exact e2, ?_, fun g hgu => ?_⟩
    · rw [List.getElem_append_left hlt]
      exact ownsRow_kept (ownsRow_ext h2 hx) hg (fun g hgu e => (h3 g hgu).2.1 e)
    · have q1 := (h3 g hgu).1
      refine ⟨by omega, fun e => ?_, fun k' hk' u' hu' e => ?_⟩
      · rcases hat with hat | hat
        · rw [hat] at e
          exact (h3 g hgu).2.1 e
        · rw [hat] at e
          have := Option.some.inj e
          omega
      · rw [List.getElem?_append_left (by rw [h.1]; omega)] at hu'
        exact (h3 g hgu).2.2 k' hk' u' hu' e
/-- Read as rows of the call's own. -/
theorem OwnRow.rowOwn {w : World} {lo hi : Nat} {u : Value} {row : List Bt} (h : OwnRow w lo u row) (hh : ∀ g, u.ownBlock = some g → g < hi) : RowOwn w lo hi u row (u.ownBlock.getD 0) := by
  rcases h.2 with ⟨rfl, hn⟩ | ⟨g, cap, cur, rfl, hb, hheap, hnc, hcm, hcs, htake⟩
  · have : row = [] := List.eq_nil_of_length_eq_zero hn
    subst this
    exact ⟨none, 0, rfl, ⟨Nat.zero_le _, fun _ => rfl⟩, .inl rfl⟩
  · refine ⟨some ⟨g, 0, none⟩, cap, rfl, ⟨by omega, fun h => by cases h⟩, .inr ⟨0, cur, rfl, hb, hh g rfl, hheap, fun k hk j x hx => ?_⟩⟩
    have hj : j < 6 := (List.getElem?_eq_some_iff.1 hx).1
    have e1 := flatMap_get bCells_len row k j hk hj
    rw [hx, ← htake, List.getElem?_take] at e1
    rw [Nat.zero_add]
    split at e1
    · simpa using e1
    · cases e1
theorem GR.own {w : World} {lo hi : Nat} {v : Value} {vs : List Value} {rows : List (List Bt)} (h : GR w lo hi v vs rows) : ∃ a c, v = .slice a rows.length c ∧ (rows.length ≤ maxLen ∧ (a = none → c = 0)) ∧ OwnRows w lo hi a rows := by
  obtain ⟨h1, h2, h3, h4⟩ := h
  rcases h2.2 with ⟨rfl, hn⟩ | ⟨g, cap, cur, rfl, hb, hheap, hnc, hcm, hcs, htake⟩
  · have : rows = [] := List.eq_nil_of_length_eq_zero hn
    subst this
    exact ⟨none, 0, rfl, ⟨Nat.zero_le _, fun _ => rfl⟩, .inl rfl⟩
  · refine ⟨some ⟨g, 0, none⟩, cap, rfl, ⟨by omega, fun h => by cases h⟩, .inr ⟨g, 0, cur, fun k => ((vs[k]?).bind Value.ownBlock).getD 0, rfl, hb, h3 g rfl, hheap, fun k hk => ?_⟩⟩
    obtain ⟨u, e, hu, hd⟩ := h4 k hk
    have hown : ∀ (q : Nat) (hq : q < rows.length), rows[q] ≠ [] → ∀ x, vs[q]? = some x → OwnRow w lo x rows[q] → ∃ B, x.ownBlock = some B := by
      intro q hq hne x _ hx
      rcases hx.2 with ⟨rfl, hn⟩ | ⟨g', cap', cur', rfl, _⟩
      · exact absurd (List.eq_nil_of_length_eq_zero hn) hne
      · exact ⟨g', rfl⟩
    refine ⟨⟨u, ?_, ?_⟩, fun hne => ?_⟩
    · rw [Nat.zero_add]
      rw [← htake, List.getElem?_take] at e
      split at e
      · simpa using e
      · cases e
    · simp only [e, Option.bind_some]
      exact hu.rowOwn (fun g hg => (hd g hg).1)
    · obtain ⟨B, hB⟩ := hown k hk hne u e hu
      simp only [e, Option.bind_some, hB, Option.getD_some]
      refine ⟨fun eB => (hd B hB).2.1 (by rw [eB]; rfl), fun k' hk' hne' => ?_⟩
      obtain ⟨u', e', hu', _⟩ := h4 k' (by omega)
      obtain ⟨B', hB'⟩ := hown k' (by omega) hne' u' e' hu'
      simp only [e', Option.bind_some, hB', Option.getD_some]
      exact fun eB => (hd B hB).2.2 k' hk' u' e' (by rw [hB', eB])
theorem GR.rows {w : World} {lo hi : Nat} {v : Value} {vs : List Value} {rows : List (List Bt)} (h : GR w lo hi v vs rows) : ∃ a c, v = .slice a rows.length c ∧ (rows.length ≤ maxLen ∧ (a = none → c = 0)) ∧ RowsAt w a rows :=
  let ⟨a, c, e, hm, ho⟩ := h.own; ⟨a, c, e, hm, ho.rows⟩
theorem rows_take {rows : List (List Bt)} {k : Nat} (h : k < rows.length) : rows.take (k + 1) = rows.take k ++ [rows[k]] := List.take_succ_eq_append_getElem h
theorem cell_flat {w : World} {a' : Option Addr} {row : List Bt} (h : FlatAt w bCells 6 a' row) : ∀ ad, a' = some ad → ∀ (j : Nat) u, (row.flatMap bCells)[j]? = some u → w.cell? (ad.add j) = some u := by
  intro ad e
  subst e
  cases row with
  | nil => intro j u hu; simp at hu
  | cons r rs =>
    obtain ⟨b, off, e, _⟩ := h 0 (by simp)
    cases e
    exact flat_cells h
theorem flat_none {w : World} {a' : Option Addr} {row : List Bt} (h : FlatAt w bCells 6 a' row) (e : a' = none) : row = [] := by
  cases row with
  | nil => rfl
  | cons r rs => obtain ⟨_, _, e', _⟩ := h 0 (by simp); rw [e] at e'; cases e'
/-- append of a row of boats, nil or not, to a row of the call's own, at the operation. -/
theorem wp_append_row {w : World} {o : Oper} {a : Act} {K : Act → World → Prop} {Q : Exit → Act → World → Prop} (s x : Operand)
    (ho : o.op = .call { callee := .builtin .append, args := #[s, x], argTypes := #[54, 54] })
    (base : Nat) (v : Value) (done row : List Bt) (hs : a.eval s = v) (hown : OwnRow w base v done)
    (a' : Option Addr) (m c : Nat) (hm : m = row.length) (hx : a.eval x = .slice a' m c) (hc : a' = none → c = 0) (hf : FlatAt w bCells 6 a' row) (hle : done.length + row.length ≤ 1048576) (hbase : base ≤ w.heap.size)
    (h : ∀ v' w', OwnRow w' base v' (done ++ row) → w.grownBy w' v.ownBlock → (v'.ownBlock = v.ownBlock ∨ v'.ownBlock = some w.heap.size) → K (a.put o.dst v') w') : o.wp Try.prog a w K Q := by
  subst hm
  refine wp_append_any w s x _ 57 ho base _ 6 48 Try.underlying54 info_boat rfl (by decide) v _ _ hs hown a' _ c hx (row.flatMap bCells) (fun e => ⟨hc e, by rw [flat_none hf e]; rfl⟩) (flatMap_len _) (cell_flat hf) (cells_one _) (by unfold maxLen; omega) (by omega) hbase ?_
  intro v' w' h1 h2 h3
  exact h v' w' (by unfold OwnRow; rw [List.length_append, List.flatMap_append]; exact h1) h2 h3
/-- append of slices of rows to the outer slice, at the operation. -/
theorem wp_append_outer {w : World} {o : Oper} {a : Act} {K : Act → World → Prop} {Q : Exit → Act → World → Prop} (s x : Operand)
    (ho : o.op = .call { callee := .builtin .append, args := #[s, x], argTypes := #[30, 30] })
    (base : Nat) (v : Value) (n : Nat) (vs : List Value) (hs : a.eval s = v) (hown : w.ownsRow base 54 1 v n vs)
    (a' : Option Addr) (m c : Nat) (hx : a.eval x = .slice a' m c) (us : List Value) (hm : us.length = m) (hc : a' = none → c = 0) (hus : ∀ (j : Nat) u, us[j]? = some u → ∃ b off, a' = some ⟨b, off, none⟩ ∧ w.cell? ⟨b, off + j, none⟩ = some u) (hone : ∀ u ∈ us, u.oneCell' = true)
    (hle : n + m ≤ 1048576) (hbase : base ≤ w.heap.size)
    (h : ∀ v' w', w'.ownsRow base 54 1 v' (n + m) (vs ++ us) → w.grownBy w' v.ownBlock → (v'.ownBlock = v.ownBlock ∨ v'.ownBlock = some w.heap.size) → K (a.put o.dst v') w') : o.wp Try.prog a w K Q := by
  refine wp_append_any w s x _ 54 ho base _ 1 24 Try.underlying30 info_boats rfl (by decide) v n vs hs hown a' m c hx us (fun e => ⟨hc e, ?_⟩) (by rw [hm]; omega) ?_ hone (by unfold maxLen; omega) (by omega) hbase h
  · cases us with
    | nil => rw [← hm]; rfl
    | cons u us => obtain ⟨_, _, e', _⟩ := hus 0 u rfl; rw [e] at e'; cases e'
  · intro ad e j u hu
    obtain ⟨b, off, e', hcell⟩ := hus j u hu
    rw [e] at e'
    cases e'
    rw [add_plain rfl]
    exact hcell
/-- One slice that has been laid in a block of its own just now. -/
theorem one_new (w : World) (t : TypeId) (u : Value) : ∀ (j : Nat) x, [u][j]? = some x → ∃ b off, (some ⟨w.heap.size, 0, none⟩ : Option Addr) = some ⟨b, off, none⟩ ∧ (w.alloc (.cells #[u] t)).cell? ⟨b, off + j, none⟩ = some x := by
  intro j x hx
  match j, hx with
  | 0, hx => cases hx; exact ⟨_, _, rfl, (RowAt.new w t #[u]).cell rfl⟩
  | j + 1, hx => simp at hx
theorem OwnRow.one {w : World} {lo : Nat} {u : Value} {row : List Bt} (h : OwnRow w lo u row) : u.oneCell' = true := by
  rcases h.2 with ⟨rfl, _⟩ | ⟨g, cap, cur, rfl, _⟩ <;> rfl
theorem OwnRow.form {w : World} {lo : Nat} {u : Value} {row : List Bt} (h : OwnRow w lo u row) : ∃ a c, u = .slice a row.length c := by
  rcases h.2 with ⟨rfl, hn⟩ | ⟨g, cap, cur, rfl, _⟩
  · exact ⟨none, 0, by rw [hn]⟩
  · exact ⟨_, _, rfl⟩
theorem OwnRow.ext {w w' : World} {lo : Nat} {u : Value} {row : List Bt} (h : OwnRow w lo u row) (hx : Ext w w') : OwnRow w' lo u row := ownsRow_ext h hx
/-- A new slice literal without elements. -/
theorem OwnRow.lit (w : World) : OwnRow (w.alloc (.cells #[] 57)) w.heap.size (.slice (some ⟨w.heap.size, 0, none⟩) 0 0) [] := by
  have := World.ownsRow_lit (base := w.heap.size) (e := 57) (size := 6) w #[] 0 (by simp) (by unfold maxLen; omega) rfl
  simpa [OwnRow] using this
theorem Ext.own2 {w0 w w' : World} {v : Value} {lo : Nat} {t : TypeId} {sz n : Nat} {xs : List Value} (h : Ext w0 w) (hg : w.grownBy w' v.ownBlock) (hv : w.ownsRow lo t sz v n xs) (hl : w0.heap.size ≤ lo) : Ext w0 w' :=
  h.own hg (fun k hk => Nat.le_trans hl (ownsRow_lt hv hk).1)
theorem cell_set {w : World} {p q : Addr} {v x : Value} (h : w.cell? q = some x) (hp : q.block ≠ p.block) : (w.setCell p v).cell? q = some x :=
  (World.cell?_of_block (Below.heap_setCell w p v q.block hp)).trans h
theorem cell_drew {w : World} {q : Addr} {x : Value} (h : w.cell? q = some x) : w.drew.cell? q = some x := h
end Go.Proofs.Ytjjikcjhnglkaaa
