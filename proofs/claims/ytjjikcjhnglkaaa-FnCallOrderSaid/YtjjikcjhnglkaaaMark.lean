/- Marks: what the law's helpers that number and read back memory do, for ints and for rows of boats. -/
import Derived.Test.YtjjikcjhnglkaaaProg
import Derived.Test.YtjjikcjhnglkaaaIds
namespace Go.Proofs.Ytjjikcjhnglkaaa
open Go.RowKit
set_option linter.unusedSimpArgs false
set_option linter.unusedVariables false

/-- From w to w' only blocks from lo to hi have changed, and new ones have come. -/
structure Chg (lo hi : Nat) (w w' : World) : Prop where
  os : w'.os = w.os
  tape : w'.tape = w.tape
  output : w'.output = w.output
  size : w.heap.size ≤ w'.heap.size
  block : ∀ k, k < w.heap.size → (k < lo ∨ hi ≤ k) → w'.heap[k]? = w.heap[k]?
theorem Chg.refl (lo hi : Nat) (w : World) : Chg lo hi w w := ⟨rfl, rfl, rfl, Nat.le_refl _, fun _ _ _ => rfl⟩
theorem Chg.trans {lo hi : Nat} {a b c : World} (h : Chg lo hi a b) (k : Chg lo hi b c) : Chg lo hi a c :=
  ⟨k.os.trans h.os, k.tape.trans h.tape, k.output.trans h.output, Nat.le_trans h.size k.size, fun i hi ho => (k.block i (Nat.lt_of_lt_of_le hi h.size) ho).trans (h.block i hi ho)⟩
theorem Chg.of_ext {lo hi : Nat} {w w' : World} (h : Ext w w') : Chg lo hi w w' := ⟨h.below.os, h.below.tape, h.below.output, h.size, fun k hk _ => h.below.block k hk⟩
theorem Chg.wide {lo hi lo' hi' : Nat} {w w' : World} (h : Chg lo hi w w') (hl : lo' ≤ lo) (hh : hi ≤ hi') : Chg lo' hi' w w' := ⟨h.os, h.tape, h.output, h.size, fun k hk ho => h.block k hk (by omega)⟩
theorem Chg.ext {lo hi : Nat} {w w1 w2 : World} (h : Chg lo hi w1 w2) (hx : Ext w w1) (hl : w.heap.size ≤ lo) : Ext w w2 :=
  ⟨h.os.trans hx.below.os, h.tape.trans hx.below.tape, h.output.trans hx.below.output, Nat.le_trans hx.size h.size, fun k hk => (h.block k (Nat.lt_of_lt_of_le hk hx.size) (.inl (Nat.lt_of_lt_of_le hk hl))).trans (hx.below.block k hk)⟩
theorem Chg.set {lo hi : Nat} {w w' : World} (h : Chg lo hi w w') {p : Addr} (hl : lo ≤ p.block) (hh : p.block < hi) (v : Value) : Chg lo hi w (w'.setCell p v) :=
  ⟨h.os, h.tape, h.output, by rw [size_setCell']; exact h.size, fun k hk ho => (Below.heap_setCell w' p v k (fun e => by omega)).trans (h.block k hk ho)⟩
theorem RowAt.chg {lo hi : Nat} {w w' : World} {B : Nat} {t : TypeId} {c : Array Value} (h : RowAt w B t c) (hc : Chg lo hi w w') (ho : B < lo ∨ hi ≤ B) : RowAt w' B t c := (hc.block B h.lt ho).trans h
theorem OwnRows.chg {lo hi lo2 hi2 : Nat} {w w' : World} {a : Option Addr} {rows : List (List Bt)} (h : OwnRows w lo hi a rows) (hc : Chg lo2 hi2 w w') (ho : hi ≤ lo2 ∨ hi2 ≤ lo) : OwnRows w' lo hi a rows :=
  h.keep (Nat.le_refl _) (Nat.le_refl _) (fun B t c h1 h2 hr => hr.chg hc (by omega))

/-! ### Ints in a block of their own -/
def IntOwn (w : World) (lo hi : Nat) (v : Value) (xs : List Int) : Prop :=
  ∃ a c, v = .slice a xs.length c ∧ (xs = [] ∨ ∃ B off cur, a = some ⟨B, off, none⟩ ∧ lo ≤ B ∧ B < hi ∧ RowAt w B 3 cur ∧ ∀ k (h : k < xs.length), cur[off + k]? = some (.int .i64 xs[k]))
theorem RowAt.cell_inv {w : World} {B : Nat} {t : TypeId} {c : Array Value} (h : RowAt w B t c) {j : Nat} {v : Value} (hv : w.cell? ⟨B, j, none⟩ = some v) : c[j]? = some v := by
  unfold RowAt at h
  simpa [World.cell?, h] using hv
theorem OwnInts.own {w : World} {base : Nat} {v : Value} {xs : List Int} (h : OwnInts w base v xs) : IntOwn w base w.heap.size v xs := by
  obtain ⟨a, c, rfl, hi, hn⟩ := h.read
  refine ⟨a, c, rfl, ?_⟩
  cases xs with
  | nil => exact .inl rfl
  | cons x xs =>
    obtain ⟨b, off, rfl, hc⟩ := hi 0 (by simp)
    obtain ⟨hb, cur, hr⟩ := hn _ rfl
    refine .inr ⟨b, off, cur, rfl, hb, hr.lt, hr, fun k hk => ?_⟩
    obtain ⟨b', off', e, hc'⟩ := hi k hk
    cases e
    exact hr.cell_inv hc'
theorem IntOwn.chg {lo hi lo2 hi2 : Nat} {w w' : World} {v : Value} {xs : List Int} (h : IntOwn w lo hi v xs) (hc : Chg lo2 hi2 w w') (ho : hi ≤ lo2 ∨ hi2 ≤ lo) : IntOwn w' lo hi v xs := by
  obtain ⟨a, c, e, hr⟩ := h
  exact ⟨a, c, e, hr.imp id fun ⟨B, off, cur, e1, h1, h2, h3, h4⟩ => ⟨B, off, cur, e1, h1, h2, h3.chg hc (by omega), h4⟩⟩
theorem IntOwn.ext {lo hi : Nat} {w w' : World} {v : Value} {xs : List Int} (h : IntOwn w lo hi v xs) (hx : Ext w w') : IntOwn w' lo hi v xs := by
  obtain ⟨a, c, e, hr⟩ := h
  exact ⟨a, c, e, hr.imp id fun ⟨B, off, cur, e1, h1, h2, h3, h4⟩ => ⟨B, off, cur, e1, h1, h2, h3.ext hx, h4⟩⟩
theorem IntOwn.ints {lo hi : Nat} {w : World} {v : Value} {xs : List Int} (h : IntOwn w lo hi v xs) : ∃ a c, v = .slice a xs.length c ∧ IntsAt w a xs := by
  obtain ⟨a, c, e, hr⟩ := h
  refine ⟨a, c, e, fun k hk => ?_⟩
  rcases hr with rfl | ⟨B, off, cur, rfl, _, _, h3, h4⟩
  · exact absurd hk (Nat.not_lt_zero _)
  · exact ⟨B, off, rfl, h3.cell (h4 k hk)⟩
theorem IntOwn.at {lo hi n : Nat} {w : World} {a : Option Addr} {c : Nat} {xs : List Int} (h : IntOwn w lo hi (.slice a n c) xs) : IntsAt w a xs := by
  obtain ⟨a', c', e, hi⟩ := h.ints
  injection e with ea _ _
  rw [ea]
  exact hi
theorem implIdsOf_is (ids : List Int) (m : Nat) (u : Bool) (a : Option Addr) (n c : Nat) (rows : List (List Bt)) (w : World) (hn : n = rows.length) (hs : n ≤ 1048576) (ht : rows.flatten.length ≤ 1048576) (hf : RowsAt w a rows) (hi : idsOf rows = ids) (hm : m = ids.length) :
    Calls Try.prog 16 #[.agg #[.bool u, .slice a n c]] w fun e w' => ∃ a' c', e = .returned (.slice a' m c') ∧ IntOwn w' w.heap.size w'.heap.size (.slice a' m c') ids ∧ Ext w w' :=
  (implIdsOf_any u a n c rows w hn hs ht hf).mono fun e w' ⟨v, he, ho, hx⟩ => by
    subst hi hm
    have h := ho.own
    obtain ⟨a', c', rfl, hr⟩ := id h
    exact ⟨a', c', he, h, hx⟩
def nums (k : Int) (n : Nat) : List Int := (List.range n).map (fun (j : Nat) => k + (j : Int))
theorem nums_len (k : Int) (n : Nat) : (nums k n).length = n := by simp [nums]
theorem nums_get (k : Int) (n j : Nat) (h : j < (nums k n).length) : (nums k n)[j] = k + (j : Int) := by simp [nums]

theorem IntOwn.at_nums {lo hi n : Nat} {w : World} {a : Option Addr} {c : Nat} {k : Int} (h : IntOwn w lo hi (.slice a n c) (nums k n)) : IntsAt w a (nums k n) := h.at

def numBoat (k : Int) : Bt := ⟨k, k + 1, k + 2, k + 3, k + 4, k + 5⟩
def numRow (k : Int) (n : Nat) : List Bt := (List.range n).map (fun (j : Nat) => numBoat (k + 6 * (j : Int)))
theorem numRow_len (k : Int) (n : Nat) : (numRow k n).length = n := by simp [numRow]
theorem numRow_get (k : Int) (n j : Nat) (h : j < (numRow k n).length) : (numRow k n)[j] = numBoat (k + 6 * (j : Int)) := by simp [numRow]
def numRows (k : Int) : List (List Bt) → List (List Bt)
  | [] => []
  | r :: rs => numRow k r.length :: numRows (k + 6 * (r.length : Int)) rs
theorem numRows_len : ∀ (rows : List (List Bt)) (k : Int), (numRows k rows).length = rows.length
  | [], _ => rfl
  | r :: rs, k => by simp [numRows, numRows_len rs]
theorem numRows_get : ∀ (rows : List (List Bt)) (k : Int) (j : Nat) (h : j < (numRows k rows).length) (h' : j < rows.length), (numRows k rows)[j] = numRow (k + 6 * (total (rows.take j) : Int)) rows[j].length
  | [], _, j, h, h' => absurd h' (Nat.not_lt_zero _)
  | r :: rs, k, 0, h, h' => by simp [numRows, total]
  | r :: rs, k, j + 1, h, h' => by
    simp only [numRows, List.getElem_cons_succ, List.take_succ_cons]
    rw [numRows_get rs _ j (by simpa [numRows] using h) (by simpa using h')]
    congr 1
    simp only [total, List.map_cons, List.sum_cons]
    omega
theorem total_step (rows : List (List Bt)) (j : Nat) (h : j < rows.length) : total (rows.take (j + 1)) = total (rows.take j) + rows[j].length := by
  rw [List.take_succ_eq_append_getElem h]
  unfold total
  rw [List.map_append, List.sum_append]
  simp only [List.map_cons, List.map_nil, List.sum_cons, List.sum_nil, Nat.add_zero]
theorem total_take_le (rows : List (List Bt)) (j : Nat) : total (rows.take j) ≤ total rows := by
  have h := congrArg total (List.take_append_drop j rows)
  simp only [total, List.map_append, List.sum_append] at *
  omega

/-- Where the change of a row of n boats in block B ends. -/
def chgTo (n B : Nat) : Nat := if n = 0 then B else B + 1
theorem chgTo_zero {n B : Nat} (h : n = 0) : chgTo n B = B := if_pos h
theorem chgTo_pos {n B : Nat} (h : ¬ n = 0) : chgTo n B = B + 1 := if_neg h

def Boxes (w : World) (l : List (Nat × TypeId × Array Value)) : Prop := ∀ p ∈ l, RowAt w p.1 p.2.1 p.2.2
theorem Boxes.ext {w w' : World} {l : List (Nat × TypeId × Array Value)} (h : Boxes w l) (hx : Ext w w') : Boxes w' l := fun p hp => (h p hp).ext hx
theorem Boxes.chg {w w' : World} {lo hi : Nat} {l : List (Nat × TypeId × Array Value)} (h : Boxes w l) (hc : Chg lo hi w w') (ho : ∀ p ∈ l, p.1 < lo ∨ hi ≤ p.1) : Boxes w' l := fun p hp => (h p hp).chg hc (ho p hp)
theorem Boxes.nil (w : World) : Boxes w [] := fun _ h => by cases h
theorem Boxes.cons {w : World} {b : Nat} {t : TypeId} {c : Array Value} {l : List (Nat × TypeId × Array Value)} (h : RowAt w b t c) (k : Boxes w l) : Boxes w ((b, t, c) :: l) := fun p hp => by
  rcases List.mem_cons.1 hp with rfl | hp
  · exact h
  · exact k p hp
end Go.Proofs.Ytjjikcjhnglkaaa
