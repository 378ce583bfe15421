/- CoupleTrains, on both sides. -/
import Derived.Test.YtmppoflgbmabpaaProg
import Derived.Test.YtmppoflgbmabpaaM2
import Derived.Maps.AppendAt
namespace Go.Proofs.Ytmppoflgbmabpaa
open Go.RowKit
set_option linter.unusedSimpArgs false
set_option linter.unusedVariables false

/-- Rows behind rows. -/
theorem GR.concat {w w' : World} {lo1 hi1 lo2 hi2 n1 n2 : Nat} {v1 v2 v' : Value} {vs1 vs2 : List Value} {r1 r2 : List (List Bt)} (h1 : GR w lo1 hi1 v1 vs1 r1) (h2 : GR w lo2 hi2 v2 vs2 r2) (hl : lo1 ≤ lo2) (hh : hi1 ≤ lo2) (hw : hi2 ≤ w.heap.size) (hw1 : hi1 ≤ w.heap.size)
    (e1 : n1 = r1.length) (e2 : n2 = r2.length) (hown : w'.ownsRow lo1 73 1 v' (n1 + n2) (vs1 ++ vs2)) (hg : w.grownBy w' v1.ownBlock) (hat : v'.ownBlock = v1.ownBlock ∨ v'.ownBlock = some w.heap.size) : GR w' lo1 w'.heap.size v' (vs1 ++ vs2) (r1 ++ r2) := by
  subst e1 e2
  have hs := hg.size
  refine ⟨by simp [h1.1, h2.1], by rw [List.length_append]; exact hown, fun g hv => (ownsRow_lt hown hv).2, fun k hk => ?_⟩
  rw [List.length_append] at hk
  by_cases e : k < r1.length
  · obtain ⟨u, eu, hu, hd⟩ := h1.2.2.2 k e
    refine ⟨u, by rw [List.getElem?_append_left (by rw [h1.1]; exact e)]; exact eu, ?_, fun g hgu => ?_⟩
    · rw [List.getElem_append_left e]
      exact ownsRow_kept hu hg (fun g hgu e => (hd g hgu).2.1 e)
    · have q1 := (hd g hgu).1
      refine ⟨by omega, fun e => ?_, fun k' hk' u' hu' e => ?_⟩
      · rcases hat with hat | hat
        · rw [hat] at e
          exact (hd g hgu).2.1 e
        · rw [hat] at e
          have := Option.some.inj e
          omega
      · rw [List.getElem?_append_left (by rw [h1.1]; omega)] at hu'
        exact (hd g hgu).2.2 k' hk' u' hu' e
  · obtain ⟨u, eu, hu, hd⟩ := h2.2.2.2 (k - r1.length) (by omega)
    have hk2 : vs1.length ≤ k := by rw [h1.1]; omega
    refine ⟨u, by rw [List.getElem?_append_right hk2, h1.1]; exact eu, ?_, fun g hgu => ?_⟩
    · rw [List.getElem_append_right (by omega)]
      exact ownsRow_kept (ownsRow_low hu hl) hg (fun g hgu e => by have := (ownsRow_lt hu hgu).1; have := h1.2.2.1 g e; omega)
    · have q1 := (hd g hgu).1
      have q2 := (ownsRow_lt hu hgu).1
      refine ⟨by omega, fun e => ?_, fun k' hk' u' hu' e => ?_⟩
      · rcases hat with hat | hat
        · rw [hat] at e
          have := h1.2.2.1 g e
          omega
        · rw [hat] at e
          have := Option.some.inj e
          omega
      · by_cases e2 : k' < r1.length
        · rw [List.getElem?_append_left (by rw [h1.1]; exact e2)] at hu'
          obtain ⟨u2, f2, _, hd2⟩ := h1.2.2.2 k' e2
          rw [hu'] at f2
          cases f2
          have := (hd2 g e).1
          omega
        · rw [List.getElem?_append_right (by rw [h1.1]; omega), h1.1] at hu'
          exact (hd g hgu).2.2 (k' - r1.length) (by omega) u' hu' e
theorem ownsRow_type {w : World} {base : Nat} {e : TypeId} {size : Nat} {v : Value} {n : Nat} {xs : List Value} (h : w.ownsRow base e size v n xs) {g : Nat} (hg : v.ownBlock = some g) : ∃ cur, RowAt w g e cur := by
  rcases h.2 with ⟨rfl, _⟩ | ⟨g', cap, cur, rfl, _, hh, _⟩
  · cases hg
  · cases hg
    exact ⟨cur, hh⟩
/-- A block of another type has changed. -/
theorem GR.grownT {w w' : World} {lo hi : Nat} {v : Value} {vs : List Value} {rows : List (List Bt)} {B : Nat} {t : TypeId} {c : Array Value} (h : GR w lo hi v vs rows) (hg : w.grownBy w' (some B)) (hr : RowAt w B t c) (h1 : t ≠ 73) (h2 : t ≠ 76) : GR w' lo hi v vs rows := by
  have key : ∀ (e : TypeId) (size : Nat) (u : Value) (n : Nat) (xs : List Value), w.ownsRow lo e size u n xs → t ≠ e → w'.ownsRow lo e size u n xs := fun e size u n xs ho hne => ownsRow_kept ho hg (fun g hgu e' => by
    obtain ⟨cur, hc⟩ := ownsRow_type ho hgu
    cases e'
    unfold RowAt at hr hc
    rw [hr] at hc
    cases hc
    exact hne rfl)
  exact ⟨h.1, key _ _ _ _ _ h.2.1 h1, h.2.2.1, fun k hk => let ⟨u, e, ho, hd⟩ := h.2.2.2 k hk; ⟨u, e, key _ _ _ _ _ ho h2, hd⟩⟩
theorem grownBy_set (w : World) (p : Addr) (x : Value) : w.grownBy (w.setCell p x) (some p.block) :=
  ⟨rfl, rfl, rfl, by rw [size_setCell']; exact Nat.le_refl _, fun k hk hne => Below.heap_setCell w p x k (fun e => hne (by rw [e]))⟩
theorem GR.setT {w : World} {lo hi : Nat} {v : Value} {vs : List Value} {rows : List (List Bt)} {B : Nat} {t : TypeId} {c : Array Value} (h : GR w lo hi v vs rows) (hr : RowAt w B t c) (h1 : t ≠ 73) (h2 : t ≠ 76) (j : Nat) (x : Value) : GR (w.setCell ⟨B, j, none⟩ x) lo hi v vs rows :=
  h.grownT (B := B) (grownBy_set w ⟨B, j, none⟩ x) hr h1 h2
/-- The slices of the rows, as they lie. -/
theorem GR.cellsAt {w : World} {lo hi n : Nat} {a : Option Addr} {c : Nat} {vs : List Value} {rows : List (List Bt)} (h : GR w lo hi (.slice a n c) vs rows) :
    ∀ (j : Nat) u, vs[j]? = some u → ∃ b off, a = some ⟨b, off, none⟩ ∧ w.cell? ⟨b, off + j, none⟩ = some u := by
  intro j u hu
  have hj : j < vs.length := (List.getElem?_eq_some_iff.1 hu).1
  rcases h.2.1.2 with ⟨e, hn⟩ | ⟨g, cap, cur, e, hb, hheap, hnc, hcm, hcs, htake⟩
  · rw [h.1] at hj
    omega
  · injection e with ea _ _
    refine ⟨g, 0, ea, ?_⟩
    have hrow : RowAt w g 73 cur := hheap
    rw [Nat.zero_add]
    refine hrow.cell ?_
    have e1 : vs[j]? = (cur.toList.take (rows.length * 1))[j]? := by rw [htake]
    rw [hu, List.getElem?_take] at e1
    split at e1
    · simpa using e1.symm
    · cases e1
theorem GR.ones {w : World} {lo hi : Nat} {v : Value} {vs : List Value} {rows : List (List Bt)} (h : GR w lo hi v vs rows) : ∀ u ∈ vs, u.oneCell' = true := by
  intro u hu
  obtain ⟨j, hj, rfl⟩ := List.getElem_of_mem hu
  obtain ⟨u', e, ho, _⟩ := h.2.2.2 j (by rw [← h.1]; exact hj)
  rw [List.getElem?_eq_getElem hj] at e
  cases e
  exact ho.one
theorem GR.noneAt {w : World} {lo hi n : Nat} {a : Option Addr} {c : Nat} {vs : List Value} {rows : List (List Bt)} (h : GR w lo hi (.slice a n c) vs rows) : a = none → c = 0 := by
  intro e
  rcases h.2.1.2 with ⟨e', _⟩ | ⟨g, cap, cur, e', _⟩
  · injection e'
  · injection e' with e' _ _
    rw [e] at e'
    cases e'
theorem GR.lenAt {w : World} {lo hi n : Nat} {a : Option Addr} {c : Nat} {vs : List Value} {rows : List (List Bt)} (h : GR w lo hi (.slice a n c) vs rows) : n = rows.length := by
  obtain ⟨a', c', e, _⟩ := h.own
  injection e
/-- A block of another type has changed. -/
theorem OwnRows.setT {w : World} {lo hi : Nat} {a : Option Addr} {rows : List (List Bt)} {B : Nat} {t : TypeId} {c : Array Value} (h : OwnRows w lo hi a rows) (hr : RowAt w B t c) (h1 : t ≠ 73) (h2 : t ≠ 76) (j : Nat) (x : Value) : OwnRows (w.setCell ⟨B, j, none⟩ x) lo hi a rows := by
  have key : ∀ (e : TypeId) (g : Nat) (cc : Array Value), RowAt w g e cc → t ≠ e → RowAt (w.setCell ⟨B, j, none⟩ x) g e cc := fun e g cc hg hne => hg.other (p := ⟨B, j, none⟩) (fun e' => by
    have e'' : B = g := e'
    subst e''
    unfold RowAt at hr hg
    rw [hr] at hg
    cases hg
    exact hne rfl) x
  rcases h with h | ⟨ob, oo, oc, blk, e, q1, q2, q3, q4⟩
  · exact .inl h
  · refine .inr ⟨ob, oo, oc, blk, e, q1, q2, key _ _ _ q3 h1, fun k hk => ?_⟩
    obtain ⟨⟨v, g1, a', c', ev, hm, hz⟩, g3⟩ := q4 k hk
    refine ⟨⟨v, g1, a', c', ev, hm, hz.imp id fun ⟨off, cur, f1, f2, f3, f4, f5⟩ => ⟨off, cur, f1, f2, f3, key _ _ _ f4 h2, f5⟩⟩, g3⟩
/-- What CoupleTrains answers. -/
def couRes (ua ub : Bool) (ra rb : List (List Bt)) : Bool × List (List Bt) × Bool :=
  if trainOk ra = true ∧ trainOk rb = true ∧ ua = ub ∧ trainOk (ra ++ rb) = true then (ua, ra ++ rb, true) else (false, [], false)
/-- A train that has been laid in blocks of its own, and a bool. -/
def One (w w' : World) (u1 R : Bool) (r1 : List (List Bt)) (n1 : Nat) (e : Ending) : Prop :=
  ∃ a1 c1, e = .returned (.tuple #[.agg #[.bool u1, .slice a1 n1 c1], .bool R]) ∧ OwnRows w' w.heap.size w'.heap.size a1 r1 ∧ Ext w w'
theorem One.zero {w w' : World} {n1 : Nat} (h1 : n1 = 0) (hx : Ext w w') : One w w' false false [] n1 (.returned (.tuple #[.agg #[.bool false, .slice none 0 0], .bool false])) := by
  subst h1
  exact ⟨none, 0, rfl, .inl rfl, hx⟩
/-- 'One', and the capacity is no less than the length. -/
def OneC (w w' : World) (u1 R : Bool) (r1 : List (List Bt)) (n1 : Nat) (e : Ending) : Prop :=
  ∃ a1 c1, e = .returned (.tuple #[.agg #[.bool u1, .slice a1 n1 c1], .bool R]) ∧ OwnRows w' w.heap.size w'.heap.size a1 r1 ∧ Ext w w' ∧ (n1 ≤ c1 ∧ c1 ≤ 9223372036854775807)
theorem OneC.zero {w w' : World} {n1 : Nat} (h1 : n1 = 0) (hx : Ext w w') : OneC w w' false false [] n1 (.returned (.tuple #[.agg #[.bool false, .slice none 0 0], .bool false])) := by
  subst h1
  exact ⟨none, 0, rfl, .inl rfl, hx, by omega⟩
theorem OneC.one {w w' : World} {u1 R : Bool} {r1 : List (List Bt)} {n1 : Nat} {e : Ending} (h : OneC w w' u1 R r1 n1 e) : One w w' u1 R r1 n1 e :=
  let ⟨a1, c1, he, ho, hx, _⟩ := h; ⟨a1, c1, he, ho, hx⟩
theorem GR.cap {w : World} {lo hi n c : Nat} {a : Option Addr} {vs : List Value} {rows : List (List Bt)} (h : GR w lo hi (.slice a n c) vs rows) (hn : n = rows.length) : n ≤ c ∧ c ≤ 9223372036854775807 := by
  rcases h.2.1.2 with ⟨e, h0⟩ | ⟨g, cap, cur, e, hb, hh, hnc, hcm, hcs, ht⟩
  · injection e with e1 e2 e3
    omega
  · injection e with e1 e2 e3
    unfold maxLen at *
    omega
theorem world_as {Q : Exit → Act → World → Prop} {e : Exit} {a : Act} {w : World} (h : ∀ w', w' = w → Q e a w') : Q e a w := h _ rfl

end Go.Proofs.Ytmppoflgbmabpaa
/- Lists of trains that grow, each train in blocks of its own. -/
namespace Go.Proofs.Ytmppoflgbmabpaa
open Go.RowKit
set_option linter.unusedSimpArgs false
set_option linter.unusedVariables false

def eC (e : Bool × Value) : List Value := [.bool e.1, e.2]
theorem eC_len (e : Bool × Value) : (eC e).length = 2 := rfl
/-- The trains lie in the outer slice v, their entries being es, all in blocks of the call's own from lo to hi, each train in a window of its own. -/
def GT (w : World) (lo hi : Nat) (v : Value) (es : List (Bool × Value)) (ts : List Tn) : Prop :=
  es.length = ts.length ∧ w.ownsRow lo 47 2 v ts.length (es.flatMap eC) ∧ (∀ g, v.ownBlock = some g → g < hi) ∧
    ∃ p q : Nat → Nat, ∀ k (h : k < ts.length), (∃ a' c, es[k]? = some (ts[k].1, .slice a' ts[k].2.length c) ∧ ts[k].2.length ≤ maxLen ∧ OwnRows w (p k) (q k) a' ts[k].2) ∧ lo ≤ p k ∧ q k ≤ hi ∧ (∀ g, v.ownBlock = some g → g < p k ∨ q k ≤ g) ∧ ∀ k' < k, q k' ≤ p k
theorem GT.nil (w : World) (lo hi : Nat) : GT w lo hi (.slice none 0 0) [] [] := ⟨rfl, World.ownsRow_nil _ _ _ _, (fun g h => by cases h), fun _ => 0, fun _ => 0, (fun k h => absurd h (Nat.not_lt_zero _))⟩
theorem GT.lit (w : World) {hi : Nat} (h : w.heap.size < hi) : GT (w.alloc (.cells #[] 47)) w.heap.size hi (.slice (some ⟨w.heap.size, 0, none⟩) 0 0) [] [] :=
  ⟨rfl, by
    have := World.ownsRow_lit (base := w.heap.size) (e := 47) (size := 2) w #[] 0 (by simp) (by unfold maxLen; omega) rfl
    simpa using this, (fun g e => by cases e; exact h), fun _ => 0, fun _ => 0, (fun k h => absurd h (Nat.not_lt_zero _))⟩
theorem GT.keep {w w' : World} {lo hi : Nat} {v : Value} {es : List (Bool × Value)} {ts : List Tn} (h : GT w lo hi v es ts) (ho : w'.ownsRow lo 47 2 v ts.length (es.flatMap eC))
    (hk : ∀ B t c, lo ≤ B → B < hi → RowAt w B t c → RowAt w' B t c) : GT w' lo hi v es ts := by
  obtain ⟨h1, _, h3, p, q, h4⟩ := h
  refine ⟨h1, ho, h3, p, q, fun k hk' => ?_⟩
  obtain ⟨⟨a', c, q1, q2, q3⟩, q4, q5, q6, q7⟩ := h4 k hk'
  exact ⟨⟨a', c, q1, q2, q3.keep (Nat.le_refl _) (Nat.le_refl _) (fun B t c g1 g2 hr => hk B t c (by omega) (by omega) hr)⟩, q4, q5, q6, q7⟩
theorem GT.ext {w w' : World} {lo hi : Nat} {v : Value} {es : List (Bool × Value)} {ts : List Tn} (h : GT w lo hi v es ts) (hx : Ext w w') : GT w' lo hi v es ts :=
  h.keep (ownsRow_ext h.2.1 hx) (fun B t c _ _ hr => hr.ext hx)
theorem RowAt.kept {w w' : World} {B : Nat} {t : TypeId} {c : Array Value} {r : Option Nat} (h : RowAt w B t c) (hg : w.grownBy w' r) (hr : r ≠ some B) : RowAt w' B t c :=
  (hg.block B h.lt (fun e => hr e.symm)).trans h
theorem OwnRows.grown {w w' : World} {lo hi : Nat} {a : Option Addr} {rows : List (List Bt)} {r : Option Nat} (h : OwnRows w lo hi a rows) (hg : w.grownBy w' r) (hr : ∀ B, r = some B → B < lo ∨ hi ≤ B) : OwnRows w' lo hi a rows :=
  h.keep (Nat.le_refl _) (Nat.le_refl _) (fun B t c h1 h2 hR => hR.kept hg (fun e => by have := hr B e; omega))
theorem GT.grown {w w' : World} {lo hi : Nat} {v : Value} {es : List (Bool × Value)} {ts : List Tn} {r : Option Nat} (h : GT w lo hi v es ts) (hg : w.grownBy w' r) (hr : ∀ B, r = some B → B < lo ∨ hi ≤ B) : GT w' lo hi v es ts :=
  h.keep (ownsRow_kept h.2.1 hg (fun g hgv e => by have := hr g e; have := h.2.2.1 g hgv; have := (ownsRow_lt h.2.1 hgv).1; omega)) (fun B t c h1 h2 hR => hR.kept hg (fun e => by have := hr B e; omega))
theorem GT.wide {w : World} {lo hi lo' hi' : Nat} {v : Value} {es : List (Bool × Value)} {ts : List Tn} (h : GT w lo hi v es ts) (hl : lo' ≤ lo) (hh : hi ≤ hi') : GT w lo' hi' v es ts := by
  obtain ⟨h1, h2, h3, p, q, h4⟩ := h
  refine ⟨h1, ownsRow_low h2 hl, (fun g hg => by have := h3 g hg; omega), p, q, fun k hk' => ?_⟩
  obtain ⟨q1, q4, q5, q6, q7⟩ := h4 k hk'
  exact ⟨q1, by omega, by omega, q6, q7⟩
theorem GT.set {w : World} {lo hi : Nat} {v : Value} {es : List (Bool × Value)} {ts : List Tn} (h : GT w lo hi v es ts) {p : Addr} (hp : p.block < lo ∨ hi ≤ p.block) (x : Value) : GT (w.setCell p x) lo hi v es ts :=
  h.grown (grownBy_set w p x) (fun B e => by cases e; exact hp)
/-- One more train: its rows lie in [P, Q), which is all behind what was there. -/
theorem GT.push {w1 w2 : World} {lo hi P Q : Nat} {v v' : Value} {es : List (Bool × Value)} {ts : List Tn} {u : Bool} {rows : List (List Bt)} {a' : Option Addr} {c : Nat} (h : GT w1 lo hi v es ts) (hP : hi ≤ P) (hlo : lo ≤ P) (hQ : Q ≤ w1.heap.size) (hu : OwnRows w1 P Q a' rows) (hm : rows.length ≤ maxLen)
    (hown : w2.ownsRow lo 47 2 v' (ts.length + 1) ((es ++ [(u, Value.slice a' rows.length c)]).flatMap eC)) (hg : w1.grownBy w2 v.ownBlock) (hat : v'.ownBlock = v.ownBlock ∨ v'.ownBlock = some w1.heap.size) (hh1 : hi ≤ w1.heap.size) :
    GT w2 lo w2.heap.size v' (es ++ [(u, Value.slice a' rows.length c)]) (ts ++ [(u, rows)]) := by
  have hs2 := hg.size
  obtain ⟨h1, h2, h3, p, q, h4⟩ := h
  have hvlo : ∀ g, v.ownBlock = some g → lo ≤ g := fun g hgv => (ownsRow_lt h2 hgv).1
  refine ⟨by simp [h1], by simpa using hown, (fun g hv => (ownsRow_lt hown hv).2), (fun k => if k < ts.length then p k else P), (fun k => if k < ts.length then q k else Q), fun k hk => ?_⟩
  by_cases e : k < ts.length
  · obtain ⟨⟨b', c', e1, e2, e3⟩, e4, e5, e6, e7⟩ := h4 k e
    simp only [e, if_true]
    rw [List.getElem_append_left e]
    refine ⟨⟨b', c', by rw [List.getElem?_append_left (by rw [h1]; exact e)]; exact e1, e2, ?_⟩, e4, by omega, fun g hgv => ?_, fun k' hk' => ?_⟩
    · exact e3.grown hg (fun B hB => e6 B hB)
    · rcases hat with hat | hat
      · rw [hat] at hgv; exact e6 g hgv
      · rw [hat] at hgv
        have := Option.some.inj hgv
        omega
    · rw [if_pos (by omega)]
      exact e7 k' hk'
  · have ek : k = ts.length := by simp at hk; omega
    subst ek
    simp only [Nat.lt_irrefl, if_false, List.getElem_concat_length]
    refine ⟨⟨a', c, by rw [← h1]; simp, hm, ?_⟩, hlo, by omega, fun g hgv => ?_, fun k' hk' => ?_⟩
    · exact hu.grown hg (fun B hB => by have := h3 B hB; omega)
    · rcases hat with hat | hat
      · rw [hat] at hgv
        have := h3 g hgv
        omega
      · rw [hat] at hgv
        have := Option.some.inj hgv
        omega
    · rw [if_pos hk']
      have := (h4 k' hk').2.2.1
      omega
theorem eC_get (es : List (Bool × Value)) (k : Nat) (hk : k < es.length) : (es.flatMap eC)[k * 2]? = some (.bool es[k].1) ∧ (es.flatMap eC)[k * 2 + 1]? = some es[k].2 := by
  have e0 := flatMap_get eC_len es k 0 hk (by decide)
  have e1 := flatMap_get eC_len es k 1 hk (by decide)
  exact ⟨e0, e1⟩
theorem GT.own {w : World} {lo hi : Nat} {v : Value} {es : List (Bool × Value)} {ts : List Tn} (h : GT w lo hi v es ts) : ∃ a c, v = .slice a ts.length c ∧ (ts.length ≤ maxLen ∧ (a = none → c = 0)) ∧ OwnTrains w lo hi a ts := by
  obtain ⟨h1, h2, h3, p, q, h4⟩ := h
  rcases h2.2 with ⟨rfl, hn⟩ | ⟨g, cap, cur, rfl, hb, hheap, hnc, hcm, hcs, htake⟩
  · have : ts = [] := List.eq_nil_of_length_eq_zero hn
    subst this
    exact ⟨none, 0, rfl, ⟨Nat.zero_le _, fun _ => rfl⟩, .inl rfl⟩
  · refine ⟨some ⟨g, 0, none⟩, cap, rfl, ⟨by omega, fun h => by cases h⟩, .inr ⟨g, 0, cur, p, q, rfl, hb, h3 g rfl, hheap, fun k hk => ?_⟩⟩
    obtain ⟨⟨a', c, e1, e2, e3⟩, e4, e5, e6, e7⟩ := h4 k hk
    have hke : k < es.length := by rw [h1]; exact hk
    obtain ⟨f0, f1⟩ := eC_get es k hke
    rw [List.getElem?_eq_getElem hke] at e1
    have e1' := Option.some.inj e1
    rw [e1'] at f0 f1
    rw [← htake, List.getElem?_take] at f0 f1
    refine ⟨⟨a', c, ?_, ?_, e2, e3⟩, e4, e5, e6 g rfl, e7⟩
    · rw [Nat.zero_add]
      split at f0
      · simpa using f0
      · cases f0
    · rw [Nat.zero_add]
      split at f1
      · simpa using f1
      · cases f1
theorem GT.trains {w : World} {lo hi : Nat} {v : Value} {es : List (Bool × Value)} {ts : List Tn} (h : GT w lo hi v es ts) : ∃ a c, v = .slice a ts.length c ∧ TrainsAt w a ts :=
  let ⟨a, c, e, _, ho⟩ := h.own; ⟨a, c, e, ho.trains⟩
theorem eC_flat_len : ∀ (es : List (Bool × Value)), (es.flatMap eC).length = es.length * 2
  | [] => rfl
  | e :: es => by rw [List.flatMap_cons, List.length_append, eC_flat_len es, eC_len, List.length_cons]; omega
theorem eC_one (es : List (Bool × Value)) (h : ∀ e ∈ es, e.2.oneCell' = true) : ∀ u ∈ es.flatMap eC, u.oneCell' = true := fun u hu => by
  obtain ⟨e, he, hue⟩ := List.mem_flatMap.1 hu
  simp [eC] at hue
  rcases hue with rfl | rfl
  · rfl
  · exact h e he
/-- append of trains to the outer slice, at the operation. -/
theorem wp_append_trains {w : World} {o : Oper} {a : Act} {K : Act → World → Prop} {Q : Exit → Act → World → Prop} (s x : Operand)
    (ho : o.op = .call { callee := .builtin .append, args := #[s, x], argTypes := #[24, 24] })
    (base : Nat) (v : Value) (n : Nat) (es : List (Bool × Value)) (hs : a.eval s = v) (hown : w.ownsRow base 47 2 v n (es.flatMap eC))
    (a' : Option Addr) (m c : Nat) (hx : a.eval x = .slice a' m c) (news : List (Bool × Value)) (hm : news.length = m) (hc : a' = none → c = 0 ∧ m = 0) (hnews : ∀ ad, a' = some ad → ∀ (j : Nat) u, (news.flatMap eC)[j]? = some u → w.cell? (ad.add j) = some u) (hone : ∀ e ∈ news, e.2.oneCell' = true)
    (hle : n + m ≤ 1048576) (hbase : base ≤ w.heap.size)
    (h : ∀ v' w', w'.ownsRow base 47 2 v' (n + m) ((es ++ news).flatMap eC) → w.grownBy w' v.ownBlock → (v'.ownBlock = v.ownBlock ∨ v'.ownBlock = some w.heap.size) → K (a.put o.dst v') w') : o.wp Try.prog a w K Q := by
  refine wp_append_any w s x _ 47 ho base _ 2 32 Try.underlying24 info_train rfl (by decide) v n _ hs hown a' m c hx (news.flatMap eC) hc (by rw [eC_flat_len, hm]) hnews (eC_one news hone) (by unfold maxLen; omega) (by omega) hbase ?_
  intro v' w' h1 h2 h3
  exact h v' w' (by rw [List.flatMap_append]; exact h1) h2 h3
end Go.Proofs.Ytmppoflgbmabpaa
/- Locks: how they open, sizes, conversion, comparison; the trains in a lock differ; LockOk, ChamberLevel on both sides. -/
namespace Go.Proofs.Ytmppoflgbmabpaa
open Go.RowKit
set_option linter.unusedSimpArgs false
set_option linter.unusedVariables false

structure Lk where
  len : Int
  wid : Int
  sa : Int
  sb : Int
  base : Int
  area : Int
  rate : Int
  water : Int
  gate : Int
/-- A lock's value. -/
def lkVal (l : Lk) (v : Value) : Value := .agg #[.int .i64 l.len, .int .i64 l.wid, .int .i64 l.sa, .int .i64 l.sb, .int .i64 l.base, .int .i64 l.area, .int .i64 l.rate, .int .i64 l.water, .int .i64 l.gate, v]

end Go.Proofs.Ytmppoflgbmabpaa
/- Copies of trains and of locks, on both sides. -/
namespace Go.Proofs.Ytmppoflgbmabpaa
open Go.RowKit
set_option linter.unusedSimpArgs false
set_option linter.unusedVariables false

theorem one_trainC (w : World) (u : Bool) (v : Value) : ∀ ad, (some ⟨w.heap.size, 0, none⟩ : Option Addr) = some ad → ∀ (j : Nat) x, ([(u, v)].flatMap eC)[j]? = some x → (w.alloc (.cells #[.bool u, v] 47)).cell? (ad.add j) = some x := by
  intro ad e j x hx
  cases e
  rw [add_plain rfl, Nat.zero_add]
  match j, hx with
  | 0, hx => cases hx; exact (RowAt.new w 47 #[.bool u, v]).cell rfl
  | 1, hx => cases hx; exact (RowAt.new w 47 #[.bool u, v]).cell rfl
  | j + 2, hx => simp [eC] at hx

set_option maxRecDepth 100000 in
set_option maxHeartbeats 1000000 in
theorem copyTrain_any (u : Bool) (a : Option Addr) (n c : Nat) (rows : List (List Bt)) (w : World) (hn : n = rows.length) (hs : n ≤ 1048576) (hrs : ∀ r ∈ rows, r.length ≤ 1048576) (hf : RowsAt w a rows) :
    Calls Try.prog 40 #[.agg #[.bool u, .slice a n c]] w fun e w' => ∃ a' c', e = .returned (.agg #[.bool u, .slice a' n c']) ∧ OwnRows w' w.heap.size w'.heap.size a' rows ∧ Ext w w' := by
  have HF := Lib.hid hf; clear hf
  have HN := Lib.hid hn; clear hn
  have HR := Lib.hid hrs; clear hrs
  have R0 := (RowAt.new w 47 #[.bool u, .slice a n c]).ext ((Ext.refl _).alloc (.cells #[.bool false, .slice none 0 0] 47))
  have R1 := RowAt.new (w.alloc (.cells #[.bool u, .slice a n c] 47)) 47 #[.bool false, .slice none 0 0]
  rw [World.size_alloc] at R1
  have E0 := ((Ext.refl w).alloc (.cells #[.bool u, .slice a n c] 47)).alloc (.cells #[.bool false, .slice none 0 0] 47)
  go_enter Try.func40, Try.ntmps40
  go_wp2_with fail
  have zz := E0.size
  have hS := Ext.refl ((w.alloc (.cells #[.bool u, .slice a n c] 47)).alloc (.cells #[.bool false, .slice none 0 0] 47))
  have HR0 := Lib.hid R0
  have HR1 := Lib.hid R1
  have HE0 := Lib.hid E0
  obtain ⟨W, hW⟩ : ∃ x, x = ((w.alloc (.cells #[.bool u, .slice a n c] 47)).alloc (.cells #[.bool false, .slice none 0 0] 47)) := ⟨_, rfl⟩
  have hWs : W.heap.size = w.heap.size + 1 + 1 := by rw [hW]; simp
  rw [← hW] at HR0 HR1 HE0 hS
  (try rw [← hW])
  clear hW R0 R1 E0 zz
  have c0 : W.cell? ⟨w.heap.size, 0, none⟩ = some (.bool u) := HR0.out.cell rfl
  have c1 : W.cell? ⟨w.heap.size, 1, none⟩ = some (.slice a n c) := HR0.out.cell rfl
  have k0 : W.cell? ⟨w.heap.size + 1, 0, none⟩ = some (.bool false) := HR1.out.cell rfl
  have k1 : W.cell? ⟨w.heap.size + 1, 1, none⟩ = some (.slice none 0 0) := HR1.out.cell rfl
  have f0 := HR1.out.frozen 0
  have f1 := HR1.out.frozen 1
  refine wp_region_held_drew (S := (fun w' => w'.cell? ⟨w.heap.size, 0, none⟩ = some (.bool u) ∧ w'.cell? ⟨w.heap.size, 1, none⟩ = some (.slice a n c))) (by kernel_rfl) ?_ (fun hH0 => ?_)
  · (try dsimp only)
    ((refine And.intro ?_ ?_) <;> (first | (with_reducible assumption) | exact (((HR0.out.ext x4).other (p := ⟨w.heap.size + 1, 0, none⟩) (by simp) (.bool u)).other (p := ⟨w.heap.size + 1, 1, none⟩) (by simp) (.slice a4 n c4)).cell rfl | exact (HR0.out.ext x4).cell rfl | exact (HR0.out.ext (Ext.refl _).drew).cell rfl))
  refine take_l 0 (v := ?_) rfl (by kernel_rfl) (by kernel_rfl) (by kernel_rfl) (fun _ _ _ h => h) (by rfl) ?_ (by assumption) ?_
  rotate_left
  · (intro w hSw; (try dsimp only at hSw); go_simp; (try with_reducible rfl))
  (try simp only [Act.put, List.setIfInBounds_toArray, List.set_cons_zero, List.set_cons_succ])
  refine take_l 1 (v := ?_) rfl (by kernel_rfl) (by kernel_rfl) (by kernel_rfl) (fun _ _ _ h => h) (by rfl) ?_ (by assumption) ?_
  rotate_left
  · (intro w hSw; (try dsimp only at hSw); go_simp; (try with_reducible rfl))
  (try simp only [Act.put, List.setIfInBounds_toArray, List.set_cons_zero, List.set_cons_succ])
  refine take_l 2 (v := ?_) rfl (by kernel_rfl) (by kernel_rfl) (by kernel_rfl) (fun _ _ _ h => h) (by rfl) ?_ (by assumption) ?_
  rotate_left
  · (intro w hSw; (try dsimp only at hSw); go_simp; (try with_reducible rfl))
  (try simp only [Act.put, List.setIfInBounds_toArray, List.set_cons_zero, List.set_cons_succ])
  refine take_l 3 (v := ?_) rfl (by kernel_rfl) (by kernel_rfl) (by kernel_rfl) (fun _ _ _ h => h) (by rfl) ?_ (by assumption) ?_
  rotate_left
  · (intro w hSw; (try dsimp only at hSw); go_simp; (try with_reducible rfl))
  (try simp only [Act.put, List.setIfInBounds_toArray, List.set_cons_zero, List.set_cons_succ])
  refine wpAnyH_ready (rs := [4]) (by kernel_rfl) (by simp) ?_
  refine cons_l (i := 4) rfl (fun K hK => ?_) ?_
  go_simp; (go_at_call 55; refine (copyRows_any _ _ _ rows _ HN.out hs HR.out (HF.out.ext (HE0.out.trans (by (repeat' (first | (with_reducible exact Ext.refl _) | (with_reducible assumption) | (with_reducible refine Ext.alloc ?_ _) | (with_reducible refine Ext.drewN ?_ _) | (with_reducible refine Ext.drew ?_) | (with_reducible refine Ext.setCell ?_ ?_ _) | (with_reducible exact Nat.le_refl _) | (with_reducible exact Nat.le_succ _) | (with_reducible refine Ext.trans ?_ (by assumption)) | (simp; done) | (simp; omega))))))).mono ?_); rintro e w4 ⟨a4, c4, vs, rfl, hg4, hb4⟩; have x4 : Ext W w4 := Ext.trans (by (repeat' (first | (with_reducible exact Ext.refl _) | (with_reducible assumption) | (with_reducible refine Ext.alloc ?_ _) | (with_reducible refine Ext.drewN ?_ _) | (with_reducible refine Ext.drew ?_) | (with_reducible refine Ext.setCell ?_ ?_ _) | (with_reducible exact Nat.le_refl _) | (with_reducible exact Nat.le_succ _) | (with_reducible refine Ext.trans ?_ (by assumption)) | (simp; done) | (simp; omega)))) hb4; have HG4 := Lib.hid hg4; have k04 := x4.cell k0; have k14 := x4.cell k1; have f04 := (HR1.out.ext x4).frozen 0; have f14 := (HR1.out.ext x4).frozen 1; clear hg4
  refine hK.out _ _ ?_ (fun hH1 => ?_)
  · (try dsimp only)
    ((refine And.intro ?_ ?_) <;> (first | (with_reducible assumption) | exact (((HR0.out.ext x4).other (p := ⟨w.heap.size + 1, 0, none⟩) (by simp) (.bool u)).other (p := ⟨w.heap.size + 1, 1, none⟩) (by simp) (.slice a4 n c4)).cell rfl | exact (HR0.out.ext x4).cell rfl | exact (HR0.out.ext (Ext.refl _).drew).cell rfl))
  clear hK K hH0
  (try simp only [Act.put, List.setIfInBounds_toArray, List.set_cons_zero, List.set_cons_succ])
  refine take_l 5 (v := ?_) rfl (by kernel_rfl) (by kernel_rfl) (by kernel_rfl) (fun _ _ _ h => h) (by rfl) ?_ (by assumption) ?_
  rotate_left
  · (intro w hSw; (try dsimp only at hSw); go_simp; (try with_reducible rfl))
  (try simp only [Act.put, List.setIfInBounds_toArray, List.set_cons_zero, List.set_cons_succ])
  refine wpAnyH_ready (rs := [6]) (by kernel_rfl) (by simp) ?_
  refine cons_l (i := 6) rfl (fun K hK => ?_) ?_
  go_simp
  refine hK.out _ _ ?_ (fun hH2 => ?_)
  · (try dsimp only)
    ((refine And.intro ?_ ?_) <;> (first | (with_reducible assumption) | exact (((HR0.out.ext x4).other (p := ⟨w.heap.size + 1, 0, none⟩) (by simp) (.bool u)).other (p := ⟨w.heap.size + 1, 1, none⟩) (by simp) (.slice a4 n c4)).cell rfl | exact (HR0.out.ext x4).cell rfl | exact (HR0.out.ext (Ext.refl _).drew).cell rfl))
  clear hK K hH1
  (try simp only [Act.put, List.setIfInBounds_toArray, List.set_cons_zero, List.set_cons_succ])
  refine wpAnyH_done (by kernel_rfl) ?_ _
  rotate_left
  exact AllReadyH.nil
  exact AllReadyH.nil
  all_goals
    have zz := x4.size
    have hdz : W.drew.heap.size = W.heap.size := by simp
    have hdl : w.heap.size ≤ W.drew.heap.size := by rw [hdz, hWs]; omega
    have T1 := ((HR1.out.ext x4).set 0 (.bool u)).set 1 (.slice a4 n c4)
    have q0 : ((w4.setCell ⟨w.heap.size + 1, 0, none⟩ (.bool u)).setCell ⟨w.heap.size + 1, 1, none⟩ (.slice a4 n c4)).cell? ⟨w.heap.size + 1, 0, none⟩ = some (.bool u) := T1.cell rfl
    have q1 : ((w4.setCell ⟨w.heap.size + 1, 0, none⟩ (.bool u)).setCell ⟨w.heap.size + 1, 1, none⟩ (.slice a4 n c4)).cell? ⟨w.heap.size + 1, 1, none⟩ = some (.slice a4 n c4) := T1.cell rfl
    go_wp2
    refine bodyPost_ret (v := .agg #[.bool u, .slice a4 n c4]) (by simp [results, Try.results40, go_sem, *]) rfl ⟨a4, c4, rfl, ?_, ((HE0.out.trans x4).setCell (by dsimp only; omega) _).setCell (by dsimp only; omega) _⟩
    obtain ⟨a5, c5, e5, _, how⟩ := ((HG4.out.set (p := ⟨w.heap.size + 1, 0, none⟩) (.inl (by show w.heap.size + 1 < _; rw [hdz]; omega)) (.bool u)).set (p := ⟨w.heap.size + 1, 1, none⟩) (.inl (by show w.heap.size + 1 < _; rw [hdz]; omega)) (.slice a4 n c4)).own
    injection e5 with q5 _ _
    subst q5
    exact how.wide hdl (by first | exact Nat.le_refl _ | (simp only [size_setCell']; exact Nat.le_refl _))

set_option maxRecDepth 100000 in
set_option maxHeartbeats 2000000 in
theorem copyTrains_any (a : Option Addr) (n c : Nat) (ts : List Tn) (w : World) (hn : n = ts.length) (hs : n ≤ 1048576) (hts : ∀ t ∈ ts, SmallT t) (hf : TrainsAt w a ts) :
    Calls Try.prog 39 #[.slice a n c] w fun e w' => ∃ a' c' es, e = .returned (.slice a' n c') ∧ GT w' w.heap.size w'.heap.size (.slice a' n c') es ts ∧ Ext w w' := by
  have HF := Lib.hid hf; clear hf
  have HN := Lib.hid hn; clear hn
  have HR := Lib.hid hts; clear hts
  go_enter Try.func39, Try.ntmps39
  go_wp2
  go_loopw [3, 8] (fun v i wr => ∃ (k : Nat) (es : List (Bool × Value)) (done : List Tn), k ≤ n ∧ i = .int .i64 k ∧ Ext w wr ∧ Hid (done = ts.take k) ∧ Hid (GT wr w.heap.size wr.heap.size v es done)) (fun _ i _ => n - (intOf i).toNat)
  case atStart => exact ⟨0, [], [], Nat.zero_le _, rfl, by (repeat' (first | (with_reducible exact Ext.refl _) | (with_reducible assumption) | (with_reducible refine Ext.alloc ?_ _) | (with_reducible refine Ext.drewN ?_ _) | (with_reducible refine Ext.drew ?_) | (with_reducible refine Ext.setCell ?_ ?_ _) | (with_reducible exact Nat.le_refl _) | (with_reducible exact Nat.le_succ _) | (with_reducible refine Ext.trans ?_ (by assumption)) | (simp; done) | (simp; omega))), rfl, GT.nil _ _ _⟩
  case round =>
    obtain ⟨k, es, done, hk, rfl, hr, hdone, hgt⟩ := hrel
    by_cases hlt : k < n
    · have hlt' : k < ts.length := by rw [← HN.out]; exact hlt
      obtain ⟨b, off, a', c', rfl, hc0, hc1, hml, hfr⟩ := HF.out k hlt'
      have HRX := Lib.hid hr
      have e0 := HRX.out.cell hc0
      have e1 := HRX.out.cell hc1
      have HFR := Lib.hid (hfr.ext HRX.out); clear hfr hc0 hc1
      obtain ⟨g1, g2, g3⟩ := HR.out ts[k] (List.getElem_mem _)
      have HD := Lib.hid (show done ++ [ts[k]] = ts.take (k + 1) by rw [List.take_succ_eq_append_getElem hlt', hdone.out])
      have hdl : done.length = k := by rw [hdone.out, List.length_take]; omega
      have HDL := Lib.hid hdl
      obtain ⟨t, ht⟩ : ∃ t, ts[k] = t := ⟨_, rfl⟩
      rw [ht] at e0 e1 HFR HD g1 g2 hml
      clear ht hdone hdl g3
      obtain ⟨u, rows⟩ := t
      dsimp only at e0 e1 HFR HD g1 g2 hml
      obtain ⟨m, hm⟩ : ∃ m, m = rows.length := ⟨_, rfl⟩
      rw [← hm] at e1 g1 hml
      have HM := Lib.hid hm; clear hm
      have HG2 := Lib.hid g2; clear g2
      have HML := Lib.hid hml; clear hml
      have hsz := HRX.out.size
      go_wp2_with fail
      refine (copyTrain_any _ _ m _ rows _ HM.out g1 HG2.out (HFR.out.ext ((Ext.refl wr).alloc (.cells #[.bool u, .slice a' m c'] 47)))).mono ?_
      rintro e w1 ⟨ua, uc, rfl, hou, hb1⟩
      have HOU := Lib.hid hou
      have HX1 := Lib.hid (((Ext.refl wr).alloc (.cells #[.bool u, .slice a' m c'] 47)).trans hb1)
      have hs1 := hb1.size
      simp only [World.size_alloc] at hs1 hou HOU
      have HX2 := Lib.hid (HX1.out.trans ((Ext.refl w1).alloc (.cells #[.bool u, .slice ua m uc] 47)))
      have HX3 := Lib.hid ((Ext.refl w1).alloc (.cells #[.bool u, .slice ua m uc] 47))
      have YG := Lib.hid (hgt.out.ext HX2.out)
      have HOW := Lib.hid YG.out.2.1
      rw [HDL.out] at HOW
      have HOT := Lib.hid (one_trainC w1 u (.slice ua m uc))
      have HVL := Lib.hid (show ∀ g, Value.ownBlock _ = some g → w.heap.size ≤ g from fun g hg => (ownsRow_lt HOW.out hg).1)
      clear hou hb1
      go_wp2_with (at_builtin; refine wpList_plain rfl fun K hK => wp_append_trains _ _ rfl (w.heap.size) _ k es rfl HOW.out _ 1 1 rfl [(u, .slice ua m uc)] rfl (fun h => by cases h) HOT.out (fun e he => by cases List.mem_singleton.1 he; rfl) (by omega) (by simp; omega) ?_)
      intro v' w5 hown5 hgrow5 hat5
      have hs5 := hgrow5.size
      simp only [World.size_alloc] at hs5
      have HG5 := Lib.hid (GT.push (P := wr.heap.size + 1) (Q := w1.heap.size) (u := u) (rows := rows) (a' := ua) (c := uc) YG.out (by omega) (by omega) (by simp) (HOU.out.ext HX3.out) (by rw [← HM.out]; exact HML.out) (by rw [← HM.out, HDL.out, List.flatMap_append]; simpa using hown5) hgrow5 (by simpa using hat5) (by simp; omega))
      rw [HD.out] at HG5
      have hx5 : Ext w w5 := Ext.own2 (hr.trans HX2.out) hgrow5 HOW.out (Nat.le_refl _)
      clear hown5 hgrow5 hat5 HOT HOW YG
      refine hK _ _ ?_
      clear hK K
      go_wp2
      go_roundw
      case rel => exact ⟨k + 1, _, _, by omega, by go_num, hx5, rfl, HG5.out⟩
      case measure => simp [intOf]; omega
    · have hkn : k = n := by omega
      have HD : done = ts := by rw [hdone.out, hkn, HN.out, List.take_length]
      clear hdone
      obtain ⟨a9, c9, rfl, _, _⟩ := hgt.out.own
      have HG := Lib.hid hgt.out
      rw [HD, ← HN.out] at HG
      have hnn := Lib.hid (show done.length = n by rw [HD, HN.out])
      clear HD
      go_wp2
      go_ret
      exact ⟨a9, c9, es, by (show Ending.returned (Value.slice a9 done.length c9) = _); rw [hnn.out], HG.out, hr⟩

set_option maxRecDepth 100000 in
set_option maxHeartbeats 2000000 in
theorem copyLock_any (x0 x1 x2 x3 x4 x5 x6 x7 x8 : Int) (a : Option Addr) (n c : Nat) (ts : List Tn) (w : World) (hn : n = ts.length) (hs : n ≤ 1048576) (hts : ∀ t ∈ ts, SmallT t) (hf : TrainsAt w a ts) :
    Calls Try.prog 30 #[.agg #[.int .i64 x0, .int .i64 x1, .int .i64 x2, .int .i64 x3, .int .i64 x4, .int .i64 x5, .int .i64 x6, .int .i64 x7, .int .i64 x8, .slice a n c]] w fun e w' => ∃ a' c' es, e = .returned (.agg #[.int .i64 x0, .int .i64 x1, .int .i64 x2, .int .i64 x3, .int .i64 x4, .int .i64 x5, .int .i64 x6, .int .i64 x7, .int .i64 x8, .slice a' n c']) ∧ GT w' w.heap.size w'.heap.size (.slice a' n c') es ts ∧ Ext w w' := by
  have HF := Lib.hid hf; clear hf
  have HN := Lib.hid hn; clear hn
  have HR := Lib.hid hts; clear hts
  have R0 := (RowAt.new w 26 #[.int .i64 x0, .int .i64 x1, .int .i64 x2, .int .i64 x3, .int .i64 x4, .int .i64 x5, .int .i64 x6, .int .i64 x7, .int .i64 x8, .slice a n c]).ext ((Ext.refl _).alloc (.cells #[.int .i64 0, .int .i64 0, .int .i64 0, .int .i64 0, .int .i64 0, .int .i64 0, .int .i64 0, .int .i64 0, .int .i64 0, .slice none 0 0] 26))
  have R1 := RowAt.new (w.alloc (.cells #[.int .i64 x0, .int .i64 x1, .int .i64 x2, .int .i64 x3, .int .i64 x4, .int .i64 x5, .int .i64 x6, .int .i64 x7, .int .i64 x8, .slice a n c] 26)) 26 #[.int .i64 0, .int .i64 0, .int .i64 0, .int .i64 0, .int .i64 0, .int .i64 0, .int .i64 0, .int .i64 0, .int .i64 0, .slice none 0 0]
  rw [World.size_alloc] at R1
  have HR0 := Lib.hid R0
  have HR1 := Lib.hid R1
  have HE0 := Lib.hid (((Ext.refl w).alloc (.cells #[.int .i64 x0, .int .i64 x1, .int .i64 x2, .int .i64 x3, .int .i64 x4, .int .i64 x5, .int .i64 x6, .int .i64 x7, .int .i64 x8, .slice a n c] 26)).alloc (.cells #[.int .i64 0, .int .i64 0, .int .i64 0, .int .i64 0, .int .i64 0, .int .i64 0, .int .i64 0, .int .i64 0, .int .i64 0, .slice none 0 0] 26))
  clear R0 R1
  go_enter Try.func30, Try.ntmps30
  go_wp2_with fail
  refine (copyTrains_any _ _ _ ts _ HN.out hs HR.out (HF.out.ext HE0.out)).mono ?_
  rintro e w1 ⟨a1, c1, es, rfl, hg1, hb1⟩
  have z1 := hb1.size
  simp only [World.size_alloc] at z1 hg1
  have HG1 := Lib.hid hg1
  have S0 := HR0.out.ext hb1
  have S1 := Lib.hid (HR1.out.ext hb1)
  have HE1 := Lib.hid (HE0.out.trans hb1)
  have c9 : w1.cell? ⟨w.heap.size, 9, none⟩ = some (.slice a n c) := S0.cell rfl
  have f9 := S0.frozen 9
  have S2 := S0.set 9 (.slice a1 n c1)
  have S3 := S1.out.other (p := ⟨w.heap.size, 9, none⟩) (by simp) (.slice a1 n c1)
  have p0 : (w1.setCell ⟨w.heap.size, 9, none⟩ (.slice a1 n c1)).cell? ⟨w.heap.size, 0, none⟩ = some (.int .i64 x0) := S2.cell rfl
  have p1 : (w1.setCell ⟨w.heap.size, 9, none⟩ (.slice a1 n c1)).cell? ⟨w.heap.size, 1, none⟩ = some (.int .i64 x1) := S2.cell rfl
  have p2 : (w1.setCell ⟨w.heap.size, 9, none⟩ (.slice a1 n c1)).cell? ⟨w.heap.size, 2, none⟩ = some (.int .i64 x2) := S2.cell rfl
  have p3 : (w1.setCell ⟨w.heap.size, 9, none⟩ (.slice a1 n c1)).cell? ⟨w.heap.size, 3, none⟩ = some (.int .i64 x3) := S2.cell rfl
  have p4 : (w1.setCell ⟨w.heap.size, 9, none⟩ (.slice a1 n c1)).cell? ⟨w.heap.size, 4, none⟩ = some (.int .i64 x4) := S2.cell rfl
  have p5 : (w1.setCell ⟨w.heap.size, 9, none⟩ (.slice a1 n c1)).cell? ⟨w.heap.size, 5, none⟩ = some (.int .i64 x5) := S2.cell rfl
  have p6 : (w1.setCell ⟨w.heap.size, 9, none⟩ (.slice a1 n c1)).cell? ⟨w.heap.size, 6, none⟩ = some (.int .i64 x6) := S2.cell rfl
  have p7 : (w1.setCell ⟨w.heap.size, 9, none⟩ (.slice a1 n c1)).cell? ⟨w.heap.size, 7, none⟩ = some (.int .i64 x7) := S2.cell rfl
  have p8 : (w1.setCell ⟨w.heap.size, 9, none⟩ (.slice a1 n c1)).cell? ⟨w.heap.size, 8, none⟩ = some (.int .i64 x8) := S2.cell rfl
  have p9 : (w1.setCell ⟨w.heap.size, 9, none⟩ (.slice a1 n c1)).cell? ⟨w.heap.size, 9, none⟩ = some (.slice a1 n c1) := S2.cell rfl
  have r0 : (w1.setCell ⟨w.heap.size, 9, none⟩ (.slice a1 n c1)).cell? ⟨w.heap.size + 1, 0, none⟩ = some (.int .i64 0) := S3.cell rfl
  have g0 := S3.frozen 0
  have r1 : (w1.setCell ⟨w.heap.size, 9, none⟩ (.slice a1 n c1)).cell? ⟨w.heap.size + 1, 1, none⟩ = some (.int .i64 0) := S3.cell rfl
  have g1 := S3.frozen 1
  have r2 : (w1.setCell ⟨w.heap.size, 9, none⟩ (.slice a1 n c1)).cell? ⟨w.heap.size + 1, 2, none⟩ = some (.int .i64 0) := S3.cell rfl
  have g2 := S3.frozen 2
  have r3 : (w1.setCell ⟨w.heap.size, 9, none⟩ (.slice a1 n c1)).cell? ⟨w.heap.size + 1, 3, none⟩ = some (.int .i64 0) := S3.cell rfl
  have g3 := S3.frozen 3
  have r4 : (w1.setCell ⟨w.heap.size, 9, none⟩ (.slice a1 n c1)).cell? ⟨w.heap.size + 1, 4, none⟩ = some (.int .i64 0) := S3.cell rfl
  have g4 := S3.frozen 4
  have r5 : (w1.setCell ⟨w.heap.size, 9, none⟩ (.slice a1 n c1)).cell? ⟨w.heap.size + 1, 5, none⟩ = some (.int .i64 0) := S3.cell rfl
  have g5 := S3.frozen 5
  have r6 : (w1.setCell ⟨w.heap.size, 9, none⟩ (.slice a1 n c1)).cell? ⟨w.heap.size + 1, 6, none⟩ = some (.int .i64 0) := S3.cell rfl
  have g6 := S3.frozen 6
  have r7 : (w1.setCell ⟨w.heap.size, 9, none⟩ (.slice a1 n c1)).cell? ⟨w.heap.size + 1, 7, none⟩ = some (.int .i64 0) := S3.cell rfl
  have g7 := S3.frozen 7
  have r8 : (w1.setCell ⟨w.heap.size, 9, none⟩ (.slice a1 n c1)).cell? ⟨w.heap.size + 1, 8, none⟩ = some (.int .i64 0) := S3.cell rfl
  have g8 := S3.frozen 8
  have r9 : (w1.setCell ⟨w.heap.size, 9, none⟩ (.slice a1 n c1)).cell? ⟨w.heap.size + 1, 9, none⟩ = some (.slice none 0 0) := S3.cell rfl
  have g9 := S3.frozen 9
  have HE2 := Lib.hid (HE1.out.setCell (p := ⟨w.heap.size, 9, none⟩) (by simp) (.slice a1 n c1))
  clear hg1 hb1 S0 S2 S3
  go_wp2
  refine bodyPost_ret (v := .agg #[.int .i64 x0, .int .i64 x1, .int .i64 x2, .int .i64 x3, .int .i64 x4, .int .i64 x5, .int .i64 x6, .int .i64 x7, .int .i64 x8, .slice a1 n c1]) (by simp [results, Try.results30, go_sem, *]) rfl ⟨a1, c1, es, rfl, ?_, ?_⟩
  · exact (((((((((((HG1.out.set (p := ⟨w.heap.size, 9, none⟩) (.inl (by dsimp only; omega)) _).set (p := ⟨w.heap.size + 1, 0, none⟩) (.inl (by dsimp only; omega)) _).set (p := ⟨w.heap.size + 1, 1, none⟩) (.inl (by dsimp only; omega)) _).set (p := ⟨w.heap.size + 1, 2, none⟩) (.inl (by dsimp only; omega)) _).set (p := ⟨w.heap.size + 1, 3, none⟩) (.inl (by dsimp only; omega)) _).set (p := ⟨w.heap.size + 1, 4, none⟩) (.inl (by dsimp only; omega)) _).set (p := ⟨w.heap.size + 1, 5, none⟩) (.inl (by dsimp only; omega)) _).set (p := ⟨w.heap.size + 1, 6, none⟩) (.inl (by dsimp only; omega)) _).set (p := ⟨w.heap.size + 1, 7, none⟩) (.inl (by dsimp only; omega)) _).set (p := ⟨w.heap.size + 1, 8, none⟩) (.inl (by dsimp only; omega)) _).set (p := ⟨w.heap.size + 1, 9, none⟩) (.inl (by dsimp only; omega)) _).wide (by omega) (by simp only [size_setCell']; exact Nat.le_refl _)
  · exact ((((((((((HE2.out.setCell (p := ⟨w.heap.size + 1, 0, none⟩) (by dsimp only; omega) _).setCell (p := ⟨w.heap.size + 1, 1, none⟩) (by dsimp only; omega) _).setCell (p := ⟨w.heap.size + 1, 2, none⟩) (by dsimp only; omega) _).setCell (p := ⟨w.heap.size + 1, 3, none⟩) (by dsimp only; omega) _).setCell (p := ⟨w.heap.size + 1, 4, none⟩) (by dsimp only; omega) _).setCell (p := ⟨w.heap.size + 1, 5, none⟩) (by dsimp only; omega) _).setCell (p := ⟨w.heap.size + 1, 6, none⟩) (by dsimp only; omega) _).setCell (p := ⟨w.heap.size + 1, 7, none⟩) (by dsimp only; omega) _).setCell (p := ⟨w.heap.size + 1, 8, none⟩) (by dsimp only; omega) _).setCell (p := ⟨w.heap.size + 1, 9, none⟩) (by dsimp only; omega) _)

end Go.Proofs.Ytmppoflgbmabpaa
/- Trains without a common Id: the program and the reference. -/
namespace Go.Proofs.Ytmppoflgbmabpaa
open Go.RowKit
set_option linter.unusedSimpArgs false
set_option linter.unusedVariables false

/-! ### The plain law -/
def difGo (seen : List Int) : List (List Int) → Bool
  | [] => true
  | ids :: r => !(ids.any (fun i => seen.contains i)) && difGo (seen ++ ids) r
def tIds (ts : List Tn) : List (List Int) := ts.map fun t => idsOf t.2
def allOk (ts : List Tn) : Bool := ts.all fun t => trainOk t.2
def distinct (ts : List Tn) : Bool := decide (ts.length ≤ 8) && allOk ts && difGo [] (tIds ts)
theorem idsOf_len6 (rows : List (List Bt)) : (idsOf rows).length ≤ 6 := by
  unfold idsOf
  split
  · rename_i h
    rw [List.length_map]
    exact (trainOk_true h).2.2.2.1
  · simp
theorem boatsGo_nodup : ∀ (bs : List Bt) (seen : List Int), boatsGo seen bs = true → (∀ (i : Nat) (h : i < bs.length), bs[i].id ∉ seen) ∧ (∀ (i j : Nat) (hi : i < bs.length) (hj : j < bs.length), i < j → bs[i].id ≠ bs[j].id)
  | [], _, _ => ⟨(fun i h => absurd h (Nat.not_lt_zero _)), (fun i j h => absurd h (Nat.not_lt_zero _))⟩
  | b :: bs, seen, h => by
    simp only [boatsGo, Bool.and_eq_true] at h
    obtain ⟨⟨_, h2⟩, h3⟩ := h
    obtain ⟨k1, k2⟩ := boatsGo_nodup bs _ h3
    have hb : b.id ∉ seen := by simpa using h2
    refine ⟨fun i hi => ?_, fun i j hi hj hij => ?_⟩
    · cases i with
      | zero => exact hb
      | succ i =>
        have := k1 i (by simpa using hi)
        intro hc
        exact this (by simp only [List.getElem_cons_succ] at hc; exact List.mem_append_left _ hc)
    · cases j with
      | zero => omega
      | succ j =>
        cases i with
        | zero =>
          have := k1 j (by simpa using hj)
          intro hc
          exact this (by simp only [List.getElem_cons_zero, List.getElem_cons_succ] at hc; rw [← hc]; simp)
        | succ i => exact k2 i j (by simpa using hi) (by simpa using hj) (by omega)
theorem idsOf_nodup (rows : List (List Bt)) (i j : Nat) (hi : i < (idsOf rows).length) (hj : j < (idsOf rows).length) (hij : i < j) : (idsOf rows)[i] ≠ (idsOf rows)[j] := by
  by_cases h : trainOk rows = true
  · have e : idsOf rows = rows.flatten.map Bt.id := by rw [idsOf, h]; rfl
    have := (boatsGo_nodup _ _ (trainOk_true h).2.2.2.2.2).2 i j (by rw [e, List.length_map] at hi; exact hi) (by rw [e, List.length_map] at hj; exact hj) hij
    simp only [e, List.getElem_map]
    exact this
  · have e : idsOf rows = [] := by rw [idsOf, if_neg h]
    rw [e] at hi
    exact absurd hi (Nat.not_lt_zero _)
theorem any_found {seen ids : List Int} {q : Nat} (hq : q < ids.length) (h : seen.contains ids[q] = true) : (ids.any fun i => seen.contains i) = true :=
  List.any_eq_true.2 ⟨_, List.getElem_mem hq, h⟩
theorem any_none {seen ids : List Int} (h : ∀ (q : Nat) (hq : q < ids.length), seen.contains ids[q] = false) : (ids.any fun i => seen.contains i) = false := by
  rw [List.any_eq_false]
  intro x hx
  obtain ⟨q, hq, rfl⟩ := List.getElem_of_mem hx
  rw [h q hq]
  simp

/-! ### Memory -/
theorem OwnInts.none_nil {w : World} {base n c : Nat} {xs : List Int} (h : OwnInts w base (.slice none n c) xs) : c = 0 := by
  rcases h.2 with ⟨e, _⟩ | ⟨g, cap, cur, e, _⟩
  · injection e
  · injection e with e _ _
    cases e
theorem specIdsOf_own (ids : List Int) (m : Nat) (u : Bool) (a : Option Addr) (n c : Nat) (rows : List (List Bt)) (w : World) (hn : n = rows.length) (hs : n ≤ 1048576) (ht : rows.flatten.length ≤ 1048576) (hf : RowsAt w a rows) (hi : idsOf rows = ids) (hm : m = ids.length) :
    Calls Try.prog 69 #[.agg #[.bool u, .slice a n c]] w fun e w' => ∃ a' c', e = .returned (.slice a' m c') ∧ (a' = none → c' = 0) ∧ IntsAt w' a' ids ∧ Ext w w' :=
  (specIdsOf_any u a n c rows w hn hs ht hf).mono fun e w' ⟨v, he, ho, hx⟩ => by
    subst hi hm
    obtain ⟨a', c', rfl, hi, _⟩ := ho.read
    exact ⟨a', c', he, (fun e => by subst e; exact ho.none_nil), hi, hx⟩
theorem iMap (xs : List Int) : xs.flatMap iCells = xs.map (fun x => Value.int .i64 x) := by
  induction xs with
  | nil => rfl
  | cons x xs ih => rw [List.flatMap_cons, ih]; rfl
theorem wp_append_ints {w : World} {o : Oper} {a : Act} {K : Act → World → Prop} {Q : Exit → Act → World → Prop} (s x : Operand)
    (ho : o.op = .call { callee := .builtin .append, args := #[s, x], argTypes := #[31, 31] })
    (base : Nat) (v : Value) (done more : List Int) (hs : a.eval s = v) (hown : OwnInts w base v done)
    (a' : Option Addr) (m c : Nat) (hm : m = more.length) (hx : a.eval x = .slice a' m c) (hc : a' = none → c = 0) (hf : IntsAt w a' more) (hle : done.length + more.length ≤ 1048576) (hbase : base ≤ w.heap.size)
    (h : ∀ v' w', OwnInts w' base v' (done ++ more) → w.grownBy w' v.ownBlock → (v'.ownBlock = v.ownBlock ∨ v'.ownBlock = some w.heap.size) → K (a.put o.dst v') w') : o.wp Try.prog a w K Q := by
  subst hm
  refine wp_append_any w s x _ 3 ho base _ 1 8 Try.underlying31 info_int rfl (by decide) v _ _ hs hown a' _ c hx (more.flatMap iCells) (fun e => ⟨hc e, ?_⟩) (by rw [iMap]; simp) ?_ (fun u hu => ?_) (by unfold maxLen; omega) (by omega) hbase ?_
  · cases more with
    | nil => rfl
    | cons y ys => obtain ⟨_, _, e', _⟩ := hf 0 (by simp); rw [e] at e'; cases e'
  · intro ad e j u hu
    rw [iMap, List.getElem?_map] at hu
    by_cases hj : j < more.length
    · rw [List.getElem?_eq_getElem hj] at hu
      obtain ⟨b, off, e', hcell⟩ := hf j hj
      rw [e] at e'
      cases e'
      rw [add_plain rfl]
      rw [hcell]
      exact hu
    · rw [List.getElem?_eq_none (by omega)] at hu
      cases hu
  · rw [iMap] at hu
    obtain ⟨y, _, rfl⟩ := List.mem_map.1 hu
    rfl
  · intro v' w' h1 h2 h3
    exact h v' w' (by unfold OwnInts; rw [List.length_append, List.flatMap_append]; exact h1) h2 h3
theorem OwnInts.lit (w : World) : OwnInts (w.alloc (.cells #[] 3)) w.heap.size (.slice (some ⟨w.heap.size, 0, none⟩) 0 0) [] := by
  have := World.ownsRow_lit (base := w.heap.size) (e := 3) (size := 1) w #[] 0 (by simp) (by unfold maxLen; omega) rfl
  simpa [OwnInts] using this

set_option maxHeartbeats 4000000 in
theorem specDifferent_any (R : Bool) (a : Option Addr) (n c : Nat) (ts : List Tn) (w : World) (hn : n = ts.length) (hs : n ≤ 8) (hts : ∀ t ∈ ts, SmallT t) (hf : TrainsAt w a ts) (hR : difGo [] (tIds ts) = R) :
    Calls Try.prog 64 #[.slice a n c] w fun e w' => e = .returned (.bool R) ∧ Ext w w' := by
  have HF := Lib.hid hf; clear hf
  have HN := Lib.hid hn; clear hn
  have HT := Lib.hid hts; clear hts
  have HR := Lib.hid hR; clear hR
  go_enter Try.func64, Try.ntmps64
  go_wp2
  go_loopw [3, 4] (fun v i wr => ∃ (k s : Nat) (seen : List Int), k ≤ n ∧ i = .int .i64 k ∧ Ext w wr ∧ s ≤ 6 * k ∧ Hid (s = seen.length) ∧ Hid (OwnInts wr w.heap.size v seen) ∧ Hid (R = difGo seen (tIds (ts.drop k)))) (fun _ i _ => n - (intOf i).toNat)
  case atStart => exact ⟨0, 0, [], Nat.zero_le _, rfl, by (repeat' (first | (with_reducible exact Ext.refl _) | (with_reducible assumption) | (with_reducible refine Ext.alloc ?_ _) | (with_reducible refine Ext.drewN ?_ _) | (with_reducible refine Ext.drew ?_) | (with_reducible refine Ext.setCell ?_ ?_ _) | (with_reducible exact Nat.le_refl _) | (with_reducible exact Nat.le_succ _) | (with_reducible refine Ext.trans ?_ (by assumption)) | (simp; done) | (simp; omega))), Nat.zero_le _, rfl, OwnInts.lit w, HR.out.symm⟩
  case round =>
    obtain ⟨k, s, seen, hk, rfl, hr, hs6, hsl, hown, hgo⟩ := hrel
    obtain ⟨w5, rfl⟩ : ∃ x, x = wr := ⟨_, rfl⟩
    by_cases hlt : k < n
    · have hlt' : k < ts.length := by rw [← HN.out]; exact hlt
      obtain ⟨b, off, a', c', rfl, hc0, hc1, hml, hfr⟩ := HF.out k hlt'
      have e0 := hr.cell hc0
      have e1 := hr.cell hc1
      have HFR := Lib.hid (hfr.ext hr); clear hfr hc0 hc1
      have HD := Lib.hid (show R = difGo seen (tIds (ts[k] :: ts.drop (k + 1))) by rw [hgo.out, List.drop_eq_getElem_cons hlt'])
      obtain ⟨g1, g2, g3⟩ := HT.out ts[k] (List.getElem_mem _)
      obtain ⟨t, ht⟩ : ∃ t, ts[k] = t := ⟨_, rfl⟩
      rw [ht] at e0 e1 HFR HD hml g1 g3
      clear ht g2 hgo
      obtain ⟨u, rows⟩ := t
      dsimp only at e0 e1 HFR HD hml g1 g3
      obtain ⟨m, hm⟩ : ∃ m, m = rows.length := ⟨_, rfl⟩
      rw [← hm] at e1 g1
      have HM := Lib.hid hm; clear hm
      have HG1 := Lib.hid g1; clear g1
      have HG3 := Lib.hid g3; clear g3
      clear hml
      obtain ⟨ids, hids⟩ : ∃ ids, idsOf rows = ids := ⟨_, rfl⟩
      obtain ⟨p, hp⟩ : ∃ p, p = ids.length := ⟨_, rfl⟩
      have hp6 : p ≤ 6 := by rw [hp, ← hids]; exact idsOf_len6 rows
      have HD2 := Lib.hid (show R = (!(ids.any (fun i => seen.contains i)) && difGo (seen ++ ids) (tIds (ts.drop (k + 1)))) by rw [HD.out, ← hids]; rfl)
      clear HD
      have HI := Lib.hid hids; clear hids
      have HP := Lib.hid hp; clear hp
      go_wp2_with fail
      refine (specIdsOf_own ids p _ _ _ _ rows _ HM.out HG1.out HG3.out HFR.out HI.out HP.out).mono ?_
      rintro e w6 ⟨a6, c6, rfl, hnil, hi6, hb6⟩
      have HNIL := Lib.hid hnil; clear hnil
      have HI6 := Lib.hid hi6; clear hi6
      have hx6 : Ext w w6 := hr.trans hb6
      have HO6 := Lib.hid (hown.out.ext hb6); clear hown
      obtain ⟨a7, c7, hv, hs7, _⟩ := HO6.out.read
      rw [← hsl.out] at hv
      subst hv
      have HS7 := Lib.hid hs7; clear hs7
      clear e0 e1
      go_wp2
      go_loopw [6] (fun i wr => ∃ q : Nat, q ≤ p ∧ i = .int .i64 q ∧ Ext w6 wr ∧ Hid (∀ (j : Nat) (h : j < ids.length), j < q → seen.contains ids[j] = false)) (fun i _ => p - (intOf i).toNat)
      case atStart => exact ⟨0, Nat.zero_le _, rfl, Ext.refl _, fun _ _ h => absurd h (Nat.not_lt_zero _)⟩
      case round =>
        obtain ⟨q, hq, rfl, hr7, hnone⟩ := hrel
        obtain ⟨w7, rfl⟩ : ∃ x, x = wr := ⟨_, rfl⟩
        by_cases hqp : q < p
        · have hq' : q < ids.length := by rw [← HP.out]; exact hqp
          obtain ⟨b2, off2, rfl, hci⟩ := HI6.out q hq'
          obtain ⟨y, hy⟩ : ∃ y, ids[q] = y := ⟨_, rfl⟩
          rw [hy] at hci
          have HY := Lib.hid hy; clear hy
          have HCI := Lib.hid hci; clear hci
          go_wp2
          go_loopw [7] (fun i wr => ∃ j : Nat, j ≤ s ∧ i = .int .i64 j ∧ Ext w7 wr ∧ Hid (∀ (l : Nat) (h : l < seen.length), l < j → seen[l] ≠ y)) (fun i _ => s - (intOf i).toNat)
          case atStart => exact ⟨0, Nat.zero_le _, rfl, Ext.refl _, fun _ _ h => absurd h (Nat.not_lt_zero _)⟩
          case round =>
            obtain ⟨j, hj, rfl, hr8, hno⟩ := hrel
            by_cases hjs : j < s
            · have hj' : j < seen.length := by rw [← hsl.out]; exact hjs
              obtain ⟨b3, off3, rfl, hcs⟩ := HS7.out j hj'
              obtain ⟨x, hx⟩ : ∃ x, seen[j] = x := ⟨_, rfl⟩
              rw [hx] at hcs
              have HX := Lib.hid hx; clear hx
              have k0 : ∀ z : Aft wr, z.1.cell? ⟨b3, off3 + j, none⟩ = some (.int .i64 x) := fun z => (hr7.trans (hr8.trans z.2)).cell hcs
              have k1 : ∀ z : Aft wr, z.1.cell? ⟨b2, off2 + q, none⟩ = some (.int .i64 y) := fun z => (hr7.trans (hr8.trans z.2)).cell HCI.out
              clear hcs
              cases hxy : (x == y)
              · have HNE := Lib.hid (show x ≠ y from fun e => by rw [e] at hxy; simp at hxy)
                go_wp2
                (refine wp_region_aft wr (Ext.refl _) (by kernel_rfl) (by kernel_rfl) ?_; (repeat (go_big_quiet_step (fail))); refine wpQuiet_nil ?_; intro w2 hx2)
                go_wp2
                go_roundw
                case rel =>
                  refine ⟨j + 1, by omega, by go_num, by (repeat' (first | (with_reducible exact Ext.refl _) | (with_reducible assumption) | (with_reducible refine Ext.alloc ?_ _) | (with_reducible refine Ext.drewN ?_ _) | (with_reducible refine Ext.drew ?_) | (with_reducible refine Ext.setCell ?_ ?_ _) | (with_reducible exact Nat.le_refl _) | (with_reducible exact Nat.le_succ _) | (with_reducible refine Ext.trans ?_ (by assumption)) | (simp; done) | (simp; omega))), fun l hl hlj => ?_⟩
                  by_cases e : l = j
                  · subst e
                    rw [HX.out]
                    exact HNE.out
                  · exact hno.out l hl (by omega)
                case measure => simp [intOf]; omega
              · have he : x = y := by simpa using hxy
                have hR := Lib.hid (show R = false by
                  have : seen.contains ids[q] = true := by rw [HY.out, ← he, ← HX.out]; simp
                  rw [HD2.out, any_found hq' this]; rfl)
                clear he
                go_wp2
                (refine wp_region_aft wr (Ext.refl _) (by kernel_rfl) (by kernel_rfl) ?_; (repeat (go_big_quiet_step (fail))); refine wpQuiet_nil ?_; intro w2 hx2)
                go_wp2
                go_ret
                exact ⟨ret_bool hR.out.symm, hx6.trans (hr7.trans (hr8.trans (by (repeat' (first | (with_reducible exact Ext.refl _) | (with_reducible assumption) | (with_reducible refine Ext.alloc ?_ _) | (with_reducible refine Ext.drewN ?_ _) | (with_reducible refine Ext.drew ?_) | (with_reducible refine Ext.setCell ?_ ?_ _) | (with_reducible exact Nat.le_refl _) | (with_reducible exact Nat.le_succ _) | (with_reducible refine Ext.trans ?_ (by assumption)) | (simp; done) | (simp; omega))))))⟩
            · have HNO := Lib.hid (show seen.contains ids[q] = false by
                rw [HY.out]
                have : y ∉ seen := fun hm => by
                  obtain ⟨l, hl, e⟩ := List.getElem_of_mem hm
                  exact hno.out l hl (by have := hsl.out; omega) e
                simpa using this)
              clear hno
              go_wp2
              go_roundw
              case rel =>
                refine ⟨q + 1, by omega, by go_num, hr7.trans hr8, fun j hj hjq => ?_⟩
                by_cases e : j = q
                · subst e
                  exact HNO.out
                · exact hnone.out j hj (by omega)
              case measure => simp [intOf]; omega
        · have HAN := Lib.hid (show R = difGo (seen ++ ids) (tIds (ts.drop (k + 1))) by
            rw [HD2.out, any_none (fun j hj => hnone.out j hj (by have := HP.out; omega))]; rfl)
          clear hnone
          have HO7 := Lib.hid (HO6.out.ext hr7)
          have hw7 := hx6.trans hr7
          have hsz7 := hw7.size
          have HLE := Lib.hid (show seen.length + ids.length ≤ 1048576 by have h1 := hsl.out; have h2 := HP.out; omega)
          have HSL := Lib.hid (show s + p = (seen ++ ids).length by rw [List.length_append, ← hsl.out, ← HP.out])
          go_wp2_with (at_builtin; refine wpList_plain rfl fun K hK => wp_append_ints _ _ rfl w.heap.size _ seen ids rfl HO7.out a6 p c6 HP.out rfl HNIL.out (HI6.out.ext hr7) HLE.out hsz7 ?_)
          intro v' w9 hown9 hgrow9 _
          have hx9 : Ext w w9 := Ext.own2 hw7 hgrow9 HO7.out (Nat.le_refl _)
          have HO9 := Lib.hid hown9; clear hown9 hgrow9
          refine hK _ _ ?_
          clear hK K
          go_wp2
          go_roundw
          case rel => exact ⟨k + 1, s + p, _, by omega, by go_num, hx9, by omega, HSL.out, HO9.out, HAN.out⟩
          case measure => simp [intOf]; omega
    · have hd : ts.drop k = [] := List.drop_eq_nil_of_le (by rw [← HN.out]; omega)
      rw [hd] at hgo
      go_wp2
      go_ret
      exact ⟨ret_bool (by rw [hgo.out]; rfl), hr⟩

theorem IntOwn.grown {lo hi : Nat} {w w' : World} {v : Value} {xs : List Int} {r : Option Nat} (h : IntOwn w lo hi v xs) (hg : w.grownBy w' r) (hr : ∀ k, r = some k → k < lo ∨ hi ≤ k) : IntOwn w' lo hi v xs := by
  obtain ⟨a, c, e, hc⟩ := h
  exact ⟨a, c, e, hc.imp id fun ⟨B, off, cur, e1, h1, h2, h3, h4⟩ => ⟨B, off, cur, e1, h1, h2, (hg.block B h3.lt (fun e => by have := hr B e.symm; omega)).trans h3, h4⟩⟩

set_option maxHeartbeats 4000000 in
theorem implDistinct_any (R : Bool) (a : Option Addr) (n c : Nat) (ts : List Tn) (w : World) (hn : n = ts.length) (hs : n ≤ 1048576) (hts : ∀ t ∈ ts, SmallT t) (hf : TrainsAt w a ts) (hR : distinct ts = R) :
    Calls Try.prog 45 #[.slice a n c] w fun e w' => e = .returned (.bool R) ∧ Ext w w' := by
  have HF := Lib.hid hf; clear hf
  have HT := Lib.hid hts; clear hts
  by_cases h8 : n ≤ 8
  case neg =>
    have HR := Lib.hid (show R = false by rw [← hR, distinct, ← hn, decide_eq_false h8]; rfl)
    clear hR hn
    have d8 : decide (8 < (n : Int)) = true := by simp; omega
    go_enter Try.func45, Try.ntmps45
    go_wp2
    go_ret
    exact ⟨ret_bool HR.out.symm, by (repeat' (first | (with_reducible exact Ext.refl _) | (with_reducible assumption) | (with_reducible refine Ext.alloc ?_ _) | (with_reducible refine Ext.drewN ?_ _) | (with_reducible refine Ext.drew ?_) | (with_reducible refine Ext.setCell ?_ ?_ _) | (with_reducible exact Nat.le_refl _) | (with_reducible exact Nat.le_succ _) | (with_reducible refine Ext.trans ?_ (by assumption)) | (simp; done) | (simp; omega)))⟩
  have HR := Lib.hid (show R = (allOk ts && difGo [] (tIds ts)) by rw [← hR, distinct, ← hn, decide_eq_true h8]; rfl)
  clear hR
  have HN := Lib.hid hn; clear hn
  have d8 : decide (8 < (n : Int)) = false := by simp; omega
  go_enter Try.func45, Try.ntmps45
  go_wp2
  go_loopw [3, 13] (fun v i wr => ∃ (k s : Nat) (seen : List Int), k ≤ n ∧ i = .int .i64 k ∧ Ext w wr ∧ s ≤ 6 * k ∧ Hid (s = seen.length) ∧ Hid (OwnInts wr w.heap.size v seen) ∧ Hid (R = (allOk (ts.drop k) && difGo seen (tIds (ts.drop k))))) (fun _ i _ => n - (intOf i).toNat)
  case atStart => exact ⟨0, 0, [], Nat.zero_le _, rfl, by (repeat' (first | (with_reducible exact Ext.refl _) | (with_reducible assumption) | (with_reducible refine Ext.alloc ?_ _) | (with_reducible refine Ext.drewN ?_ _) | (with_reducible refine Ext.drew ?_) | (with_reducible refine Ext.setCell ?_ ?_ _) | (with_reducible exact Nat.le_refl _) | (with_reducible exact Nat.le_succ _) | (with_reducible refine Ext.trans ?_ (by assumption)) | (simp; done) | (simp; omega))), Nat.zero_le _, rfl, OwnInts.nil _ _, HR.out⟩
  case round =>
    obtain ⟨k, s, seen, hk, rfl, hr, hs6, hsl, hown, hgo⟩ := hrel
    obtain ⟨w5, rfl⟩ : ∃ x, x = wr := ⟨_, rfl⟩
    by_cases hlt : k < n
    · have hlt' : k < ts.length := by rw [← HN.out]; exact hlt
      obtain ⟨b, off, a', c', rfl, hc0, hc1, hml, hfr⟩ := HF.out k hlt'
      have e0 := hr.cell hc0
      have e1 := hr.cell hc1
      have HFR := Lib.hid (hfr.ext hr); clear hfr hc0 hc1
      have HD := Lib.hid (show R = (allOk (ts[k] :: ts.drop (k + 1)) && difGo seen (tIds (ts[k] :: ts.drop (k + 1)))) by rw [hgo.out, List.drop_eq_getElem_cons hlt'])
      obtain ⟨g1, g2, g3⟩ := HT.out ts[k] (List.getElem_mem _)
      obtain ⟨t, ht⟩ : ∃ t, ts[k] = t := ⟨_, rfl⟩
      rw [ht] at e0 e1 HFR HD hml g1 g3
      clear ht g2 hgo
      obtain ⟨u, rows⟩ := t
      dsimp only at e0 e1 HFR HD hml g1 g3
      obtain ⟨m, hm⟩ : ∃ m, m = rows.length := ⟨_, rfl⟩
      rw [← hm] at e1 g1
      have HM := Lib.hid hm; clear hm
      have HG1 := Lib.hid g1; clear g1
      have HG3 := Lib.hid g3; clear g3
      clear hml
      obtain ⟨ids, hids⟩ : ∃ ids, idsOf rows = ids := ⟨_, rfl⟩
      obtain ⟨p, hp⟩ : ∃ p, p = ids.length := ⟨_, rfl⟩
      have hp6 : p ≤ 6 := by rw [hp, ← hids]; exact idsOf_len6 rows
      obtain ⟨ok, hok⟩ : ∃ ok, trainOk rows = ok := ⟨_, rfl⟩
      have HD2 := Lib.hid (show R = ((ok && allOk (ts.drop (k + 1))) && (!(ids.any (fun i => seen.contains i)) && difGo (seen ++ ids) (tIds (ts.drop (k + 1))))) by rw [HD.out, ← hids, ← hok]; rfl)
      clear HD
      have HND := Lib.hid (show ∀ (i j : Nat) (hi : i < ids.length) (hj : j < ids.length), i < j → ids[i] ≠ ids[j] by rw [← hids]; exact idsOf_nodup rows)
      have HI := Lib.hid hids; clear hids
      have HP := Lib.hid hp; clear hp
      have HOK := Lib.hid hok; clear hok
      cases ok
      · have hR := Lib.hid (show R = false by rw [HD2.out]; simp)
        go_wp2_with (go_at_call 42; refine (HOK.out ▸ implTrainOk_any _ _ _ _ rows _ HM.out HG1.out HG3.out (HFR.out.ext (by (repeat' (first | (with_reducible exact Ext.refl _) | (with_reducible assumption) | (with_reducible refine Ext.alloc ?_ _) | (with_reducible refine Ext.drewN ?_ _) | (with_reducible refine Ext.drew ?_) | (with_reducible refine Ext.setCell ?_ ?_ _) | (with_reducible exact Nat.le_refl _) | (with_reducible exact Nat.le_succ _) | (with_reducible refine Ext.trans ?_ (by assumption)) | (simp; done) | (simp; omega)))))).mono ?_; rintro e w6 ⟨rfl, hb6⟩)
        go_ret
        exact ⟨ret_bool hR.out.symm, by (repeat' (first | (with_reducible exact Ext.refl _) | (with_reducible assumption) | (with_reducible refine Ext.alloc ?_ _) | (with_reducible refine Ext.drewN ?_ _) | (with_reducible refine Ext.drew ?_) | (with_reducible refine Ext.setCell ?_ ?_ _) | (with_reducible exact Nat.le_refl _) | (with_reducible exact Nat.le_succ _) | (with_reducible refine Ext.trans ?_ (by assumption)) | (simp; done) | (simp; omega)))⟩
      · have bx := RowAt.new w5 47 #[.bool u, .slice a' m c']
        go_wp2_with fail
        refine (HOK.out ▸ implTrainOk_any _ _ _ _ rows _ HM.out HG1.out HG3.out (HFR.out.ext ((Ext.refl _).alloc _))).mono ?_
        rintro e w6 ⟨rfl, hb6⟩
        have bx6 := bx.ext hb6
        have m0 : w6.cell? ⟨w5.heap.size, 0, none⟩ = some (.bool u) := bx6.cell rfl
        have m1 : w6.cell? ⟨w5.heap.size, 1, none⟩ = some (.slice a' m c') := bx6.cell rfl
        have hx56 : Ext w5 w6 := Ext.trans ((Ext.refl w5).alloc _) hb6
        clear bx bx6 hb6 e0 e1
        go_wp2_with fail
        refine (implIdsOf_is ids p _ _ _ _ rows _ HM.out HG1.out HG3.out (HFR.out.ext hx56) HI.out HP.out).mono ?_
        rintro e w7 ⟨a7, c7, rfl, hi7, hb7⟩
        have HI7 := Lib.hid hi7; clear hi7
        have hx7 : Ext w w7 := hr.trans (hx56.trans hb7)
        have HO7 := Lib.hid (hown.out.ext (hx56.trans hb7))
        have HBK7 := Lib.hid (show ∀ g, u3.ownBlock = some g → g < w6.heap.size ∨ w7.heap.size ≤ g from fun g hg => .inl (by have := (ownsRow_lt hown.out hg).2; have := hx56.size; omega))
        have HO77 := Lib.hid (show OwnInts w7 w.heap.size u3 (seen ++ ids.take 0) by rw [List.take_zero, List.append_nil]; exact HO7.out)
        have s7 := hb7.size
        clear m0 m1 hown HO7
        go_wp2
        go_loopw [3, 23] (fun v i wr => ∃ q : Nat, q ≤ p ∧ i = .int .i64 q ∧ Ext w wr ∧ w7.heap.size ≤ wr.heap.size ∧ Hid (IntOwn wr w6.heap.size w7.heap.size (.slice a7 p c7) ids) ∧ Hid (OwnInts wr w.heap.size v (seen ++ ids.take q)) ∧ Hid (∀ g, v.ownBlock = some g → g < w6.heap.size ∨ w7.heap.size ≤ g) ∧ Hid (∀ (j : Nat) (h : j < ids.length), j < q → seen.contains ids[j] = false)) (fun _ i _ => p - (intOf i).toNat)
        case atStart => exact ⟨0, Nat.zero_le _, rfl, hx7, Nat.le_refl _, HI7.out, HO77.out, HBK7.out, fun _ _ h => absurd h (Nat.not_lt_zero _)⟩
        case round =>
          obtain ⟨q, hq, rfl, hr8, hs8, hio, hown8, hbk8, hnone⟩ := hrel
          obtain ⟨w8, rfl⟩ : ∃ x, x = wr := ⟨_, rfl⟩
          by_cases hqp : q < p
          · have hq' : q < ids.length := by rw [← HP.out]; exact hqp
            obtain ⟨b2, off2, rfl, hci⟩ := hio.out.at q hq'
            obtain ⟨y, hy⟩ : ∃ y, ids[q] = y := ⟨_, rfl⟩
            rw [hy] at hci
            have HY := Lib.hid hy; clear hy
            obtain ⟨l, hl⟩ : ∃ l, l = seen ++ ids.take q := ⟨_, rfl⟩
            have HL := Lib.hid hl
            have HOW := Lib.hid (show OwnInts w8 w.heap.size u3 l by rw [hl]; exact hown8.out)
            obtain ⟨r, hrl⟩ : ∃ r, r = l.length := ⟨_, rfl⟩
            have hr54 : r ≤ 60 := by
              rw [hrl, hl, List.length_append, List.length_take, ← hsl.out]
              omega
            have hcon : l.contains y = seen.contains y := by
              rw [hl]
              have hno : y ∉ ids.take q := fun hm => by
                obtain ⟨j, hj, e⟩ := List.getElem_of_mem hm
                rw [List.getElem_take] at e
                have hjq : j < q := by rw [List.length_take] at hj; omega
                exact HND.out j q (by omega) hq' hjq (e.trans HY.out.symm)
              simp [hno]
            obtain ⟨d, hd⟩ : ∃ d, l.contains y = d := ⟨_, rfl⟩
            rw [hd] at hcon
            have HC := Lib.hid hcon; clear hcon
            have HDD := Lib.hid hd; clear hd
            have HRL := Lib.hid hrl; clear hrl hl
            obtain ⟨a9, c9, hv, hi9, _⟩ := HOW.out.read
            rw [← HRL.out] at hv
            have HI9 := Lib.hid hi9; clear hi9
            have HMX := Lib.hid (show r ≤ maxLen by unfold maxLen; omega)
            cases d
            · have HNO := Lib.hid (show seen.contains ids[q] = false by rw [HY.out]; exact HC.out.symm)
              obtain ⟨l', hl'⟩ : ∃ l', l' = seen ++ ids.take (q + 1) := ⟨_, rfl⟩
              have HL' := Lib.hid (show l' = l ++ [y] by rw [hl', HL.out, List.take_succ_eq_append_getElem hq', HY.out, List.append_assoc])
              have HLE := Lib.hid (show l'.length ≤ 1048576 by rw [HL'.out, List.length_append, ← HRL.out]; simp; omega)
              have HLL := Lib.hid hl'; clear hl'
              subst hv
              go_wp2_with fail
              refine (containsInts_is false _ r _ y l _ HRL.out HMX.out HI9.out HDD.out).mono ?_
              rintro e w9 ⟨rfl, rfl⟩
              have hsz8 := hr8.size
              go_wp2_with (at_builtin; refine append_int rfl _ _ rfl w.heap.size _ l l' y HL'.out rfl (HOW.out.ext ((Ext.refl w8).alloc (.cells #[.int .i64 y] 3))) w8.heap.size 1 rfl ((RowAt.new w8 3 #[.int .i64 y]).cell rfl) HLE.out (by simp; omega) ?_)
              intro v' w10 hown10 hg10 hat10
              have hx10 : Ext w w10 := Ext.own2 (hr8.trans ((Ext.refl w8).alloc _)) hg10 (HOW.out.ext ((Ext.refl w8).alloc (.cells #[.int .i64 y] 3))) (Nat.le_refl _)
              have HIO10 := Lib.hid ((hio.out.ext ((Ext.refl w8).alloc (.cells #[.int .i64 y] 3))).grown hg10 hbk8.out)
              have HBK10 := Lib.hid (show ∀ g, v'.ownBlock = some g → g < w6.heap.size ∨ w7.heap.size ≤ g from fun g hg => by
                rcases hat10 with h | h
                · exact hbk8.out g (by rw [← h]; exact hg)
                · rw [h] at hg
                  have := Option.some.inj hg
                  (try simp only [World.size_alloc] at this)
                  right; omega)
              have HO10 := Lib.hid (show OwnInts w10 w.heap.size v' (seen ++ ids.take (q + 1)) by rw [← HLL.out]; exact hown10)
              have hs10 := hg10.size
              (try simp only [World.size_alloc] at hs10)
              clear hown10 hg10 hat10
              go_wp2
              go_roundw
              case rel =>
                refine ⟨q + 1, by omega, by go_num, hx10, by omega, HIO10.out, HO10.out, HBK10.out, fun j hj hjq => ?_⟩
                by_cases e : j = q
                · subst e
                  exact HNO.out
                · exact hnone.out j hj (by omega)
              case measure => simp [intOf]; omega
            · have hR := Lib.hid (show R = false by
                rw [HD2.out, any_found hq' (by rw [HY.out]; exact HC.out.symm)]; simp)
              subst hv
              go_wp2_with (go_at_call 59; refine (containsInts_is true _ r _ y l _ HRL.out HMX.out HI9.out HDD.out).mono ?_; rintro e w9 ⟨rfl, rfl⟩)
              go_ret
              exact ⟨ret_bool hR.out.symm, by (repeat' (first | (with_reducible exact Ext.refl _) | (with_reducible assumption) | (with_reducible refine Ext.alloc ?_ _) | (with_reducible refine Ext.drewN ?_ _) | (with_reducible refine Ext.drew ?_) | (with_reducible refine Ext.setCell ?_ ?_ _) | (with_reducible exact Nat.le_refl _) | (with_reducible exact Nat.le_succ _) | (with_reducible refine Ext.trans ?_ (by assumption)) | (simp; done) | (simp; omega)))⟩
          · have hqe : q = p := by omega
            have HAN := Lib.hid (show R = (allOk (ts.drop (k + 1)) && difGo (seen ++ ids) (tIds (ts.drop (k + 1)))) by
              rw [HD2.out, any_none (fun j hj => hnone.out j hj (by have := HP.out; omega))]; simp)
            have HO9 := Lib.hid (show OwnInts w8 w.heap.size u3 (seen ++ ids) by
              have := hown8.out
              rw [hqe, HP.out, List.take_length] at this
              exact this)
            have HSL := Lib.hid (show s + p = (seen ++ ids).length by rw [List.length_append, ← hsl.out, ← HP.out])
            clear hnone hown8 hbk8 hio
            go_wp2
            go_roundw
            case rel => exact ⟨k + 1, s + p, _, by omega, by go_num, hr8, by omega, HSL.out, HO9.out, HAN.out⟩
            case measure => simp [intOf]; omega
    · have hd : ts.drop k = [] := List.drop_eq_nil_of_le (by rw [← HN.out]; omega)
      rw [hd] at hgo
      go_wp2
      go_ret
      exact ⟨ret_bool (by rw [hgo.out]; rfl), hr⟩
end Go.Proofs.Ytmppoflgbmabpaa
/- LockOk on both sides. -/
namespace Go.Proofs.Ytmppoflgbmabpaa
open Go.RowKit
set_option linter.unusedSimpArgs false
set_option linter.unusedVariables false

/-! ### LockOk -/
def lockOk (x0 x1 x2 x3 x4 x5 x6 x7 x8 : Int) (ts : List Tn) : Bool := inR x0 1 1000 && inR x1 1 100 && inR x2 0 100000 && inR x3 0 100000 && inR x4 0 100000 && inR x5 1 10000 && inR x6 1 100000 && inR x7 0 1000000000 && inR x8 0 2 && distinct ts
theorem and_f {a b : Bool} : a = false ∨ (a = true) := by cases a <;> simp
set_option maxHeartbeats 4000000 in
theorem implLockOk_any (R : Bool) (x0 x1 x2 x3 x4 x5 x6 x7 x8 : Int) (a : Option Addr) (n c : Nat) (ts : List Tn) (w : World) (hn : n = ts.length) (hs : n ≤ 1048576) (hts : ∀ t ∈ ts, SmallT t) (hf : TrainsAt w a ts) (hR : lockOk x0 x1 x2 x3 x4 x5 x6 x7 x8 ts = R) :
    Calls Try.prog 21 #[.agg #[.int .i64 x0, .int .i64 x1, .int .i64 x2, .int .i64 x3, .int .i64 x4, .int .i64 x5, .int .i64 x6, .int .i64 x7, .int .i64 x8, .slice a n c]] w fun e w' => e = .returned (.bool R) ∧ Ext w w' := by
  have HF := Lib.hid hf; clear hf
  have HN := Lib.hid hn; clear hn
  have HS := Lib.hid hs; clear hs
  have HT := Lib.hid hts; clear hts
  obtain ⟨D, hD⟩ : ∃ D, distinct ts = D := ⟨_, rfl⟩
  unfold lockOk at hR
  rw [hD] at hR
  have HD := Lib.hid hD; clear hD
  obtain ⟨b0, hb0⟩ : ∃ b, inR x0 1 1000 = b := ⟨_, rfl⟩
  obtain ⟨b1, hb1⟩ : ∃ b, inR x1 1 100 = b := ⟨_, rfl⟩
  obtain ⟨b2, hb2⟩ : ∃ b, inR x2 0 100000 = b := ⟨_, rfl⟩
  obtain ⟨b3, hb3⟩ : ∃ b, inR x3 0 100000 = b := ⟨_, rfl⟩
  obtain ⟨b4, hb4⟩ : ∃ b, inR x4 0 100000 = b := ⟨_, rfl⟩
  obtain ⟨b5, hb5⟩ : ∃ b, inR x5 1 10000 = b := ⟨_, rfl⟩
  obtain ⟨b6, hb6⟩ : ∃ b, inR x6 1 100000 = b := ⟨_, rfl⟩
  obtain ⟨b7, hb7⟩ : ∃ b, inR x7 0 1000000000 = b := ⟨_, rfl⟩
  obtain ⟨b8, hb8⟩ : ∃ b, inR x8 0 2 = b := ⟨_, rfl⟩
  rw [hb0, hb1, hb2, hb3, hb4, hb5, hb6, hb7, hb8] at hR
  have HR := Lib.hid hR; clear hR
  cases b0
  · have hR := Lib.hid (show false = R by rw [← HR.out]; rfl)
    go_enter Try.func21, Try.ntmps21
    go_wp2_with (first | (go_at_call 26; refine (inRange_any _ _ _ _).mono ?_; rintro e w' ⟨rfl, rfl⟩) | (go_at_call 45; refine (implDistinct_any D _ _ _ ts _ HN.out HS.out HT.out (HF.out.ext ((Ext.refl w).alloc _)) HD.out).mono ?_; rintro e w' ⟨rfl, hb⟩))
    go_ret
    exact ⟨ret_bool (by simp [*, ← hR.out]), by (repeat' (first | (with_reducible exact Ext.refl _) | (with_reducible assumption) | (with_reducible refine Ext.alloc ?_ _) | (with_reducible refine Ext.drewN ?_ _) | (with_reducible refine Ext.drew ?_) | (with_reducible refine Ext.setCell ?_ ?_ _) | (with_reducible exact Nat.le_refl _) | (with_reducible exact Nat.le_succ _) | (with_reducible refine Ext.trans ?_ (by assumption)) | (simp; done) | (simp; omega)))⟩
  cases b1
  · have hR := Lib.hid (show false = R by rw [← HR.out]; rfl)
    go_enter Try.func21, Try.ntmps21
    go_wp2_with (first | (go_at_call 26; refine (inRange_any _ _ _ _).mono ?_; rintro e w' ⟨rfl, rfl⟩) | (go_at_call 45; refine (implDistinct_any D _ _ _ ts _ HN.out HS.out HT.out (HF.out.ext ((Ext.refl w).alloc _)) HD.out).mono ?_; rintro e w' ⟨rfl, hb⟩))
    go_ret
    exact ⟨ret_bool (by simp [*, ← hR.out]), by (repeat' (first | (with_reducible exact Ext.refl _) | (with_reducible assumption) | (with_reducible refine Ext.alloc ?_ _) | (with_reducible refine Ext.drewN ?_ _) | (with_reducible refine Ext.drew ?_) | (with_reducible refine Ext.setCell ?_ ?_ _) | (with_reducible exact Nat.le_refl _) | (with_reducible exact Nat.le_succ _) | (with_reducible refine Ext.trans ?_ (by assumption)) | (simp; done) | (simp; omega)))⟩
  cases b2
  · have hR := Lib.hid (show false = R by rw [← HR.out]; rfl)
    go_enter Try.func21, Try.ntmps21
    go_wp2_with (first | (go_at_call 26; refine (inRange_any _ _ _ _).mono ?_; rintro e w' ⟨rfl, rfl⟩) | (go_at_call 45; refine (implDistinct_any D _ _ _ ts _ HN.out HS.out HT.out (HF.out.ext ((Ext.refl w).alloc _)) HD.out).mono ?_; rintro e w' ⟨rfl, hb⟩))
    go_ret
    exact ⟨ret_bool (by simp [*, ← hR.out]), by (repeat' (first | (with_reducible exact Ext.refl _) | (with_reducible assumption) | (with_reducible refine Ext.alloc ?_ _) | (with_reducible refine Ext.drewN ?_ _) | (with_reducible refine Ext.drew ?_) | (with_reducible refine Ext.setCell ?_ ?_ _) | (with_reducible exact Nat.le_refl _) | (with_reducible exact Nat.le_succ _) | (with_reducible refine Ext.trans ?_ (by assumption)) | (simp; done) | (simp; omega)))⟩
  cases b3
  · have hR := Lib.hid (show false = R by rw [← HR.out]; rfl)
    go_enter Try.func21, Try.ntmps21
    go_wp2_with (first | (go_at_call 26; refine (inRange_any _ _ _ _).mono ?_; rintro e w' ⟨rfl, rfl⟩) | (go_at_call 45; refine (implDistinct_any D _ _ _ ts _ HN.out HS.out HT.out (HF.out.ext ((Ext.refl w).alloc _)) HD.out).mono ?_; rintro e w' ⟨rfl, hb⟩))
    go_ret
    exact ⟨ret_bool (by simp [*, ← hR.out]), by (repeat' (first | (with_reducible exact Ext.refl _) | (with_reducible assumption) | (with_reducible refine Ext.alloc ?_ _) | (with_reducible refine Ext.drewN ?_ _) | (with_reducible refine Ext.drew ?_) | (with_reducible refine Ext.setCell ?_ ?_ _) | (with_reducible exact Nat.le_refl _) | (with_reducible exact Nat.le_succ _) | (with_reducible refine Ext.trans ?_ (by assumption)) | (simp; done) | (simp; omega)))⟩
  cases b4
  · have hR := Lib.hid (show false = R by rw [← HR.out]; rfl)
    go_enter Try.func21, Try.ntmps21
    go_wp2_with (first | (go_at_call 26; refine (inRange_any _ _ _ _).mono ?_; rintro e w' ⟨rfl, rfl⟩) | (go_at_call 45; refine (implDistinct_any D _ _ _ ts _ HN.out HS.out HT.out (HF.out.ext ((Ext.refl w).alloc _)) HD.out).mono ?_; rintro e w' ⟨rfl, hb⟩))
    go_ret
    exact ⟨ret_bool (by simp [*, ← hR.out]), by (repeat' (first | (with_reducible exact Ext.refl _) | (with_reducible assumption) | (with_reducible refine Ext.alloc ?_ _) | (with_reducible refine Ext.drewN ?_ _) | (with_reducible refine Ext.drew ?_) | (with_reducible refine Ext.setCell ?_ ?_ _) | (with_reducible exact Nat.le_refl _) | (with_reducible exact Nat.le_succ _) | (with_reducible refine Ext.trans ?_ (by assumption)) | (simp; done) | (simp; omega)))⟩
  cases b5
  · have hR := Lib.hid (show false = R by rw [← HR.out]; rfl)
    go_enter Try.func21, Try.ntmps21
    go_wp2_with (first | (go_at_call 26; refine (inRange_any _ _ _ _).mono ?_; rintro e w' ⟨rfl, rfl⟩) | (go_at_call 45; refine (implDistinct_any D _ _ _ ts _ HN.out HS.out HT.out (HF.out.ext ((Ext.refl w).alloc _)) HD.out).mono ?_; rintro e w' ⟨rfl, hb⟩))
    go_ret
    exact ⟨ret_bool (by simp [*, ← hR.out]), by (repeat' (first | (with_reducible exact Ext.refl _) | (with_reducible assumption) | (with_reducible refine Ext.alloc ?_ _) | (with_reducible refine Ext.drewN ?_ _) | (with_reducible refine Ext.drew ?_) | (with_reducible refine Ext.setCell ?_ ?_ _) | (with_reducible exact Nat.le_refl _) | (with_reducible exact Nat.le_succ _) | (with_reducible refine Ext.trans ?_ (by assumption)) | (simp; done) | (simp; omega)))⟩
  cases b6
  · have hR := Lib.hid (show false = R by rw [← HR.out]; rfl)
    go_enter Try.func21, Try.ntmps21
    go_wp2_with (first | (go_at_call 26; refine (inRange_any _ _ _ _).mono ?_; rintro e w' ⟨rfl, rfl⟩) | (go_at_call 45; refine (implDistinct_any D _ _ _ ts _ HN.out HS.out HT.out (HF.out.ext ((Ext.refl w).alloc _)) HD.out).mono ?_; rintro e w' ⟨rfl, hb⟩))
    go_ret
    exact ⟨ret_bool (by simp [*, ← hR.out]), by (repeat' (first | (with_reducible exact Ext.refl _) | (with_reducible assumption) | (with_reducible refine Ext.alloc ?_ _) | (with_reducible refine Ext.drewN ?_ _) | (with_reducible refine Ext.drew ?_) | (with_reducible refine Ext.setCell ?_ ?_ _) | (with_reducible exact Nat.le_refl _) | (with_reducible exact Nat.le_succ _) | (with_reducible refine Ext.trans ?_ (by assumption)) | (simp; done) | (simp; omega)))⟩
  cases b7
  · have hR := Lib.hid (show false = R by rw [← HR.out]; rfl)
    go_enter Try.func21, Try.ntmps21
    go_wp2_with (first | (go_at_call 26; refine (inRange_any _ _ _ _).mono ?_; rintro e w' ⟨rfl, rfl⟩) | (go_at_call 45; refine (implDistinct_any D _ _ _ ts _ HN.out HS.out HT.out (HF.out.ext ((Ext.refl w).alloc _)) HD.out).mono ?_; rintro e w' ⟨rfl, hb⟩))
    go_ret
    exact ⟨ret_bool (by simp [*, ← hR.out]), by (repeat' (first | (with_reducible exact Ext.refl _) | (with_reducible assumption) | (with_reducible refine Ext.alloc ?_ _) | (with_reducible refine Ext.drewN ?_ _) | (with_reducible refine Ext.drew ?_) | (with_reducible refine Ext.setCell ?_ ?_ _) | (with_reducible exact Nat.le_refl _) | (with_reducible exact Nat.le_succ _) | (with_reducible refine Ext.trans ?_ (by assumption)) | (simp; done) | (simp; omega)))⟩
  cases b8
  · have hR := Lib.hid (show false = R by rw [← HR.out]; rfl)
    go_enter Try.func21, Try.ntmps21
    go_wp2_with (first | (go_at_call 26; refine (inRange_any _ _ _ _).mono ?_; rintro e w' ⟨rfl, rfl⟩) | (go_at_call 45; refine (implDistinct_any D _ _ _ ts _ HN.out HS.out HT.out (HF.out.ext ((Ext.refl w).alloc _)) HD.out).mono ?_; rintro e w' ⟨rfl, hb⟩))
    go_ret
    exact ⟨ret_bool (by simp [*, ← hR.out]), by (repeat' (first | (with_reducible exact Ext.refl _) | (with_reducible assumption) | (with_reducible refine Ext.alloc ?_ _) | (with_reducible refine Ext.drewN ?_ _) | (with_reducible refine Ext.drew ?_) | (with_reducible refine Ext.setCell ?_ ?_ _) | (with_reducible exact Nat.le_refl _) | (with_reducible exact Nat.le_succ _) | (with_reducible refine Ext.trans ?_ (by assumption)) | (simp; done) | (simp; omega)))⟩
  have hR := Lib.hid (show D = R by rw [← HR.out]; rfl)
  go_enter Try.func21, Try.ntmps21
  go_wp2_with (first | (go_at_call 26; refine (inRange_any _ _ _ _).mono ?_; rintro e w' ⟨rfl, rfl⟩) | (go_at_call 45; refine (implDistinct_any D _ _ _ ts _ HN.out HS.out HT.out (HF.out.ext ((Ext.refl w).alloc _)) HD.out).mono ?_; rintro e w' ⟨rfl, hb⟩))
  go_ret
  exact ⟨ret_bool (by simp [*, hR.out]), by (repeat' (first | (with_reducible exact Ext.refl _) | (with_reducible assumption) | (with_reducible refine Ext.alloc ?_ _) | (with_reducible refine Ext.drewN ?_ _) | (with_reducible refine Ext.drew ?_) | (with_reducible refine Ext.setCell ?_ ?_ _) | (with_reducible exact Nat.le_refl _) | (with_reducible exact Nat.le_succ _) | (with_reducible refine Ext.trans ?_ (by assumption)) | (simp; done) | (simp; omega)))⟩

end Go.Proofs.Ytmppoflgbmabpaa
/- ShutGate on both sides. -/
namespace Go.Proofs.Ytmppoflgbmabpaa
open Go.RowKit
set_option linter.unusedSimpArgs false
set_option linter.unusedVariables false

theorem GT.ownAt {w : World} {lo hi n : Nat} {a : Option Addr} {c : Nat} {es : List (Bool × Value)} {ts : List Tn} (h : GT w lo hi (.slice a n c) es ts) : OwnTrains w lo hi a ts := by
  obtain ⟨a', c', e, _, ho⟩ := h.own
  injection e with e1 _ _
  rw [e1]
  exact ho
theorem OwnTrains.wide {w : World} {lo hi lo' hi' : Nat} {a : Option Addr} {ts : List Tn} (h : OwnTrains w lo hi a ts) (hl : lo' ≤ lo) (hh : hi ≤ hi') : OwnTrains w lo' hi' a ts := h.keep hl hh (fun _ _ _ _ _ hr => hr)


set_option maxRecDepth 100000 in
set_option maxHeartbeats 2000000 in
theorem implShut_any (g : Int) (x0 x1 x2 x3 x4 x5 x6 x7 x8 : Int) (a : Option Addr) (n c : Nat) (ts : List Tn) (w : World) (hn : n = ts.length) (hs : n ≤ 1048576) (hts : ∀ t ∈ ts, SmallT t) (hf : TrainsAt w a ts) (hg : (if lockOk x0 x1 x2 x3 x4 x5 x6 x7 x8 ts = true then 0 else x8) = g) :
    Calls Try.prog 15 #[.agg #[.int .i64 x0, .int .i64 x1, .int .i64 x2, .int .i64 x3, .int .i64 x4, .int .i64 x5, .int .i64 x6, .int .i64 x7, .int .i64 x8, .slice a n c]] w fun e w' => ∃ a' c', e = .returned (.agg #[.int .i64 x0, .int .i64 x1, .int .i64 x2, .int .i64 x3, .int .i64 x4, .int .i64 x5, .int .i64 x6, .int .i64 x7, .int .i64 g, .slice a' n c']) ∧ OwnTrains w' w.heap.size w'.heap.size a' ts ∧ Ext w w' := by
  obtain ⟨R, hR⟩ : ∃ R, lockOk x0 x1 x2 x3 x4 x5 x6 x7 x8 ts = R := ⟨_, rfl⟩
  rw [hR] at hg
  have HRR := Lib.hid hR; clear hR
  have HF := Lib.hid hf; clear hf
  have HN := Lib.hid hn; clear hn
  have HTS := Lib.hid hts; clear hts
  have R0 := (RowAt.new w 26 #[.int .i64 x0, .int .i64 x1, .int .i64 x2, .int .i64 x3, .int .i64 x4, .int .i64 x5, .int .i64 x6, .int .i64 x7, .int .i64 x8, .slice a n c]).ext ((Ext.refl _).alloc (.cells #[.int .i64 0, .int .i64 0, .int .i64 0, .int .i64 0, .int .i64 0, .int .i64 0, .int .i64 0, .int .i64 0, .int .i64 0, .slice none 0 0] 26))
  have R1 := RowAt.new (w.alloc (.cells #[.int .i64 x0, .int .i64 x1, .int .i64 x2, .int .i64 x3, .int .i64 x4, .int .i64 x5, .int .i64 x6, .int .i64 x7, .int .i64 x8, .slice a n c] 26)) 26 #[.int .i64 0, .int .i64 0, .int .i64 0, .int .i64 0, .int .i64 0, .int .i64 0, .int .i64 0, .int .i64 0, .int .i64 0, .slice none 0 0]
  rw [World.size_alloc] at R1
  have HR0 := Lib.hid R0
  have HR1 := Lib.hid R1
  have HE0 := Lib.hid (((Ext.refl w).alloc (.cells #[.int .i64 x0, .int .i64 x1, .int .i64 x2, .int .i64 x3, .int .i64 x4, .int .i64 x5, .int .i64 x6, .int .i64 x7, .int .i64 x8, .slice a n c] 26)).alloc (.cells #[.int .i64 0, .int .i64 0, .int .i64 0, .int .i64 0, .int .i64 0, .int .i64 0, .int .i64 0, .int .i64 0, .int .i64 0, .slice none 0 0] 26))
  clear R0 R1
  cases R
  all_goals
    (first | rw [if_pos rfl] at hg | rw [if_neg (by decide)] at hg)
    subst hg
    go_enter Try.func15, Try.ntmps15
    go_wp2_with fail
    with_reducible refine (copyLock_any _ _ _ _ _ _ _ _ _ _ _ _ ts _ HN.out hs HTS.out (HF.out.ext HE0.out)).mono ?_
    rintro e w1 ⟨a1, c1, es, rfl, hg1, hb1⟩
    have z1 := hb1.size
    simp only [World.size_alloc] at z1 hg1
    have eA := (Ext.refl w1).alloc (.cells #[.int .i64 x0, .int .i64 x1, .int .i64 x2, .int .i64 x3, .int .i64 x4, .int .i64 x5, .int .i64 x6, .int .i64 x7, .int .i64 x8, .slice a1 n c1] 26)
    have HG2 := Lib.hid (hg1.ext eA)
    have S0 := Lib.hid ((HR0.out.ext hb1).ext eA)
    have S1 := Lib.hid ((HR1.out.ext hb1).ext eA)
    have SO := Lib.hid (RowAt.new w1 26 #[.int .i64 x0, .int .i64 x1, .int .i64 x2, .int .i64 x3, .int .i64 x4, .int .i64 x5, .int .i64 x6, .int .i64 x7, .int .i64 x8, .slice a1 n c1])
    have HE2 := Lib.hid (HE0.out.trans (hb1.trans eA))
    have p0 : (w1.alloc (.cells #[.int .i64 x0, .int .i64 x1, .int .i64 x2, .int .i64 x3, .int .i64 x4, .int .i64 x5, .int .i64 x6, .int .i64 x7, .int .i64 x8, .slice a1 n c1] 26)).cell? ⟨w.heap.size, 0, none⟩ = some (.int .i64 x0) := S0.out.cell rfl
    have p1 : (w1.alloc (.cells #[.int .i64 x0, .int .i64 x1, .int .i64 x2, .int .i64 x3, .int .i64 x4, .int .i64 x5, .int .i64 x6, .int .i64 x7, .int .i64 x8, .slice a1 n c1] 26)).cell? ⟨w.heap.size, 1, none⟩ = some (.int .i64 x1) := S0.out.cell rfl
    have p2 : (w1.alloc (.cells #[.int .i64 x0, .int .i64 x1, .int .i64 x2, .int .i64 x3, .int .i64 x4, .int .i64 x5, .int .i64 x6, .int .i64 x7, .int .i64 x8, .slice a1 n c1] 26)).cell? ⟨w.heap.size, 2, none⟩ = some (.int .i64 x2) := S0.out.cell rfl
    have p3 : (w1.alloc (.cells #[.int .i64 x0, .int .i64 x1, .int .i64 x2, .int .i64 x3, .int .i64 x4, .int .i64 x5, .int .i64 x6, .int .i64 x7, .int .i64 x8, .slice a1 n c1] 26)).cell? ⟨w.heap.size, 3, none⟩ = some (.int .i64 x3) := S0.out.cell rfl
    have p4 : (w1.alloc (.cells #[.int .i64 x0, .int .i64 x1, .int .i64 x2, .int .i64 x3, .int .i64 x4, .int .i64 x5, .int .i64 x6, .int .i64 x7, .int .i64 x8, .slice a1 n c1] 26)).cell? ⟨w.heap.size, 4, none⟩ = some (.int .i64 x4) := S0.out.cell rfl
    have p5 : (w1.alloc (.cells #[.int .i64 x0, .int .i64 x1, .int .i64 x2, .int .i64 x3, .int .i64 x4, .int .i64 x5, .int .i64 x6, .int .i64 x7, .int .i64 x8, .slice a1 n c1] 26)).cell? ⟨w.heap.size, 5, none⟩ = some (.int .i64 x5) := S0.out.cell rfl
    have p6 : (w1.alloc (.cells #[.int .i64 x0, .int .i64 x1, .int .i64 x2, .int .i64 x3, .int .i64 x4, .int .i64 x5, .int .i64 x6, .int .i64 x7, .int .i64 x8, .slice a1 n c1] 26)).cell? ⟨w.heap.size, 6, none⟩ = some (.int .i64 x6) := S0.out.cell rfl
    have p7 : (w1.alloc (.cells #[.int .i64 x0, .int .i64 x1, .int .i64 x2, .int .i64 x3, .int .i64 x4, .int .i64 x5, .int .i64 x6, .int .i64 x7, .int .i64 x8, .slice a1 n c1] 26)).cell? ⟨w.heap.size, 7, none⟩ = some (.int .i64 x7) := S0.out.cell rfl
    have p8 : (w1.alloc (.cells #[.int .i64 x0, .int .i64 x1, .int .i64 x2, .int .i64 x3, .int .i64 x4, .int .i64 x5, .int .i64 x6, .int .i64 x7, .int .i64 x8, .slice a1 n c1] 26)).cell? ⟨w.heap.size, 8, none⟩ = some (.int .i64 x8) := S0.out.cell rfl
    have p9 : (w1.alloc (.cells #[.int .i64 x0, .int .i64 x1, .int .i64 x2, .int .i64 x3, .int .i64 x4, .int .i64 x5, .int .i64 x6, .int .i64 x7, .int .i64 x8, .slice a1 n c1] 26)).cell? ⟨w.heap.size, 9, none⟩ = some (.slice a n c) := S0.out.cell rfl
    go_wp2_with fail
    clear p0 p1 p2 p3 p4 p5 p6 p7 p8 p9
    with_reducible refine (implLockOk_any _ _ _ _ _ _ _ _ _ _ _ _ _ ts _ HN.out hs HTS.out (HF.out.ext HE2.out) HRR.out).mono ?_
    rintro e w3 ⟨rfl, hb3⟩
    have z3 := hb3.size
    simp only [World.size_alloc] at z3
    have HG3 := Lib.hid (HG2.out.ext hb3)
    have T1 := Lib.hid (S1.out.ext hb3)
    have TO := Lib.hid (SO.out.ext hb3)
    have HE3 := Lib.hid (HE2.out.trans hb3)
    obtain ⟨O, hO⟩ : ∃ x, x = w1.heap.size := ⟨_, rfl⟩
    rw [← hO] at TO z3
    (try rw [← hO])
    have zO : w.heap.size + 1 + 1 ≤ O := by omega
    have zG : w1.heap.size ≤ O := by omega
    clear hO hb1 hb3 S0 S1 SO HG2 HE2 HE0 HR0 HR1 hg1 eA
  · have TO2 := TO; have T12 := T1; have HG4 := HG3; have HE4 := HE3
    have q0 : w3.cell? ⟨O, 0, none⟩ = some (.int .i64 x0) := TO2.out.cell rfl
    have q1 : w3.cell? ⟨O, 1, none⟩ = some (.int .i64 x1) := TO2.out.cell rfl
    have q2 : w3.cell? ⟨O, 2, none⟩ = some (.int .i64 x2) := TO2.out.cell rfl
    have q3 : w3.cell? ⟨O, 3, none⟩ = some (.int .i64 x3) := TO2.out.cell rfl
    have q4 : w3.cell? ⟨O, 4, none⟩ = some (.int .i64 x4) := TO2.out.cell rfl
    have q5 : w3.cell? ⟨O, 5, none⟩ = some (.int .i64 x5) := TO2.out.cell rfl
    have q6 : w3.cell? ⟨O, 6, none⟩ = some (.int .i64 x6) := TO2.out.cell rfl
    have q7 : w3.cell? ⟨O, 7, none⟩ = some (.int .i64 x7) := TO2.out.cell rfl
    have q8 : w3.cell? ⟨O, 8, none⟩ = some (.int .i64 x8) := TO2.out.cell rfl
    have q9 : w3.cell? ⟨O, 9, none⟩ = some (.slice a1 n c1) := TO2.out.cell rfl
    have r0 : w3.cell? ⟨w.heap.size + 1, 0, none⟩ = some (.int .i64 0) := T12.out.cell rfl
    have g0 := T12.out.frozen 0
    have r1 : w3.cell? ⟨w.heap.size + 1, 1, none⟩ = some (.int .i64 0) := T12.out.cell rfl
    have g1 := T12.out.frozen 1
    have r2 : w3.cell? ⟨w.heap.size + 1, 2, none⟩ = some (.int .i64 0) := T12.out.cell rfl
    have g2 := T12.out.frozen 2
    have r3 : w3.cell? ⟨w.heap.size + 1, 3, none⟩ = some (.int .i64 0) := T12.out.cell rfl
    have g3 := T12.out.frozen 3
    have r4 : w3.cell? ⟨w.heap.size + 1, 4, none⟩ = some (.int .i64 0) := T12.out.cell rfl
    have g4 := T12.out.frozen 4
    have r5 : w3.cell? ⟨w.heap.size + 1, 5, none⟩ = some (.int .i64 0) := T12.out.cell rfl
    have g5 := T12.out.frozen 5
    have r6 : w3.cell? ⟨w.heap.size + 1, 6, none⟩ = some (.int .i64 0) := T12.out.cell rfl
    have g6 := T12.out.frozen 6
    have r7 : w3.cell? ⟨w.heap.size + 1, 7, none⟩ = some (.int .i64 0) := T12.out.cell rfl
    have g7 := T12.out.frozen 7
    have r8 : w3.cell? ⟨w.heap.size + 1, 8, none⟩ = some (.int .i64 0) := T12.out.cell rfl
    have g8 := T12.out.frozen 8
    have r9 : w3.cell? ⟨w.heap.size + 1, 9, none⟩ = some (.slice none 0 0) := T12.out.cell rfl
    have g9 := T12.out.frozen 9
    go_wp2
    refine bodyPost_ret (v := .agg #[.int .i64 x0, .int .i64 x1, .int .i64 x2, .int .i64 x3, .int .i64 x4, .int .i64 x5, .int .i64 x6, .int .i64 x7, .int .i64 x8, .slice a1 n c1]) (by simp [results, Try.results15, go_sem, *]) rfl ⟨a1, c1, rfl, ?_, ?_⟩
    · exact (((((((((((HG4.out.set (p := ⟨w.heap.size + 1, 0, none⟩) (.inl (by dsimp only; omega)) _).set (p := ⟨w.heap.size + 1, 1, none⟩) (.inl (by dsimp only; omega)) _).set (p := ⟨w.heap.size + 1, 2, none⟩) (.inl (by dsimp only; omega)) _).set (p := ⟨w.heap.size + 1, 3, none⟩) (.inl (by dsimp only; omega)) _).set (p := ⟨w.heap.size + 1, 4, none⟩) (.inl (by dsimp only; omega)) _).set (p := ⟨w.heap.size + 1, 5, none⟩) (.inl (by dsimp only; omega)) _).set (p := ⟨w.heap.size + 1, 6, none⟩) (.inl (by dsimp only; omega)) _).set (p := ⟨w.heap.size + 1, 7, none⟩) (.inl (by dsimp only; omega)) _).set (p := ⟨w.heap.size + 1, 8, none⟩) (.inl (by dsimp only; omega)) _).set (p := ⟨w.heap.size + 1, 9, none⟩) (.inl (by dsimp only; omega)) _).ownAt).wide (by omega) (by simp only [size_setCell']; omega)
    · exact ((((((((((HE4.out.setCell (p := ⟨w.heap.size + 1, 0, none⟩) (by dsimp only; omega) _).setCell (p := ⟨w.heap.size + 1, 1, none⟩) (by dsimp only; omega) _).setCell (p := ⟨w.heap.size + 1, 2, none⟩) (by dsimp only; omega) _).setCell (p := ⟨w.heap.size + 1, 3, none⟩) (by dsimp only; omega) _).setCell (p := ⟨w.heap.size + 1, 4, none⟩) (by dsimp only; omega) _).setCell (p := ⟨w.heap.size + 1, 5, none⟩) (by dsimp only; omega) _).setCell (p := ⟨w.heap.size + 1, 6, none⟩) (by dsimp only; omega) _).setCell (p := ⟨w.heap.size + 1, 7, none⟩) (by dsimp only; omega) _).setCell (p := ⟨w.heap.size + 1, 8, none⟩) (by dsimp only; omega) _).setCell (p := ⟨w.heap.size + 1, 9, none⟩) (by dsimp only; omega) _)
  · have f8 := TO.out.frozen 8
    have d8 : w3.cell? ⟨O, 8, none⟩ = some (.int .i64 x8) := TO.out.cell rfl
    have TO2 := Lib.hid (TO.out.set 8 (.int .i64 0))
    have T12 := Lib.hid (T1.out.other (p := ⟨O, 8, none⟩) (by dsimp only; omega) (.int .i64 0))
    have HG4 := Lib.hid (HG3.out.set (p := ⟨O, 8, none⟩) (.inr zG) (.int .i64 0))
    have HE4 := Lib.hid (HE3.out.setCell (p := ⟨O, 8, none⟩) (by dsimp only; omega) (.int .i64 0))
    have q0 : (w3.setCell ⟨O, 8, none⟩ (.int .i64 0)).cell? ⟨O, 0, none⟩ = some (.int .i64 x0) := TO2.out.cell rfl
    have q1 : (w3.setCell ⟨O, 8, none⟩ (.int .i64 0)).cell? ⟨O, 1, none⟩ = some (.int .i64 x1) := TO2.out.cell rfl
    have q2 : (w3.setCell ⟨O, 8, none⟩ (.int .i64 0)).cell? ⟨O, 2, none⟩ = some (.int .i64 x2) := TO2.out.cell rfl
    have q3 : (w3.setCell ⟨O, 8, none⟩ (.int .i64 0)).cell? ⟨O, 3, none⟩ = some (.int .i64 x3) := TO2.out.cell rfl
    have q4 : (w3.setCell ⟨O, 8, none⟩ (.int .i64 0)).cell? ⟨O, 4, none⟩ = some (.int .i64 x4) := TO2.out.cell rfl
    have q5 : (w3.setCell ⟨O, 8, none⟩ (.int .i64 0)).cell? ⟨O, 5, none⟩ = some (.int .i64 x5) := TO2.out.cell rfl
    have q6 : (w3.setCell ⟨O, 8, none⟩ (.int .i64 0)).cell? ⟨O, 6, none⟩ = some (.int .i64 x6) := TO2.out.cell rfl
    have q7 : (w3.setCell ⟨O, 8, none⟩ (.int .i64 0)).cell? ⟨O, 7, none⟩ = some (.int .i64 x7) := TO2.out.cell rfl
    have q8 : (w3.setCell ⟨O, 8, none⟩ (.int .i64 0)).cell? ⟨O, 8, none⟩ = some (.int .i64 0) := TO2.out.cell rfl
    have q9 : (w3.setCell ⟨O, 8, none⟩ (.int .i64 0)).cell? ⟨O, 9, none⟩ = some (.slice a1 n c1) := TO2.out.cell rfl
    have r0 : (w3.setCell ⟨O, 8, none⟩ (.int .i64 0)).cell? ⟨w.heap.size + 1, 0, none⟩ = some (.int .i64 0) := T12.out.cell rfl
    have g0 := T12.out.frozen 0
    have r1 : (w3.setCell ⟨O, 8, none⟩ (.int .i64 0)).cell? ⟨w.heap.size + 1, 1, none⟩ = some (.int .i64 0) := T12.out.cell rfl
    have g1 := T12.out.frozen 1
    have r2 : (w3.setCell ⟨O, 8, none⟩ (.int .i64 0)).cell? ⟨w.heap.size + 1, 2, none⟩ = some (.int .i64 0) := T12.out.cell rfl
    have g2 := T12.out.frozen 2
    have r3 : (w3.setCell ⟨O, 8, none⟩ (.int .i64 0)).cell? ⟨w.heap.size + 1, 3, none⟩ = some (.int .i64 0) := T12.out.cell rfl
    have g3 := T12.out.frozen 3
    have r4 : (w3.setCell ⟨O, 8, none⟩ (.int .i64 0)).cell? ⟨w.heap.size + 1, 4, none⟩ = some (.int .i64 0) := T12.out.cell rfl
    have g4 := T12.out.frozen 4
    have r5 : (w3.setCell ⟨O, 8, none⟩ (.int .i64 0)).cell? ⟨w.heap.size + 1, 5, none⟩ = some (.int .i64 0) := T12.out.cell rfl
    have g5 := T12.out.frozen 5
    have r6 : (w3.setCell ⟨O, 8, none⟩ (.int .i64 0)).cell? ⟨w.heap.size + 1, 6, none⟩ = some (.int .i64 0) := T12.out.cell rfl
    have g6 := T12.out.frozen 6
    have r7 : (w3.setCell ⟨O, 8, none⟩ (.int .i64 0)).cell? ⟨w.heap.size + 1, 7, none⟩ = some (.int .i64 0) := T12.out.cell rfl
    have g7 := T12.out.frozen 7
    have r8 : (w3.setCell ⟨O, 8, none⟩ (.int .i64 0)).cell? ⟨w.heap.size + 1, 8, none⟩ = some (.int .i64 0) := T12.out.cell rfl
    have g8 := T12.out.frozen 8
    have r9 : (w3.setCell ⟨O, 8, none⟩ (.int .i64 0)).cell? ⟨w.heap.size + 1, 9, none⟩ = some (.slice none 0 0) := T12.out.cell rfl
    have g9 := T12.out.frozen 9
    go_wp2
    refine bodyPost_ret (v := .agg #[.int .i64 x0, .int .i64 x1, .int .i64 x2, .int .i64 x3, .int .i64 x4, .int .i64 x5, .int .i64 x6, .int .i64 x7, .int .i64 0, .slice a1 n c1]) (by simp [results, Try.results15, go_sem, *]) rfl ⟨a1, c1, rfl, ?_, ?_⟩
    · exact (((((((((((HG4.out.set (p := ⟨w.heap.size + 1, 0, none⟩) (.inl (by dsimp only; omega)) _).set (p := ⟨w.heap.size + 1, 1, none⟩) (.inl (by dsimp only; omega)) _).set (p := ⟨w.heap.size + 1, 2, none⟩) (.inl (by dsimp only; omega)) _).set (p := ⟨w.heap.size + 1, 3, none⟩) (.inl (by dsimp only; omega)) _).set (p := ⟨w.heap.size + 1, 4, none⟩) (.inl (by dsimp only; omega)) _).set (p := ⟨w.heap.size + 1, 5, none⟩) (.inl (by dsimp only; omega)) _).set (p := ⟨w.heap.size + 1, 6, none⟩) (.inl (by dsimp only; omega)) _).set (p := ⟨w.heap.size + 1, 7, none⟩) (.inl (by dsimp only; omega)) _).set (p := ⟨w.heap.size + 1, 8, none⟩) (.inl (by dsimp only; omega)) _).set (p := ⟨w.heap.size + 1, 9, none⟩) (.inl (by dsimp only; omega)) _).ownAt).wide (by omega) (by simp only [size_setCell']; omega)
    · exact ((((((((((HE4.out.setCell (p := ⟨w.heap.size + 1, 0, none⟩) (by dsimp only; omega) _).setCell (p := ⟨w.heap.size + 1, 1, none⟩) (by dsimp only; omega) _).setCell (p := ⟨w.heap.size + 1, 2, none⟩) (by dsimp only; omega) _).setCell (p := ⟨w.heap.size + 1, 3, none⟩) (by dsimp only; omega) _).setCell (p := ⟨w.heap.size + 1, 4, none⟩) (by dsimp only; omega) _).setCell (p := ⟨w.heap.size + 1, 5, none⟩) (by dsimp only; omega) _).setCell (p := ⟨w.heap.size + 1, 6, none⟩) (by dsimp only; omega) _).setCell (p := ⟨w.heap.size + 1, 7, none⟩) (by dsimp only; omega) _).setCell (p := ⟨w.heap.size + 1, 8, none⟩) (by dsimp only; omega) _).setCell (p := ⟨w.heap.size + 1, 9, none⟩) (by dsimp only; omega) _)


end Go.Proofs.Ytmppoflgbmabpaa
/- Points, ints and reaches: sizes, conversion, comparison, how they open. -/
namespace Go.Proofs.Ytmppoflgbmabpaa
open Go.RowKit
set_option linter.unusedSimpArgs false
set_option linter.unusedVariables false

abbrev Pt : Type := Int × Int
def ptCells (p : Pt) : List Value := [.int .i64 p.1, .int .i64 p.2]
/-- Points in a block of their own. -/
def PtOwn (w : World) (lo hi : Nat) (v : Value) (ps : List Pt) : Prop :=
  ∃ a c, v = .slice a ps.length c ∧ (ps = [] ∨ ∃ B off cur, a = some ⟨B, off, none⟩ ∧ lo ≤ B ∧ B < hi ∧ RowAt w B 37 cur ∧ ∀ k (h : k < ps.length), cur[off + k * 2]? = some (.int .i64 ps[k].1) ∧ cur[off + k * 2 + 1]? = some (.int .i64 ps[k].2))
theorem PtOwn.keep {w w' : World} {lo hi lo' hi' : Nat} {v : Value} {ps : List Pt} (h : PtOwn w lo hi v ps) (hl : lo' ≤ lo) (hh : hi ≤ hi') (hk : ∀ B t c, lo ≤ B → B < hi → RowAt w B t c → RowAt w' B t c) : PtOwn w' lo' hi' v ps := by
  obtain ⟨a, c, e, hr⟩ := h
  exact ⟨a, c, e, hr.imp id fun ⟨B, off, cur, e1, h1, h2, h3, h4⟩ => ⟨B, off, cur, e1, by omega, by omega, hk _ _ _ h1 h2 h3, h4⟩⟩
theorem PtOwn.ext {w w' : World} {lo hi : Nat} {v : Value} {ps : List Pt} (h : PtOwn w lo hi v ps) (hx : Ext w w') : PtOwn w' lo hi v ps := h.keep (Nat.le_refl _) (Nat.le_refl _) (fun _ _ _ _ _ hr => hr.ext hx)
theorem PtOwn.chg {lo hi lo2 hi2 : Nat} {w w' : World} {v : Value} {ps : List Pt} (h : PtOwn w lo hi v ps) (hc : Chg lo2 hi2 w w') (ho : hi ≤ lo2 ∨ hi2 ≤ lo) : PtOwn w' lo hi v ps := h.keep (Nat.le_refl _) (Nat.le_refl _) (fun B _ _ h1 h2 hr => hr.chg hc (by omega))
theorem PtOwn.at {lo hi n : Nat} {w : World} {a : Option Addr} {c : Nat} {ps : List Pt} (h : PtOwn w lo hi (.slice a n c) ps) : FlatAt w ptCells 2 a ps := by
  obtain ⟨a', c', e, hr⟩ := h
  injection e with ea _ _
  subst ea
  intro k hk
  rcases hr with rfl | ⟨B, off, cur, rfl, _, _, h3, h4⟩
  · exact absurd hk (Nat.not_lt_zero _)
  · refine ⟨B, off, rfl, fun j u hu => ?_⟩
    match j, hu with
    | 0, hu => cases hu; exact h3.cell (h4 k hk).1
    | 1, hu => cases hu; exact h3.cell (h4 k hk).2
theorem IntOwn.keep {w w' : World} {lo hi lo' hi' : Nat} {v : Value} {xs : List Int} (h : IntOwn w lo hi v xs) (hl : lo' ≤ lo) (hh : hi ≤ hi') (hk : ∀ B t c, lo ≤ B → B < hi → RowAt w B t c → RowAt w' B t c) : IntOwn w' lo' hi' v xs := by
  obtain ⟨a, c, e, hr⟩ := h
  exact ⟨a, c, e, hr.imp id fun ⟨B, off, cur, e1, h1, h2, h3, h4⟩ => ⟨B, off, cur, e1, by omega, by omega, hk _ _ _ h1 h2 h3, h4⟩⟩

theorem info_point : (Try.prog.info? 37).map (fun i => (i.zero, i.size, i.bytes)) = some (some (.agg #[.int .i64 0, .int .i64 0]), 2, 16) := by kernel_rfl
theorem info_int2 : (Try.prog.info? 3).map (fun i => (i.zero, i.size, i.bytes)) = some (some (.int .i64 0), 1, 8) := by kernel_rfl

section
open Go.WideShapes Go.ChangeShapes Go.Deep Go.Joins
variable {H : Type} {enc : TypeId × Value → H} {w : World} {base : Nat} {spare : Nat → Bool} {held : Bool}
set_option maxRecDepth 100000 in
theorem open_int_slice (n : Nat) (cs : List Value) (y : DataW H × List MemPlace) (h : DataW.trod enc Try.prog w base spare held n 31 cs = some y) :
    ∃ (row : List Int) (a : Option Addr) (c : Nat), cs = [.slice a row.length c] ∧ (row.length ≤ maxLen ∧ (a = none → c = 0)) ∧ IntsAt w a row := by
  obtain ⟨a, len, cap, xs, rfl, rfl, hm, hk⟩ := open_slice_good (α := Int) (sz := 1) Try.underlying31 (by kernel_rfl) (by decide) (fun cs (z : Int) => cs = [.int .i64 z]) (fun n cs y hl h => let ⟨z, e, _⟩ := DataW.trod_int (k := .i64) Try.underlying3 h; ⟨z, e⟩) h
  refine ⟨xs, a, cap, rfl, hm, fun k hk' => ?_⟩
  obtain ⟨b, off, cs', e, hl, hc, rfl⟩ := hk k hk'
  exact ⟨b, off, e, by have := hc 0 (by decide); simpa using this⟩
end
end Go.Proofs.Ytmppoflgbmabpaa
