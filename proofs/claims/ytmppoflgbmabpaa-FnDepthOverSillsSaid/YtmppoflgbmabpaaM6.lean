/- A region that comes in several ways whose ends differ by the blocks alone: one proof behind it. -/
import Derived.Test.YtmppoflgbmabpaaProg
import Derived.Test.YtmppoflgbmabpaaM2
import Derived.Test.YtmppoflgbmabpaaM1
import Derived.Test.YtmppoflgbmabpaaM3
import Derived.Test.YtmppoflgbmabpaaM5
namespace Go.Proofs.Ytmppoflgbmabpaa
open Go.RowKit
theorem wp_ways {P : Program} {c : Code} {Q : Exit → Act → World → Prop} {a : Act} {w : World} (G : Nat → Option Addr → Nat → World → Prop) (F : Nat → Option Addr → Nat → Addr → Addr → Addr → Addr → Addr → Act)
    (h : c.wp P (fun e a' w' => match e with | .normal => ∃ b p q y0 y1 y2 y3 y4, G b p q w' ∧ a' = F b p q y0 y1 y2 y3 y4 | _ => False) a w)
    (k : ∀ b p q y0 y1 y2 y3 y4 w', G b p q w' → Q .normal (F b p q y0 y1 y2 y3 y4) w') : c.wp P Q a w := by
  refine Code.wp_mono (fun e a' w' hq => ?_) h
  cases e with
  | normal =>
    obtain ⟨b, p, q, y0, y1, y2, y3, y4, hg, rfl⟩ := hq
    exact k b p q y0 y1 y2 y3 y4 w' hg
  | _ => exact hq.elim
theorem RowAt.cast {w : World} {B : Nat} {t : TypeId} {c c' : Array Value} (h : RowAt w B t c) (e : c = c') : RowAt w B t c' := e ▸ h
end Go.Proofs.Ytmppoflgbmabpaa
/- A row of cells stored into a box, cell by cell; regions with two boxes that come in several ways. -/
namespace Go.Proofs.Ytmppoflgbmabpaa
open Go.RowKit
/-- The world behind storing the values from place k of block b on. -/
def putAt (w : World) (b k : Nat) : List Value → World
  | [] => w
  | v :: vs => putAt (w.setCell ⟨b, k, none⟩ v) b (k + 1) vs
theorem put_size (b : Nat) : ∀ (vs : List Value) (w : World) (k : Nat), (putAt w b k vs).heap.size = w.heap.size
  | [], _, _ => rfl
  | v :: vs, w, k => (put_size b vs _ (k + 1)).trans (by simp [World.setCell])
theorem put_other {B b : Nat} {t : TypeId} {c : Array Value} (hb : b ≠ B) : ∀ (vs : List Value) (w : World) (k : Nat), RowAt w B t c → RowAt (putAt w b k vs) B t c
  | [], _, _, h => h
  | v :: vs, _, k, h => put_other hb vs _ (k + 1) (h.other (p := ⟨b, k, none⟩) hb v)
theorem put_ext {w0 : World} {b : Nat} (hb : w0.heap.size ≤ b) : ∀ (vs : List Value) (w : World) (k : Nat), Ext w0 w → Ext w0 (putAt w b k vs)
  | [], _, _, h => h
  | v :: vs, _, k, h => put_ext hb vs _ (k + 1) (h.setCell (p := ⟨b, k, none⟩) hb v)
def putArr (c : Array Value) (k : Nat) : List Value → Array Value
  | [] => c
  | v :: vs => putArr (c.setIfInBounds k v) (k + 1) vs
theorem put_at {b : Nat} {t : TypeId} : ∀ (vs : List Value) (w : World) (k : Nat) (c : Array Value), RowAt w b t c → RowAt (putAt w b k vs) b t (putArr c k vs)
  | [], _, _, _, h => h
  | v :: vs, _, k, _, h => put_at vs _ (k + 1) _ (h.set k v)
theorem put_kept {w : World} {b k lo hi : Nat} {vs : List Value} (hb : b < lo ∨ hi ≤ b) : ∀ (B : Nat) (t : TypeId) (c : Array Value), lo ≤ B → B < hi → RowAt w B t c → RowAt (putAt w b k vs) B t c :=
  fun B t c h1 h2 hr => put_other (by omega) vs w k hr
theorem ext_kept {w w' : World} {lo hi : Nat} (hx : Ext w w') : ∀ (B : Nat) (t : TypeId) (c : Array Value), lo ≤ B → B < hi → RowAt w B t c → RowAt w' B t c :=
  fun _ _ _ _ _ hr => hr.ext hx
/-- As wp_ways, with two boxes. -/
theorem wp_ways2 {P : Program} {c : Code} {Q : Exit → Act → World → Prop} {a : Act} {w : World} (G : Nat → Nat → Option Addr → Nat → Option Addr → Nat → Option Addr → Nat → World → Prop) (F : Nat → Nat → Option Addr → Nat → Option Addr → Nat → Option Addr → Nat → Addr → Addr → Addr → Addr → Addr → Act)
    (h : c.wp P (fun e a' w' => match e with | .normal => ∃ b1 b2 p q p1 q1 p2 q2 y0 y1 y2 y3 y4, G b1 b2 p q p1 q1 p2 q2 w' ∧ a' = F b1 b2 p q p1 q1 p2 q2 y0 y1 y2 y3 y4 | _ => False) a w)
    (k : ∀ b1 b2 p q p1 q1 p2 q2 y0 y1 y2 y3 y4 w', G b1 b2 p q p1 q1 p2 q2 w' → Q .normal (F b1 b2 p q p1 q1 p2 q2 y0 y1 y2 y3 y4) w') : c.wp P Q a w := by
  refine Code.wp_mono (fun e a' w' hq => ?_) h
  cases e with
  | normal =>
    obtain ⟨b1, b2, p, q, p1, q1, p2, q2, y0, y1, y2, y3, y4, hg, rfl⟩ := hq
    exact k b1 b2 p q p1 q1 p2 q2 y0 y1 y2 y3 y4 w' hg
  | _ => exact hq.elim
theorem alloc_named (w : World) (t : TypeId) (c : Array Value) : ∃ b w', w' = w.alloc (.cells c t) ∧ b = w.heap.size ∧ Ext w w' ∧ RowAt w' b t c ∧ w.heap.size ≤ b ∧ b ≤ w.heap.size ∧ b < w'.heap.size :=
  ⟨_, _, rfl, rfl, (Ext.refl w).alloc _, RowAt.new w t c, Nat.le_refl _, Nat.le_refl _, (RowAt.new w t c).lt⟩
/-- Inside a region that draws its order: what has come up in several ways goes on as one. -/
theorem cut_any2 {P : Program} {md : Region.Mode} {ops : Array Oper} {Q : Exit → Act → World → Prop} {S : World → Prop} {fuel : Nat} {listed : Array Bool} {goal : Prop} (G : Nat → Nat → Option Addr → Nat → Option Addr → Nat → Option Addr → Nat → World → Prop) (F : Nat → Nat → Option Addr → Nat → Option Addr → Nat → Option Addr → Nat → Addr → Addr → Addr → Addr → Addr → Act)
    (h : (∀ a w, (∃ b1 b2 p q p1 q1 p2 q2 y0 y1 y2 y3 y4, G b1 b2 p q p1 q1 p2 q2 w ∧ a = F b1 b2 p q p1 q1 p2 q2 y0 y1 y2 y3 y4) → wpAnyH P md ops Q S fuel listed a w) → goal)
    (k : ∀ b1 b2 p q p1 q1 p2 q2 y0 y1 y2 y3 y4 w, G b1 b2 p q p1 q1 p2 q2 w → wpAnyH P md ops Q S fuel listed (F b1 b2 p q p1 q1 p2 q2 y0 y1 y2 y3 y4) w) : goal :=
  h (fun _ w ⟨b1, b2, p, q, p1, q1, p2, q2, y0, y1, y2, y3, y4, hg, e⟩ => e ▸ k b1 b2 p q p1 q1 p2 q2 y0 y1 y2 y3 y4 w hg)
end Go.Proofs.Ytmppoflgbmabpaa
/- What LeaveLock answers; lists of trains laid behind one another. -/
namespace Go.Proofs.Ytmppoflgbmabpaa
open Go.RowKit
set_option linter.unusedSimpArgs false
set_option linter.unusedVariables false

theorem ownsRow_form {w : World} {base n sz : Nat} {t : TypeId} {v : Value} {xs : List Value} (h : w.ownsRow base t sz v n xs) : ∃ a c, v = .slice a n c := by
  rcases h.2 with ⟨e, h0⟩ | ⟨g, cap, cur, e, _⟩
  · exact ⟨none, 0, by rw [e, h0]⟩
  · exact ⟨_, _, e⟩
theorem GT.cellsL {w : World} {lo hi n c : Nat} {a : Option Addr} {es : List (Bool × Value)} {ts : List Tn} (h : GT w lo hi (.slice a n c) es ts) : (a = none → c = 0 ∧ n = 0) ∧ ∀ ad, a = some ad → ∀ (j : Nat) u, (es.flatMap eC)[j]? = some u → w.cell? (ad.add j) = some u := by
  rcases h.2.1.2 with ⟨e, hn⟩ | ⟨g, cap, cur, e, hb, hheap, hnc, hcm, hcs, htake⟩
  · injection e with e1 e2 e3
    subst e1 e2 e3
    exact ⟨fun _ => ⟨rfl, rfl⟩, fun ad e => by cases e⟩
  · injection e with e1 e2 e3
    subst e1
    refine ⟨(fun e => by cases e), fun ad e j u hu => ?_⟩
    cases e
    rw [add_plain rfl, Nat.zero_add]
    rw [← htake, List.getElem?_take] at hu
    split at hu
    · exact (show RowAt w g 47 cur from hheap).cell (by simpa using hu)
    · cases hu
theorem GT.onesL {w : World} {lo hi : Nat} {v : Value} {es : List (Bool × Value)} {ts : List Tn} (h : GT w lo hi v es ts) : ∀ e ∈ es, e.2.oneCell' = true := fun e he => by
  obtain ⟨h1, _, _, p, q, h4⟩ := h
  obtain ⟨k, hk, rfl⟩ := List.getElem_of_mem he
  obtain ⟨⟨a', c, e1, _⟩, _⟩ := h4 k (by rw [← h1]; exact hk)
  rw [List.getElem?_eq_getElem hk] at e1
  rw [Option.some.inj e1]
  rfl
theorem GT.capL {w : World} {lo hi n c : Nat} {a : Option Addr} {es : List (Bool × Value)} {ts : List Tn} (h : GT w lo hi (.slice a n c) es ts) : n ≤ c ∧ c ≤ 9223372036854775807 := by
  rcases h.2.1.2 with ⟨e, hn⟩ | ⟨g, cap, cur, e, hb, hheap, hnc, hcm, hcs, htake⟩
  · injection e with e1 e2 e3
    omega
  · injection e with e1 e2 e3
    unfold maxLen at hcm
    omega
/-- Two lists of trains, the second's blocks behind the first's, laid into one. -/
theorem GT.concat {w1 w2 : World} {lo hi P Q : Nat} {v v' v2 : Value} {es es2 : List (Bool × Value)} {ts ts2 : List Tn} (h : GT w1 lo hi v es ts) (hP : hi ≤ P) (hlo : lo ≤ P) (hQ : Q ≤ w1.heap.size) (hu : GT w1 P Q v2 es2 ts2)
    (hown : w2.ownsRow lo 47 2 v' (ts.length + ts2.length) ((es ++ es2).flatMap eC)) (hg : w1.grownBy w2 v.ownBlock) (hat : v'.ownBlock = v.ownBlock ∨ v'.ownBlock = some w1.heap.size) (hh1 : hi ≤ w1.heap.size) :
    GT w2 lo w2.heap.size v' (es ++ es2) (ts ++ ts2) := by
  have hs2 := hg.size
  obtain ⟨h1, h2, h3, p, q, h4⟩ := h
  obtain ⟨k1, k2, k3, p2, q2, k4⟩ := hu
  refine ⟨by simp [h1, k1], by simpa using hown, (fun g hv => (ownsRow_lt hown hv).2), (fun k => if k < ts.length then p k else p2 (k - ts.length)), (fun k => if k < ts.length then q k else q2 (k - ts.length)), fun k hk => ?_⟩
  by_cases e : k < ts.length
  · obtain ⟨⟨b', c', e1, e2, e3⟩, e4, e5, e6, e7⟩ := h4 k e
    simp only [e, if_true]
    rw [List.getElem_append_left e]
    refine ⟨⟨b', c', by rw [List.getElem?_append_left (by rw [h1]; exact e)]; exact e1, e2, ?_⟩, e4, by omega, fun g hgv => ?_, fun k' hk' => ?_⟩
    · exact e3.grown hg (fun B hB => e6 B hB)
    · rcases hat with hat | hat
      · rw [hat] at hgv; exact e6 g hgv
      · rw [hat] at hgv
        have := Option.some.inj hgv
        omega
    · rw [if_pos (by omega)]
      exact e7 k' hk'
  · have hk2 : k - ts.length < ts2.length := by rw [List.length_append] at hk; omega
    obtain ⟨⟨b', c', e1, e2, e3⟩, e4, e5, e6, e7⟩ := k4 (k - ts.length) hk2
    simp only [e, if_false]
    rw [List.getElem_append_right (by omega)]
    refine ⟨⟨b', c', by rw [List.getElem?_append_right (by rw [h1]; omega), h1]; exact e1, e2, ?_⟩, by omega, by omega, fun g hgv => ?_, fun k' hk' => ?_⟩
    · exact e3.grown hg (fun B hB => by have := h3 B hB; omega)
    · rcases hat with hat | hat
      · rw [hat] at hgv
        have := h3 g hgv
        omega
      · rw [hat] at hgv
        have := Option.some.inj hgv
        omega
    · by_cases e' : k' < ts.length
      · rw [if_pos e']
        have := (h4 k' e').2.2.1
        omega
      · rw [if_neg e']
        exact e7 _ (by omega)
/-- The same trains without the k-th, laid into a slice of their own. -/
theorem GT.without {w : World} {lo hi hi' k : Nat} {v v' : Value} {es : List (Bool × Value)} {ts : List Tn} (h : GT w lo hi v es ts) (hk : k < ts.length) (ho : w.ownsRow lo 47 2 v' (k + (ts.length - (k + 1))) ((es.take k ++ es.drop (k + 1)).flatMap eC)) (hb : ∀ g, v'.ownBlock = some g → hi ≤ g ∧ g < hi') (hh : hi ≤ hi') :
    GT w lo hi' v' (es.take k ++ es.drop (k + 1)) (ts.take k ++ ts.drop (k + 1)) := by
  obtain ⟨h1, h2, h3, p, q, h4⟩ := h
  have hl : (ts.take k ++ ts.drop (k + 1)).length = k + (ts.length - (k + 1)) := by rw [List.length_append, List.length_take, List.length_drop]; omega
  refine ⟨by simp [h1], by rw [hl]; exact ho, (fun g hg => (hb g hg).2), (fun j => if j < k then p j else p (j + 1)), (fun j => if j < k then q j else q (j + 1)), fun j hj => ?_⟩
  rw [hl] at hj
  by_cases e : j < k
  · obtain ⟨⟨b', c', e1, e2, e3⟩, e4, e5, e6, e7⟩ := h4 j (by omega)
    simp only [e, if_true]
    have hg1 : (ts.take k ++ ts.drop (k + 1))[j]'(by rw [hl]; exact hj) = ts[j]'(by omega) := by rw [List.getElem_append_left (by rw [List.length_take]; omega), List.getElem_take]
    rw [hg1]
    refine ⟨⟨b', c', by rw [List.getElem?_append_left (by rw [List.length_take]; omega), List.getElem?_take_of_lt e]; exact e1, e2, e3⟩, e4, by omega, fun g hgv => by have := (hb g hgv).1; omega, fun k' hk' => ?_⟩
    rw [if_pos (by omega)]
    exact e7 k' hk'
  · obtain ⟨⟨b', c', e1, e2, e3⟩, e4, e5, e6, e7⟩ := h4 (j + 1) (by omega)
    simp only [e, if_false]
    have hkl : (ts.take k).length = k := by rw [List.length_take]; omega
    have hg1 : (ts.take k ++ ts.drop (k + 1))[j]'(by rw [hl]; exact hj) = ts[j + 1]'(by omega) := by
      rw [List.getElem_append_right (by omega), List.getElem_drop]
      congr 1
      omega
    rw [hg1]
    have hke : (es.take k).length = k := by rw [List.length_take]; omega
    refine ⟨⟨b', c', by rw [List.getElem?_append_right (by omega), List.getElem?_drop, hke, (by omega : k + 1 + (j - k) = j + 1)]; exact e1, e2, e3⟩, e4, by omega, fun g hgv => by have := (hb g hgv).1; omega, fun k' hk' => ?_⟩
    by_cases e' : k' < k
    · rw [if_pos e']; exact e7 k' (by omega)
    · rw [if_neg e']; exact e7 (k' + 1) (by omega)
theorem OwnTrains.nth {w : World} {lo hi k : Nat} {a : Option Addr} {ts : List Tn} (h : OwnTrains w lo hi a ts) (hk : k < ts.length) : ∃ b off a2 c2 P Q, a = some ⟨b, off, none⟩ ∧ w.cell? ⟨b, off + k * 2, none⟩ = some (.bool ts[k].1) ∧ w.cell? ⟨b, off + k * 2 + 1, none⟩ = some (.slice a2 ts[k].2.length c2) ∧ OwnRows w P Q a2 ts[k].2 ∧ lo ≤ P ∧ Q ≤ hi := by
  rcases h with h | ⟨ob, oo, oc, p, q, e, h1, h2, h3, h4⟩
  · subst h; exact absurd hk (Nat.not_lt_zero _)
  · obtain ⟨⟨a', c, q1, q2, q3, q4⟩, q5, q6, q7, q8⟩ := h4 k hk
    exact ⟨ob, oo, a', c, p k, q k, e, h3.cell q1, h3.cell q2, q4, q5, q6⟩
theorem cells_take {w : World} {ad : Addr} {es : List (Bool × Value)} (h : ∀ (j : Nat) u, (es.flatMap eC)[j]? = some u → w.cell? (ad.add j) = some u) (k : Nat) : ∀ (j : Nat) u, ((es.take k).flatMap eC)[j]? = some u → w.cell? (ad.add j) = some u := fun j u hu => by
  refine h j u ?_
  rw [← List.take_append_drop k es, List.flatMap_append, List.getElem?_append_left (List.getElem?_eq_some_iff.1 hu).1]
  exact hu
theorem cells_drop {w : World} {b off : Nat} {es : List (Bool × Value)} (h : ∀ (j : Nat) u, (es.flatMap eC)[j]? = some u → w.cell? ((⟨b, off, none⟩ : Addr).add j) = some u) (k : Nat) (hk : k ≤ es.length) : ∀ (j : Nat) u, ((es.drop k).flatMap eC)[j]? = some u → w.cell? ((⟨b, off + k * 2, none⟩ : Addr).add j) = some u := fun j u hu => by
  have hl : ((es.take k).flatMap eC).length = k * 2 := by rw [eC_flat_len, List.length_take]; omega
  have := h (k * 2 + j) u (by
    rw [← List.take_append_drop k es, List.flatMap_append, List.getElem?_append_right (by omega), hl, Nat.add_sub_cancel_left]
    exact hu)
  rw [add_plain rfl] at this ⊢
  rw [Nat.add_assoc]
  exact this
theorem TrainsAt.takeL {w : World} {a : Option Addr} {ts : List Tn} (h : TrainsAt w a ts) (j : Nat) : TrainsAt w a (ts.take j) := fun k hk => by
  have hk' : k < ts.length := by rw [List.length_take] at hk; omega
  obtain ⟨b, off, a', c, e, h0, h1, h2, h3⟩ := h k hk'
  refine ⟨b, off, a', c, e, ?_⟩
  simp only [List.getElem_take]
  exact ⟨h0, h1, h2, h3⟩
theorem TrainsAt.dropL {w : World} {b off : Nat} {ts : List Tn} (h : TrainsAt w (some ⟨b, off, none⟩) ts) (j : Nat) : TrainsAt w (some ⟨b, off + j * 2, none⟩) (ts.drop j) := fun k hk => by
  have hk' : j + k < ts.length := by rw [List.length_drop] at hk; omega
  obtain ⟨b', off', a', c, e, h0, h1, h2, h3⟩ := h (j + k) hk'
  cases e
  refine ⟨b, off + j * 2, a', c, rfl, ?_⟩
  simp only [List.getElem_drop]
  exact ⟨by rw [Nat.add_assoc, ← Nat.add_mul]; exact h0, by rw [Nat.add_assoc off, ← Nat.add_mul]; exact h1, h2, h3⟩
theorem TrainsAt.none {w : World} {a : Option Addr} : TrainsAt w a [] := fun k hk => absurd hk (Nat.not_lt_zero _)

/-- May this train leave by the open gate? -/
noncomputable def goesOut (x8 s lev : Int) (t : Tn) : Bool := (t.1 == decide (x8 = 1)) && decide (draughtOf t.2 ≤ lev - s)
noncomputable def leaveGo (x8 s lev : Int) (k : Nat) : List Tn → Option Nat
  | [] => none
  | t :: ts => if goesOut x8 s lev t then some k else leaveGo x8 s lev (k + 1) ts
def leaveOut (R : Option Nat) (ts : List Tn) : List Tn × Tn × Bool :=
  match R with
  | some k => (ts.take k ++ ts.drop (k + 1), ts.getD k (false, []), true)
  | none => (ts, (false, []), false)
/-- What LeaveLock answers: the trains that stay, the one that leaves, whether one leaves. -/
noncomputable def leaveRes (x0 x1 x2 x3 x4 x5 x6 x7 x8 : Int) (ts : List Tn) (ps : List Pt) (vol : Int) (xs : List Int) : List Tn × Tn × Bool :=
  if lockOk x0 x1 x2 x3 x4 x5 x6 x7 x8 ts && (reachOk ps vol xs && !decide (x8 = 0)) then
    leaveOut (leaveGo x8 (if x8 = 1 then x2 else x3) (levelOf ps vol xs) 0 ts) ts
  else (ts, (false, []), false)
theorem leaveGo_cons {x8 s lev : Int} {k : Nat} {t : Tn} {ts : List Tn} : leaveGo x8 s lev k (t :: ts) = if goesOut x8 s lev t then some k else leaveGo x8 s lev (k + 1) ts := rfl
theorem lockOk_gate {x0 x1 x2 x3 x4 x5 x6 x7 x8 : Int} {ts : List Tn} (h : lockOk x0 x1 x2 x3 x4 x5 x6 x7 x8 ts = true) : ((0 ≤ x2 ∧ x2 ≤ 100000) ∧ (0 ≤ x3 ∧ x3 ≤ 100000)) ∧ (0 ≤ x8 ∧ x8 ≤ 2) ∧ ts.length ≤ 8 := by
  obtain ⟨h1, h2, h3⟩ := lockOk_sills h
  refine ⟨⟨h1, h2⟩, h3, ?_⟩
  unfold lockOk at h
  simp only [Bool.and_eq_true] at h
  exact (distinct_parts h.2).1
end Go.Proofs.Ytmppoflgbmabpaa
/- The cursor over the bytes of a draw: what l01New, l01Byte and l01Below do. -/
namespace Go.Proofs.Ytmppoflgbmabpaa
open Go.RowKit
set_option linter.unusedSimpArgs false
set_option linter.unusedVariables false

theorem and255 (n : Int) : 0 ≤ bits .and .i64 n 255 ∧ bits .and .i64 n 255 ≤ 255 := by
  have h : bits .and .i64 n 255 = IntKind.i64.wrap ((BitVec.ofInt 64 n &&& BitVec.ofInt 64 255).toNat : Int) := rfl
  have h2 : (BitVec.ofInt 64 n &&& BitVec.ofInt 64 255).toNat ≤ 255 := by
    rw [BitVec.toNat_and]
    exact Nat.le_trans Nat.and_le_right (by decide)
  rw [h, IntKind.wrap_i64]
  omega

/-! ### One block alone has changed -/
theorem only_refl (w : World) (B : Nat) : w.grownBy w (some B) := ⟨rfl, rfl, rfl, Nat.le_refl _, fun _ _ _ => rfl⟩
theorem only_trans {a b c : World} {B : Nat} (h : a.grownBy b (some B)) (k : b.grownBy c (some B)) : a.grownBy c (some B) :=
  ⟨k.os.trans h.os, k.tape.trans h.tape, k.output.trans h.output, Nat.le_trans h.size k.size, fun i hi hne => (k.block i (Nat.lt_of_lt_of_le hi h.size) hne).trans (h.block i hi hne)⟩
theorem only_ext {a b c : World} {B : Nat} (h : a.grownBy b (some B)) (k : Ext b c) : a.grownBy c (some B) :=
  ⟨k.below.os.trans h.os, k.below.tape.trans h.tape, k.below.output.trans h.output, Nat.le_trans h.size k.size, fun i hi hne => (k.below.block i (Nat.lt_of_lt_of_le hi h.size)).trans (h.block i hi hne)⟩
theorem only_drewN {a b : World} {B : Nat} (h : a.grownBy b (some B)) (n : Nat) : a.grownBy (b.drewN n) (some B) := only_ext h ((Ext.refl b).drewN n)
theorem only_setCell {a b : World} {B : Nat} (h : a.grownBy b (some B)) (j : Nat) (v : Value) : a.grownBy (b.setCell ⟨B, j, none⟩ v) (some B) :=
  ⟨h.os, h.tape, h.output, by simpa [World.setCell] using h.size, fun i hi hne => (Below.heap_setCell b ⟨B, j, none⟩ v i (fun e => hne (by rw [e]))).trans (h.block i hi hne)⟩
theorem Ext.only {w0 w w' : World} {B : Nat} (h : Ext w0 w) (k : w.grownBy w' (some B)) (hB : w0.heap.size ≤ B) : Ext w0 w' :=
  ⟨k.os.trans h.below.os, k.tape.trans h.below.tape, k.output.trans h.below.output, Nat.le_trans h.size k.size, fun i hi => (k.block i (Nat.lt_of_lt_of_le hi h.size) (fun e => by have := Option.some.inj e; omega)).trans (h.below.block i hi)⟩
theorem RowAt.only {w w' : World} {B B2 : Nat} {t : TypeId} {c : Array Value} (h : RowAt w B2 t c) (k : w.grownBy w' (some B)) (hne : B2 ≠ B) : RowAt w' B2 t c :=
  (k.block B2 h.lt (fun e => hne (Option.some.inj e))).trans h

/-- Block B is a cursor over the bytes 'bs', which were there in w0 before B was made; nothing of w0 has changed. -/
def CurAt (w0 w : World) (B : Nat) (bs : List Int) : Prop :=
  w0.heap.size ≤ B ∧ Ext w0 w ∧ ∃ (a : Option Addr) (cp : Nat) (i h : Int), RowAt w B 80 #[.slice a bs.length cp, .int .i64 i, .int .i64 h] ∧ 0 ≤ i ∧ i ≤ bs.length ∧ bs.length ≤ 1048576 ∧ BytesAt w0 a bs
theorem CurAt.only {w0 w w' : World} {B B2 : Nat} {bs : List Int} (h : CurAt w0 w B bs) (k : w.grownBy w' (some B2)) (hne : B ≠ B2) (hB : w0.heap.size ≤ B2) : CurAt w0 w' B bs :=
  let ⟨h1, h2, a, cp, i, hh, hr, h3⟩ := h; ⟨h1, h2.only k hB, a, cp, i, hh, hr.only k hne, h3⟩
theorem CurAt.ext {w0 w w' : World} {B : Nat} {bs : List Int} (h : CurAt w0 w B bs) (k : Ext w w') : CurAt w0 w' B bs :=
  let ⟨h1, h2, a, cp, i, hh, hr, h3⟩ := h; ⟨h1, h2.trans k, a, cp, i, hh, hr.ext k, h3⟩
theorem CurAt.own {w0 w w' : World} {B : Nat} {bs : List Int} {v : Value} (h : CurAt w0 w B bs) (hg : w.grownBy w' v.ownBlock) (hv : ∀ k, v.ownBlock = some k → B < k) : CurAt w0 w' B bs :=
  let ⟨h1, h2, a, cp, i, hh, hr, h3⟩ := h
  ⟨h1, ⟨hg.os.trans h2.below.os, hg.tape.trans h2.below.tape, hg.output.trans h2.below.output, Nat.le_trans h2.size hg.size, fun i hi => (hg.block i (Nat.lt_of_lt_of_le hi h2.size) (fun e => by have := hv i e.symm; omega)).trans (h2.below.block i hi)⟩,
    a, cp, i, hh, (hg.block B hr.lt (fun e => by have := hv B e.symm; omega)).trans hr, h3⟩
theorem CurAt.lt {w0 w : World} {B : Nat} {bs : List Int} (h : CurAt w0 w B bs) : B < w.heap.size := let ⟨_, _, _, _, _, _, hr, _⟩ := h; hr.lt

/-- A number from the cursor at B, of which P holds; nothing but the cursor has changed. -/
def Drawn (w0 w : World) (B : Nat) (bs : List Int) (P : Int → Prop) (e : Ending) (w' : World) : Prop :=
  ∃ z : Int, P z ∧ e = .returned (.int .i64 z) ∧ CurAt w0 w' B bs ∧ w.grownBy w' (some B)

set_option maxHeartbeats 1000000 in
theorem l01Byte_any (w0 w : World) (B : Nat) (bs : List Int) (hc : CurAt w0 w B bs) :
    Calls Try.prog 48 #[.pointer (some ⟨B, 0, none⟩)] w (Drawn w0 w B bs (fun z => 0 ≤ z ∧ z ≤ 255)) := by
  obtain ⟨hB, hx, a, cp, i, h, hrow, hi0, hi1, hlen, hby⟩ := hc
  have g0 : w.cell? ⟨B, 0, none⟩ = some (.slice a bs.length cp) := hrow.cell (j := 0) rfl
  have g1 : w.cell? ⟨B, 1, none⟩ = some (.int .i64 i) := hrow.cell (j := 1) rfl
  have g2 : w.cell? ⟨B, 2, none⟩ = some (.int .i64 h) := hrow.cell (j := 2) rfl
  have f1 := hrow.frozen 1
  have f2 := hrow.frozen 2
  generalize hn : bs.length = n at *
  have HN := Lib.hid hn; clear hn
  by_cases hlt : i < n
  · obtain ⟨i, rfl⟩ := Int.eq_ofNat_of_zero_le hi0
    obtain ⟨c0, c1, b, off, rfl, hcell⟩ := hby i (by rw [HN.out]; omega)
    generalize bs[i]'(by rw [HN.out]; omega) = y at c0 c1 hcell
    have HB := Lib.hid hby; clear hby
    go_enter Try.func48, Try.ntmps48
    go_wp2
    generalize wrap64 (wrap64 (h * 6364136223846793005) + 1442695040888963407) = h2
    have r1 := hrow.set 2 (.int .i64 h2)
    have o1 := only_setCell (only_refl w B) 2 (.int .i64 h2)
    generalize w.setCell ⟨B, 2, none⟩ (.int .i64 h2) = w1 at r1 o1 ⊢
    have x1 := hx.only o1 hB
    clear g0 g1 g2 f1 f2 hrow
    have g0 : w1.cell? ⟨B, 0, none⟩ = some (.slice _ n cp) := r1.cell (j := 0) rfl
    have g1 : w1.cell? ⟨B, 1, none⟩ = some (.int .i64 _) := r1.cell (j := 1) rfl
    have g2 : w1.cell? ⟨B, 2, none⟩ = some (.int .i64 h2) := r1.cell (j := 2) rfl
    have f1 := r1.frozen 1
    have e0 : w1.cell? ⟨b, off + i, none⟩ = some (.int .u8 y) := x1.cell hcell
    clear hcell
    go_quiet (fail)
    generalize hX : bits .and .i64 _ 255 = X
    have hX0 : 0 ≤ X ∧ X ≤ 255 := by rw [← hX]; exact and255 _
    clear hX
    go_wp2
    go_quiet (fail)
    go_wp2
    go_quiet (fail)
    generalize hY : bits .and .i64 _ 255 = Y
    have hY0 : 0 ≤ Y ∧ Y ≤ 255 := by rw [← hY]; exact and255 _
    clear hY
    go_wp2
    go_ret
    have o2 := fun N => only_setCell (only_drewN o1 N) 1 (.int .i64 ((i : Int) + 1))
    exact ⟨Y, hY0, rfl, ⟨hB, hx.only (o2 _) hB, _, cp, (i : Int) + 1, h2, by rw [HN.out]; exact r1.set 1 _, by omega, by rw [HN.out]; omega, by rw [HN.out]; omega, HB.out⟩, o2 _⟩
  · have hd : decide (i < (n : Int)) = false := by simpa using hlt
    have HB := Lib.hid hby; clear hby
    go_enter Try.func48, Try.ntmps48
    go_wp2
    generalize wrap64 (wrap64 (h * 6364136223846793005) + 1442695040888963407) = h2
    have r1 := hrow.set 2 (.int .i64 h2)
    have o1 := only_setCell (only_refl w B) 2 (.int .i64 h2)
    generalize w.setCell ⟨B, 2, none⟩ (.int .i64 h2) = w1 at r1 o1 ⊢
    have x1 := hx.only o1 hB
    clear g0 g1 g2 f1 f2 hrow
    have g0 : w1.cell? ⟨B, 0, none⟩ = some (.slice _ n cp) := r1.cell (j := 0) rfl
    have g1 : w1.cell? ⟨B, 1, none⟩ = some (.int .i64 _) := r1.cell (j := 1) rfl
    have g2 : w1.cell? ⟨B, 2, none⟩ = some (.int .i64 h2) := r1.cell (j := 2) rfl
    have f1 := r1.frozen 1
    go_quiet (fail)
    generalize hX : bits .and .i64 _ 255 = X
    have hX0 : 0 ≤ X ∧ X ≤ 255 := by rw [← hX]; exact and255 _
    clear hX
    go_wp2
    go_quiet (fail)
    go_wp2
    go_ret
    exact ⟨X, hX0, rfl, ⟨hB, x1.drewN _ |>.drewN _, _, cp, i, h2, by rw [HN.out]; exact r1, hi0, by rw [HN.out]; omega, by rw [HN.out]; omega, HB.out⟩, only_drewN (only_drewN o1 _) _⟩

set_option maxRecDepth 100000 in
set_option maxHeartbeats 1000000 in
theorem l01New_any (a : Option Addr) (n c : Nat) (bs : List Int) (w : World) (hn : n = bs.length) (hs : n ≤ 1048576) (hf : BytesAt w a bs) :
    Calls Try.prog 22 #[.slice a n c] w fun e w' => e = .returned (.pointer (some ⟨w.heap.size, 0, none⟩)) ∧ CurAt w w' w.heap.size bs := by
  have HF := Lib.hid hf; clear hf
  have HN := Lib.hid hn; clear hn
  go_enter Try.func22, Try.ntmps22
  go_wp2
  go_loop [3, 4] (fun hh i => ∃ (k : Nat) (z : Int), k ≤ n ∧ i = .int .i64 k ∧ hh = .int .i64 z) (fun _ i => n - (intOf i).toNat)
  case atStart => exact ⟨0, _, Nat.zero_le _, rfl, rfl⟩
  case round =>
    obtain ⟨k, z, hk, rfl, rfl⟩ := hrel
    have fin : ∀ z : Int, CurAt w (w.alloc (.cells #[.slice a n c, .int .i64 0, .int .i64 z] 80)) w.heap.size bs := fun z =>
      ⟨Nat.le_refl _, (Ext.refl w).alloc _, a, c, 0, z, by rw [← HN.out]; exact RowAt.new _ _ _, by omega, by omega, by rw [← HN.out]; omega, HF.out⟩
    by_cases hlt : k < n
    · by_cases h4 : k < 4000
      · obtain ⟨c0, c1, b, off, rfl, hcell⟩ := HF.out k (by rw [← HN.out]; exact hlt)
        generalize bs[k]'(by rw [← HN.out]; exact hlt) = y at c0 c1 hcell
        go_wp2
        go_round
        case rel => exact ⟨k + 1, _, by omega, by go_num, rfl⟩
        case measure => simp [intOf]; omega
      · have hd : decide ((k : Int) < 4000) = false := by simp; omega
        go_wp2
        go_ret
        exact ⟨rfl, fin z⟩
    · have hd : decide ((k : Int) < (n : Int)) = false := by simp; omega
      go_wp2
      go_ret
      exact ⟨rfl, fin z⟩

theorem Drawn.imp {w0 w : World} {B : Nat} {bs : List Int} {P Q : Int → Prop} {e : Ending} {w' : World} (h : Drawn w0 w B bs P e w') (hi : ∀ z, P z → Q z) : Drawn w0 w B bs Q e w' :=
  let ⟨z, hz, r⟩ := h; ⟨z, hi z hz, r⟩

set_option maxHeartbeats 1000000 in
theorem l01Below_any (w0 w : World) (B : Nat) (bs : List Int) (m : Int) (h0 : 0 < m) (h1 : m ≤ 1000000000000) (hc : CurAt w0 w B bs) :
    Calls Try.prog 24 #[.pointer (some ⟨B, 0, none⟩), .int .i64 m] w (Drawn w0 w B bs (fun z => 0 ≤ z ∧ z < m)) := by
  have HC := Lib.hid hc; clear hc
  by_cases hm : m ≤ 256
  · go_enter Try.func24, Try.ntmps24
    go_wp2_with fail
    refine (l01Byte_any w0 _ B bs HC.out).mono ?_
    rintro e w1 ⟨z, hz, rfl, hc1, ho1⟩
    go_wp2
    go_ret
    have h2 := Int.emod_nonneg z (show m ≠ 0 by omega)
    have h3 := Int.emod_lt_of_pos z h0
    exact ⟨z % m, ⟨h2, h3⟩, rfl, hc1, ho1⟩
  · go_enter Try.func24, Try.ntmps24
    go_wp2_with fail
    refine (l01Byte_any w0 _ B bs HC.out).mono ?_
    rintro e w1 ⟨x1, hx1, rfl, hc1, ho1⟩
    have HC1 := Lib.hid hc1; clear hc1
    go_wp2_with fail
    refine (l01Byte_any w0 _ B bs HC1.out).mono ?_
    rintro e w2 ⟨x2, hx2, rfl, hc2, ho2⟩
    have HC2 := Lib.hid hc2; clear hc2
    go_wp2_with fail
    refine (l01Byte_any w0 _ B bs HC2.out).mono ?_
    rintro e w3 ⟨x3, hx3, rfl, hc3, ho3⟩
    have HC3 := Lib.hid hc3; clear hc3
    go_wp2_with fail
    refine (l01Byte_any w0 _ B bs HC3.out).mono ?_
    rintro e w4 ⟨x4, hx4, rfl, hc4, ho4⟩
    have HC4 := Lib.hid hc4; clear hc4
    go_wp2
    go_ret
    have h2 := Int.emod_nonneg (x1 * 16777216 + x2 * 65536 + x3 * 256 + x4) (show m ≠ 0 by omega)
    have h3 := Int.emod_lt_of_pos (x1 * 16777216 + x2 * 65536 + x3 * 256 + x4) h0
    exact ⟨_, ⟨h2, h3⟩, rfl, HC4.out, only_trans (only_trans (only_trans ho1 ho2) ho3) ho4⟩
end Go.Proofs.Ytmppoflgbmabpaa
/- ReformTrain: what it computes; the program's side. -/
namespace Go.Proofs.Ytmppoflgbmabpaa
open Go.RowKit
set_option linter.unusedSimpArgs false
set_option linter.unusedVariables false

/-! ### The plain law -/
def addLast (rows : List (List Bt)) (b : Bt) : List (List Bt) := rows.set (rows.length - 1) ((rows.getD (rows.length - 1) []) ++ [b])
def refGo (W : Int) (acc : List (List Bt)) (used : Int) : List Bt → Option (List (List Bt))
  | [] => some acc
  | b :: bs => if W < b.wid then none
    else if 0 < acc.length ∧ used + b.wid ≤ W then refGo W (addLast acc b) (used + b.wid) bs
    else refGo W (acc ++ [[b]]) b.wid bs
def refRes (u : Bool) (rows : List (List Bt)) (W : Int) : Bool × List (List Bt) × Bool :=
  if trainOk rows = true then (match refGo W [] 0 rows.flatten with | some x => (u, x, true) | none => (false, [], false)) else (false, [], false)
theorem addLast_len (rows : List (List Bt)) (b : Bt) : (addLast rows b).length = rows.length := by simp [addLast]

/-! ### Memory: the last row grows -/
theorem ownsRow_setLast {w : World} {lo : Nat} {e : TypeId} {v : Value} {n : Nat} {vs : List Value} {g cap : Nat} (hv : v = .slice (some ⟨g, 0, none⟩) n cap) (h : w.ownsRow lo e 1 v n vs) (k : Nat) (hk : k < n) (x : Value) :
    (w.setCell ⟨g, k, none⟩ x).ownsRow lo e 1 v n (vs.set k x) := by
  refine ⟨by rw [List.length_set]; exact h.1, ?_⟩
  rcases h.2 with ⟨e', hn⟩ | ⟨g', cap', cur, e', hb, hh, hnc, hcm, hcs, ht⟩
  · rw [hv] at e'
    cases e'
  · rw [hv] at e'
    injection e' with ea en ec
    injection ea with ea
    injection ea with eg
    subst eg ec
    refine .inr ⟨g, cap, cur.setIfInBounds k x, hv, hb, (RowAt.set (show RowAt w g e cur from hh) k x), hnc, hcm, by simpa using hcs, ?_⟩
    rw [Array.toList_setIfInBounds, List.take_set, ht]
theorem GR.growLast {w w1 w2 : World} {lo hi : Nat} {v u u' : Value} {vs : List Value} {rows : List (List Bt)} {b : Bt} {k g cap : Nat} (h : GR w lo hi v vs rows) (hlen : rows.length = k + 1) (hv : v = .slice (some ⟨g, 0, none⟩) (k + 1) cap) (hu : vs[k]? = some u) (hx : Ext w w1) (hhi : hi ≤ w.heap.size)
    (hown : OwnRow w2 lo u' (rows.getD k [] ++ [b])) (hg : w1.grownBy w2 u.ownBlock) (hat : u'.ownBlock = u.ownBlock ∨ u'.ownBlock = some w1.heap.size) :
    GR (w2.setCell ⟨g, k, none⟩ u') lo (w2.setCell ⟨g, k, none⟩ u').heap.size v (vs.set k u') (addLast rows b) := by
  have hs1 := hx.size
  have hs2 := hg.size
  have hvb : v.ownBlock = some g := by rw [hv]; rfl
  have hghi := h.2.2.1 g hvb
  obtain ⟨u0, e0, ho0, hd0⟩ := h.2.2.2 k (by omega)
  rw [hu] at e0
  cases e0
  have hvu : ∀ g', u.ownBlock = some g' → g' ≠ g := fun g' hg' e => (hd0 g' hg').2.1 (by rw [hvb, e])
  have hrows : rows.length - 1 = k := by omega
  have hg3 := grownBy_set w2 ⟨g, k, none⟩ u'
  have hou : w2.ownsRow lo 73 1 v (k + 1) vs := by
    have := ownsRow_kept (ownsRow_ext h.2.1 hx) hg (fun g' hg' e => hvu g' e (by rw [hvb] at hg'; exact (Option.some.inj hg').symm))
    rw [hlen] at this
    exact this
  have hu'g : ∀ g', u'.ownBlock = some g' → g' ≠ g := fun g' hg' e => by
    rcases hat with hat | hat
    · exact hvu g' (by rw [← hat]; exact hg') e
    · rw [hat] at hg'
      have := Option.some.inj hg'
      omega
  refine ⟨by rw [List.length_set, addLast_len]; exact h.1, ?_, fun g' hg' => ?_, fun j hj => ?_⟩
  · rw [addLast_len, hlen]
    exact ownsRow_setLast hv hou k (by omega) u'
  · rw [size_setCell']
    have := h.2.2.1 g' hg'
    omega
  · rw [addLast_len] at hj
    rw [size_setCell']
    by_cases e : j = k
    · subst e
      refine ⟨u', ?_, ?_, fun g' hg' => ⟨?_, ?_, fun k' hk' u2 hu2 e => ?_⟩⟩
      · rw [List.getElem?_set_self (by rw [h.1]; exact hj)]
      · have e1 : (addLast rows b)[j]'(by rw [addLast_len]; exact hj) = rows.getD j [] ++ [b] := by simp [addLast, hrows]
        rw [e1]
        exact ownsRow_kept hown hg3 (fun g' hg' e => hu'g g' hg' (Option.some.inj e).symm)
      · exact (ownsRow_lt hown hg').2
      · intro e
        rw [hvb] at e
        exact hu'g g' hg' (Option.some.inj e).symm
      · rw [List.getElem?_set_ne (by omega)] at hu2
        rcases hat with hat | hat
        · exact (hd0 g' (by rw [← hat]; exact hg')).2.2 k' hk' u2 hu2 e
        · obtain ⟨u3, e3, _, hd3⟩ := h.2.2.2 k' (by omega)
          rw [hu2] at e3
          cases e3
          have := (hd3 g' e).1
          rw [hat] at hg'
          have := Option.some.inj hg'
          omega
    · obtain ⟨u2, e2, ho2, hd2⟩ := h.2.2.2 j hj
      have hju : ∀ g', u2.ownBlock = some g' → u.ownBlock ≠ some g' := fun g' hg' e => (hd0 g' e).2.2 j (by omega) u2 e2 hg'
      refine ⟨u2, by rw [List.getElem?_set_ne (by omega)]; exact e2, ?_, fun g' hg' => ⟨by have := (hd2 g' hg').1; omega, (hd2 g' hg').2.1, fun k' hk' u3 hu3 e => ?_⟩⟩
      · have e1 : (addLast rows b)[j]'(by rw [addLast_len]; exact hj) = rows[j] := by
          simp only [addLast, hrows]
          rw [List.getElem_set_ne (by omega)]
        rw [e1]
        exact ownsRow_kept (ownsRow_kept (ownsRow_ext ho2 hx) hg (fun g' hg' e => hju g' hg' e)) hg3 (fun g' hg' e => (hd2 g' hg').2.1 (by rw [hvb]; exact e))
      · rw [List.getElem?_set_ne (by omega)] at hu3
        exact (hd2 g' hg').2.2 k' hk' u3 hu3 e
theorem OwnRow.sing (w : World) (b : Bt) : OwnRow (w.alloc (.cells #[.int .i64 b.id, .int .i64 b.len, .int .i64 b.wid, .int .i64 b.dra, .int .i64 b.spd, .int .i64 b.cls] 76)) w.heap.size (.slice (some ⟨w.heap.size, 0, none⟩) 1 1) [b] :=
  ⟨rfl, .inr ⟨w.heap.size, 1, _, rfl, Nat.le_refl _, heap_alloc_new w _, Nat.le_refl _, by decide, rfl, rfl⟩⟩
theorem flat_one (w : World) (bi bl bw bd bs bc : Int) : FlatAt (w.alloc (.cells #[.int .i64 bi, .int .i64 bl, .int .i64 bw, .int .i64 bd, .int .i64 bs, .int .i64 bc] 76)) bCells 6 (some ⟨w.heap.size, 0, none⟩) [⟨bi, bl, bw, bd, bs, bc⟩] := by
  intro k hk
  have hk0 : k = 0 := by simpa using hk
  subst hk0
  refine ⟨w.heap.size, 0, rfl, fun j v hv => ?_⟩
  rw [Nat.zero_mul, Nat.add_zero, Nat.zero_add]
  exact (RowAt.new w 76 _).cell (by simpa [bCells] using hv)

end Go.Proofs.Ytmppoflgbmabpaa
/- Draws of boats and of trains. -/
namespace Go.Proofs.Ytmppoflgbmabpaa
open Go.RowKit
set_option linter.unusedSimpArgs false
set_option linter.unusedVariables false

set_option maxHeartbeats 1000000 in
theorem l01Once_any (w0 w : World) (B : Nat) (bs : List Int) (m : Int) (h0 : 0 < m) (h1 : m ≤ 1000000000000) (hc : CurAt w0 w B bs) :
    Calls Try.prog 49 #[.pointer (some ⟨B, 0, none⟩), .int .i64 m] w fun e w' => ∃ b : Bool, e = .returned (.bool b) ∧ CurAt w0 w' B bs ∧ w.grownBy w' (some B) := by
  have HC := Lib.hid hc; clear hc
  go_enter Try.func49, Try.ntmps49
  go_wp2_with fail
  refine (l01Below_any w0 _ B bs m h0 h1 HC.out).mono ?_
  rintro e w1 ⟨z, hz, rfl, hc1, ho1⟩
  have HC1 := Lib.hid hc1; clear hc1
  have HO1 := Lib.hid ho1; clear ho1
  go_wp2
  go_ret
  exact ⟨_, rfl, HC1.out, HO1.out⟩

set_option maxHeartbeats 1000000 in
theorem l01PickInt_any (w0 w : World) (B : Nat) (bs : List Int) (a : Option Addr) (n c : Nat) (xs : List Int) (hn : n = xs.length) (hp : 0 < n) (hs : n ≤ 1000) (hf : IntsAt w a xs) (hB : ∀ ad, a = some ad → ad.block ≠ B) (hc : CurAt w0 w B bs) :
    Calls Try.prog 46 #[.pointer (some ⟨B, 0, none⟩), .slice a n c] w fun e w' => ∃ x ∈ xs, e = .returned (.int .i64 x) ∧ CurAt w0 w' B bs ∧ w.grownBy w' (some B) := by
  have HC := Lib.hid hc; clear hc
  have HF := Lib.hid hf; clear hf
  have HN := Lib.hid hn; clear hn
  have HBB := Lib.hid hB; clear hB
  go_enter Try.func46, Try.ntmps46
  go_wp2_with fail
  refine (l01Below_any w0 _ B bs n (by omega) (by omega) HC.out).mono ?_
  rintro e w1 ⟨z, ⟨hz0, hz1⟩, rfl, hc1, ho1⟩
  obtain ⟨j, rfl⟩ := Int.eq_ofNat_of_zero_le hz0
  have hj : j < n := by omega
  have hj' : j < xs.length := by rw [← HN.out]; exact hj
  obtain ⟨b, off, rfl, hcell⟩ := HF.out j hj'
  have hcell1 : w1.cell? ⟨b, off + j, none⟩ = some (.int .i64 xs[j]) := (World.cell?_of_block (ho1.block b (World.block_lt_of_cell? w _ hcell) (fun e => HBB.out _ rfl (Option.some.inj e)))).trans hcell
  obtain ⟨x, hx⟩ : ∃ x, xs[j] = x := ⟨_, rfl⟩
  have HX := Lib.hid (show x ∈ xs by rw [← hx]; exact List.getElem_mem _)
  rw [hx] at hcell1
  clear hx hcell
  have HC1 := Lib.hid hc1; clear hc1
  have HO1 := Lib.hid ho1; clear ho1
  go_wp2
  go_ret
  exact ⟨x, HX.out, rfl, HC1.out, HO1.out⟩

/-- A boat that has been drawn. -/
def BtOk (id : Int) (b : Bt) : Prop := b.id = id ∧ (1 ≤ b.len ∧ b.len ≤ 200) ∧ (1 ≤ b.wid ∧ b.wid ≤ 9) ∧ (1 ≤ b.dra ∧ b.dra ≤ 30) ∧ (1 ≤ b.spd ∧ b.spd ≤ 12) ∧ (0 ≤ b.cls ∧ b.cls ≤ 2)
theorem ints_new (w : World) (x0 x1 x2 x3 : Int) : IntsAt (w.alloc (.cells #[.int .i64 x0, .int .i64 x1, .int .i64 x2, .int .i64 x3] 3)) (some ⟨w.heap.size, 0, none⟩) [x0, x1, x2, x3] := by
  intro k hk
  refine ⟨w.heap.size, 0, rfl, ?_⟩
  rw [Nat.zero_add]
  have h := RowAt.new w 3 #[.int .i64 x0, .int .i64 x1, .int .i64 x2, .int .i64 x3]
  match k, hk with
  | 0, _ => exact h.cell rfl
  | 1, _ => exact h.cell rfl
  | 2, _ => exact h.cell rfl
  | 3, _ => exact h.cell rfl

set_option maxRecDepth 100000 in
set_option maxHeartbeats 2000000 in
theorem l04Boat_any (w0 w : World) (B : Nat) (bs : List Int) (id : Int) (hc : CurAt w0 w B bs) :
    Calls Try.prog 50 #[.pointer (some ⟨B, 0, none⟩), .int .i64 id] w fun e w' => ∃ bt : Bt, BtOk id bt ∧ e = .returned (.agg #[.int .i64 bt.id, .int .i64 bt.len, .int .i64 bt.wid, .int .i64 bt.dra, .int .i64 bt.spd, .int .i64 bt.cls]) ∧ CurAt w0 w' B bs ∧ w.grownBy w' (some B) := by
  have zB := hc.lt
  have HC := Lib.hid hc; clear hc
  have RZ := RowAt.new w 76 #[.int .i64 0, .int .i64 0, .int .i64 0, .int .i64 0, .int .i64 0, .int .i64 0]
  have E2 := ((Ext.refl w).alloc (.cells #[.int .i64 0, .int .i64 0, .int .i64 0, .int .i64 0, .int .i64 0, .int .i64 0] 76)).alloc (.cells #[.int .i64 5, .int .i64 12, .int .i64 30, .int .i64 80] 3)
  have HIN := Lib.hid (ints_new (w.alloc (.cells #[.int .i64 0, .int .i64 0, .int .i64 0, .int .i64 0, .int .i64 0, .int .i64 0] 76)) 5 12 30 80)
  rw [World.size_alloc] at HIN
  go_enter Try.func50, Try.ntmps50
  go_wp2_with fail
  refine (l01PickInt_any w0 _ B bs _ 4 _ [5, 12, 30, 80] rfl (by decide) (by decide) HIN.out (fun ad e => by cases e; dsimp only; omega) (HC.out.ext E2)).mono ?_
  rintro e w1 ⟨x, hx, rfl, hc1, ho1⟩
  have HXL := Lib.hid (show 1 ≤ x ∧ x ≤ 200 by simp at hx; omega)
  clear hx
  have HR1 := Lib.hid ((RZ.ext ((Ext.refl _).alloc (.cells #[.int .i64 5, .int .i64 12, .int .i64 30, .int .i64 80] 3))).only ho1 (by omega))
  have HO1 := Lib.hid (show w.grownBy w1 (some B) from ⟨ho1.os, ho1.tape, ho1.output, Nat.le_trans E2.size ho1.size, fun k hk hne => (ho1.block k (Nat.lt_of_lt_of_le hk E2.size) hne).trans (E2.below.block k hk)⟩)
  have HC1 := Lib.hid hc1
  clear hc1 ho1 RZ E2
  go_wp2_with fail
  refine (l01Below_any w0 _ B bs 9 (by decide) (by decide) HC1.out).mono ?_
  rintro e w2 ⟨y2, hy2, rfl, hc2, ho2⟩
  have HC2 := Lib.hid hc2
  have HR2 := Lib.hid (HR1.out.only ho2 (by omega))
  have HO2 := Lib.hid (only_trans HO1.out ho2)
  clear hc2 ho2
  go_wp2_with fail
  refine (l01Below_any w0 _ B bs 30 (by decide) (by decide) HC2.out).mono ?_
  rintro e w3 ⟨y3, hy3, rfl, hc3, ho3⟩
  have HC3 := Lib.hid hc3
  have HR3 := Lib.hid (HR2.out.only ho3 (by omega))
  have HO3 := Lib.hid (only_trans HO2.out ho3)
  clear hc3 ho3
  go_wp2_with fail
  refine (l01Below_any w0 _ B bs 12 (by decide) (by decide) HC3.out).mono ?_
  rintro e w4 ⟨y4, hy4, rfl, hc4, ho4⟩
  have HC4 := Lib.hid hc4
  have HR4 := Lib.hid (HR3.out.only ho4 (by omega))
  have HO4 := Lib.hid (only_trans HO3.out ho4)
  clear hc4 ho4
  go_wp2_with fail
  refine (l01Below_any w0 _ B bs 3 (by decide) (by decide) HC4.out).mono ?_
  rintro e w5 ⟨y5, hy5, rfl, hc5, ho5⟩
  have HC5 := Lib.hid hc5
  have HR5 := Lib.hid (HR4.out.only ho5 (by omega))
  have HO5 := Lib.hid (only_trans HO4.out ho5)
  clear hc5 ho5
  have q0 : w5.cell? ⟨w.heap.size, 0, none⟩ = some (.int .i64 0) := HR5.out.cell rfl
  have q1 : w5.cell? ⟨w.heap.size, 1, none⟩ = some (.int .i64 0) := HR5.out.cell rfl
  have q2 : w5.cell? ⟨w.heap.size, 2, none⟩ = some (.int .i64 0) := HR5.out.cell rfl
  have q3 : w5.cell? ⟨w.heap.size, 3, none⟩ = some (.int .i64 0) := HR5.out.cell rfl
  have q4 : w5.cell? ⟨w.heap.size, 4, none⟩ = some (.int .i64 0) := HR5.out.cell rfl
  have q5 : w5.cell? ⟨w.heap.size, 5, none⟩ = some (.int .i64 0) := HR5.out.cell rfl
  have f0 := HR5.out.frozen 0
  have f1 := HR5.out.frozen 1
  have f2 := HR5.out.frozen 2
  have f3 := HR5.out.frozen 3
  have f4 := HR5.out.frozen 4
  have f5 := HR5.out.frozen 5
  have zz := HR5.out.lt
  go_wp2
  refine bodyPost_ret (v := .agg #[.int .i64 id, .int .i64 x, .int .i64 (1 + y2), .int .i64 (1 + y3), .int .i64 (1 + y4), .int .i64 y5]) (by simp [results, Try.results50, go_sem, *]) rfl ⟨⟨id, x, 1 + y2, 1 + y3, 1 + y4, y5⟩, ⟨rfl, HXL.out, by dsimp only; omega, by dsimp only; omega, by dsimp only; omega, by dsimp only; omega⟩, rfl, ?_, ?_⟩
  · have hB0 := HC.out.1
    exact ((((((HC5.out.only (grownBy_set _ ⟨w.heap.size, 0, none⟩ _) (by dsimp only; omega) (by dsimp only; omega)).only (grownBy_set _ ⟨w.heap.size, 1, none⟩ _) (by dsimp only; omega) (by dsimp only; omega)).only (grownBy_set _ ⟨w.heap.size, 2, none⟩ _) (by dsimp only; omega) (by dsimp only; omega)).only (grownBy_set _ ⟨w.heap.size, 3, none⟩ _) (by dsimp only; omega) (by dsimp only; omega)).only (grownBy_set _ ⟨w.heap.size, 4, none⟩ _) (by dsimp only; omega) (by dsimp only; omega)).only (grownBy_set _ ⟨w.heap.size, 5, none⟩ _) (by dsimp only; omega) (by dsimp only; omega))
  · have st : ∀ (a : World) (j : Nat) (x : Value), w.grownBy a (some B) → w.grownBy (a.setCell ⟨w.heap.size, j, none⟩ x) (some B) := fun a j x h => grown_step h (Ext.refl _) (grownBy_set a ⟨w.heap.size, j, none⟩ x) (fun k hk => by cases hk; exact .inr (Nat.le_refl _))
    exact st _ _ _ (st _ _ _ (st _ _ _ (st _ _ _ (st _ _ _ (st _ _ _ HO5.out)))))
end Go.Proofs.Ytmppoflgbmabpaa
