/- What LeaveLock answers; lists of trains laid behind one another. -/
import Derived.Test.YtknpdhafafomaaaProg
import Derived.Test.YtknpdhafafomaaaPut
import Derived.Test.YtknpdhafafomaaaShut
import Derived.Test.YtknpdhafafomaaaEnter
import Derived.Test.YtknpdhafafomaaaFits
namespace Go.Proofs.Ytknpdhafafomaaa
open Go.RowKit
set_option linter.unusedSimpArgs false
set_option linter.unusedVariables false

theorem ownsRow_form {w : World} {base n sz : Nat} {t : TypeId} {v : Value} {xs : List Value} (h : w.ownsRow base t sz v n xs) : ∃ a c, v = .slice a n c := by
  rcases h.2 with ⟨e, h0⟩ | ⟨g, cap, cur, e, _⟩
  · exact ⟨none, 0, by rw [e, h0]⟩
  · exact ⟨_, _, e⟩
theorem GT.cellsL {w : World} {lo hi n c : Nat} {a : Option Addr} {es : List (Bool × Value)} {ts : List Tn} (h : GT w lo hi (.slice a n c) es ts) : (a = none → c = 0 ∧ n = 0) ∧ ∀ ad, a = some ad → ∀ (j : Nat) u, (es.flatMap eC)[j]? = some u → w.cell? (ad.add j) = some u := by
  rcases h.2.1.2 with ⟨e, hn⟩ | ⟨g, cap, cur, e, hb, hheap, hnc, hcm, hcs, htake⟩
  · injection e with e1 e2 e3
    subst e1 e2 e3
    exact ⟨fun _ => ⟨rfl, rfl⟩, fun ad e => by cases e⟩
  · injection e with e1 e2 e3
    subst e1
    refine ⟨(fun e => by cases e), fun ad e j u hu => ?_⟩
    cases e
    rw [add_plain rfl, Nat.zero_add]
    rw [← htake, List.getElem?_take] at hu
    split at hu
    · exact (show RowAt w g 33 cur from hheap).cell (by simpa using hu)
    · cases hu
theorem GT.onesL {w : World} {lo hi : Nat} {v : Value} {es : List (Bool × Value)} {ts : List Tn} (h : GT w lo hi v es ts) : ∀ e ∈ es, e.2.oneCell' = true := fun e he => by
  obtain ⟨h1, _, _, p, q, h4⟩ := h
  obtain ⟨k, hk, rfl⟩ := List.getElem_of_mem he
  obtain ⟨⟨a', c, e1, _⟩, _⟩ := h4 k (by rw [← h1]; exact hk)
  rw [List.getElem?_eq_getElem hk] at e1
  rw [Option.some.inj e1]
  rfl
theorem GT.capL {w : World} {lo hi n c : Nat} {a : Option Addr} {es : List (Bool × Value)} {ts : List Tn} (h : GT w lo hi (.slice a n c) es ts) : n ≤ c ∧ c ≤ 9223372036854775807 := by
  rcases h.2.1.2 with ⟨e, hn⟩ | ⟨g, cap, cur, e, hb, hheap, hnc, hcm, hcs, htake⟩
  · injection e with e1 e2 e3
    omega
  · injection e with e1 e2 e3
    unfold maxLen at hcm
    omega
/-- Two lists of trains, the second's blocks behind the first's, laid into one. -/
theorem GT.concat {w1 w2 : World} {lo hi P Q : Nat} {v v' v2 : Value} {es es2 : List (Bool × Value)} {ts ts2 : List Tn} (h : GT w1 lo hi v es ts) (hP : hi ≤ P) (hlo : lo ≤ P) (hQ : Q ≤ w1.heap.size) (hu : GT w1 P Q v2 es2 ts2)
    (hown : w2.ownsRow lo 33 2 v' (ts.length + ts2.length) ((es ++ es2).flatMap eC)) (hg : w1.grownBy w2 v.ownBlock) (hat : v'.ownBlock = v.ownBlock ∨ v'.ownBlock = some w1.heap.size) (hh1 : hi ≤ w1.heap.size) :
    GT w2 lo w2.heap.size v' (es ++ es2) (ts ++ ts2) := by
  have hs2 := hg.size
  obtain ⟨h1, h2, h3, p, q, h4⟩ := h
  obtain ⟨k1, k2, k3, p2, q2, k4⟩ := hu
  refine ⟨by simp [h1, k1], by simpa using hown, (fun g hv => (ownsRow_lt hown hv).2), (fun k => if k < ts.length then p k else p2 (k - ts.length)), (fun k => if k < ts.length then q k else q2 (k - ts.length)), fun k hk => ?_⟩
  by_cases e : k < ts.length
  · obtain ⟨⟨b', c', e1, e2, e3⟩, e4, e5, e6, e7⟩ := h4 k e
    simp only [e, if_true]
    rw [List.getElem_append_left e]
    refine ⟨⟨b', c', by rw [List.getElem?_append_left (by rw [h1]; exact e)]; exact e1, e2, ?_⟩, e4, by omega, fun g hgv => ?_, fun k' hk' => ?_⟩
    · exact e3.grown hg (fun B hB => e6 B hB)
    · rcases hat with hat | hat
      · rw [hat] at hgv; exact e6 g hgv
      · rw [hat] at hgv
        have := Option.some.inj hgv
        omega
    · rw [if_pos (by omega)]
      exact e7 k' hk'
  · have hk2 : k - ts.length < ts2.length := by rw [List.length_append] at hk; omega
    obtain ⟨⟨b', c', e1, e2, e3⟩, e4, e5, e6, e7⟩ := k4 (k - ts.length) hk2
    simp only [e, if_false]
    rw [List.getElem_append_right (by omega)]
    refine ⟨⟨b', c', by rw [List.getElem?_append_right (by rw [h1]; omega), h1]; exact e1, e2, ?_⟩, by omega, by omega, fun g hgv => ?_, fun k' hk' => ?_⟩
    · exact e3.grown hg (fun B hB => by have := h3 B hB; omega)
    · rcases hat with hat | hat
      · rw [hat] at hgv
        have := h3 g hgv
        omega
      · rw [hat] at hgv
        have := Option.some.inj hgv
        omega
    · by_cases e' : k' < ts.length
      · rw [if_pos e']
        have := (h4 k' e').2.2.1
        omega
      · rw [if_neg e']
        exact e7 _ (by omega)
/-- The same trains without the k-th, laid into a slice of their own. -/
theorem GT.without {w : World} {lo hi hi' k : Nat} {v v' : Value} {es : List (Bool × Value)} {ts : List Tn} (h : GT w lo hi v es ts) (hk : k < ts.length) (ho : w.ownsRow lo 33 2 v' (k + (ts.length - (k + 1))) ((es.take k ++ es.drop (k + 1)).flatMap eC)) (hb : ∀ g, v'.ownBlock = some g → hi ≤ g ∧ g < hi') (hh : hi ≤ hi') :
    GT w lo hi' v' (es.take k ++ es.drop (k + 1)) (ts.take k ++ ts.drop (k + 1)) := by
  obtain ⟨h1, h2, h3, p, q, h4⟩ := h
  have hl : (ts.take k ++ ts.drop (k + 1)).length = k + (ts.length - (k + 1)) := by rw [List.length_append, List.length_take, List.length_drop]; omega
  refine ⟨by simp [h1], by rw [hl]; exact ho, (fun g hg => (hb g hg).2), (fun j => if j < k then p j else p (j + 1)), (fun j => if j < k then q j else q (j + 1)), fun j hj => ?_⟩
  rw [hl] at hj
  by_cases e : j < k
  · obtain ⟨⟨b', c', e1, e2, e3⟩, e4, e5, e6, e7⟩ := h4 j (by omega)
    simp only [e, if_true]
    have hg1 : (ts.take k ++ ts.drop (k + 1))[j]'(by rw [hl]; exact hj) = ts[j]'(by omega) := by rw [List.getElem_append_left (by rw [List.length_take]; omega), List.getElem_take]
    rw [hg1]
    refine ⟨⟨b', c', by rw [List.getElem?_append_left (by rw [List.length_take]; omega), List.getElem?_take_of_lt e]; exact e1, e2, e3⟩, e4, by omega, fun g hgv => by have := (hb g hgv).1; omega, fun k' hk' => ?_⟩
    rw [if_pos (by omega)]
    exact e7 k' hk'
  · obtain ⟨⟨b', c', e1, e2, e3⟩, e4, e5, e6, e7⟩ := h4 (j + 1) (by omega)
    simp only [e, if_false]
    have hkl : (ts.take k).length = k := by rw [List.length_take]; omega
    have hg1 : (ts.take k ++ ts.drop (k + 1))[j]'(by rw [hl]; exact hj) = ts[j + 1]'(by omega) := by
      rw [List.getElem_append_right (by omega), List.getElem_drop]
      congr 1
      omega
    rw [hg1]
    have hke : (es.take k).length = k := by rw [List.length_take]; omega
    refine ⟨⟨b', c', by rw [List.getElem?_append_right (by omega), List.getElem?_drop, hke, (by omega : k + 1 + (j - k) = j + 1)]; exact e1, e2, e3⟩, e4, by omega, fun g hgv => by have := (hb g hgv).1; omega, fun k' hk' => ?_⟩
    by_cases e' : k' < k
    · rw [if_pos e']; exact e7 k' (by omega)
    · rw [if_neg e']; exact e7 (k' + 1) (by omega)
theorem OwnTrains.nth {w : World} {lo hi k : Nat} {a : Option Addr} {ts : List Tn} (h : OwnTrains w lo hi a ts) (hk : k < ts.length) : ∃ b off a2 c2 P Q, a = some ⟨b, off, none⟩ ∧ w.cell? ⟨b, off + k * 2, none⟩ = some (.bool ts[k].1) ∧ w.cell? ⟨b, off + k * 2 + 1, none⟩ = some (.slice a2 ts[k].2.length c2) ∧ OwnRows w P Q a2 ts[k].2 ∧ lo ≤ P ∧ Q ≤ hi := by
  rcases h with h | ⟨ob, oo, oc, p, q, e, h1, h2, h3, h4⟩
  · subst h; exact absurd hk (Nat.not_lt_zero _)
  · obtain ⟨⟨a', c, q1, q2, q3, q4⟩, q5, q6, q7, q8⟩ := h4 k hk
    exact ⟨ob, oo, a', c, p k, q k, e, h3.cell q1, h3.cell q2, q4, q5, q6⟩
theorem cells_take {w : World} {ad : Addr} {es : List (Bool × Value)} (h : ∀ (j : Nat) u, (es.flatMap eC)[j]? = some u → w.cell? (ad.add j) = some u) (k : Nat) : ∀ (j : Nat) u, ((es.take k).flatMap eC)[j]? = some u → w.cell? (ad.add j) = some u := fun j u hu => by
  refine h j u ?_
  rw [← List.take_append_drop k es, List.flatMap_append, List.getElem?_append_left (List.getElem?_eq_some_iff.1 hu).1]
  exact hu
theorem cells_drop {w : World} {b off : Nat} {es : List (Bool × Value)} (h : ∀ (j : Nat) u, (es.flatMap eC)[j]? = some u → w.cell? ((⟨b, off, none⟩ : Addr).add j) = some u) (k : Nat) (hk : k ≤ es.length) : ∀ (j : Nat) u, ((es.drop k).flatMap eC)[j]? = some u → w.cell? ((⟨b, off + k * 2, none⟩ : Addr).add j) = some u := fun j u hu => by
  have hl : ((es.take k).flatMap eC).length = k * 2 := by rw [eC_flat_len, List.length_take]; omega
  have := h (k * 2 + j) u (by
    rw [← List.take_append_drop k es, List.flatMap_append, List.getElem?_append_right (by omega), hl, Nat.add_sub_cancel_left]
    exact hu)
  rw [add_plain rfl] at this ⊢
  rw [Nat.add_assoc]
  exact this
theorem TrainsAt.takeL {w : World} {a : Option Addr} {ts : List Tn} (h : TrainsAt w a ts) (j : Nat) : TrainsAt w a (ts.take j) := fun k hk => by
  have hk' : k < ts.length := by rw [List.length_take] at hk; omega
  obtain ⟨b, off, a', c, e, h0, h1, h2, h3⟩ := h k hk'
  refine ⟨b, off, a', c, e, ?_⟩
  simp only [List.getElem_take]
  exact ⟨h0, h1, h2, h3⟩
theorem TrainsAt.dropL {w : World} {b off : Nat} {ts : List Tn} (h : TrainsAt w (some ⟨b, off, none⟩) ts) (j : Nat) : TrainsAt w (some ⟨b, off + j * 2, none⟩) (ts.drop j) := fun k hk => by
  have hk' : j + k < ts.length := by rw [List.length_drop] at hk; omega
  obtain ⟨b', off', a', c, e, h0, h1, h2, h3⟩ := h (j + k) hk'
  cases e
  refine ⟨b, off + j * 2, a', c, rfl, ?_⟩
  simp only [List.getElem_drop]
  exact ⟨by rw [Nat.add_assoc, ← Nat.add_mul]; exact h0, by rw [Nat.add_assoc off, ← Nat.add_mul]; exact h1, h2, h3⟩
theorem TrainsAt.none {w : World} {a : Option Addr} : TrainsAt w a [] := fun k hk => absurd hk (Nat.not_lt_zero _)

/-- May this train leave by the open gate? -/
noncomputable def goesOut (x8 s lev : Int) (t : Tn) : Bool := (t.1 == decide (x8 = 1)) && decide (draughtOf t.2 ≤ lev - s)
noncomputable def leaveGo (x8 s lev : Int) (k : Nat) : List Tn → Option Nat
  | [] => none
  | t :: ts => if goesOut x8 s lev t then some k else leaveGo x8 s lev (k + 1) ts
def leaveOut (R : Option Nat) (ts : List Tn) : List Tn × Tn × Bool :=
  match R with
  | some k => (ts.take k ++ ts.drop (k + 1), ts.getD k (false, []), true)
  | none => (ts, (false, []), false)
/-- What LeaveLock answers: the trains that stay, the one that leaves, whether one leaves. -/
noncomputable def leaveRes (x0 x1 x2 x3 x4 x5 x6 x7 x8 : Int) (ts : List Tn) (ps : List Pt) (vol : Int) (xs : List Int) : List Tn × Tn × Bool :=
  if lockOk x0 x1 x2 x3 x4 x5 x6 x7 x8 ts && (reachOk ps vol xs && !decide (x8 = 0)) then
    leaveOut (leaveGo x8 (if x8 = 1 then x2 else x3) (levelOf ps vol xs) 0 ts) ts
  else (ts, (false, []), false)
theorem leaveGo_cons {x8 s lev : Int} {k : Nat} {t : Tn} {ts : List Tn} : leaveGo x8 s lev k (t :: ts) = if goesOut x8 s lev t then some k else leaveGo x8 s lev (k + 1) ts := rfl
theorem lockOk_gate {x0 x1 x2 x3 x4 x5 x6 x7 x8 : Int} {ts : List Tn} (h : lockOk x0 x1 x2 x3 x4 x5 x6 x7 x8 ts = true) : ((0 ≤ x2 ∧ x2 ≤ 100000) ∧ (0 ≤ x3 ∧ x3 ≤ 100000)) ∧ (0 ≤ x8 ∧ x8 ≤ 2) ∧ ts.length ≤ 8 := by
  obtain ⟨h1, h2, h3⟩ := lockOk_sills h
  refine ⟨⟨h1, h2⟩, h3, ?_⟩
  unfold lockOk at h
  simp only [Bool.and_eq_true] at h
  exact (distinct_parts h.2).1
end Go.Proofs.Ytknpdhafafomaaa
