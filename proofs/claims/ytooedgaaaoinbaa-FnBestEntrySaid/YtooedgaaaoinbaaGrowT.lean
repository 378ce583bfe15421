/- Lists of trains that grow, each train in blocks of its own. -/
import Derived.Test.YtooedgaaaoinbaaProg
import Derived.Test.YtooedgaaaoinbaaGrow
import Derived.Test.YtooedgaaaoinbaaTrains
import Derived.Test.YtooedgaaaoinbaaCouple
namespace Go.Proofs.Ytooedgaaaoinbaa
open Go.RowKit
set_option linter.unusedSimpArgs false
set_option linter.unusedVariables false

def eC (e : Bool × Value) : List Value := [.bool e.1, e.2]
theorem eC_len (e : Bool × Value) : (eC e).length = 2 := rfl
/-- The trains lie in the outer slice v, their entries being es, all in blocks of the call's own from lo to hi, each train in a window of its own. -/
def GT (w : World) (lo hi : Nat) (v : Value) (es : List (Bool × Value)) (ts : List Tn) : Prop :=
  es.length = ts.length ∧ w.ownsRow lo 36 2 v ts.length (es.flatMap eC) ∧ (∀ g, v.ownBlock = some g → g < hi) ∧
    ∃ p q : Nat → Nat, ∀ k (h : k < ts.length), (∃ a' c, es[k]? = some (ts[k].1, .slice a' ts[k].2.length c) ∧ ts[k].2.length ≤ maxLen ∧ OwnRows w (p k) (q k) a' ts[k].2) ∧ lo ≤ p k ∧ q k ≤ hi ∧ (∀ g, v.ownBlock = some g → g < p k ∨ q k ≤ g) ∧ ∀ k' < k, q k' ≤ p k
theorem GT.nil (w : World) (lo hi : Nat) : GT w lo hi (.slice none 0 0) [] [] := ⟨rfl, World.ownsRow_nil _ _ _ _, (fun g h => by cases h), fun _ => 0, fun _ => 0, (fun k h => absurd h (Nat.not_lt_zero _))⟩
theorem GT.lit (w : World) {hi : Nat} (h : w.heap.size < hi) : GT (w.alloc (.cells #[] 36)) w.heap.size hi (.slice (some ⟨w.heap.size, 0, none⟩) 0 0) [] [] :=
  ⟨rfl, by
    have := World.ownsRow_lit (base := w.heap.size) (e := 36) (size := 2) w #[] 0 (by simp) (by unfold maxLen; omega) rfl
    simpa using this, (fun g e => by cases e; exact h), fun _ => 0, fun _ => 0, (fun k h => absurd h (Nat.not_lt_zero _))⟩
theorem GT.keep {w w' : World} {lo hi : Nat} {v : Value} {es : List (Bool × Value)} {ts : List Tn} (h : GT w lo hi v es ts) (ho : w'.ownsRow lo 36 2 v ts.length (es.flatMap eC))
    (hk : ∀ B t c, lo ≤ B → B < hi → RowAt w B t c → RowAt w' B t c) : GT w' lo hi v es ts := by
  obtain ⟨h1, _, h3, p, q, h4⟩ := h
  refine ⟨h1, ho, h3, p, q, fun k hk' => ?_⟩
  obtain ⟨⟨a', c, q1, q2, q3⟩, q4, q5, q6, q7⟩ := h4 k hk'
  exact ⟨⟨a', c, q1, q2, q3.keep (Nat.le_refl _) (Nat.le_refl _) (fun B t c g1 g2 hr => hk B t c (by omega) (by omega) hr)⟩, q4, q5, q6, q7⟩
theorem GT.ext {w w' : World} {lo hi : Nat} {v : Value} {es : List (Bool × Value)} {ts : List Tn} (h : GT w lo hi v es ts) (hx : Ext w w') : GT w' lo hi v es ts :=
  h.keep (ownsRow_ext h.2.1 hx) (fun B t c _ _ hr => hr.ext hx)
theorem RowAt.kept {w w' : World} {B : Nat} {t : TypeId} {c : Array Value} {r : Option Nat} (h : RowAt w B t c) (hg : w.grownBy w' r) (hr : r ≠ some B) : RowAt w' B t c :=
  (hg.block B h.lt (fun e => hr e.symm)).trans h
theorem OwnRows.grown {w w' : World} {lo hi : Nat} {a : Option Addr} {rows : List (List Bt)} {r : Option Nat} (h : OwnRows w lo hi a rows) (hg : w.grownBy w' r) (hr : ∀ B, r = some B → B < lo ∨ hi ≤ B) : OwnRows w' lo hi a rows :=
  h.keep (Nat.le_refl _) (Nat.le_refl _) (fun B t c h1 h2 hR => hR.kept hg (fun e => by have := hr B e; omega))
theorem GT.grown {w w' : World} {lo hi : Nat} {v : Value} {es : List (Bool × Value)} {ts : List Tn} {r : Option Nat} (h : GT w lo hi v es ts) (hg : w.grownBy w' r) (hr : ∀ B, r = some B → B < lo ∨ hi ≤ B) : GT w' lo hi v es ts :=
  h.keep (ownsRow_kept h.2.1 hg (fun g hgv e => by have := hr g e; have := h.2.2.1 g hgv; have := (ownsRow_lt h.2.1 hgv).1; omega)) (fun B t c h1 h2 hR => hR.kept hg (fun e => by have := hr B e; omega))
theorem GT.wide {w : World} {lo hi lo' hi' : Nat} {v : Value} {es : List (Bool × Value)} {ts : List Tn} (h : GT w lo hi v es ts) (hl : lo' ≤ lo) (hh : hi ≤ hi') : GT w lo' hi' v es ts := by
  obtain ⟨h1, h2, h3, p, q, h4⟩ := h
  refine ⟨h1, ownsRow_low h2 hl, (fun g hg => by have := h3 g hg; omega), p, q, fun k hk' => ?_⟩
  obtain ⟨q1, q4, q5, q6, q7⟩ := h4 k hk'
  exact ⟨q1, by omega, by omega, q6, q7⟩
theorem GT.set {w : World} {lo hi : Nat} {v : Value} {es : List (Bool × Value)} {ts : List Tn} (h : GT w lo hi v es ts) {p : Addr} (hp : p.block < lo ∨ hi ≤ p.block) (x : Value) : GT (w.setCell p x) lo hi v es ts :=
  h.grown (grownBy_set w p x) (fun B e => by cases e; exact hp)
/-- One more train: its rows lie in [P, Q), which is all behind what was there. -/
theorem GT.push {w1 w2 : World} {lo hi P Q : Nat} {v v' : Value} {es : List (Bool × Value)} {ts : List Tn} {u : Bool} {rows : List (List Bt)} {a' : Option Addr} {c : Nat} (h : GT w1 lo hi v es ts) (hP : hi ≤ P) (hlo : lo ≤ P) (hQ : Q ≤ w1.heap.size) (hu : OwnRows w1 P Q a' rows) (hm : rows.length ≤ maxLen)
    (hown : w2.ownsRow lo 36 2 v' (ts.length + 1) ((es ++ [(u, Value.slice a' rows.length c)]).flatMap eC)) (hg : w1.grownBy w2 v.ownBlock) (hat : v'.ownBlock = v.ownBlock ∨ v'.ownBlock = some w1.heap.size) (hh1 : hi ≤ w1.heap.size) :
    GT w2 lo w2.heap.size v' (es ++ [(u, Value.slice a' rows.length c)]) (ts ++ [(u, rows)]) := by
  have hs2 := hg.size
  obtain ⟨h1, h2, h3, p, q, h4⟩ := h
  have hvlo : ∀ g, v.ownBlock = some g → lo ≤ g := fun g hgv => (ownsRow_lt h2 hgv).1
  refine ⟨by simp [h1], by simpa using hown, (fun g hv => (ownsRow_lt hown hv).2), (fun k => if k < ts.length then p k else P), (fun k => if k < ts.length then q k else Q), fun k hk => ?_⟩
  by_cases e : k < ts.length
  · obtain ⟨⟨b', c', e1, e2, e3⟩, e4, e5, e6, e7⟩ := h4 k e
    simp only [e, if_true]
    rw [List.getElem_append_left e]
    refine ⟨⟨b', c', by rw [List.getElem?_append_left (by rw [h1]; exact e)]; exact e1, e2, ?_⟩, e4, by omega, fun g hgv => ?_, fun k' hk' => ?_⟩
    · exact e3.grown hg (fun B hB => e6 B hB)
    · rcases hat with hat | hat
      · rw [hat] at hgv; exact e6 g hgv
      · rw [hat] at hgv
        have := Option.some.inj hgv
        omega
    · rw [if_pos (by omega)]
      exact e7 k' hk'
  · have ek : k = ts.length := by simp at hk; omega
    subst ek
    simp only [Nat.lt_irrefl, if_false, List.getElem_concat_length]
    refine ⟨⟨a', c, by rw [← h1]; simp, hm, ?_⟩, hlo, by omega, fun g hgv => ?_, fun k' hk' => ?_⟩
    · exact hu.grown hg (fun B hB => by have := h3 B hB; omega)
    · rcases hat with hat | hat
      · rw [hat] at hgv
        have := h3 g hgv
        omega
      · rw [hat] at hgv
        have := Option.some.inj hgv
        omega
    · rw [if_pos hk']
      have := (h4 k' hk').2.2.1
      omega
theorem eC_get (es : List (Bool × Value)) (k : Nat) (hk : k < es.length) : (es.flatMap eC)[k * 2]? = some (.bool es[k].1) ∧ (es.flatMap eC)[k * 2 + 1]? = some es[k].2 := by
  have e0 := flatMap_get eC_len es k 0 hk (by decide)
  have e1 := flatMap_get eC_len es k 1 hk (by decide)
  exact ⟨e0, e1⟩
theorem GT.own {w : World} {lo hi : Nat} {v : Value} {es : List (Bool × Value)} {ts : List Tn} (h : GT w lo hi v es ts) : ∃ a c, v = .slice a ts.length c ∧ (ts.length ≤ maxLen ∧ (a = none → c = 0)) ∧ OwnTrains w lo hi a ts := by
  obtain ⟨h1, h2, h3, p, q, h4⟩ := h
  rcases h2.2 with ⟨rfl, hn⟩ | ⟨g, cap, cur, rfl, hb, hheap, hnc, hcm, hcs, htake⟩
  · have : ts = [] := List.eq_nil_of_length_eq_zero hn
    subst this
    exact ⟨none, 0, rfl, ⟨Nat.zero_le _, fun _ => rfl⟩, .inl rfl⟩
  · refine ⟨some ⟨g, 0, none⟩, cap, rfl, ⟨by omega, fun h => by cases h⟩, .inr ⟨g, 0, cur, p, q, rfl, hb, h3 g rfl, hheap, fun k hk => ?_⟩⟩
    obtain ⟨⟨a', c, e1, e2, e3⟩, e4, e5, e6, e7⟩ := h4 k hk
    have hke : k < es.length := by rw [h1]; exact hk
    obtain ⟨f0, f1⟩ := eC_get es k hke
    rw [List.getElem?_eq_getElem hke] at e1
    have e1' := Option.some.inj e1
    rw [e1'] at f0 f1
    rw [← htake, List.getElem?_take] at f0 f1
    refine ⟨⟨a', c, ?_, ?_, e2, e3⟩, e4, e5, e6 g rfl, e7⟩
    · rw [Nat.zero_add]
      split at f0
      · simpa using f0
      · cases f0
    · rw [Nat.zero_add]
      split at f1
      · simpa using f1
      · cases f1
theorem GT.trains {w : World} {lo hi : Nat} {v : Value} {es : List (Bool × Value)} {ts : List Tn} (h : GT w lo hi v es ts) : ∃ a c, v = .slice a ts.length c ∧ TrainsAt w a ts :=
  let ⟨a, c, e, _, ho⟩ := h.own; ⟨a, c, e, ho.trains⟩
theorem eC_flat_len : ∀ (es : List (Bool × Value)), (es.flatMap eC).length = es.length * 2
  | [] => rfl
  | e :: es => by rw [List.flatMap_cons, List.length_append, eC_flat_len es, eC_len, List.length_cons]; omega
theorem eC_one (es : List (Bool × Value)) (h : ∀ e ∈ es, e.2.oneCell' = true) : ∀ u ∈ es.flatMap eC, u.oneCell' = true := fun u hu => by
  obtain ⟨e, he, hue⟩ := List.mem_flatMap.1 hu
  simp [eC] at hue
  rcases hue with rfl | rfl
  · rfl
  · exact h e he
/-- append of trains to the outer slice, at the operation. -/
theorem wp_append_trains {w : World} {o : Oper} {a : Act} {K : Act → World → Prop} {Q : Exit → Act → World → Prop} (s x : Operand)
    (ho : o.op = .call { callee := .builtin .append, args := #[s, x], argTypes := #[31, 31] })
    (base : Nat) (v : Value) (n : Nat) (es : List (Bool × Value)) (hs : a.eval s = v) (hown : w.ownsRow base 36 2 v n (es.flatMap eC))
    (a' : Option Addr) (m c : Nat) (hx : a.eval x = .slice a' m c) (news : List (Bool × Value)) (hm : news.length = m) (hc : a' = none → c = 0 ∧ m = 0) (hnews : ∀ ad, a' = some ad → ∀ (j : Nat) u, (news.flatMap eC)[j]? = some u → w.cell? (ad.add j) = some u) (hone : ∀ e ∈ news, e.2.oneCell' = true)
    (hle : n + m ≤ 1048576) (hbase : base ≤ w.heap.size)
    (h : ∀ v' w', w'.ownsRow base 36 2 v' (n + m) ((es ++ news).flatMap eC) → w.grownBy w' v.ownBlock → (v'.ownBlock = v.ownBlock ∨ v'.ownBlock = some w.heap.size) → K (a.put o.dst v') w') : o.wp Try.prog a w K Q := by
  refine wp_append_any w s x _ 36 ho base _ 2 32 Try.underlying31 info_train rfl (by decide) v n _ hs hown a' m c hx (news.flatMap eC) hc (by rw [eC_flat_len, hm]) hnews (eC_one news hone) (by unfold maxLen; omega) (by omega) hbase ?_
  intro v' w' h1 h2 h3
  exact h v' w' (by rw [List.flatMap_append]; exact h1) h2 h3
end Go.Proofs.Ytooedgaaaoinbaa
