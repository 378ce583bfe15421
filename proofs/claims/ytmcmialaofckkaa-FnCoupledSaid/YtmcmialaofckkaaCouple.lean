/- CoupleTrains, on both sides. -/
import Derived.Test.YtmcmialaofckkaaProg
import Derived.Test.YtmcmialaofckkaaDivideS
namespace Go.Proofs.Ytmcmialaofckkaa
open Go.RowKit
set_option linter.unusedSimpArgs false
set_option linter.unusedVariables false

/-- Rows behind rows. -/
theorem GR.concat {w w' : World} {lo1 hi1 lo2 hi2 n1 n2 : Nat} {v1 v2 v' : Value} {vs1 vs2 : List Value} {r1 r2 : List (List Bt)} (h1 : GR w lo1 hi1 v1 vs1 r1) (h2 : GR w lo2 hi2 v2 vs2 r2) (hl : lo1 ≤ lo2) (hh : hi1 ≤ lo2) (hw : hi2 ≤ w.heap.size) (hw1 : hi1 ≤ w.heap.size)
    (e1 : n1 = r1.length) (e2 : n2 = r2.length) (hown : w'.ownsRow lo1 33 1 v' (n1 + n2) (vs1 ++ vs2)) (hg : w.grownBy w' v1.ownBlock) (hat : v'.ownBlock = v1.ownBlock ∨ v'.ownBlock = some w.heap.size) : GR w' lo1 w'.heap.size v' (vs1 ++ vs2) (r1 ++ r2) := by
  subst e1 e2
  have hs := hg.size
  refine ⟨by simp [h1.1, h2.1], by rw [List.length_append]; exact hown, fun g hv => (ownsRow_lt hown hv).2, fun k hk => ?_⟩
  rw [List.length_append] at hk
  by_cases e : k < r1.length
  · obtain ⟨u, eu, hu, hd⟩ := h1.2.2.2 k e
    refine ⟨u, by rw [List.getElem?_append_left (by rw [h1.1]; exact e)]; exact eu, ?_, fun g hgu => ?_⟩
    · rw [List.getElem_append_left e]
      exact ownsRow_kept hu hg (fun g hgu e => (hd g hgu).2.1 e)
    · have q1 := (hd g hgu).1
      refine ⟨by omega, fun e => ?_, fun k' hk' u' hu' e => ?_⟩
      · rcases hat with hat | hat
        · rw [hat] at e
          exact (hd g hgu).2.1 e
        · rw [hat] at e
          have := Option.some.inj e
          omega
      · rw [List.getElem?_append_left (by rw [h1.1]; omega)] at hu'
        exact (hd g hgu).2.2 k' hk' u' hu' e
  · obtain ⟨u, eu, hu, hd⟩ := h2.2.2.2 (k - r1.length) (by omega)
    have hk2 : vs1.length ≤ k := by rw [h1.1]; omega
    refine ⟨u, by rw [List.getElem?_append_right hk2, h1.1]; exact eu, ?_, fun g hgu => ?_⟩
    · rw [List.getElem_append_right (by omega)]
      exact ownsRow_kept (ownsRow_low hu hl) hg (fun g hgu e => by have := (ownsRow_lt hu hgu).1; have := h1.2.2.1 g e; omega)
    · have q1 := (hd g hgu).1
      have q2 := (ownsRow_lt hu hgu).1
      refine ⟨by omega, fun e => ?_, fun k' hk' u' hu' e => ?_⟩
      · rcases hat with hat | hat
        · rw [hat] at e
          have := h1.2.2.1 g e
          omega
        · rw [hat] at e
          have := Option.some.inj e
          omega
      · by_cases e2 : k' < r1.length
        · rw [List.getElem?_append_left (by rw [h1.1]; exact e2)] at hu'
          obtain ⟨u2, f2, _, hd2⟩ := h1.2.2.2 k' e2
          rw [hu'] at f2
          cases f2
          have := (hd2 g e).1
          omega
        · rw [List.getElem?_append_right (by rw [h1.1]; omega), h1.1] at hu'
          exact (hd g hgu).2.2 (k' - r1.length) (by omega) u' hu' e
theorem ownsRow_type {w : World} {base : Nat} {e : TypeId} {size : Nat} {v : Value} {n : Nat} {xs : List Value} (h : w.ownsRow base e size v n xs) {g : Nat} (hg : v.ownBlock = some g) : ∃ cur, RowAt w g e cur := by
  rcases h.2 with ⟨rfl, _⟩ | ⟨g', cap, cur, rfl, _, hh, _⟩
  · cases hg
  · cases hg
    exact ⟨cur, hh⟩
/-- A block of another type has changed. -/
theorem GR.grownT {w w' : World} {lo hi : Nat} {v : Value} {vs : List Value} {rows : List (List Bt)} {B : Nat} {t : TypeId} {c : Array Value} (h : GR w lo hi v vs rows) (hg : w.grownBy w' (some B)) (hr : RowAt w B t c) (h1 : t ≠ 33) (h2 : t ≠ 32) : GR w' lo hi v vs rows := by
  have key : ∀ (e : TypeId) (size : Nat) (u : Value) (n : Nat) (xs : List Value), w.ownsRow lo e size u n xs → t ≠ e → w'.ownsRow lo e size u n xs := fun e size u n xs ho hne => ownsRow_kept ho hg (fun g hgu e' => by
    obtain ⟨cur, hc⟩ := ownsRow_type ho hgu
    cases e'
    unfold RowAt at hr hc
    rw [hr] at hc
    cases hc
    exact hne rfl)
  exact ⟨h.1, key _ _ _ _ _ h.2.1 h1, h.2.2.1, fun k hk => let ⟨u, e, ho, hd⟩ := h.2.2.2 k hk; ⟨u, e, key _ _ _ _ _ ho h2, hd⟩⟩
theorem grownBy_set (w : World) (p : Addr) (x : Value) : w.grownBy (w.setCell p x) (some p.block) :=
  ⟨rfl, rfl, rfl, by rw [size_setCell']; exact Nat.le_refl _, fun k hk hne => Below.heap_setCell w p x k (fun e => hne (by rw [e]))⟩
theorem GR.setT {w : World} {lo hi : Nat} {v : Value} {vs : List Value} {rows : List (List Bt)} {B : Nat} {t : TypeId} {c : Array Value} (h : GR w lo hi v vs rows) (hr : RowAt w B t c) (h1 : t ≠ 33) (h2 : t ≠ 32) (j : Nat) (x : Value) : GR (w.setCell ⟨B, j, none⟩ x) lo hi v vs rows :=
  h.grownT (B := B) (grownBy_set w ⟨B, j, none⟩ x) hr h1 h2
/-- The slices of the rows, as they lie. -/
theorem GR.cellsAt {w : World} {lo hi n : Nat} {a : Option Addr} {c : Nat} {vs : List Value} {rows : List (List Bt)} (h : GR w lo hi (.slice a n c) vs rows) :
    ∀ (j : Nat) u, vs[j]? = some u → ∃ b off, a = some ⟨b, off, none⟩ ∧ w.cell? ⟨b, off + j, none⟩ = some u := by
  intro j u hu
  have hj : j < vs.length := (List.getElem?_eq_some_iff.1 hu).1
  rcases h.2.1.2 with ⟨e, hn⟩ | ⟨g, cap, cur, e, hb, hheap, hnc, hcm, hcs, htake⟩
  · rw [h.1] at hj
    omega
  · injection e with ea _ _
    refine ⟨g, 0, ea, ?_⟩
    have hrow : RowAt w g 33 cur := hheap
    rw [Nat.zero_add]
    refine hrow.cell ?_
    have e1 : vs[j]? = (cur.toList.take (rows.length * 1))[j]? := by rw [htake]
    rw [hu, List.getElem?_take] at e1
    split at e1
    · simpa using e1.symm
    · cases e1
theorem GR.ones {w : World} {lo hi : Nat} {v : Value} {vs : List Value} {rows : List (List Bt)} (h : GR w lo hi v vs rows) : ∀ u ∈ vs, u.oneCell' = true := by
  intro u hu
  obtain ⟨j, hj, rfl⟩ := List.getElem_of_mem hu
  obtain ⟨u', e, ho, _⟩ := h.2.2.2 j (by rw [← h.1]; exact hj)
  rw [List.getElem?_eq_getElem hj] at e
  cases e
  exact ho.one
theorem GR.noneAt {w : World} {lo hi n : Nat} {a : Option Addr} {c : Nat} {vs : List Value} {rows : List (List Bt)} (h : GR w lo hi (.slice a n c) vs rows) : a = none → c = 0 := by
  intro e
  rcases h.2.1.2 with ⟨e', _⟩ | ⟨g, cap, cur, e', _⟩
  · injection e'
  · injection e' with e' _ _
    rw [e] at e'
    cases e'
theorem GR.lenAt {w : World} {lo hi n : Nat} {a : Option Addr} {c : Nat} {vs : List Value} {rows : List (List Bt)} (h : GR w lo hi (.slice a n c) vs rows) : n = rows.length := by
  obtain ⟨a', c', e, _⟩ := h.own
  injection e
/-- A block of another type has changed. -/
theorem OwnRows.setT {w : World} {lo hi : Nat} {a : Option Addr} {rows : List (List Bt)} {B : Nat} {t : TypeId} {c : Array Value} (h : OwnRows w lo hi a rows) (hr : RowAt w B t c) (h1 : t ≠ 33) (h2 : t ≠ 32) (j : Nat) (x : Value) : OwnRows (w.setCell ⟨B, j, none⟩ x) lo hi a rows := by
  have key : ∀ (e : TypeId) (g : Nat) (cc : Array Value), RowAt w g e cc → t ≠ e → RowAt (w.setCell ⟨B, j, none⟩ x) g e cc := fun e g cc hg hne => hg.other (p := ⟨B, j, none⟩) (fun e' => by
    have e'' : B = g := e'
    subst e''
    unfold RowAt at hr hg
    rw [hr] at hg
    cases hg
    exact hne rfl) x
  rcases h with h | ⟨ob, oo, oc, blk, e, q1, q2, q3, q4⟩
  · exact .inl h
  · refine .inr ⟨ob, oo, oc, blk, e, q1, q2, key _ _ _ q3 h1, fun k hk => ?_⟩
    obtain ⟨⟨v, g1, a', c', ev, hm, hz⟩, g3⟩ := q4 k hk
    refine ⟨⟨v, g1, a', c', ev, hm, hz.imp id fun ⟨off, cur, f1, f2, f3, f4, f5⟩ => ⟨off, cur, f1, f2, f3, key _ _ _ f4 h2, f5⟩⟩, g3⟩
/-- What CoupleTrains answers. -/
def couRes (ua ub : Bool) (ra rb : List (List Bt)) : Bool × List (List Bt) × Bool :=
  if trainOk ra = true ∧ trainOk rb = true ∧ ua = ub ∧ trainOk (ra ++ rb) = true then (ua, ra ++ rb, true) else (false, [], false)
/-- A train that has been laid in blocks of its own, and a bool. -/
def One (w w' : World) (u1 R : Bool) (r1 : List (List Bt)) (n1 : Nat) (e : Ending) : Prop :=
  ∃ a1 c1, e = .returned (.tuple #[.agg #[.bool u1, .slice a1 n1 c1], .bool R]) ∧ OwnRows w' w.heap.size w'.heap.size a1 r1 ∧ Ext w w'
theorem One.zero {w w' : World} {n1 : Nat} (h1 : n1 = 0) (hx : Ext w w') : One w w' false false [] n1 (.returned (.tuple #[.agg #[.bool false, .slice none 0 0], .bool false])) := by
  subst h1
  exact ⟨none, 0, rfl, .inl rfl, hx⟩
/-- 'One', and the capacity is no less than the length. -/
def OneC (w w' : World) (u1 R : Bool) (r1 : List (List Bt)) (n1 : Nat) (e : Ending) : Prop :=
  ∃ a1 c1, e = .returned (.tuple #[.agg #[.bool u1, .slice a1 n1 c1], .bool R]) ∧ OwnRows w' w.heap.size w'.heap.size a1 r1 ∧ Ext w w' ∧ (n1 ≤ c1 ∧ c1 ≤ 9223372036854775807)
theorem OneC.zero {w w' : World} {n1 : Nat} (h1 : n1 = 0) (hx : Ext w w') : OneC w w' false false [] n1 (.returned (.tuple #[.agg #[.bool false, .slice none 0 0], .bool false])) := by
  subst h1
  exact ⟨none, 0, rfl, .inl rfl, hx, by omega⟩
theorem OneC.one {w w' : World} {u1 R : Bool} {r1 : List (List Bt)} {n1 : Nat} {e : Ending} (h : OneC w w' u1 R r1 n1 e) : One w w' u1 R r1 n1 e :=
  let ⟨a1, c1, he, ho, hx, _⟩ := h; ⟨a1, c1, he, ho, hx⟩
theorem GR.cap {w : World} {lo hi n c : Nat} {a : Option Addr} {vs : List Value} {rows : List (List Bt)} (h : GR w lo hi (.slice a n c) vs rows) (hn : n = rows.length) : n ≤ c ∧ c ≤ 9223372036854775807 := by
  rcases h.2.1.2 with ⟨e, h0⟩ | ⟨g, cap, cur, e, hb, hh, hnc, hcm, hcs, ht⟩
  · injection e with e1 e2 e3
    omega
  · injection e with e1 e2 e3
    unfold maxLen at *
    omega
theorem world_as {Q : Exit → Act → World → Prop} {e : Exit} {a : Act} {w : World} (h : ∀ w', w' = w → Q e a w') : Q e a w := h _ rfl

set_option maxRecDepth 100000 in
set_option maxHeartbeats 8000000 in
theorem implCoupleC_any (u1 R : Bool) (r1 : List (List Bt)) (n1 : Nat) (ua ub : Bool) (aa ab : Option Addr) (na ca nb cb : Nat) (ra rb : List (List Bt)) (w : World) (hna : na = ra.length) (hsa : na ≤ 1048576) (hra : ∀ r ∈ ra, r.length ≤ 1048576) (hta : ra.flatten.length ≤ 1048576) (hfa : RowsAt w aa ra)
    (hnb : nb = rb.length) (hsb : nb ≤ 1048576) (hrb : ∀ r ∈ rb, r.length ≤ 1048576) (htb : rb.flatten.length ≤ 1048576) (hfb : RowsAt w ab rb) (hR : couRes ua ub ra rb = (u1, r1, R)) (hn1 : n1 = r1.length) :
    Calls Try.prog 36 #[.agg #[.bool ua, .slice aa na ca], .agg #[.bool ub, .slice ab nb cb]] w fun e w' => OneC w w' u1 R r1 n1 e := by
  have HFA := Lib.hid hfa; clear hfa
  have HFB := Lib.hid hfb; clear hfb
  have HSA := Lib.hid hsa; clear hsa
  have HSB := Lib.hid hsb; clear hsb
  have HTA := Lib.hid hta; clear hta
  have HTB := Lib.hid htb; clear htb
  have HRA := Lib.hid hra; clear hra
  have HRB := Lib.hid hrb; clear hrb
  have HNA := Lib.hid hna; clear hna
  have HNB := Lib.hid hnb; clear hnb
  obtain ⟨p, hp⟩ : ∃ p, trainOk ra = p := ⟨_, rfl⟩
  obtain ⟨q, hq⟩ : ∃ q, trainOk rb = q := ⟨_, rfl⟩
  have OKA := Lib.hid hp
  have OKB := Lib.hid hq
  by_cases hgood : p = true ∧ q = true ∧ ua = ub
  · obtain ⟨rfl, rfl, rfl⟩ := hgood
    have la := trainOk_true hp
    have lb := trainOk_true hq
    have na6 : na ≤ 6 := by rw [HNA.out]; exact la.2.2.2.2.1
    have na1 : 0 < na := by rw [HNA.out]; exact List.length_pos_iff.2 la.1
    have nb6 : nb ≤ 6 := by rw [HNB.out]; exact lb.2.2.2.2.1
    have nb1 : 0 < nb := by rw [HNB.out]; exact List.length_pos_iff.2 lb.1
    have HFL := Lib.hid (show (ra ++ rb).flatten.length ≤ 1048576 by rw [List.flatten_append, List.length_append]; have := la.2.2.2.1; have := lb.2.2.2.1; omega)
    have HNN := Lib.hid (show na + nb = (ra ++ rb).length by rw [List.length_append, HNA.out, HNB.out])
    obtain ⟨t, htt⟩ : ∃ t, trainOk (ra ++ rb) = t := ⟨_, rfl⟩
    have OKT := Lib.hid htt
    have HCR := Lib.hid (show couRes ua ua ra rb = if t = true then (ua, ra ++ rb, true) else (false, [], false) by unfold couRes; simp [hp, hq, htt])
    rw [HCR.out] at hR
    have HR := Lib.hid hR
    have HN1 := Lib.hid hn1
    clear la lb hp hq htt hR hn1
    have T0 := ((RowAt.new w 26 #[.bool ua, .slice aa na ca]).ext (((Ext.refl _).alloc (.cells #[.bool ua, .slice ab nb cb] 26)).alloc (.cells #[.bool false, .slice none 0 0] 26)))
    have T1 := (RowAt.new (w.alloc (.cells #[.bool ua, .slice aa na ca] 26)) 26 #[.bool ua, .slice ab nb cb]).ext ((Ext.refl _).alloc (.cells #[.bool false, .slice none 0 0] 26))
    have T2 := RowAt.new ((w.alloc (.cells #[.bool ua, .slice aa na ca] 26)).alloc (.cells #[.bool ua, .slice ab nb cb] 26)) 26 #[.bool false, .slice none 0 0]
    rw [World.size_alloc] at T1
    rw [World.size_alloc, World.size_alloc] at T2
    go_enter Try.func36, Try.ntmps36
    go_wp2_with fail
    (with_reducible refine (OKA.out ▸ implTrainOk_any _ _ _ _ ra _ HNA.out HSA.out HTA.out (HFA.out.ext (by (repeat' (first | (with_reducible exact Ext.refl _) | (with_reducible assumption) | (with_reducible refine Ext.alloc ?_ _) | (with_reducible refine Ext.drewN ?_ _) | (with_reducible refine Ext.drew ?_) | (with_reducible refine Ext.setCell ?_ ?_ _) | (with_reducible exact Nat.le_refl _) | (with_reducible exact Nat.le_succ _) | (with_reducible refine Ext.trans ?_ (by assumption)) | (simp; done) | (simp; omega)))))).mono ?_); rintro e w1 ⟨rfl, hb1⟩
    have x0_1 := hb1
    obtain ⟨hc0_1, hf0_1⟩ := bcell x0_1.below
    have z0_1_0 : w.heap.size < w1.heap.size := by have h := x0_1.size; simp at h; omega
    have z0_1_1 : w.heap.size + 1 < w1.heap.size := by have h := x0_1.size; simp at h; omega
    have z0_1_2 : w.heap.size + 1 + 1 < w1.heap.size := by have h := x0_1.size; simp at h; omega
    go_wp2_with fail
    (with_reducible refine (OKB.out ▸ implTrainOk_any _ _ _ _ rb _ HNB.out HSB.out HTB.out (HFB.out.ext (Ext.trans ((((Ext.refl w).alloc _).alloc _).alloc _) x0_1))).mono ?_); rintro e w2 ⟨rfl, hb2⟩
    have x1_2 := hb2
    have x0_2 : Ext _ w2 := x0_1.trans (Ext.trans (b := _) (by (repeat' (first | (with_reducible exact Ext.refl _) | (with_reducible assumption) | (with_reducible refine Ext.alloc ?_ _) | (with_reducible refine Ext.drewN ?_ _) | (with_reducible refine Ext.drew ?_) | (with_reducible refine Ext.setCell ?_ ?_ _) | (with_reducible exact Nat.le_refl _) | (with_reducible exact Nat.le_succ _) | (with_reducible refine Ext.trans ?_ (by assumption)) | (simp; done) | (simp; omega)))) hb2)
    obtain ⟨hc0_2, hf0_2⟩ := bcell x0_2.below
    have z0_2_0 : w.heap.size < w2.heap.size := by have h := x0_2.size; simp at h; omega
    have z0_2_1 : w.heap.size + 1 < w2.heap.size := by have h := x0_2.size; simp at h; omega
    have z0_2_2 : w.heap.size + 1 + 1 < w2.heap.size := by have h := x0_2.size; simp at h; omega
    have T0' := T0.ext x0_2
    have T1' := T1.ext x0_2
    have T2' := T2.ext x0_2
    have hw2 : Ext w w2 := Ext.trans ((((Ext.refl w).alloc _).alloc _).alloc _) x0_2
    have t0 : w2.cell? ⟨w.heap.size, 0, none⟩ = some (.bool ua) := T0'.cell rfl
    have t1 : w2.cell? ⟨w.heap.size, 1, none⟩ = some (.slice aa na ca) := T0'.cell rfl
    have t2 : w2.cell? ⟨w.heap.size + 1, 1, none⟩ = some (.slice ab nb cb) := T1'.cell rfl
    have t3 : w2.cell? ⟨w.heap.size + 1, 0, none⟩ = some (.bool ua) := T1'.cell rfl
    have z2 := T2'.lt
    have HT2 := Lib.hid T2'
    clear T0 T1 T2 T0' T1' T2'
    go_wp2_with fail
    have hE2 := Ext.refl w2
    refine wp_region_held_drew (S := (fun w' => Ext w2 w' ∧ w'.cell? ⟨w.heap.size, 0, none⟩ = some (.bool ua) ∧ w'.cell? ⟨w.heap.size, 1, none⟩ = some (.slice aa na ca) ∧ w'.cell? ⟨w.heap.size + 1, 1, none⟩ = some (.slice ab nb cb))) (by kernel_rfl) ?_ (fun hH0 => ?_)
    · (try dsimp only)
      (refine ⟨?_, ?_, ?_, ?_⟩; (focus ((repeat' (first | (with_reducible exact Ext.refl _) | (with_reducible assumption) | (with_reducible refine Ext.alloc ?_ _) | (with_reducible refine Ext.drewN ?_ _) | (with_reducible refine Ext.drew ?_) | (with_reducible refine Ext.setCell ?_ ?_ _) | (with_reducible exact Nat.le_refl _) | (with_reducible exact Nat.le_succ _) | (with_reducible refine Ext.trans ?_ (by assumption)) | (simp; done) | (simp; omega))); done)); (focus (first | (with_reducible assumption) | (exact Ext.cell (w := w2) (by (repeat' (first | (with_reducible exact Ext.refl _) | (with_reducible assumption) | (with_reducible refine Ext.alloc ?_ _) | (with_reducible refine Ext.drewN ?_ _) | (with_reducible refine Ext.drew ?_) | (with_reducible refine Ext.setCell ?_ ?_ _) | (with_reducible exact Nat.le_refl _) | (with_reducible exact Nat.le_succ _) | (with_reducible refine Ext.trans ?_ (by assumption)) | (simp; done) | (simp; omega)))) t0))); (focus (first | (with_reducible assumption) | (exact Ext.cell (w := w2) (by (repeat' (first | (with_reducible exact Ext.refl _) | (with_reducible assumption) | (with_reducible refine Ext.alloc ?_ _) | (with_reducible refine Ext.drewN ?_ _) | (with_reducible refine Ext.drew ?_) | (with_reducible refine Ext.setCell ?_ ?_ _) | (with_reducible exact Nat.le_refl _) | (with_reducible exact Nat.le_succ _) | (with_reducible refine Ext.trans ?_ (by assumption)) | (simp; done) | (simp; omega)))) t1))); (focus (first | (with_reducible assumption) | (exact Ext.cell (w := w2) (by (repeat' (first | (with_reducible exact Ext.refl _) | (with_reducible assumption) | (with_reducible refine Ext.alloc ?_ _) | (with_reducible refine Ext.drewN ?_ _) | (with_reducible refine Ext.drew ?_) | (with_reducible refine Ext.setCell ?_ ?_ _) | (with_reducible exact Nat.le_refl _) | (with_reducible exact Nat.le_succ _) | (with_reducible refine Ext.trans ?_ (by assumption)) | (simp; done) | (simp; omega)))) t2))))
    refine take_l 0 (v := ?_) rfl (by kernel_rfl) (by kernel_rfl) (by kernel_rfl) (fun _ _ _ h => h) (by rfl) ?_ (by assumption) ?_
    rotate_left
    · (intro w hSw; (try dsimp only at hSw); go_simp; (try with_reducible rfl))
    (try simp only [Act.put, List.setIfInBounds_toArray, List.set_cons_zero, List.set_cons_succ])
    refine take_l 1 (v := ?_) rfl (by kernel_rfl) (by kernel_rfl) (by kernel_rfl) (fun _ _ _ h => h) (by rfl) ?_ (by assumption) ?_
    rotate_left
    · (intro w hSw; (try dsimp only at hSw); go_simp; (try with_reducible rfl))
    (try simp only [Act.put, List.setIfInBounds_toArray, List.set_cons_zero, List.set_cons_succ])
    refine take_l 2 (v := ?_) rfl (by kernel_rfl) (by kernel_rfl) (by kernel_rfl) (fun _ _ _ h => h) (by rfl) ?_ (by assumption) ?_
    rotate_left
    · (intro w hSw; (try dsimp only at hSw); go_simp; (try with_reducible rfl))
    (try simp only [Act.put, List.setIfInBounds_toArray, List.set_cons_zero, List.set_cons_succ])
    refine take_l 3 (v := ?_) rfl (by kernel_rfl) (by kernel_rfl) (by kernel_rfl) (fun _ _ _ h => h) (by rfl) ?_ (by assumption) ?_
    rotate_left
    · (intro w hSw; (try dsimp only at hSw); go_simp; (try with_reducible rfl))
    (try simp only [Act.put, List.setIfInBounds_toArray, List.set_cons_zero, List.set_cons_succ])
    refine take_l 5 (v := ?_) rfl (by kernel_rfl) (by kernel_rfl) (by kernel_rfl) (fun _ _ _ h => h) (by rfl) ?_ (by assumption) ?_
    rotate_left
    · (intro w hSw; (try dsimp only at hSw); go_simp; (try with_reducible rfl))
    (try simp only [Act.put, List.setIfInBounds_toArray, List.set_cons_zero, List.set_cons_succ])
    refine take_l 6 (v := ?_) rfl (by kernel_rfl) (by kernel_rfl) (by kernel_rfl) (fun _ _ _ h => h) (by rfl) ?_ (by assumption) ?_
    rotate_left
    · (intro w hSw; (try dsimp only at hSw); go_simp; (try with_reducible rfl))
    (try simp only [Act.put, List.setIfInBounds_toArray, List.set_cons_zero, List.set_cons_succ])
    refine wpAnyH_ready (rs := [4, 10]) (by kernel_rfl) (by simp) ?_
    refine cons_l (i := 4) rfl (fun K hK => ?_) ?_
    go_simp; (go_at_call 74; with_reducible refine (copyRows_any _ na ca ra _ HNA.out HSA.out HRA.out (HFA.out.ext (hw2.trans (by (repeat' (first | (with_reducible exact Ext.refl _) | (with_reducible assumption) | (with_reducible refine Ext.alloc ?_ _) | (with_reducible refine Ext.drewN ?_ _) | (with_reducible refine Ext.drew ?_) | (with_reducible refine Ext.setCell ?_ ?_ _) | (with_reducible exact Nat.le_refl _) | (with_reducible exact Nat.le_succ _) | (with_reducible refine Ext.trans ?_ (by assumption)) | (simp; done) | (simp; omega))))))).mono ?_); rintro e w4 ⟨a4, c4, vs4, rfl, hg4, hb4⟩; have hv4 := (fun g hg => (ownsRow_lt hg4.2.1 hg).1 : ∀ g, (Value.slice a4 na c4).ownBlock = some g → _ ≤ g); have hu4 := hg4.2.2.1; have HG4 := Lib.hid (hg4.wide (lo' := w2.heap.size) (by simp) (Nat.le_refl _)); clear hg4; have x4 : Ext w2 w4 := Ext.trans (by (repeat' (first | (with_reducible exact Ext.refl _) | (with_reducible assumption) | (with_reducible refine Ext.alloc ?_ _) | (with_reducible refine Ext.drewN ?_ _) | (with_reducible refine Ext.drew ?_) | (with_reducible refine Ext.setCell ?_ ?_ _) | (with_reducible exact Nat.le_refl _) | (with_reducible exact Nat.le_succ _) | (with_reducible refine Ext.trans ?_ (by assumption)) | (simp; done) | (simp; omega)))) hb4; have s4 := x4.size; (first | (have RB := (RowAt.new w2 26 #[.bool false, .slice none 0 0]).ext ((Ext.refl _).drew.trans hb4); have sB : w2.heap.size < w4.heap.size := RB.lt) | skip); clear hb4; (try simp only [World.size_alloc, World.size_drew] at hv4); have HV4 := Lib.hid hv4; have HU4 := Lib.hid hu4; clear hv4 hu4
    refine hK.out _ _ ?_ (fun hH1 => ?_)
    · (try dsimp only)
      (refine ⟨?_, ?_, ?_, ?_⟩; (focus ((repeat' (first | (with_reducible exact Ext.refl _) | (with_reducible assumption) | (with_reducible refine Ext.alloc ?_ _) | (with_reducible refine Ext.drewN ?_ _) | (with_reducible refine Ext.drew ?_) | (with_reducible refine Ext.setCell ?_ ?_ _) | (with_reducible exact Nat.le_refl _) | (with_reducible exact Nat.le_succ _) | (with_reducible refine Ext.trans ?_ (by assumption)) | (simp; done) | (simp; omega))); done)); (focus (first | (with_reducible assumption) | (exact Ext.cell (w := w2) (by (repeat' (first | (with_reducible exact Ext.refl _) | (with_reducible assumption) | (with_reducible refine Ext.alloc ?_ _) | (with_reducible refine Ext.drewN ?_ _) | (with_reducible refine Ext.drew ?_) | (with_reducible refine Ext.setCell ?_ ?_ _) | (with_reducible exact Nat.le_refl _) | (with_reducible exact Nat.le_succ _) | (with_reducible refine Ext.trans ?_ (by assumption)) | (simp; done) | (simp; omega)))) t0))); (focus (first | (with_reducible assumption) | (exact Ext.cell (w := w2) (by (repeat' (first | (with_reducible exact Ext.refl _) | (with_reducible assumption) | (with_reducible refine Ext.alloc ?_ _) | (with_reducible refine Ext.drewN ?_ _) | (with_reducible refine Ext.drew ?_) | (with_reducible refine Ext.setCell ?_ ?_ _) | (with_reducible exact Nat.le_refl _) | (with_reducible exact Nat.le_succ _) | (with_reducible refine Ext.trans ?_ (by assumption)) | (simp; done) | (simp; omega)))) t1))); (focus (first | (with_reducible assumption) | (exact Ext.cell (w := w2) (by (repeat' (first | (with_reducible exact Ext.refl _) | (with_reducible assumption) | (with_reducible refine Ext.alloc ?_ _) | (with_reducible refine Ext.drewN ?_ _) | (with_reducible refine Ext.drew ?_) | (with_reducible refine Ext.setCell ?_ ?_ _) | (with_reducible exact Nat.le_refl _) | (with_reducible exact Nat.le_succ _) | (with_reducible refine Ext.trans ?_ (by assumption)) | (simp; done) | (simp; omega)))) t2))))
    clear hK K hH0
    (try simp only [Act.put, List.setIfInBounds_toArray, List.set_cons_zero, List.set_cons_succ])
    refine wpAnyH_ready (rs := [7, 10]) (by kernel_rfl) (by simp) ?_
    refine cons_l (i := 7) rfl (fun K hK => ?_) ?_
    go_simp; (go_at_call 74; with_reducible refine (copyRows_any _ nb cb rb _ HNB.out HSB.out HRB.out (HFB.out.ext (hw2.trans (x4.trans (by (repeat' (first | (with_reducible exact Ext.refl _) | (with_reducible assumption) | (with_reducible refine Ext.alloc ?_ _) | (with_reducible refine Ext.drewN ?_ _) | (with_reducible refine Ext.drew ?_) | (with_reducible refine Ext.setCell ?_ ?_ _) | (with_reducible exact Nat.le_refl _) | (with_reducible exact Nat.le_succ _) | (with_reducible refine Ext.trans ?_ (by assumption)) | (simp; done) | (simp; omega)))))))).mono ?_); rintro e w7 ⟨a7, c7, vs7, rfl, hg7, hb7⟩; have HG7 := Lib.hid (hg7.wide (lo' := w4.heap.size) (by simp) (Nat.le_refl _)); clear hg7; have x7 : Ext w4 w7 := Ext.trans (by (repeat' (first | (with_reducible exact Ext.refl _) | (with_reducible assumption) | (with_reducible refine Ext.alloc ?_ _) | (with_reducible refine Ext.drewN ?_ _) | (with_reducible refine Ext.drew ?_) | (with_reducible refine Ext.setCell ?_ ?_ _) | (with_reducible exact Nat.le_refl _) | (with_reducible exact Nat.le_succ _) | (with_reducible refine Ext.trans ?_ (by assumption)) | (simp; done) | (simp; omega)))) hb7; have s7 := x7.size; have y7 := x4.trans x7; (first | (have RB := RB.ext hb7) | (have RB := (RowAt.new w4 26 #[.bool false, .slice none 0 0]).ext hb7) | skip); clear hb7
    refine hK.out _ _ ?_ (fun hH2 => ?_)
    · (try dsimp only)
      (refine ⟨?_, ?_, ?_, ?_⟩; (focus ((repeat' (first | (with_reducible exact Ext.refl _) | (with_reducible assumption) | (with_reducible refine Ext.alloc ?_ _) | (with_reducible refine Ext.drewN ?_ _) | (with_reducible refine Ext.drew ?_) | (with_reducible refine Ext.setCell ?_ ?_ _) | (with_reducible exact Nat.le_refl _) | (with_reducible exact Nat.le_succ _) | (with_reducible refine Ext.trans ?_ (by assumption)) | (simp; done) | (simp; omega))); done)); (focus (first | (with_reducible assumption) | (exact Ext.cell (w := w2) (by (repeat' (first | (with_reducible exact Ext.refl _) | (with_reducible assumption) | (with_reducible refine Ext.alloc ?_ _) | (with_reducible refine Ext.drewN ?_ _) | (with_reducible refine Ext.drew ?_) | (with_reducible refine Ext.setCell ?_ ?_ _) | (with_reducible exact Nat.le_refl _) | (with_reducible exact Nat.le_succ _) | (with_reducible refine Ext.trans ?_ (by assumption)) | (simp; done) | (simp; omega)))) t0))); (focus (first | (with_reducible assumption) | (exact Ext.cell (w := w2) (by (repeat' (first | (with_reducible exact Ext.refl _) | (with_reducible assumption) | (with_reducible refine Ext.alloc ?_ _) | (with_reducible refine Ext.drewN ?_ _) | (with_reducible refine Ext.drew ?_) | (with_reducible refine Ext.setCell ?_ ?_ _) | (with_reducible exact Nat.le_refl _) | (with_reducible exact Nat.le_succ _) | (with_reducible refine Ext.trans ?_ (by assumption)) | (simp; done) | (simp; omega)))) t1))); (focus (first | (with_reducible assumption) | (exact Ext.cell (w := w2) (by (repeat' (first | (with_reducible exact Ext.refl _) | (with_reducible assumption) | (with_reducible refine Ext.alloc ?_ _) | (with_reducible refine Ext.drewN ?_ _) | (with_reducible refine Ext.drew ?_) | (with_reducible refine Ext.setCell ?_ ?_ _) | (with_reducible exact Nat.le_refl _) | (with_reducible exact Nat.le_succ _) | (with_reducible refine Ext.trans ?_ (by assumption)) | (simp; done) | (simp; omega)))) t2))))
    clear hK K hH1
    (try simp only [Act.put, List.setIfInBounds_toArray, List.set_cons_zero, List.set_cons_succ])
    refine wpAnyH_ready (rs := [8, 10]) (by kernel_rfl) (by simp) ?_
    refine cons_l (i := 8) rfl (fun K hK => ?_) ?_
    (first | (have HOW := Lib.hid (ownsRow_ext HG4.out.2.1 (x7.trans (Ext.refl w7))); rw [← HNA.out] at HOW; refine step_of_wp _ rfl (wp_append_outer (w := w7) _ _ rfl w2.heap.size (.slice a4 na c4) na vs4 (by rfl) HOW.out a7 nb c7 (by rfl) vs7 (by rw [HG7.out.1]; exact HNB.out.symm) HG7.out.noneAt (fun j u hu => let ⟨b, off, e, hc⟩ := HG7.out.cellsAt j u hu; ⟨b, off, e, ((Ext.refl w7) : Ext w7 w7).cell hc⟩) HG7.out.ones (by omega) (by first | omega | (simp; omega)) ?_); intro v8 w8 hown8 hg8 hat8; obtain ⟨g8, c8, rfl, _, _⟩ := hown8.form (by omega); have x8 : Ext w2 w8 := Ext.own2 (y7.trans (Ext.refl w7)) hg8 HOW.out (Nat.le_refl _); have HG8 := Lib.hid (GR.concat (HG4.out.ext (x7.trans (Ext.refl w7))) (HG7.out.ext (Ext.refl w7)) s4 (Nat.le_refl _) ((Ext.refl w7) : Ext w7 w7).size (x7.trans ((Ext.refl w7) : Ext w7 w7)).size HNA.out HNB.out hown8 hg8 hat8); (try (have RB := RB.own hg8 (fun g hg => by have h1 := HV4.out g hg; have h2 := HU4.out g hg; omega))); clear hown8 hat8; try clear hg8) | (have HOW := Lib.hid (ownsRow_ext HG4.out.2.1 (x7.trans ((Ext.refl w7).alloc (.cells #[.bool false, .slice none 0 0] 26)))); rw [← HNA.out] at HOW; refine step_of_wp _ rfl (wp_append_outer (w := (w7.alloc (.cells #[.bool false, .slice none 0 0] 26))) _ _ rfl w2.heap.size (.slice a4 na c4) na vs4 (by rfl) HOW.out a7 nb c7 (by rfl) vs7 (by rw [HG7.out.1]; exact HNB.out.symm) HG7.out.noneAt (fun j u hu => let ⟨b, off, e, hc⟩ := HG7.out.cellsAt j u hu; ⟨b, off, e, (((Ext.refl w7).alloc (.cells #[.bool false, .slice none 0 0] 26)) : Ext w7 (w7.alloc (.cells #[.bool false, .slice none 0 0] 26))).cell hc⟩) HG7.out.ones (by omega) (by first | omega | (simp; omega)) ?_); intro v8 w8 hown8 hg8 hat8; obtain ⟨g8, c8, rfl, _, _⟩ := hown8.form (by omega); have x8 : Ext w2 w8 := Ext.own2 (y7.trans ((Ext.refl w7).alloc (.cells #[.bool false, .slice none 0 0] 26))) hg8 HOW.out (Nat.le_refl _); have HG8 := Lib.hid (GR.concat (HG4.out.ext (x7.trans ((Ext.refl w7).alloc (.cells #[.bool false, .slice none 0 0] 26)))) (HG7.out.ext ((Ext.refl w7).alloc (.cells #[.bool false, .slice none 0 0] 26))) s4 (Nat.le_refl _) (((Ext.refl w7).alloc (.cells #[.bool false, .slice none 0 0] 26)) : Ext w7 (w7.alloc (.cells #[.bool false, .slice none 0 0] 26))).size (x7.trans (((Ext.refl w7).alloc (.cells #[.bool false, .slice none 0 0] 26)) : Ext w7 (w7.alloc (.cells #[.bool false, .slice none 0 0] 26)))).size HNA.out HNB.out hown8 hg8 hat8); have RB := (RowAt.new w7 26 #[.bool false, .slice none 0 0]).own hg8 (fun g hg => by have h2 := HU4.out g hg; omega); clear hown8 hat8; try clear hg8))
    refine hK.out _ _ ?_ (fun hH3 => ?_)
    · (try dsimp only)
      (refine ⟨?_, ?_, ?_, ?_⟩; (focus ((repeat' (first | (with_reducible exact Ext.refl _) | (with_reducible assumption) | (with_reducible refine Ext.alloc ?_ _) | (with_reducible refine Ext.drewN ?_ _) | (with_reducible refine Ext.drew ?_) | (with_reducible refine Ext.setCell ?_ ?_ _) | (with_reducible exact Nat.le_refl _) | (with_reducible exact Nat.le_succ _) | (with_reducible refine Ext.trans ?_ (by assumption)) | (simp; done) | (simp; omega))); done)); (focus (first | (with_reducible assumption) | (exact Ext.cell (w := w2) (by (repeat' (first | (with_reducible exact Ext.refl _) | (with_reducible assumption) | (with_reducible refine Ext.alloc ?_ _) | (with_reducible refine Ext.drewN ?_ _) | (with_reducible refine Ext.drew ?_) | (with_reducible refine Ext.setCell ?_ ?_ _) | (with_reducible exact Nat.le_refl _) | (with_reducible exact Nat.le_succ _) | (with_reducible refine Ext.trans ?_ (by assumption)) | (simp; done) | (simp; omega)))) t0))); (focus (first | (with_reducible assumption) | (exact Ext.cell (w := w2) (by (repeat' (first | (with_reducible exact Ext.refl _) | (with_reducible assumption) | (with_reducible refine Ext.alloc ?_ _) | (with_reducible refine Ext.drewN ?_ _) | (with_reducible refine Ext.drew ?_) | (with_reducible refine Ext.setCell ?_ ?_ _) | (with_reducible exact Nat.le_refl _) | (with_reducible exact Nat.le_succ _) | (with_reducible refine Ext.trans ?_ (by assumption)) | (simp; done) | (simp; omega)))) t1))); (focus (first | (with_reducible assumption) | (exact Ext.cell (w := w2) (by (repeat' (first | (with_reducible exact Ext.refl _) | (with_reducible assumption) | (with_reducible refine Ext.alloc ?_ _) | (with_reducible refine Ext.drewN ?_ _) | (with_reducible refine Ext.drew ?_) | (with_reducible refine Ext.setCell ?_ ?_ _) | (with_reducible exact Nat.le_refl _) | (with_reducible exact Nat.le_succ _) | (with_reducible refine Ext.trans ?_ (by assumption)) | (simp; done) | (simp; omega)))) t2))))
    clear hK K hH2
    (try simp only [Act.put, List.setIfInBounds_toArray, List.set_cons_zero, List.set_cons_succ])
    refine take_l 9 (v := ?_) rfl (by kernel_rfl) (by kernel_rfl) (by kernel_rfl) (fun _ _ _ h => h) (by rfl) ?_ (by assumption) ?_
    rotate_left
    · (intro w hSw; (try dsimp only at hSw); go_simp; (try with_reducible rfl))
    (try simp only [Act.put, List.setIfInBounds_toArray, List.set_cons_zero, List.set_cons_succ])
    refine wpAnyH_ready (rs := [10]) (by kernel_rfl) (by simp) ?_
    refine cons_l (i := 10) rfl (fun K hK => ?_) ?_
    go_simp
    refine hK.out _ _ ?_ (fun hH4 => ?_)
    · (try dsimp only)
      (refine ⟨?_, ?_, ?_, ?_⟩; (focus ((repeat' (first | (with_reducible exact Ext.refl _) | (with_reducible assumption) | (with_reducible refine Ext.alloc ?_ _) | (with_reducible refine Ext.drewN ?_ _) | (with_reducible refine Ext.drew ?_) | (with_reducible refine Ext.setCell ?_ ?_ _) | (with_reducible exact Nat.le_refl _) | (with_reducible exact Nat.le_succ _) | (with_reducible refine Ext.trans ?_ (by assumption)) | (simp; done) | (simp; omega))); done)); (focus (first | (with_reducible assumption) | (exact Ext.cell (w := w2) (by (repeat' (first | (with_reducible exact Ext.refl _) | (with_reducible assumption) | (with_reducible refine Ext.alloc ?_ _) | (with_reducible refine Ext.drewN ?_ _) | (with_reducible refine Ext.drew ?_) | (with_reducible refine Ext.setCell ?_ ?_ _) | (with_reducible exact Nat.le_refl _) | (with_reducible exact Nat.le_succ _) | (with_reducible refine Ext.trans ?_ (by assumption)) | (simp; done) | (simp; omega)))) t0))); (focus (first | (with_reducible assumption) | (exact Ext.cell (w := w2) (by (repeat' (first | (with_reducible exact Ext.refl _) | (with_reducible assumption) | (with_reducible refine Ext.alloc ?_ _) | (with_reducible refine Ext.drewN ?_ _) | (with_reducible refine Ext.drew ?_) | (with_reducible refine Ext.setCell ?_ ?_ _) | (with_reducible exact Nat.le_refl _) | (with_reducible exact Nat.le_succ _) | (with_reducible refine Ext.trans ?_ (by assumption)) | (simp; done) | (simp; omega)))) t1))); (focus (first | (with_reducible assumption) | (exact Ext.cell (w := w2) (by (repeat' (first | (with_reducible exact Ext.refl _) | (with_reducible assumption) | (with_reducible refine Ext.alloc ?_ _) | (with_reducible refine Ext.drewN ?_ _) | (with_reducible refine Ext.drew ?_) | (with_reducible refine Ext.setCell ?_ ?_ _) | (with_reducible exact Nat.le_refl _) | (with_reducible exact Nat.le_succ _) | (with_reducible refine Ext.trans ?_ (by assumption)) | (simp; done) | (simp; omega)))) t2))))
    clear hK K hH3
    (try simp only [Act.put, List.setIfInBounds_toArray, List.set_cons_zero, List.set_cons_succ])
    refine wpAnyH_ready (rs := [11]) (by kernel_rfl) (by simp) ?_
    refine cons_l (i := 11) rfl (fun K hK => ?_) ?_
    (try (have k0 := RB.cell (j := 0) (v := .bool false) rfl; have k1 := RB.cell (j := 1) (v := .slice none 0 0) rfl; have k2 := RB.frozen 0; have k3 := RB.frozen 1; have zB := RB.lt)); go_simp
    refine hK.out _ _ ?_ (fun hH5 => ?_)
    · (try dsimp only)
      (refine ⟨?_, ?_, ?_, ?_⟩; (focus ((repeat' (first | (with_reducible exact Ext.refl _) | (with_reducible assumption) | (with_reducible refine Ext.alloc ?_ _) | (with_reducible refine Ext.drewN ?_ _) | (with_reducible refine Ext.drew ?_) | (with_reducible refine Ext.setCell ?_ ?_ _) | (with_reducible exact Nat.le_refl _) | (with_reducible exact Nat.le_succ _) | (with_reducible refine Ext.trans ?_ (by assumption)) | (simp; done) | (simp; omega))); done)); (focus (first | (with_reducible assumption) | (exact Ext.cell (w := w2) (by (repeat' (first | (with_reducible exact Ext.refl _) | (with_reducible assumption) | (with_reducible refine Ext.alloc ?_ _) | (with_reducible refine Ext.drewN ?_ _) | (with_reducible refine Ext.drew ?_) | (with_reducible refine Ext.setCell ?_ ?_ _) | (with_reducible exact Nat.le_refl _) | (with_reducible exact Nat.le_succ _) | (with_reducible refine Ext.trans ?_ (by assumption)) | (simp; done) | (simp; omega)))) t0))); (focus (first | (with_reducible assumption) | (exact Ext.cell (w := w2) (by (repeat' (first | (with_reducible exact Ext.refl _) | (with_reducible assumption) | (with_reducible refine Ext.alloc ?_ _) | (with_reducible refine Ext.drewN ?_ _) | (with_reducible refine Ext.drew ?_) | (with_reducible refine Ext.setCell ?_ ?_ _) | (with_reducible exact Nat.le_refl _) | (with_reducible exact Nat.le_succ _) | (with_reducible refine Ext.trans ?_ (by assumption)) | (simp; done) | (simp; omega)))) t1))); (focus (first | (with_reducible assumption) | (exact Ext.cell (w := w2) (by (repeat' (first | (with_reducible exact Ext.refl _) | (with_reducible assumption) | (with_reducible refine Ext.alloc ?_ _) | (with_reducible refine Ext.drewN ?_ _) | (with_reducible refine Ext.drew ?_) | (with_reducible refine Ext.setCell ?_ ?_ _) | (with_reducible exact Nat.le_refl _) | (with_reducible exact Nat.le_succ _) | (with_reducible refine Ext.trans ?_ (by assumption)) | (simp; done) | (simp; omega)))) t2))))
    clear hK K hH4
    (try simp only [Act.put, List.setIfInBounds_toArray, List.set_cons_zero, List.set_cons_succ])
    refine wpAnyH_done (by kernel_rfl) ?_ _
    rotate_left
    exact AllReadyH.nil
    exact AllReadyH.nil
    refine cons_l (i := 10) rfl (fun K hK => ?_) ?_
    go_simp
    refine hK.out _ _ ?_ (fun hH3 => ?_)
    · (try dsimp only)
      (refine ⟨?_, ?_, ?_, ?_⟩; (focus ((repeat' (first | (with_reducible exact Ext.refl _) | (with_reducible assumption) | (with_reducible refine Ext.alloc ?_ _) | (with_reducible refine Ext.drewN ?_ _) | (with_reducible refine Ext.drew ?_) | (with_reducible refine Ext.setCell ?_ ?_ _) | (with_reducible exact Nat.le_refl _) | (with_reducible exact Nat.le_succ _) | (with_reducible refine Ext.trans ?_ (by assumption)) | (simp; done) | (simp; omega))); done)); (focus (first | (with_reducible assumption) | (exact Ext.cell (w := w2) (by (repeat' (first | (with_reducible exact Ext.refl _) | (with_reducible assumption) | (with_reducible refine Ext.alloc ?_ _) | (with_reducible refine Ext.drewN ?_ _) | (with_reducible refine Ext.drew ?_) | (with_reducible refine Ext.setCell ?_ ?_ _) | (with_reducible exact Nat.le_refl _) | (with_reducible exact Nat.le_succ _) | (with_reducible refine Ext.trans ?_ (by assumption)) | (simp; done) | (simp; omega)))) t0))); (focus (first | (with_reducible assumption) | (exact Ext.cell (w := w2) (by (repeat' (first | (with_reducible exact Ext.refl _) | (with_reducible assumption) | (with_reducible refine Ext.alloc ?_ _) | (with_reducible refine Ext.drewN ?_ _) | (with_reducible refine Ext.drew ?_) | (with_reducible refine Ext.setCell ?_ ?_ _) | (with_reducible exact Nat.le_refl _) | (with_reducible exact Nat.le_succ _) | (with_reducible refine Ext.trans ?_ (by assumption)) | (simp; done) | (simp; omega)))) t1))); (focus (first | (with_reducible assumption) | (exact Ext.cell (w := w2) (by (repeat' (first | (with_reducible exact Ext.refl _) | (with_reducible assumption) | (with_reducible refine Ext.alloc ?_ _) | (with_reducible refine Ext.drewN ?_ _) | (with_reducible refine Ext.drew ?_) | (with_reducible refine Ext.setCell ?_ ?_ _) | (with_reducible exact Nat.le_refl _) | (with_reducible exact Nat.le_succ _) | (with_reducible refine Ext.trans ?_ (by assumption)) | (simp; done) | (simp; omega)))) t2))))
    clear hK K hH2
    (try simp only [Act.put, List.setIfInBounds_toArray, List.set_cons_zero, List.set_cons_succ])
    refine wpAnyH_ready (rs := [8]) (by kernel_rfl) (by simp) ?_
    refine cons_l (i := 8) rfl (fun K hK => ?_) ?_
    (first | (have HOW := Lib.hid (ownsRow_ext HG4.out.2.1 (x7.trans (Ext.refl w7))); rw [← HNA.out] at HOW; refine step_of_wp _ rfl (wp_append_outer (w := w7) _ _ rfl w2.heap.size (.slice a4 na c4) na vs4 (by rfl) HOW.out a7 nb c7 (by rfl) vs7 (by rw [HG7.out.1]; exact HNB.out.symm) HG7.out.noneAt (fun j u hu => let ⟨b, off, e, hc⟩ := HG7.out.cellsAt j u hu; ⟨b, off, e, ((Ext.refl w7) : Ext w7 w7).cell hc⟩) HG7.out.ones (by omega) (by first | omega | (simp; omega)) ?_); intro v8 w8 hown8 hg8 hat8; obtain ⟨g8, c8, rfl, _, _⟩ := hown8.form (by omega); have x8 : Ext w2 w8 := Ext.own2 (y7.trans (Ext.refl w7)) hg8 HOW.out (Nat.le_refl _); have HG8 := Lib.hid (GR.concat (HG4.out.ext (x7.trans (Ext.refl w7))) (HG7.out.ext (Ext.refl w7)) s4 (Nat.le_refl _) ((Ext.refl w7) : Ext w7 w7).size (x7.trans ((Ext.refl w7) : Ext w7 w7)).size HNA.out HNB.out hown8 hg8 hat8); (try (have RB := RB.own hg8 (fun g hg => by have h1 := HV4.out g hg; have h2 := HU4.out g hg; omega))); clear hown8 hat8; try clear hg8) | (have HOW := Lib.hid (ownsRow_ext HG4.out.2.1 (x7.trans ((Ext.refl w7).alloc (.cells #[.bool false, .slice none 0 0] 26)))); rw [← HNA.out] at HOW; refine step_of_wp _ rfl (wp_append_outer (w := (w7.alloc (.cells #[.bool false, .slice none 0 0] 26))) _ _ rfl w2.heap.size (.slice a4 na c4) na vs4 (by rfl) HOW.out a7 nb c7 (by rfl) vs7 (by rw [HG7.out.1]; exact HNB.out.symm) HG7.out.noneAt (fun j u hu => let ⟨b, off, e, hc⟩ := HG7.out.cellsAt j u hu; ⟨b, off, e, (((Ext.refl w7).alloc (.cells #[.bool false, .slice none 0 0] 26)) : Ext w7 (w7.alloc (.cells #[.bool false, .slice none 0 0] 26))).cell hc⟩) HG7.out.ones (by omega) (by first | omega | (simp; omega)) ?_); intro v8 w8 hown8 hg8 hat8; obtain ⟨g8, c8, rfl, _, _⟩ := hown8.form (by omega); have x8 : Ext w2 w8 := Ext.own2 (y7.trans ((Ext.refl w7).alloc (.cells #[.bool false, .slice none 0 0] 26))) hg8 HOW.out (Nat.le_refl _); have HG8 := Lib.hid (GR.concat (HG4.out.ext (x7.trans ((Ext.refl w7).alloc (.cells #[.bool false, .slice none 0 0] 26)))) (HG7.out.ext ((Ext.refl w7).alloc (.cells #[.bool false, .slice none 0 0] 26))) s4 (Nat.le_refl _) (((Ext.refl w7).alloc (.cells #[.bool false, .slice none 0 0] 26)) : Ext w7 (w7.alloc (.cells #[.bool false, .slice none 0 0] 26))).size (x7.trans (((Ext.refl w7).alloc (.cells #[.bool false, .slice none 0 0] 26)) : Ext w7 (w7.alloc (.cells #[.bool false, .slice none 0 0] 26)))).size HNA.out HNB.out hown8 hg8 hat8); have RB := (RowAt.new w7 26 #[.bool false, .slice none 0 0]).own hg8 (fun g hg => by have h2 := HU4.out g hg; omega); clear hown8 hat8; try clear hg8))
    refine hK.out _ _ ?_ (fun hH4 => ?_)
    · (try dsimp only)
      (refine ⟨?_, ?_, ?_, ?_⟩; (focus ((repeat' (first | (with_reducible exact Ext.refl _) | (with_reducible assumption) | (with_reducible refine Ext.alloc ?_ _) | (with_reducible refine Ext.drewN ?_ _) | (with_reducible refine Ext.drew ?_) | (with_reducible refine Ext.setCell ?_ ?_ _) | (with_reducible exact Nat.le_refl _) | (with_reducible exact Nat.le_succ _) | (with_reducible refine Ext.trans ?_ (by assumption)) | (simp; done) | (simp; omega))); done)); (focus (first | (with_reducible assumption) | (exact Ext.cell (w := w2) (by (repeat' (first | (with_reducible exact Ext.refl _) | (with_reducible assumption) | (with_reducible refine Ext.alloc ?_ _) | (with_reducible refine Ext.drewN ?_ _) | (with_reducible refine Ext.drew ?_) | (with_reducible refine Ext.setCell ?_ ?_ _) | (with_reducible exact Nat.le_refl _) | (with_reducible exact Nat.le_succ _) | (with_reducible refine Ext.trans ?_ (by assumption)) | (simp; done) | (simp; omega)))) t0))); (focus (first | (with_reducible assumption) | (exact Ext.cell (w := w2) (by (repeat' (first | (with_reducible exact Ext.refl _) | (with_reducible assumption) | (with_reducible refine Ext.alloc ?_ _) | (with_reducible refine Ext.drewN ?_ _) | (with_reducible refine Ext.drew ?_) | (with_reducible refine Ext.setCell ?_ ?_ _) | (with_reducible exact Nat.le_refl _) | (with_reducible exact Nat.le_succ _) | (with_reducible refine Ext.trans ?_ (by assumption)) | (simp; done) | (simp; omega)))) t1))); (focus (first | (with_reducible assumption) | (exact Ext.cell (w := w2) (by (repeat' (first | (with_reducible exact Ext.refl _) | (with_reducible assumption) | (with_reducible refine Ext.alloc ?_ _) | (with_reducible refine Ext.drewN ?_ _) | (with_reducible refine Ext.drew ?_) | (with_reducible refine Ext.setCell ?_ ?_ _) | (with_reducible exact Nat.le_refl _) | (with_reducible exact Nat.le_succ _) | (with_reducible refine Ext.trans ?_ (by assumption)) | (simp; done) | (simp; omega)))) t2))))
    clear hK K hH3
    (try simp only [Act.put, List.setIfInBounds_toArray, List.set_cons_zero, List.set_cons_succ])
    refine take_l 9 (v := ?_) rfl (by kernel_rfl) (by kernel_rfl) (by kernel_rfl) (fun _ _ _ h => h) (by rfl) ?_ (by assumption) ?_
    rotate_left
    · (intro w hSw; (try dsimp only at hSw); go_simp; (try with_reducible rfl))
    (try simp only [Act.put, List.setIfInBounds_toArray, List.set_cons_zero, List.set_cons_succ])
    refine wpAnyH_ready (rs := [11]) (by kernel_rfl) (by simp) ?_
    refine cons_l (i := 11) rfl (fun K hK => ?_) ?_
    (try (have k0 := RB.cell (j := 0) (v := .bool false) rfl; have k1 := RB.cell (j := 1) (v := .slice none 0 0) rfl; have k2 := RB.frozen 0; have k3 := RB.frozen 1; have zB := RB.lt)); go_simp
    refine hK.out _ _ ?_ (fun hH5 => ?_)
    · (try dsimp only)
      (refine ⟨?_, ?_, ?_, ?_⟩; (focus ((repeat' (first | (with_reducible exact Ext.refl _) | (with_reducible assumption) | (with_reducible refine Ext.alloc ?_ _) | (with_reducible refine Ext.drewN ?_ _) | (with_reducible refine Ext.drew ?_) | (with_reducible refine Ext.setCell ?_ ?_ _) | (with_reducible exact Nat.le_refl _) | (with_reducible exact Nat.le_succ _) | (with_reducible refine Ext.trans ?_ (by assumption)) | (simp; done) | (simp; omega))); done)); (focus (first | (with_reducible assumption) | (exact Ext.cell (w := w2) (by (repeat' (first | (with_reducible exact Ext.refl _) | (with_reducible assumption) | (with_reducible refine Ext.alloc ?_ _) | (with_reducible refine Ext.drewN ?_ _) | (with_reducible refine Ext.drew ?_) | (with_reducible refine Ext.setCell ?_ ?_ _) | (with_reducible exact Nat.le_refl _) | (with_reducible exact Nat.le_succ _) | (with_reducible refine Ext.trans ?_ (by assumption)) | (simp; done) | (simp; omega)))) t0))); (focus (first | (with_reducible assumption) | (exact Ext.cell (w := w2) (by (repeat' (first | (with_reducible exact Ext.refl _) | (with_reducible assumption) | (with_reducible refine Ext.alloc ?_ _) | (with_reducible refine Ext.drewN ?_ _) | (with_reducible refine Ext.drew ?_) | (with_reducible refine Ext.setCell ?_ ?_ _) | (with_reducible exact Nat.le_refl _) | (with_reducible exact Nat.le_succ _) | (with_reducible refine Ext.trans ?_ (by assumption)) | (simp; done) | (simp; omega)))) t1))); (focus (first | (with_reducible assumption) | (exact Ext.cell (w := w2) (by (repeat' (first | (with_reducible exact Ext.refl _) | (with_reducible assumption) | (with_reducible refine Ext.alloc ?_ _) | (with_reducible refine Ext.drewN ?_ _) | (with_reducible refine Ext.drew ?_) | (with_reducible refine Ext.setCell ?_ ?_ _) | (with_reducible exact Nat.le_refl _) | (with_reducible exact Nat.le_succ _) | (with_reducible refine Ext.trans ?_ (by assumption)) | (simp; done) | (simp; omega)))) t2))))
    clear hK K hH4
    (try simp only [Act.put, List.setIfInBounds_toArray, List.set_cons_zero, List.set_cons_succ])
    refine wpAnyH_done (by kernel_rfl) ?_ _
    rotate_left
    exact AllReadyH.nil
    exact AllReadyH.nil
    exact AllReadyH.nil
    refine cons_l (i := 10) rfl (fun K hK => ?_) ?_
    go_simp
    refine hK.out _ _ ?_ (fun hH2 => ?_)
    · (try dsimp only)
      (refine ⟨?_, ?_, ?_, ?_⟩; (focus ((repeat' (first | (with_reducible exact Ext.refl _) | (with_reducible assumption) | (with_reducible refine Ext.alloc ?_ _) | (with_reducible refine Ext.drewN ?_ _) | (with_reducible refine Ext.drew ?_) | (with_reducible refine Ext.setCell ?_ ?_ _) | (with_reducible exact Nat.le_refl _) | (with_reducible exact Nat.le_succ _) | (with_reducible refine Ext.trans ?_ (by assumption)) | (simp; done) | (simp; omega))); done)); (focus (first | (with_reducible assumption) | (exact Ext.cell (w := w2) (by (repeat' (first | (with_reducible exact Ext.refl _) | (with_reducible assumption) | (with_reducible refine Ext.alloc ?_ _) | (with_reducible refine Ext.drewN ?_ _) | (with_reducible refine Ext.drew ?_) | (with_reducible refine Ext.setCell ?_ ?_ _) | (with_reducible exact Nat.le_refl _) | (with_reducible exact Nat.le_succ _) | (with_reducible refine Ext.trans ?_ (by assumption)) | (simp; done) | (simp; omega)))) t0))); (focus (first | (with_reducible assumption) | (exact Ext.cell (w := w2) (by (repeat' (first | (with_reducible exact Ext.refl _) | (with_reducible assumption) | (with_reducible refine Ext.alloc ?_ _) | (with_reducible refine Ext.drewN ?_ _) | (with_reducible refine Ext.drew ?_) | (with_reducible refine Ext.setCell ?_ ?_ _) | (with_reducible exact Nat.le_refl _) | (with_reducible exact Nat.le_succ _) | (with_reducible refine Ext.trans ?_ (by assumption)) | (simp; done) | (simp; omega)))) t1))); (focus (first | (with_reducible assumption) | (exact Ext.cell (w := w2) (by (repeat' (first | (with_reducible exact Ext.refl _) | (with_reducible assumption) | (with_reducible refine Ext.alloc ?_ _) | (with_reducible refine Ext.drewN ?_ _) | (with_reducible refine Ext.drew ?_) | (with_reducible refine Ext.setCell ?_ ?_ _) | (with_reducible exact Nat.le_refl _) | (with_reducible exact Nat.le_succ _) | (with_reducible refine Ext.trans ?_ (by assumption)) | (simp; done) | (simp; omega)))) t2))))
    clear hK K hH1
    (try simp only [Act.put, List.setIfInBounds_toArray, List.set_cons_zero, List.set_cons_succ])
    refine wpAnyH_ready (rs := [7]) (by kernel_rfl) (by simp) ?_
    refine cons_l (i := 7) rfl (fun K hK => ?_) ?_
    go_simp; (go_at_call 74; with_reducible refine (copyRows_any _ nb cb rb _ HNB.out HSB.out HRB.out (HFB.out.ext (hw2.trans (x4.trans (by (repeat' (first | (with_reducible exact Ext.refl _) | (with_reducible assumption) | (with_reducible refine Ext.alloc ?_ _) | (with_reducible refine Ext.drewN ?_ _) | (with_reducible refine Ext.drew ?_) | (with_reducible refine Ext.setCell ?_ ?_ _) | (with_reducible exact Nat.le_refl _) | (with_reducible exact Nat.le_succ _) | (with_reducible refine Ext.trans ?_ (by assumption)) | (simp; done) | (simp; omega)))))))).mono ?_); rintro e w7 ⟨a7, c7, vs7, rfl, hg7, hb7⟩; have HG7 := Lib.hid (hg7.wide (lo' := w4.heap.size) (by simp) (Nat.le_refl _)); clear hg7; have x7 : Ext w4 w7 := Ext.trans (by (repeat' (first | (with_reducible exact Ext.refl _) | (with_reducible assumption) | (with_reducible refine Ext.alloc ?_ _) | (with_reducible refine Ext.drewN ?_ _) | (with_reducible refine Ext.drew ?_) | (with_reducible refine Ext.setCell ?_ ?_ _) | (with_reducible exact Nat.le_refl _) | (with_reducible exact Nat.le_succ _) | (with_reducible refine Ext.trans ?_ (by assumption)) | (simp; done) | (simp; omega)))) hb7; have s7 := x7.size; have y7 := x4.trans x7; (first | (have RB := RB.ext hb7) | (have RB := (RowAt.new w4 26 #[.bool false, .slice none 0 0]).ext hb7) | skip); clear hb7
    refine hK.out _ _ ?_ (fun hH3 => ?_)
    · (try dsimp only)
      (refine ⟨?_, ?_, ?_, ?_⟩; (focus ((repeat' (first | (with_reducible exact Ext.refl _) | (with_reducible assumption) | (with_reducible refine Ext.alloc ?_ _) | (with_reducible refine Ext.drewN ?_ _) | (with_reducible refine Ext.drew ?_) | (with_reducible refine Ext.setCell ?_ ?_ _) | (with_reducible exact Nat.le_refl _) | (with_reducible exact Nat.le_succ _) | (with_reducible refine Ext.trans ?_ (by assumption)) | (simp; done) | (simp; omega))); done)); (focus (first | (with_reducible assumption) | (exact Ext.cell (w := w2) (by (repeat' (first | (with_reducible exact Ext.refl _) | (with_reducible assumption) | (with_reducible refine Ext.alloc ?_ _) | (with_reducible refine Ext.drewN ?_ _) | (with_reducible refine Ext.drew ?_) | (with_reducible refine Ext.setCell ?_ ?_ _) | (with_reducible exact Nat.le_refl _) | (with_reducible exact Nat.le_succ _) | (with_reducible refine Ext.trans ?_ (by assumption)) | (simp; done) | (simp; omega)))) t0))); (focus (first | (with_reducible assumption) | (exact Ext.cell (w := w2) (by (repeat' (first | (with_reducible exact Ext.refl _) | (with_reducible assumption) | (with_reducible refine Ext.alloc ?_ _) | (with_reducible refine Ext.drewN ?_ _) | (with_reducible refine Ext.drew ?_) | (with_reducible refine Ext.setCell ?_ ?_ _) | (with_reducible exact Nat.le_refl _) | (with_reducible exact Nat.le_succ _) | (with_reducible refine Ext.trans ?_ (by assumption)) | (simp; done) | (simp; omega)))) t1))); (focus (first | (with_reducible assumption) | (exact Ext.cell (w := w2) (by (repeat' (first | (with_reducible exact Ext.refl _) | (with_reducible assumption) | (with_reducible refine Ext.alloc ?_ _) | (with_reducible refine Ext.drewN ?_ _) | (with_reducible refine Ext.drew ?_) | (with_reducible refine Ext.setCell ?_ ?_ _) | (with_reducible exact Nat.le_refl _) | (with_reducible exact Nat.le_succ _) | (with_reducible refine Ext.trans ?_ (by assumption)) | (simp; done) | (simp; omega)))) t2))))
    clear hK K hH2
    (try simp only [Act.put, List.setIfInBounds_toArray, List.set_cons_zero, List.set_cons_succ])
    refine wpAnyH_ready (rs := [8]) (by kernel_rfl) (by simp) ?_
    refine cons_l (i := 8) rfl (fun K hK => ?_) ?_
    (first | (have HOW := Lib.hid (ownsRow_ext HG4.out.2.1 (x7.trans (Ext.refl w7))); rw [← HNA.out] at HOW; refine step_of_wp _ rfl (wp_append_outer (w := w7) _ _ rfl w2.heap.size (.slice a4 na c4) na vs4 (by rfl) HOW.out a7 nb c7 (by rfl) vs7 (by rw [HG7.out.1]; exact HNB.out.symm) HG7.out.noneAt (fun j u hu => let ⟨b, off, e, hc⟩ := HG7.out.cellsAt j u hu; ⟨b, off, e, ((Ext.refl w7) : Ext w7 w7).cell hc⟩) HG7.out.ones (by omega) (by first | omega | (simp; omega)) ?_); intro v8 w8 hown8 hg8 hat8; obtain ⟨g8, c8, rfl, _, _⟩ := hown8.form (by omega); have x8 : Ext w2 w8 := Ext.own2 (y7.trans (Ext.refl w7)) hg8 HOW.out (Nat.le_refl _); have HG8 := Lib.hid (GR.concat (HG4.out.ext (x7.trans (Ext.refl w7))) (HG7.out.ext (Ext.refl w7)) s4 (Nat.le_refl _) ((Ext.refl w7) : Ext w7 w7).size (x7.trans ((Ext.refl w7) : Ext w7 w7)).size HNA.out HNB.out hown8 hg8 hat8); (try (have RB := RB.own hg8 (fun g hg => by have h1 := HV4.out g hg; have h2 := HU4.out g hg; omega))); clear hown8 hat8; try clear hg8) | (have HOW := Lib.hid (ownsRow_ext HG4.out.2.1 (x7.trans ((Ext.refl w7).alloc (.cells #[.bool false, .slice none 0 0] 26)))); rw [← HNA.out] at HOW; refine step_of_wp _ rfl (wp_append_outer (w := (w7.alloc (.cells #[.bool false, .slice none 0 0] 26))) _ _ rfl w2.heap.size (.slice a4 na c4) na vs4 (by rfl) HOW.out a7 nb c7 (by rfl) vs7 (by rw [HG7.out.1]; exact HNB.out.symm) HG7.out.noneAt (fun j u hu => let ⟨b, off, e, hc⟩ := HG7.out.cellsAt j u hu; ⟨b, off, e, (((Ext.refl w7).alloc (.cells #[.bool false, .slice none 0 0] 26)) : Ext w7 (w7.alloc (.cells #[.bool false, .slice none 0 0] 26))).cell hc⟩) HG7.out.ones (by omega) (by first | omega | (simp; omega)) ?_); intro v8 w8 hown8 hg8 hat8; obtain ⟨g8, c8, rfl, _, _⟩ := hown8.form (by omega); have x8 : Ext w2 w8 := Ext.own2 (y7.trans ((Ext.refl w7).alloc (.cells #[.bool false, .slice none 0 0] 26))) hg8 HOW.out (Nat.le_refl _); have HG8 := Lib.hid (GR.concat (HG4.out.ext (x7.trans ((Ext.refl w7).alloc (.cells #[.bool false, .slice none 0 0] 26)))) (HG7.out.ext ((Ext.refl w7).alloc (.cells #[.bool false, .slice none 0 0] 26))) s4 (Nat.le_refl _) (((Ext.refl w7).alloc (.cells #[.bool false, .slice none 0 0] 26)) : Ext w7 (w7.alloc (.cells #[.bool false, .slice none 0 0] 26))).size (x7.trans (((Ext.refl w7).alloc (.cells #[.bool false, .slice none 0 0] 26)) : Ext w7 (w7.alloc (.cells #[.bool false, .slice none 0 0] 26)))).size HNA.out HNB.out hown8 hg8 hat8); have RB := (RowAt.new w7 26 #[.bool false, .slice none 0 0]).own hg8 (fun g hg => by have h2 := HU4.out g hg; omega); clear hown8 hat8; try clear hg8))
    refine hK.out _ _ ?_ (fun hH4 => ?_)
    · (try dsimp only)
      (refine ⟨?_, ?_, ?_, ?_⟩; (focus ((repeat' (first | (with_reducible exact Ext.refl _) | (with_reducible assumption) | (with_reducible refine Ext.alloc ?_ _) | (with_reducible refine Ext.drewN ?_ _) | (with_reducible refine Ext.drew ?_) | (with_reducible refine Ext.setCell ?_ ?_ _) | (with_reducible exact Nat.le_refl _) | (with_reducible exact Nat.le_succ _) | (with_reducible refine Ext.trans ?_ (by assumption)) | (simp; done) | (simp; omega))); done)); (focus (first | (with_reducible assumption) | (exact Ext.cell (w := w2) (by (repeat' (first | (with_reducible exact Ext.refl _) | (with_reducible assumption) | (with_reducible refine Ext.alloc ?_ _) | (with_reducible refine Ext.drewN ?_ _) | (with_reducible refine Ext.drew ?_) | (with_reducible refine Ext.setCell ?_ ?_ _) | (with_reducible exact Nat.le_refl _) | (with_reducible exact Nat.le_succ _) | (with_reducible refine Ext.trans ?_ (by assumption)) | (simp; done) | (simp; omega)))) t0))); (focus (first | (with_reducible assumption) | (exact Ext.cell (w := w2) (by (repeat' (first | (with_reducible exact Ext.refl _) | (with_reducible assumption) | (with_reducible refine Ext.alloc ?_ _) | (with_reducible refine Ext.drewN ?_ _) | (with_reducible refine Ext.drew ?_) | (with_reducible refine Ext.setCell ?_ ?_ _) | (with_reducible exact Nat.le_refl _) | (with_reducible exact Nat.le_succ _) | (with_reducible refine Ext.trans ?_ (by assumption)) | (simp; done) | (simp; omega)))) t1))); (focus (first | (with_reducible assumption) | (exact Ext.cell (w := w2) (by (repeat' (first | (with_reducible exact Ext.refl _) | (with_reducible assumption) | (with_reducible refine Ext.alloc ?_ _) | (with_reducible refine Ext.drewN ?_ _) | (with_reducible refine Ext.drew ?_) | (with_reducible refine Ext.setCell ?_ ?_ _) | (with_reducible exact Nat.le_refl _) | (with_reducible exact Nat.le_succ _) | (with_reducible refine Ext.trans ?_ (by assumption)) | (simp; done) | (simp; omega)))) t2))))
    clear hK K hH3
    (try simp only [Act.put, List.setIfInBounds_toArray, List.set_cons_zero, List.set_cons_succ])
    refine take_l 9 (v := ?_) rfl (by kernel_rfl) (by kernel_rfl) (by kernel_rfl) (fun _ _ _ h => h) (by rfl) ?_ (by assumption) ?_
    rotate_left
    · (intro w hSw; (try dsimp only at hSw); go_simp; (try with_reducible rfl))
    (try simp only [Act.put, List.setIfInBounds_toArray, List.set_cons_zero, List.set_cons_succ])
    refine wpAnyH_ready (rs := [11]) (by kernel_rfl) (by simp) ?_
    refine cons_l (i := 11) rfl (fun K hK => ?_) ?_
    (try (have k0 := RB.cell (j := 0) (v := .bool false) rfl; have k1 := RB.cell (j := 1) (v := .slice none 0 0) rfl; have k2 := RB.frozen 0; have k3 := RB.frozen 1; have zB := RB.lt)); go_simp
    refine hK.out _ _ ?_ (fun hH5 => ?_)
    · (try dsimp only)
      (refine ⟨?_, ?_, ?_, ?_⟩; (focus ((repeat' (first | (with_reducible exact Ext.refl _) | (with_reducible assumption) | (with_reducible refine Ext.alloc ?_ _) | (with_reducible refine Ext.drewN ?_ _) | (with_reducible refine Ext.drew ?_) | (with_reducible refine Ext.setCell ?_ ?_ _) | (with_reducible exact Nat.le_refl _) | (with_reducible exact Nat.le_succ _) | (with_reducible refine Ext.trans ?_ (by assumption)) | (simp; done) | (simp; omega))); done)); (focus (first | (with_reducible assumption) | (exact Ext.cell (w := w2) (by (repeat' (first | (with_reducible exact Ext.refl _) | (with_reducible assumption) | (with_reducible refine Ext.alloc ?_ _) | (with_reducible refine Ext.drewN ?_ _) | (with_reducible refine Ext.drew ?_) | (with_reducible refine Ext.setCell ?_ ?_ _) | (with_reducible exact Nat.le_refl _) | (with_reducible exact Nat.le_succ _) | (with_reducible refine Ext.trans ?_ (by assumption)) | (simp; done) | (simp; omega)))) t0))); (focus (first | (with_reducible assumption) | (exact Ext.cell (w := w2) (by (repeat' (first | (with_reducible exact Ext.refl _) | (with_reducible assumption) | (with_reducible refine Ext.alloc ?_ _) | (with_reducible refine Ext.drewN ?_ _) | (with_reducible refine Ext.drew ?_) | (with_reducible refine Ext.setCell ?_ ?_ _) | (with_reducible exact Nat.le_refl _) | (with_reducible exact Nat.le_succ _) | (with_reducible refine Ext.trans ?_ (by assumption)) | (simp; done) | (simp; omega)))) t1))); (focus (first | (with_reducible assumption) | (exact Ext.cell (w := w2) (by (repeat' (first | (with_reducible exact Ext.refl _) | (with_reducible assumption) | (with_reducible refine Ext.alloc ?_ _) | (with_reducible refine Ext.drewN ?_ _) | (with_reducible refine Ext.drew ?_) | (with_reducible refine Ext.setCell ?_ ?_ _) | (with_reducible exact Nat.le_refl _) | (with_reducible exact Nat.le_succ _) | (with_reducible refine Ext.trans ?_ (by assumption)) | (simp; done) | (simp; omega)))) t2))))
    clear hK K hH4
    (try simp only [Act.put, List.setIfInBounds_toArray, List.set_cons_zero, List.set_cons_succ])
    refine wpAnyH_done (by kernel_rfl) ?_ _
    rotate_left
    exact AllReadyH.nil
    exact AllReadyH.nil
    exact AllReadyH.nil
    exact AllReadyH.nil
    refine cons_l (i := 10) rfl (fun K hK => ?_) ?_
    go_simp
    refine hK.out _ _ ?_ (fun hH1 => ?_)
    · (try dsimp only)
      (refine ⟨?_, ?_, ?_, ?_⟩; (focus ((repeat' (first | (with_reducible exact Ext.refl _) | (with_reducible assumption) | (with_reducible refine Ext.alloc ?_ _) | (with_reducible refine Ext.drewN ?_ _) | (with_reducible refine Ext.drew ?_) | (with_reducible refine Ext.setCell ?_ ?_ _) | (with_reducible exact Nat.le_refl _) | (with_reducible exact Nat.le_succ _) | (with_reducible refine Ext.trans ?_ (by assumption)) | (simp; done) | (simp; omega))); done)); (focus (first | (with_reducible assumption) | (exact Ext.cell (w := w2) (by (repeat' (first | (with_reducible exact Ext.refl _) | (with_reducible assumption) | (with_reducible refine Ext.alloc ?_ _) | (with_reducible refine Ext.drewN ?_ _) | (with_reducible refine Ext.drew ?_) | (with_reducible refine Ext.setCell ?_ ?_ _) | (with_reducible exact Nat.le_refl _) | (with_reducible exact Nat.le_succ _) | (with_reducible refine Ext.trans ?_ (by assumption)) | (simp; done) | (simp; omega)))) t0))); (focus (first | (with_reducible assumption) | (exact Ext.cell (w := w2) (by (repeat' (first | (with_reducible exact Ext.refl _) | (with_reducible assumption) | (with_reducible refine Ext.alloc ?_ _) | (with_reducible refine Ext.drewN ?_ _) | (with_reducible refine Ext.drew ?_) | (with_reducible refine Ext.setCell ?_ ?_ _) | (with_reducible exact Nat.le_refl _) | (with_reducible exact Nat.le_succ _) | (with_reducible refine Ext.trans ?_ (by assumption)) | (simp; done) | (simp; omega)))) t1))); (focus (first | (with_reducible assumption) | (exact Ext.cell (w := w2) (by (repeat' (first | (with_reducible exact Ext.refl _) | (with_reducible assumption) | (with_reducible refine Ext.alloc ?_ _) | (with_reducible refine Ext.drewN ?_ _) | (with_reducible refine Ext.drew ?_) | (with_reducible refine Ext.setCell ?_ ?_ _) | (with_reducible exact Nat.le_refl _) | (with_reducible exact Nat.le_succ _) | (with_reducible refine Ext.trans ?_ (by assumption)) | (simp; done) | (simp; omega)))) t2))))
    clear hK K hH0
    (try simp only [Act.put, List.setIfInBounds_toArray, List.set_cons_zero, List.set_cons_succ])
    refine wpAnyH_ready (rs := [4]) (by kernel_rfl) (by simp) ?_
    refine cons_l (i := 4) rfl (fun K hK => ?_) ?_
    go_simp; (go_at_call 74; with_reducible refine (copyRows_any _ na ca ra _ HNA.out HSA.out HRA.out (HFA.out.ext (hw2.trans (by (repeat' (first | (with_reducible exact Ext.refl _) | (with_reducible assumption) | (with_reducible refine Ext.alloc ?_ _) | (with_reducible refine Ext.drewN ?_ _) | (with_reducible refine Ext.drew ?_) | (with_reducible refine Ext.setCell ?_ ?_ _) | (with_reducible exact Nat.le_refl _) | (with_reducible exact Nat.le_succ _) | (with_reducible refine Ext.trans ?_ (by assumption)) | (simp; done) | (simp; omega))))))).mono ?_); rintro e w4 ⟨a4, c4, vs4, rfl, hg4, hb4⟩; have hv4 := (fun g hg => (ownsRow_lt hg4.2.1 hg).1 : ∀ g, (Value.slice a4 na c4).ownBlock = some g → _ ≤ g); have hu4 := hg4.2.2.1; have HG4 := Lib.hid (hg4.wide (lo' := w2.heap.size) (by simp) (Nat.le_refl _)); clear hg4; have x4 : Ext w2 w4 := Ext.trans (by (repeat' (first | (with_reducible exact Ext.refl _) | (with_reducible assumption) | (with_reducible refine Ext.alloc ?_ _) | (with_reducible refine Ext.drewN ?_ _) | (with_reducible refine Ext.drew ?_) | (with_reducible refine Ext.setCell ?_ ?_ _) | (with_reducible exact Nat.le_refl _) | (with_reducible exact Nat.le_succ _) | (with_reducible refine Ext.trans ?_ (by assumption)) | (simp; done) | (simp; omega)))) hb4; have s4 := x4.size; (first | (have RB := (RowAt.new w2 26 #[.bool false, .slice none 0 0]).ext ((Ext.refl _).drew.trans hb4); have sB : w2.heap.size < w4.heap.size := RB.lt) | skip); clear hb4; (try simp only [World.size_alloc, World.size_drew] at hv4); have HV4 := Lib.hid hv4; have HU4 := Lib.hid hu4; clear hv4 hu4
    refine hK.out _ _ ?_ (fun hH2 => ?_)
    · (try dsimp only)
      (refine ⟨?_, ?_, ?_, ?_⟩; (focus ((repeat' (first | (with_reducible exact Ext.refl _) | (with_reducible assumption) | (with_reducible refine Ext.alloc ?_ _) | (with_reducible refine Ext.drewN ?_ _) | (with_reducible refine Ext.drew ?_) | (with_reducible refine Ext.setCell ?_ ?_ _) | (with_reducible exact Nat.le_refl _) | (with_reducible exact Nat.le_succ _) | (with_reducible refine Ext.trans ?_ (by assumption)) | (simp; done) | (simp; omega))); done)); (focus (first | (with_reducible assumption) | (exact Ext.cell (w := w2) (by (repeat' (first | (with_reducible exact Ext.refl _) | (with_reducible assumption) | (with_reducible refine Ext.alloc ?_ _) | (with_reducible refine Ext.drewN ?_ _) | (with_reducible refine Ext.drew ?_) | (with_reducible refine Ext.setCell ?_ ?_ _) | (with_reducible exact Nat.le_refl _) | (with_reducible exact Nat.le_succ _) | (with_reducible refine Ext.trans ?_ (by assumption)) | (simp; done) | (simp; omega)))) t0))); (focus (first | (with_reducible assumption) | (exact Ext.cell (w := w2) (by (repeat' (first | (with_reducible exact Ext.refl _) | (with_reducible assumption) | (with_reducible refine Ext.alloc ?_ _) | (with_reducible refine Ext.drewN ?_ _) | (with_reducible refine Ext.drew ?_) | (with_reducible refine Ext.setCell ?_ ?_ _) | (with_reducible exact Nat.le_refl _) | (with_reducible exact Nat.le_succ _) | (with_reducible refine Ext.trans ?_ (by assumption)) | (simp; done) | (simp; omega)))) t1))); (focus (first | (with_reducible assumption) | (exact Ext.cell (w := w2) (by (repeat' (first | (with_reducible exact Ext.refl _) | (with_reducible assumption) | (with_reducible refine Ext.alloc ?_ _) | (with_reducible refine Ext.drewN ?_ _) | (with_reducible refine Ext.drew ?_) | (with_reducible refine Ext.setCell ?_ ?_ _) | (with_reducible exact Nat.le_refl _) | (with_reducible exact Nat.le_succ _) | (with_reducible refine Ext.trans ?_ (by assumption)) | (simp; done) | (simp; omega)))) t2))))
    clear hK K hH1
    (try simp only [Act.put, List.setIfInBounds_toArray, List.set_cons_zero, List.set_cons_succ])
    refine wpAnyH_ready (rs := [7]) (by kernel_rfl) (by simp) ?_
    refine cons_l (i := 7) rfl (fun K hK => ?_) ?_
    go_simp; (go_at_call 74; with_reducible refine (copyRows_any _ nb cb rb _ HNB.out HSB.out HRB.out (HFB.out.ext (hw2.trans (x4.trans (by (repeat' (first | (with_reducible exact Ext.refl _) | (with_reducible assumption) | (with_reducible refine Ext.alloc ?_ _) | (with_reducible refine Ext.drewN ?_ _) | (with_reducible refine Ext.drew ?_) | (with_reducible refine Ext.setCell ?_ ?_ _) | (with_reducible exact Nat.le_refl _) | (with_reducible exact Nat.le_succ _) | (with_reducible refine Ext.trans ?_ (by assumption)) | (simp; done) | (simp; omega)))))))).mono ?_); rintro e w7 ⟨a7, c7, vs7, rfl, hg7, hb7⟩; have HG7 := Lib.hid (hg7.wide (lo' := w4.heap.size) (by simp) (Nat.le_refl _)); clear hg7; have x7 : Ext w4 w7 := Ext.trans (by (repeat' (first | (with_reducible exact Ext.refl _) | (with_reducible assumption) | (with_reducible refine Ext.alloc ?_ _) | (with_reducible refine Ext.drewN ?_ _) | (with_reducible refine Ext.drew ?_) | (with_reducible refine Ext.setCell ?_ ?_ _) | (with_reducible exact Nat.le_refl _) | (with_reducible exact Nat.le_succ _) | (with_reducible refine Ext.trans ?_ (by assumption)) | (simp; done) | (simp; omega)))) hb7; have s7 := x7.size; have y7 := x4.trans x7; (first | (have RB := RB.ext hb7) | (have RB := (RowAt.new w4 26 #[.bool false, .slice none 0 0]).ext hb7) | skip); clear hb7
    refine hK.out _ _ ?_ (fun hH3 => ?_)
    · (try dsimp only)
      (refine ⟨?_, ?_, ?_, ?_⟩; (focus ((repeat' (first | (with_reducible exact Ext.refl _) | (with_reducible assumption) | (with_reducible refine Ext.alloc ?_ _) | (with_reducible refine Ext.drewN ?_ _) | (with_reducible refine Ext.drew ?_) | (with_reducible refine Ext.setCell ?_ ?_ _) | (with_reducible exact Nat.le_refl _) | (with_reducible exact Nat.le_succ _) | (with_reducible refine Ext.trans ?_ (by assumption)) | (simp; done) | (simp; omega))); done)); (focus (first | (with_reducible assumption) | (exact Ext.cell (w := w2) (by (repeat' (first | (with_reducible exact Ext.refl _) | (with_reducible assumption) | (with_reducible refine Ext.alloc ?_ _) | (with_reducible refine Ext.drewN ?_ _) | (with_reducible refine Ext.drew ?_) | (with_reducible refine Ext.setCell ?_ ?_ _) | (with_reducible exact Nat.le_refl _) | (with_reducible exact Nat.le_succ _) | (with_reducible refine Ext.trans ?_ (by assumption)) | (simp; done) | (simp; omega)))) t0))); (focus (first | (with_reducible assumption) | (exact Ext.cell (w := w2) (by (repeat' (first | (with_reducible exact Ext.refl _) | (with_reducible assumption) | (with_reducible refine Ext.alloc ?_ _) | (with_reducible refine Ext.drewN ?_ _) | (with_reducible refine Ext.drew ?_) | (with_reducible refine Ext.setCell ?_ ?_ _) | (with_reducible exact Nat.le_refl _) | (with_reducible exact Nat.le_succ _) | (with_reducible refine Ext.trans ?_ (by assumption)) | (simp; done) | (simp; omega)))) t1))); (focus (first | (with_reducible assumption) | (exact Ext.cell (w := w2) (by (repeat' (first | (with_reducible exact Ext.refl _) | (with_reducible assumption) | (with_reducible refine Ext.alloc ?_ _) | (with_reducible refine Ext.drewN ?_ _) | (with_reducible refine Ext.drew ?_) | (with_reducible refine Ext.setCell ?_ ?_ _) | (with_reducible exact Nat.le_refl _) | (with_reducible exact Nat.le_succ _) | (with_reducible refine Ext.trans ?_ (by assumption)) | (simp; done) | (simp; omega)))) t2))))
    clear hK K hH2
    (try simp only [Act.put, List.setIfInBounds_toArray, List.set_cons_zero, List.set_cons_succ])
    refine wpAnyH_ready (rs := [8]) (by kernel_rfl) (by simp) ?_
    refine cons_l (i := 8) rfl (fun K hK => ?_) ?_
    (first | (have HOW := Lib.hid (ownsRow_ext HG4.out.2.1 (x7.trans (Ext.refl w7))); rw [← HNA.out] at HOW; refine step_of_wp _ rfl (wp_append_outer (w := w7) _ _ rfl w2.heap.size (.slice a4 na c4) na vs4 (by rfl) HOW.out a7 nb c7 (by rfl) vs7 (by rw [HG7.out.1]; exact HNB.out.symm) HG7.out.noneAt (fun j u hu => let ⟨b, off, e, hc⟩ := HG7.out.cellsAt j u hu; ⟨b, off, e, ((Ext.refl w7) : Ext w7 w7).cell hc⟩) HG7.out.ones (by omega) (by first | omega | (simp; omega)) ?_); intro v8 w8 hown8 hg8 hat8; obtain ⟨g8, c8, rfl, _, _⟩ := hown8.form (by omega); have x8 : Ext w2 w8 := Ext.own2 (y7.trans (Ext.refl w7)) hg8 HOW.out (Nat.le_refl _); have HG8 := Lib.hid (GR.concat (HG4.out.ext (x7.trans (Ext.refl w7))) (HG7.out.ext (Ext.refl w7)) s4 (Nat.le_refl _) ((Ext.refl w7) : Ext w7 w7).size (x7.trans ((Ext.refl w7) : Ext w7 w7)).size HNA.out HNB.out hown8 hg8 hat8); (try (have RB := RB.own hg8 (fun g hg => by have h1 := HV4.out g hg; have h2 := HU4.out g hg; omega))); clear hown8 hat8; try clear hg8) | (have HOW := Lib.hid (ownsRow_ext HG4.out.2.1 (x7.trans ((Ext.refl w7).alloc (.cells #[.bool false, .slice none 0 0] 26)))); rw [← HNA.out] at HOW; refine step_of_wp _ rfl (wp_append_outer (w := (w7.alloc (.cells #[.bool false, .slice none 0 0] 26))) _ _ rfl w2.heap.size (.slice a4 na c4) na vs4 (by rfl) HOW.out a7 nb c7 (by rfl) vs7 (by rw [HG7.out.1]; exact HNB.out.symm) HG7.out.noneAt (fun j u hu => let ⟨b, off, e, hc⟩ := HG7.out.cellsAt j u hu; ⟨b, off, e, (((Ext.refl w7).alloc (.cells #[.bool false, .slice none 0 0] 26)) : Ext w7 (w7.alloc (.cells #[.bool false, .slice none 0 0] 26))).cell hc⟩) HG7.out.ones (by omega) (by first | omega | (simp; omega)) ?_); intro v8 w8 hown8 hg8 hat8; obtain ⟨g8, c8, rfl, _, _⟩ := hown8.form (by omega); have x8 : Ext w2 w8 := Ext.own2 (y7.trans ((Ext.refl w7).alloc (.cells #[.bool false, .slice none 0 0] 26))) hg8 HOW.out (Nat.le_refl _); have HG8 := Lib.hid (GR.concat (HG4.out.ext (x7.trans ((Ext.refl w7).alloc (.cells #[.bool false, .slice none 0 0] 26)))) (HG7.out.ext ((Ext.refl w7).alloc (.cells #[.bool false, .slice none 0 0] 26))) s4 (Nat.le_refl _) (((Ext.refl w7).alloc (.cells #[.bool false, .slice none 0 0] 26)) : Ext w7 (w7.alloc (.cells #[.bool false, .slice none 0 0] 26))).size (x7.trans (((Ext.refl w7).alloc (.cells #[.bool false, .slice none 0 0] 26)) : Ext w7 (w7.alloc (.cells #[.bool false, .slice none 0 0] 26)))).size HNA.out HNB.out hown8 hg8 hat8); have RB := (RowAt.new w7 26 #[.bool false, .slice none 0 0]).own hg8 (fun g hg => by have h2 := HU4.out g hg; omega); clear hown8 hat8; try clear hg8))
    refine hK.out _ _ ?_ (fun hH4 => ?_)
    · (try dsimp only)
      (refine ⟨?_, ?_, ?_, ?_⟩; (focus ((repeat' (first | (with_reducible exact Ext.refl _) | (with_reducible assumption) | (with_reducible refine Ext.alloc ?_ _) | (with_reducible refine Ext.drewN ?_ _) | (with_reducible refine Ext.drew ?_) | (with_reducible refine Ext.setCell ?_ ?_ _) | (with_reducible exact Nat.le_refl _) | (with_reducible exact Nat.le_succ _) | (with_reducible refine Ext.trans ?_ (by assumption)) | (simp; done) | (simp; omega))); done)); (focus (first | (with_reducible assumption) | (exact Ext.cell (w := w2) (by (repeat' (first | (with_reducible exact Ext.refl _) | (with_reducible assumption) | (with_reducible refine Ext.alloc ?_ _) | (with_reducible refine Ext.drewN ?_ _) | (with_reducible refine Ext.drew ?_) | (with_reducible refine Ext.setCell ?_ ?_ _) | (with_reducible exact Nat.le_refl _) | (with_reducible exact Nat.le_succ _) | (with_reducible refine Ext.trans ?_ (by assumption)) | (simp; done) | (simp; omega)))) t0))); (focus (first | (with_reducible assumption) | (exact Ext.cell (w := w2) (by (repeat' (first | (with_reducible exact Ext.refl _) | (with_reducible assumption) | (with_reducible refine Ext.alloc ?_ _) | (with_reducible refine Ext.drewN ?_ _) | (with_reducible refine Ext.drew ?_) | (with_reducible refine Ext.setCell ?_ ?_ _) | (with_reducible exact Nat.le_refl _) | (with_reducible exact Nat.le_succ _) | (with_reducible refine Ext.trans ?_ (by assumption)) | (simp; done) | (simp; omega)))) t1))); (focus (first | (with_reducible assumption) | (exact Ext.cell (w := w2) (by (repeat' (first | (with_reducible exact Ext.refl _) | (with_reducible assumption) | (with_reducible refine Ext.alloc ?_ _) | (with_reducible refine Ext.drewN ?_ _) | (with_reducible refine Ext.drew ?_) | (with_reducible refine Ext.setCell ?_ ?_ _) | (with_reducible exact Nat.le_refl _) | (with_reducible exact Nat.le_succ _) | (with_reducible refine Ext.trans ?_ (by assumption)) | (simp; done) | (simp; omega)))) t2))))
    clear hK K hH3
    (try simp only [Act.put, List.setIfInBounds_toArray, List.set_cons_zero, List.set_cons_succ])
    refine take_l 9 (v := ?_) rfl (by kernel_rfl) (by kernel_rfl) (by kernel_rfl) (fun _ _ _ h => h) (by rfl) ?_ (by assumption) ?_
    rotate_left
    · (intro w hSw; (try dsimp only at hSw); go_simp; (try with_reducible rfl))
    (try simp only [Act.put, List.setIfInBounds_toArray, List.set_cons_zero, List.set_cons_succ])
    refine wpAnyH_ready (rs := [11]) (by kernel_rfl) (by simp) ?_
    refine cons_l (i := 11) rfl (fun K hK => ?_) ?_
    (try (have k0 := RB.cell (j := 0) (v := .bool false) rfl; have k1 := RB.cell (j := 1) (v := .slice none 0 0) rfl; have k2 := RB.frozen 0; have k3 := RB.frozen 1; have zB := RB.lt)); go_simp
    refine hK.out _ _ ?_ (fun hH5 => ?_)
    · (try dsimp only)
      (refine ⟨?_, ?_, ?_, ?_⟩; (focus ((repeat' (first | (with_reducible exact Ext.refl _) | (with_reducible assumption) | (with_reducible refine Ext.alloc ?_ _) | (with_reducible refine Ext.drewN ?_ _) | (with_reducible refine Ext.drew ?_) | (with_reducible refine Ext.setCell ?_ ?_ _) | (with_reducible exact Nat.le_refl _) | (with_reducible exact Nat.le_succ _) | (with_reducible refine Ext.trans ?_ (by assumption)) | (simp; done) | (simp; omega))); done)); (focus (first | (with_reducible assumption) | (exact Ext.cell (w := w2) (by (repeat' (first | (with_reducible exact Ext.refl _) | (with_reducible assumption) | (with_reducible refine Ext.alloc ?_ _) | (with_reducible refine Ext.drewN ?_ _) | (with_reducible refine Ext.drew ?_) | (with_reducible refine Ext.setCell ?_ ?_ _) | (with_reducible exact Nat.le_refl _) | (with_reducible exact Nat.le_succ _) | (with_reducible refine Ext.trans ?_ (by assumption)) | (simp; done) | (simp; omega)))) t0))); (focus (first | (with_reducible assumption) | (exact Ext.cell (w := w2) (by (repeat' (first | (with_reducible exact Ext.refl _) | (with_reducible assumption) | (with_reducible refine Ext.alloc ?_ _) | (with_reducible refine Ext.drewN ?_ _) | (with_reducible refine Ext.drew ?_) | (with_reducible refine Ext.setCell ?_ ?_ _) | (with_reducible exact Nat.le_refl _) | (with_reducible exact Nat.le_succ _) | (with_reducible refine Ext.trans ?_ (by assumption)) | (simp; done) | (simp; omega)))) t1))); (focus (first | (with_reducible assumption) | (exact Ext.cell (w := w2) (by (repeat' (first | (with_reducible exact Ext.refl _) | (with_reducible assumption) | (with_reducible refine Ext.alloc ?_ _) | (with_reducible refine Ext.drewN ?_ _) | (with_reducible refine Ext.drew ?_) | (with_reducible refine Ext.setCell ?_ ?_ _) | (with_reducible exact Nat.le_refl _) | (with_reducible exact Nat.le_succ _) | (with_reducible refine Ext.trans ?_ (by assumption)) | (simp; done) | (simp; omega)))) t2))))
    clear hK K hH4
    (try simp only [Act.put, List.setIfInBounds_toArray, List.set_cons_zero, List.set_cons_succ])
    refine wpAnyH_done (by kernel_rfl) ?_ _
    rotate_left
    exact AllReadyH.nil
    exact AllReadyH.nil
    exact AllReadyH.nil
    exact AllReadyH.nil
    exact AllReadyH.nil
    all_goals
      refine world_as ?_
      intro w9 hw9e
      have hx3 : Ext w2 w9 := by rw [hw9e]; exact hH5.1
      first
        | (have hr3 : RowAt w9 w8.heap.size 26 #[.bool ua, (.slice (some ⟨g8, 0, none⟩) (na + nb) c8)] := by rw [hw9e]; exact RowAt.new w8 _ _
           have hg3 : GR w9 w2.heap.size w9.heap.size (.slice (some ⟨g8, 0, none⟩) (na + nb) c8) (vs4 ++ vs7) (ra ++ rb) := by rw [hw9e]; exact (HG8.out.ext ((Ext.refl w8).alloc _)).wide (Nat.le_refl _) (by simp)
           have m0 : w9.cell? ⟨w8.heap.size, 0, none⟩ = some (.bool ua) := hr3.cell rfl
           have m1 : w9.cell? ⟨w8.heap.size, 1, none⟩ = some (.slice (some ⟨g8, 0, none⟩) (na + nb) c8) := hr3.cell rfl)
        | (have hr3 : RowAt w9 w2.heap.size 26 #[.bool ua, (.slice (some ⟨g8, 0, none⟩) (na + nb) c8)] := by rw [hw9e]; exact (RB.set 0 (.bool ua)).set 1 (.slice (some ⟨g8, 0, none⟩) (na + nb) c8)
           have hg3 : GR w9 w2.heap.size w9.heap.size (.slice (some ⟨g8, 0, none⟩) (na + nb) c8) (vs4 ++ vs7) (ra ++ rb) := by rw [hw9e]; exact ((HG8.out.setT RB (by decide) (by decide) 0 (.bool ua)).setT (RB.set 0 (.bool ua)) (by decide) (by decide) 1 (.slice (some ⟨g8, 0, none⟩) (na + nb) c8)).wide (Nat.le_refl _) (by simp [size_setCell'])
           have m0 : w9.cell? ⟨w2.heap.size, 0, none⟩ = some (.bool ua) := hr3.cell rfl
           have m1 : w9.cell? ⟨w2.heap.size, 1, none⟩ = some (.slice (some ⟨g8, 0, none⟩) (na + nb) c8) := hr3.cell rfl
           clear k0 k1 k2 k3 RB zB)
        | (have hr3 : RowAt w9 w4.heap.size 26 #[.bool ua, (.slice (some ⟨g8, 0, none⟩) (na + nb) c8)] := by rw [hw9e]; exact (RB.set 0 (.bool ua)).set 1 (.slice (some ⟨g8, 0, none⟩) (na + nb) c8)
           have hg3 : GR w9 w2.heap.size w9.heap.size (.slice (some ⟨g8, 0, none⟩) (na + nb) c8) (vs4 ++ vs7) (ra ++ rb) := by rw [hw9e]; exact ((HG8.out.setT RB (by decide) (by decide) 0 (.bool ua)).setT (RB.set 0 (.bool ua)) (by decide) (by decide) 1 (.slice (some ⟨g8, 0, none⟩) (na + nb) c8)).wide (Nat.le_refl _) (by simp [size_setCell'])
           have m0 : w9.cell? ⟨w4.heap.size, 0, none⟩ = some (.bool ua) := hr3.cell rfl
           have m1 : w9.cell? ⟨w4.heap.size, 1, none⟩ = some (.slice (some ⟨g8, 0, none⟩) (na + nb) c8) := hr3.cell rfl
           clear k0 k1 k2 k3 RB zB)
        | (have hr3 : RowAt w9 w7.heap.size 26 #[.bool ua, (.slice (some ⟨g8, 0, none⟩) (na + nb) c8)] := by rw [hw9e]; exact (RB.set 0 (.bool ua)).set 1 (.slice (some ⟨g8, 0, none⟩) (na + nb) c8)
           have hg3 : GR w9 w2.heap.size w9.heap.size (.slice (some ⟨g8, 0, none⟩) (na + nb) c8) (vs4 ++ vs7) (ra ++ rb) := by rw [hw9e]; exact ((HG8.out.setT RB (by decide) (by decide) 0 (.bool ua)).setT (RB.set 0 (.bool ua)) (by decide) (by decide) 1 (.slice (some ⟨g8, 0, none⟩) (na + nb) c8)).wide (Nat.le_refl _) (by simp [size_setCell'])
           have m0 : w9.cell? ⟨w7.heap.size, 0, none⟩ = some (.bool ua) := hr3.cell rfl
           have m1 : w9.cell? ⟨w7.heap.size, 1, none⟩ = some (.slice (some ⟨g8, 0, none⟩) (na + nb) c8) := hr3.cell rfl
           clear k0 k1 k2 k3 RB zB)
      clear hH5 hw9e
      have HG3 := Lib.hid hg3; clear hg3 hr3
      have zs9 := hx3.size
      obtain ⟨a9, c9, hv9, hm9, hrw⟩ := HG3.out.rows
      injection hv9 with hva hvn hvc
      have HRW := Lib.hid (hva ▸ hrw)
      clear hva hvn hvc hm9 hrw HG8 HG4 HG7 HOW
      have q2 := HT2.out.ext hx3
      cases t
      · have hR := HR.out
        simp only [Bool.false_eq_true, if_false] at hR
        injection hR with hu hR
        injection hR with hr1 hR
        subst hu hR hr1
        have hz := Lib.hid (show n1 = 0 from HN1.out)
        go_wp2_with fail
        refine (OKT.out ▸ implTrainOk_any _ _ _ _ (ra ++ rb) _ HNN.out (by omega) HFL.out HRW.out).mono ?_
        rintro e w10 ⟨rfl, hb10⟩
        have q3 := q2.ext hb10
        have q10 : w10.cell? ⟨w.heap.size + 1 + 1, 0, none⟩ = some (.bool false) := q3.cell rfl
        have q11 : w10.cell? ⟨w.heap.size + 1 + 1, 1, none⟩ = some (.slice none 0 0) := q3.cell rfl
        have f10 := q3.frozen 0
        have f11 := q3.frozen 1
        have hx10 := hw2.trans (hx3.trans hb10)
        clear m0 m1
        go_wp2
        refine bodyPost_ret (v := .tuple #[.agg #[.bool false, .slice none 0 0], .bool false]) (by simp [results, Try.results36, go_sem, *]) rfl (OneC.zero hz.out (by (repeat' (first | (with_reducible exact Ext.refl _) | (with_reducible assumption) | (with_reducible refine Ext.alloc ?_ _) | (with_reducible refine Ext.drewN ?_ _) | (with_reducible refine Ext.drew ?_) | (with_reducible refine Ext.setCell ?_ ?_ _) | (with_reducible exact Nat.le_refl _) | (with_reducible exact Nat.le_succ _) | (with_reducible refine Ext.trans ?_ (by assumption)) | (simp; done) | (simp; omega)))))
      · have hR := HR.out
        simp only [if_true] at hR
        injection hR with hu hR
        injection hR with hr1 hR
        subst hu hR
        have hz := Lib.hid (show n1 = na + nb by rw [HN1.out, ← hr1, HNN.out])
        have HE := Lib.hid hr1; clear hr1
        go_wp2_with fail
        refine (OKT.out ▸ implTrainOk_any _ _ _ _ (ra ++ rb) _ HNN.out (by omega) HFL.out HRW.out).mono ?_
        rintro e w10 ⟨rfl, hb10⟩
        have q3 := q2.ext hb10
        have q10 : w10.cell? ⟨w.heap.size + 1 + 1, 0, none⟩ = some (.bool false) := q3.cell rfl
        have q11 : w10.cell? ⟨w.heap.size + 1 + 1, 1, none⟩ = some (.slice none 0 0) := q3.cell rfl
        have f10 := q3.frozen 0
        have f11 := q3.frozen 1
        have hx10 := hw2.trans (hx3.trans hb10)
        have n0 := hb10.cell m0
        have n1' := hb10.cell m1
        have HG10 := Lib.hid (HG3.out.ext hb10)
        have hs10 := hb10.size
        have hsw := hw2.size
        clear m0 m1 q2 q3
        go_wp2
        refine bodyPost_ret (v := .tuple #[.agg #[.bool ua, (.slice (some ⟨g8, 0, none⟩) (na + nb) c8)], .bool true]) (by simp [results, Try.results36, go_sem, *]) rfl ⟨_, _, by rw [hz.out], ?_, by (repeat' (first | (with_reducible exact Ext.refl _) | (with_reducible assumption) | (with_reducible refine Ext.alloc ?_ _) | (with_reducible refine Ext.drewN ?_ _) | (with_reducible refine Ext.drew ?_) | (with_reducible refine Ext.setCell ?_ ?_ _) | (with_reducible exact Nat.le_refl _) | (with_reducible exact Nat.le_succ _) | (with_reducible refine Ext.trans ?_ (by assumption)) | (simp; done) | (simp; omega))), by rw [hz.out]; exact HG10.out.cap HNN.out⟩
        rw [← HE.out]
        exact (((HG10.out.set (p := ⟨w.heap.size + 1 + 1, 0, none⟩) (.inl (by simp; try omega)) _).set (p := ⟨w.heap.size + 1 + 1, 1, none⟩) (.inl (by simp; try omega)) _).wide (by omega) (by simp [size_setCell']; omega)).ownAt
  · have e1 : couRes ua ub ra rb = (false, [], false) := by unfold couRes; rw [if_neg (by rw [hp, hq]; exact fun h => hgood ⟨h.1, h.2.1, h.2.2.1⟩)]
    rw [e1] at hR
    injection hR with hu hR
    injection hR with hr1 hR
    subst hu hR hr1
    have hz := Lib.hid (show n1 = 0 from hn1)
    clear hn1 e1 hp hq
    rcases (by cases p <;> cases q <;> cases ua <;> cases ub <;> simp at hgood ⊢ : p = false ∨ (p = true ∧ q = false) ∨ (p = true ∧ q = true ∧ ua = true ∧ ub = false) ∨ (p = true ∧ q = true ∧ ua = false ∧ ub = true)) with rfl | ⟨rfl, rfl⟩ | ⟨rfl, rfl, rfl, rfl⟩ | ⟨rfl, rfl, rfl, rfl⟩
    · go_enter Try.func36, Try.ntmps36
      go_wp2_with fail
      (with_reducible refine (OKA.out ▸ implTrainOk_any _ _ _ _ ra _ HNA.out HSA.out HTA.out (HFA.out.ext (by (repeat' (first | (with_reducible exact Ext.refl _) | (with_reducible assumption) | (with_reducible refine Ext.alloc ?_ _) | (with_reducible refine Ext.drewN ?_ _) | (with_reducible refine Ext.drew ?_) | (with_reducible refine Ext.setCell ?_ ?_ _) | (with_reducible exact Nat.le_refl _) | (with_reducible exact Nat.le_succ _) | (with_reducible refine Ext.trans ?_ (by assumption)) | (simp; done) | (simp; omega)))))).mono ?_); rintro e w1 ⟨rfl, hb1⟩
      have x0_1 := hb1
      obtain ⟨hc0_1, hf0_1⟩ := bcell x0_1.below
      have z0_1_0 : w.heap.size < w1.heap.size := by have h := x0_1.size; simp at h; omega
      have z0_1_1 : w.heap.size + 1 < w1.heap.size := by have h := x0_1.size; simp at h; omega
      have z0_1_2 : w.heap.size + 1 + 1 < w1.heap.size := by have h := x0_1.size; simp at h; omega
      go_wp2
      refine bodyPost_ret (v := .tuple #[.agg #[.bool false, .slice none 0 0], .bool false]) (by simp [results, Try.results36, go_sem, *]) rfl (OneC.zero hz.out (by (repeat' (first | (with_reducible exact Ext.refl _) | (with_reducible assumption) | (with_reducible refine Ext.alloc ?_ _) | (with_reducible refine Ext.drewN ?_ _) | (with_reducible refine Ext.drew ?_) | (with_reducible refine Ext.setCell ?_ ?_ _) | (with_reducible exact Nat.le_refl _) | (with_reducible exact Nat.le_succ _) | (with_reducible refine Ext.trans ?_ (by assumption)) | (simp; done) | (simp; omega)))))
    all_goals
      go_enter Try.func36, Try.ntmps36
      go_wp2_with fail
      (with_reducible refine (OKA.out ▸ implTrainOk_any _ _ _ _ ra _ HNA.out HSA.out HTA.out (HFA.out.ext (by (repeat' (first | (with_reducible exact Ext.refl _) | (with_reducible assumption) | (with_reducible refine Ext.alloc ?_ _) | (with_reducible refine Ext.drewN ?_ _) | (with_reducible refine Ext.drew ?_) | (with_reducible refine Ext.setCell ?_ ?_ _) | (with_reducible exact Nat.le_refl _) | (with_reducible exact Nat.le_succ _) | (with_reducible refine Ext.trans ?_ (by assumption)) | (simp; done) | (simp; omega)))))).mono ?_); rintro e w1 ⟨rfl, hb1⟩
      have x0_1 := hb1
      obtain ⟨hc0_1, hf0_1⟩ := bcell x0_1.below
      have z0_1_0 : w.heap.size < w1.heap.size := by have h := x0_1.size; simp at h; omega
      have z0_1_1 : w.heap.size + 1 < w1.heap.size := by have h := x0_1.size; simp at h; omega
      have z0_1_2 : w.heap.size + 1 + 1 < w1.heap.size := by have h := x0_1.size; simp at h; omega
      go_wp2_with fail
      (with_reducible refine (OKB.out ▸ implTrainOk_any _ _ _ _ rb _ HNB.out HSB.out HTB.out (HFB.out.ext (Ext.trans ((((Ext.refl w).alloc _).alloc _).alloc _) x0_1))).mono ?_); rintro e w2 ⟨rfl, hb2⟩
      have x1_2 := hb2
      have x0_2 : Ext _ w2 := x0_1.trans (Ext.trans (b := _) (by (repeat' (first | (with_reducible exact Ext.refl _) | (with_reducible assumption) | (with_reducible refine Ext.alloc ?_ _) | (with_reducible refine Ext.drewN ?_ _) | (with_reducible refine Ext.drew ?_) | (with_reducible refine Ext.setCell ?_ ?_ _) | (with_reducible exact Nat.le_refl _) | (with_reducible exact Nat.le_succ _) | (with_reducible refine Ext.trans ?_ (by assumption)) | (simp; done) | (simp; omega)))) hb2)
      obtain ⟨hc0_2, hf0_2⟩ := bcell x0_2.below
      have z0_2_0 : w.heap.size < w2.heap.size := by have h := x0_2.size; simp at h; omega
      have z0_2_1 : w.heap.size + 1 < w2.heap.size := by have h := x0_2.size; simp at h; omega
      have z0_2_2 : w.heap.size + 1 + 1 < w2.heap.size := by have h := x0_2.size; simp at h; omega
      have hx2 := Ext.trans ((((Ext.refl w).alloc _).alloc _).alloc _) x0_2
      go_wp2
      refine bodyPost_ret (v := .tuple #[.agg #[.bool false, .slice none 0 0], .bool false]) (by simp [results, Try.results36, go_sem, *]) rfl (OneC.zero hz.out (by (repeat' (first | (with_reducible exact Ext.refl _) | (with_reducible assumption) | (with_reducible refine Ext.alloc ?_ _) | (with_reducible refine Ext.drewN ?_ _) | (with_reducible refine Ext.drew ?_) | (with_reducible refine Ext.setCell ?_ ?_ _) | (with_reducible exact Nat.le_refl _) | (with_reducible exact Nat.le_succ _) | (with_reducible refine Ext.trans ?_ (by assumption)) | (simp; done) | (simp; omega)))))
theorem implCouple_any (u1 R : Bool) (r1 : List (List Bt)) (n1 : Nat) (ua ub : Bool) (aa ab : Option Addr) (na ca nb cb : Nat) (ra rb : List (List Bt)) (w : World) (hna : na = ra.length) (hsa : na ≤ 1048576) (hra : ∀ r ∈ ra, r.length ≤ 1048576) (hta : ra.flatten.length ≤ 1048576) (hfa : RowsAt w aa ra)
    (hnb : nb = rb.length) (hsb : nb ≤ 1048576) (hrb : ∀ r ∈ rb, r.length ≤ 1048576) (htb : rb.flatten.length ≤ 1048576) (hfb : RowsAt w ab rb) (hR : couRes ua ub ra rb = (u1, r1, R)) (hn1 : n1 = r1.length) :
    Calls Try.prog 36 #[.agg #[.bool ua, .slice aa na ca], .agg #[.bool ub, .slice ab nb cb]] w fun e w' => One w w' u1 R r1 n1 e :=
  (implCoupleC_any u1 R r1 n1 ua ub aa ab na ca nb cb ra rb w hna hsa hra hta hfa hnb hsb hrb htb hfb hR hn1).mono fun e w' h => h.one
end Go.Proofs.Ytmcmialaofckkaa
