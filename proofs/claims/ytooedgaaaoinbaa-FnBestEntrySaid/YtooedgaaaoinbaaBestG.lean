/- BestEntry: the choices, in plain Lean; lists of trains whose rows lie elsewhere. -/
import Derived.Test.YtooedgaaaoinbaaProg
import Derived.Test.YtooedgaaaoinbaaShut
import Derived.Test.YtooedgaaaoinbaaFits
import Derived.Test.YtooedgaaaoinbaaCopyR
namespace Go.Proofs.Ytooedgaaaoinbaa
open Go.RowKit
set_option linter.unusedSimpArgs false
set_option linter.unusedVariables false

/-! ### The choices -/
/-- Does choice c of n trains take train i? -/
def bitOn (c n i : Nat) : Bool := decide (c / 2 ^ (n - 1 - i) % 2 = 1)
def selT (c n : Nat) : Nat → List Tn → List Tn
  | _, [] => []
  | i, t :: q => if bitOn c n i then t :: selT c n (i + 1) q else selT c n (i + 1) q
theorem selT_mem {c n : Nat} {t : Tn} : ∀ {q : List Tn} {i : Nat}, t ∈ selT c n i q → t ∈ q
  | [], _, h => by cases h
  | x :: q, i, h => by
    unfold selT at h
    split at h
    · rcases List.mem_cons.1 h with e | h
      · subst e; exact List.mem_cons_self
      · exact List.mem_cons_of_mem _ (selT_mem h)
    · exact List.mem_cons_of_mem _ (selT_mem h)
def selI (c n : Nat) : Nat → List Tn → List Int
  | _, [] => []
  | i, _ :: q => if bitOn c n i then (i : Int) :: selI c n (i + 1) q else selI c n (i + 1) q
def boatsI (t : Tn) : Nat := t.2.flatten.length
def boatsS (t : Tn) : Nat := if trainOk t.2 = true then t.2.flatten.length else 0
def cntOf (f : Tn → Nat) (l : List Tn) : Nat := (l.map f).sum
theorem cntOf_app (f : Tn → Nat) (a b : List Tn) : cntOf f (a ++ b) = cntOf f a + cntOf f b := by simp [cntOf]
noncomputable def bestGo (f : Tn → Nat) (x0 x1 : Int) (ts q : List Tn) (n : Nat) : Nat → Nat → List Int → List Int
  | 0, _, best => best
  | c + 1, most, best =>
    if (decide (most < cntOf f (selT (c + 1) n 0 q)) && fits x0 x1 (ts ++ selT (c + 1) n 0 q)) = true then bestGo f x0 x1 ts q n c (cntOf f (selT (c + 1) n 0 q)) (selI (c + 1) n 0 q)
    else bestGo f x0 x1 ts q n c most best
/-- What BestEntry answers. -/
noncomputable def bestRes (f : Tn → Nat) (x0 x1 x2 x3 x4 x5 x6 x7 x8 : Int) (ts q : List Tn) : List Int :=
  if lockOk x0 x1 x2 x3 x4 x5 x6 x7 x8 ts = true then bestGo f x0 x1 ts (q.take 8) (min q.length 8) (2 ^ (min q.length 8) - 1) 0 [] else []
theorem selI_len (c n : Nat) : ∀ (q : List Tn) (i : Nat), (selI c n i q).length ≤ q.length
  | [], _ => Nat.le_refl _
  | x :: q, i => by
    have ih := selI_len c n q (i + 1)
    unfold selI
    split
    · simp only [List.length_cons]; omega
    · simp only [List.length_cons]; omega
theorem bestGo_len (f : Tn → Nat) (x0 x1 : Int) (ts q : List Tn) (n : Nat) (hq : q.length ≤ 8) : ∀ (c most : Nat) (best : List Int), best.length ≤ 8 → (bestGo f x0 x1 ts q n c most best).length ≤ 8
  | 0, _, _, h => h
  | c + 1, most, best, h => by
    unfold bestGo
    split
    · exact bestGo_len f x0 x1 ts q n hq c _ _ (Nat.le_trans (selI_len _ _ _ _) hq)
    · exact bestGo_len f x0 x1 ts q n hq c _ _ h
theorem bestRes_len (f : Tn → Nat) (x0 x1 x2 x3 x4 x5 x6 x7 x8 : Int) (ts q : List Tn) : (bestRes f x0 x1 x2 x3 x4 x5 x6 x7 x8 ts q).length ≤ 8 := by
  unfold bestRes
  split
  · exact bestGo_len _ _ _ _ _ _ (by rw [List.length_take]; omega) _ _ _ (by simp)
  · simp
theorem allOk_mem {ts : List Tn} (h : allOk ts = true) : ∀ t ∈ ts, trainOk t.2 = true := fun t ht => List.all_eq_true.1 h t ht
theorem fits_valid {x0 x1 : Int} {ts : List Tn} (h : fits x0 x1 ts = true) : ts.length ≤ 8 ∧ ∀ t ∈ ts, trainOk t.2 = true := by
  unfold fits at h
  rw [Bool.and_eq_true] at h
  obtain ⟨h1, h2⟩ := distinct_parts h.1
  exact ⟨h1, fun t ht => by first | exact allOk_mem h2 t ht | exact h2 t ht⟩
theorem cnt_same : ∀ {l : List Tn}, (∀ t ∈ l, trainOk t.2 = true) → cntOf boatsI l = cntOf boatsS l
  | [], _ => rfl
  | t :: l, h => by
    have ih := cnt_same (l := l) (fun x hx => h x (by simp [hx]))
    unfold cntOf at *
    rw [List.map_cons, List.map_cons, List.sum_cons, List.sum_cons, ih]
    have : boatsI t = boatsS t := by unfold boatsI boatsS; rw [if_pos (h t (by simp))]
    rw [this]
theorem bestGo_same (x0 x1 : Int) (ts q : List Tn) (n : Nat) : ∀ (c most : Nat) (best : List Int), bestGo boatsI x0 x1 ts q n c most best = bestGo boatsS x0 x1 ts q n c most best
  | 0, _, _ => rfl
  | c + 1, most, best => by
    unfold bestGo
    cases hf : fits x0 x1 (ts ++ selT (c + 1) n 0 q) with
    | false => simp only [Bool.and_false, Bool.false_eq_true, if_false]; exact bestGo_same x0 x1 ts q n c most best
    | true =>
      have hv := (fits_valid hf).2
      have hc : cntOf boatsI (selT (c + 1) n 0 q) = cntOf boatsS (selT (c + 1) n 0 q) := cnt_same (fun t ht => hv t (List.mem_append.2 (.inr ht)))
      rw [hc]
      split
      · exact bestGo_same x0 x1 ts q n c _ _
      · exact bestGo_same x0 x1 ts q n c _ _
theorem bestRes_same (x0 x1 x2 x3 x4 x5 x6 x7 x8 : Int) (ts q : List Tn) : bestRes boatsI x0 x1 x2 x3 x4 x5 x6 x7 x8 ts q = bestRes boatsS x0 x1 x2 x3 x4 x5 x6 x7 x8 ts q := by
  unfold bestRes
  split
  · exact bestGo_same _ _ _ _ _ _ _ _
  · rfl

theorem ownsRow_formB {w : World} {base n sz : Nat} {t : TypeId} {v : Value} {xs : List Value} (h : w.ownsRow base t sz v n xs) : ∃ a c, v = .slice a n c := by
  rcases h.2 with ⟨e, h0⟩ | ⟨g, cap, cur, e, _⟩
  · exact ⟨none, 0, by rw [e, h0]⟩
  · exact ⟨_, _, e⟩
/-! ### Lists of trains whose rows lie in the world w -/
def EntOk (w : World) (es : List (Bool × Value)) (ts : List Tn) : Prop :=
  es.length = ts.length ∧ ∀ k (h : k < ts.length), ∃ a' c, es[k]? = some (ts[k].1, .slice a' ts[k].2.length c) ∧ ts[k].2.length ≤ maxLen ∧ RowsAt w a' ts[k].2
theorem EntOk.nil (w : World) : EntOk w [] [] := ⟨rfl, fun k h => absurd h (Nat.not_lt_zero _)⟩
theorem EntOk.push {w : World} {es : List (Bool × Value)} {ts : List Tn} {u : Bool} {rows : List (List Bt)} {a' : Option Addr} {c : Nat} (h : EntOk w es ts) (hm : rows.length ≤ maxLen) (hr : RowsAt w a' rows) : EntOk w (es ++ [(u, .slice a' rows.length c)]) (ts ++ [(u, rows)]) := by
  obtain ⟨h1, h2⟩ := h
  refine ⟨by simp [h1], fun k hk => ?_⟩
  by_cases e : k < ts.length
  · obtain ⟨b, d, e1, e2, e3⟩ := h2 k e
    rw [List.getElem_append_left e]
    exact ⟨b, d, by rw [List.getElem?_append_left (by omega)]; exact e1, e2, e3⟩
  · have ek : k = ts.length := by simp at hk; omega
    subst ek
    simp only [List.getElem_concat_length]
    exact ⟨a', c, by rw [← h1]; simp, hm, hr⟩
theorem EntOk.one {w : World} {es : List (Bool × Value)} {ts : List Tn} (h : EntOk w es ts) : ∀ e ∈ es, e.2.oneCell' = true := fun e he => by
  obtain ⟨k, hk, rfl⟩ := List.getElem_of_mem he
  obtain ⟨a', c, q1, _⟩ := h.2 k (by rw [← h.1]; exact hk)
  rw [List.getElem?_eq_getElem hk] at q1
  rw [Option.some.inj q1]
  rfl
/-- The entries as they lie. -/
theorem TrainsAt.ents {w : World} {a : Option Addr} {ts : List Tn} (h : TrainsAt w a ts) : ∃ es, EntOk w es ts ∧ (a = none → es = []) ∧ ∀ ad, a = some ad → ∀ (j : Nat) u, (es.flatMap eC)[j]? = some u → w.cell? (ad.add j) = some u := by
  have hex : ∀ k : Fin ts.length, ∃ v : Value, ∃ a' c, v = .slice a' ts[k.1].2.length c ∧ ts[k.1].2.length ≤ maxLen ∧ RowsAt w a' ts[k.1].2 ∧ ∃ b off, a = some ⟨b, off, none⟩ ∧ w.cell? ⟨b, off + k.1 * 2, none⟩ = some (.bool ts[k.1].1) ∧ w.cell? ⟨b, off + k.1 * 2 + 1, none⟩ = some v := fun k => by
    obtain ⟨b, off, a', c, e, h0, h1, h2, h3⟩ := h k.1 k.2
    exact ⟨_, a', c, rfl, h2, h3, b, off, e, h0, h1⟩
  obtain ⟨f, hf⟩ := Classical.axiomOfChoice hex
  have hlen : (List.ofFn (fun k : Fin ts.length => (ts[k.1].1, f k))).length = ts.length := by simp
  have hget : ∀ k (hk : k < ts.length), (List.ofFn (fun k : Fin ts.length => (ts[k.1].1, f k)))[k]? = some (ts[k].1, f ⟨k, hk⟩) := fun k hk => by
    rw [List.getElem?_eq_getElem (by rw [hlen]; exact hk), List.getElem_ofFn]
  refine ⟨List.ofFn (fun k : Fin ts.length => (ts[k.1].1, f k)), ⟨hlen, fun k hk => ?_⟩, fun e => ?_, fun ad e j u hu => ?_⟩
  · obtain ⟨a', c, e1, e2, e3, _⟩ := hf ⟨k, hk⟩
    exact ⟨a', c, by rw [hget k hk, e1], e2, e3⟩
  · refine List.eq_nil_of_length_eq_zero ?_
    rw [hlen]
    cases ts with
    | nil => rfl
    | cons t ts => obtain ⟨_, _, _, _, e', _⟩ := h 0 (by simp); rw [e] at e'; cases e'
  · have hj : j < ts.length * 2 := by
      have := (List.getElem?_eq_some_iff.1 hu).1
      rw [eC_flat_len, hlen] at this
      exact this
    obtain ⟨k, hk, hjk⟩ : ∃ k, k < ts.length ∧ (j = k * 2 ∨ j = k * 2 + 1) := ⟨j / 2, by omega, by omega⟩
    obtain ⟨a', c, e1, e2, e3, b, off, e4, e5, e6⟩ := hf ⟨k, hk⟩
    have hk' : k < (List.ofFn (fun k : Fin ts.length => (ts[k.1].1, f k))).length := by rw [hlen]; exact hk
    obtain ⟨g0, g1⟩ := eC_get (List.ofFn (fun k : Fin ts.length => (ts[k.1].1, f k))) k hk'
    have he : (List.ofFn (fun k : Fin ts.length => (ts[k.1].1, f k)))[k] = (ts[k].1, f ⟨k, hk⟩) := by rw [List.getElem_ofFn]
    rw [he] at g0 g1
    rw [e4] at e
    cases e
    rw [add_plain rfl]
    rcases hjk with rfl | rfl
    · rw [g0] at hu
      cases hu
      exact e5
    · rw [g1] at hu
      cases hu
      rw [← Nat.add_assoc]
      exact e6
theorem EntOk.trains {w wr : World} {es : List (Bool × Value)} {ts : List Tn} {base c n : Nat} {a : Option Addr} (h : EntOk w es ts) (hx : Ext w wr) (ho : wr.ownsRow base 36 2 (.slice a n c) ts.length (es.flatMap eC)) : TrainsAt wr a ts := fun k hk => by
  obtain ⟨a', c', e1, e2, e3⟩ := h.2 k hk
  rcases ho.2 with ⟨e, hn⟩ | ⟨g, cap, cur, e, hb, hheap, hnc, hcm, hcs, htake⟩
  · exfalso; omega
  · injection e with ea _ _
    subst ea
    have hke : k < es.length := by rw [h.1]; exact hk
    obtain ⟨f0, f1⟩ := eC_get es k hke
    rw [List.getElem?_eq_getElem hke] at e1
    rw [Option.some.inj e1] at f0 f1
    rw [← htake, List.getElem?_take] at f0 f1
    have hrow : RowAt wr g 36 cur := hheap
    refine ⟨g, 0, a', c', rfl, ?_, ?_, e2, e3.ext hx⟩
    · rw [Nat.zero_add]
      split at f0
      · exact hrow.cell (by simpa using f0)
      · cases f0
    · rw [Nat.zero_add]
      split at f1
      · exact hrow.cell (by simpa using f1)
      · cases f1

set_option maxHeartbeats 1000000 in
/-- slices.Clone of trains. -/
theorem cloneTrains_any (a : Option Addr) (n c : Nat) (es : List (Bool × Value)) (w : World) (hn : n = es.length) (hs : n ≤ 1048576) (hc : a = none → c = 0) (he : a = none → es = []) (hf : ∀ ad, a = some ad → ∀ (j : Nat) u, (es.flatMap eC)[j]? = some u → w.cell? (ad.add j) = some u) (hone : ∀ e ∈ es, e.2.oneCell' = true) :
    Calls Try.prog 87 #[.slice a n c] w fun e w' => ∃ a' c', e = .returned (.slice a' n c') ∧ w'.ownsRow w.heap.size 36 2 (.slice a' n c') n (es.flatMap eC) ∧ Ext w w' := by
  have qT : ∀ (w : World) (a : Option Addr) (n c n' c' : Nat), (binOp .eql 31 (.slice a n c) (.slice none n' c')).run Try.prog w = .ok (.bool a.isNone) w := fun w a n c n' c' => Lib.run_eql_slice_nil w _ _ a n c n' c' Try.underlying31
  have HF := Lib.hid hf; clear hf
  have HE := Lib.hid he; clear he
  have HO := Lib.hid hone; clear hone
  have HN := Lib.hid hn
  clear hn
  cases a with
  | none =>
    have hr := Lib.hid (HE.out rfl)
    have hn0 := Lib.hid (show n = 0 by rw [HN.out, hr.out]; rfl)
    go_enter Try.func87, Try.ntmps87
    go_wp2
    go_ret
    exact ⟨none, 0, by (show Ending.returned (Value.slice none 0 0) = _); rw [hn0.out], by rw [hr.out, hn0.out]; exact World.ownsRow_nil _ _ _ _, Ext.refl _⟩
  | some ad =>
    have HL := Lib.hid (show (w.alloc (.cells #[] 36)).ownsRow w.heap.size 36 2 (.slice (some ⟨w.heap.size, 0, none⟩) 0 0) 0 (([] : List (Bool × Value)).flatMap eC) from by
      have := World.ownsRow_lit (base := w.heap.size) (e := 36) (size := 2) w #[] 0 (by simp) (by unfold maxLen; omega) rfl
      simpa using this)
    have HX := Lib.hid ((Ext.refl w).alloc (.cells #[] 36))
    have HC := Lib.hid (show ∀ ad', (some ad : Option Addr) = some ad' → ∀ (j : Nat) u, (es.flatMap eC)[j]? = some u → (w.alloc (.cells #[] 36)).cell? (ad'.add j) = some u from fun ad' e j u hu => HX.out.cell (HF.out ad' e j u hu))
    go_enter Try.func87, Try.ntmps87
    go_wp2_with (at_builtin; refine wpList_plain rfl fun K hK => wp_append_trains _ _ rfl w.heap.size (.slice (some ⟨w.heap.size, 0, none⟩) 0 0) 0 [] rfl HL.out (some ad) n c rfl es HN.out.symm (fun h => by cases h) HC.out HO.out (by omega) (by simp) ?_)
    intro v' w5 hown5 hgrow5 _
    have hx5 : Ext w w5 := Ext.own2 ((Ext.refl w).alloc (.cells #[] 36)) hgrow5 HL.out (Nat.le_refl _)
    have HP := Lib.hid (show w5.ownsRow w.heap.size 36 2 v' n (es.flatMap eC) by simpa using hown5)
    obtain ⟨a9, c9, hv⟩ : ∃ a9 c9, v' = .slice a9 n c9 := by
      rcases HP.out.2 with ⟨e, h0⟩ | ⟨g, cap, cur, e, _⟩
      · exact ⟨none, 0, by rw [e, h0]⟩
      · exact ⟨_, _, e⟩
    subst hv
    clear hown5 hgrow5
    refine hK _ _ ?_
    clear hK K
    go_wp2
    go_ret
    exact ⟨a9, c9, rfl, HP.out, hx5⟩

set_option maxHeartbeats 1000000 in
theorem countBoats_any (N : Nat) (u : Bool) (a : Option Addr) (n c : Nat) (rows : List (List Bt)) (w : World) (hn : n = rows.length) (hs : n ≤ 1048576) (ht : rows.flatten.length ≤ 1048576) (hf : RowsAt w a rows) (hN : rows.flatten.length = N) :
    Calls Try.prog 88 #[.agg #[.bool u, .slice a n c]] w fun e w' => e = .returned (.int .i64 N) ∧ Ext w w' := by
  have HF := Lib.hid hf; clear hf
  have HN := Lib.hid hn; clear hn
  have HR := Lib.hid hN
  have HB := RowAt.new w 36 #[.bool u, .slice a n c]
  have h1 : (w.alloc (.cells #[.bool u, .slice a n c] 36)).cell? ⟨w.heap.size, 1, none⟩ = some (.slice a n c) := HB.cell rfl
  clear HB
  have HX := Lib.hid ((Ext.refl w).alloc (.cells #[.bool u, .slice a n c] 36))
  have hl : N ≤ 1048576 := by omega
  clear hN
  go_enter Try.func88, Try.ntmps88
  go_wp2
  go_loopw [3, 9] (fun s i wr => ∃ (k t : Nat), k ≤ n ∧ t ≤ N ∧ i = .int .i64 k ∧ s = .int .i64 t ∧ Hid (Ext w wr) ∧ Hid (t = (rows.take k).flatten.length)) (fun _ i _ => n - (intOf i).toNat)
  case atStart => exact ⟨0, 0, Nat.zero_le _, Nat.zero_le _, rfl, rfl, HX, Lib.hid (by simp)⟩
  case round =>
    obtain ⟨k, t, hk, ht2, rfl, rfl, hr, hgo⟩ := hrel
    by_cases hlt : k < n
    · have hlt' : k < rows.length := by rw [← HN.out]; exact hlt
      obtain ⟨b, off, a', c', rfl, hc0, _⟩ := HF.out k hlt'
      have e0 := hr.out.cell hc0
      have HG := Lib.hid (show t + rows[k].length = (rows.take (k + 1)).flatten.length by rw [hgo.out, rows_take hlt', List.flatten_append, List.length_append]; simp)
      have hle : t + rows[k].length ≤ N := by
        have h1 := HG.out
        have h2 : (rows.take (k + 1)).flatten.length ≤ rows.flatten.length := flatten_take_le rows (k + 1)
        have := HR.out
        omega
      obtain ⟨r, hr'⟩ : ∃ r, rows[k].length = r := ⟨_, rfl⟩
      rw [hr'] at e0 HG hle
      clear hr' hc0 hgo
      go_wp2
      go_roundw
      case rel => exact ⟨k + 1, t + r, by omega, by omega, by go_num, by go_num, hr, HG⟩
      case measure => simp [intOf]; omega
    · have hF := Lib.hid (show t = N by rw [hgo.out, ← HR.out, List.take_of_length_le (by rw [← HN.out]; omega)])
      go_wp2
      go_ret
      exact ⟨ret_int (by rw [hF.out]), hr.out⟩
end Go.Proofs.Ytooedgaaaoinbaa
