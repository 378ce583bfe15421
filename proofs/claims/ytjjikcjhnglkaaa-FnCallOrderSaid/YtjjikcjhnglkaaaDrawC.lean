/- A list of calls that has been drawn. -/
import Derived.Test.YtjjikcjhnglkaaaProg
import Derived.Test.YtjjikcjhnglkaaaDrawTr
import Derived.Test.YtjjikcjhnglkaaaOrdC
namespace Go.Proofs.Ytjjikcjhnglkaaa
open Go.RowKit
set_option linter.unusedSimpArgs false
set_option linter.unusedVariables false

theorem ints_new6 (w : World) (x0 x1 x2 x3 x4 x5 : Int) : IntsAt (w.alloc (.cells #[.int .i64 x0, .int .i64 x1, .int .i64 x2, .int .i64 x3, .int .i64 x4, .int .i64 x5] 3)) (some ⟨w.heap.size, 0, none⟩) [x0, x1, x2, x3, x4, x5] := by
  intro k hk
  refine ⟨w.heap.size, 0, rfl, ?_⟩
  rw [Nat.zero_add]
  have h := RowAt.new w 3 #[.int .i64 x0, .int .i64 x1, .int .i64 x2, .int .i64 x3, .int .i64 x4, .int .i64 x5]
  match k, hk with
  | 0, _ => exact h.cell rfl
  | 1, _ => exact h.cell rfl
  | 2, _ => exact h.cell rfl
  | 3, _ => exact h.cell rfl
  | 4, _ => exact h.cell rfl
  | 5, _ => exact h.cell rfl
/-- A call that has been drawn, with the numbers that it may bear. -/
def ClOk (si bo : Int) : Prop := (0 ≤ si ∧ si ≤ 100) ∧ (bo = -1 ∨ bo = 97 ∨ bo = 100 ∨ bo = 105)

set_option maxRecDepth 100000 in
set_option maxHeartbeats 2000000 in
theorem l06Call_any (w0 w : World) (B : Nat) (bs : List Int) (id : Int) (h0 : 1 ≤ id) (h1 : id ≤ 9000) (hc : CurAt w0 w B bs) :
    Calls Try.prog 12 #[.pointer (some ⟨B, 0, none⟩), .int .i64 id, .int .i64 100] w fun e w' => ∃ (u : Bool) (rows : List (List Bt)) (si bo : Int) (a : Option Addr) (n c k : Nat) (vs : List Value), (1 ≤ k ∧ k ≤ 4) ∧ GoodAcc id k rows ∧ ClOk si bo ∧ n = rows.length ∧ e = .returned (.agg #[.bool u, .slice a n c, .int .i64 si, .int .i64 bo]) ∧ GR w' w.heap.size w'.heap.size (.slice a n c) vs rows ∧ CurAt w0 w' B bs ∧ w.grownBy w' (some B) := by
  have zB := hc.lt
  have hwB := hc.1
  have HC := Lib.hid hc; clear hc
  have RZ := RowAt.new w 34 #[.bool false, .slice none 0 0, .int .i64 0, .int .i64 0]
  have E1 := (Ext.refl w).alloc (.cells #[.bool false, .slice none 0 0, .int .i64 0, .int .i64 0] 34)
  go_enter Try.func12, Try.ntmps12
  go_wp2_with fail
  refine (l04Train_any w0 _ B bs id h0 h1 (HC.out.ext E1)).mono ?_
  rintro e w1 ⟨u, a2, n2, c2, k, vs, rows, hk, hgood, hn2, rfl, hgr, hc1, ho1⟩
  have hs1 := ho1.size
  simp only [World.size_alloc] at hs1 hgr
  have HR1 := Lib.hid (RZ.only ho1 (by omega))
  have HO1 := Lib.hid (show w.grownBy w1 (some B) from ⟨ho1.os, ho1.tape, ho1.output, by omega, fun k hk hne => (ho1.block k (Nat.lt_of_lt_of_le hk E1.size) hne).trans (E1.below.block k hk)⟩)
  have HG1 := Lib.hid hgr; have HGD := Lib.hid hgood; have HN2 := Lib.hid hn2; have HC1 := Lib.hid hc1
  have E2 := (Ext.refl w1).alloc (.cells #[.int .i64 0, .int .i64 5, .int .i64 19, .int .i64 20, .int .i64 45, .int .i64 70] 3)
  have HIN := Lib.hid (ints_new6 w1 0 5 19 20 45 70)
  clear hc1 ho1 RZ E1 hgr hgood hn2
  go_wp2_with fail
  refine (l01PickInt_any w0 _ B bs _ 6 _ [0, 5, 19, 20, 45, 70] rfl (by decide) (by decide) HIN.out (fun ad e => by cases e; dsimp only; omega) (HC1.out.ext E2)).mono ?_
  rintro e w2 ⟨x, hx, rfl, hc2, ho2⟩
  have hx0 : 0 ≤ x ∧ x ≤ 70 := by simp at hx; omega
  obtain ⟨hx0, hx1⟩ := hx0
  have hs2 := ho2.size
  simp only [World.size_alloc] at hs2
  have HR2 := Lib.hid ((HR1.out.ext E2).only ho2 (by omega))
  have HG2 := Lib.hid ((HG1.out.ext E2).grown ho2 (fun B' e => by cases e; left; omega))
  have HO2 := Lib.hid (only_trans (only_ext HO1.out E2) ho2)
  have HC2 := Lib.hid hc2
  have hmx : max (0 : Int) (100 - x) = 100 - x := by omega
  have E3 := (Ext.refl w2).alloc (.cells #[.int .i64 (-1), .int .i64 (-1), .int .i64 (-1), .int .i64 97, .int .i64 100, .int .i64 105] 3)
  have HIN2 := Lib.hid (ints_new6 w2 (-1) (-1) (-1) 97 100 105)
  clear hx hc2 ho2 HR1 HG1 HO1 HC1 HIN E2
  go_wp2_with fail
  refine (l01PickInt_any w0 _ B bs _ 6 _ [-1, -1, -1, 97, 100, 105] rfl (by decide) (by decide) HIN2.out (fun ad e => by cases e; dsimp only; omega) (HC2.out.ext E3)).mono ?_
  rintro e w3 ⟨y, hy, rfl, hc3, ho3⟩
  have hy0 : y = -1 ∨ y = 97 ∨ y = 100 ∨ y = 105 := by simp at hy; omega
  have HY := Lib.hid hy0
  have hs3 := ho3.size
  simp only [World.size_alloc] at hs3
  have HR3 := (HR2.out.ext E3).only ho3 (by omega)
  have HG3 := Lib.hid ((HG2.out.ext E3).grown ho3 (fun B' e => by cases e; left; omega))
  have HO3 := Lib.hid (only_trans (only_ext HO2.out E3) ho3)
  have HC3 := Lib.hid hc3
  clear hy hc3 ho3 HR2 HG2 HO2 HC2 HIN2 E3 hy0
  have q0 : w3.cell? ⟨w.heap.size, 0, none⟩ = some (.bool false) := HR3.cell rfl
  have q1 : w3.cell? ⟨w.heap.size, 1, none⟩ = some (.slice none 0 0) := HR3.cell rfl
  have q2 : w3.cell? ⟨w.heap.size, 2, none⟩ = some (.int .i64 0) := HR3.cell rfl
  have q3 : w3.cell? ⟨w.heap.size, 3, none⟩ = some (.int .i64 0) := HR3.cell rfl
  have f0 := HR3.frozen 0
  have f1 := HR3.frozen 1
  have f2 := HR3.frozen 2
  have f3 := HR3.frozen 3
  have zz := HR3.lt
  go_wp2
  refine bodyPost_ret (v := .agg #[.bool u, .slice a2 n2 c2, .int .i64 (100 - x), .int .i64 y]) (by simp [results, Try.results12, go_sem, *]) rfl ⟨u, rows, 100 - x, y, a2, n2, c2, k, vs, hk, HGD.out, ⟨by omega, HY.out⟩, HN2.out, rfl, ?_, ?_, ?_⟩
  · exact ((((HG3.out.set (p := ⟨w.heap.size, 0, none⟩) (.inl (by dsimp only; omega)) _).set (p := ⟨w.heap.size, 1, none⟩) (.inl (by dsimp only; omega)) _).set (p := ⟨w.heap.size, 2, none⟩) (.inl (by dsimp only; omega)) _).set (p := ⟨w.heap.size, 3, none⟩) (.inl (by dsimp only; omega)) _).wide (by omega) (by simp only [size_setCell']; omega)
  · exact ((((HC3.out.only (grownBy_set _ ⟨w.heap.size, 0, none⟩ _) (by dsimp only; omega) (by dsimp only; omega)).only (grownBy_set _ ⟨w.heap.size, 1, none⟩ _) (by dsimp only; omega) (by dsimp only; omega)).only (grownBy_set _ ⟨w.heap.size, 2, none⟩ _) (by dsimp only; omega) (by dsimp only; omega)).only (grownBy_set _ ⟨w.heap.size, 3, none⟩ _) (by dsimp only; omega) (by dsimp only; omega))
  · have st : ∀ (a : World) (j : Nat) (x : Value), w.grownBy a (some B) → w.grownBy (a.setCell ⟨w.heap.size, j, none⟩ x) (some B) := fun a j x h => grown_step h (Ext.refl _) (grownBy_set a ⟨w.heap.size, j, none⟩ x) (fun k hk => by cases hk; exact .inr (Nat.le_refl _))
    exact st _ _ _ (st _ _ _ (st _ _ _ (st _ _ _ HO3.out)))

/-- A call with the slice of its train. -/
structure Ec where
  c : Cl
  a : Option Addr
  cap : Nat
def eCells (e : Ec) : List Value := [.bool e.c.u, .slice e.a e.c.rows.length e.cap, .int .i64 e.c.si, .int .i64 e.c.bo]
theorem eCells_len (e : Ec) : (eCells e).length = 4 := rfl
theorem eCells_one (es : List Ec) : ∀ v ∈ es.flatMap eCells, v.oneCell' = true := by
  intro v hv
  obtain ⟨e, _, hv⟩ := List.mem_flatMap.1 hv
  simp [eCells] at hv
  rcases hv with rfl | rfl | rfl | rfl <;> rfl
theorem info_call : (Try.prog.info? 34).map (fun i => (i.zero, i.size, i.bytes)) = some (some (.agg #[.bool false, .slice none 0 0, .int .i64 0, .int .i64 0]), 4, 48) := by kernel_rfl
theorem eCells_flat_len (es : List Ec) : (es.flatMap eCells).length = es.length * 4 := by
  induction es with
  | nil => rfl
  | cons e es ih => rw [List.flatMap_cons, List.length_append, ih, eCells_len, List.length_cons]; omega
theorem wp_append_call {w : World} {o : Oper} {a : Act} {K : Act → World → Prop} {Q : Exit → Act → World → Prop} (s x : Operand)
    (ho : o.op = .call { callee := .builtin .append, args := #[s, x], argTypes := #[24, 24] })
    (base : Nat) (v : Value) (n : Nat) (es : List Ec) (hs : a.eval s = v) (hown : w.ownsRow base 34 4 v n (es.flatMap eCells))
    (B c : Nat) (hx : a.eval x = .slice (some ⟨B, 0, none⟩) 1 c) (e : Ec) (hB : RowAt w B 34 #[.bool e.c.u, .slice e.a e.c.rows.length e.cap, .int .i64 e.c.si, .int .i64 e.c.bo])
    (hle : n + 1 ≤ 1048576) (hbase : base ≤ w.heap.size)
    (h : ∀ v' w', w'.ownsRow base 34 4 v' (n + 1) ((es ++ [e]).flatMap eCells) → w.grownBy w' v.ownBlock → (v'.ownBlock = v.ownBlock ∨ v'.ownBlock = some w.heap.size) → K (a.put o.dst v') w') : o.wp Try.prog a w K Q := by
  refine wp_append_any w s x _ 34 ho base _ 4 48 Try.underlying24 info_call rfl (by decide) v n _ hs hown _ 1 c hx ([e].flatMap eCells) (fun h => by cases h) (by rw [eCells_flat_len]; rfl) ?_ (eCells_one _) (by unfold maxLen; omega) (by omega) hbase ?_
  · intro ad ea j u hu
    cases ea
    rw [add_plain rfl, Nat.zero_add]
    match j, hu with
    | 0, hu => cases hu; exact hB.cell rfl
    | 1, hu => cases hu; exact hB.cell rfl
    | 2, hu => cases hu; exact hB.cell rfl
    | 3, hu => cases hu; exact hB.cell rfl
    | j + 4, hu => simp [eCells] at hu
  · intro v' w' h1 h2 h3
    exact h v' w' (by rw [List.flatMap_append]; exact h1) h2 h3

/-- Calls in a slice of the call's own, from block 'base' on, the trains in windows that the slice's block is not of. -/
def CG (w : World) (base : Nat) (v : Value) (es : List Ec) : Prop :=
  w.ownsRow base 34 4 v es.length (es.flatMap eCells) ∧ ∀ e ∈ es, ∃ lo hi vs, GR w lo hi (.slice e.a e.c.rows.length e.cap) vs e.c.rows ∧ base ≤ lo ∧ hi ≤ w.heap.size ∧ (∀ g, v.ownBlock = some g → g < lo ∨ hi ≤ g)
theorem CG.ext {w w' : World} {base : Nat} {v : Value} {es : List Ec} (h : CG w base v es) (hx : Ext w w') : CG w' base v es :=
  ⟨ownsRow_ext h.1 hx, fun e he => let ⟨lo, hi, vs, h1, h2, h3, h4⟩ := h.2 e he; ⟨lo, hi, vs, h1.ext hx, h2, Nat.le_trans h3 hx.size, h4⟩⟩
theorem CG.cur {w w' : World} {base B : Nat} {v : Value} {es : List Ec} (h : CG w base v es) (hg : w.grownBy w' (some B)) (hB : B < base) : CG w' base v es :=
  ⟨ownsRow_kept h.1 hg (fun g hv e => by have := (ownsRow_lt h.1 hv).1; cases e; omega), fun e he =>
    let ⟨lo, hi, vs, h1, h2, h3, h4⟩ := h.2 e he; ⟨lo, hi, vs, h1.grown hg (fun B' e' => by cases e'; left; omega), h2, Nat.le_trans h3 hg.size, h4⟩⟩
theorem CG.push {w1 w2 : World} {base lo hi : Nat} {v v' : Value} {es : List Ec} {vs : List Value} (h : CG w1 base v es) (e : Ec) (hgr : GR w1 lo hi (.slice e.a e.c.rows.length e.cap) vs e.c.rows) (hlo : base ≤ lo) (hhi : hi ≤ w1.heap.size) (hv : ∀ g, v.ownBlock = some g → g < lo ∨ hi ≤ g)
    (hown : w2.ownsRow base 34 4 v' (es.length + 1) ((es ++ [e]).flatMap eCells)) (hg : w1.grownBy w2 v.ownBlock) (hat : v'.ownBlock = v.ownBlock ∨ v'.ownBlock = some w1.heap.size) : CG w2 base v' (es ++ [e]) := by
  refine ⟨by rw [List.length_append]; exact hown, fun e' he' => ?_⟩
  have key : ∀ (lo hi : Nat), hi ≤ w1.heap.size → (∀ g, v.ownBlock = some g → g < lo ∨ hi ≤ g) → ∀ g, v'.ownBlock = some g → g < lo ∨ hi ≤ g := fun lo hi h1 h2 g hg' => by
    rcases hat with e1 | e1
    · exact h2 g (e1 ▸ hg')
    · rw [e1] at hg'; cases hg'; exact .inr h1
  rcases List.mem_append.1 he' with h1 | h1
  · obtain ⟨l, r, us, g1, g2, g3, g4⟩ := h.2 e' h1
    exact ⟨l, r, us, g1.grown hg (fun B e1 => g4 B e1), g2, Nat.le_trans g3 hg.size, key l r g3 g4⟩
  · rw [List.mem_singleton] at h1
    subst h1
    exact ⟨lo, hi, vs, hgr.grown hg (fun B e1 => hv B e1), hlo, Nat.le_trans hhi hg.size, key lo hi hhi hv⟩
theorem CG.form {w : World} {base : Nat} {v : Value} {es : List Ec} (h : CG w base v es) : ∃ a c, v = .slice a es.length c ∧ CallsAt w a (es.map Ec.c) := by
  obtain ⟨a, c, e, hf, _⟩ := ownsRow_flat eCells_len h.1
  refine ⟨a, c, e, fun k hk => ?_⟩
  rw [List.length_map] at hk
  obtain ⟨b, off, ea, hc⟩ := hf.get k hk
  obtain ⟨lo, hi, vs, h1, _⟩ := h.2 _ (List.getElem_mem hk)
  obtain ⟨a', c', e2, _, h3⟩ := h1.rows
  injection e2 with q1 q2 q3
  have g0 := hc 0 _ rfl w (Ext.refl _)
  have g1 := hc 1 _ rfl w (Ext.refl _)
  have g2 := hc 2 _ rfl w (Ext.refl _)
  have g3 := hc 3 _ rfl w (Ext.refl _)
  rw [← q1] at h3
  simp only [List.getElem_map]
  exact ⟨b, off, es[k].a, es[k].cap, ea, g0, g1, g2, g3, h3⟩
theorem CG.lit (w : World) {base : Nat} (hb : base ≤ w.heap.size) : CG (w.alloc (.cells #[] 34)) base (.slice (some ⟨w.heap.size, 0, none⟩) 0 0) [] :=
  ⟨by
    have := World.ownsRow_lit (base := w.heap.size) (e := 34) (size := 4) w #[] 0 (by simp) (by unfold maxLen; omega) rfl
    exact ownsRow_low (by simpa using this) hb, fun e he => by cases he⟩

/-- A call that has been drawn under the Id 'id'. -/
def CDn (id : Int) (c : Cl) : Prop := ∃ k, (1 ≤ k ∧ k ≤ 4) ∧ GoodAcc id k c.rows ∧ ClOk c.si c.bo
/-- A list of calls that has been drawn: K were meant, j are still to come. -/
def CQ (K j : Nat) (es : List Ec) : Prop := K ≤ 6 ∧ es.length + j = K ∧ ∀ i (h : i < es.length), CDn (10 * (((K - i : Nat) : Int))) es[i].c
theorem CQ.push {K j : Nat} {es : List Ec} {e : Ec} (h : CQ K (j + 1) es) (ht : CDn (10 * ((j : Int) + 1)) e.c) : CQ K j (es ++ [e]) := by
  refine ⟨h.1, by rw [List.length_append]; have := h.2.1; simp; omega, fun i hi => ?_⟩
  by_cases e1 : i < es.length
  · rw [List.getElem_append_left e1]
    exact h.2.2 i e1
  · have e2 : i = es.length := by simp at hi; omega
    subst e2
    rw [List.getElem_concat_length rfl]
    have e3 : (((K - es.length : Nat) : Int)) = (j : Int) + 1 := by have := h.2.1; omega
    rw [e3]
    exact ht

set_option maxRecDepth 100000 in
set_option maxHeartbeats 2000000 in
theorem DrawCalls_any (a : Option Addr) (n c : Nat) (bs : List Int) (w : World) (hn : n = bs.length) (hs : n ≤ 1048576) (hf : BytesAt w a bs) :
    Calls Try.prog 5 #[.slice a n c] w fun e w' => ∃ (v : Value) (es : List Ec) (K base : Nat), CQ K 0 es ∧ e = .returned v ∧ CG w' base v es ∧ Ext w w' := by
  have HF := Lib.hid hf; clear hf
  have HN := Lib.hid hn; clear hn
  go_enter Try.func5, Try.ntmps5
  go_wp2_with fail
  refine (l01New_any _ _ _ bs _ HN.out hs HF.out).mono ?_
  rintro e w1 ⟨rfl, hc1⟩
  have X1 := Lib.hid hc1.2.1
  have zc := hc1.lt
  have EQ := (Ext.refl w1).alloc (.cells #[] 34)
  have HC1 := Lib.hid (hc1.ext EQ)
  have HG1 := Lib.hid (CG.lit w1 (base := w1.heap.size) (Nat.le_refl _))
  have HW1 := Lib.hid (only_ext (B := w.heap.size) (show w1.grownBy w1 (some w.heap.size) from ⟨rfl, rfl, rfl, Nat.le_refl _, fun _ _ _ => rfl⟩) EQ)
  clear hc1 EQ
  go_wp2_with fail
  refine (l01Below_any _ _ _ bs 7 (by decide) (by decide) HC1.out).mono ?_
  rintro e w3 ⟨m, hm, rfl, hc3, ho3⟩
  have hs3 := ho3.size
  simp only [World.size_alloc] at hs3
  have HC3 := Lib.hid hc3
  have HG3 := Lib.hid (HG1.out.cur ho3 (by omega))
  have HW3 := Lib.hid (only_trans HW1.out ho3)
  clear hc3 ho3 HG1 HC1 HW1
  obtain ⟨m, rfl⟩ := Int.eq_ofNat_of_zero_le hm.1
  have hm6 : m ≤ 6 := by have := hm.2; omega
  clear hm
  obtain ⟨B, hB⟩ : ∃ x, x = w.heap.size := ⟨_, rfl⟩
  rw [← hB] at HC3 HW3 zc
  go_wp2
  go_loopw [4, 5] (fun v kk wr => ∃ (j : Nat) (es : List Ec), kk = .int .i64 j ∧ j ≤ 6 ∧ w1.heap.size ≤ wr.heap.size ∧ Hid (CurAt w wr B bs) ∧ Hid (w1.grownBy wr (some B)) ∧ Hid (CG wr w1.heap.size v es) ∧ Hid (CQ m j es)) (fun _ kk _ => (intOf kk).toNat)
  case atStart => exact ⟨m, [], rfl, hm6, by omega, HC3.out, HW3.out, HG3.out, ⟨hm6, by simp, fun i h => absurd h (Nat.not_lt_zero _)⟩⟩
  case round =>
    clear HC3 HG3 HW3
    obtain ⟨j, es, rfl, hj, hlb, hcu, hgw, hcg, hq⟩ := hrel
    by_cases hlt : 0 < j
    · obtain ⟨jj, rfl⟩ : ∃ jj, j = jj + 1 := ⟨j - 1, by omega⟩
      have hnj : es.length + (jj + 1) = m := hq.out.2.1
      have hcb := hcu.out.lt
      have hwB : w.heap.size ≤ B := by omega
      go_wp2_with fail
      refine (l06Call_any w _ w.heap.size bs (10 * ((jj : Int) + 1)) (by omega) (by omega) (hB ▸ hcu.out)).mono ?_
      rintro e w2 ⟨u, rows, si, bo, a2, n2, c2, k, vs, hk, hgood, hclok, hn2, rfl, hgr, hc2, ho2⟩
      rw [← hB] at hc2 ho2
      have HDN := Lib.hid (show CDn (10 * ((jj : Int) + 1)) (⟨u, rows, si, bo⟩ : Cl) from ⟨k, hk, hgood, hclok⟩)
      have hs2 := ho2.size
      have HX2 := Lib.hid ((Ext.refl w2).alloc (.cells #[.bool u, .slice a2 n2 c2, .int .i64 si, .int .i64 bo] 34))
      have HN2 := Lib.hid hn2
      have HGR := Lib.hid (hgr.ext HX2.out)
      have YG2 := Lib.hid ((hcg.out.cur ho2 (by omega)).ext HX2.out)
      have YC2 := Lib.hid (hc2.ext HX2.out)
      have YW2 := Lib.hid (only_ext (only_trans hgw.out ho2) HX2.out)
      have HBK := Lib.hid (RowAt.new w2 34 #[.bool u, .slice a2 n2 c2, .int .i64 si, .int .i64 bo])
      have HV := Lib.hid (show ∀ g, u4.ownBlock = some g → w1.heap.size ≤ g ∧ g < wr.heap.size from fun g hg => ownsRow_lt hcg.out.1 hg)
      clear hgr hc2 ho2 hgood hk hn2 hclok
      go_wp2_with (at_builtin; refine wpList_plain rfl fun K hK => wp_append_call _ _ rfl w1.heap.size _ es.length es rfl YG2.out.1 _ 1 rfl (⟨⟨u, rows, si, bo⟩, a2, c2⟩ : Ec) (by dsimp only; rw [← HN2.out]; exact HBK.out) (by omega) (by simp; omega) ?_)
      intro v3 w3 hown3 hg3 hat3
      have hs3 := hg3.size
      simp only [World.size_alloc] at hs3
      have YG3 := Lib.hid (CG.push (lo := wr.heap.size) (hi := w2.heap.size) YG2.out (⟨⟨u, rows, si, bo⟩, a2, c2⟩ : Ec) (by dsimp only; rw [← HN2.out]; exact HGR.out) (by omega) (by simp) (fun g hg => .inl (HV.out g hg).2) (by simpa using hown3) hg3 (by simpa using hat3))
      have YC3 := Lib.hid (CurAt.own YC2.out hg3 (fun g hg => by have := HV.out _ hg; omega))
      have YW3 := Lib.hid (grown_step YW2.out (Ext.refl _) hg3 (fun g hg => by have := HV.out _ hg; right; omega))
      clear hown3 hg3 hat3 HBK HX2 HGR YG2 YC2 YW2
      refine hK _ _ ?_
      clear hK K
      go_wp2
      go_roundw
      case rel => exact ⟨jj, _, by go_num, by omega, by omega, YC3, YW3, YG3, hq.out.push HDN.out⟩
      case measure => simp [intOf]
    · have hj0 : j = 0 := by omega
      subst hj0
      have HE := Lib.hid (X1.out.only hgw.out (by omega))
      go_wp2
      go_ret
      exact ⟨_, es, m, _, hq.out, rfl, hcg.out, HE.out⟩
end Go.Proofs.Ytjjikcjhnglkaaa
