/- ReformTrain: what it computes; the program's side. -/
import Derived.Test.YtmcmialaofckkaaProg
import Derived.Test.YtmcmialaofckkaaCouple
import Derived.Test.YtmcmialaofckkaaOpenC
namespace Go.Proofs.Ytmcmialaofckkaa
open Go.RowKit
set_option linter.unusedSimpArgs false
set_option linter.unusedVariables false

/-! ### The plain law -/
def addLast (rows : List (List Bt)) (b : Bt) : List (List Bt) := rows.set (rows.length - 1) ((rows.getD (rows.length - 1) []) ++ [b])
def refGo (W : Int) (acc : List (List Bt)) (used : Int) : List Bt → Option (List (List Bt))
  | [] => some acc
  | b :: bs => if W < b.wid then none
    else if 0 < acc.length ∧ used + b.wid ≤ W then refGo W (addLast acc b) (used + b.wid) bs
    else refGo W (acc ++ [[b]]) b.wid bs
def refRes (u : Bool) (rows : List (List Bt)) (W : Int) : Bool × List (List Bt) × Bool :=
  if trainOk rows = true then (match refGo W [] 0 rows.flatten with | some x => (u, x, true) | none => (false, [], false)) else (false, [], false)
theorem addLast_len (rows : List (List Bt)) (b : Bt) : (addLast rows b).length = rows.length := by simp [addLast]

/-! ### Memory: the last row grows -/
theorem ownsRow_setLast {w : World} {lo : Nat} {e : TypeId} {v : Value} {n : Nat} {vs : List Value} {g cap : Nat} (hv : v = .slice (some ⟨g, 0, none⟩) n cap) (h : w.ownsRow lo e 1 v n vs) (k : Nat) (hk : k < n) (x : Value) :
    (w.setCell ⟨g, k, none⟩ x).ownsRow lo e 1 v n (vs.set k x) := by
  refine ⟨by rw [List.length_set]; exact h.1, ?_⟩
  rcases h.2 with ⟨e', hn⟩ | ⟨g', cap', cur, e', hb, hh, hnc, hcm, hcs, ht⟩
  · rw [hv] at e'
    cases e'
  · rw [hv] at e'
    injection e' with ea en ec
    injection ea with ea
    injection ea with eg
    subst eg ec
    refine .inr ⟨g, cap, cur.setIfInBounds k x, hv, hb, (RowAt.set (show RowAt w g e cur from hh) k x), hnc, hcm, by simpa using hcs, ?_⟩
    rw [Array.toList_setIfInBounds, List.take_set, ht]
theorem GR.growLast {w w1 w2 : World} {lo hi : Nat} {v u u' : Value} {vs : List Value} {rows : List (List Bt)} {b : Bt} {k g cap : Nat} (h : GR w lo hi v vs rows) (hlen : rows.length = k + 1) (hv : v = .slice (some ⟨g, 0, none⟩) (k + 1) cap) (hu : vs[k]? = some u) (hx : Ext w w1) (hhi : hi ≤ w.heap.size)
    (hown : OwnRow w2 lo u' (rows.getD k [] ++ [b])) (hg : w1.grownBy w2 u.ownBlock) (hat : u'.ownBlock = u.ownBlock ∨ u'.ownBlock = some w1.heap.size) :
    GR (w2.setCell ⟨g, k, none⟩ u') lo (w2.setCell ⟨g, k, none⟩ u').heap.size v (vs.set k u') (addLast rows b) := by
  have hs1 := hx.size
  have hs2 := hg.size
  have hvb : v.ownBlock = some g := by rw [hv]; rfl
  have hghi := h.2.2.1 g hvb
  obtain ⟨u0, e0, ho0, hd0⟩ := h.2.2.2 k (by omega)
  rw [hu] at e0
  cases e0
  have hvu : ∀ g', u.ownBlock = some g' → g' ≠ g := fun g' hg' e => (hd0 g' hg').2.1 (by rw [hvb, e])
  have hrows : rows.length - 1 = k := by omega
  have hg3 := grownBy_set w2 ⟨g, k, none⟩ u'
  have hou : w2.ownsRow lo 33 1 v (k + 1) vs := by
    have := ownsRow_kept (ownsRow_ext h.2.1 hx) hg (fun g' hg' e => hvu g' e (by rw [hvb] at hg'; exact (Option.some.inj hg').symm))
    rw [hlen] at this
    exact this
  have hu'g : ∀ g', u'.ownBlock = some g' → g' ≠ g := fun g' hg' e => by
    rcases hat with hat | hat
    · exact hvu g' (by rw [← hat]; exact hg') e
    · rw [hat] at hg'
      have := Option.some.inj hg'
      omega
  refine ⟨by rw [List.length_set, addLast_len]; exact h.1, ?_, fun g' hg' => ?_, fun j hj => ?_⟩
  · rw [addLast_len, hlen]
    exact ownsRow_setLast hv hou k (by omega) u'
  · rw [size_setCell']
    have := h.2.2.1 g' hg'
    omega
  · rw [addLast_len] at hj
    rw [size_setCell']
    by_cases e : j = k
    · subst e
      refine ⟨u', ?_, ?_, fun g' hg' => ⟨?_, ?_, fun k' hk' u2 hu2 e => ?_⟩⟩
      · rw [List.getElem?_set_self (by rw [h.1]; exact hj)]
      · have e1 : (addLast rows b)[j]'(by rw [addLast_len]; exact hj) = rows.getD j [] ++ [b] := by simp [addLast, hrows]
        rw [e1]
        exact ownsRow_kept hown hg3 (fun g' hg' e => hu'g g' hg' (Option.some.inj e).symm)
      · exact (ownsRow_lt hown hg').2
      · intro e
        rw [hvb] at e
        exact hu'g g' hg' (Option.some.inj e).symm
      · rw [List.getElem?_set_ne (by omega)] at hu2
        rcases hat with hat | hat
        · exact (hd0 g' (by rw [← hat]; exact hg')).2.2 k' hk' u2 hu2 e
        · obtain ⟨u3, e3, _, hd3⟩ := h.2.2.2 k' (by omega)
          rw [hu2] at e3
          cases e3
          have := (hd3 g' e).1
          rw [hat] at hg'
          have := Option.some.inj hg'
          omega
    · obtain ⟨u2, e2, ho2, hd2⟩ := h.2.2.2 j hj
      have hju : ∀ g', u2.ownBlock = some g' → u.ownBlock ≠ some g' := fun g' hg' e => (hd0 g' e).2.2 j (by omega) u2 e2 hg'
      refine ⟨u2, by rw [List.getElem?_set_ne (by omega)]; exact e2, ?_, fun g' hg' => ⟨by have := (hd2 g' hg').1; omega, (hd2 g' hg').2.1, fun k' hk' u3 hu3 e => ?_⟩⟩
      · have e1 : (addLast rows b)[j]'(by rw [addLast_len]; exact hj) = rows[j] := by
          simp only [addLast, hrows]
          rw [List.getElem_set_ne (by omega)]
        rw [e1]
        exact ownsRow_kept (ownsRow_kept (ownsRow_ext ho2 hx) hg (fun g' hg' e => hju g' hg' e)) hg3 (fun g' hg' e => (hd2 g' hg').2.1 (by rw [hvb]; exact e))
      · rw [List.getElem?_set_ne (by omega)] at hu3
        exact (hd2 g' hg').2.2 k' hk' u3 hu3 e
theorem OwnRow.sing (w : World) (b : Bt) : OwnRow (w.alloc (.cells #[.int .i64 b.id, .int .i64 b.len, .int .i64 b.wid, .int .i64 b.dra, .int .i64 b.spd, .int .i64 b.cls] 32)) w.heap.size (.slice (some ⟨w.heap.size, 0, none⟩) 1 1) [b] :=
  ⟨rfl, .inr ⟨w.heap.size, 1, _, rfl, Nat.le_refl _, heap_alloc_new w _, Nat.le_refl _, by decide, rfl, rfl⟩⟩
theorem flat_one (w : World) (bi bl bw bd bs bc : Int) : FlatAt (w.alloc (.cells #[.int .i64 bi, .int .i64 bl, .int .i64 bw, .int .i64 bd, .int .i64 bs, .int .i64 bc] 32)) bCells 6 (some ⟨w.heap.size, 0, none⟩) [⟨bi, bl, bw, bd, bs, bc⟩] := by
  intro k hk
  have hk0 : k = 0 := by simpa using hk
  subst hk0
  refine ⟨w.heap.size, 0, rfl, fun j v hv => ?_⟩
  rw [Nat.zero_mul, Nat.add_zero, Nat.zero_add]
  exact (RowAt.new w 32 _).cell (by simpa [bCells] using hv)

set_option maxRecDepth 100000 in
set_option maxHeartbeats 8000000 in
theorem implReform_any (u1 R : Bool) (r1 : List (List Bt)) (n1 : Nat) (u : Bool) (a : Option Addr) (n c : Nat) (rows : List (List Bt)) (W : Int) (w : World) (hn : n = rows.length) (hs : n ≤ 1048576) (ht : rows.flatten.length ≤ 1048576) (hf : RowsAt w a rows) (hiW : I64 W)
    (hR : refRes u rows W = (u1, r1, R)) (hn1 : n1 = r1.length) :
    Calls Try.prog 21 #[.agg #[.bool u, .slice a n c], .int .i64 W] w fun e w' => One w w' u1 R r1 n1 e := by
  have HF := Lib.hid hf; clear hf
  have HS := Lib.hid hs
  have HSM := Lib.hid (show n ≤ maxLen by unfold maxLen; omega)
  have HT := Lib.hid ht; clear ht
  have HN := Lib.hid hn; clear hn
  unfold I64 at hiW
  obtain ⟨ok, hok⟩ : ∃ ok, trainOk rows = ok := ⟨_, rfl⟩
  have OK := Lib.hid hok
  obtain ⟨flat, hfl⟩ : ∃ flat, flat = rows.flatten := ⟨_, rfl⟩
  obtain ⟨m, hm⟩ : ∃ m, m = flat.length := ⟨_, rfl⟩
  obtain ⟨X, hX⟩ : ∃ X, refGo W [] 0 flat = X := ⟨_, rfl⟩
  have HRES := Lib.hid (show refRes u rows W = if ok = true then (match X with | some x => (u, x, true) | none => (false, [], false)) else (false, [], false) by unfold refRes; rw [hok, ← hfl, hX])
  rw [HRES.out] at hR
  cases ok
  · simp only [Bool.false_eq_true, if_false] at hR
    injection hR with hu hR
    injection hR with hr1 hR
    subst hu hR hr1
    have hz := Lib.hid (show n1 = 0 from hn1)
    clear hn1 hok hX hm hfl
    go_enter Try.func21, Try.ntmps21
    go_wp2_with fail
    (with_reducible refine (OK.out ▸ implTrainOk_any _ _ _ _ rows _ HN.out HS.out HT.out (HF.out.ext (by (repeat' (first | (with_reducible exact Ext.refl _) | (with_reducible assumption) | (with_reducible refine Ext.alloc ?_ _) | (with_reducible refine Ext.drewN ?_ _) | (with_reducible refine Ext.drew ?_) | (with_reducible refine Ext.setCell ?_ ?_ _) | (with_reducible exact Nat.le_refl _) | (with_reducible exact Nat.le_succ _) | (with_reducible refine Ext.trans ?_ (by assumption)) | (simp; done) | (simp; omega)))))).mono ?_); rintro e w1 ⟨rfl, hb1⟩
    have x0_1 := hb1
    obtain ⟨hc0_1, hf0_1⟩ := bcell x0_1.below
    have z0_1_0 : w.heap.size < w1.heap.size := by have h := x0_1.size; simp at h; omega
    have z0_1_1 : w.heap.size + 1 < w1.heap.size := by have h := x0_1.size; simp at h; omega
    go_wp2
    refine bodyPost_ret (v := .tuple #[.agg #[.bool false, .slice none 0 0], .bool false]) (by simp [results, Try.results21, go_sem, *]) rfl (One.zero hz.out (by (repeat' (first | (with_reducible exact Ext.refl _) | (with_reducible assumption) | (with_reducible refine Ext.alloc ?_ _) | (with_reducible refine Ext.drewN ?_ _) | (with_reducible refine Ext.drew ?_) | (with_reducible refine Ext.setCell ?_ ?_ _) | (with_reducible exact Nat.le_refl _) | (with_reducible exact Nat.le_succ _) | (with_reducible refine Ext.trans ?_ (by assumption)) | (simp; done) | (simp; omega)))))
  · simp only [if_true] at hR
    have hm6 : m ≤ 6 := by rw [hm, hfl]; exact (trainOk_true hok).2.2.2.1
    have HWB := Lib.hid (show ∀ b ∈ flat, 1 ≤ b.wid ∧ b.wid ≤ 30 from fun b hb => (bOk_bounds (boatsGo_ok _ _ (trainOk_true hok).2.2.2.2.2 b (by rw [← hfl]; exact hb))).2.2.1)
    have HFLAT := Lib.hid hfl
    have HM := Lib.hid hm
    have HX := Lib.hid hX
    have HR := Lib.hid hR
    have HN1 := Lib.hid hn1
    clear hok hfl hm hX hR hn1
    have T0 := (RowAt.new w 26 #[.bool u, .slice a n c]).ext ((Ext.refl _).alloc (.cells #[.bool false, .slice none 0 0] 26))
    have T1 := RowAt.new (w.alloc (.cells #[.bool u, .slice a n c] 26)) 26 #[.bool false, .slice none 0 0]
    rw [World.size_alloc] at T1
    go_enter Try.func21, Try.ntmps21
    go_wp2_with fail
    (with_reducible refine (OK.out ▸ implTrainOk_any _ _ _ _ rows _ HN.out HS.out HT.out (HF.out.ext (by (repeat' (first | (with_reducible exact Ext.refl _) | (with_reducible assumption) | (with_reducible refine Ext.alloc ?_ _) | (with_reducible refine Ext.drewN ?_ _) | (with_reducible refine Ext.drew ?_) | (with_reducible refine Ext.setCell ?_ ?_ _) | (with_reducible exact Nat.le_refl _) | (with_reducible exact Nat.le_succ _) | (with_reducible refine Ext.trans ?_ (by assumption)) | (simp; done) | (simp; omega)))))).mono ?_); rintro e w1 ⟨rfl, hb1⟩
    have x0_1 := hb1
    obtain ⟨hc0_1, hf0_1⟩ := bcell x0_1.below
    have z0_1_0 : w.heap.size < w1.heap.size := by have h := x0_1.size; simp at h; omega
    have z0_1_1 : w.heap.size + 1 < w1.heap.size := by have h := x0_1.size; simp at h; omega
    go_wp2_with fail
    (with_reducible refine (implBoats_is _ _ _ _ rows _ HN.out HSM.out HT.out (HF.out.ext (Ext.trans (((Ext.refl w).alloc _).alloc _) x0_1)) HFLAT.out HM.out).mono ?_); rintro e w2 ⟨a9, c9, rfl, ⟨hflat, _⟩, hb2⟩
    have x1_2 := hb2
    have x0_2 : Ext _ w2 := x0_1.trans (Ext.trans (b := _) (by (repeat' (first | (with_reducible exact Ext.refl _) | (with_reducible assumption) | (with_reducible refine Ext.alloc ?_ _) | (with_reducible refine Ext.drewN ?_ _) | (with_reducible refine Ext.drew ?_) | (with_reducible refine Ext.setCell ?_ ?_ _) | (with_reducible exact Nat.le_refl _) | (with_reducible exact Nat.le_succ _) | (with_reducible refine Ext.trans ?_ (by assumption)) | (simp; done) | (simp; omega)))) hb2)
    obtain ⟨hc0_2, hf0_2⟩ := bcell x0_2.below
    have z0_2_0 : w.heap.size < w2.heap.size := by have h := x0_2.size; simp at h; omega
    have z0_2_1 : w.heap.size + 1 < w2.heap.size := by have h := x0_2.size; simp at h; omega
    have HFL := Lib.hid hflat; clear hflat
    have HT0 := Lib.hid (T0.ext x0_2)
    have HT1 := Lib.hid (T1.ext x0_2)
    have hw2 : Ext w w2 := Ext.trans (((Ext.refl w).alloc _).alloc _) x0_2
    have zz := HT1.out.lt
    clear T0 T1 hb1 hb2 x0_1 x0_2 x1_2 hc0_1 hc0_2 hf0_1 hf0_2
    go_wp2
    go_loopw [6, 7, 17] (fun v s i wr => ∃ (k p : Nat) (av : Option Addr) (cv : Nat) (vs : List Value) (acc : List (List Bt)) (used : Int), k ≤ m ∧ i = .int .i64 k ∧ v = .slice av p cv ∧ s = .int .i64 used ∧ (0 ≤ used ∧ used ≤ 30 * (k : Int)) ∧ Ext w2 wr ∧ p ≤ k ∧ Hid (p = acc.length) ∧ Hid (∀ r ∈ acc, r.length ≤ k) ∧ Hid (GR wr w2.heap.size wr.heap.size (.slice av p cv) vs acc) ∧ Hid (X = refGo W acc used (flat.drop k))) (fun _ _ i _ => m - (intOf i).toNat)
    case atStart => exact ⟨0, 0, none, 0, [], [], 0, Nat.zero_le _, rfl, rfl, rfl, by omega, Ext.refl _, Nat.zero_le _, rfl, (fun r h => by cases h), GR.nil _ _ _, HX.out.symm⟩
    case round =>
      obtain ⟨k, p, av, cv, vs, acc, used, hk, rfl, rfl, rfl, hus, hr, hpk, hp, hrl, hgr, hgo⟩ := hrel
      by_cases hlt : k < m
      · have hlt' : k < flat.length := by rw [← HM.out]; exact hlt
        obtain ⟨b2, off2, rfl, hcell⟩ := HFL.out.get k hlt'
        obtain ⟨bt, hbt⟩ : ∃ bt, flat[k] = bt := ⟨_, rfl⟩
        have hwb := HWB.out flat[k] (List.getElem_mem _)
        rw [hbt] at hcell hwb
        obtain ⟨bi, bl, bw, bd, bs, bc⟩ := bt
        have HG := Lib.hid (show X = refGo W acc used (⟨bi, bl, bw, bd, bs, bc⟩ :: flat.drop (k + 1)) by rw [hgo.out, List.drop_eq_getElem_cons hlt', hbt])
        clear hbt hgo
        dsimp only at hwb
        have g0 : wr.cell? ⟨b2, off2 + k * 6, none⟩ = some (.int .i64 bi) := hcell 0 _ rfl _ hr
        have g1 : wr.cell? ⟨b2, off2 + k * 6 + 1, none⟩ = some (.int .i64 bl) := hcell 1 _ rfl _ hr
        have g2 : wr.cell? ⟨b2, off2 + k * 6 + 2, none⟩ = some (.int .i64 bw) := hcell 2 _ rfl _ hr
        have g3 : wr.cell? ⟨b2, off2 + k * 6 + 3, none⟩ = some (.int .i64 bd) := hcell 3 _ rfl _ hr
        have g4 : wr.cell? ⟨b2, off2 + k * 6 + 4, none⟩ = some (.int .i64 bs) := hcell 4 _ rfl _ hr
        have g5 : wr.cell? ⟨b2, off2 + k * 6 + 5, none⟩ = some (.int .i64 bc) := hcell 5 _ rfl _ hr
        clear hcell
        have HG2 := Lib.hid (show X = if W < bw then none else if 0 < acc.length ∧ used + bw ≤ W then refGo W (addLast acc ⟨bi, bl, bw, bd, bs, bc⟩) (used + bw) (flat.drop (k + 1)) else refGo W (acc ++ [[⟨bi, bl, bw, bd, bs, bc⟩]]) bw (flat.drop (k + 1)) by rw [HG.out, refGo])
        clear HG
        have HB0 := Lib.hid (RowAt.new wr 32 #[.int .i64 bi, .int .i64 bl, .int .i64 bw, .int .i64 bd, .int .i64 bs, .int .i64 bc])
        have hszr := hr.size
        by_cases c1 : W < bw
        · have hX := Lib.hid (show X = none by rw [HG2.out, if_pos c1])
          have hR := HR.out
          rw [hX.out] at hR
          injection hR with hu hR
          injection hR with hr1 hR
          subst hu hR hr1
          have hz := Lib.hid (show n1 = 0 from HN1.out)
          have q1 := HT1.out.ext (hr.trans ((Ext.refl wr).alloc (.cells #[.int .i64 bi, .int .i64 bl, .int .i64 bw, .int .i64 bd, .int .i64 bs, .int .i64 bc] 32)))
          have q10 : (wr.alloc (.cells #[.int .i64 bi, .int .i64 bl, .int .i64 bw, .int .i64 bd, .int .i64 bs, .int .i64 bc] 32)).cell? ⟨w.heap.size + 1, 0, none⟩ = some (.bool false) := q1.cell rfl
          have q11 : (wr.alloc (.cells #[.int .i64 bi, .int .i64 bl, .int .i64 bw, .int .i64 bd, .int .i64 bs, .int .i64 bc] 32)).cell? ⟨w.heap.size + 1, 1, none⟩ = some (.slice none 0 0) := q1.cell rfl
          have f10 := q1.frozen 0
          have f11 := q1.frozen 1
          have hxx := hw2.trans (hr.trans ((Ext.refl wr).alloc (.cells #[.int .i64 bi, .int .i64 bl, .int .i64 bw, .int .i64 bd, .int .i64 bs, .int .i64 bc] 32)))
          clear q1
          go_wp2
          refine bodyPost_ret (v := .tuple #[.agg #[.bool false, .slice none 0 0], .bool false]) (by simp [results, Try.results21, go_sem, *]) rfl (One.zero hz.out (by (repeat' (first | (with_reducible exact Ext.refl _) | (with_reducible assumption) | (with_reducible refine Ext.alloc ?_ _) | (with_reducible refine Ext.drewN ?_ _) | (with_reducible refine Ext.drew ?_) | (with_reducible refine Ext.setCell ?_ ?_ _) | (with_reducible exact Nat.le_refl _) | (with_reducible exact Nat.le_succ _) | (with_reducible refine Ext.trans ?_ (by assumption)) | (simp; done) | (simp; omega)))))
        by_cases c2 : 0 < p ∧ used + bw ≤ W
        · have hXX := Lib.hid (show X = refGo W (addLast acc ⟨bi, bl, bw, bd, bs, bc⟩) (used + bw) (flat.drop (k + 1)) by rw [HG2.out, if_neg c1, if_pos (by rw [← hp.out]; exact c2)])
          obtain ⟨c3, c4⟩ := c2
          obtain ⟨pp, rfl⟩ : ∃ pp, p = pp + 1 := ⟨p - 1, by omega⟩
          obtain ⟨g, cap, hv, _, hglt⟩ := World.ownsRow.form hgr.out.2.1 (by rw [← hp.out]; omega)
          injection hv with hva hvn hvc
          subst hva hvc
          clear hvn
          have hpp : pp < acc.length := by rw [← hp.out]; omega
          obtain ⟨uu, huu, hou, hdu⟩ := hgr.out.2.2.2 pp hpp
          obtain ⟨au, cu, rfl⟩ := hou.form
          obtain ⟨row, hrow⟩ : ∃ row, acc[pp] = row := ⟨_, rfl⟩
          have hrlen : row.length ≤ k := by rw [← hrow]; exact hrl.out _ (List.getElem_mem _)
          have HROW := Lib.hid (show acc.getD pp [] = row by rw [← hrow]; simp [hpp])
          rw [hrow] at hou huu hdu
          clear hrow
          obtain ⟨q, hq⟩ : ∃ q, row.length = q := ⟨_, rfl⟩
          rw [hq] at huu hou hdu hrlen
          have HQ := Lib.hid hq; clear hq
          have HVS := Lib.hid huu
          have HOU := Lib.hid hou; clear hou
          have HUB := Lib.hid (show ∀ g2, (Value.slice au q cu).ownBlock = some g2 → g2 < wr.heap.size from fun g2 hg2 => (hdu g2 hg2).1)
          have HUV := Lib.hid (show ∀ g2, (Value.slice au q cu).ownBlock = some g2 → (Value.slice (some ⟨g, 0, none⟩) (pp + 1) cv).ownBlock ≠ some g2 from fun g2 hg2 => (hdu g2 hg2).2.1)
          have e9 : wr.cell? ⟨g, pp, none⟩ = some (.slice au q cu) := by
            have h := World.ownsRow.cells hgr.out.2.1 (g := g) rfl pp _ huu
            rw [add_plain rfl] at h
            simpa using h
          clear huu hdu
          have HSK := Lib.hid (fun (w' : World) (h : RowAt w' wr.heap.size 32 #[.int .i64 bi, .int .i64 bl, .int .i64 bw, .int .i64 bd, .int .i64 bs, .int .i64 bc]) => (⟨h.cell rfl, h.cell rfl, h.cell rfl, h.cell rfl, h.cell rfl, h.cell rfl⟩ : w'.cell? ⟨wr.heap.size, 0, none⟩ = some (.int .i64 bi) ∧ w'.cell? ⟨wr.heap.size, 1, none⟩ = some (.int .i64 bl) ∧ w'.cell? ⟨wr.heap.size, 2, none⟩ = some (.int .i64 bw) ∧ w'.cell? ⟨wr.heap.size, 3, none⟩ = some (.int .i64 bd) ∧ w'.cell? ⟨wr.heap.size, 4, none⟩ = some (.int .i64 bs) ∧ w'.cell? ⟨wr.heap.size, 5, none⟩ = some (.int .i64 bc)))
          have hi0 : (0 : Int) ≤ (pp : Int) := by omega
          have hi1 : (pp : Int) < (pp : Int) + 1 := by omega
          have HFO := Lib.hid (show FlatAt ((wr.alloc (.cells #[.int .i64 bi, .int .i64 bl, .int .i64 bw, .int .i64 bd, .int .i64 bs, .int .i64 bc] 32)).alloc (.cells #[.int .i64 bi, .int .i64 bl, .int .i64 bw, .int .i64 bd, .int .i64 bs, .int .i64 bc] 32)) bCells 6 (some ⟨wr.heap.size + 1, 0, none⟩) [⟨bi, bl, bw, bd, bs, bc⟩] from by
            have h := flat_one (wr.alloc (.cells #[.int .i64 bi, .int .i64 bl, .int .i64 bw, .int .i64 bd, .int .i64 bs, .int .i64 bc] 32)) bi bl bw bd bs bc
            rw [World.size_alloc] at h
            exact h)
          have HLEN := Lib.hid (show row.length + [(⟨bi, bl, bw, bd, bs, bc⟩ : Bt)].length ≤ 1048576 by rw [HQ.out]; simp; omega)
          have hwp := IntWalk.i64_in (pp : Int) (by omega)
          go_wp2_with fail
          refine wp_region_held_drew (S := (fun w' => w'.cell? ⟨wr.heap.size, 0, none⟩ = some (.int .i64 bi) ∧ w'.cell? ⟨wr.heap.size, 1, none⟩ = some (.int .i64 bl) ∧ w'.cell? ⟨wr.heap.size, 2, none⟩ = some (.int .i64 bw) ∧ w'.cell? ⟨wr.heap.size, 3, none⟩ = some (.int .i64 bd) ∧ w'.cell? ⟨wr.heap.size, 4, none⟩ = some (.int .i64 bs) ∧ w'.cell? ⟨wr.heap.size, 5, none⟩ = some (.int .i64 bc))) (by kernel_rfl) ?_ (fun hH0 => ?_)
          · (try dsimp only)
            (exact HSK.out _ (by first | exact HB0.out | exact (HB0.out.ext ((Ext.refl _).alloc _)) | exact (HB0.out.ext (((Ext.refl _).alloc _).drew)) | exact HB12.out | exact (HB12.out.other (p := ⟨g, pp, none⟩) (by dsimp only; omega) _)))
          refine take_l 0 (v := ?_) rfl (by kernel_rfl) (by kernel_rfl) (by kernel_rfl) (fun _ _ _ h => h) (by rfl) ?_ (by assumption) ?_
          rotate_left
          · (intro w hSw; (try dsimp only at hSw); go_simp; (try with_reducible rfl))
          (try simp only [Act.put, List.setIfInBounds_toArray, List.set_cons_zero, List.set_cons_succ])
          refine take_l 1 (v := ?_) rfl (by kernel_rfl) (by kernel_rfl) (by kernel_rfl) (fun _ _ _ h => h) (by rfl) ?_ (by assumption) ?_
          rotate_left
          · (intro w hSw; (try dsimp only at hSw); go_simp; (try with_reducible rfl))
          (try simp only [Act.put, List.setIfInBounds_toArray, List.set_cons_zero, List.set_cons_succ])
          refine take_l 2 (v := ?_) rfl (by kernel_rfl) (by kernel_rfl) (by kernel_rfl) (fun _ _ _ h => h) (by rfl) ?_ (by assumption) ?_
          rotate_left
          · (intro w hSw; (try dsimp only at hSw); go_simp; (try with_reducible rfl))
          (try simp only [Act.put, List.setIfInBounds_toArray, List.set_cons_zero, List.set_cons_succ])
          refine take_l 3 (v := ?_) rfl (by kernel_rfl) (by kernel_rfl) (by kernel_rfl) (fun _ _ _ h => h) (by rfl) ?_ (by assumption) ?_
          rotate_left
          · (intro w hSw; (try dsimp only at hSw); go_simp; (try with_reducible rfl))
          (try simp only [Act.put, List.setIfInBounds_toArray, List.set_cons_zero, List.set_cons_succ])
          refine take_l 4 (v := ?_) rfl (by kernel_rfl) (by kernel_rfl) (by kernel_rfl) (fun _ _ _ h => h) (by rfl) ?_ (by assumption) ?_
          rotate_left
          · (intro w hSw; (try dsimp only at hSw); go_simp; (try with_reducible rfl))
          (try simp only [Act.put, List.setIfInBounds_toArray, List.set_cons_zero, List.set_cons_succ])
          refine take_l 5 (v := ?_) rfl (by kernel_rfl) (by kernel_rfl) (by kernel_rfl) (fun _ _ _ h => h) (by rfl) ?_ (by assumption) ?_
          rotate_left
          · (intro w hSw; (try dsimp only at hSw); go_simp; (try with_reducible rfl))
          (try simp only [Act.put, List.setIfInBounds_toArray, List.set_cons_zero, List.set_cons_succ])
          refine take_l 6 (v := ?_) rfl (by kernel_rfl) (by kernel_rfl) (by kernel_rfl) (fun _ _ _ h => h) (by rfl) ?_ (by assumption) ?_
          rotate_left
          · (intro w hSw; (try dsimp only at hSw); go_simp; (try with_reducible rfl))
          (try simp only [Act.put, List.setIfInBounds_toArray, List.set_cons_zero, List.set_cons_succ])
          refine take_l 7 (v := ?_) rfl (by kernel_rfl) (by kernel_rfl) (by kernel_rfl) (fun _ _ _ h => h) (by rfl) ?_ (by assumption) ?_
          rotate_left
          · (intro w hSw; (try dsimp only at hSw); go_simp; (try with_reducible rfl))
          (try simp only [Act.put, List.setIfInBounds_toArray, List.set_cons_zero, List.set_cons_succ])
          refine take_l 8 (v := ?_) rfl (by kernel_rfl) (by kernel_rfl) (by kernel_rfl) (fun _ _ _ h => h) (by rfl) ?_ (by assumption) ?_
          rotate_left
          · (intro w hSw; (try dsimp only at hSw); go_simp; (try with_reducible rfl))
          (try simp only [Act.put, List.setIfInBounds_toArray, List.set_cons_zero, List.set_cons_succ])
          refine take_l 10 (v := ?_) rfl (by kernel_rfl) (by kernel_rfl) (by kernel_rfl) (fun _ _ _ h => h) (by rfl) ?_ (by assumption) ?_
          rotate_left
          · (intro w hSw; (try dsimp only at hSw); go_simp; (try with_reducible rfl))
          (try simp only [Act.put, List.setIfInBounds_toArray, List.set_cons_zero, List.set_cons_succ])
          refine wpAnyH_ready (rs := [9, 11]) (by kernel_rfl) (by simp) ?_
          refine cons_l (i := 9) rfl (fun K hK => ?_) ?_
          go_simp
          refine hK.out _ _ ?_ (fun hH1 => ?_)
          · (try dsimp only)
            (exact HSK.out _ (by first | exact HB0.out | exact (HB0.out.ext ((Ext.refl _).alloc _)) | exact (HB0.out.ext (((Ext.refl _).alloc _).drew)) | exact HB12.out | exact (HB12.out.other (p := ⟨g, pp, none⟩) (by dsimp only; omega) _)))
          clear hK K hH0
          (try simp only [Act.put, List.setIfInBounds_toArray, List.set_cons_zero, List.set_cons_succ])
          refine wpAnyH_ready (rs := [11]) (by kernel_rfl) (by simp) ?_
          refine cons_l (i := 11) rfl (fun K hK => ?_) ?_
          go_simp
          refine hK.out _ _ ?_ (fun hH2 => ?_)
          · (try dsimp only)
            (exact HSK.out _ (by first | exact HB0.out | exact (HB0.out.ext ((Ext.refl _).alloc _)) | exact (HB0.out.ext (((Ext.refl _).alloc _).drew)) | exact HB12.out | exact (HB12.out.other (p := ⟨g, pp, none⟩) (by dsimp only; omega) _)))
          clear hK K hH1
          (try simp only [Act.put, List.setIfInBounds_toArray, List.set_cons_zero, List.set_cons_succ])
          refine wpAnyH_ready (rs := [12]) (by kernel_rfl) (by simp) ?_
          refine cons_l (i := 12) rfl (fun K hK => ?_) ?_
          refine step_of_wp _ rfl (wp_append_row _ _ rfl w2.heap.size (.slice au q cu) row [⟨bi, bl, bw, bd, bs, bc⟩] (by rfl) (HOU.out.ext (((Ext.refl wr).alloc _).alloc _).drew) (some ⟨wr.heap.size + 1, 0, none⟩) 1 1 rfl (by rfl) (fun h => by cases h) (FlatAt.ext HFO.out ((Ext.refl _).drew)) HLEN.out (by simp; omega) ?_); intro u' w12 hown12 hg12 hat12; obtain ⟨g', cap', rfl, _, _⟩ := World.ownsRow.form hown12 (by simp); have hlen' : (row ++ [(⟨bi, bl, bw, bd, bs, bc⟩ : Bt)]).length = q + 1 := (by rw [List.length_append, HQ.out]; rfl); rw [hlen'] at hown12 hat12 ⊢; clear hlen'; have hx12 : Ext w2 w12 := Ext.own2 (hr.trans (((Ext.refl wr).alloc _).alloc _).drew) hg12 (HOU.out.ext (((Ext.refl wr).alloc _).alloc _).drew) (Nat.le_refl _); have HB12 := Lib.hid (RowAt.own (show RowAt (World.drew ((wr.alloc (.cells #[.int .i64 bi, .int .i64 bl, .int .i64 bw, .int .i64 bd, .int .i64 bs, .int .i64 bc] 32)).alloc (.cells #[.int .i64 bi, .int .i64 bl, .int .i64 bw, .int .i64 bd, .int .i64 bs, .int .i64 bc] 32))) wr.heap.size 32 #[.int .i64 bi, .int .i64 bl, .int .i64 bw, .int .i64 bd, .int .i64 bs, .int .i64 bc] from HB0.out.ext (((Ext.refl _).alloc _).drew)) hg12 (fun g2 hg2 => by have := HUB.out g2 hg2; omega)); have HGG := Lib.hid (ownsRow_kept (ownsRow_ext hgr.out.2.1 (((Ext.refl wr).alloc _).alloc _).drew) hg12 (fun g2 hg2 e => HUV.out g2 e hg2)); have HWO := Lib.hid hown12; have HGW := Lib.hid hg12; have HAT := Lib.hid hat12; clear hown12 hg12 hat12; obtain ⟨cur, hcur⟩ := ownsRow_type HGG.out rfl; have f14 := hcur.frozen pp; have e14 := World.ownsRow.cells HGG.out (g := g) rfl pp _ HVS.out; (try rw [add_plain rfl] at e14); (try simp only [Nat.zero_add] at e14); have zg12 := hcur.lt; clear hcur
          refine hK.out _ _ ?_ (fun hH3 => ?_)
          · (try dsimp only)
            (exact HSK.out _ (by first | exact HB0.out | exact (HB0.out.ext ((Ext.refl _).alloc _)) | exact (HB0.out.ext (((Ext.refl _).alloc _).drew)) | exact HB12.out | exact (HB12.out.other (p := ⟨g, pp, none⟩) (by dsimp only; omega) _)))
          clear hK K hH2
          (try simp only [Act.put, List.setIfInBounds_toArray, List.set_cons_zero, List.set_cons_succ])
          refine take_l 13 (v := ?_) rfl (by kernel_rfl) (by kernel_rfl) (by kernel_rfl) (fun _ _ _ h => h) (by rfl) ?_ (by assumption) ?_
          rotate_left
          · (intro w hSw; (try dsimp only at hSw); go_simp; (try with_reducible rfl))
          (try simp only [Act.put, List.setIfInBounds_toArray, List.set_cons_zero, List.set_cons_succ])
          refine wpAnyH_ready (rs := [14]) (by kernel_rfl) (by simp) ?_
          refine cons_l (i := 14) rfl (fun K hK => ?_) ?_
          go_simp
          refine hK.out _ _ ?_ (fun hH4 => ?_)
          · (try dsimp only)
            (exact HSK.out _ (by first | exact HB0.out | exact (HB0.out.ext ((Ext.refl _).alloc _)) | exact (HB0.out.ext (((Ext.refl _).alloc _).drew)) | exact HB12.out | exact (HB12.out.other (p := ⟨g, pp, none⟩) (by dsimp only; omega) _)))
          clear hK K hH3
          (try simp only [Act.put, List.setIfInBounds_toArray, List.set_cons_zero, List.set_cons_succ])
          refine wpAnyH_done (by kernel_rfl) ?_ _
          rotate_left
          exact AllReadyH.nil
          exact AllReadyH.nil
          exact AllReadyH.nil
          refine cons_l (i := 11) rfl (fun K hK => ?_) ?_
          go_simp
          refine hK.out _ _ ?_ (fun hH1 => ?_)
          · (try dsimp only)
            (exact HSK.out _ (by first | exact HB0.out | exact (HB0.out.ext ((Ext.refl _).alloc _)) | exact (HB0.out.ext (((Ext.refl _).alloc _).drew)) | exact HB12.out | exact (HB12.out.other (p := ⟨g, pp, none⟩) (by dsimp only; omega) _)))
          clear hK K hH0
          (try simp only [Act.put, List.setIfInBounds_toArray, List.set_cons_zero, List.set_cons_succ])
          refine wpAnyH_ready (rs := [9]) (by kernel_rfl) (by simp) ?_
          refine cons_l (i := 9) rfl (fun K hK => ?_) ?_
          go_simp
          refine hK.out _ _ ?_ (fun hH2 => ?_)
          · (try dsimp only)
            (exact HSK.out _ (by first | exact HB0.out | exact (HB0.out.ext ((Ext.refl _).alloc _)) | exact (HB0.out.ext (((Ext.refl _).alloc _).drew)) | exact HB12.out | exact (HB12.out.other (p := ⟨g, pp, none⟩) (by dsimp only; omega) _)))
          clear hK K hH1
          (try simp only [Act.put, List.setIfInBounds_toArray, List.set_cons_zero, List.set_cons_succ])
          refine wpAnyH_ready (rs := [12]) (by kernel_rfl) (by simp) ?_
          refine cons_l (i := 12) rfl (fun K hK => ?_) ?_
          refine step_of_wp _ rfl (wp_append_row _ _ rfl w2.heap.size (.slice au q cu) row [⟨bi, bl, bw, bd, bs, bc⟩] (by rfl) (HOU.out.ext (((Ext.refl wr).alloc _).alloc _).drew) (some ⟨wr.heap.size + 1, 0, none⟩) 1 1 rfl (by rfl) (fun h => by cases h) (FlatAt.ext HFO.out ((Ext.refl _).drew)) HLEN.out (by simp; omega) ?_); intro u' w12 hown12 hg12 hat12; obtain ⟨g', cap', rfl, _, _⟩ := World.ownsRow.form hown12 (by simp); have hlen' : (row ++ [(⟨bi, bl, bw, bd, bs, bc⟩ : Bt)]).length = q + 1 := (by rw [List.length_append, HQ.out]; rfl); rw [hlen'] at hown12 hat12 ⊢; clear hlen'; have hx12 : Ext w2 w12 := Ext.own2 (hr.trans (((Ext.refl wr).alloc _).alloc _).drew) hg12 (HOU.out.ext (((Ext.refl wr).alloc _).alloc _).drew) (Nat.le_refl _); have HB12 := Lib.hid (RowAt.own (show RowAt (World.drew ((wr.alloc (.cells #[.int .i64 bi, .int .i64 bl, .int .i64 bw, .int .i64 bd, .int .i64 bs, .int .i64 bc] 32)).alloc (.cells #[.int .i64 bi, .int .i64 bl, .int .i64 bw, .int .i64 bd, .int .i64 bs, .int .i64 bc] 32))) wr.heap.size 32 #[.int .i64 bi, .int .i64 bl, .int .i64 bw, .int .i64 bd, .int .i64 bs, .int .i64 bc] from HB0.out.ext (((Ext.refl _).alloc _).drew)) hg12 (fun g2 hg2 => by have := HUB.out g2 hg2; omega)); have HGG := Lib.hid (ownsRow_kept (ownsRow_ext hgr.out.2.1 (((Ext.refl wr).alloc _).alloc _).drew) hg12 (fun g2 hg2 e => HUV.out g2 e hg2)); have HWO := Lib.hid hown12; have HGW := Lib.hid hg12; have HAT := Lib.hid hat12; clear hown12 hg12 hat12; obtain ⟨cur, hcur⟩ := ownsRow_type HGG.out rfl; have f14 := hcur.frozen pp; have e14 := World.ownsRow.cells HGG.out (g := g) rfl pp _ HVS.out; (try rw [add_plain rfl] at e14); (try simp only [Nat.zero_add] at e14); have zg12 := hcur.lt; clear hcur
          refine hK.out _ _ ?_ (fun hH3 => ?_)
          · (try dsimp only)
            (exact HSK.out _ (by first | exact HB0.out | exact (HB0.out.ext ((Ext.refl _).alloc _)) | exact (HB0.out.ext (((Ext.refl _).alloc _).drew)) | exact HB12.out | exact (HB12.out.other (p := ⟨g, pp, none⟩) (by dsimp only; omega) _)))
          clear hK K hH2
          (try simp only [Act.put, List.setIfInBounds_toArray, List.set_cons_zero, List.set_cons_succ])
          refine take_l 13 (v := ?_) rfl (by kernel_rfl) (by kernel_rfl) (by kernel_rfl) (fun _ _ _ h => h) (by rfl) ?_ (by assumption) ?_
          rotate_left
          · (intro w hSw; (try dsimp only at hSw); go_simp; (try with_reducible rfl))
          (try simp only [Act.put, List.setIfInBounds_toArray, List.set_cons_zero, List.set_cons_succ])
          refine wpAnyH_ready (rs := [14]) (by kernel_rfl) (by simp) ?_
          refine cons_l (i := 14) rfl (fun K hK => ?_) ?_
          go_simp
          refine hK.out _ _ ?_ (fun hH4 => ?_)
          · (try dsimp only)
            (exact HSK.out _ (by first | exact HB0.out | exact (HB0.out.ext ((Ext.refl _).alloc _)) | exact (HB0.out.ext (((Ext.refl _).alloc _).drew)) | exact HB12.out | exact (HB12.out.other (p := ⟨g, pp, none⟩) (by dsimp only; omega) _)))
          clear hK K hH3
          (try simp only [Act.put, List.setIfInBounds_toArray, List.set_cons_zero, List.set_cons_succ])
          refine wpAnyH_done (by kernel_rfl) ?_ _
          rotate_left
          exact AllReadyH.nil
          exact AllReadyH.nil
          exact AllReadyH.nil
          exact AllReadyH.nil
          all_goals
            have YG := Lib.hid (GR.growLast (b := ⟨bi, bl, bw, bd, bs, bc⟩) hgr.out hp.out.symm rfl HVS.out (((Ext.refl wr).alloc (.cells #[.int .i64 bi, .int .i64 bl, .int .i64 bw, .int .i64 bd, .int .i64 bs, .int .i64 bc] 32)).alloc (.cells #[.int .i64 bi, .int .i64 bl, .int .i64 bw, .int .i64 bd, .int .i64 bs, .int .i64 bc] 32)).drew (Nat.le_refl _) (by rw [HROW.out]; exact HWO.out) HGW.out HAT.out)
            have YB := HB12.out.other (p := ⟨g, pp, none⟩) (by dsimp only; omega) (.slice (some ⟨g', 0, none⟩) (q + 1) cap')
            have y2 : (w12.setCell ⟨g, pp, none⟩ (.slice (some ⟨g', 0, none⟩) (q + 1) cap')).cell? ⟨wr.heap.size, 2, none⟩ = some (.int .i64 bw) := YB.cell rfl
            have YX := Lib.hid (hx12.setCell (p := ⟨g, pp, none⟩) (ownsRow_lt hgr.out.2.1 rfl).1 (.slice (some ⟨g', 0, none⟩) (q + 1) cap'))
            have YR := Lib.hid (show ∀ r ∈ addLast acc ⟨bi, bl, bw, bd, bs, bc⟩, r.length ≤ k + 1 from fun r hr' => by
              rcases List.mem_or_eq_of_mem_set hr' with h | h
              · have := hrl.out r h
                omega
              · rw [h, show acc.length - 1 = pp by rw [← hp.out]; rfl, HROW.out, List.length_append, HQ.out]
                simp
                omega)
            clear YB
            go_wp2
            go_roundw
            case rel => exact ⟨k + 1, pp + 1, _, cv, _, _, used + bw, by omega, by go_num, rfl, rfl, by omega, YX.out, by omega, by (show _ = _); rw [addLast_len]; exact hp.out, YR.out, YG.out, hXX.out⟩
            case measure => simp [intOf]; omega
        · have hXX := Lib.hid (show X = refGo W (acc ++ [[⟨bi, bl, bw, bd, bs, bc⟩]]) bw (flat.drop (k + 1)) by rw [HG2.out, if_neg c1, if_neg (by rw [← hp.out]; exact c2)])
          have c3 : p = 0 ∨ (0 < p ∧ W < used + bw) := by omega
          clear c2
          have HOW := Lib.hid (ownsRow_ext hgr.out.2.1 ((((Ext.refl wr).alloc (.cells #[.int .i64 bi, .int .i64 bl, .int .i64 bw, .int .i64 bd, .int .i64 bs, .int .i64 bc] 32)).alloc (.cells #[.int .i64 bi, .int .i64 bl, .int .i64 bw, .int .i64 bd, .int .i64 bs, .int .i64 bc] 32)).alloc (.cells #[(.slice (some ⟨wr.heap.size + 1, 0, none⟩) 1 1)] 33)))
          rw [← hp.out] at HOW
          have HON := Lib.hid (by
            have h := one_new ((wr.alloc (.cells #[.int .i64 bi, .int .i64 bl, .int .i64 bw, .int .i64 bd, .int .i64 bs, .int .i64 bc] 32)).alloc (.cells #[.int .i64 bi, .int .i64 bl, .int .i64 bw, .int .i64 bd, .int .i64 bs, .int .i64 bc] 32)) 33 (.slice (some ⟨wr.heap.size + 1, 0, none⟩) 1 1)
            rw [World.size_alloc, World.size_alloc] at h
            exact h)
          have HSG := Lib.hid (show OwnRow (((wr.alloc (.cells #[.int .i64 bi, .int .i64 bl, .int .i64 bw, .int .i64 bd, .int .i64 bs, .int .i64 bc] 32)).alloc (.cells #[.int .i64 bi, .int .i64 bl, .int .i64 bw, .int .i64 bd, .int .i64 bs, .int .i64 bc] 32)).alloc (.cells #[.slice (some ⟨wr.heap.size + 1, 0, none⟩) 1 1] 33)) w2.heap.size (.slice (some ⟨wr.heap.size + 1, 0, none⟩) 1 1) [⟨bi, bl, bw, bd, bs, bc⟩] from by
            have h := OwnRow.sing (wr.alloc (.cells #[.int .i64 bi, .int .i64 bl, .int .i64 bw, .int .i64 bd, .int .i64 bs, .int .i64 bc] 32)) ⟨bi, bl, bw, bd, bs, bc⟩
            rw [World.size_alloc] at h
            exact ownsRow_low (h.ext ((Ext.refl _).alloc _)) (by omega))
          have HXW := Lib.hid ((((Ext.refl wr).alloc (.cells #[.int .i64 bi, .int .i64 bl, .int .i64 bw, .int .i64 bd, .int .i64 bs, .int .i64 bc] 32)).alloc (.cells #[.int .i64 bi, .int .i64 bl, .int .i64 bw, .int .i64 bd, .int .i64 bs, .int .i64 bc] 32)).alloc (.cells #[(.slice (some ⟨wr.heap.size + 1, 0, none⟩) 1 1)] 33))
          have HVL := Lib.hid hgr.out.2.2.1
          rcases c3 with rfl | ⟨c3, c4⟩
          all_goals
            go_wp2_with (at_builtin; refine wpList_plain rfl fun K hK => wp_append_outer _ _ rfl w2.heap.size _ _ vs rfl HOW.out (some ⟨wr.heap.size + 1 + 1, 0, none⟩) 1 1 rfl [(.slice (some ⟨wr.heap.size + 1, 0, none⟩) 1 1)] rfl (fun h => by cases h) HON.out (fun x hx => by cases List.mem_singleton.1 hx; rfl) (by omega) (by simp; omega) ?_)
            intro v' w5 hown5 hg5 hat5
            obtain ⟨g', cap', rfl, _, _⟩ := World.ownsRow.form hown5 (by omega)
            have hx5 : Ext w2 w5 := Ext.own2 (hr.trans HXW.out) hg5 HOW.out (Nat.le_refl _)
            have YG := Lib.hid (GR.push (row := [⟨bi, bl, bw, bd, bs, bc⟩]) hgr.out (Nat.le_refl _) HXW.out HSG.out (fun g hg => by cases hg; exact Nat.le_succ _) (by rw [← hp.out]; exact hown5) hg5 (by first | exact hat5 | (simp only [World.size_alloc]; exact hat5)))
            have YB := RowAt.own (HB0.out.ext (((Ext.refl _).alloc (.cells #[.int .i64 bi, .int .i64 bl, .int .i64 bw, .int .i64 bd, .int .i64 bs, .int .i64 bc] 32)).alloc (.cells #[(.slice (some ⟨wr.heap.size + 1, 0, none⟩) 1 1)] 33))) hg5 (fun g hg => by have := HVL.out g hg; omega)
            have y2 : w5.cell? ⟨wr.heap.size, 2, none⟩ = some (.int .i64 bw) := YB.cell rfl
            have YR := Lib.hid (show ∀ r ∈ acc ++ [[⟨bi, bl, bw, bd, bs, bc⟩]], r.length ≤ k + 1 from fun r hr' => by
              rcases List.mem_append.1 hr' with h | h
              · have := hrl.out r h
                omega
              · rw [List.mem_singleton.1 h]
                simp)
            clear YB hown5 hg5 hat5
            refine hK _ _ ?_
            clear hK K
            go_wp2
            go_roundw
            case rel => exact ⟨k + 1, _, _, cap', _, _, bw, by omega, by go_num, rfl, rfl, by omega, hx5, by omega, by (show _ = _); rw [List.length_append, ← hp.out]; rfl, YR.out, YG.out, hXX.out⟩
            case measure => simp [intOf]; omega
      · have hX := Lib.hid (show X = some acc by rw [hgo.out, List.drop_eq_nil_of_le (by have := HM.out; omega)]; rfl)
        clear hgo
        have hR := HR.out
        rw [hX.out] at hR
        injection hR with hu hR
        injection hR with hr1 hR
        subst hu hR
        have hz := Lib.hid (show n1 = p by rw [HN1.out, ← hr1, hp.out])
        have HE := Lib.hid hr1; clear hr1
        have q0 := HT0.out.ext hr
        have q1 := HT1.out.ext hr
        have t0 : wr.cell? ⟨w.heap.size, 0, none⟩ = some (.bool u) := q0.cell rfl
        have q10 : wr.cell? ⟨w.heap.size + 1, 0, none⟩ = some (.bool false) := q1.cell rfl
        have q11 : wr.cell? ⟨w.heap.size + 1, 1, none⟩ = some (.slice none 0 0) := q1.cell rfl
        have f10 := q1.frozen 0
        have f11 := q1.frozen 1
        have hxx := hw2.trans hr
        have hsr := hr.size
        have hs2 := hw2.size
        clear q0 q1
        go_wp2
        refine bodyPost_ret (v := .tuple #[.agg #[.bool u, .slice av p cv], .bool true]) (by simp [results, Try.results21, go_sem, *]) rfl ⟨av, cv, by rw [hz.out], ?_, by (repeat' (first | (with_reducible exact Ext.refl _) | (with_reducible assumption) | (with_reducible refine Ext.alloc ?_ _) | (with_reducible refine Ext.drewN ?_ _) | (with_reducible refine Ext.drew ?_) | (with_reducible refine Ext.setCell ?_ ?_ _) | (with_reducible exact Nat.le_refl _) | (with_reducible exact Nat.le_succ _) | (with_reducible refine Ext.trans ?_ (by assumption)) | (simp; done) | (simp; omega)))⟩
        rw [← HE.out]
        exact (((hgr.out.set (p := ⟨w.heap.size + 1, 0, none⟩) (.inl (by simp; try omega)) _).set (p := ⟨w.heap.size + 1, 1, none⟩) (.inl (by simp; try omega)) _).wide (by omega) (by simp [size_setCell'])).ownAt
end Go.Proofs.Ytmcmialaofckkaa
