/- IdsOf: the list of the Ids, on both sides. -/
import Derived.Test.YtjjikcjhnglkaaaProg
import Derived.Test.YtjjikcjhnglkaaaTrainMin
import Derived.Maps.AppendAt
namespace Go.Proofs.Ytjjikcjhnglkaaa
open Go.RowKit
set_option linter.unusedSimpArgs false
set_option linter.unusedVariables false

def iCells (x : Int) : List Value := [.int .i64 x]
theorem iCells_len (x : Int) : (iCells x).length = 1 := rfl
theorem info_int : (Try.prog.info? 3).map (fun i => (i.zero, i.size, i.bytes)) = some (some (.int .i64 0), 1, 8) := by kernel_rfl
def idsOf (rows : List (List Bt)) : List Int := if trainOk rows then rows.flatten.map Bt.id else []
/-- The ints 'xs' in a row of the call's own, from block 'base' on. -/
def OwnInts (w : World) (base : Nat) (v : Value) (xs : List Int) : Prop := w.ownsRow base 3 1 v xs.length (xs.flatMap iCells)

/-- append of one int to a slice of the call's own. -/
theorem append_int {w : World} {ops : Array Oper} {rest : List Oper} {o : Oper} {a : Act} {Q : Exit → Act → World → Prop} (hgd : o.guard = none) (s x : Operand)
    (ho : o.op = .call { callee := .builtin .append, args := #[s, x], argTypes := #[26, 26] })
    (base : Nat) (v : Value) (done done' : List Int) (z : Int) (hd : done' = done ++ [z]) (hs : a.eval s = v) (hown : OwnInts w base v done)
    (B c : Nat) (hx : a.eval x = .slice (some ⟨B, 0, none⟩) 1 c) (hc : w.cell? ⟨B, 0, none⟩ = some (.int .i64 z)) (hle : done'.length ≤ 1048576) (hbase : base ≤ w.heap.size)
    (h : ∀ v' w', OwnInts w' base v' done' → w.grownBy w' v.ownBlock → (v'.ownBlock = v.ownBlock ∨ v'.ownBlock = some w.heap.size) → wpList Try.prog ops Q rest (a.put o.dst v') w') : wpList Try.prog ops Q (o :: rest) a w := by
  subst hd
  rw [List.length_append] at hle
  obtain ⟨i0, hi, hz0, hz1, hz2⟩ := info_parts info_int
  refine wpList_append_own_at w hgd s x _ ho base 3 i0 _ 1 8 Try.underlying26 hi hz0 hz1 hz2 rfl (by decide) v _ _ hs hown ⟨B, 0, none⟩ 1 c [.int .i64 z] hx rfl ?_ (by simp [Value.oneCell']) (by simp at hle; unfold maxLen; omega) (by simp at hle; omega) hbase ?_
  · intro j u hu
    match j, hu with
    | 0, hu => cases hu; rw [add_plain rfl]; exact hc
    | j + 1, hu => simp at hu
  · intro v' w' h1 h2 _ h4
    refine h v' w' ?_ h2 h4
    unfold OwnInts
    rw [List.length_append, List.flatMap_append]
    exact h1
theorem OwnInts.ext {w w' : World} {base : Nat} {v : Value} {xs : List Int} (h : OwnInts w base v xs) (hx : Ext w w') : OwnInts w' base v xs := ownsRow_ext h hx
theorem OwnInts.nil (w : World) (base : Nat) : OwnInts w base (.slice none 0 0) [] := World.ownsRow_nil _ _ _ _
/-- What is owned, read. -/
theorem OwnInts.read {w : World} {base : Nat} {v : Value} {xs : List Int} (h : OwnInts w base v xs) : ∃ (a : Option Addr) (c : Nat), v = .slice a xs.length c ∧ IntsAt w a xs ∧ ∀ ad, a = some ad → base ≤ ad.block ∧ ∃ cur, RowAt w ad.block 3 cur := by
  obtain ⟨a, c, e, hf, hn⟩ := ownsRow_flat iCells_len h
  refine ⟨a, c, e, fun k hk => ?_, hn⟩
  obtain ⟨b, off, ea, hc⟩ := hf k hk
  exact ⟨b, off, ea, by have := hc 0 _ rfl; simpa using this⟩
theorem OwnInts.wide {w : World} {base base' : Nat} {v : Value} {xs : List Int} (h : OwnInts w base v xs) (hb : base' ≤ base) : OwnInts w base' v xs := by
  refine ⟨h.1, ?_⟩
  rcases h.2 with h2 | ⟨g, cap, cur, h3, h4, h5⟩
  · exact .inl h2
  · exact .inr ⟨g, cap, cur, h3, Nat.le_trans hb h4, h5⟩
theorem ids_step {flat : List Bt} {k : Nat} (hk : k < flat.length) : (flat.take (k + 1)).map Bt.id = (flat.take k).map Bt.id ++ [flat[k].id] := by
  rw [List.take_succ_eq_append_getElem hk, List.map_append]
  rfl

set_option maxHeartbeats 4000000 in
theorem implIdsOf_any (u : Bool) (a : Option Addr) (n c : Nat) (rows : List (List Bt)) (w : World) (hn : n = rows.length) (hs : n ≤ 1048576) (ht : rows.flatten.length ≤ 1048576) (hf : RowsAt w a rows) :
    Calls Try.prog 16 #[.agg #[.bool u, .slice a n c]] w fun e w' => ∃ v, e = .returned v ∧ OwnInts w' w.heap.size v (idsOf rows) ∧ Ext w w' := by
  have HF := Lib.hid hf; clear hf
  have HS := Lib.hid hs
  have HSM := Lib.hid (show n ≤ maxLen by unfold maxLen; omega)
  have HT := Lib.hid ht
  obtain ⟨flat, hfl⟩ : ∃ flat, flat = rows.flatten := ⟨_, rfl⟩
  have HFLAT := Lib.hid hfl
  obtain ⟨m, hm⟩ : ∃ m, m = flat.length := ⟨_, rfl⟩
  have hm2 : m ≤ 1048576 := by rw [hm, hfl]; exact ht
  have HM := Lib.hid hm
  clear hm hfl ht
  cases hok : trainOk rows
  · have hR := Lib.hid (show idsOf rows = [] by rw [idsOf, hok]; rfl)
    have OK := Lib.hid hok; clear hok
    have HN := Lib.hid hn; clear hn
    go_enter Try.func16, Try.ntmps16
    go_wp2_with fail
    (with_reducible refine (OK.out ▸ implTrainOk_any _ _ _ _ rows _ HN.out HS.out HT.out (HF.out.ext (by (repeat' (first | (with_reducible exact Ext.refl _) | (with_reducible assumption) | (with_reducible refine Ext.alloc ?_ _) | (with_reducible refine Ext.drewN ?_ _) | (with_reducible refine Ext.drew ?_) | (with_reducible refine Ext.setCell ?_ ?_ _) | (with_reducible exact Nat.le_refl _) | (with_reducible exact Nat.le_succ _) | (with_reducible refine Ext.trans ?_ (by assumption)) | (simp; done) | (simp; omega)))))).mono ?_); rintro e w1 ⟨rfl, hb1⟩
    have x0_1 := hb1
    obtain ⟨hc0_1, hf0_1⟩ := bcell x0_1.below
    have z0_1_0 : w.heap.size < w1.heap.size := by have h := x0_1.size; simp at h; omega
    go_wp2
    go_ret
    exact ⟨_, rfl, by rw [hR.out]; exact OwnInts.nil _ _, by (repeat' (first | (with_reducible exact Ext.refl _) | (with_reducible assumption) | (with_reducible refine Ext.alloc ?_ _) | (with_reducible refine Ext.drewN ?_ _) | (with_reducible refine Ext.drew ?_) | (with_reducible refine Ext.setCell ?_ ?_ _) | (with_reducible exact Nat.le_refl _) | (with_reducible exact Nat.le_succ _) | (with_reducible refine Ext.trans ?_ (by assumption)) | (simp; done) | (simp; omega)))⟩
  · have hR := Lib.hid (show idsOf rows = (flat.take m).map Bt.id by rw [idsOf, hok, HM.out, List.take_length, HFLAT.out]; rfl)
    have OK := Lib.hid hok; clear hok
    have HN := Lib.hid hn; clear hn
    go_enter Try.func16, Try.ntmps16
    go_wp2_with fail
    (with_reducible refine (OK.out ▸ implTrainOk_any _ _ _ _ rows _ HN.out HS.out HT.out (HF.out.ext (by (repeat' (first | (with_reducible exact Ext.refl _) | (with_reducible assumption) | (with_reducible refine Ext.alloc ?_ _) | (with_reducible refine Ext.drewN ?_ _) | (with_reducible refine Ext.drew ?_) | (with_reducible refine Ext.setCell ?_ ?_ _) | (with_reducible exact Nat.le_refl _) | (with_reducible exact Nat.le_succ _) | (with_reducible refine Ext.trans ?_ (by assumption)) | (simp; done) | (simp; omega)))))).mono ?_); rintro e w1 ⟨rfl, hb1⟩
    have x0_1 := hb1
    obtain ⟨hc0_1, hf0_1⟩ := bcell x0_1.below
    have z0_1_0 : w.heap.size < w1.heap.size := by have h := x0_1.size; simp at h; omega
    go_wp2_with fail
    (with_reducible refine (implBoats_is _ _ _ _ rows _ HN.out HSM.out HT.out (HF.out.ext (by (repeat' (first | (with_reducible exact Ext.refl _) | (with_reducible assumption) | (with_reducible refine Ext.alloc ?_ _) | (with_reducible refine Ext.drewN ?_ _) | (with_reducible refine Ext.drew ?_) | (with_reducible refine Ext.setCell ?_ ?_ _) | (with_reducible exact Nat.le_refl _) | (with_reducible exact Nat.le_succ _) | (with_reducible refine Ext.trans ?_ (by assumption)) | (simp; done) | (simp; omega))))) HFLAT.out HM.out).mono ?_); rintro e w2 ⟨a9, c9, rfl, ⟨hflat, _⟩, hb2⟩
    have x1_2 := hb2
    have x0_2 : Ext _ w2 := x0_1.trans (Ext.trans (b := _) (by (repeat' (first | (with_reducible exact Ext.refl _) | (with_reducible assumption) | (with_reducible refine Ext.alloc ?_ _) | (with_reducible refine Ext.drewN ?_ _) | (with_reducible refine Ext.drew ?_) | (with_reducible refine Ext.setCell ?_ ?_ _) | (with_reducible exact Nat.le_refl _) | (with_reducible exact Nat.le_succ _) | (with_reducible refine Ext.trans ?_ (by assumption)) | (simp; done) | (simp; omega)))) hb2)
    obtain ⟨hc0_2, hf0_2⟩ := bcell x0_2.below
    have z0_2_0 : w.heap.size < w2.heap.size := by have h := x0_2.size; simp at h; omega
    have HB := Lib.hid ((Ext.trans ((Ext.refl w).alloc _) hb1).trans hb2)
    have HFL := Lib.hid hflat; clear hflat
    go_wp2
    go_loopw [3, 12] (fun v i wr => ∃ (q : Nat) (ids : List Int), q ≤ m ∧ i = .int .i64 q ∧ Ext w2 wr ∧ Ext w wr ∧ Hid (ids = (flat.take q).map Bt.id) ∧ Hid (OwnInts wr w2.heap.size v ids)) (fun _ i _ => m - (intOf i).toNat)
    case atStart => exact ⟨0, [], Nat.zero_le _, rfl, Ext.refl _, HB.out, rfl, OwnInts.nil _ _⟩
    case round =>
      obtain ⟨q, ids, hq, rfl, hr, hrw, hids, hown⟩ := hrel
      by_cases hlt : q < m
      · have hlt2 : q < flat.length := by rw [← HM.out]; exact hlt
        obtain ⟨b2, off2, rfl, hcell⟩ := HFL.out.get q hlt2
        have hd := ids_step hlt2
        obtain ⟨bt, hbt⟩ : ∃ bt, flat[q] = bt := ⟨_, rfl⟩
        rw [hbt] at hcell hd
        clear hbt
        obtain ⟨bi, bl, bw, bd, bs, bc⟩ := bt
        obtain ⟨ids', hids'⟩ : ∃ x, x = (flat.take (q + 1)).map Bt.id := ⟨_, rfl⟩
        have HD := Lib.hid (show ids' = ids ++ [bi] by rw [hids', hd, hids.out])
        have HLE := Lib.hid (show ids'.length ≤ 1048576 by rw [hids', List.length_map, List.length_take]; omega)
        have HIDS := Lib.hid hids'
        clear hids' hd hids
        have g0 : wr.cell? ⟨b2, off2 + q * 6, none⟩ = some (.int .i64 bi) := hcell 0 _ rfl _ hr
        have g1 : wr.cell? ⟨b2, off2 + q * 6 + 1, none⟩ = some (.int .i64 bl) := hcell 1 _ rfl _ hr
        have g2 : wr.cell? ⟨b2, off2 + q * 6 + 2, none⟩ = some (.int .i64 bw) := hcell 2 _ rfl _ hr
        have g3 : wr.cell? ⟨b2, off2 + q * 6 + 3, none⟩ = some (.int .i64 bd) := hcell 3 _ rfl _ hr
        have g4 : wr.cell? ⟨b2, off2 + q * 6 + 4, none⟩ = some (.int .i64 bs) := hcell 4 _ rfl _ hr
        have g5 : wr.cell? ⟨b2, off2 + q * 6 + 5, none⟩ = some (.int .i64 bc) := hcell 5 _ rfl _ hr
        clear hcell
        have hsz := hr.size
        go_wp2_with (at_builtin; refine append_int rfl _ _ rfl w2.heap.size _ ids ids' bi HD.out rfl (hown.out.ext (((Ext.refl wr).alloc _).alloc _)) (wr.heap.size + 1) 1 rfl ?c1 HLE.out ?c2 ?_)
        case c1 =>
          have := RowAt.new (wr.alloc (Obj.cells #[Value.int IntKind.i64 bi, Value.int IntKind.i64 bl, Value.int IntKind.i64 bw, Value.int IntKind.i64 bd, Value.int IntKind.i64 bs, Value.int IntKind.i64 bc] 57)) 3 #[.int .i64 bi]
          rw [World.size_alloc] at this
          exact this.cell rfl
        case c2 => simp; omega
        intro v' w5 hown5 hgrow5 _
        have hv := World.ownsRow.lt hown.out
        have hx5 : Ext w2 w5 := Ext.own (hr.trans (((Ext.refl wr).alloc _).alloc _)) hgrow5 (fun k hk => (hv k hk).1)
        have HX5 := Lib.hid hx5
        have HO5 := Lib.hid hown5; clear hown5
        have hw5 : Ext w w5 := HB.out.trans hx5
        clear hgrow5 hv
        go_wp2
        go_roundw
        case rel => exact ⟨q + 1, ids', by omega, by go_num, HX5.out, hw5, HIDS.out, HO5.out⟩
        case measure => simp [intOf]; omega
      · have hqm : q = m := by omega
        have HR2 := Lib.hid (show idsOf rows = ids by rw [hR.out, hids.out, hqm])
        have hbs := HB.out.size
        clear hids
        go_wp2
        go_ret
        exact ⟨_, rfl, by rw [HR2.out]; exact hown.out.wide hbs, hrw⟩

theorem FlatAt.grown {α : Type} {w w' : World} {enc : α → List Value} {sz : Nat} {a : Option Addr} {xs : List α} {B : Nat} (h : FlatAt w enc sz a xs) (hg : w.grownBy w' (some B)) (hb : ∀ ad, a = some ad → ad.block ≠ B) : FlatAt w' enc sz a xs :=
  fun k hk => let ⟨b, off, e, hc⟩ := h k hk; ⟨b, off, e, fun j v hv => by
    have h1 := hc j v hv
    have hlt := World.block_lt_of_cell? w _ h1
    have := hg.block b hlt (fun e' => hb _ e (Option.some.inj e'))
    rw [World.cell?_of_block this]
    exact h1⟩
/-- The row of the call's own that began at block B grows; all else that was there at w1 stands. -/
theorem grown_step {w1 wr wx w5 : World} {B : Nat} {o : Option Nat} (h : w1.grownBy wr (some B)) (hx : Ext wr wx) (hg : wx.grownBy w5 o) (ho : ∀ k, o = some k → k = B ∨ w1.heap.size ≤ k) : w1.grownBy w5 (some B) := by
  refine ⟨hg.os.trans (hx.below.os.trans h.os), hg.tape.trans (hx.below.tape.trans h.tape), hg.output.trans (hx.below.output.trans h.output), Nat.le_trans h.size (Nat.le_trans hx.size hg.size), fun k hk hne => ?_⟩
  have e1 := h.block k hk hne
  have e2 := hx.below.block k (Nat.lt_of_lt_of_le hk h.size)
  have e3 := hg.block k (Nat.lt_of_lt_of_le hk (Nat.le_trans h.size hx.size)) (fun e => by
    rcases ho k e.symm with rfl | h2
    · exact hne rfl
    · omega)
  exact e3.trans (e2.trans e1)

end Go.Proofs.Ytjjikcjhnglkaaa
