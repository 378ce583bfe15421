/- A train that has been drawn. -/
import Derived.Test.YtjjikcjhnglkaaaProg
import Derived.Test.YtjjikcjhnglkaaaDrawT
namespace Go.Proofs.Ytjjikcjhnglkaaa
open Go.RowKit
set_option linter.unusedSimpArgs false
set_option linter.unusedVariables false

/-- k boats with Ids from id on, in rows of which none is empty. -/
def GoodAcc (id : Int) (k : Nat) (acc : List (List Bt)) : Prop := acc.flatten.length = k ∧ (∀ r ∈ acc, r.length ≠ 0) ∧ ∀ (j : Nat) (h : j < acc.flatten.length), BtOk (id + (j : Int)) acc.flatten[j]
theorem GoodAcc.nil (id : Int) : GoodAcc id 0 [] := ⟨rfl, (fun r h => by cases h), (fun j h => absurd h (Nat.not_lt_zero _))⟩
theorem good_step {id : Int} {k : Nat} {acc acc' : List (List Bt)} {b : Bt} (h : GoodAcc id k acc) (hb : BtOk (id + (k : Int)) b) (he : acc'.flatten = acc.flatten ++ [b]) (hn : ∀ r ∈ acc', r.length ≠ 0) : GoodAcc id (k + 1) acc' := by
  refine ⟨by rw [he, List.length_append, h.1]; rfl, hn, fun j hj => ?_⟩
  simp only [he]
  rw [he, List.length_append, h.1] at hj
  by_cases e : j < k
  · rw [List.getElem_append_left (by rw [h.1]; exact e)]
    exact h.2.2 j _
  · have hjk : j = k := by simp at hj; omega
    subst hjk
    rw [List.getElem_append_right (by rw [h.1]; omega)]
    simpa [h.1] using hb
theorem addLast_flatten : ∀ (rows : List (List Bt)) (b : Bt), rows ≠ [] → (addLast rows b).flatten = rows.flatten ++ [b]
  | [r], b, _ => by simp [addLast]
  | r :: r2 :: rs, b, _ => by
    have ih := addLast_flatten (r2 :: rs) b (by simp)
    have e : addLast (r :: r2 :: rs) b = r :: addLast (r2 :: rs) b := by simp [addLast]
    rw [e, List.flatten_cons, ih]
    simp
theorem addLast_full {rows : List (List Bt)} {b : Bt} (h : ∀ r ∈ rows, r.length ≠ 0) : ∀ r ∈ addLast rows b, r.length ≠ 0 := fun r hr => by
  rcases List.mem_or_eq_of_mem_set hr with h1 | h1
  · exact h r h1
  · rw [h1, List.length_append]
    simp
theorem GoodAcc.small {id : Int} {k : Nat} {acc : List (List Bt)} (h : GoodAcc id k acc) : acc.length ≤ k ∧ ∀ r ∈ acc, r.length ≤ k := by
  refine ⟨by rw [← h.1]; exact len_le_flatten acc h.2.1, fun r hr => ?_⟩
  obtain ⟨i, hi, rfl⟩ := List.getElem_of_mem hr
  rw [← h.1]
  exact row_le hi
theorem bok_of {id : Int} {b : Bt} (h : BtOk id b) (h0 : 1 ≤ id) (h1 : id ≤ 9999) : bOk b = true := by
  obtain ⟨rfl, h2, h3, h4, h5, h6⟩ := h
  simp only [bOk, boatOk, inR, Bool.and_eq_true, decide_eq_true_eq]
  omega
theorem boatsGo_of : ∀ (bs : List Bt) (seen : List Int) (id : Int), 1 ≤ id → id + (bs.length : Int) ≤ 9999 → (∀ (j : Nat) (h : j < bs.length), BtOk (id + (j : Int)) bs[j]) → (∀ x ∈ seen, x < id) → boatsGo seen bs = true
  | [], _, _, _, _, _, _ => rfl
  | b :: bs, seen, id, h0, h1, h, hs => by
    have hb := h 0 (by simp)
    simp only [List.getElem_cons_zero] at hb
    have hid : b.id = id := by have := hb.1; simpa using this
    rw [List.length_cons] at h1
    simp only [boatsGo, Bool.and_eq_true]
    refine ⟨⟨bok_of hb (by omega) (by omega), ?_⟩, ?_⟩
    · have : b.id ∉ seen := fun hm => by have := hs _ hm; omega
      simpa using this
    · refine boatsGo_of bs (seen ++ [b.id]) (id + 1) (by omega) (by omega) (fun j hj => ?_) (fun x hx => ?_)
      · have := h (j + 1) (by simpa using hj)
        simp only [List.getElem_cons_succ] at this
        have e : id + ((j + 1 : Nat) : Int) = id + 1 + (j : Int) := by omega
        rw [e] at this
        exact this
      · rcases List.mem_append.1 hx with hx | hx
        · have := hs x hx
          omega
        · rw [List.mem_singleton.1 hx]
          omega
theorem GoodAcc.ok {id : Int} {k : Nat} {acc : List (List Bt)} (h : GoodAcc id k acc) (h0 : 1 ≤ id) (h1 : id ≤ 9000) (hk : 1 ≤ k) (hk2 : k ≤ 6) : trainOk acc = true := by
  rw [trainOk_full h.2.1, h.1, Bool.and_eq_true]
  refine ⟨by simp [inR]; omega, boatsGo_of _ _ id h0 (by rw [h.1]; omega) h.2.2 (fun x hx => by cases hx)⟩

set_option maxRecDepth 100000 in
set_option maxHeartbeats 8000000 in
theorem l04Train_any (w0 w : World) (B : Nat) (bs : List Int) (id : Int) (h0 : 1 ≤ id) (h1 : id ≤ 9000) (hc : CurAt w0 w B bs) :
    Calls Try.prog 18 #[.pointer (some ⟨B, 0, none⟩), .int .i64 id] w fun e w' => ∃ (u : Bool) (a : Option Addr) (n c k : Nat) (vs : List Value) (rows : List (List Bt)), (1 ≤ k ∧ k ≤ 4) ∧ GoodAcc id k rows ∧ n = rows.length ∧ e = .returned (.agg #[.bool u, .slice a n c]) ∧ GR w' w.heap.size w'.heap.size (.slice a n c) vs rows ∧ CurAt w0 w' B bs ∧ w.grownBy w' (some B) := by
  have zB := hc.lt
  have hwB := hc.1
  have HC := Lib.hid hc; clear hc
  have RZ := RowAt.new w 32 #[.bool false, .slice none 0 0]
  have E1 := (Ext.refl w).alloc (.cells #[.bool false, .slice none 0 0] 32)
  go_enter Try.func18, Try.ntmps18
  go_wp2_with fail
  refine (l01Once_any w0 _ B bs 2 (by decide) (by decide) (HC.out.ext E1)).mono ?_
  rintro e w1 ⟨u, rfl, hc1, ho1⟩
  have hs1 := ho1.size
  simp only [World.size_alloc] at hs1
  have HZ1 := Lib.hid (RZ.only ho1 (by omega))
  have HO1 := Lib.hid (show w.grownBy w1 (some B) from ⟨ho1.os, ho1.tape, ho1.output, Nat.le_trans E1.size ho1.size, fun k hk hne => (ho1.block k (Nat.lt_of_lt_of_le hk E1.size) hne).trans (E1.below.block k hk)⟩)
  have HC1 := Lib.hid hc1
  clear hc1 ho1 RZ E1
  have eT := (Ext.refl w1).alloc (.cells #[.bool u, .slice none 0 0] 32)
  have rT := RowAt.new w1 32 #[.bool u, .slice none 0 0]
  go_wp2_with fail
  refine (l01Below_any w0 _ B bs 4 (by decide) (by decide) (HC1.out.ext eT)).mono ?_
  rintro e w2 ⟨z, ⟨hz0, hz1⟩, rfl, hc2, ho2⟩
  obtain ⟨Tb, hTb⟩ : ∃ T, w1.heap.size = T := ⟨_, rfl⟩
  rw [hTb] at rT ⊢
  have zT : w.heap.size < Tb := by omega
  have HT2 := Lib.hid (rT.only ho2 (by omega))
  have HZ2 := Lib.hid ((HZ1.out.ext eT).only ho2 (by omega))
  have HO2 := Lib.hid (show w.grownBy w2 (some B) from only_trans HO1.out ⟨ho2.os, ho2.tape, ho2.output, Nat.le_trans eT.size ho2.size, fun k hk hne => (ho2.block k (Nat.lt_of_lt_of_le hk eT.size) hne).trans (eT.below.block k hk)⟩)
  have HC2 := Lib.hid hc2
  clear hc2 ho2 rT eT hTb hs1
  obtain ⟨m, hm⟩ : ∃ m : Nat, 1 + z = m := ⟨(1 + z).toNat, by omega⟩
  have hm1 : 1 ≤ m := by omega
  have hm4 : m ≤ 4 := by omega
  have HM := Lib.hid hm
  clear hm
  go_wp2
  rw [HM.out]
  clear hz0 hz1
  go_loopw [7] (fun i wr => ∃ (k p : Nat) (av : Option Addr) (cv : Nat) (vs : List Value) (acc : List (List Bt)), k ≤ m ∧ i = .int .i64 k ∧ (0 < k → 0 < p) ∧ p ≤ k ∧ RowAt wr Tb 32 #[.bool u, .slice av p cv] ∧ Hid (RowAt wr w.heap.size 32 #[.bool false, .slice none 0 0]) ∧ Hid (CurAt w0 wr B bs) ∧ Hid (w.grownBy wr (some B)) ∧ Hid (p = acc.length) ∧ Hid (GR wr (Tb + 1) wr.heap.size (.slice av p cv) vs acc) ∧ Hid (GoodAcc id k acc)) (fun i _ => m - (intOf i).toNat)
  case atStart => exact ⟨0, 0, none, 0, [], [], Nat.zero_le _, rfl, (fun h => absurd h (Nat.lt_irrefl _)), Nat.le_refl _, HT2.out, HZ2.out, HC2.out, HO2.out, rfl, GR.nil _ _ _, GoodAcc.nil _⟩
  case round =>
    obtain ⟨k, p, av, cv, vs, acc, hk, rfl, hp0, hpk, hbox, hz, hcu, hgw, hp, hgr, hgood⟩ := hrel
    by_cases hlt : k < m
    · have zTw := hbox.lt
      go_wp2_with fail
      refine (l04Boat_any w0 _ B bs _ hcu.out).mono ?_
      rintro e w4 ⟨bt, hbt, rfl, hc4, ho4⟩
      obtain ⟨bi, bl, bw, bd, bs', bc⟩ := bt
      have HBT := Lib.hid hbt; clear hbt
      dsimp only
      have hs4 := ho4.size
      have HBX4 := Lib.hid (hbox.only ho4 (by omega))
      have HZ4 := Lib.hid (hz.out.only ho4 (by omega))
      have HO4 := Lib.hid (only_trans hgw.out ho4)
      have HG4 := Lib.hid (hgr.out.grown ho4 (fun B2 e => by cases e; left; omega))
      have HC4 := Lib.hid hc4
      clear hc4 ho4 hbox
      have eB := Lib.hid ((Ext.refl w4).alloc (.cells #[.int .i64 bi, .int .i64 bl, .int .i64 bw, .int .i64 bd, .int .i64 bs', .int .i64 bc] 57))
      have rB := RowAt.new w4 57 #[.int .i64 bi, .int .i64 bl, .int .i64 bw, .int .i64 bd, .int .i64 bs', .int .i64 bc]
      obtain ⟨Bb, hBb⟩ : ∃ T, w4.heap.size = T := ⟨_, rfl⟩
      rw [hBb] at rB
      have HBb := Lib.hid hBb
      have HXB := Lib.hid (HBX4.out.ext eB.out)
      by_cases hk0 : k = 0
      · have hB4 : w4.heap.size = Bb := hBb
        subst hBb
        subst hk0
        have hp00 : p = 0 := by omega
        subst hp00
        have HO0 := HXB
        have HB0 := Lib.hid rB
        have HZ := Lib.hid (HZ4.out.ext eB.out)
        have HCU := Lib.hid (HC4.out.ext eB.out)
        have HGW := Lib.hid (only_ext HO4.out eB.out)
        have hgr5 := Lib.hid (HG4.out.ext eB.out)
        clear rB
        have HGA := Lib.hid (good_step (acc' := acc ++ [[⟨bi, bl, bw, bd, bs', bc⟩]]) hgood.out HBT.out (by rw [List.flatten_append]; rfl) (fun r hr => by
          rcases List.mem_append.1 hr with h | h
          · exact hgood.out.2.1 r h
          · rw [List.mem_singleton.1 h]; exact (by decide : (1 : Nat) ≠ 0)))
        have HXW := Lib.hid (((Ext.refl (w4.alloc (.cells #[.int .i64 bi, .int .i64 bl, .int .i64 bw, .int .i64 bd, .int .i64 bs', .int .i64 bc] 57))).alloc (.cells #[.int .i64 bi, .int .i64 bl, .int .i64 bw, .int .i64 bd, .int .i64 bs', .int .i64 bc] 57)).alloc (.cells #[(.slice (some ⟨w4.heap.size + 1, 0, none⟩) 1 1)] 54))
        have HOW := Lib.hid (ownsRow_ext hgr5.out.2.1 HXW.out)
        rw [← hp.out] at HOW
        have HON := Lib.hid (show ∀ (j : Nat) x, [(.slice (some ⟨w4.heap.size + 1, 0, none⟩) 1 1)][j]? = some x → ∃ b off, (some ⟨w4.heap.size + 1 + 1, 0, none⟩ : Option Addr) = some ⟨b, off, none⟩ ∧ (((w4.alloc (.cells #[.int .i64 bi, .int .i64 bl, .int .i64 bw, .int .i64 bd, .int .i64 bs', .int .i64 bc] 57)).alloc (.cells #[.int .i64 bi, .int .i64 bl, .int .i64 bw, .int .i64 bd, .int .i64 bs', .int .i64 bc] 57)).alloc (.cells #[.slice (some ⟨w4.heap.size + 1, 0, none⟩) 1 1] 54)).cell? ⟨b, off + j, none⟩ = some x from by
          have h := one_new ((w4.alloc (.cells #[.int .i64 bi, .int .i64 bl, .int .i64 bw, .int .i64 bd, .int .i64 bs', .int .i64 bc] 57)).alloc (.cells #[.int .i64 bi, .int .i64 bl, .int .i64 bw, .int .i64 bd, .int .i64 bs', .int .i64 bc] 57)) 54 (.slice (some ⟨w4.heap.size + 1, 0, none⟩) 1 1)
          simp only [World.size_alloc] at h
          exact h)
        have HSG := Lib.hid (show OwnRow (((w4.alloc (.cells #[.int .i64 bi, .int .i64 bl, .int .i64 bw, .int .i64 bd, .int .i64 bs', .int .i64 bc] 57)).alloc (.cells #[.int .i64 bi, .int .i64 bl, .int .i64 bw, .int .i64 bd, .int .i64 bs', .int .i64 bc] 57)).alloc (.cells #[.slice (some ⟨w4.heap.size + 1, 0, none⟩) 1 1] 54)) (Tb + 1) (.slice (some ⟨w4.heap.size + 1, 0, none⟩) 1 1) [⟨bi, bl, bw, bd, bs', bc⟩] from by
          have h := OwnRow.sing (w4.alloc (.cells #[.int .i64 bi, .int .i64 bl, .int .i64 bw, .int .i64 bd, .int .i64 bs', .int .i64 bc] 57)) ⟨bi, bl, bw, bd, bs', bc⟩
          (try simp only [World.size_alloc] at h)
          exact ownsRow_low (h.ext ((Ext.refl _).alloc _)) (by omega))
        have HVL := Lib.hid hgr5.out.2.2.1
        have HVG := Lib.hid (fun g (hg : (Value.slice av 0 cv).ownBlock = some g) => (ownsRow_lt hgr5.out.2.1 hg).1)
        have ob1 : (w4.alloc (.cells #[.int .i64 bi, .int .i64 bl, .int .i64 bw, .int .i64 bd, .int .i64 bs', .int .i64 bc] 57)).cell? ⟨Tb, 1, none⟩ = some (.slice av 0 cv) := HO0.out.cell rfl
        have hb0 : (w4.alloc (.cells #[.int .i64 bi, .int .i64 bl, .int .i64 bw, .int .i64 bd, .int .i64 bs', .int .i64 bc] 57)).cell? ⟨w4.heap.size, 0, none⟩ = some (.int .i64 bi) := HB0.out.cell rfl
        have hb1 : (w4.alloc (.cells #[.int .i64 bi, .int .i64 bl, .int .i64 bw, .int .i64 bd, .int .i64 bs', .int .i64 bc] 57)).cell? ⟨w4.heap.size, 1, none⟩ = some (.int .i64 bl) := HB0.out.cell rfl
        have hb2 : (w4.alloc (.cells #[.int .i64 bi, .int .i64 bl, .int .i64 bw, .int .i64 bd, .int .i64 bs', .int .i64 bc] 57)).cell? ⟨w4.heap.size, 2, none⟩ = some (.int .i64 bw) := HB0.out.cell rfl
        have hb3 : (w4.alloc (.cells #[.int .i64 bi, .int .i64 bl, .int .i64 bw, .int .i64 bd, .int .i64 bs', .int .i64 bc] 57)).cell? ⟨w4.heap.size, 3, none⟩ = some (.int .i64 bd) := HB0.out.cell rfl
        have hb4 : (w4.alloc (.cells #[.int .i64 bi, .int .i64 bl, .int .i64 bw, .int .i64 bd, .int .i64 bs', .int .i64 bc] 57)).cell? ⟨w4.heap.size, 4, none⟩ = some (.int .i64 bs') := HB0.out.cell rfl
        have hb5 : (w4.alloc (.cells #[.int .i64 bi, .int .i64 bl, .int .i64 bw, .int .i64 bd, .int .i64 bs', .int .i64 bc] 57)).cell? ⟨w4.heap.size, 5, none⟩ = some (.int .i64 bc) := HB0.out.cell rfl
        go_wp2_with (at_builtin; refine wpList_plain rfl fun K hK => wp_append_outer _ _ rfl (Tb + 1) _ _ vs rfl HOW.out (some ⟨w4.heap.size + 1 + 1, 0, none⟩) 1 1 rfl [(.slice (some ⟨w4.heap.size + 1, 0, none⟩) 1 1)] rfl (fun h => by cases h) HON.out (fun x hx => by cases List.mem_singleton.1 hx; rfl) (by omega) (by first | omega | (simp; omega)) ?_)
        intro v' w6 hown6 hg6 hat6
        obtain ⟨g', cap', hv', _, _⟩ := World.ownsRow.form hown6 (by omega)
        obtain ⟨NN, hNN, hv2⟩ : ∃ NN, NN = acc.length + 1 ∧ v' = .slice (some ⟨g', 0, none⟩) NN cap' := ⟨_, by rw [← hp.out], hv'⟩
        clear hv'
        subst hv2
        have HNN := Lib.hid hNN
        have hNk : NN ≤ 0 + 1 := by have := hp.out; omega
        have hN0 : 0 < NN := by omega
        clear hNN
        have YG0 := GR.push (row := [⟨bi, bl, bw, bd, bs', bc⟩]) hgr5.out (by first | omega | (simp; omega)) HXW.out HSG.out (fun g hg => by cases hg; (try dsimp only); omega) (by rw [← hp.out]; exact hown6) hg6 (by first | exact hat6 | (simp only [World.size_alloc]; exact hat6))
        have YB := HO0.out.ext HXW.out
        have YO0 := YB.own hg6 (fun g hg => by have := HVG.out g hg; omega)
        have YZ0 := (HZ.out.ext HXW.out).own hg6 (fun g hg => by have := HVG.out g hg; omega)
        have YC0 := CurAt.own (HCU.out.ext HXW.out) hg6 (fun g hg => by have := HVG.out g hg; omega)
        have YW0 := grown_step HGW.out HXW.out hg6 (fun g hg => .inr (by have := HVG.out g hg; omega))
        have o1 : w6.cell? ⟨Tb, 1, none⟩ = some (.slice av _ cv) := YO0.cell rfl
        have o2 := YO0.frozen 1
        have zo6 := YO0.lt
        have YO := Lib.hid (YO0.set 1 (.slice (some ⟨g', 0, none⟩) NN cap'))
        have YZ := Lib.hid (YZ0.other (p := ⟨Tb, 1, none⟩) (by dsimp only; omega) (.slice (some ⟨g', 0, none⟩) NN cap'))
        have YC := Lib.hid (YC0.only (grownBy_set w6 ⟨Tb, 1, none⟩ (.slice (some ⟨g', 0, none⟩) NN cap')) (by dsimp only; omega) (by dsimp only; omega))
        have YW := Lib.hid (grown_step YW0 (Ext.refl _) (grownBy_set w6 ⟨Tb, 1, none⟩ (.slice (some ⟨g', 0, none⟩) NN cap')) (fun g2 hg2 => by cases hg2; exact .inr (by dsimp only; omega)))
        have YG := Lib.hid ((YG0.set (p := ⟨Tb, 1, none⟩) (.inl (by dsimp only; omega)) (.slice (some ⟨g', 0, none⟩) NN cap')).wide (hi' := (w6.setCell ⟨Tb, 1, none⟩ (.slice (some ⟨g', 0, none⟩) NN cap')).heap.size) (Nat.le_refl _) (by rw [size_setCell']; exact Nat.le_refl _))
        clear YB hown6 hg6 hat6 YG0 YO0 YZ0 YC0 YW0
        refine hK _ _ ?_
        clear hK K
        go_wp2
        go_roundw
        case rel => exact ⟨0 + 1, NN, _, cap', _, _, by omega, by go_num, (fun _ => hN0), hNk, YO.out, YZ.out, YC.out, YW.out, by (show _ = _); rw [List.length_append, HNN.out]; rfl, YG.out, HGA.out⟩
        case measure => simp [intOf]; omega
      · have d0 : (0 : Int) < (k : Int) := by omega
        have hp1 := hp0 (by omega)
        go_wp2_with fail
        refine (l01Once_any w0 _ B bs 2 (by decide) (by decide) (HC4.out.ext eB.out)).mono ?_
        rintro e w5 ⟨b, rfl, hc5, ho5⟩
        have hs5 := ho5.size
        simp only [World.size_alloc] at hs5
        have zb5 : Bb < w5.heap.size := by omega
        have HO0 := Lib.hid (HXB.out.only ho5 (by omega))
        have HB0 := Lib.hid (rB.only ho5 (by omega))
        have HZ := Lib.hid ((HZ4.out.ext eB.out).only ho5 (by omega))
        have HCU := Lib.hid hc5
        have HGW := Lib.hid (only_trans (only_ext HO4.out eB.out) ho5)
        have hgr5 := Lib.hid ((HG4.out.ext eB.out).grown ho5 (fun B2 e => by cases e; left; omega))
        clear rB hc5 ho5
        (try rw [hBb])
        have hwB : wr.heap.size ≤ Bb := by omega
        clear hBb
        have zT5 := HO0.out.lt
        cases b
        · have HGA := Lib.hid (good_step (acc' := acc ++ [[⟨bi, bl, bw, bd, bs', bc⟩]]) hgood.out HBT.out (by rw [List.flatten_append]; rfl) (fun r hr => by
            rcases List.mem_append.1 hr with h | h
            · exact hgood.out.2.1 r h
            · rw [List.mem_singleton.1 h]; exact (by decide : (1 : Nat) ≠ 0)))
          have HXW := Lib.hid (((Ext.refl w5).alloc (.cells #[.int .i64 bi, .int .i64 bl, .int .i64 bw, .int .i64 bd, .int .i64 bs', .int .i64 bc] 57)).alloc (.cells #[(.slice (some ⟨w5.heap.size, 0, none⟩) 1 1)] 54))
          have HOW := Lib.hid (ownsRow_ext hgr5.out.2.1 HXW.out)
          rw [← hp.out] at HOW
          have HON := Lib.hid (show ∀ (j : Nat) x, [(.slice (some ⟨w5.heap.size, 0, none⟩) 1 1)][j]? = some x → ∃ b off, (some ⟨w5.heap.size + 1, 0, none⟩ : Option Addr) = some ⟨b, off, none⟩ ∧ ((w5.alloc (.cells #[.int .i64 bi, .int .i64 bl, .int .i64 bw, .int .i64 bd, .int .i64 bs', .int .i64 bc] 57)).alloc (.cells #[.slice (some ⟨w5.heap.size, 0, none⟩) 1 1] 54)).cell? ⟨b, off + j, none⟩ = some x from by
            have h := one_new (w5.alloc (.cells #[.int .i64 bi, .int .i64 bl, .int .i64 bw, .int .i64 bd, .int .i64 bs', .int .i64 bc] 57)) 54 (.slice (some ⟨w5.heap.size, 0, none⟩) 1 1)
            simp only [World.size_alloc] at h
            exact h)
          have HSG := Lib.hid (show OwnRow ((w5.alloc (.cells #[.int .i64 bi, .int .i64 bl, .int .i64 bw, .int .i64 bd, .int .i64 bs', .int .i64 bc] 57)).alloc (.cells #[.slice (some ⟨w5.heap.size, 0, none⟩) 1 1] 54)) (Tb + 1) (.slice (some ⟨w5.heap.size, 0, none⟩) 1 1) [⟨bi, bl, bw, bd, bs', bc⟩] from by
            have h := OwnRow.sing w5 ⟨bi, bl, bw, bd, bs', bc⟩
            (try simp only [World.size_alloc] at h)
            exact ownsRow_low (h.ext ((Ext.refl _).alloc _)) (by omega))
          have HVL := Lib.hid hgr5.out.2.2.1
          have HVG := Lib.hid (fun g (hg : (Value.slice av p cv).ownBlock = some g) => (ownsRow_lt hgr5.out.2.1 hg).1)
          have ob1 : w5.cell? ⟨Tb, 1, none⟩ = some (.slice av p cv) := HO0.out.cell rfl
          have hb0 : w5.cell? ⟨Bb, 0, none⟩ = some (.int .i64 bi) := HB0.out.cell rfl
          have hb1 : w5.cell? ⟨Bb, 1, none⟩ = some (.int .i64 bl) := HB0.out.cell rfl
          have hb2 : w5.cell? ⟨Bb, 2, none⟩ = some (.int .i64 bw) := HB0.out.cell rfl
          have hb3 : w5.cell? ⟨Bb, 3, none⟩ = some (.int .i64 bd) := HB0.out.cell rfl
          have hb4 : w5.cell? ⟨Bb, 4, none⟩ = some (.int .i64 bs') := HB0.out.cell rfl
          have hb5 : w5.cell? ⟨Bb, 5, none⟩ = some (.int .i64 bc) := HB0.out.cell rfl
          go_wp2_with (at_builtin; refine wpList_plain rfl fun K hK => wp_append_outer _ _ rfl (Tb + 1) _ _ vs rfl HOW.out (some ⟨w5.heap.size + 1, 0, none⟩) 1 1 rfl [(.slice (some ⟨w5.heap.size, 0, none⟩) 1 1)] rfl (fun h => by cases h) HON.out (fun x hx => by cases List.mem_singleton.1 hx; rfl) (by omega) (by first | omega | (simp; omega)) ?_)
          intro v' w6 hown6 hg6 hat6
          obtain ⟨g', cap', hv', _, _⟩ := World.ownsRow.form hown6 (by omega)
          obtain ⟨NN, hNN, hv2⟩ : ∃ NN, NN = acc.length + 1 ∧ v' = .slice (some ⟨g', 0, none⟩) NN cap' := ⟨_, by rw [← hp.out], hv'⟩
          clear hv'
          subst hv2
          have HNN := Lib.hid hNN
          have hNk : NN ≤ k + 1 := by have := hp.out; omega
          have hN0 : 0 < NN := by omega
          clear hNN
          have YG0 := GR.push (row := [⟨bi, bl, bw, bd, bs', bc⟩]) hgr5.out (by first | omega | (simp; omega)) HXW.out HSG.out (fun g hg => by cases hg; (try dsimp only); omega) (by rw [← hp.out]; exact hown6) hg6 (by first | exact hat6 | (simp only [World.size_alloc]; exact hat6))
          have YB := HO0.out.ext HXW.out
          have YO0 := YB.own hg6 (fun g hg => by have := HVG.out g hg; omega)
          have YZ0 := (HZ.out.ext HXW.out).own hg6 (fun g hg => by have := HVG.out g hg; omega)
          have YC0 := CurAt.own (HCU.out.ext HXW.out) hg6 (fun g hg => by have := HVG.out g hg; omega)
          have YW0 := grown_step HGW.out HXW.out hg6 (fun g hg => .inr (by have := HVG.out g hg; omega))
          have o1 : w6.cell? ⟨Tb, 1, none⟩ = some (.slice av _ cv) := YO0.cell rfl
          have o2 := YO0.frozen 1
          have zo6 := YO0.lt
          have YO := Lib.hid (YO0.set 1 (.slice (some ⟨g', 0, none⟩) NN cap'))
          have YZ := Lib.hid (YZ0.other (p := ⟨Tb, 1, none⟩) (by dsimp only; omega) (.slice (some ⟨g', 0, none⟩) NN cap'))
          have YC := Lib.hid (YC0.only (grownBy_set w6 ⟨Tb, 1, none⟩ (.slice (some ⟨g', 0, none⟩) NN cap')) (by dsimp only; omega) (by dsimp only; omega))
          have YW := Lib.hid (grown_step YW0 (Ext.refl _) (grownBy_set w6 ⟨Tb, 1, none⟩ (.slice (some ⟨g', 0, none⟩) NN cap')) (fun g2 hg2 => by cases hg2; exact .inr (by dsimp only; omega)))
          have YG := Lib.hid ((YG0.set (p := ⟨Tb, 1, none⟩) (.inl (by dsimp only; omega)) (.slice (some ⟨g', 0, none⟩) NN cap')).wide (hi' := (w6.setCell ⟨Tb, 1, none⟩ (.slice (some ⟨g', 0, none⟩) NN cap')).heap.size) (Nat.le_refl _) (by rw [size_setCell']; exact Nat.le_refl _))
          clear YB hown6 hg6 hat6 YG0 YO0 YZ0 YC0 YW0
          refine hK _ _ ?_
          clear hK K
          go_wp2
          go_roundw
          case rel => exact ⟨k + 1, NN, _, cap', _, _, by omega, by go_num, (fun _ => hN0), hNk, YO.out, YZ.out, YC.out, YW.out, by (show _ = _); rw [List.length_append, HNN.out]; rfl, YG.out, HGA.out⟩
          case measure => simp [intOf]; omega
        · obtain ⟨pp, rfl⟩ : ∃ pp, p = pp + 1 := ⟨p - 1, by omega⟩
          obtain ⟨g, cap, hv, hgge, hglt⟩ := World.ownsRow.form hgr5.out.2.1 (by rw [← hp.out]; omega)
          injection hv with hva hvn hvc
          subst hva hvc
          clear hvn
          have hpp : pp < acc.length := by rw [← hp.out]; omega
          obtain ⟨uu, huu, hou, hdu⟩ := hgr5.out.2.2.2 pp hpp
          obtain ⟨au, cu, rfl⟩ := hou.form
          obtain ⟨row, hrow⟩ : ∃ row, acc[pp] = row := ⟨_, rfl⟩
          have hrlen : row.length ≤ k := by rw [← hrow]; exact hgood.out.small.2 _ (List.getElem_mem _)
          have HROW := Lib.hid (show acc.getD pp [] = row by rw [← hrow]; simp [hpp])
          rw [hrow] at hou huu hdu
          clear hrow
          obtain ⟨q, hq⟩ : ∃ q, row.length = q := ⟨_, rfl⟩
          rw [hq] at huu hou hdu hrlen
          have HQ := Lib.hid hq; clear hq
          have HVS := Lib.hid huu
          have HOU := Lib.hid hou; clear hou
          have HUB := Lib.hid (show ∀ g2, (Value.slice au q cu).ownBlock = some g2 → g2 < wr.heap.size from fun g2 hg2 => (hdu g2 hg2).1)
          have HUV := Lib.hid (show ∀ g2, (Value.slice au q cu).ownBlock = some g2 → (Value.slice (some ⟨g, 0, none⟩) (pp + 1) cv).ownBlock ≠ some g2 from fun g2 hg2 => (hdu g2 hg2).2.1)
          have hgb := hgr5.out.2.2.1 g rfl
          have e9 : w5.cell? ⟨g, pp, none⟩ = some (.slice au q cu) := by
            have h := World.ownsRow.cells hgr5.out.2.1 (g := g) rfl pp _ huu
            rw [add_plain rfl] at h
            simpa using h
          clear huu hdu
          have HSK := Lib.hid (fun (w' : World) (h2 : RowAt w' Tb 32 #[.bool u, .slice (some ⟨g, 0, none⟩) (pp + 1) cv]) (h : RowAt w' Bb 57 #[.int .i64 bi, .int .i64 bl, .int .i64 bw, .int .i64 bd, .int .i64 bs', .int .i64 bc]) => (⟨h2.cell rfl, h.cell rfl, h.cell rfl, h.cell rfl, h.cell rfl, h.cell rfl, h.cell rfl⟩ : w'.cell? ⟨Tb, 1, none⟩ = some (.slice (some ⟨g, 0, none⟩) (pp + 1) cv) ∧ w'.cell? ⟨Bb, 0, none⟩ = some (.int .i64 bi) ∧ w'.cell? ⟨Bb, 1, none⟩ = some (.int .i64 bl) ∧ w'.cell? ⟨Bb, 2, none⟩ = some (.int .i64 bw) ∧ w'.cell? ⟨Bb, 3, none⟩ = some (.int .i64 bd) ∧ w'.cell? ⟨Bb, 4, none⟩ = some (.int .i64 bs') ∧ w'.cell? ⟨Bb, 5, none⟩ = some (.int .i64 bc)))
          have hi0 : (0 : Int) ≤ (pp : Int) := by omega
          have hi1 : (pp : Int) < (pp : Int) + 1 := by omega
          have HLEN := Lib.hid (show row.length + [(⟨bi, bl, bw, bd, bs', bc⟩ : Bt)].length ≤ 1048576 by rw [HQ.out]; simp; omega)
          have hwp := IntWalk.i64_in (pp : Int) (by omega)
          have HGA := Lib.hid (good_step (acc' := addLast acc ⟨bi, bl, bw, bd, bs', bc⟩) hgood.out HBT.out (addLast_flatten acc _ (fun e => by rw [e] at hpp; exact absurd hpp (Nat.not_lt_zero _))) (addLast_full hgood.out.2.1))
          go_wp2_with fail
          refine wp_region_held_drew (S := (fun w' => w'.cell? ⟨Tb, 1, none⟩ = some (.slice (some ⟨g, 0, none⟩) (pp + 1) cv) ∧ w'.cell? ⟨Bb, 0, none⟩ = some (.int .i64 bi) ∧ w'.cell? ⟨Bb, 1, none⟩ = some (.int .i64 bl) ∧ w'.cell? ⟨Bb, 2, none⟩ = some (.int .i64 bw) ∧ w'.cell? ⟨Bb, 3, none⟩ = some (.int .i64 bd) ∧ w'.cell? ⟨Bb, 4, none⟩ = some (.int .i64 bs') ∧ w'.cell? ⟨Bb, 5, none⟩ = some (.int .i64 bc))) (by kernel_rfl) ?_ (fun hH0 => ?_)
          · (try dsimp only)
            (exact HSK.out _ (by first | exact HO0.out | exact (HO0.out.ext ((Ext.refl _).alloc _)) | exact (HO0.out.ext (((Ext.refl _).alloc _).drew)) | exact HO12.out | exact (HO12.out.other (p := ⟨g, pp, none⟩) (by dsimp only; omega) _)) (by first | exact HB0.out | exact (HB0.out.ext ((Ext.refl _).alloc _)) | exact (HB0.out.ext (((Ext.refl _).alloc _).drew)) | exact HB12.out | exact (HB12.out.other (p := ⟨g, pp, none⟩) (by dsimp only; omega) _)))
          refine take_l 0 (v := ?_) rfl (by kernel_rfl) (by kernel_rfl) (by kernel_rfl) (fun _ _ _ h => h) (by rfl) ?_ (by assumption) ?_
          rotate_left
          · (intro w hSw; (try dsimp only at hSw); go_simp; (try with_reducible rfl))
          (try simp only [Act.put, List.setIfInBounds_toArray, List.set_cons_zero, List.set_cons_succ])
          refine take_l 1 (v := ?_) rfl (by kernel_rfl) (by kernel_rfl) (by kernel_rfl) (fun _ _ _ h => h) (by rfl) ?_ (by assumption) ?_
          rotate_left
          · (intro w hSw; (try dsimp only at hSw); go_simp; (try with_reducible rfl))
          (try simp only [Act.put, List.setIfInBounds_toArray, List.set_cons_zero, List.set_cons_succ])
          refine take_l 2 (v := ?_) rfl (by kernel_rfl) (by kernel_rfl) (by kernel_rfl) (fun _ _ _ h => h) (by rfl) ?_ (by assumption) ?_
          rotate_left
          · (intro w hSw; (try dsimp only at hSw); go_simp; (try with_reducible rfl))
          (try simp only [Act.put, List.setIfInBounds_toArray, List.set_cons_zero, List.set_cons_succ])
          refine take_l 3 (v := ?_) rfl (by kernel_rfl) (by kernel_rfl) (by kernel_rfl) (fun _ _ _ h => h) (by rfl) ?_ (by assumption) ?_
          rotate_left
          · (intro w hSw; (try dsimp only at hSw); go_simp; (try with_reducible rfl))
          (try simp only [Act.put, List.setIfInBounds_toArray, List.set_cons_zero, List.set_cons_succ])
          refine take_l 4 (v := ?_) rfl (by kernel_rfl) (by kernel_rfl) (by kernel_rfl) (fun _ _ _ h => h) (by rfl) ?_ (by assumption) ?_
          rotate_left
          · (intro w hSw; (try dsimp only at hSw); go_simp; (try with_reducible rfl))
          (try simp only [Act.put, List.setIfInBounds_toArray, List.set_cons_zero, List.set_cons_succ])
          refine take_l 5 (v := ?_) rfl (by kernel_rfl) (by kernel_rfl) (by kernel_rfl) (fun _ _ _ h => h) (by rfl) ?_ (by assumption) ?_
          rotate_left
          · (intro w hSw; (try dsimp only at hSw); go_simp; (try with_reducible rfl))
          (try simp only [Act.put, List.setIfInBounds_toArray, List.set_cons_zero, List.set_cons_succ])
          refine take_l 6 (v := ?_) rfl (by kernel_rfl) (by kernel_rfl) (by kernel_rfl) (fun _ _ _ h => h) (by rfl) ?_ (by assumption) ?_
          rotate_left
          · (intro w hSw; (try dsimp only at hSw); go_simp; (try with_reducible rfl))
          (try simp only [Act.put, List.setIfInBounds_toArray, List.set_cons_zero, List.set_cons_succ])
          refine take_l 7 (v := ?_) rfl (by kernel_rfl) (by kernel_rfl) (by kernel_rfl) (fun _ _ _ h => h) (by rfl) ?_ (by assumption) ?_
          rotate_left
          · (intro w hSw; (try dsimp only at hSw); go_simp; (try with_reducible rfl))
          (try simp only [Act.put, List.setIfInBounds_toArray, List.set_cons_zero, List.set_cons_succ])
          refine take_l 8 (v := ?_) rfl (by kernel_rfl) (by kernel_rfl) (by kernel_rfl) (fun _ _ _ h => h) (by rfl) ?_ (by assumption) ?_
          rotate_left
          · (intro w hSw; (try dsimp only at hSw); go_simp; (try with_reducible rfl))
          (try simp only [Act.put, List.setIfInBounds_toArray, List.set_cons_zero, List.set_cons_succ])
          refine take_l 9 (v := ?_) rfl (by kernel_rfl) (by kernel_rfl) (by kernel_rfl) (fun _ _ _ h => h) (by rfl) ?_ (by assumption) ?_
          rotate_left
          · (intro w hSw; (try dsimp only at hSw); go_simp; (try with_reducible rfl))
          (try simp only [Act.put, List.setIfInBounds_toArray, List.set_cons_zero, List.set_cons_succ])
          refine take_l 10 (v := ?_) rfl (by kernel_rfl) (by kernel_rfl) (by kernel_rfl) (fun _ _ _ h => h) (by rfl) ?_ (by assumption) ?_
          rotate_left
          · (intro w hSw; (try dsimp only at hSw); go_simp; (try with_reducible rfl))
          (try simp only [Act.put, List.setIfInBounds_toArray, List.set_cons_zero, List.set_cons_succ])
          refine take_l 11 (v := ?_) rfl (by kernel_rfl) (by kernel_rfl) (by kernel_rfl) (fun _ _ _ h => h) (by rfl) ?_ (by assumption) ?_
          rotate_left
          · (intro w hSw; (try dsimp only at hSw); go_simp; (try with_reducible rfl))
          (try simp only [Act.put, List.setIfInBounds_toArray, List.set_cons_zero, List.set_cons_succ])
          refine take_l 12 (v := ?_) rfl (by kernel_rfl) (by kernel_rfl) (by kernel_rfl) (fun _ _ _ h => h) (by rfl) ?_ (by assumption) ?_
          rotate_left
          · (intro w hSw; (try dsimp only at hSw); go_simp; (try with_reducible rfl))
          (try simp only [Act.put, List.setIfInBounds_toArray, List.set_cons_zero, List.set_cons_succ])
          refine take_l 14 (v := ?_) rfl (by kernel_rfl) (by kernel_rfl) (by kernel_rfl) (fun _ _ _ h => h) (by rfl) ?_ (by assumption) ?_
          rotate_left
          · (intro w hSw; (try dsimp only at hSw); go_simp; (try with_reducible rfl))
          (try simp only [Act.put, List.setIfInBounds_toArray, List.set_cons_zero, List.set_cons_succ])
          refine wpAnyH_ready (rs := [13, 15]) (by kernel_rfl) (by simp) ?_
          refine cons_l (i := 13) rfl (fun K hK => ?_) ?_
          go_simp
          refine hK.out _ _ ?_ (fun hH1 => ?_)
          · (try dsimp only)
            (exact HSK.out _ (by first | exact HO0.out | exact (HO0.out.ext ((Ext.refl _).alloc _)) | exact (HO0.out.ext (((Ext.refl _).alloc _).drew)) | exact HO12.out | exact (HO12.out.other (p := ⟨g, pp, none⟩) (by dsimp only; omega) _)) (by first | exact HB0.out | exact (HB0.out.ext ((Ext.refl _).alloc _)) | exact (HB0.out.ext (((Ext.refl _).alloc _).drew)) | exact HB12.out | exact (HB12.out.other (p := ⟨g, pp, none⟩) (by dsimp only; omega) _)))
          clear hK K hH0
          (try simp only [Act.put, List.setIfInBounds_toArray, List.set_cons_zero, List.set_cons_succ])
          refine wpAnyH_ready (rs := [15]) (by kernel_rfl) (by simp) ?_
          refine cons_l (i := 15) rfl (fun K hK => ?_) ?_
          go_simp
          refine hK.out _ _ ?_ (fun hH2 => ?_)
          · (try dsimp only)
            (exact HSK.out _ (by first | exact HO0.out | exact (HO0.out.ext ((Ext.refl _).alloc _)) | exact (HO0.out.ext (((Ext.refl _).alloc _).drew)) | exact HO12.out | exact (HO12.out.other (p := ⟨g, pp, none⟩) (by dsimp only; omega) _)) (by first | exact HB0.out | exact (HB0.out.ext ((Ext.refl _).alloc _)) | exact (HB0.out.ext (((Ext.refl _).alloc _).drew)) | exact HB12.out | exact (HB12.out.other (p := ⟨g, pp, none⟩) (by dsimp only; omega) _)))
          clear hK K hH1
          (try simp only [Act.put, List.setIfInBounds_toArray, List.set_cons_zero, List.set_cons_succ])
          refine wpAnyH_ready (rs := [16]) (by kernel_rfl) (by simp) ?_
          refine cons_l (i := 16) rfl (fun K hK => ?_) ?_
          refine step_of_wp _ rfl (wp_append_row _ _ rfl (Tb + 1) (.slice au q cu) row [⟨bi, bl, bw, bd, bs', bc⟩] (by rfl) (HOU.out.ext ((Ext.refl w5).alloc _).drew) (some ⟨w5.heap.size, 0, none⟩) 1 1 rfl (by rfl) (fun h => by cases h) (FlatAt.ext (flat_one w5 bi bl bw bd bs' bc) ((Ext.refl _).drew)) HLEN.out (by simp; omega) ?_); intro u' w12 hown12 hg12 hat12; obtain ⟨g', cap', rfl, _, _⟩ := World.ownsRow.form hown12 (by simp); have hlen' : (row ++ [(⟨bi, bl, bw, bd, bs', bc⟩ : Bt)]).length = q + 1 := (by rw [List.length_append, HQ.out]; rfl); rw [hlen'] at hown12 hat12 ⊢; clear hlen'; have HUL := fun g2 (hg2 : (Value.slice au q cu).ownBlock = some g2) => (ownsRow_lt HOU.out hg2).1; have hg2w := Lib.hid (grown_step HGW.out ((Ext.refl w5).alloc _).drew hg12 (fun g2 hg2 => .inr (by have := HUL g2 hg2; omega))); have HO12 := Lib.hid (RowAt.own (show RowAt (World.drew (w5.alloc (.cells #[.int .i64 bi, .int .i64 bl, .int .i64 bw, .int .i64 bd, .int .i64 bs', .int .i64 bc] 57))) Tb 32 #[.bool u, .slice (some ⟨g, 0, none⟩) (pp + 1) cv] from HO0.out.ext (((Ext.refl _).alloc _).drew)) hg12 (fun g2 hg2 => by have := HUL g2 hg2; omega)); have HB12 := Lib.hid (RowAt.own (show RowAt (World.drew (w5.alloc (.cells #[.int .i64 bi, .int .i64 bl, .int .i64 bw, .int .i64 bd, .int .i64 bs', .int .i64 bc] 57))) Bb 57 #[.int .i64 bi, .int .i64 bl, .int .i64 bw, .int .i64 bd, .int .i64 bs', .int .i64 bc] from HB0.out.ext (((Ext.refl _).alloc _).drew)) hg12 (fun g2 hg2 => by have := HUB.out g2 hg2; omega)); have HZ12 := Lib.hid (RowAt.own (show RowAt (World.drew (w5.alloc (.cells #[.int .i64 bi, .int .i64 bl, .int .i64 bw, .int .i64 bd, .int .i64 bs', .int .i64 bc] 57))) w.heap.size 32 #[.bool false, .slice none 0 0] from HZ.out.ext (((Ext.refl _).alloc _).drew)) hg12 (fun g2 hg2 => by have := HUL g2 hg2; omega)); have HC12 := Lib.hid (CurAt.own (show CurAt w0 (World.drew (w5.alloc (.cells #[.int .i64 bi, .int .i64 bl, .int .i64 bw, .int .i64 bd, .int .i64 bs', .int .i64 bc] 57))) B bs from HCU.out.ext (((Ext.refl _).alloc _).drew)) hg12 (fun g2 hg2 => by have := HUL g2 hg2; omega)); have HGG := Lib.hid (ownsRow_kept (ownsRow_ext hgr5.out.2.1 ((Ext.refl w5).alloc _).drew) hg12 (fun g2 hg2 e => HUV.out g2 e hg2)); have HWO := Lib.hid hown12; have HGW12 := Lib.hid hg12; have HAT := Lib.hid hat12; clear hown12 hg12 hat12 HUL; obtain ⟨cur, hcur⟩ := ownsRow_type HGG.out rfl; have f14 := hcur.frozen pp; have e14 := World.ownsRow.cells HGG.out (g := g) rfl pp _ HVS.out; (try rw [add_plain rfl] at e14); (try simp only [Nat.zero_add] at e14); have zg12 := hcur.lt; clear hcur
          refine hK.out _ _ ?_ (fun hH3 => ?_)
          · (try dsimp only)
            (exact HSK.out _ (by first | exact HO0.out | exact (HO0.out.ext ((Ext.refl _).alloc _)) | exact (HO0.out.ext (((Ext.refl _).alloc _).drew)) | exact HO12.out | exact (HO12.out.other (p := ⟨g, pp, none⟩) (by dsimp only; omega) _)) (by first | exact HB0.out | exact (HB0.out.ext ((Ext.refl _).alloc _)) | exact (HB0.out.ext (((Ext.refl _).alloc _).drew)) | exact HB12.out | exact (HB12.out.other (p := ⟨g, pp, none⟩) (by dsimp only; omega) _)))
          clear hK K hH2
          (try simp only [Act.put, List.setIfInBounds_toArray, List.set_cons_zero, List.set_cons_succ])
          refine take_l 17 (v := ?_) rfl (by kernel_rfl) (by kernel_rfl) (by kernel_rfl) (fun _ _ _ h => h) (by rfl) ?_ (by assumption) ?_
          rotate_left
          · (intro w hSw; (try dsimp only at hSw); go_simp; (try with_reducible rfl))
          (try simp only [Act.put, List.setIfInBounds_toArray, List.set_cons_zero, List.set_cons_succ])
          refine wpAnyH_ready (rs := [18]) (by kernel_rfl) (by simp) ?_
          refine cons_l (i := 18) rfl (fun K hK => ?_) ?_
          go_simp
          refine hK.out _ _ ?_ (fun hH4 => ?_)
          · (try dsimp only)
            (exact HSK.out _ (by first | exact HO0.out | exact (HO0.out.ext ((Ext.refl _).alloc _)) | exact (HO0.out.ext (((Ext.refl _).alloc _).drew)) | exact HO12.out | exact (HO12.out.other (p := ⟨g, pp, none⟩) (by dsimp only; omega) _)) (by first | exact HB0.out | exact (HB0.out.ext ((Ext.refl _).alloc _)) | exact (HB0.out.ext (((Ext.refl _).alloc _).drew)) | exact HB12.out | exact (HB12.out.other (p := ⟨g, pp, none⟩) (by dsimp only; omega) _)))
          clear hK K hH3
          (try simp only [Act.put, List.setIfInBounds_toArray, List.set_cons_zero, List.set_cons_succ])
          refine wpAnyH_done (by kernel_rfl) ?_ _
          rotate_left
          exact AllReadyH.nil
          exact AllReadyH.nil
          exact AllReadyH.nil
          refine cons_l (i := 15) rfl (fun K hK => ?_) ?_
          go_simp
          refine hK.out _ _ ?_ (fun hH1 => ?_)
          · (try dsimp only)
            (exact HSK.out _ (by first | exact HO0.out | exact (HO0.out.ext ((Ext.refl _).alloc _)) | exact (HO0.out.ext (((Ext.refl _).alloc _).drew)) | exact HO12.out | exact (HO12.out.other (p := ⟨g, pp, none⟩) (by dsimp only; omega) _)) (by first | exact HB0.out | exact (HB0.out.ext ((Ext.refl _).alloc _)) | exact (HB0.out.ext (((Ext.refl _).alloc _).drew)) | exact HB12.out | exact (HB12.out.other (p := ⟨g, pp, none⟩) (by dsimp only; omega) _)))
          clear hK K hH0
          (try simp only [Act.put, List.setIfInBounds_toArray, List.set_cons_zero, List.set_cons_succ])
          refine wpAnyH_ready (rs := [13]) (by kernel_rfl) (by simp) ?_
          refine cons_l (i := 13) rfl (fun K hK => ?_) ?_
          go_simp
          refine hK.out _ _ ?_ (fun hH2 => ?_)
          · (try dsimp only)
            (exact HSK.out _ (by first | exact HO0.out | exact (HO0.out.ext ((Ext.refl _).alloc _)) | exact (HO0.out.ext (((Ext.refl _).alloc _).drew)) | exact HO12.out | exact (HO12.out.other (p := ⟨g, pp, none⟩) (by dsimp only; omega) _)) (by first | exact HB0.out | exact (HB0.out.ext ((Ext.refl _).alloc _)) | exact (HB0.out.ext (((Ext.refl _).alloc _).drew)) | exact HB12.out | exact (HB12.out.other (p := ⟨g, pp, none⟩) (by dsimp only; omega) _)))
          clear hK K hH1
          (try simp only [Act.put, List.setIfInBounds_toArray, List.set_cons_zero, List.set_cons_succ])
          refine wpAnyH_ready (rs := [16]) (by kernel_rfl) (by simp) ?_
          refine cons_l (i := 16) rfl (fun K hK => ?_) ?_
          refine step_of_wp _ rfl (wp_append_row _ _ rfl (Tb + 1) (.slice au q cu) row [⟨bi, bl, bw, bd, bs', bc⟩] (by rfl) (HOU.out.ext ((Ext.refl w5).alloc _).drew) (some ⟨w5.heap.size, 0, none⟩) 1 1 rfl (by rfl) (fun h => by cases h) (FlatAt.ext (flat_one w5 bi bl bw bd bs' bc) ((Ext.refl _).drew)) HLEN.out (by simp; omega) ?_); intro u' w12 hown12 hg12 hat12; obtain ⟨g', cap', rfl, _, _⟩ := World.ownsRow.form hown12 (by simp); have hlen' : (row ++ [(⟨bi, bl, bw, bd, bs', bc⟩ : Bt)]).length = q + 1 := (by rw [List.length_append, HQ.out]; rfl); rw [hlen'] at hown12 hat12 ⊢; clear hlen'; have HUL := fun g2 (hg2 : (Value.slice au q cu).ownBlock = some g2) => (ownsRow_lt HOU.out hg2).1; have hg2w := Lib.hid (grown_step HGW.out ((Ext.refl w5).alloc _).drew hg12 (fun g2 hg2 => .inr (by have := HUL g2 hg2; omega))); have HO12 := Lib.hid (RowAt.own (show RowAt (World.drew (w5.alloc (.cells #[.int .i64 bi, .int .i64 bl, .int .i64 bw, .int .i64 bd, .int .i64 bs', .int .i64 bc] 57))) Tb 32 #[.bool u, .slice (some ⟨g, 0, none⟩) (pp + 1) cv] from HO0.out.ext (((Ext.refl _).alloc _).drew)) hg12 (fun g2 hg2 => by have := HUL g2 hg2; omega)); have HB12 := Lib.hid (RowAt.own (show RowAt (World.drew (w5.alloc (.cells #[.int .i64 bi, .int .i64 bl, .int .i64 bw, .int .i64 bd, .int .i64 bs', .int .i64 bc] 57))) Bb 57 #[.int .i64 bi, .int .i64 bl, .int .i64 bw, .int .i64 bd, .int .i64 bs', .int .i64 bc] from HB0.out.ext (((Ext.refl _).alloc _).drew)) hg12 (fun g2 hg2 => by have := HUB.out g2 hg2; omega)); have HZ12 := Lib.hid (RowAt.own (show RowAt (World.drew (w5.alloc (.cells #[.int .i64 bi, .int .i64 bl, .int .i64 bw, .int .i64 bd, .int .i64 bs', .int .i64 bc] 57))) w.heap.size 32 #[.bool false, .slice none 0 0] from HZ.out.ext (((Ext.refl _).alloc _).drew)) hg12 (fun g2 hg2 => by have := HUL g2 hg2; omega)); have HC12 := Lib.hid (CurAt.own (show CurAt w0 (World.drew (w5.alloc (.cells #[.int .i64 bi, .int .i64 bl, .int .i64 bw, .int .i64 bd, .int .i64 bs', .int .i64 bc] 57))) B bs from HCU.out.ext (((Ext.refl _).alloc _).drew)) hg12 (fun g2 hg2 => by have := HUL g2 hg2; omega)); have HGG := Lib.hid (ownsRow_kept (ownsRow_ext hgr5.out.2.1 ((Ext.refl w5).alloc _).drew) hg12 (fun g2 hg2 e => HUV.out g2 e hg2)); have HWO := Lib.hid hown12; have HGW12 := Lib.hid hg12; have HAT := Lib.hid hat12; clear hown12 hg12 hat12 HUL; obtain ⟨cur, hcur⟩ := ownsRow_type HGG.out rfl; have f14 := hcur.frozen pp; have e14 := World.ownsRow.cells HGG.out (g := g) rfl pp _ HVS.out; (try rw [add_plain rfl] at e14); (try simp only [Nat.zero_add] at e14); have zg12 := hcur.lt; clear hcur
          refine hK.out _ _ ?_ (fun hH3 => ?_)
          · (try dsimp only)
            (exact HSK.out _ (by first | exact HO0.out | exact (HO0.out.ext ((Ext.refl _).alloc _)) | exact (HO0.out.ext (((Ext.refl _).alloc _).drew)) | exact HO12.out | exact (HO12.out.other (p := ⟨g, pp, none⟩) (by dsimp only; omega) _)) (by first | exact HB0.out | exact (HB0.out.ext ((Ext.refl _).alloc _)) | exact (HB0.out.ext (((Ext.refl _).alloc _).drew)) | exact HB12.out | exact (HB12.out.other (p := ⟨g, pp, none⟩) (by dsimp only; omega) _)))
          clear hK K hH2
          (try simp only [Act.put, List.setIfInBounds_toArray, List.set_cons_zero, List.set_cons_succ])
          refine take_l 17 (v := ?_) rfl (by kernel_rfl) (by kernel_rfl) (by kernel_rfl) (fun _ _ _ h => h) (by rfl) ?_ (by assumption) ?_
          rotate_left
          · (intro w hSw; (try dsimp only at hSw); go_simp; (try with_reducible rfl))
          (try simp only [Act.put, List.setIfInBounds_toArray, List.set_cons_zero, List.set_cons_succ])
          refine wpAnyH_ready (rs := [18]) (by kernel_rfl) (by simp) ?_
          refine cons_l (i := 18) rfl (fun K hK => ?_) ?_
          go_simp
          refine hK.out _ _ ?_ (fun hH4 => ?_)
          · (try dsimp only)
            (exact HSK.out _ (by first | exact HO0.out | exact (HO0.out.ext ((Ext.refl _).alloc _)) | exact (HO0.out.ext (((Ext.refl _).alloc _).drew)) | exact HO12.out | exact (HO12.out.other (p := ⟨g, pp, none⟩) (by dsimp only; omega) _)) (by first | exact HB0.out | exact (HB0.out.ext ((Ext.refl _).alloc _)) | exact (HB0.out.ext (((Ext.refl _).alloc _).drew)) | exact HB12.out | exact (HB12.out.other (p := ⟨g, pp, none⟩) (by dsimp only; omega) _)))
          clear hK K hH3
          (try simp only [Act.put, List.setIfInBounds_toArray, List.set_cons_zero, List.set_cons_succ])
          refine wpAnyH_done (by kernel_rfl) ?_ _
          rotate_left
          exact AllReadyH.nil
          exact AllReadyH.nil
          exact AllReadyH.nil
          exact AllReadyH.nil
          all_goals
            have YG := Lib.hid (GR.growLast (b := ⟨bi, bl, bw, bd, bs', bc⟩) hgr5.out hp.out.symm rfl HVS.out (((Ext.refl w5).alloc (.cells #[.int .i64 bi, .int .i64 bl, .int .i64 bw, .int .i64 bd, .int .i64 bs', .int .i64 bc] 57)).drew) (by omega) (by rw [HROW.out]; exact HWO.out) HGW12.out HAT.out)
            have YO := Lib.hid (HO12.out.other (p := ⟨g, pp, none⟩) (by dsimp only; omega) (.slice (some ⟨g', 0, none⟩) (q + 1) cap'))
            have YZ := Lib.hid (HZ12.out.other (p := ⟨g, pp, none⟩) (by dsimp only; omega) (.slice (some ⟨g', 0, none⟩) (q + 1) cap'))
            have YC := Lib.hid (HC12.out.only (grownBy_set w12 ⟨g, pp, none⟩ (.slice (some ⟨g', 0, none⟩) (q + 1) cap')) (by dsimp only; omega) (by dsimp only; omega))
            have YW := Lib.hid (grown_step hg2w.out (Ext.refl _) (grownBy_set w12 ⟨g, pp, none⟩ (.slice (some ⟨g', 0, none⟩) (q + 1) cap')) (fun g2 hg2 => by cases hg2; exact .inr (by dsimp only; omega)))
            go_wp2
            go_roundw
            case rel => exact ⟨k + 1, pp + 1, _, cv, _, _, by omega, by go_num, (fun _ => Nat.succ_pos _), by omega, YO.out, YZ.out, YC.out, YW.out, by (show _ = _); rw [addLast_len]; exact hp.out, YG.out, HGA.out⟩
            case measure => simp [intOf]; omega
    · have hkm : k = m := by omega
      subst hkm
      obtain ⟨hgl, hgf⟩ := hgood.out.small
      have ob0 : wr.cell? ⟨Tb, 0, none⟩ = some (.bool u) := hbox.cell rfl
      have ob1 : wr.cell? ⟨Tb, 1, none⟩ = some (.slice av p cv) := hbox.cell rfl
      have q0 : wr.cell? ⟨w.heap.size, 0, none⟩ = some (.bool false) := hz.out.cell rfl
      have q1 : wr.cell? ⟨w.heap.size, 1, none⟩ = some (.slice none 0 0) := hz.out.cell rfl
      have f0 := hz.out.frozen 0
      have f1 := hz.out.frozen 1
      have zz := hz.out.lt
      have zt := hbox.lt
      clear hbox hgf hgl
      go_wp2
      refine bodyPost_ret (v := .agg #[.bool u, .slice av p cv]) (by simp [results, Try.results18, go_sem, *]) rfl ⟨u, av, p, cv, k, vs, acc, ⟨hm1, hm4⟩, hgood.out, hp.out, rfl, ?_, ?_, ?_⟩
      · exact ((hgr.out.set (p := ⟨w.heap.size, 0, none⟩) (.inl (by dsimp only; omega)) _).set (p := ⟨w.heap.size, 1, none⟩) (.inl (by dsimp only; omega)) _).wide (by omega) (by simp [size_setCell'])
      · exact (hcu.out.only (grownBy_set _ ⟨w.heap.size, 0, none⟩ _) (by dsimp only; omega) (by dsimp only; omega)).only (grownBy_set _ ⟨w.heap.size, 1, none⟩ _) (by dsimp only; omega) (by dsimp only; omega)
      · have st : ∀ (a : World) (j : Nat) (x : Value), w.grownBy a (some B) → w.grownBy (a.setCell ⟨w.heap.size, j, none⟩ x) (some B) := fun a j x h => grown_step h (Ext.refl _) (grownBy_set a ⟨w.heap.size, j, none⟩ x) (fun k hk => by cases hk; exact .inr (Nat.le_refl _))
        exact st _ _ _ (st _ _ _ hgw.out)
end Go.Proofs.Ytjjikcjhnglkaaa
