/- OrderCalls: the places of the calls, sorted. -/
import Derived.Test.YtjjikcjhnglkaaaProg
import Derived.Test.YtjjikcjhnglkaaaOrdP
namespace Go.Proofs.Ytjjikcjhnglkaaa
open Go.RowKit Go.Sort
set_option linter.unusedSimpArgs false
set_option linter.unusedVariables false

set_option maxRecDepth 100000 in
set_option maxHeartbeats 4000000 in
theorem isort_nil (v : Value) (a : Option Addr) (cap : Nat) (w : World) :
    Calls Try.prog 28 #[.slice a 0 cap, .int .i64 0, .int .i64 0, v] w fun e w' => e = .returned (.tuple #[]) ∧ Ext w w' := by
  go_enter Try.func28, Try.ntmps28
  go_wp2
  go_loopw [8] (fun vi wr => vi = .int .i64 1 ∧ w = wr) (fun _ _ => 0)
  case atStart => exact ⟨rfl, rfl⟩
  case round =>
    obtain ⟨rfl, rfl⟩ := hrel
    go_wp2
    go_end0
    exact ⟨rfl, Ext.refl _⟩
set_option maxRecDepth 100000 in
set_option maxHeartbeats 4000000 in
theorem stable_nil (v : Value) (a : Option Addr) (cap : Nat) (w : World) :
    Calls Try.prog 23 #[.slice a 0 cap, .int .i64 0, v] w fun e w' => e = .returned (.tuple #[]) ∧ Ext w w' := by
  go_enter Try.func23, Try.ntmps23
  go_wp2
  go_loopw [7, 8] (fun va vb wr => va = .int .i64 0 ∧ vb = .int .i64 20 ∧ w = wr) (fun _ _ _ => 0)
  case atStart => exact ⟨rfl, rfl, rfl⟩
  case round =>
    obtain ⟨rfl, rfl, rfl⟩ := hrel
    go_wp2_with fail
    refine (isort_nil v a cap _).mono ?_
    rintro e w2 ⟨rfl, hx2⟩
    go_wp2
    go_loopw [6, 7, 8, 9] (fun v6 _ _ _ wr => v6 = .int .i64 20 ∧ w2 = wr) (fun _ _ _ _ _ => 0)
    case atStart => exact ⟨rfl, rfl⟩
    case round =>
      obtain ⟨rfl, rfl⟩ := hrel
      go_wp2
      go_end0
      exact ⟨rfl, hx2⟩
set_option maxHeartbeats 2000000 in
theorem sortStable_nil (v : Value) (a : Option Addr) (cap : Nat) (w : World) :
    Calls Try.prog 14 #[.slice a 0 cap, v] w fun e w' => e = .returned (.tuple #[]) ∧ Ext w w' := by
  go_enter Try.func14, Try.ntmps14
  go_wp2_with fail
  refine (stable_nil v a cap _).mono ?_
  rintro e w2 ⟨rfl, hx2⟩
  go_wp2
  go_end0
  exact ⟨rfl, hx2⟩

/-- The sort, whatever the length. -/
theorem sortOrd_any (cs : List Cl) (a : Option Addr) (n c bl bn : Nat) (w1 : World) (hn : n = cs.length) (hs : n ≤ 19) (hsm : ∀ x ∈ cs, x.small) (hlt : ∀ x ∈ cs, ∀ y ∈ cs, ltC x y = decide (keyC x < keyC y)) (hcs : CallsAt w1 a cs) (hl : RowAt w1 bl 24 #[.slice a n c]) (hb : RowAt w1 bn 3 #[.int .i64 100])
    (v : Value) (w : World) (hw : Ext w1 w) (hv : OwnInts w w1.heap.size v (upto n)) :
    Calls Try.prog 14 #[v, .func (.func 15) #[] #[.pointer (some ⟨bl, 0, none⟩), .pointer (some ⟨bn, 0, none⟩)]] w fun e w' => e = .returned (.tuple #[]) ∧ (∃ a' c', v = .slice a' n c' ∧ IntsAt w' a' (ordOf cs)) ∧ Ext w1 w' := by
  obtain ⟨a', c', rfl, hown⟩ := hv.own
  rw [upto_len] at *
  rcases hown with h0 | ⟨B, off, cur, rfl, hlo, hhi, hrow, hcur⟩
  · have hn0 : n = 0 := by have := congrArg List.length h0; rw [upto_len] at this; simpa using this
    subst hn0
    refine (sortStable_nil _ a' c' w).mono ?_
    rintro e w' ⟨rfl, hx⟩
    refine ⟨rfl, ⟨a', c', rfl, fun k hk => absurd hk ?_⟩, hw.trans hx⟩
    rw [ordOf, ← hn]
    simp [upto, insertionSort, insOuter_stop]
  · have hsr : SR w1 w B off (upto n).toArray := ⟨hw, hlo, cur, hrow, fun k hk => by
      rw [upto_get n k (by simpa [upto] using hk)]
      have := hcur k (by simpa [upto] using hk)
      rw [this]; simp [upto]⟩
    refine (sortStable_any (cfi cs) _ (fun x => ∃ k : Nat, k < n ∧ x = (k : Int)) w1 ?_ B off c' n (upto n).toArray w (by simp [upto]) hs ?_ hsr).mono ?_
    · rintro W hW x y ⟨i, hi, rfl⟩ ⟨k, hk, rfl⟩
      have := closure_any cs a n c bl bn W hn (by omega) hsm (hcs.ext hW) (hl.ext hW) (hb.ext hW) i k hi hk cs[(i : Int).toNat]! cs[(k : Int).toNat]! (by rw [Int.toNat_natCast, getElem!_pos cs i (by omega)]) (by rw [Int.toNat_natCast, getElem!_pos cs k (by omega)])
      have e : cfi cs (i : Int) (k : Int) = cfC cs[(i : Int).toNat]! cs[(k : Int).toNat]! := by
        have hi' : i < cs.length := by omega
        have hk' : k < cs.length := by omega
        unfold cfi cfC kf
        rw [Int.toNat_natCast, Int.toNat_natCast, getElem!_pos cs i hi', getElem!_pos cs k hk', hlt _ (List.getElem_mem hi') _ (List.getElem_mem hk'), hlt _ (List.getElem_mem hk') _ (List.getElem_mem hi')]
        simp only [decide_eq_true_eq]
      rw [e]
      exact this
    · intro k hk
      rw [upto_get n k (by simpa [upto] using hk)]
      exact ⟨k, by simpa [upto] using hk, rfl⟩
    · rintro e w' ⟨rfl, hr⟩
      refine ⟨rfl, ⟨_, c', rfl, fun k hk => ⟨B, off, rfl, ?_⟩⟩, hr.1⟩
      have hk' : k < (insertionSort (ltI (cfi cs)) (upto n).toArray 0 n).size := by rw [ordOf, ← hn] at hk; simpa using hk
      rw [hr.cell k hk']
      simp [ordOf, ← hn, hk']

set_option maxRecDepth 100000 in
set_option maxHeartbeats 4000000 in
theorem orderCalls_any (cs : List Cl) (a : Option Addr) (n c : Nat) (w : World) (hn : n = cs.length) (hs : n ≤ 19) (hsm : ∀ x ∈ cs, x.small) (hlt : ∀ x ∈ cs, ∀ y ∈ cs, ltC x y = decide (keyC x < keyC y)) (hrk : ∀ x ∈ cs, rankOf x.rows x.si x.bo 100 ≠ 3) (hcs : CallsAt w a cs) :
    Calls Try.prog 6 #[.slice a n c, .int .i64 100] w fun e w' => (∃ a' c', e = .returned (.slice a' n c') ∧ IntsAt w' a' (ordOf cs)) ∧ Ext w w' := by
  have HCS := Lib.hid hcs; have HSM := Lib.hid hsm; have HRK := Lib.hid hrk; have HN := Lib.hid hn; have HLT := Lib.hid hlt
  clear hcs hsm hrk hn hlt
  obtain ⟨w1, hw1⟩ : ∃ W, W = (w.alloc (.cells #[.slice a n c] 24)).alloc (.cells #[.int .i64 100] 3) := ⟨_, rfl⟩
  have hx1 : Ext w w1 := by rw [hw1]; exact ((Ext.refl w).alloc _).alloc _
  have BL : RowAt w1 w.heap.size 24 #[.slice a n c] := by rw [hw1]; exact (RowAt.new w _ _).ext ((Ext.refl _).alloc _)
  have BN : RowAt w1 (w.heap.size + 1) 3 #[.int .i64 100] := by rw [hw1, ← World.size_alloc w (.cells #[.slice a n c] 24)]; exact RowAt.new _ _ _
  have HX1 := Lib.hid hx1; have HBL := Lib.hid BL; have HBN := Lib.hid BN; have HW1 := Lib.hid hw1.symm
  clear hx1 BL BN hw1
  go_enter Try.func6, Try.ntmps6
  go_wp2_with fail
  rw [HW1.out]
  go_loopw [5, 10] (fun v i wr => ∃ (q : Nat), q ≤ n ∧ i = .int .i64 q ∧ Hid (Ext w1 wr) ∧ Hid (OwnInts wr w1.heap.size v (upto q))) (fun _ i _ => n - (intOf i).toNat)
  case atStart => exact ⟨0, Nat.zero_le _, rfl, Ext.refl _, OwnInts.nil _ _⟩
  case round =>
    obtain ⟨q, hq, rfl, hr, hown⟩ := hrel
    have bl0 : wr.cell? ⟨w.heap.size, 0, none⟩ = some (.slice a n c) := (HBL.out.ext hr.out).cell rfl
    have bn0 : wr.cell? ⟨w.heap.size + 1, 0, none⟩ = some (.int .i64 100) := (HBN.out.ext hr.out).cell rfl
    by_cases hlt : q < n
    · have hqz : (q : Int) < (n : Int) := by omega
      obtain ⟨b, off, ai, cci, rfl, i0, i1, i2, i3, ir⟩ := HCS.out q (by have := HN.out; omega)
      have hsm := HSM.out _ (List.getElem_mem (show q < cs.length by have := HN.out; omega))
      have hrk := HRK.out _ (List.getElem_mem (show q < cs.length by have := HN.out; omega))
      obtain ⟨ci, hci⟩ : ∃ x, x = cs[q]'(by have := HN.out; omega) := ⟨_, rfl⟩
      rw [← hci] at i0 i1 i2 i3 ir hsm hrk
      clear hci
      obtain ⟨ui, ri, si, bi⟩ := ci
      dsimp only [Cl.small] at *
      obtain ⟨ni, hni⟩ : ∃ m, m = ri.length := ⟨_, rfl⟩
      rw [← hni] at i1 hsm
      have j0 := (HX1.out.trans hr.out).cell i0
      have j1 := (HX1.out.trans hr.out).cell i1
      have j2 := (HX1.out.trans hr.out).cell i2
      have j3 := (HX1.out.trans hr.out).cell i3
      obtain ⟨r, hrr⟩ : ∃ r, rankOf ri si bi 100 = r := ⟨_, rfl⟩
      rw [hrr] at hrk
      have dr : (r == 3) = false := by simpa using hrk
      have HNI := Lib.hid hni; have HIR := Lib.hid (ir.ext (HX1.out.trans hr.out)); have HS2 := Lib.hid hsm; have HRR := Lib.hid hrr
      clear hni ir hsm hrr hrk i0 i1 i2 i3
      have hsz := hr.out.size
      have hb1 : w.heap.size + 1 < wr.heap.size := (HBN.out.ext hr.out).lt
      have bn1 : (wr.alloc (.cells #[.bool ui, .slice ai ni cci, .int .i64 si, .int .i64 bi] 34)).cell? ⟨w.heap.size + 1, 0, none⟩ = some (.int .i64 100) := (HBN.out.ext (hr.out.alloc _)).cell rfl
      go_wp2_with fail
      refine (implRankOf_is r ui ai ni cci si bi 100 ri _ HNI.out HS2.out.1 HS2.out.2 (HIR.out.ext (by (repeat' (first | (with_reducible exact Ext.refl _) | (with_reducible assumption) | (with_reducible refine Ext.alloc ?_ _) | (with_reducible refine Ext.drewN ?_ _) | (with_reducible refine Ext.drew ?_) | (with_reducible refine Ext.setCell ?_ ?_ _) | (with_reducible exact Nat.le_refl _) | (with_reducible exact Nat.le_succ _) | (with_reducible refine Ext.trans ?_ (by assumption)) | (simp; done) | (simp; omega))))) HRR.out).mono ?_
      rintro e w4 ⟨rfl, hx4⟩
      have hx4' : Ext wr w4 := Ext.trans (by (repeat' (first | (with_reducible exact Ext.refl _) | (with_reducible assumption) | (with_reducible refine Ext.alloc ?_ _) | (with_reducible refine Ext.drewN ?_ _) | (with_reducible refine Ext.drew ?_) | (with_reducible refine Ext.setCell ?_ ?_ _) | (with_reducible exact Nat.le_refl _) | (with_reducible exact Nat.le_succ _) | (with_reducible refine Ext.trans ?_ (by assumption)) | (simp; done) | (simp; omega)))) hx4
      have HX4 := Lib.hid hx4'
      have hsz4 := hx4'.size
      clear hx4 hx4'
      go_wp2_with (at_builtin; refine append_int rfl _ _ rfl w1.heap.size _ (upto q) (upto (q + 1)) (q : Int) (upto_step q) rfl (hown.out.ext (HX4.out.alloc _)) w4.heap.size 1 rfl ?c1 (by rw [upto_len]; omega) ?c2 ?_)
      case c1 => exact (RowAt.new w4 3 #[.int .i64 (q : Int)]).cell rfl
      case c2 => simp; omega
      intro v' w5 hown5 hgrow5 _
      have hv := World.ownsRow.lt hown.out
      have hx5 : Ext w1 w5 := Ext.own ((hr.out.trans HX4.out).alloc _) hgrow5 (fun k hk => (hv k hk).1)
      have HX5 := Lib.hid hx5
      have HO5 := Lib.hid hown5; clear hown5
      clear hgrow5 hv
      go_wp2
      go_roundw
      case rel => exact ⟨q + 1, by omega, by go_num, HX5, HO5⟩
      case measure => simp [intOf]; omega
    · have hqn : q = n := by omega
      subst hqn
      have hx : Ext w1 wr := hr.out
      go_wp2_with fail
      refine (sortOrd_any cs a q c w.heap.size (w.heap.size + 1) w1 HN.out hs HSM.out HLT.out (HCS.out.ext HX1.out) HBL.out HBN.out _ wr hr.out hown.out).mono ?_
      rintro e w6 ⟨rfl, ⟨a', c', rfl, hints⟩, hx6⟩
      go_wp2
      go_ret
      exact ⟨⟨a', c', rfl, hints⟩, HX1.out.trans hx6⟩
end Go.Proofs.Ytjjikcjhnglkaaa
