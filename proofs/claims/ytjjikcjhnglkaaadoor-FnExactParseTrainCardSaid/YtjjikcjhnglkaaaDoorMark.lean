/- Marks: what the law's helpers that number and read back memory do, for ints and for rows of boats. -/
import Derived.Test.YtjjikcjhnglkaaaDoorProg
import Derived.Test.YtjjikcjhnglkaaaDoorIds
namespace Go.Proofs.YtjjikcjhnglkaaaDoor
open Go.RowKit
set_option linter.unusedSimpArgs false
set_option linter.unusedVariables false

/-- From w to w' only blocks from lo to hi have changed, and new ones have come. -/
structure Chg (lo hi : Nat) (w w' : World) : Prop where
  os : w'.os = w.os
  tape : w'.tape = w.tape
  output : w'.output = w.output
  size : w.heap.size ≤ w'.heap.size
  block : ∀ k, k < w.heap.size → (k < lo ∨ hi ≤ k) → w'.heap[k]? = w.heap[k]?
theorem Chg.refl (lo hi : Nat) (w : World) : Chg lo hi w w := ⟨rfl, rfl, rfl, Nat.le_refl _, fun _ _ _ => rfl⟩
theorem Chg.trans {lo hi : Nat} {a b c : World} (h : Chg lo hi a b) (k : Chg lo hi b c) : Chg lo hi a c :=
  ⟨k.os.trans h.os, k.tape.trans h.tape, k.output.trans h.output, Nat.le_trans h.size k.size, fun i hi ho => (k.block i (Nat.lt_of_lt_of_le hi h.size) ho).trans (h.block i hi ho)⟩
theorem Chg.of_ext {lo hi : Nat} {w w' : World} (h : Ext w w') : Chg lo hi w w' := ⟨h.below.os, h.below.tape, h.below.output, h.size, fun k hk _ => h.below.block k hk⟩
theorem Chg.wide {lo hi lo' hi' : Nat} {w w' : World} (h : Chg lo hi w w') (hl : lo' ≤ lo) (hh : hi ≤ hi') : Chg lo' hi' w w' := ⟨h.os, h.tape, h.output, h.size, fun k hk ho => h.block k hk (by omega)⟩
theorem Chg.ext {lo hi : Nat} {w w1 w2 : World} (h : Chg lo hi w1 w2) (hx : Ext w w1) (hl : w.heap.size ≤ lo) : Ext w w2 :=
  ⟨h.os.trans hx.below.os, h.tape.trans hx.below.tape, h.output.trans hx.below.output, Nat.le_trans hx.size h.size, fun k hk => (h.block k (Nat.lt_of_lt_of_le hk hx.size) (.inl (Nat.lt_of_lt_of_le hk hl))).trans (hx.below.block k hk)⟩
theorem Chg.set {lo hi : Nat} {w w' : World} (h : Chg lo hi w w') {p : Addr} (hl : lo ≤ p.block) (hh : p.block < hi) (v : Value) : Chg lo hi w (w'.setCell p v) :=
  ⟨h.os, h.tape, h.output, by rw [size_setCell']; exact h.size, fun k hk ho => (Below.heap_setCell w' p v k (fun e => by omega)).trans (h.block k hk ho)⟩
theorem RowAt.chg {lo hi : Nat} {w w' : World} {B : Nat} {t : TypeId} {c : Array Value} (h : RowAt w B t c) (hc : Chg lo hi w w') (ho : B < lo ∨ hi ≤ B) : RowAt w' B t c := (hc.block B h.lt ho).trans h
theorem OwnRows.chg {lo hi lo2 hi2 : Nat} {w w' : World} {a : Option Addr} {rows : List (List Bt)} (h : OwnRows w lo hi a rows) (hc : Chg lo2 hi2 w w') (ho : hi ≤ lo2 ∨ hi2 ≤ lo) : OwnRows w' lo hi a rows :=
  h.keep (Nat.le_refl _) (Nat.le_refl _) (fun B t c h1 h2 hr => hr.chg hc (by omega))

/-! ### Ints in a block of their own -/
def IntOwn (w : World) (lo hi : Nat) (v : Value) (xs : List Int) : Prop :=
  ∃ a c, v = .slice a xs.length c ∧ (xs = [] ∨ ∃ B off cur, a = some ⟨B, off, none⟩ ∧ lo ≤ B ∧ B < hi ∧ RowAt w B 3 cur ∧ ∀ k (h : k < xs.length), cur[off + k]? = some (.int .i64 xs[k]))
theorem RowAt.cell_inv {w : World} {B : Nat} {t : TypeId} {c : Array Value} (h : RowAt w B t c) {j : Nat} {v : Value} (hv : w.cell? ⟨B, j, none⟩ = some v) : c[j]? = some v := by
  unfold RowAt at h
  simpa [World.cell?, h] using hv
theorem OwnInts.own {w : World} {base : Nat} {v : Value} {xs : List Int} (h : OwnInts w base v xs) : IntOwn w base w.heap.size v xs := by
  obtain ⟨a, c, rfl, hi, hn⟩ := h.read
  refine ⟨a, c, rfl, ?_⟩
  cases xs with
  | nil => exact .inl rfl
  | cons x xs =>
    obtain ⟨b, off, rfl, hc⟩ := hi 0 (by simp)
    obtain ⟨hb, cur, hr⟩ := hn _ rfl
    refine .inr ⟨b, off, cur, rfl, hb, hr.lt, hr, fun k hk => ?_⟩
    obtain ⟨b', off', e, hc'⟩ := hi k hk
    cases e
    exact hr.cell_inv hc'
theorem IntOwn.chg {lo hi lo2 hi2 : Nat} {w w' : World} {v : Value} {xs : List Int} (h : IntOwn w lo hi v xs) (hc : Chg lo2 hi2 w w') (ho : hi ≤ lo2 ∨ hi2 ≤ lo) : IntOwn w' lo hi v xs := by
  obtain ⟨a, c, e, hr⟩ := h
  exact ⟨a, c, e, hr.imp id fun ⟨B, off, cur, e1, h1, h2, h3, h4⟩ => ⟨B, off, cur, e1, h1, h2, h3.chg hc (by omega), h4⟩⟩
theorem IntOwn.ext {lo hi : Nat} {w w' : World} {v : Value} {xs : List Int} (h : IntOwn w lo hi v xs) (hx : Ext w w') : IntOwn w' lo hi v xs := by
  obtain ⟨a, c, e, hr⟩ := h
  exact ⟨a, c, e, hr.imp id fun ⟨B, off, cur, e1, h1, h2, h3, h4⟩ => ⟨B, off, cur, e1, h1, h2, h3.ext hx, h4⟩⟩
theorem IntOwn.ints {lo hi : Nat} {w : World} {v : Value} {xs : List Int} (h : IntOwn w lo hi v xs) : ∃ a c, v = .slice a xs.length c ∧ IntsAt w a xs := by
  obtain ⟨a, c, e, hr⟩ := h
  refine ⟨a, c, e, fun k hk => ?_⟩
  rcases hr with rfl | ⟨B, off, cur, rfl, _, _, h3, h4⟩
  · exact absurd hk (Nat.not_lt_zero _)
  · exact ⟨B, off, rfl, h3.cell (h4 k hk)⟩
theorem IntOwn.at {lo hi n : Nat} {w : World} {a : Option Addr} {c : Nat} {xs : List Int} (h : IntOwn w lo hi (.slice a n c) xs) : IntsAt w a xs := by
  obtain ⟨a', c', e, hi⟩ := h.ints
  injection e with ea _ _
  rw [ea]
  exact hi
def nums (k : Int) (n : Nat) : List Int := (List.range n).map (fun (j : Nat) => k + (j : Int))
theorem nums_len (k : Int) (n : Nat) : (nums k n).length = n := by simp [nums]
theorem nums_get (k : Int) (n j : Nat) (h : j < (nums k n).length) : (nums k n)[j] = k + (j : Int) := by simp [nums]

theorem IntOwn.at_nums {lo hi n : Nat} {w : World} {a : Option Addr} {c : Nat} {k : Int} (h : IntOwn w lo hi (.slice a n c) (nums k n)) : IntsAt w a (nums k n) := h.at

def numBoat (k : Int) : Bt := ⟨k, k + 1, k + 2, k + 3, k + 4, k + 5⟩
def numRow (k : Int) (n : Nat) : List Bt := (List.range n).map (fun (j : Nat) => numBoat (k + 6 * (j : Int)))
theorem numRow_len (k : Int) (n : Nat) : (numRow k n).length = n := by simp [numRow]
theorem numRow_get (k : Int) (n j : Nat) (h : j < (numRow k n).length) : (numRow k n)[j] = numBoat (k + 6 * (j : Int)) := by simp [numRow]
def numRows (k : Int) : List (List Bt) → List (List Bt)
  | [] => []
  | r :: rs => numRow k r.length :: numRows (k + 6 * (r.length : Int)) rs
theorem numRows_len : ∀ (rows : List (List Bt)) (k : Int), (numRows k rows).length = rows.length
  | [], _ => rfl
  | r :: rs, k => by simp [numRows, numRows_len rs]
theorem numRows_get : ∀ (rows : List (List Bt)) (k : Int) (j : Nat) (h : j < (numRows k rows).length) (h' : j < rows.length), (numRows k rows)[j] = numRow (k + 6 * (total (rows.take j) : Int)) rows[j].length
  | [], _, j, h, h' => absurd h' (Nat.not_lt_zero _)
  | r :: rs, k, 0, h, h' => by simp [numRows, total]
  | r :: rs, k, j + 1, h, h' => by
    simp only [numRows, List.getElem_cons_succ, List.take_succ_cons]
    rw [numRows_get rs _ j (by simpa [numRows] using h) (by simpa using h')]
    congr 1
    simp only [total, List.map_cons, List.sum_cons]
    omega
theorem total_step (rows : List (List Bt)) (j : Nat) (h : j < rows.length) : total (rows.take (j + 1)) = total (rows.take j) + rows[j].length := by
  rw [List.take_succ_eq_append_getElem h]
  unfold total
  rw [List.map_append, List.sum_append]
  simp only [List.map_cons, List.map_nil, List.sum_cons, List.sum_nil, Nat.add_zero]
theorem total_take_le (rows : List (List Bt)) (j : Nat) : total (rows.take j) ≤ total rows := by
  have h := congrArg total (List.take_append_drop j rows)
  simp only [total, List.map_append, List.sum_append] at *
  omega

/-- Where the change of a row of n boats in block B ends. -/
def chgTo (n B : Nat) : Nat := if n = 0 then B else B + 1
theorem chgTo_zero {n B : Nat} (h : n = 0) : chgTo n B = B := if_pos h
theorem chgTo_pos {n B : Nat} (h : ¬ n = 0) : chgTo n B = B + 1 := if_neg h

set_option maxHeartbeats 2000000 in
theorem markBoatS_any (a : Option Addr) (n c lo hi B : Nat) (row : List Bt) (k : Int) (w : World) (hn : n = row.length) (hs : n ≤ 1048576) (h0 : 0 ≤ k) (h1 : k ≤ 1099511627776) (hf : RowOwn w lo hi (.slice a n c) row B) :
    Calls Tryd.prog 49 #[.slice a n c, .int .i64 k] w fun e w' => e = .returned (.int .i64 (k + 6 * (n : Int))) ∧ RowOwn w' lo hi (.slice a n c) (numRow k n) B ∧ Chg B (chgTo n B) w w' := by
  obtain ⟨a1, c1, e1, hm, hr⟩ := hf
  injection e1 with ea en ec
  subst ea ec
  rcases hr with hxs | ⟨off, cur, ha, hl, hh, hrow, hcur⟩
  · have hn0 : n = 0 := by rw [hn, hxs]; rfl
    clear hn hxs
    subst hn0
    clear en
    have HM := Lib.hid hm; clear hm
    go_enter Tryd.func49, Tryd.ntmps49
    go_wp2
    go_loopw [1, 5] (fun kk i wr => i = .int .i64 0 ∧ kk = .int .i64 k ∧ w = wr) (fun _ _ _ => 0)
    case atStart => exact ⟨rfl, rfl, rfl⟩
    case round =>
      obtain ⟨rfl, rfl, rfl⟩ := hrel
      go_wp2
      go_ret
      exact ⟨ret_int (by simp), ⟨a, c, rfl, ⟨by simp [numRow], HM.out.2⟩, .inl rfl⟩, Chg.refl _ _ _⟩
  · subst ha
    clear en
    have HM := Lib.hid hm; clear hm
    have HC := Lib.hid (show ∀ q, q < n * 6 → ∃ u, cur[off + q]? = some u from fun q hq => by
      have hk : q / 6 < row.length := by omega
      have hq6 : q % 6 < 6 := Nat.mod_lt _ (by decide)
      have hu : ∃ u, (bCells row[q / 6])[q % 6]? = some u := ⟨_, List.getElem?_eq_getElem (by rw [bCells_len]; exact hq6)⟩
      obtain ⟨u, hu⟩ := hu
      have := hcur (q / 6) hk (q % 6) u hu
      rw [Nat.add_assoc, (by omega : q / 6 * 6 + q % 6 = q)] at this
      exact ⟨u, this⟩)
    clear hcur hn
    have HLL := Lib.hid (show lo ≤ B ∧ B < hi from ⟨hl, hh⟩)
    clear hl hh
    go_enter Tryd.func49, Tryd.ntmps49
    go_wp2
    go_loopw [1, 5] (fun kk i wr => ∃ (j : Nat) (cc : Array Value), j ≤ n ∧ i = .int .i64 j ∧ kk = .int .i64 (k + 6 * (j : Int)) ∧ RowAt wr B 44 cc ∧ Hid (Chg B (chgTo n B) w wr) ∧ Hid (∀ q, q < n * 6 → ∃ u, cc[off + q]? = some u) ∧ Hid (∀ q, q < j → ∀ p u, (bCells (numBoat (k + 6 * (q : Int))))[p]? = some u → cc[off + q * 6 + p]? = some u)) (fun _ i _ => n - (intOf i).toNat)
    case atStart => exact ⟨0, cur, Nat.zero_le _, rfl, by simp, hrow, Chg.refl _ _ _, HC.out, fun _ h => absurd h (Nat.not_lt_zero _)⟩
    case round =>
      obtain ⟨j, cc, hj, rfl, rfl, hr, hchg, hsome, hdone⟩ := hrel
      by_cases hlt : j < n
      · obtain ⟨u0, hu0⟩ := hsome.out (j * 6) (by omega)
        obtain ⟨u1, hu1⟩ := hsome.out (j * 6 + 1) (by omega)
        obtain ⟨u2, hu2⟩ := hsome.out (j * 6 + 2) (by omega)
        obtain ⟨u3, hu3⟩ := hsome.out (j * 6 + 3) (by omega)
        obtain ⟨u4, hu4⟩ := hsome.out (j * 6 + 4) (by omega)
        obtain ⟨u5, hu5⟩ := hsome.out (j * 6 + 5) (by omega)
        have HSZ := Lib.hid (Array.getElem?_eq_some_iff.1 hu5).1
        have e0 : wr.cell? ⟨B, off + j * 6, none⟩ = some u0 := hr.cell hu0
        have e1 : wr.cell? ⟨B, off + j * 6 + 1, none⟩ = some u1 := hr.cell hu1
        have e2 : wr.cell? ⟨B, off + j * 6 + 2, none⟩ = some u2 := hr.cell hu2
        have e3 : wr.cell? ⟨B, off + j * 6 + 3, none⟩ = some u3 := hr.cell hu3
        have e4 : wr.cell? ⟨B, off + j * 6 + 4, none⟩ = some u4 := hr.cell hu4
        have e5 : wr.cell? ⟨B, off + j * 6 + 5, none⟩ = some u5 := hr.cell hu5
        have f0 := hr.frozen (off + j * 6)
        have f1 := hr.frozen (off + j * 6 + 1)
        have f2 := hr.frozen (off + j * 6 + 2)
        have f3 := hr.frozen (off + j * 6 + 3)
        have f4 := hr.frozen (off + j * 6 + 4)
        have f5 := hr.frozen (off + j * 6 + 5)
        clear hu0 hu1 hu2 hu3 hu4 hu5
        go_wp2
        go_roundw
        case rel =>
          have hs2 := HSZ.out
          have hn0 : ¬ n = 0 := by omega
          have hc := hchg.out
          rw [chgTo_pos hn0] at hc
          refine ⟨j + 1, _, by omega, by go_num, by go_num, (((((hr.set _ _).set _ _).set _ _).set _ _).set _ _).set _ _, ?_, fun q hq => ?_, fun q hq p u hu => ?_⟩
          · rw [chgTo_pos hn0]
            exact (((((hc.set (Nat.le_refl _) (Nat.lt_succ_self _) _).set (Nat.le_refl _) (Nat.lt_succ_self _) _).set (Nat.le_refl _) (Nat.lt_succ_self _) _).set (Nat.le_refl _) (Nat.lt_succ_self _) _).set (Nat.le_refl _) (Nat.lt_succ_self _) _).set (Nat.le_refl _) (Nat.lt_succ_self _) _
          · obtain ⟨u, hu⟩ := hsome.out q hq
            have hz := (Array.getElem?_eq_some_iff.1 hu).1
            exact ⟨_, Array.getElem?_eq_getElem (by simpa using hz)⟩
          · have hp : p < 6 := (List.getElem?_eq_some_iff.1 hu).1
            by_cases e : q = j
            · subst e
              match p, hp, hu with
              | 0, _, hu => cases hu; simp [Array.getElem?_setIfInBounds, numBoat]; omega
              | 1, _, hu => cases hu; simp [Array.getElem?_setIfInBounds, numBoat]; omega
              | 2, _, hu => cases hu; simp [Array.getElem?_setIfInBounds, numBoat]; omega
              | 3, _, hu => cases hu; simp [Array.getElem?_setIfInBounds, numBoat]; omega
              | 4, _, hu => cases hu; simp [Array.getElem?_setIfInBounds, numBoat]; omega
              | 5, _, hu => cases hu; simp [Array.getElem?_setIfInBounds, numBoat]; omega
            · have := hdone.out q (by omega) p u hu
              rw [Array.getElem?_setIfInBounds_ne (by omega), Array.getElem?_setIfInBounds_ne (by omega), Array.getElem?_setIfInBounds_ne (by omega), Array.getElem?_setIfInBounds_ne (by omega), Array.getElem?_setIfInBounds_ne (by omega), Array.getElem?_setIfInBounds_ne (by omega)]
              exact this
        case measure => simp [intOf]; omega
      · have hjn : j = n := by omega
        subst hjn
        go_wp2
        go_ret
        refine ⟨rfl, ⟨_, c, by rw [numRow_len], ⟨by rw [numRow_len]; unfold maxLen; omega, HM.out.2⟩, .inr ⟨off, cc, rfl, HLL.out.1, HLL.out.2, hr, fun q hq p u hu => ?_⟩⟩, hchg.out⟩
        rw [numRow_get] at hu
        rw [numRow_len] at hq
        exact hdone.out q hq p u hu

set_option maxHeartbeats 2000000 in
theorem markBoatSS_any (a : Option Addr) (n c lo hi : Nat) (rows : List (List Bt)) (k : Int) (w : World) (hn : n = rows.length) (hs : n ≤ 1048576) (hrs : ∀ r ∈ rows, r.length ≤ 1048576) (ht : total rows ≤ 1048576) (h0 : 0 ≤ k) (h1 : k ≤ 8589934592) (hf : OwnRows w lo hi a rows) :
    Calls Tryd.prog 30 #[.slice a n c, .int .i64 k] w fun e w' => e = .returned (.int .i64 (k + 6 * (total rows : Int))) ∧ OwnRows w' lo hi a (numRows k rows) ∧ Chg lo hi w w' := by
  rcases hf with hxs | ⟨ob, oo, oc, blk, rfl, hl, hh, hrow, hall⟩
  · subst hxs
    have hn0 : n = 0 := hn
    clear hn
    subst hn0
    go_enter Tryd.func30, Tryd.ntmps30
    go_wp2
    go_loopw [1, 5] (fun kk i wr => i = .int .i64 0 ∧ kk = .int .i64 k ∧ w = wr) (fun _ _ _ => 0)
    case atStart => exact ⟨rfl, rfl, rfl⟩
    case round =>
      obtain ⟨rfl, rfl, rfl⟩ := hrel
      go_wp2
      go_ret
      exact ⟨ret_int (by simp [total]), .inl rfl, Chg.refl _ _ _⟩
  · have HALL := Lib.hid hall; clear hall
    have HLL := Lib.hid (show lo ≤ ob ∧ ob < hi from ⟨hl, hh⟩); clear hl hh
    have HN := Lib.hid hn; clear hn
    have HR := Lib.hid hrs; clear hrs
    have HROW := Lib.hid hrow; clear hrow
    obtain ⟨T, hT⟩ : ∃ T, total rows = T := ⟨_, rfl⟩
    have HTT := Lib.hid hT
    rw [hT] at ht
    rw [hT]
    clear hT
    go_enter Tryd.func30, Tryd.ntmps30
    go_wp2
    go_loopw [1, 5] (fun kk i wr => ∃ (j t : Nat), j ≤ n ∧ i = .int .i64 j ∧ kk = .int .i64 (k + 6 * (t : Int)) ∧ t ≤ T ∧ Hid (t = total (rows.take j)) ∧ Hid (Chg lo hi w wr) ∧ Hid (RowAt wr ob 42 oc) ∧ Hid (∀ q (h : q < rows.length), ∃ v, oc[oo + q]? = some v ∧ RowOwn wr lo hi v (if q < j then numRow (k + 6 * (total (rows.take q) : Int)) rows[q].length else rows[q]) (blk q))) (fun _ i _ => n - (intOf i).toNat)
    case atStart => exact ⟨0, 0, Nat.zero_le _, rfl, by simp, Nat.zero_le _, by (show _ = _); simp [total], Chg.refl _ _ _, HROW.out, fun q hq => by simpa using (HALL.out q hq).1⟩
    case round =>
      obtain ⟨j, t, hj, rfl, rfl, htT, hteq, hchg, hrow, hown⟩ := hrel
      by_cases hlt : j < n
      · have hlt' : j < rows.length := by rw [← HN.out]; exact hlt
        obtain ⟨v, hv, hro⟩ := hown.out j hlt'
        rw [if_neg (Nat.lt_irrefl j)] at hro
        obtain ⟨ra, rc, rfl, _, _⟩ := id hro
        have e0 : wr.cell? ⟨ob, oo + j, none⟩ = some (.slice ra rows[j].length rc) := hrow.out.cell hv
        have HRO := Lib.hid hro; clear hro
        have HV := Lib.hid hv; clear hv
        obtain ⟨m, hm⟩ : ∃ m, rows[j].length = m := ⟨_, rfl⟩
        have HLR := Lib.hid (show m ≤ 1048576 by rw [← hm]; exact HR.out rows[j] (List.getElem_mem _))
        rw [hm] at e0
        have HRO2 : Hid (RowOwn wr lo hi (.slice ra m rc) rows[j] (blk j)) := by rw [← hm]; exact HRO.out
        have hstep := total_step rows j hlt'
        rw [← hteq.out, hm] at hstep
        have hle := total_take_le rows (j + 1)
        rw [hstep, HTT.out] at hle
        have HSTEP := Lib.hid hstep; clear hstep
        have HM := Lib.hid hm; clear hm
        go_wp2_with fail
        refine (markBoatS_any ra m rc lo hi (blk j) rows[j] _ _ HM.out.symm HLR.out (by omega) (by omega) HRO2.out).mono ?_
        rintro e w1 ⟨rfl, hro1, hc1⟩
        have HRO1 := Lib.hid hro1; clear hro1
        have HC1 := Lib.hid hc1; clear hc1
        go_wp2
        go_roundw
        case rel =>
          have hc1 := HC1.out
          have hm := HM.out
          have hne : m ≠ 0 → rows[j] ≠ [] := fun h e => h (by rw [← hm, e]; rfl)
          have hblk : m ≠ 0 → lo ≤ blk j ∧ blk j < hi := fun h => by
            obtain ⟨_, _, _, _, hz⟩ := HRO2.out
            rcases hz with hz | ⟨_, _, _, h1, h2, _⟩
            · exact absurd hz (hne h)
            · exact ⟨h1, h2⟩
          have hold := HALL.out j hlt'
          refine ⟨j + 1, t + m, by omega, by go_num, by go_num, hle, HSTEP.out.symm, ?_, ?_, fun q hq => ?_⟩
          · by_cases h : m = 0
            · rw [chgTo_zero h] at hc1
              exact hchg.out.trans ⟨hc1.os, hc1.tape, hc1.output, hc1.size, fun k hk _ => hc1.block k hk (by omega)⟩
            · rw [chgTo_pos h] at hc1
              have := hblk h
              exact hchg.out.trans (hc1.wide this.1 this.2)
          · by_cases h : m = 0
            · rw [chgTo_zero h] at hc1
              exact hrow.out.chg hc1 (by omega)
            · rw [chgTo_pos h] at hc1
              exact hrow.out.chg hc1 (by have := (hold.2 (hne h)).1; omega)
          · by_cases e : q = j
            · subst e
              rw [if_pos (Nat.lt_succ_self _)]
              refine ⟨_, HV.out, ?_⟩
              rw [hm, ← hteq.out]
              exact HRO1.out
            · obtain ⟨v, hv, hro⟩ := hown.out q hq
              refine ⟨v, hv, ?_⟩
              have e1 : (q < j + 1) = (q < j) := propext ⟨fun h => by omega, fun h => by omega⟩
              simp only [e1]
              obtain ⟨a', c', ev, hm', hz⟩ := hro
              refine ⟨a', c', ev, hm', ?_⟩
              rcases hz with hz | ⟨off, cur, g1, g2, g3, g4, g5⟩
              · exact .inl hz
              · by_cases h : m = 0
                · rw [chgTo_zero h] at hc1
                  exact .inr ⟨off, cur, g1, g2, g3, g4.chg hc1 (by omega), g5⟩
                · rw [chgTo_pos h] at hc1
                  by_cases hqe : rows[q] = []
                  · left
                    split
                    · simp [hqe, numRow]
                    · exact hqe
                  · refine .inr ⟨off, cur, g1, g2, g3, g4.chg hc1 ?_, g5⟩
                    have : blk q ≠ blk j := by
                      rcases Nat.lt_or_ge q j with hqj | hqj
                      · exact (hold.2 (hne h)).2 q hqj hqe
                      · exact fun e => ((HALL.out q hq).2 hqe).2 j (by omega) (hne h) e.symm
                    omega
        case measure => simp [intOf]; omega
      · have hjn : j = n := by omega
        subst hjn
        have HTE := Lib.hid (show t = T by rw [hteq.out, HN.out, List.take_length, HTT.out])
        clear hteq
        go_wp2
        go_ret
        refine ⟨ret_int (by rw [HTE.out]), .inr ⟨ob, oo, oc, blk, rfl, HLL.out.1, HLL.out.2, hrow.out, fun q hq => ?_⟩, hchg.out⟩
        have hq' : q < rows.length := by rw [numRows_len] at hq; exact hq
        have hne : ∀ p (hp : p < rows.length) (hp' : p < (numRows k rows).length), (numRows k rows)[p] ≠ [] → rows[p] ≠ [] := fun p hp hp' h e => h (by rw [numRows_get rows k p hp' hp, e]; rfl)
        obtain ⟨v, hv, hro⟩ := hown.out q hq'
        rw [if_pos (by rw [HN.out]; exact hq')] at hro
        refine ⟨⟨v, hv, by rw [numRows_get rows k q hq hq']; exact hro⟩, fun h => ⟨((HALL.out q hq').2 (hne q hq' hq h)).1, fun k' hk' h' => ((HALL.out q hq').2 (hne q hq' hq h)).2 k' hk' (hne k' (by omega) (by omega) h')⟩⟩

set_option maxHeartbeats 1000000 in
theorem markTrain_any (u : Bool) (a : Option Addr) (n c lo hi : Nat) (rows : List (List Bt)) (k : Int) (w : World) (hn : n = rows.length) (hs : n ≤ 1048576) (hrs : ∀ r ∈ rows, r.length ≤ 1048576) (ht : total rows ≤ 1048576) (h0 : 0 ≤ k) (h1 : k ≤ 8589934592) (hhi : hi ≤ w.heap.size) (hf : OwnRows w lo hi a rows) :
    Calls Tryd.prog 13 #[.agg #[.bool u, .slice a n c], .int .i64 k] w fun e w' => e = .returned (.int .i64 (k + 6 * (total rows : Int))) ∧ OwnRows w' lo hi a (numRows k rows) ∧ Chg lo hi w w' := by
  have HF := Lib.hid hf; clear hf
  have HN := Lib.hid hn; clear hn
  have HS := Lib.hid hs; clear hs
  have HR := Lib.hid hrs; clear hrs
  obtain ⟨T, hT⟩ : ∃ T, total rows = T := ⟨_, rfl⟩
  have HTT := Lib.hid hT
  rw [hT] at ht
  rw [hT]
  clear hT
  have HT := Lib.hid ht; clear ht
  go_enter Tryd.func13, Tryd.ntmps13
  go_wp2_with fail
  refine (markBoatSS_any _ _ _ lo hi rows _ _ HN.out HS.out HR.out (HTT.out ▸ HT.out) h0 h1 (HF.out.ext ((Ext.refl _).alloc _))).mono ?_
  rw [HTT.out]
  rintro e w1 ⟨rfl, hro1, hc1⟩
  have HRO1 := Lib.hid hro1; clear hro1
  have HC1 := Lib.hid ((Chg.of_ext ((Ext.refl w).alloc _)).trans hc1)
  clear hc1
  go_wp2
  go_ret
  exact ⟨rfl, HRO1.out, HC1.out⟩

theorem markTrain_is (T : Nat) (u : Bool) (a : Option Addr) (n c lo hi : Nat) (rows : List (List Bt)) (k : Int) (w : World) (hn : n = rows.length) (hs : n ≤ 1048576) (hrs : ∀ r ∈ rows, r.length ≤ 1048576) (ht : T ≤ 1048576) (h0 : 0 ≤ k) (h1 : k ≤ 8589934592) (hhi : hi ≤ w.heap.size) (hf : OwnRows w lo hi a rows) (hT : total rows = T) :
    Calls Tryd.prog 13 #[.agg #[.bool u, .slice a n c], .int .i64 k] w fun e w' => e = .returned (.int .i64 (k + 6 * (T : Int))) ∧ OwnRows w' lo hi a (numRows k rows) ∧ Chg lo hi w w' := by
  subst hT
  exact markTrain_any u a n c lo hi rows k w hn hs hrs ht h0 h1 hhi hf

set_option maxHeartbeats 1000000 in
theorem heldBoatS_any (a : Option Addr) (n c : Nat) (k : Int) (w : World) (hs : n ≤ 1048576) (h0 : 0 ≤ k) (h1 : k ≤ 1099511627776) (hf : FlatAt w bCells 6 a (numRow k n)) :
    Calls Tryd.prog 50 #[.slice a n c, .int .i64 k] w fun e w' => e = .returned (.int .i64 (k + 6 * (n : Int))) ∧ w = w' := by
  have HF := Lib.hid hf; clear hf
  go_enter Tryd.func50, Tryd.ntmps50
  go_wp2
  go_loop [1, 5] (fun kk i => ∃ (j : Nat), j ≤ n ∧ i = .int .i64 j ∧ kk = .int .i64 (k + 6 * (j : Int))) (fun _ i => n - (intOf i).toNat)
  case atStart => exact ⟨0, Nat.zero_le _, rfl, by simp⟩
  case round =>
    obtain ⟨j, hj, rfl, rfl⟩ := hrel
    by_cases hlt : j < n
    · obtain ⟨b, off, rfl, hc⟩ := HF.out j (by rw [numRow_len]; exact hlt)
      rw [numRow_get] at hc
      have e0 : w.cell? ⟨b, off + j * 6, none⟩ = some (.int .i64 (k + 6 * (j : Int))) := hc 0 _ rfl
      have e1 : w.cell? ⟨b, off + j * 6 + 1, none⟩ = some (.int .i64 (k + 6 * (j : Int) + 1)) := hc 1 _ rfl
      have e2 : w.cell? ⟨b, off + j * 6 + 2, none⟩ = some (.int .i64 (k + 6 * (j : Int) + 1 + 1)) := by have := hc 2 _ rfl; rw [this]; simp [numBoat]; omega
      have e3 : w.cell? ⟨b, off + j * 6 + 3, none⟩ = some (.int .i64 (k + 6 * (j : Int) + 1 + 1 + 1)) := by have := hc 3 _ rfl; rw [this]; simp [numBoat]; omega
      have e4 : w.cell? ⟨b, off + j * 6 + 4, none⟩ = some (.int .i64 (k + 6 * (j : Int) + 1 + 1 + 1 + 1)) := by have := hc 4 _ rfl; rw [this]; simp [numBoat]; omega
      have e5 : w.cell? ⟨b, off + j * 6 + 5, none⟩ = some (.int .i64 (k + 6 * (j : Int) + 1 + 1 + 1 + 1 + 1)) := by have := hc 5 _ rfl; rw [this]; simp [numBoat]; omega
      clear hc
      go_wp2
      go_round
      case rel => exact ⟨j + 1, by omega, by go_num, by go_num⟩
      case measure => simp [intOf]; omega
    · have hjn : j = n := by omega
      subst hjn
      go_wp2
      go_ret
      exact ⟨rfl, rfl⟩

set_option maxHeartbeats 1000000 in
theorem heldBoatSS_any (a : Option Addr) (n c : Nat) (rows : List (List Bt)) (k : Int) (w : World) (hn : n = rows.length) (hs : n ≤ 1048576) (hrs : ∀ r ∈ rows, r.length ≤ 1048576) (ht : total rows ≤ 1048576) (h0 : 0 ≤ k) (h1 : k ≤ 8589934592) (hf : RowsAt w a (numRows k rows)) :
    Calls Tryd.prog 31 #[.slice a n c, .int .i64 k] w fun e w' => e = .returned (.int .i64 (k + 6 * (total rows : Int))) ∧ w = w' := by
  have HF := Lib.hid hf; clear hf
  have HN := Lib.hid hn; clear hn
  have HR := Lib.hid hrs; clear hrs
  obtain ⟨T, hT⟩ : ∃ T, total rows = T := ⟨_, rfl⟩
  have HTT := Lib.hid hT
  rw [hT] at ht
  rw [hT]
  clear hT
  go_enter Tryd.func31, Tryd.ntmps31
  go_wp2
  go_loop [1, 5] (fun kk i => ∃ (j t : Nat), j ≤ n ∧ i = .int .i64 j ∧ kk = .int .i64 (k + 6 * (t : Int)) ∧ t ≤ T ∧ Hid (t = total (rows.take j))) (fun _ i => n - (intOf i).toNat)
  case atStart => exact ⟨0, 0, Nat.zero_le _, rfl, by simp, Nat.zero_le _, by (show _ = _); simp [total]⟩
  case round =>
    obtain ⟨j, t, hj, rfl, rfl, htT, hteq⟩ := hrel
    by_cases hlt : j < n
    · have hlt' : j < rows.length := by rw [← HN.out]; exact hlt
      obtain ⟨b, off, ra, rc, rfl, hc, hml, hfl⟩ := HF.out j (by rw [numRows_len]; exact hlt')
      obtain ⟨m, hm⟩ : ∃ m, rows[j].length = m := ⟨_, rfl⟩
      have hstep := total_step rows j hlt'
      rw [← hteq.out, hm] at hstep
      have hle := total_take_le rows (j + 1)
      rw [hstep, HTT.out] at hle
      have hget := numRows_get rows k j (by rw [numRows_len]; exact hlt') hlt'
      rw [hm, ← hteq.out] at hget
      rw [hget] at hc hfl
      rw [numRow_len] at hc
      have HLR := Lib.hid (show m ≤ 1048576 by rw [← hm]; exact HR.out rows[j] (List.getElem_mem _))
      have HFL := Lib.hid hfl; clear hfl
      have HSTEP := Lib.hid hstep; clear hstep
      clear hm hget hml
      go_wp2_with fail
      refine (heldBoatS_any ra m rc _ _ HLR.out (by omega) (by omega) HFL.out).mono ?_
      rintro e w1 ⟨rfl, rfl⟩
      go_wp2
      go_round
      case rel => exact ⟨j + 1, t + m, by omega, by go_num, by go_num, hle, HSTEP.out.symm⟩
      case measure => simp [intOf]; omega
    · have hjn : j = n := by omega
      subst hjn
      have HTE := Lib.hid (show t = T by rw [hteq.out, HN.out, List.take_length, HTT.out])
      clear hteq
      go_wp2
      go_ret
      exact ⟨ret_int (by rw [HTE.out]), rfl⟩

set_option maxHeartbeats 1000000 in
theorem heldTrain_any (u : Bool) (a : Option Addr) (n c : Nat) (rows : List (List Bt)) (k : Int) (w : World) (hn : n = rows.length) (hs : n ≤ 1048576) (hrs : ∀ r ∈ rows, r.length ≤ 1048576) (ht : total rows ≤ 1048576) (h0 : 0 ≤ k) (h1 : k ≤ 8589934592) (hf : RowsAt w a (numRows k rows)) :
    Calls Tryd.prog 14 #[.agg #[.bool u, .slice a n c], .int .i64 k] w fun e w' => e = .returned (.int .i64 (k + 6 * (total rows : Int))) ∧ Ext w w' := by
  have HF := Lib.hid hf; clear hf
  have HN := Lib.hid hn; clear hn
  have HS := Lib.hid hs; clear hs
  have HR := Lib.hid hrs; clear hrs
  obtain ⟨T, hT⟩ : ∃ T, total rows = T := ⟨_, rfl⟩
  have HTT := Lib.hid hT
  rw [hT] at ht
  rw [hT]
  clear hT
  have HT := Lib.hid ht; clear ht
  go_enter Tryd.func14, Tryd.ntmps14
  go_wp2_with fail
  refine (heldBoatSS_any _ _ _ rows _ _ HN.out HS.out HR.out (HTT.out ▸ HT.out) h0 h1 (HF.out.ext ((Ext.refl _).alloc _))).mono ?_
  rw [HTT.out]
  rintro e w1 ⟨rfl, rfl⟩
  go_wp2
  go_ret
  exact ⟨rfl, by (repeat' (first | (with_reducible exact Ext.refl _) | (with_reducible assumption) | (with_reducible refine Ext.alloc ?_ _) | (with_reducible refine Ext.drewN ?_ _) | (with_reducible refine Ext.drew ?_) | (with_reducible refine Ext.setCell ?_ ?_ _) | (with_reducible exact Nat.le_refl _) | (with_reducible exact Nat.le_succ _) | (with_reducible refine Ext.trans ?_ (by assumption)) | (simp; done) | (simp; omega)))⟩
theorem heldTrain_is (T : Nat) (u : Bool) (a : Option Addr) (n c : Nat) (rows : List (List Bt)) (k : Int) (w : World) (hn : n = rows.length) (hs : n ≤ 1048576) (hrs : ∀ r ∈ rows, r.length ≤ 1048576) (ht : T ≤ 1048576) (h0 : 0 ≤ k) (h1 : k ≤ 8589934592) (hf : RowsAt w a (numRows k rows)) (hT : total rows = T) :
    Calls Tryd.prog 14 #[.agg #[.bool u, .slice a n c], .int .i64 k] w fun e w' => e = .returned (.int .i64 (k + 6 * (T : Int))) ∧ Ext w w' := by
  subst hT
  exact heldTrain_any u a n c rows k w hn hs hrs ht h0 h1 hf
/-! ### Variables that lie in blocks of their own -/
def Boxes (w : World) (l : List (Nat × TypeId × Array Value)) : Prop := ∀ p ∈ l, RowAt w p.1 p.2.1 p.2.2
theorem Boxes.ext {w w' : World} {l : List (Nat × TypeId × Array Value)} (h : Boxes w l) (hx : Ext w w') : Boxes w' l := fun p hp => (h p hp).ext hx
theorem Boxes.chg {w w' : World} {lo hi : Nat} {l : List (Nat × TypeId × Array Value)} (h : Boxes w l) (hc : Chg lo hi w w') (ho : ∀ p ∈ l, p.1 < lo ∨ hi ≤ p.1) : Boxes w' l := fun p hp => (h p hp).chg hc (ho p hp)
theorem Boxes.nil (w : World) : Boxes w [] := fun _ h => by cases h
theorem Boxes.cons {w : World} {b : Nat} {t : TypeId} {c : Array Value} {l : List (Nat × TypeId × Array Value)} (h : RowAt w b t c) (k : Boxes w l) : Boxes w ((b, t, c) :: l) := fun p hp => by
  rcases List.mem_cons.1 hp with rfl | hp
  · exact h
  · exact k p hp
end Go.Proofs.YtjjikcjhnglkaaaDoor
