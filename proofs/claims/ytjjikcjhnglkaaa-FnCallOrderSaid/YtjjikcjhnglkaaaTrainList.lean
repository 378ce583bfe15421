/- slices.Contains over ints; the list of a train's boats. -/
import Derived.Test.YtjjikcjhnglkaaaProg
import Derived.Test.YtjjikcjhnglkaaaTrainTo
import Derived.Test.YtjjikcjhnglkaaaOwn
import Derived.Laws.AppendOwnNone
namespace Go.Proofs.Ytjjikcjhnglkaaa
open Go.RowKit
set_option linter.unusedSimpArgs false
set_option linter.unusedVariables false

/-- The ints xs lie at a. -/
def IntsAt (w : World) (a : Option Addr) (xs : List Int) : Prop := ∀ k (h : k < xs.length), ∃ b off, a = some ⟨b, off, none⟩ ∧ w.cell? ⟨b, off + k, none⟩ = some (.int .i64 xs[k])
theorem IntsAt.ext {w w' : World} {a : Option Addr} {xs : List Int} (h : IntsAt w a xs) (hx : Ext w w') : IntsAt w' a xs :=
  fun k hk => let ⟨b, off, e, hc⟩ := h k hk; ⟨b, off, e, hx.cell hc⟩

/-- The place of v, or -1. -/
def SomeIdx (v : Int) (xs : List Int) (w : World) (e : Ending) (w' : World) : Prop := ∃ z : Int, e = .returned (.int .i64 z) ∧ decide (0 ≤ z) = xs.contains v ∧ w = w'

set_option maxHeartbeats 1000000 in
theorem indexInts_any (a : Option Addr) (n c : Nat) (v : Int) (xs : List Int) (w : World) (hn : n = xs.length) (hs : n ≤ maxLen) (hf : IntsAt w a xs) :
    Calls Try.prog 33 #[.slice a n c, .int .i64 v] w (SomeIdx v xs w) := by
  unfold maxLen at hs
  have HF := Lib.hid hf; clear hf
  have HN := Lib.hid hn; clear hn
  go_enter Try.func33, Try.ntmps33
  go_wp2
  go_loop [8] (fun i => ∃ k : Nat, k ≤ n ∧ i = .int .i64 k ∧ Hid (∀ j (h : j < xs.length), j < k → xs[j] ≠ v)) (fun i => n - (intOf i).toNat)
  case atStart => exact ⟨0, Nat.zero_le _, rfl, fun _ _ h => absurd h (Nat.not_lt_zero _)⟩
  case round =>
    obtain ⟨k, hk, rfl, hno⟩ := hrel
    by_cases hlt : k < n
    · have hlt' : k < xs.length := by rw [← HN.out]; exact hlt
      obtain ⟨b, off, rfl, hc⟩ := HF.out k hlt'
      obtain ⟨y, hy⟩ : ∃ y, xs[k] = y := ⟨_, rfl⟩
      rw [hy] at hc
      have HY := Lib.hid hy; clear hy
      cases hq : (v == y)
      · go_wp2
        go_round
        case rel =>
          refine ⟨k + 1, by omega, by go_num, fun j hj hjk => ?_⟩
          by_cases e : j = k
          · subst e
            rw [HY.out]
            intro e
            rw [e] at hq
            simp at hq
          · exact hno.out j hj (by omega)
        case measure => simp [intOf]; omega
      · go_wp2
        go_ret
        refine ⟨k, rfl, ?_, rfl⟩
        have e : v = xs[k] := by rw [HY.out]; simpa using hq
        have : v ∈ xs := by rw [e]; exact List.getElem_mem _
        simp [this]
    · go_wp2
      go_ret
      refine ⟨-1, rfl, ?_, rfl⟩
      have : v ∉ xs := fun h => by
        obtain ⟨j, hj, e⟩ := List.getElem_of_mem h
        exact hno.out j hj (by have := HN.out; omega) e
      simp [this]

set_option maxHeartbeats 1000000 in
theorem containsInts_any (a : Option Addr) (n c : Nat) (v : Int) (xs : List Int) (w : World) (hn : n = xs.length) (hs : n ≤ maxLen) (hf : IntsAt w a xs) :
    Calls Try.prog 31 #[.slice a n c, .int .i64 v] w fun e w' => e = .returned (.bool (xs.contains v)) ∧ w = w' := by
  have HF := Lib.hid hf; clear hf
  have HN := Lib.hid hn; clear hn
  have HS := Lib.hid hs; clear hs
  go_enter Try.func31, Try.ntmps31
  go_wp2_with fail
  refine (indexInts_any _ _ _ _ xs _ HN.out HS.out HF.out).mono ?_
  rintro e w1 ⟨z, rfl, hz, rfl⟩
  have HZ := Lib.hid hz; clear hz
  go_wp2
  go_ret
  exact ⟨ret_bool HZ.out, rfl⟩

/-! ### The boats of a train, row by row -/
/-- The list of the boats, in new memory or nil. -/
def SomeBoats (w : World) (rows : List (List Bt)) (e : Ending) (w' : World) : Prop :=
  ∃ (a : Option Addr) (c : Nat), e = .returned (.slice a rows.flatten.length c) ∧ (FlatAt w' bCells 6 a rows.flatten ∧ ∀ ad, a = some ad → w.heap.size ≤ ad.block) ∧ Ext w w'

theorem flatMap_len (row : List Bt) : (row.flatMap bCells).length = row.length * 6 := by
  induction row with
  | nil => rfl
  | cons r rs ih => rw [List.flatMap_cons, List.length_append, ih, bCells_len, List.length_cons]; omega
theorem flat_cells {w : World} {b off : Nat} {row : List Bt} (h : FlatAt w bCells 6 (some ⟨b, off, none⟩) row) : ∀ (j : Nat) u, (row.flatMap bCells)[j]? = some u → w.cell? ((⟨b, off, none⟩ : Addr).add j) = some u := fun j u hu => by
  have hj : j < row.length * 6 := by rw [← flatMap_len]; exact (List.getElem?_eq_some_iff.1 hu).1
  have hk : j / 6 < row.length := by omega
  have e : j / 6 * 6 + j % 6 = j := by omega
  have h2 := flatMap_get bCells_len row (j / 6) (j % 6) hk (by omega)
  rw [e, hu] at h2
  obtain ⟨b', off', e', hc⟩ := h (j / 6) hk
  cases e'
  have := hc (j % 6) u h2.symm
  rw [add_plain rfl]
  rw [Nat.add_assoc, e] at this
  exact this
theorem cells_one (row : List Bt) : ∀ u ∈ row.flatMap bCells, u.oneCell' = true := fun u hu => by
  obtain ⟨b, _, hb⟩ := List.mem_flatMap.1 hu
  simp [bCells] at hb
  rcases hb with rfl | rfl | rfl | rfl | rfl | rfl <;> rfl
theorem flatten_take (rows : List (List Bt)) (k : Nat) (h : k < rows.length) : (rows.take (k + 1)).flatten = (rows.take k).flatten ++ rows[k] := by
  rw [List.take_succ_eq_append_getElem h, List.flatten_append]
  simp
theorem flatten_take_le (rows : List (List Bt)) (k : Nat) : (rows.take k).flatten.length ≤ rows.flatten.length := by
  conv => rhs; rw [← List.take_append_drop k rows, List.flatten_append, List.length_append]
  omega

/-- append of a row of boats, nil or not, to a slice of the call's own. -/
theorem append_boats {w : World} {ops : Array Oper} {rest : List Oper} {o : Oper} {a : Act} {Q : Exit → Act → World → Prop} (hgd : o.guard = none) (s x : Operand)
    (ho : o.op = .call { callee := .builtin .append, args := #[s, x], argTypes := #[54, 54] })
    (base : Nat) (v : Value) (done row done' : List Bt) (hd : done' = done ++ row) (hs : a.eval s = v) (hown : w.ownsRow base 57 6 v done.length (done.flatMap bCells))
    (a' : Option Addr) (m c : Nat) (hm : m = row.length) (hx : a.eval x = .slice a' m c) (hc : a' = none → c = 0) (hf : FlatAt w bCells 6 a' row) (hle : done'.length ≤ 1048576) (hbase : base ≤ w.heap.size)
    (h : ∀ v' w', w'.ownsRow base 57 6 v' done'.length (done'.flatMap bCells) → w.grownBy w' v.ownBlock → wpList Try.prog ops Q rest (a.put o.dst v') w') : wpList Try.prog ops Q (o :: rest) a w := by
  subst hm
  subst hd
  rw [List.length_append] at hle
  cases a' with
  | none =>
    have hr : row = [] := by
      cases row with
      | nil => rfl
      | cons r rs => obtain ⟨_, _, e, _⟩ := hf 0 (by simp); cases e
    subst hr
    obtain ⟨i0, hi, _⟩ := info_parts info_boat
    rw [hc rfl] at hx
    refine wpList_append_own_none hgd s x _ ho base 57 i0 6 Try.underlying54 hi v _ _ hs hown hx ?_
    refine h v w (by rw [List.append_nil]; exact hown) ⟨rfl, rfl, rfl, Nat.le_refl _, fun _ _ _ => rfl⟩
  | some ad =>
    obtain ⟨i0, hi, hz0, hz1, hz2⟩ := info_parts info_boat
    have hcells : ∀ (j : Nat) u, (row.flatMap bCells)[j]? = some u → w.cell? (ad.add j) = some u := by
      cases row with
      | nil => intro j u hu; simp at hu
      | cons r rs =>
        obtain ⟨b, off, e, _⟩ := hf 0 (by simp)
        cases e
        exact flat_cells hf
    refine wpList_append_row hgd s x _ ho base 57 _ 6 48 Try.underlying54 info_boat rfl (by decide) v _ _ hs hown ad _ c (row.flatMap bCells) hx (flatMap_len _) hcells (cells_one _) (by unfold maxLen; omega) (by omega) hbase ?_
    intro v' w' h1 h2 _
    exact h v' w' (by rw [List.length_append, List.flatMap_append]; exact h1) h2

set_option maxHeartbeats 2000000 in
theorem implBoatsOf_any (u : Bool) (a : Option Addr) (n c : Nat) (rows : List (List Bt)) (w : World) (hn : n = rows.length) (hs : n ≤ maxLen) (ht : rows.flatten.length ≤ 1048576) (hf : RowsAt w a rows) :
    Calls Try.prog 25 #[.agg #[.bool u, .slice a n c]] w (SomeBoats w rows) := by
  unfold maxLen at hs
  have HF := Lib.hid hf; clear hf
  have HN := Lib.hid hn; clear hn
  have HT := Lib.hid ht; clear ht
  go_enter Try.func25, Try.ntmps25
  go_wp2
  go_loopw [3, 9] (fun v i wr => ∃ (k : Nat) (done : List Bt), k ≤ n ∧ i = .int .i64 k ∧ Ext w wr ∧ Hid (done = (rows.take k).flatten) ∧ Hid (wr.ownsRow w.heap.size 57 6 v done.length (done.flatMap bCells))) (fun _ i _ => n - (intOf i).toNat)
  case atStart => exact ⟨0, [], Nat.zero_le _, rfl, by (repeat' (first | (with_reducible exact Ext.refl _) | (with_reducible assumption) | (with_reducible refine Ext.alloc ?_ _) | (with_reducible refine Ext.drewN ?_ _) | (with_reducible refine Ext.drew ?_) | (with_reducible refine Ext.setCell ?_ ?_ _) | (with_reducible exact Nat.le_refl _) | (with_reducible exact Nat.le_succ _) | (with_reducible refine Ext.trans ?_ (by assumption)) | (simp; done) | (simp; omega))), rfl, World.ownsRow_nil _ _ _ _⟩
  case round =>
    obtain ⟨k, done, hk, rfl, hr, hdone, hown⟩ := hrel
    by_cases hlt : k < n
    · have hlt' : k < rows.length := by rw [← HN.out]; exact hlt
      obtain ⟨b, off, a', c', rfl, hc0, hml, hfr⟩ := HF.out k hlt'
      have e0 : wr.cell? ⟨b, off + k, none⟩ = some (.slice a' rows[k].length c') := hr.cell hc0
      have HFR := Lib.hid (hfr.ext hr); clear hfr
      have hle := flatten_take_le rows (k + 1)
      have hd2 := flatten_take rows k hlt'
      rw [hd2, ← hdone.out] at hle
      rw [← hdone.out] at hd2
      clear hdone
      obtain ⟨row, hrow⟩ : ∃ row, rows[k] = row := ⟨_, rfl⟩
      rw [hrow] at e0 HFR hle hml hd2
      obtain ⟨done', hd'⟩ : ∃ d, d = done ++ row := ⟨_, rfl⟩
      rw [← hd'] at hle hd2
      have HLE := Lib.hid (Nat.le_trans hle HT.out); clear hle
      have HD := Lib.hid hd2.symm; clear hd2
      have HD' := Lib.hid hd'; clear hd'
      have HML := Lib.hid hml; clear hml
      clear hc0
      obtain ⟨m, hm⟩ : ∃ m, m = row.length := ⟨_, rfl⟩
      rw [← hm] at e0
      have HM := Lib.hid hm; clear hm
      clear hrow
      have hsz := hr.size
      go_wp2_with (at_builtin; refine append_boats rfl _ _ rfl w.heap.size _ done row done' HD'.out rfl hown.out a' m c' HM.out rfl HML.out.2 HFR.out HLE.out hsz ?_)
      intro v' w5 hown5 hgrow5
      have hx5 := hr.own hgrow5 (fun k hk => (World.ownsRow.lt hown.out k hk).1)
      have HO5 := Lib.hid hown5; clear hown5
      clear hgrow5
      go_wp2
      go_roundw
      case rel => exact ⟨k + 1, done', by omega, by go_num, hx5, HD.out, HO5.out⟩
      case measure => simp [intOf]; omega
    · have hkn : k = n := by omega
      have HD : done = rows.flatten := by rw [hdone.out, hkn, HN.out, List.take_length]
      clear hdone
      obtain ⟨a9, c9, rfl, hfl, hnew⟩ := ownsRow_flat bCells_len hown.out
      have HNEW := Lib.hid (fun ad e => (hnew ad e).1); clear hnew
      have HD := Lib.hid HD
      have HFL := Lib.hid hfl
      clear hfl
      go_wp2
      go_ret
      exact ⟨a9, c9, by (show Ending.returned (Value.slice a9 done.length c9) = _); rw [HD.out], ⟨by rw [← HD.out]; exact HFL.out, fun ad e => by have := HNEW.out ad e; omega⟩, hr⟩

end Go.Proofs.Ytjjikcjhnglkaaa
