/- Copies of rows and of trains, on both sides. -/
import Derived.Test.YtooedgaaaoinbaaProg
import Derived.Test.YtooedgaaaoinbaaGrow
import Derived.Test.YtooedgaaaoinbaaReg
import Derived.Lib.SliceRun
namespace Go.Proofs.Ytooedgaaaoinbaa
open Go.RowKit
set_option linter.unusedSimpArgs false
set_option linter.unusedVariables false

set_option maxHeartbeats 1000000 in
theorem clone_any (a : Option Addr) (n c : Nat) (row : List Bt) (w : World) (hn : n = row.length) (hs : n ≤ 1048576) (hc : a = none → c = 0) (hf : FlatAt w bCells 6 a row) :
    Calls Try.prog 134 #[.slice a n c] w fun e w' => ∃ a' c', e = .returned (.slice a' n c') ∧ OwnRow w' w.heap.size (.slice a' n c') row ∧ Ext w w' := by
  have qT : ∀ (w : World) (a : Option Addr) (n c n' c' : Nat), (binOp .eql 109 (.slice a n c) (.slice none n' c')).run Try.prog w = .ok (.bool a.isNone) w := fun w a n c n' c' => Lib.run_eql_slice_nil w _ _ a n c n' c' Try.underlying109
  have HF := Lib.hid hf; clear hf
  have HN := Lib.hid hn
  have HLE := Lib.hid (show row.length ≤ 1048576 by omega)
  clear hn
  cases a with
  | none =>
    have hr := Lib.hid (flat_none HF.out rfl)
    have hn0 := Lib.hid (show n = 0 by rw [HN.out, hr.out]; rfl)
    go_enter Try.func134, Try.ntmps134
    go_wp2
    go_ret
    exact ⟨none, 0, by (show Ending.returned (Value.slice none 0 0) = _); rw [hn0.out], by rw [hr.out, hn0.out]; exact World.ownsRow_nil _ _ _ _, Ext.refl _⟩
  | some ad =>
    go_enter Try.func134, Try.ntmps134
    go_wp2_with (at_builtin; refine wpList_plain rfl fun K hK => wp_append_row _ _ rfl w.heap.size _ [] row rfl (OwnRow.lit w) _ n c HN.out rfl (fun h => by cases h) (HF.out.ext ((Ext.refl _).alloc _)) (by simpa using HLE.out) (by simp) ?_)
    intro v' w5 hown5 hgrow5 _
    have hx5 : Ext w w5 := Ext.own2 ((Ext.refl w).alloc _) hgrow5 (OwnRow.lit w) (Nat.le_refl _)
    obtain ⟨a9, c9, rfl⟩ := hown5.form
    have HO := Lib.hid hown5; clear hown5 hgrow5
    refine hK _ _ ?_
    clear hK K
    go_wp2
    go_ret
    exact ⟨a9, c9, by (show Ending.returned (Value.slice a9 row.length c9) = _); rw [HN.out], by rw [HN.out]; exact HO.out, hx5⟩

set_option maxRecDepth 100000 in
set_option maxHeartbeats 2000000 in
theorem copyRows_any (a : Option Addr) (n c : Nat) (rows : List (List Bt)) (w : World) (hn : n = rows.length) (hs : n ≤ 1048576) (hrs : ∀ r ∈ rows, r.length ≤ 1048576) (hf : RowsAt w a rows) :
    Calls Try.prog 117 #[.slice a n c] w fun e w' => ∃ a' c' vs, e = .returned (.slice a' n c') ∧ GR w' w.heap.size w'.heap.size (.slice a' n c') vs rows ∧ Ext w w' := by
  have HF := Lib.hid hf; clear hf
  have HN := Lib.hid hn; clear hn
  have HR := Lib.hid hrs; clear hrs
  go_enter Try.func117, Try.ntmps117
  go_wp2
  go_loopw [3, 8] (fun v i wr => ∃ (k : Nat) (vs : List Value) (done : List (List Bt)), k ≤ n ∧ i = .int .i64 k ∧ Ext w wr ∧ Hid (done = rows.take k) ∧ Hid (GR wr w.heap.size wr.heap.size v vs done)) (fun _ i _ => n - (intOf i).toNat)
  case atStart => exact ⟨0, [], [], Nat.zero_le _, rfl, by (repeat' (first | (with_reducible exact Ext.refl _) | (with_reducible assumption) | (with_reducible refine Ext.alloc ?_ _) | (with_reducible refine Ext.drewN ?_ _) | (with_reducible refine Ext.drew ?_) | (with_reducible refine Ext.setCell ?_ ?_ _) | (with_reducible exact Nat.le_refl _) | (with_reducible exact Nat.le_succ _) | (with_reducible refine Ext.trans ?_ (by assumption)) | (simp; done) | (simp; omega))), rfl, GR.nil _ _ _⟩
  case round =>
    obtain ⟨k, vs, done, hk, rfl, hr, hdone, hgr⟩ := hrel
    by_cases hlt : k < n
    · have hlt' : k < rows.length := by rw [← HN.out]; exact hlt
      obtain ⟨b, off, a', c', rfl, hc0, hml, hfr⟩ := HF.out k hlt'
      have e0 : wr.cell? ⟨b, off + k, none⟩ = some (.slice a' rows[k].length c') := hr.cell hc0
      have HFR := Lib.hid (hfr.ext hr); clear hfr hc0
      obtain ⟨row, hrow⟩ : ∃ row, rows[k] = row := ⟨_, rfl⟩
      have HLR := Lib.hid (show row.length ≤ 1048576 by rw [← hrow]; exact HR.out _ (List.getElem_mem _))
      have HD := Lib.hid (show done ++ [row] = rows.take (k + 1) by rw [rows_take hlt', hdone.out, hrow])
      rw [hrow] at e0 HFR hml
      have HML := Lib.hid hml; clear hml
      have hdl : done.length = k := by rw [hdone.out, List.length_take]; omega
      have HDL := Lib.hid hdl
      clear hrow hdone hdl
      obtain ⟨m, hm⟩ : ∃ m, m = row.length := ⟨_, rfl⟩
      rw [← hm] at e0
      have HLM := Lib.hid (show m ≤ 1048576 by rw [hm]; exact HLR.out)
      have HM := Lib.hid hm; clear hm
      have hsz := hr.size
      go_wp2_with fail
      refine (clone_any a' m c' row _ HM.out HLM.out HML.out.2 HFR.out).mono ?_
      rintro e w1 ⟨ua, uc, rfl, hu, hb1⟩
      have HU := Lib.hid hu; clear hu
      have HB1 := Lib.hid hb1
      have hs1 := hb1.size
      have HX1 := Lib.hid (hb1.trans ((Ext.refl w1).alloc (.cells #[.slice ua m uc] 109)))
      have HOW := Lib.hid (ownsRow_ext hgr.out.2.1 HX1.out)
      rw [HDL.out] at HOW
      go_wp2_with (at_builtin; refine wpList_plain rfl fun K hK => wp_append_outer _ _ rfl w.heap.size _ k vs rfl HOW.out _ 1 1 rfl [.slice ua m uc] rfl (fun h => by cases h) (one_new w1 _ (.slice ua m uc)) (fun x hx => by cases List.mem_singleton.1 hx; exact HU.out.one) (by omega) (by simp; omega) ?_)
      intro v' w5 hown5 hgrow5 hat5
      have hx5 : Ext w w5 := Ext.own2 (hr.trans HX1.out) hgrow5 HOW.out (Nat.le_refl _)
      have HG := Lib.hid (GR.push (row := row) hgr.out (Nat.le_refl _) HX1.out (ownsRow_low (HU.out.ext ((Ext.refl w1).alloc _)) hsz) (fun g hg => (ownsRow_lt HU.out hg).1) (by rw [HDL.out]; exact hown5) hgrow5 (by rw [World.size_alloc]; exact hat5))
      rw [HD.out] at HG
      clear hown5 hgrow5 hat5
      refine hK _ _ ?_
      clear hK K
      go_wp2
      go_roundw
      case rel => exact ⟨k + 1, _, _, by omega, by go_num, hx5, rfl, HG.out⟩
      case measure => simp [intOf]; omega
    · have hkn : k = n := by omega
      have HD : done = rows := by rw [hdone.out, hkn, HN.out, List.take_length]
      clear hdone
      obtain ⟨a9, c9, rfl, _, _⟩ := hgr.out.own
      have HG := Lib.hid hgr.out
      rw [HD, ← HN.out] at HG
      have hnn := Lib.hid (show done.length = n by rw [HD, HN.out])
      clear HD
      go_wp2
      go_ret
      exact ⟨a9, c9, vs, by (show Ending.returned (Value.slice a9 done.length c9) = _); rw [hnn.out], HG.out, hr⟩

set_option maxRecDepth 100000 in
set_option maxHeartbeats 4000000 in
theorem l04Copy_any (u : Bool) (a : Option Addr) (n c : Nat) (rows : List (List Bt)) (w : World) (hn : n = rows.length) (hs : n ≤ 1048576) (hrs : ∀ r ∈ rows, r.length ≤ 1048576) (hf : RowsAt w a rows) :
    Calls Try.prog 109 #[.agg #[.bool u, .slice a n c]] w fun e w' => ∃ a' c' vs, e = .returned (.agg #[.bool u, .slice a' n c']) ∧ GR w' w.heap.size w'.heap.size (.slice a' n c') vs rows ∧ Ext w w' := by
  have HF := Lib.hid hf; clear hf
  have HN := Lib.hid hn; clear hn
  have HR := Lib.hid hrs; clear hrs
  go_enter Try.func109, Try.ntmps109
  -- W: the world behind the three variables
  have A0 := (RowAt.new w 36 #[.bool u, .slice a n c]).ext (((Ext.refl _).alloc (.cells #[.bool false, .slice none 0 0] 36)).alloc (.cells #[.bool u, .slice none 0 0] 36))
  have hw0 : Ext w (w.alloc (.cells #[.bool u, .slice a n c] 36)) := (Ext.refl w).alloc _
  go_wp2
  go_loopw [4] (fun i wr => ∃ (k : Nat) (v : Value) (vs : List Value) (done : List (List Bt)), k ≤ n ∧ i = .int .i64 k ∧ Ext w wr ∧ RowAt wr w.heap.size 36 #[.bool u, .slice a n c] ∧ RowAt wr (w.heap.size + 1) 36 #[.bool false, .slice none 0 0] ∧ RowAt wr (w.heap.size + 1 + 1) 36 #[.bool u, v] ∧ Hid (done = rows.take k) ∧ Hid (GR wr (w.heap.size + 1 + 1 + 1) wr.heap.size v vs done)) (fun i _ => n - (intOf i).toNat)
  case atStart =>
    refine ⟨0, .slice none 0 0, [], [], Nat.zero_le _, rfl, by (repeat' (first | (with_reducible exact Ext.refl _) | (with_reducible assumption) | (with_reducible refine Ext.alloc ?_ _) | (with_reducible refine Ext.drewN ?_ _) | (with_reducible refine Ext.drew ?_) | (with_reducible refine Ext.setCell ?_ ?_ _) | (with_reducible exact Nat.le_refl _) | (with_reducible exact Nat.le_succ _) | (with_reducible refine Ext.trans ?_ (by assumption)) | (simp; done) | (simp; omega))), ?_, ?_, ?_, rfl, GR.nil _ _ _⟩
    · exact A0
    · have h := RowAt.new (w.alloc (.cells #[.bool u, .slice a n c] 36)) 36 #[.bool false, .slice none 0 0]
      rw [World.size_alloc] at h
      exact h.ext ((Ext.refl _).alloc _)
    · have h := RowAt.new ((w.alloc (.cells #[.bool u, .slice a n c] 36)).alloc (.cells #[.bool false, .slice none 0 0] 36)) 36 #[.bool u, .slice none 0 0]
      rw [World.size_alloc, World.size_alloc] at h
      exact h
  case round =>
    obtain ⟨k, v, vs, done, hk, rfl, hr, hr0, hr1, hr2, hdone, hgr⟩ := hrel
    have g1 : wr.cell? ⟨w.heap.size, 1, none⟩ = some (.slice a n c) := hr0.cell rfl
    have g20 : wr.cell? ⟨w.heap.size + 1 + 1, 0, none⟩ = some (.bool u) := hr2.cell rfl
    have g21 : wr.cell? ⟨w.heap.size + 1 + 1, 1, none⟩ = some v := hr2.cell rfl
    have z0 := hr0.lt
    have z1 := hr1.lt
    have z2 := hr2.lt
    by_cases hlt : k < n
    · have hlt' : k < rows.length := by rw [← HN.out]; exact hlt
      obtain ⟨b, off, a', c', rfl, hc0, hml, hfr⟩ := HF.out k hlt'
      have e0 : wr.cell? ⟨b, off + k, none⟩ = some (.slice a' rows[k].length c') := hr.cell hc0
      have HFR := Lib.hid (hfr.ext hr); clear hfr
      obtain ⟨row, hrow⟩ : ∃ row, rows[k] = row := ⟨_, rfl⟩
      have HLR := Lib.hid (show row.length ≤ 1048576 by rw [← hrow]; exact HR.out _ (List.getElem_mem _))
      have HD := Lib.hid (show done ++ [row] = rows.take (k + 1) by rw [rows_take hlt', hdone.out, hrow])
      rw [hrow] at e0 HFR hml hc0
      have HML := Lib.hid hml; clear hml
      have hdl : done.length = k := by rw [hdone.out, List.length_take]; omega
      have HDL := Lib.hid hdl
      clear hrow hdone hdl
      obtain ⟨m, hm⟩ : ∃ m, m = row.length := ⟨_, rfl⟩
      rw [← hm] at e0 hc0
      have HM := Lib.hid hm; clear hm
      have HR0 := Lib.hid hr0; clear hr0
      have HR1 := Lib.hid hr1; clear hr1
      have HR2 := Lib.hid hr2; clear hr2
      have i0 : (0 : Int) ≤ (k : Int) := by omega
      have i1 : (k : Int) < (n : Int) := by omega
      have hs0 := Ext.refl wr
      have HX1 := Lib.hid ((Ext.refl wr).drew.alloc (.cells #[] 112))
      go_wp2_with fail
      refine wp_region_held_drew (S := (fun w' => Ext w w' ∧ w'.cell? ⟨w.heap.size, 1, none⟩ = some (.slice (some ⟨b, off, none⟩) n c) ∧ w'.cell? ⟨b, off + k, none⟩ = some (.slice a' m c'))) (by kernel_rfl) ?_ (fun hH0 => ?_)
      · (try dsimp only)
        ((repeat' (refine And.intro ?_ ?_)) <;> (first | (with_reducible assumption) | (exact Ext.cell (w := w) (by (repeat' (first | (with_reducible exact Ext.refl _) | (with_reducible assumption) | (with_reducible refine Ext.alloc ?_ _) | (with_reducible refine Ext.drewN ?_ _) | (with_reducible refine Ext.drew ?_) | (with_reducible refine Ext.setCell ?_ ?_ _) | (with_reducible exact Nat.le_refl _) | (with_reducible exact Nat.le_succ _) | (with_reducible refine Ext.trans ?_ (by assumption)) | (simp; done) | (simp; omega)))) hc0) | (exact Ext.cell (w := wr) (by (repeat' (first | (with_reducible exact Ext.refl _) | (with_reducible assumption) | (with_reducible refine Ext.alloc ?_ _) | (with_reducible refine Ext.drewN ?_ _) | (with_reducible refine Ext.drew ?_) | (with_reducible refine Ext.setCell ?_ ?_ _) | (with_reducible exact Nat.le_refl _) | (with_reducible exact Nat.le_succ _) | (with_reducible refine Ext.trans ?_ (by assumption)) | (simp; done) | (simp; omega)))) g1) | ((repeat' (first | (with_reducible exact Ext.refl _) | (with_reducible assumption) | (with_reducible refine Ext.alloc ?_ _) | (with_reducible refine Ext.drewN ?_ _) | (with_reducible refine Ext.drew ?_) | (with_reducible refine Ext.setCell ?_ ?_ _) | (with_reducible exact Nat.le_refl _) | (with_reducible exact Nat.le_succ _) | (with_reducible refine Ext.trans ?_ (by assumption)) | (simp; done) | (simp; omega))); done)))
      refine take_l 0 (v := ?_) rfl (by kernel_rfl) (by kernel_rfl) (by kernel_rfl) (fun _ _ _ h => h) (by rfl) ?_ (by assumption) ?_
      rotate_left
      · (intro w hSw; (try dsimp only at hSw); go_simp; (try with_reducible rfl))
      (try simp only [Act.put, List.setIfInBounds_toArray, List.set_cons_zero, List.set_cons_succ])
      refine take_l 3 (v := ?_) rfl (by kernel_rfl) (by kernel_rfl) (by kernel_rfl) (fun _ _ _ h => h) (by rfl) ?_ (by assumption) ?_
      rotate_left
      · (intro w hSw; (try dsimp only at hSw); go_simp; (try with_reducible rfl))
      (try simp only [Act.put, List.setIfInBounds_toArray, List.set_cons_zero, List.set_cons_succ])
      refine take_l 4 (v := ?_) rfl (by kernel_rfl) (by kernel_rfl) (by kernel_rfl) (fun _ _ _ h => h) (by rfl) ?_ (by assumption) ?_
      rotate_left
      · (intro w hSw; (try dsimp only at hSw); go_simp; (try with_reducible rfl))
      (try simp only [Act.put, List.setIfInBounds_toArray, List.set_cons_zero, List.set_cons_succ])
      refine take_l 5 (v := ?_) rfl (by kernel_rfl) (by kernel_rfl) (by kernel_rfl) (fun _ _ _ h => h) (by rfl) ?_ (by assumption) ?_
      rotate_left
      · (intro w hSw; (try dsimp only at hSw); go_simp; (try with_reducible rfl))
      (try simp only [Act.put, List.setIfInBounds_toArray, List.set_cons_zero, List.set_cons_succ])
      refine take_l 6 (v := ?_) rfl (by kernel_rfl) (by kernel_rfl) (by kernel_rfl) (fun _ _ _ h => h) (by rfl) ?_ (by assumption) ?_
      rotate_left
      · (intro w hSw; (try dsimp only at hSw); go_simp; (try with_reducible rfl))
      (try simp only [Act.put, List.setIfInBounds_toArray, List.set_cons_zero, List.set_cons_succ])
      refine take_l 7 (v := ?_) rfl (by kernel_rfl) (by kernel_rfl) (by kernel_rfl) (fun _ _ _ h => h) (by rfl) ?_ (by assumption) ?_
      rotate_left
      · (intro w hSw; (try dsimp only at hSw); go_simp; (try with_reducible rfl))
      (try simp only [Act.put, List.setIfInBounds_toArray, List.set_cons_zero, List.set_cons_succ])
      refine wpAnyH_ready (rs := [1, 2]) (by kernel_rfl) (by simp) ?_
      refine cons_l (i := 1) rfl (fun K hK => ?_) ?_
      go_simp
      refine hK.out _ _ ?_ (fun hH1 => ?_)
      · (try dsimp only)
        ((repeat' (refine And.intro ?_ ?_)) <;> (first | (with_reducible assumption) | (exact Ext.cell (w := w) (by (repeat' (first | (with_reducible exact Ext.refl _) | (with_reducible assumption) | (with_reducible refine Ext.alloc ?_ _) | (with_reducible refine Ext.drewN ?_ _) | (with_reducible refine Ext.drew ?_) | (with_reducible refine Ext.setCell ?_ ?_ _) | (with_reducible exact Nat.le_refl _) | (with_reducible exact Nat.le_succ _) | (with_reducible refine Ext.trans ?_ (by assumption)) | (simp; done) | (simp; omega)))) hc0) | (exact Ext.cell (w := wr) (by (repeat' (first | (with_reducible exact Ext.refl _) | (with_reducible assumption) | (with_reducible refine Ext.alloc ?_ _) | (with_reducible refine Ext.drewN ?_ _) | (with_reducible refine Ext.drew ?_) | (with_reducible refine Ext.setCell ?_ ?_ _) | (with_reducible exact Nat.le_refl _) | (with_reducible exact Nat.le_succ _) | (with_reducible refine Ext.trans ?_ (by assumption)) | (simp; done) | (simp; omega)))) g1) | ((repeat' (first | (with_reducible exact Ext.refl _) | (with_reducible assumption) | (with_reducible refine Ext.alloc ?_ _) | (with_reducible refine Ext.drewN ?_ _) | (with_reducible refine Ext.drew ?_) | (with_reducible refine Ext.setCell ?_ ?_ _) | (with_reducible exact Nat.le_refl _) | (with_reducible exact Nat.le_succ _) | (with_reducible refine Ext.trans ?_ (by assumption)) | (simp; done) | (simp; omega))); done)))
      clear hK K hH0
      (try simp only [Act.put, List.setIfInBounds_toArray, List.set_cons_zero, List.set_cons_succ])
      refine wpAnyH_ready (rs := [2]) (by kernel_rfl) (by simp) ?_
      refine cons_l (i := 2) rfl (fun K hK => ?_) ?_
      go_simp
      refine hK.out _ _ ?_ (fun hH2 => ?_)
      · (try dsimp only)
        ((repeat' (refine And.intro ?_ ?_)) <;> (first | (with_reducible assumption) | (exact Ext.cell (w := w) (by (repeat' (first | (with_reducible exact Ext.refl _) | (with_reducible assumption) | (with_reducible refine Ext.alloc ?_ _) | (with_reducible refine Ext.drewN ?_ _) | (with_reducible refine Ext.drew ?_) | (with_reducible refine Ext.setCell ?_ ?_ _) | (with_reducible exact Nat.le_refl _) | (with_reducible exact Nat.le_succ _) | (with_reducible refine Ext.trans ?_ (by assumption)) | (simp; done) | (simp; omega)))) hc0) | (exact Ext.cell (w := wr) (by (repeat' (first | (with_reducible exact Ext.refl _) | (with_reducible assumption) | (with_reducible refine Ext.alloc ?_ _) | (with_reducible refine Ext.drewN ?_ _) | (with_reducible refine Ext.drew ?_) | (with_reducible refine Ext.setCell ?_ ?_ _) | (with_reducible exact Nat.le_refl _) | (with_reducible exact Nat.le_succ _) | (with_reducible refine Ext.trans ?_ (by assumption)) | (simp; done) | (simp; omega)))) g1) | ((repeat' (first | (with_reducible exact Ext.refl _) | (with_reducible assumption) | (with_reducible refine Ext.alloc ?_ _) | (with_reducible refine Ext.drewN ?_ _) | (with_reducible refine Ext.drew ?_) | (with_reducible refine Ext.setCell ?_ ?_ _) | (with_reducible exact Nat.le_refl _) | (with_reducible exact Nat.le_succ _) | (with_reducible refine Ext.trans ?_ (by assumption)) | (simp; done) | (simp; omega))); done)))
      clear hK K hH1
      (try simp only [Act.put, List.setIfInBounds_toArray, List.set_cons_zero, List.set_cons_succ])
      refine wpAnyH_ready (rs := [8]) (by kernel_rfl) (by simp) ?_
      refine cons_l (i := 8) rfl (fun K hK => ?_) ?_
      refine step_of_wp _ rfl (wp_append_row _ _ rfl wr.heap.size _ [] row rfl ((OwnRow.lit wr).ext ((Ext.refl _).drew)) a' m c' HM.out rfl HML.out.2 (HFR.out.ext (((Ext.refl wr).alloc _).drew)) (by simpa using HLR.out) (by simp) ?_); intro u9 w9 hu9 hg9 hat9; obtain ⟨ua, uc, rfl⟩ := hu9.form; rw [List.nil_append, ← HM.out] at hu9; rw [List.nil_append, ← HM.out]; have hx9 : Ext wr w9 := Ext.own2 (((Ext.refl wr).alloc _).drew) hg9 ((OwnRow.lit wr).ext ((Ext.refl _).drew)) (Nat.le_refl _); have h21 := hx9.cell g21; have h22 := ((Ext.refl w9).alloc (.cells #[.slice ua m uc] 109)).cell h21; have z29 := hx9.size; have HU9 := Lib.hid hu9; clear hu9 hg9 hat9
      refine hK.out _ _ ?_ (fun hH3 => ?_)
      · (try dsimp only)
        ((repeat' (refine And.intro ?_ ?_)) <;> (first | (with_reducible assumption) | (exact Ext.cell (w := w) (by (repeat' (first | (with_reducible exact Ext.refl _) | (with_reducible assumption) | (with_reducible refine Ext.alloc ?_ _) | (with_reducible refine Ext.drewN ?_ _) | (with_reducible refine Ext.drew ?_) | (with_reducible refine Ext.setCell ?_ ?_ _) | (with_reducible exact Nat.le_refl _) | (with_reducible exact Nat.le_succ _) | (with_reducible refine Ext.trans ?_ (by assumption)) | (simp; done) | (simp; omega)))) hc0) | (exact Ext.cell (w := wr) (by (repeat' (first | (with_reducible exact Ext.refl _) | (with_reducible assumption) | (with_reducible refine Ext.alloc ?_ _) | (with_reducible refine Ext.drewN ?_ _) | (with_reducible refine Ext.drew ?_) | (with_reducible refine Ext.setCell ?_ ?_ _) | (with_reducible exact Nat.le_refl _) | (with_reducible exact Nat.le_succ _) | (with_reducible refine Ext.trans ?_ (by assumption)) | (simp; done) | (simp; omega)))) g1) | ((repeat' (first | (with_reducible exact Ext.refl _) | (with_reducible assumption) | (with_reducible refine Ext.alloc ?_ _) | (with_reducible refine Ext.drewN ?_ _) | (with_reducible refine Ext.drew ?_) | (with_reducible refine Ext.setCell ?_ ?_ _) | (with_reducible exact Nat.le_refl _) | (with_reducible exact Nat.le_succ _) | (with_reducible refine Ext.trans ?_ (by assumption)) | (simp; done) | (simp; omega))); done)))
      clear hK K hH2
      (try simp only [Act.put, List.setIfInBounds_toArray, List.set_cons_zero, List.set_cons_succ])
      refine wpAnyH_ready (rs := [9]) (by kernel_rfl) (by simp) ?_
      refine cons_l (i := 9) rfl (fun K hK => ?_) ?_
      go_simp
      refine hK.out _ _ ?_ (fun hH4 => ?_)
      · (try dsimp only)
        ((repeat' (refine And.intro ?_ ?_)) <;> (first | (with_reducible assumption) | (exact Ext.cell (w := w) (by (repeat' (first | (with_reducible exact Ext.refl _) | (with_reducible assumption) | (with_reducible refine Ext.alloc ?_ _) | (with_reducible refine Ext.drewN ?_ _) | (with_reducible refine Ext.drew ?_) | (with_reducible refine Ext.setCell ?_ ?_ _) | (with_reducible exact Nat.le_refl _) | (with_reducible exact Nat.le_succ _) | (with_reducible refine Ext.trans ?_ (by assumption)) | (simp; done) | (simp; omega)))) hc0) | (exact Ext.cell (w := wr) (by (repeat' (first | (with_reducible exact Ext.refl _) | (with_reducible assumption) | (with_reducible refine Ext.alloc ?_ _) | (with_reducible refine Ext.drewN ?_ _) | (with_reducible refine Ext.drew ?_) | (with_reducible refine Ext.setCell ?_ ?_ _) | (with_reducible exact Nat.le_refl _) | (with_reducible exact Nat.le_succ _) | (with_reducible refine Ext.trans ?_ (by assumption)) | (simp; done) | (simp; omega)))) g1) | ((repeat' (first | (with_reducible exact Ext.refl _) | (with_reducible assumption) | (with_reducible refine Ext.alloc ?_ _) | (with_reducible refine Ext.drewN ?_ _) | (with_reducible refine Ext.drew ?_) | (with_reducible refine Ext.setCell ?_ ?_ _) | (with_reducible exact Nat.le_refl _) | (with_reducible exact Nat.le_succ _) | (with_reducible refine Ext.trans ?_ (by assumption)) | (simp; done) | (simp; omega))); done)))
      clear hK K hH3
      (try simp only [Act.put, List.setIfInBounds_toArray, List.set_cons_zero, List.set_cons_succ])
      refine wpAnyH_ready (rs := [10]) (by kernel_rfl) (by simp) ?_
      refine cons_l (i := 10) rfl (fun K hK => ?_) ?_
      have HX9 := Lib.hid (hx9.trans ((Ext.refl w9).alloc (.cells #[.slice ua m uc] 109))); have HOW := Lib.hid (ownsRow_ext hgr.out.2.1 HX9.out); rw [HDL.out] at HOW; refine step_of_wp _ rfl (wp_append_outer _ _ rfl (w.heap.size + 1 + 1 + 1) _ k vs rfl HOW.out _ 1 1 rfl [.slice ua m uc] rfl (fun h => by cases h) (one_new w9 _ (.slice ua m uc)) (fun x hx => by cases List.mem_singleton.1 hx; exact HU9.out.one) (by omega) (by simp; omega) ?_); intro v' w10 hown10 hg10 hat10; obtain ⟨g', cap', rfl, _, _⟩ := hown10.form (by omega); have hlo : ∀ g, v.ownBlock = some g → w.heap.size + 1 + 1 + 1 ≤ g := fun g hg => (ownsRow_lt HOW.out hg).1; have hx10 : Ext w w10 := Ext.own2 (hr.trans HX9.out) hg10 HOW.out (by omega); have HG10 := Lib.hid (GR.push (row := row) hgr.out (Nat.le_refl _) HX9.out (ownsRow_low (HU9.out.ext ((Ext.refl w9).alloc _)) (by omega)) (fun g hg => (ownsRow_lt HU9.out hg).1) (by rw [HDL.out]; exact hown10) hg10 (by first | exact hat10 | (rw [World.size_alloc]; exact hat10))); rw [HD.out] at HG10; have k0 := (HR0.out.ext HX9.out).own hg10 (fun g hg => by have := hlo g hg; omega); have k1 := (HR1.out.ext HX9.out).own hg10 (fun g hg => by have := hlo g hg; omega); have k2 := (HR2.out.ext HX9.out).own hg10 (fun g hg => by have := hlo g hg; omega); have c10 : w10.cell? ⟨w.heap.size, 1, none⟩ = some (.slice (some ⟨b, off, none⟩) n c) := k0.cell rfl; have e21 : w10.cell? ⟨w.heap.size + 1 + 1, 1, none⟩ = some v := k2.cell rfl; have f21 := k2.frozen 1; have K0 := Lib.hid k0; have K1 := Lib.hid k1; have K2 := Lib.hid k2; clear k0 k1 k2 hown10 hg10 hat10 hlo
      refine hK.out _ _ ?_ (fun hH5 => ?_)
      · (try dsimp only)
        ((repeat' (refine And.intro ?_ ?_)) <;> (first | (with_reducible assumption) | (exact Ext.cell (w := w) (by (repeat' (first | (with_reducible exact Ext.refl _) | (with_reducible assumption) | (with_reducible refine Ext.alloc ?_ _) | (with_reducible refine Ext.drewN ?_ _) | (with_reducible refine Ext.drew ?_) | (with_reducible refine Ext.setCell ?_ ?_ _) | (with_reducible exact Nat.le_refl _) | (with_reducible exact Nat.le_succ _) | (with_reducible refine Ext.trans ?_ (by assumption)) | (simp; done) | (simp; omega)))) hc0) | (exact Ext.cell (w := wr) (by (repeat' (first | (with_reducible exact Ext.refl _) | (with_reducible assumption) | (with_reducible refine Ext.alloc ?_ _) | (with_reducible refine Ext.drewN ?_ _) | (with_reducible refine Ext.drew ?_) | (with_reducible refine Ext.setCell ?_ ?_ _) | (with_reducible exact Nat.le_refl _) | (with_reducible exact Nat.le_succ _) | (with_reducible refine Ext.trans ?_ (by assumption)) | (simp; done) | (simp; omega)))) g1) | ((repeat' (first | (with_reducible exact Ext.refl _) | (with_reducible assumption) | (with_reducible refine Ext.alloc ?_ _) | (with_reducible refine Ext.drewN ?_ _) | (with_reducible refine Ext.drew ?_) | (with_reducible refine Ext.setCell ?_ ?_ _) | (with_reducible exact Nat.le_refl _) | (with_reducible exact Nat.le_succ _) | (with_reducible refine Ext.trans ?_ (by assumption)) | (simp; done) | (simp; omega))); done)))
      clear hK K hH4
      (try simp only [Act.put, List.setIfInBounds_toArray, List.set_cons_zero, List.set_cons_succ])
      refine take_l 11 (v := ?_) rfl (by kernel_rfl) (by kernel_rfl) (by kernel_rfl) (fun _ _ _ h => h) (by rfl) ?_ (by assumption) ?_
      rotate_left
      · (intro w hSw; (try dsimp only at hSw); go_simp; (try with_reducible rfl))
      (try simp only [Act.put, List.setIfInBounds_toArray, List.set_cons_zero, List.set_cons_succ])
      refine wpAnyH_ready (rs := [12]) (by kernel_rfl) (by simp) ?_
      refine cons_l (i := 12) rfl (fun K hK => ?_) ?_
      go_simp; have c12 : (w10.setCell ⟨w.heap.size + 1 + 1, 1, none⟩ (.slice (some ⟨g', 0, none⟩) (k + 1) cap')).cell? ⟨w.heap.size, 1, none⟩ = some (.slice (some ⟨b, off, none⟩) n c) := (K0.out.other (p := ⟨w.heap.size + 1 + 1, 1, none⟩) (by simp; omega) (.slice (some ⟨g', 0, none⟩) (k + 1) cap')).cell rfl
      refine hK.out _ _ ?_ (fun hH6 => ?_)
      · (try dsimp only)
        ((repeat' (refine And.intro ?_ ?_)) <;> (first | (with_reducible assumption) | (exact Ext.cell (w := w) (by (repeat' (first | (with_reducible exact Ext.refl _) | (with_reducible assumption) | (with_reducible refine Ext.alloc ?_ _) | (with_reducible refine Ext.drewN ?_ _) | (with_reducible refine Ext.drew ?_) | (with_reducible refine Ext.setCell ?_ ?_ _) | (with_reducible exact Nat.le_refl _) | (with_reducible exact Nat.le_succ _) | (with_reducible refine Ext.trans ?_ (by assumption)) | (simp; done) | (simp; omega)))) hc0) | (exact Ext.cell (w := wr) (by (repeat' (first | (with_reducible exact Ext.refl _) | (with_reducible assumption) | (with_reducible refine Ext.alloc ?_ _) | (with_reducible refine Ext.drewN ?_ _) | (with_reducible refine Ext.drew ?_) | (with_reducible refine Ext.setCell ?_ ?_ _) | (with_reducible exact Nat.le_refl _) | (with_reducible exact Nat.le_succ _) | (with_reducible refine Ext.trans ?_ (by assumption)) | (simp; done) | (simp; omega)))) g1) | ((repeat' (first | (with_reducible exact Ext.refl _) | (with_reducible assumption) | (with_reducible refine Ext.alloc ?_ _) | (with_reducible refine Ext.drewN ?_ _) | (with_reducible refine Ext.drew ?_) | (with_reducible refine Ext.setCell ?_ ?_ _) | (with_reducible exact Nat.le_refl _) | (with_reducible exact Nat.le_succ _) | (with_reducible refine Ext.trans ?_ (by assumption)) | (simp; done) | (simp; omega))); done)))
      clear hK K hH5
      (try simp only [Act.put, List.setIfInBounds_toArray, List.set_cons_zero, List.set_cons_succ])
      refine wpAnyH_done (by kernel_rfl) ?_ _
      rotate_left
      exact AllReadyH.nil
      exact AllReadyH.nil
      exact AllReadyH.nil
      exact AllReadyH.nil
      exact AllReadyH.nil
      refine cons_l (i := 2) rfl (fun K hK => ?_) ?_
      go_simp
      refine hK.out _ _ ?_ (fun hH1 => ?_)
      · (try dsimp only)
        ((repeat' (refine And.intro ?_ ?_)) <;> (first | (with_reducible assumption) | (exact Ext.cell (w := w) (by (repeat' (first | (with_reducible exact Ext.refl _) | (with_reducible assumption) | (with_reducible refine Ext.alloc ?_ _) | (with_reducible refine Ext.drewN ?_ _) | (with_reducible refine Ext.drew ?_) | (with_reducible refine Ext.setCell ?_ ?_ _) | (with_reducible exact Nat.le_refl _) | (with_reducible exact Nat.le_succ _) | (with_reducible refine Ext.trans ?_ (by assumption)) | (simp; done) | (simp; omega)))) hc0) | (exact Ext.cell (w := wr) (by (repeat' (first | (with_reducible exact Ext.refl _) | (with_reducible assumption) | (with_reducible refine Ext.alloc ?_ _) | (with_reducible refine Ext.drewN ?_ _) | (with_reducible refine Ext.drew ?_) | (with_reducible refine Ext.setCell ?_ ?_ _) | (with_reducible exact Nat.le_refl _) | (with_reducible exact Nat.le_succ _) | (with_reducible refine Ext.trans ?_ (by assumption)) | (simp; done) | (simp; omega)))) g1) | ((repeat' (first | (with_reducible exact Ext.refl _) | (with_reducible assumption) | (with_reducible refine Ext.alloc ?_ _) | (with_reducible refine Ext.drewN ?_ _) | (with_reducible refine Ext.drew ?_) | (with_reducible refine Ext.setCell ?_ ?_ _) | (with_reducible exact Nat.le_refl _) | (with_reducible exact Nat.le_succ _) | (with_reducible refine Ext.trans ?_ (by assumption)) | (simp; done) | (simp; omega))); done)))
      clear hK K hH0
      (try simp only [Act.put, List.setIfInBounds_toArray, List.set_cons_zero, List.set_cons_succ])
      refine wpAnyH_ready (rs := [1, 8]) (by kernel_rfl) (by simp) ?_
      refine cons_l (i := 1) rfl (fun K hK => ?_) ?_
      go_simp
      refine hK.out _ _ ?_ (fun hH2 => ?_)
      · (try dsimp only)
        ((repeat' (refine And.intro ?_ ?_)) <;> (first | (with_reducible assumption) | (exact Ext.cell (w := w) (by (repeat' (first | (with_reducible exact Ext.refl _) | (with_reducible assumption) | (with_reducible refine Ext.alloc ?_ _) | (with_reducible refine Ext.drewN ?_ _) | (with_reducible refine Ext.drew ?_) | (with_reducible refine Ext.setCell ?_ ?_ _) | (with_reducible exact Nat.le_refl _) | (with_reducible exact Nat.le_succ _) | (with_reducible refine Ext.trans ?_ (by assumption)) | (simp; done) | (simp; omega)))) hc0) | (exact Ext.cell (w := wr) (by (repeat' (first | (with_reducible exact Ext.refl _) | (with_reducible assumption) | (with_reducible refine Ext.alloc ?_ _) | (with_reducible refine Ext.drewN ?_ _) | (with_reducible refine Ext.drew ?_) | (with_reducible refine Ext.setCell ?_ ?_ _) | (with_reducible exact Nat.le_refl _) | (with_reducible exact Nat.le_succ _) | (with_reducible refine Ext.trans ?_ (by assumption)) | (simp; done) | (simp; omega)))) g1) | ((repeat' (first | (with_reducible exact Ext.refl _) | (with_reducible assumption) | (with_reducible refine Ext.alloc ?_ _) | (with_reducible refine Ext.drewN ?_ _) | (with_reducible refine Ext.drew ?_) | (with_reducible refine Ext.setCell ?_ ?_ _) | (with_reducible exact Nat.le_refl _) | (with_reducible exact Nat.le_succ _) | (with_reducible refine Ext.trans ?_ (by assumption)) | (simp; done) | (simp; omega))); done)))
      clear hK K hH1
      (try simp only [Act.put, List.setIfInBounds_toArray, List.set_cons_zero, List.set_cons_succ])
      refine wpAnyH_ready (rs := [8]) (by kernel_rfl) (by simp) ?_
      refine cons_l (i := 8) rfl (fun K hK => ?_) ?_
      refine step_of_wp _ rfl (wp_append_row _ _ rfl wr.heap.size _ [] row rfl ((OwnRow.lit wr).ext ((Ext.refl _).drew)) a' m c' HM.out rfl HML.out.2 (HFR.out.ext (((Ext.refl wr).alloc _).drew)) (by simpa using HLR.out) (by simp) ?_); intro u9 w9 hu9 hg9 hat9; obtain ⟨ua, uc, rfl⟩ := hu9.form; rw [List.nil_append, ← HM.out] at hu9; rw [List.nil_append, ← HM.out]; have hx9 : Ext wr w9 := Ext.own2 (((Ext.refl wr).alloc _).drew) hg9 ((OwnRow.lit wr).ext ((Ext.refl _).drew)) (Nat.le_refl _); have h21 := hx9.cell g21; have h22 := ((Ext.refl w9).alloc (.cells #[.slice ua m uc] 109)).cell h21; have z29 := hx9.size; have HU9 := Lib.hid hu9; clear hu9 hg9 hat9
      refine hK.out _ _ ?_ (fun hH3 => ?_)
      · (try dsimp only)
        ((repeat' (refine And.intro ?_ ?_)) <;> (first | (with_reducible assumption) | (exact Ext.cell (w := w) (by (repeat' (first | (with_reducible exact Ext.refl _) | (with_reducible assumption) | (with_reducible refine Ext.alloc ?_ _) | (with_reducible refine Ext.drewN ?_ _) | (with_reducible refine Ext.drew ?_) | (with_reducible refine Ext.setCell ?_ ?_ _) | (with_reducible exact Nat.le_refl _) | (with_reducible exact Nat.le_succ _) | (with_reducible refine Ext.trans ?_ (by assumption)) | (simp; done) | (simp; omega)))) hc0) | (exact Ext.cell (w := wr) (by (repeat' (first | (with_reducible exact Ext.refl _) | (with_reducible assumption) | (with_reducible refine Ext.alloc ?_ _) | (with_reducible refine Ext.drewN ?_ _) | (with_reducible refine Ext.drew ?_) | (with_reducible refine Ext.setCell ?_ ?_ _) | (with_reducible exact Nat.le_refl _) | (with_reducible exact Nat.le_succ _) | (with_reducible refine Ext.trans ?_ (by assumption)) | (simp; done) | (simp; omega)))) g1) | ((repeat' (first | (with_reducible exact Ext.refl _) | (with_reducible assumption) | (with_reducible refine Ext.alloc ?_ _) | (with_reducible refine Ext.drewN ?_ _) | (with_reducible refine Ext.drew ?_) | (with_reducible refine Ext.setCell ?_ ?_ _) | (with_reducible exact Nat.le_refl _) | (with_reducible exact Nat.le_succ _) | (with_reducible refine Ext.trans ?_ (by assumption)) | (simp; done) | (simp; omega))); done)))
      clear hK K hH2
      (try simp only [Act.put, List.setIfInBounds_toArray, List.set_cons_zero, List.set_cons_succ])
      refine wpAnyH_ready (rs := [9]) (by kernel_rfl) (by simp) ?_
      refine cons_l (i := 9) rfl (fun K hK => ?_) ?_
      go_simp
      refine hK.out _ _ ?_ (fun hH4 => ?_)
      · (try dsimp only)
        ((repeat' (refine And.intro ?_ ?_)) <;> (first | (with_reducible assumption) | (exact Ext.cell (w := w) (by (repeat' (first | (with_reducible exact Ext.refl _) | (with_reducible assumption) | (with_reducible refine Ext.alloc ?_ _) | (with_reducible refine Ext.drewN ?_ _) | (with_reducible refine Ext.drew ?_) | (with_reducible refine Ext.setCell ?_ ?_ _) | (with_reducible exact Nat.le_refl _) | (with_reducible exact Nat.le_succ _) | (with_reducible refine Ext.trans ?_ (by assumption)) | (simp; done) | (simp; omega)))) hc0) | (exact Ext.cell (w := wr) (by (repeat' (first | (with_reducible exact Ext.refl _) | (with_reducible assumption) | (with_reducible refine Ext.alloc ?_ _) | (with_reducible refine Ext.drewN ?_ _) | (with_reducible refine Ext.drew ?_) | (with_reducible refine Ext.setCell ?_ ?_ _) | (with_reducible exact Nat.le_refl _) | (with_reducible exact Nat.le_succ _) | (with_reducible refine Ext.trans ?_ (by assumption)) | (simp; done) | (simp; omega)))) g1) | ((repeat' (first | (with_reducible exact Ext.refl _) | (with_reducible assumption) | (with_reducible refine Ext.alloc ?_ _) | (with_reducible refine Ext.drewN ?_ _) | (with_reducible refine Ext.drew ?_) | (with_reducible refine Ext.setCell ?_ ?_ _) | (with_reducible exact Nat.le_refl _) | (with_reducible exact Nat.le_succ _) | (with_reducible refine Ext.trans ?_ (by assumption)) | (simp; done) | (simp; omega))); done)))
      clear hK K hH3
      (try simp only [Act.put, List.setIfInBounds_toArray, List.set_cons_zero, List.set_cons_succ])
      refine wpAnyH_ready (rs := [10]) (by kernel_rfl) (by simp) ?_
      refine cons_l (i := 10) rfl (fun K hK => ?_) ?_
      have HX9 := Lib.hid (hx9.trans ((Ext.refl w9).alloc (.cells #[.slice ua m uc] 109))); have HOW := Lib.hid (ownsRow_ext hgr.out.2.1 HX9.out); rw [HDL.out] at HOW; refine step_of_wp _ rfl (wp_append_outer _ _ rfl (w.heap.size + 1 + 1 + 1) _ k vs rfl HOW.out _ 1 1 rfl [.slice ua m uc] rfl (fun h => by cases h) (one_new w9 _ (.slice ua m uc)) (fun x hx => by cases List.mem_singleton.1 hx; exact HU9.out.one) (by omega) (by simp; omega) ?_); intro v' w10 hown10 hg10 hat10; obtain ⟨g', cap', rfl, _, _⟩ := hown10.form (by omega); have hlo : ∀ g, v.ownBlock = some g → w.heap.size + 1 + 1 + 1 ≤ g := fun g hg => (ownsRow_lt HOW.out hg).1; have hx10 : Ext w w10 := Ext.own2 (hr.trans HX9.out) hg10 HOW.out (by omega); have HG10 := Lib.hid (GR.push (row := row) hgr.out (Nat.le_refl _) HX9.out (ownsRow_low (HU9.out.ext ((Ext.refl w9).alloc _)) (by omega)) (fun g hg => (ownsRow_lt HU9.out hg).1) (by rw [HDL.out]; exact hown10) hg10 (by first | exact hat10 | (rw [World.size_alloc]; exact hat10))); rw [HD.out] at HG10; have k0 := (HR0.out.ext HX9.out).own hg10 (fun g hg => by have := hlo g hg; omega); have k1 := (HR1.out.ext HX9.out).own hg10 (fun g hg => by have := hlo g hg; omega); have k2 := (HR2.out.ext HX9.out).own hg10 (fun g hg => by have := hlo g hg; omega); have c10 : w10.cell? ⟨w.heap.size, 1, none⟩ = some (.slice (some ⟨b, off, none⟩) n c) := k0.cell rfl; have e21 : w10.cell? ⟨w.heap.size + 1 + 1, 1, none⟩ = some v := k2.cell rfl; have f21 := k2.frozen 1; have K0 := Lib.hid k0; have K1 := Lib.hid k1; have K2 := Lib.hid k2; clear k0 k1 k2 hown10 hg10 hat10 hlo
      refine hK.out _ _ ?_ (fun hH5 => ?_)
      · (try dsimp only)
        ((repeat' (refine And.intro ?_ ?_)) <;> (first | (with_reducible assumption) | (exact Ext.cell (w := w) (by (repeat' (first | (with_reducible exact Ext.refl _) | (with_reducible assumption) | (with_reducible refine Ext.alloc ?_ _) | (with_reducible refine Ext.drewN ?_ _) | (with_reducible refine Ext.drew ?_) | (with_reducible refine Ext.setCell ?_ ?_ _) | (with_reducible exact Nat.le_refl _) | (with_reducible exact Nat.le_succ _) | (with_reducible refine Ext.trans ?_ (by assumption)) | (simp; done) | (simp; omega)))) hc0) | (exact Ext.cell (w := wr) (by (repeat' (first | (with_reducible exact Ext.refl _) | (with_reducible assumption) | (with_reducible refine Ext.alloc ?_ _) | (with_reducible refine Ext.drewN ?_ _) | (with_reducible refine Ext.drew ?_) | (with_reducible refine Ext.setCell ?_ ?_ _) | (with_reducible exact Nat.le_refl _) | (with_reducible exact Nat.le_succ _) | (with_reducible refine Ext.trans ?_ (by assumption)) | (simp; done) | (simp; omega)))) g1) | ((repeat' (first | (with_reducible exact Ext.refl _) | (with_reducible assumption) | (with_reducible refine Ext.alloc ?_ _) | (with_reducible refine Ext.drewN ?_ _) | (with_reducible refine Ext.drew ?_) | (with_reducible refine Ext.setCell ?_ ?_ _) | (with_reducible exact Nat.le_refl _) | (with_reducible exact Nat.le_succ _) | (with_reducible refine Ext.trans ?_ (by assumption)) | (simp; done) | (simp; omega))); done)))
      clear hK K hH4
      (try simp only [Act.put, List.setIfInBounds_toArray, List.set_cons_zero, List.set_cons_succ])
      refine take_l 11 (v := ?_) rfl (by kernel_rfl) (by kernel_rfl) (by kernel_rfl) (fun _ _ _ h => h) (by rfl) ?_ (by assumption) ?_
      rotate_left
      · (intro w hSw; (try dsimp only at hSw); go_simp; (try with_reducible rfl))
      (try simp only [Act.put, List.setIfInBounds_toArray, List.set_cons_zero, List.set_cons_succ])
      refine wpAnyH_ready (rs := [12]) (by kernel_rfl) (by simp) ?_
      refine cons_l (i := 12) rfl (fun K hK => ?_) ?_
      go_simp; have c12 : (w10.setCell ⟨w.heap.size + 1 + 1, 1, none⟩ (.slice (some ⟨g', 0, none⟩) (k + 1) cap')).cell? ⟨w.heap.size, 1, none⟩ = some (.slice (some ⟨b, off, none⟩) n c) := (K0.out.other (p := ⟨w.heap.size + 1 + 1, 1, none⟩) (by simp; omega) (.slice (some ⟨g', 0, none⟩) (k + 1) cap')).cell rfl
      refine hK.out _ _ ?_ (fun hH6 => ?_)
      · (try dsimp only)
        ((repeat' (refine And.intro ?_ ?_)) <;> (first | (with_reducible assumption) | (exact Ext.cell (w := w) (by (repeat' (first | (with_reducible exact Ext.refl _) | (with_reducible assumption) | (with_reducible refine Ext.alloc ?_ _) | (with_reducible refine Ext.drewN ?_ _) | (with_reducible refine Ext.drew ?_) | (with_reducible refine Ext.setCell ?_ ?_ _) | (with_reducible exact Nat.le_refl _) | (with_reducible exact Nat.le_succ _) | (with_reducible refine Ext.trans ?_ (by assumption)) | (simp; done) | (simp; omega)))) hc0) | (exact Ext.cell (w := wr) (by (repeat' (first | (with_reducible exact Ext.refl _) | (with_reducible assumption) | (with_reducible refine Ext.alloc ?_ _) | (with_reducible refine Ext.drewN ?_ _) | (with_reducible refine Ext.drew ?_) | (with_reducible refine Ext.setCell ?_ ?_ _) | (with_reducible exact Nat.le_refl _) | (with_reducible exact Nat.le_succ _) | (with_reducible refine Ext.trans ?_ (by assumption)) | (simp; done) | (simp; omega)))) g1) | ((repeat' (first | (with_reducible exact Ext.refl _) | (with_reducible assumption) | (with_reducible refine Ext.alloc ?_ _) | (with_reducible refine Ext.drewN ?_ _) | (with_reducible refine Ext.drew ?_) | (with_reducible refine Ext.setCell ?_ ?_ _) | (with_reducible exact Nat.le_refl _) | (with_reducible exact Nat.le_succ _) | (with_reducible refine Ext.trans ?_ (by assumption)) | (simp; done) | (simp; omega))); done)))
      clear hK K hH5
      (try simp only [Act.put, List.setIfInBounds_toArray, List.set_cons_zero, List.set_cons_succ])
      refine wpAnyH_done (by kernel_rfl) ?_ _
      rotate_left
      exact AllReadyH.nil
      exact AllReadyH.nil
      exact AllReadyH.nil
      exact AllReadyH.nil
      refine cons_l (i := 8) rfl (fun K hK => ?_) ?_
      refine step_of_wp _ rfl (wp_append_row _ _ rfl wr.heap.size _ [] row rfl ((OwnRow.lit wr).ext ((Ext.refl _).drew)) a' m c' HM.out rfl HML.out.2 (HFR.out.ext (((Ext.refl wr).alloc _).drew)) (by simpa using HLR.out) (by simp) ?_); intro u9 w9 hu9 hg9 hat9; obtain ⟨ua, uc, rfl⟩ := hu9.form; rw [List.nil_append, ← HM.out] at hu9; rw [List.nil_append, ← HM.out]; have hx9 : Ext wr w9 := Ext.own2 (((Ext.refl wr).alloc _).drew) hg9 ((OwnRow.lit wr).ext ((Ext.refl _).drew)) (Nat.le_refl _); have h21 := hx9.cell g21; have h22 := ((Ext.refl w9).alloc (.cells #[.slice ua m uc] 109)).cell h21; have z29 := hx9.size; have HU9 := Lib.hid hu9; clear hu9 hg9 hat9
      refine hK.out _ _ ?_ (fun hH2 => ?_)
      · (try dsimp only)
        ((repeat' (refine And.intro ?_ ?_)) <;> (first | (with_reducible assumption) | (exact Ext.cell (w := w) (by (repeat' (first | (with_reducible exact Ext.refl _) | (with_reducible assumption) | (with_reducible refine Ext.alloc ?_ _) | (with_reducible refine Ext.drewN ?_ _) | (with_reducible refine Ext.drew ?_) | (with_reducible refine Ext.setCell ?_ ?_ _) | (with_reducible exact Nat.le_refl _) | (with_reducible exact Nat.le_succ _) | (with_reducible refine Ext.trans ?_ (by assumption)) | (simp; done) | (simp; omega)))) hc0) | (exact Ext.cell (w := wr) (by (repeat' (first | (with_reducible exact Ext.refl _) | (with_reducible assumption) | (with_reducible refine Ext.alloc ?_ _) | (with_reducible refine Ext.drewN ?_ _) | (with_reducible refine Ext.drew ?_) | (with_reducible refine Ext.setCell ?_ ?_ _) | (with_reducible exact Nat.le_refl _) | (with_reducible exact Nat.le_succ _) | (with_reducible refine Ext.trans ?_ (by assumption)) | (simp; done) | (simp; omega)))) g1) | ((repeat' (first | (with_reducible exact Ext.refl _) | (with_reducible assumption) | (with_reducible refine Ext.alloc ?_ _) | (with_reducible refine Ext.drewN ?_ _) | (with_reducible refine Ext.drew ?_) | (with_reducible refine Ext.setCell ?_ ?_ _) | (with_reducible exact Nat.le_refl _) | (with_reducible exact Nat.le_succ _) | (with_reducible refine Ext.trans ?_ (by assumption)) | (simp; done) | (simp; omega))); done)))
      clear hK K hH1
      (try simp only [Act.put, List.setIfInBounds_toArray, List.set_cons_zero, List.set_cons_succ])
      refine wpAnyH_ready (rs := [1, 9]) (by kernel_rfl) (by simp) ?_
      refine cons_l (i := 1) rfl (fun K hK => ?_) ?_
      go_simp
      refine hK.out _ _ ?_ (fun hH3 => ?_)
      · (try dsimp only)
        ((repeat' (refine And.intro ?_ ?_)) <;> (first | (with_reducible assumption) | (exact Ext.cell (w := w) (by (repeat' (first | (with_reducible exact Ext.refl _) | (with_reducible assumption) | (with_reducible refine Ext.alloc ?_ _) | (with_reducible refine Ext.drewN ?_ _) | (with_reducible refine Ext.drew ?_) | (with_reducible refine Ext.setCell ?_ ?_ _) | (with_reducible exact Nat.le_refl _) | (with_reducible exact Nat.le_succ _) | (with_reducible refine Ext.trans ?_ (by assumption)) | (simp; done) | (simp; omega)))) hc0) | (exact Ext.cell (w := wr) (by (repeat' (first | (with_reducible exact Ext.refl _) | (with_reducible assumption) | (with_reducible refine Ext.alloc ?_ _) | (with_reducible refine Ext.drewN ?_ _) | (with_reducible refine Ext.drew ?_) | (with_reducible refine Ext.setCell ?_ ?_ _) | (with_reducible exact Nat.le_refl _) | (with_reducible exact Nat.le_succ _) | (with_reducible refine Ext.trans ?_ (by assumption)) | (simp; done) | (simp; omega)))) g1) | ((repeat' (first | (with_reducible exact Ext.refl _) | (with_reducible assumption) | (with_reducible refine Ext.alloc ?_ _) | (with_reducible refine Ext.drewN ?_ _) | (with_reducible refine Ext.drew ?_) | (with_reducible refine Ext.setCell ?_ ?_ _) | (with_reducible exact Nat.le_refl _) | (with_reducible exact Nat.le_succ _) | (with_reducible refine Ext.trans ?_ (by assumption)) | (simp; done) | (simp; omega))); done)))
      clear hK K hH2
      (try simp only [Act.put, List.setIfInBounds_toArray, List.set_cons_zero, List.set_cons_succ])
      refine wpAnyH_ready (rs := [9]) (by kernel_rfl) (by simp) ?_
      refine cons_l (i := 9) rfl (fun K hK => ?_) ?_
      go_simp
      refine hK.out _ _ ?_ (fun hH4 => ?_)
      · (try dsimp only)
        ((repeat' (refine And.intro ?_ ?_)) <;> (first | (with_reducible assumption) | (exact Ext.cell (w := w) (by (repeat' (first | (with_reducible exact Ext.refl _) | (with_reducible assumption) | (with_reducible refine Ext.alloc ?_ _) | (with_reducible refine Ext.drewN ?_ _) | (with_reducible refine Ext.drew ?_) | (with_reducible refine Ext.setCell ?_ ?_ _) | (with_reducible exact Nat.le_refl _) | (with_reducible exact Nat.le_succ _) | (with_reducible refine Ext.trans ?_ (by assumption)) | (simp; done) | (simp; omega)))) hc0) | (exact Ext.cell (w := wr) (by (repeat' (first | (with_reducible exact Ext.refl _) | (with_reducible assumption) | (with_reducible refine Ext.alloc ?_ _) | (with_reducible refine Ext.drewN ?_ _) | (with_reducible refine Ext.drew ?_) | (with_reducible refine Ext.setCell ?_ ?_ _) | (with_reducible exact Nat.le_refl _) | (with_reducible exact Nat.le_succ _) | (with_reducible refine Ext.trans ?_ (by assumption)) | (simp; done) | (simp; omega)))) g1) | ((repeat' (first | (with_reducible exact Ext.refl _) | (with_reducible assumption) | (with_reducible refine Ext.alloc ?_ _) | (with_reducible refine Ext.drewN ?_ _) | (with_reducible refine Ext.drew ?_) | (with_reducible refine Ext.setCell ?_ ?_ _) | (with_reducible exact Nat.le_refl _) | (with_reducible exact Nat.le_succ _) | (with_reducible refine Ext.trans ?_ (by assumption)) | (simp; done) | (simp; omega))); done)))
      clear hK K hH3
      (try simp only [Act.put, List.setIfInBounds_toArray, List.set_cons_zero, List.set_cons_succ])
      refine wpAnyH_ready (rs := [10]) (by kernel_rfl) (by simp) ?_
      refine cons_l (i := 10) rfl (fun K hK => ?_) ?_
      have HX9 := Lib.hid (hx9.trans ((Ext.refl w9).alloc (.cells #[.slice ua m uc] 109))); have HOW := Lib.hid (ownsRow_ext hgr.out.2.1 HX9.out); rw [HDL.out] at HOW; refine step_of_wp _ rfl (wp_append_outer _ _ rfl (w.heap.size + 1 + 1 + 1) _ k vs rfl HOW.out _ 1 1 rfl [.slice ua m uc] rfl (fun h => by cases h) (one_new w9 _ (.slice ua m uc)) (fun x hx => by cases List.mem_singleton.1 hx; exact HU9.out.one) (by omega) (by simp; omega) ?_); intro v' w10 hown10 hg10 hat10; obtain ⟨g', cap', rfl, _, _⟩ := hown10.form (by omega); have hlo : ∀ g, v.ownBlock = some g → w.heap.size + 1 + 1 + 1 ≤ g := fun g hg => (ownsRow_lt HOW.out hg).1; have hx10 : Ext w w10 := Ext.own2 (hr.trans HX9.out) hg10 HOW.out (by omega); have HG10 := Lib.hid (GR.push (row := row) hgr.out (Nat.le_refl _) HX9.out (ownsRow_low (HU9.out.ext ((Ext.refl w9).alloc _)) (by omega)) (fun g hg => (ownsRow_lt HU9.out hg).1) (by rw [HDL.out]; exact hown10) hg10 (by first | exact hat10 | (rw [World.size_alloc]; exact hat10))); rw [HD.out] at HG10; have k0 := (HR0.out.ext HX9.out).own hg10 (fun g hg => by have := hlo g hg; omega); have k1 := (HR1.out.ext HX9.out).own hg10 (fun g hg => by have := hlo g hg; omega); have k2 := (HR2.out.ext HX9.out).own hg10 (fun g hg => by have := hlo g hg; omega); have c10 : w10.cell? ⟨w.heap.size, 1, none⟩ = some (.slice (some ⟨b, off, none⟩) n c) := k0.cell rfl; have e21 : w10.cell? ⟨w.heap.size + 1 + 1, 1, none⟩ = some v := k2.cell rfl; have f21 := k2.frozen 1; have K0 := Lib.hid k0; have K1 := Lib.hid k1; have K2 := Lib.hid k2; clear k0 k1 k2 hown10 hg10 hat10 hlo
      refine hK.out _ _ ?_ (fun hH5 => ?_)
      · (try dsimp only)
        ((repeat' (refine And.intro ?_ ?_)) <;> (first | (with_reducible assumption) | (exact Ext.cell (w := w) (by (repeat' (first | (with_reducible exact Ext.refl _) | (with_reducible assumption) | (with_reducible refine Ext.alloc ?_ _) | (with_reducible refine Ext.drewN ?_ _) | (with_reducible refine Ext.drew ?_) | (with_reducible refine Ext.setCell ?_ ?_ _) | (with_reducible exact Nat.le_refl _) | (with_reducible exact Nat.le_succ _) | (with_reducible refine Ext.trans ?_ (by assumption)) | (simp; done) | (simp; omega)))) hc0) | (exact Ext.cell (w := wr) (by (repeat' (first | (with_reducible exact Ext.refl _) | (with_reducible assumption) | (with_reducible refine Ext.alloc ?_ _) | (with_reducible refine Ext.drewN ?_ _) | (with_reducible refine Ext.drew ?_) | (with_reducible refine Ext.setCell ?_ ?_ _) | (with_reducible exact Nat.le_refl _) | (with_reducible exact Nat.le_succ _) | (with_reducible refine Ext.trans ?_ (by assumption)) | (simp; done) | (simp; omega)))) g1) | ((repeat' (first | (with_reducible exact Ext.refl _) | (with_reducible assumption) | (with_reducible refine Ext.alloc ?_ _) | (with_reducible refine Ext.drewN ?_ _) | (with_reducible refine Ext.drew ?_) | (with_reducible refine Ext.setCell ?_ ?_ _) | (with_reducible exact Nat.le_refl _) | (with_reducible exact Nat.le_succ _) | (with_reducible refine Ext.trans ?_ (by assumption)) | (simp; done) | (simp; omega))); done)))
      clear hK K hH4
      (try simp only [Act.put, List.setIfInBounds_toArray, List.set_cons_zero, List.set_cons_succ])
      refine take_l 11 (v := ?_) rfl (by kernel_rfl) (by kernel_rfl) (by kernel_rfl) (fun _ _ _ h => h) (by rfl) ?_ (by assumption) ?_
      rotate_left
      · (intro w hSw; (try dsimp only at hSw); go_simp; (try with_reducible rfl))
      (try simp only [Act.put, List.setIfInBounds_toArray, List.set_cons_zero, List.set_cons_succ])
      refine wpAnyH_ready (rs := [12]) (by kernel_rfl) (by simp) ?_
      refine cons_l (i := 12) rfl (fun K hK => ?_) ?_
      go_simp; have c12 : (w10.setCell ⟨w.heap.size + 1 + 1, 1, none⟩ (.slice (some ⟨g', 0, none⟩) (k + 1) cap')).cell? ⟨w.heap.size, 1, none⟩ = some (.slice (some ⟨b, off, none⟩) n c) := (K0.out.other (p := ⟨w.heap.size + 1 + 1, 1, none⟩) (by simp; omega) (.slice (some ⟨g', 0, none⟩) (k + 1) cap')).cell rfl
      refine hK.out _ _ ?_ (fun hH6 => ?_)
      · (try dsimp only)
        ((repeat' (refine And.intro ?_ ?_)) <;> (first | (with_reducible assumption) | (exact Ext.cell (w := w) (by (repeat' (first | (with_reducible exact Ext.refl _) | (with_reducible assumption) | (with_reducible refine Ext.alloc ?_ _) | (with_reducible refine Ext.drewN ?_ _) | (with_reducible refine Ext.drew ?_) | (with_reducible refine Ext.setCell ?_ ?_ _) | (with_reducible exact Nat.le_refl _) | (with_reducible exact Nat.le_succ _) | (with_reducible refine Ext.trans ?_ (by assumption)) | (simp; done) | (simp; omega)))) hc0) | (exact Ext.cell (w := wr) (by (repeat' (first | (with_reducible exact Ext.refl _) | (with_reducible assumption) | (with_reducible refine Ext.alloc ?_ _) | (with_reducible refine Ext.drewN ?_ _) | (with_reducible refine Ext.drew ?_) | (with_reducible refine Ext.setCell ?_ ?_ _) | (with_reducible exact Nat.le_refl _) | (with_reducible exact Nat.le_succ _) | (with_reducible refine Ext.trans ?_ (by assumption)) | (simp; done) | (simp; omega)))) g1) | ((repeat' (first | (with_reducible exact Ext.refl _) | (with_reducible assumption) | (with_reducible refine Ext.alloc ?_ _) | (with_reducible refine Ext.drewN ?_ _) | (with_reducible refine Ext.drew ?_) | (with_reducible refine Ext.setCell ?_ ?_ _) | (with_reducible exact Nat.le_refl _) | (with_reducible exact Nat.le_succ _) | (with_reducible refine Ext.trans ?_ (by assumption)) | (simp; done) | (simp; omega))); done)))
      clear hK K hH5
      (try simp only [Act.put, List.setIfInBounds_toArray, List.set_cons_zero, List.set_cons_succ])
      refine wpAnyH_done (by kernel_rfl) ?_ _
      rotate_left
      exact AllReadyH.nil
      exact AllReadyH.nil
      exact AllReadyH.nil
      refine cons_l (i := 9) rfl (fun K hK => ?_) ?_
      go_simp
      refine hK.out _ _ ?_ (fun hH3 => ?_)
      · (try dsimp only)
        ((repeat' (refine And.intro ?_ ?_)) <;> (first | (with_reducible assumption) | (exact Ext.cell (w := w) (by (repeat' (first | (with_reducible exact Ext.refl _) | (with_reducible assumption) | (with_reducible refine Ext.alloc ?_ _) | (with_reducible refine Ext.drewN ?_ _) | (with_reducible refine Ext.drew ?_) | (with_reducible refine Ext.setCell ?_ ?_ _) | (with_reducible exact Nat.le_refl _) | (with_reducible exact Nat.le_succ _) | (with_reducible refine Ext.trans ?_ (by assumption)) | (simp; done) | (simp; omega)))) hc0) | (exact Ext.cell (w := wr) (by (repeat' (first | (with_reducible exact Ext.refl _) | (with_reducible assumption) | (with_reducible refine Ext.alloc ?_ _) | (with_reducible refine Ext.drewN ?_ _) | (with_reducible refine Ext.drew ?_) | (with_reducible refine Ext.setCell ?_ ?_ _) | (with_reducible exact Nat.le_refl _) | (with_reducible exact Nat.le_succ _) | (with_reducible refine Ext.trans ?_ (by assumption)) | (simp; done) | (simp; omega)))) g1) | ((repeat' (first | (with_reducible exact Ext.refl _) | (with_reducible assumption) | (with_reducible refine Ext.alloc ?_ _) | (with_reducible refine Ext.drewN ?_ _) | (with_reducible refine Ext.drew ?_) | (with_reducible refine Ext.setCell ?_ ?_ _) | (with_reducible exact Nat.le_refl _) | (with_reducible exact Nat.le_succ _) | (with_reducible refine Ext.trans ?_ (by assumption)) | (simp; done) | (simp; omega))); done)))
      clear hK K hH2
      (try simp only [Act.put, List.setIfInBounds_toArray, List.set_cons_zero, List.set_cons_succ])
      refine wpAnyH_ready (rs := [1]) (by kernel_rfl) (by simp) ?_
      refine cons_l (i := 1) rfl (fun K hK => ?_) ?_
      go_simp
      refine hK.out _ _ ?_ (fun hH4 => ?_)
      · (try dsimp only)
        ((repeat' (refine And.intro ?_ ?_)) <;> (first | (with_reducible assumption) | (exact Ext.cell (w := w) (by (repeat' (first | (with_reducible exact Ext.refl _) | (with_reducible assumption) | (with_reducible refine Ext.alloc ?_ _) | (with_reducible refine Ext.drewN ?_ _) | (with_reducible refine Ext.drew ?_) | (with_reducible refine Ext.setCell ?_ ?_ _) | (with_reducible exact Nat.le_refl _) | (with_reducible exact Nat.le_succ _) | (with_reducible refine Ext.trans ?_ (by assumption)) | (simp; done) | (simp; omega)))) hc0) | (exact Ext.cell (w := wr) (by (repeat' (first | (with_reducible exact Ext.refl _) | (with_reducible assumption) | (with_reducible refine Ext.alloc ?_ _) | (with_reducible refine Ext.drewN ?_ _) | (with_reducible refine Ext.drew ?_) | (with_reducible refine Ext.setCell ?_ ?_ _) | (with_reducible exact Nat.le_refl _) | (with_reducible exact Nat.le_succ _) | (with_reducible refine Ext.trans ?_ (by assumption)) | (simp; done) | (simp; omega)))) g1) | ((repeat' (first | (with_reducible exact Ext.refl _) | (with_reducible assumption) | (with_reducible refine Ext.alloc ?_ _) | (with_reducible refine Ext.drewN ?_ _) | (with_reducible refine Ext.drew ?_) | (with_reducible refine Ext.setCell ?_ ?_ _) | (with_reducible exact Nat.le_refl _) | (with_reducible exact Nat.le_succ _) | (with_reducible refine Ext.trans ?_ (by assumption)) | (simp; done) | (simp; omega))); done)))
      clear hK K hH3
      (try simp only [Act.put, List.setIfInBounds_toArray, List.set_cons_zero, List.set_cons_succ])
      refine wpAnyH_ready (rs := [10]) (by kernel_rfl) (by simp) ?_
      refine cons_l (i := 10) rfl (fun K hK => ?_) ?_
      have HX9 := Lib.hid (hx9.trans ((Ext.refl w9).alloc (.cells #[.slice ua m uc] 109))); have HOW := Lib.hid (ownsRow_ext hgr.out.2.1 HX9.out); rw [HDL.out] at HOW; refine step_of_wp _ rfl (wp_append_outer _ _ rfl (w.heap.size + 1 + 1 + 1) _ k vs rfl HOW.out _ 1 1 rfl [.slice ua m uc] rfl (fun h => by cases h) (one_new w9 _ (.slice ua m uc)) (fun x hx => by cases List.mem_singleton.1 hx; exact HU9.out.one) (by omega) (by simp; omega) ?_); intro v' w10 hown10 hg10 hat10; obtain ⟨g', cap', rfl, _, _⟩ := hown10.form (by omega); have hlo : ∀ g, v.ownBlock = some g → w.heap.size + 1 + 1 + 1 ≤ g := fun g hg => (ownsRow_lt HOW.out hg).1; have hx10 : Ext w w10 := Ext.own2 (hr.trans HX9.out) hg10 HOW.out (by omega); have HG10 := Lib.hid (GR.push (row := row) hgr.out (Nat.le_refl _) HX9.out (ownsRow_low (HU9.out.ext ((Ext.refl w9).alloc _)) (by omega)) (fun g hg => (ownsRow_lt HU9.out hg).1) (by rw [HDL.out]; exact hown10) hg10 (by first | exact hat10 | (rw [World.size_alloc]; exact hat10))); rw [HD.out] at HG10; have k0 := (HR0.out.ext HX9.out).own hg10 (fun g hg => by have := hlo g hg; omega); have k1 := (HR1.out.ext HX9.out).own hg10 (fun g hg => by have := hlo g hg; omega); have k2 := (HR2.out.ext HX9.out).own hg10 (fun g hg => by have := hlo g hg; omega); have c10 : w10.cell? ⟨w.heap.size, 1, none⟩ = some (.slice (some ⟨b, off, none⟩) n c) := k0.cell rfl; have e21 : w10.cell? ⟨w.heap.size + 1 + 1, 1, none⟩ = some v := k2.cell rfl; have f21 := k2.frozen 1; have K0 := Lib.hid k0; have K1 := Lib.hid k1; have K2 := Lib.hid k2; clear k0 k1 k2 hown10 hg10 hat10 hlo
      refine hK.out _ _ ?_ (fun hH5 => ?_)
      · (try dsimp only)
        ((repeat' (refine And.intro ?_ ?_)) <;> (first | (with_reducible assumption) | (exact Ext.cell (w := w) (by (repeat' (first | (with_reducible exact Ext.refl _) | (with_reducible assumption) | (with_reducible refine Ext.alloc ?_ _) | (with_reducible refine Ext.drewN ?_ _) | (with_reducible refine Ext.drew ?_) | (with_reducible refine Ext.setCell ?_ ?_ _) | (with_reducible exact Nat.le_refl _) | (with_reducible exact Nat.le_succ _) | (with_reducible refine Ext.trans ?_ (by assumption)) | (simp; done) | (simp; omega)))) hc0) | (exact Ext.cell (w := wr) (by (repeat' (first | (with_reducible exact Ext.refl _) | (with_reducible assumption) | (with_reducible refine Ext.alloc ?_ _) | (with_reducible refine Ext.drewN ?_ _) | (with_reducible refine Ext.drew ?_) | (with_reducible refine Ext.setCell ?_ ?_ _) | (with_reducible exact Nat.le_refl _) | (with_reducible exact Nat.le_succ _) | (with_reducible refine Ext.trans ?_ (by assumption)) | (simp; done) | (simp; omega)))) g1) | ((repeat' (first | (with_reducible exact Ext.refl _) | (with_reducible assumption) | (with_reducible refine Ext.alloc ?_ _) | (with_reducible refine Ext.drewN ?_ _) | (with_reducible refine Ext.drew ?_) | (with_reducible refine Ext.setCell ?_ ?_ _) | (with_reducible exact Nat.le_refl _) | (with_reducible exact Nat.le_succ _) | (with_reducible refine Ext.trans ?_ (by assumption)) | (simp; done) | (simp; omega))); done)))
      clear hK K hH4
      (try simp only [Act.put, List.setIfInBounds_toArray, List.set_cons_zero, List.set_cons_succ])
      refine take_l 11 (v := ?_) rfl (by kernel_rfl) (by kernel_rfl) (by kernel_rfl) (fun _ _ _ h => h) (by rfl) ?_ (by assumption) ?_
      rotate_left
      · (intro w hSw; (try dsimp only at hSw); go_simp; (try with_reducible rfl))
      (try simp only [Act.put, List.setIfInBounds_toArray, List.set_cons_zero, List.set_cons_succ])
      refine wpAnyH_ready (rs := [12]) (by kernel_rfl) (by simp) ?_
      refine cons_l (i := 12) rfl (fun K hK => ?_) ?_
      go_simp; have c12 : (w10.setCell ⟨w.heap.size + 1 + 1, 1, none⟩ (.slice (some ⟨g', 0, none⟩) (k + 1) cap')).cell? ⟨w.heap.size, 1, none⟩ = some (.slice (some ⟨b, off, none⟩) n c) := (K0.out.other (p := ⟨w.heap.size + 1 + 1, 1, none⟩) (by simp; omega) (.slice (some ⟨g', 0, none⟩) (k + 1) cap')).cell rfl
      refine hK.out _ _ ?_ (fun hH6 => ?_)
      · (try dsimp only)
        ((repeat' (refine And.intro ?_ ?_)) <;> (first | (with_reducible assumption) | (exact Ext.cell (w := w) (by (repeat' (first | (with_reducible exact Ext.refl _) | (with_reducible assumption) | (with_reducible refine Ext.alloc ?_ _) | (with_reducible refine Ext.drewN ?_ _) | (with_reducible refine Ext.drew ?_) | (with_reducible refine Ext.setCell ?_ ?_ _) | (with_reducible exact Nat.le_refl _) | (with_reducible exact Nat.le_succ _) | (with_reducible refine Ext.trans ?_ (by assumption)) | (simp; done) | (simp; omega)))) hc0) | (exact Ext.cell (w := wr) (by (repeat' (first | (with_reducible exact Ext.refl _) | (with_reducible assumption) | (with_reducible refine Ext.alloc ?_ _) | (with_reducible refine Ext.drewN ?_ _) | (with_reducible refine Ext.drew ?_) | (with_reducible refine Ext.setCell ?_ ?_ _) | (with_reducible exact Nat.le_refl _) | (with_reducible exact Nat.le_succ _) | (with_reducible refine Ext.trans ?_ (by assumption)) | (simp; done) | (simp; omega)))) g1) | ((repeat' (first | (with_reducible exact Ext.refl _) | (with_reducible assumption) | (with_reducible refine Ext.alloc ?_ _) | (with_reducible refine Ext.drewN ?_ _) | (with_reducible refine Ext.drew ?_) | (with_reducible refine Ext.setCell ?_ ?_ _) | (with_reducible exact Nat.le_refl _) | (with_reducible exact Nat.le_succ _) | (with_reducible refine Ext.trans ?_ (by assumption)) | (simp; done) | (simp; omega))); done)))
      clear hK K hH5
      (try simp only [Act.put, List.setIfInBounds_toArray, List.set_cons_zero, List.set_cons_succ])
      refine wpAnyH_done (by kernel_rfl) ?_ _
      rotate_left
      exact AllReadyH.nil
      exact AllReadyH.nil
      exact AllReadyH.nil
      exact AllReadyH.nil
      exact AllReadyH.nil
      exact AllReadyH.nil
      all_goals
        have y12 := hx10.setCell (p := ⟨w.heap.size + 1 + 1, 1, none⟩) (by (simp; try omega)) (.slice (some ⟨g', 0, none⟩) (k + 1) cap')
        have Y0 := Lib.hid (K0.out.other (p := ⟨w.heap.size + 1 + 1, 1, none⟩) (by (simp; try omega)) (.slice (some ⟨g', 0, none⟩) (k + 1) cap'))
        have Y1 := Lib.hid (K1.out.other (p := ⟨w.heap.size + 1 + 1, 1, none⟩) (by (simp; try omega)) (.slice (some ⟨g', 0, none⟩) (k + 1) cap'))
        have Y2 := Lib.hid (K2.out.set 1 (.slice (some ⟨g', 0, none⟩) (k + 1) cap'))
        have YG := Lib.hid (HG10.out.set (p := ⟨w.heap.size + 1 + 1, 1, none⟩) (.inl (by (simp; try omega))) (.slice (some ⟨g', 0, none⟩) (k + 1) cap'))
        rw [← size_setCell' w10 ⟨w.heap.size + 1 + 1, 1, none⟩ (.slice (some ⟨g', 0, none⟩) (k + 1) cap')] at YG
        go_wp2
        go_roundw
        case rel => exact ⟨k + 1, _, _, _, by omega, by go_num, y12, Y0.out, Y1.out, Y2.out, rfl, YG.out⟩
        case measure => simp [intOf]; omega
    · have hkn : k = n := by omega
      have HDN := Lib.hid (show done = rows by rw [hdone.out, hkn, HN.out, List.take_length])
      clear hdone
      obtain ⟨a9, c9, rfl, _, _⟩ := hgr.out.own
      have HG := Lib.hid hgr.out
      rw [HDN.out, ← HN.out] at HG
      have hnn := Lib.hid (show done.length = n by rw [HDN.out, HN.out])
      have g10 : wr.cell? ⟨w.heap.size + 1, 0, none⟩ = some (.bool false) := hr1.cell rfl
      have g11 : wr.cell? ⟨w.heap.size + 1, 1, none⟩ = some (.slice none 0 0) := hr1.cell rfl
      have f10 := hr1.frozen 0
      have f11 := hr1.frozen 1
      rw [hnn.out] at g21
      clear hr2
      go_wp2
      refine bodyPost_ret (v := .agg #[.bool u, .slice a9 n c9]) (by simp [results, Try.results109, go_sem, *]) rfl ⟨a9, c9, vs, rfl, ?_, by (repeat' (first | (with_reducible exact Ext.refl _) | (with_reducible assumption) | (with_reducible refine Ext.alloc ?_ _) | (with_reducible refine Ext.drewN ?_ _) | (with_reducible refine Ext.drew ?_) | (with_reducible refine Ext.setCell ?_ ?_ _) | (with_reducible exact Nat.le_refl _) | (with_reducible exact Nat.le_succ _) | (with_reducible refine Ext.trans ?_ (by assumption)) | (simp; done) | (simp; omega)))⟩
      exact (((HG.out.set (p := ⟨w.heap.size + 1, 0, none⟩) (.inl (by (simp; try omega))) _).set (p := ⟨w.heap.size + 1, 1, none⟩) (.inl (by (simp; try omega))) _).wide (by omega) (by simp [size_setCell']))
end Go.Proofs.Ytooedgaaaoinbaa
