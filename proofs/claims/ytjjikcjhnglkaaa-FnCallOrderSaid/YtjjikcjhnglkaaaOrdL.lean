/- The walk of FnCallOrder. -/
import Derived.Test.YtjjikcjhnglkaaaProg
import Derived.Test.YtjjikcjhnglkaaaOrdW
namespace Go.Proofs.Ytjjikcjhnglkaaa
open Go.RowKit
set_option linter.unusedSimpArgs false
set_option linter.unusedVariables false

set_option maxHeartbeats 1000000 in
theorem has_any (a : Option Addr) (n c : Nat) (xs : List Int) (k : Int) (w : World) (hn : n = xs.length) (hs : n ≤ 1000) (hf : IntsAt w a xs) (hk : k ∈ xs) :
    Calls Try.prog 7 #[.slice a n c, .int .i64 k] w fun e w' => e = .returned (.bool true) ∧ w = w' := by
  have HF := Lib.hid hf; have HN := Lib.hid hn; have HK := Lib.hid hk
  clear hf hn hk
  go_enter Try.func7, Try.ntmps7
  go_wp2
  go_loop [5] (fun i => ∃ (j : Nat), j ≤ n ∧ i = .int .i64 j ∧ Hid (k ∉ xs.take j)) (fun i => n - (intOf i).toNat)
  case atStart => exact ⟨0, Nat.zero_le _, rfl, (show k ∉ xs.take 0 by simp)⟩
  case round =>
    obtain ⟨j, hj, rfl, hnot⟩ := hrel
    by_cases hlt : j < n
    · have hj' : j < xs.length := by rw [← HN.out]; exact hlt
      obtain ⟨b, off, rfl, hcell⟩ := HF.out j hj'
      have hjz : (j : Int) < (n : Int) := by omega
      obtain ⟨x, hx⟩ : ∃ x, xs[j] = x := ⟨_, rfl⟩
      have HX := Lib.hid hx
      rw [hx] at hcell
      clear hx
      by_cases hxk : x = k
      · have d1 : (x == k) = true := by simpa using hxk
        go_wp2
        go_ret
        exact ⟨rfl, rfl⟩
      · have d1 : (x == k) = false := by simpa using hxk
        go_wp2
        go_round
        case rel => exact ⟨j + 1, by omega, by go_num, (show Hid _ from (by
          show k ∉ xs.take (j + 1)
          rw [List.take_succ_eq_append_getElem hj', List.mem_append, List.mem_singleton, HX.out]
          exact fun h => h.elim hnot.out (fun e => hxk e.symm)))⟩
        case measure => simp [intOf]; omega
    · exfalso
      have : j = xs.length := by rw [← HN.out]; omega
      have := hnot.out
      rw [‹j = xs.length›, List.take_length] at this
      exact this HK.out

set_option maxHeartbeats 1000000 in
theorem get_any (a : Option Addr) (n c : Nat) (xs : List Int) (i : Nat) (x : Int) (w : World) (hn : n = xs.length) (hs : n ≤ 1000) (hf : IntsAt w a xs) (hi : i < n) (hx : xs[i]'(by omega) = x) :
    Calls Try.prog 9 #[.slice a n c, .int .i64 i] w fun e w' => e = .returned (.int .i64 x) ∧ w = w' := by
  obtain ⟨b, off, rfl, hcell⟩ := hf i (by omega)
  rw [hx] at hcell
  clear hx hf hn
  have hiz : (i : Int) < (n : Int) := by omega
  have hi0 : ¬ (i : Int) < 0 := by omega
  have hi1 : ¬ (n : Int) ≤ (i : Int) := by omega
  go_enter Try.func9, Try.ntmps9
  go_wp2
  go_ret
  exact ⟨rfl, rfl⟩

theorem calls_of_own {w : World} {base : Nat} {v : Value} (fs : List Ec) (h : w.ownsRow base 34 4 v fs.length (fs.flatMap eCells)) (hr : ∀ f ∈ fs, RowsAt w f.a f.c.rows) : ∃ a c, v = .slice a fs.length c ∧ CallsAt w a (fs.map Ec.c) := by
  obtain ⟨a, c, e, hf, _⟩ := ownsRow_flat eCells_len h
  refine ⟨a, c, e, fun k hk => ?_⟩
  rw [List.length_map] at hk
  obtain ⟨b, off, ea, hc⟩ := hf.get k hk
  simp only [List.getElem_map]
  exact ⟨b, off, fs[k].a, fs[k].cap, ea, hc 0 _ rfl w (Ext.refl _), hc 1 _ rfl w (Ext.refl _), hc 2 _ rfl w (Ext.refl _), hc 3 _ rfl w (Ext.refl _), hr _ (List.getElem_mem hk)⟩

set_option maxRecDepth 100000 in
set_option maxHeartbeats 20000000 in
theorem callorder_any (a : Option Addr) (n c : Nat) (bs : List Int) (w : World) (hn : n = bs.length) (hs : n ≤ maxLen) (hf : BytesAt w a bs) :
    Calls Try.prog 3 #[.slice a n c] w fun e w' => e = .returned (.bool true) ∧ Ext w w' := by
  have HS := Lib.hid hs
  have HF := Lib.hid hf; clear hf
  have HN := Lib.hid hn; clear hn
  by_cases hsz : (1048576 : Int) < n
  · have hd : decide ((1048576 : Int) < n) = true := by simpa using hsz
    go_enter Try.func3, Try.ntmps3
    go_wp2_with ((go_at_call 4; refine (big_any _ _ _ _ HS.out).mono ?_; rintro e w' ⟨rfl, rfl⟩))
    go_ret
    exact ⟨rfl, by (repeat' (first | (with_reducible exact Ext.refl _) | (with_reducible assumption) | (with_reducible refine Ext.alloc ?_ _) | (with_reducible refine Ext.drewN ?_ _) | (with_reducible refine Ext.drew ?_) | (with_reducible refine Ext.setCell ?_ ?_ _) | (with_reducible exact Nat.le_refl _) | (with_reducible exact Nat.le_succ _) | (with_reducible refine Ext.trans ?_ (by assumption)) | (simp; done) | (simp; omega)))⟩
  have hs2 : n ≤ 1048576 := by omega
  have hd : decide ((1048576 : Int) < n) = false := by simpa using hsz
  go_enter Try.func3, Try.ntmps3
  go_wp2_with fail
  refine (big_any _ _ _ _ HS.out).mono ?_
  rintro e w1 ⟨rfl, rfl⟩
  go_wp2_with fail
  refine (DrawCalls_any _ _ _ bs _ HN.out hs2 HF.out).mono ?_
  rintro e w2 ⟨v, es, K, base, hq, rfl, hcg, hx2⟩
  obtain ⟨a1, c1, rfl, hcs⟩ := hcg.form
  obtain ⟨m, hm⟩ : ∃ m, m = es.length := ⟨_, rfl⟩
  have hm6 : m ≤ 6 := by have := hq.1; have := hq.2.1; omega
  obtain ⟨cs, hcsd⟩ : ∃ cs, cs = es.map Ec.c := ⟨_, rfl⟩
  have HCL := Lib.hid (show m = cs.length by rw [hcsd, List.length_map, hm])
  have HSM := Lib.hid hq.small; have HRK := Lib.hid hq.rank; have HLT := Lib.hid hq.lt; have HAP := Lib.hid hq.apart
  rw [← hcsd] at HSM HRK HLT HAP hcs
  rw [← hm]
  have HCS := Lib.hid hcs; have HX2 := Lib.hid hx2; have HM := Lib.hid hm; have HCD := Lib.hid hcsd
  have HCG := Lib.hid hcg
  clear hcs hx2 hm hcsd hq hcg
  go_wp2_with fail
  refine (orderCalls_any cs a1 m c1 _ HCL.out (by omega) HSM.out HLT.out HRK.out HCS.out).mono ?_
  rintro e w3 ⟨⟨a2, c2, rfl, hord⟩, hx3⟩
  have HX3 := Lib.hid hx3
  have HOL := Lib.hid (show m = (ordOf cs).length by rw [ord_len]; exact HCL.out)
  have HOR := Lib.hid hord; have HC3 := Lib.hid (HCS.out.ext hx3)
  clear hord hx3
  go_wp2
  go_loopw [5] (fun vk wr => ∃ (k : Nat), k ≤ m ∧ vk = .int .i64 k ∧ Hid (Ext w3 wr)) (fun vk _ => m - (intOf vk).toNat)
  case atStart => exact ⟨0, Nat.zero_le _, rfl, Ext.refl _⟩
  case round =>
    obtain ⟨k, hk, rfl, hr⟩ := hrel
    by_cases hlt : k < m
    · have hkz : (k : Int) < (m : Int) := by omega
      go_wp2_with fail
      refine (has_any a2 m c2 (ordOf cs) (k : Int) _ HOL.out (by omega) (HOR.out.ext hr.out) (ord_has cs k (by rw [← HCL.out]; exact hlt))).mono ?_
      rintro e w4 ⟨rfl, rfl⟩
      go_wp2
      go_loopw [6] (fun vi wq => ∃ (i : Nat), i ≤ k ∧ vi = .int .i64 i ∧ Hid (Ext w3 wq)) (fun vi _ => k - (intOf vi).toNat)
      case atStart => exact ⟨0, Nat.zero_le _, rfl, hr⟩
      case round =>
        clear hr
        obtain ⟨i, hi, rfl, hr⟩ := hrel
        by_cases hlt2 : i < k
        · have hiz : (i : Int) < (k : Int) := by omega
          have him : (i : Int) < (m : Int) := by omega
          obtain ⟨x, hxl, hx⟩ := ord_get cs k (by rw [← HCL.out]; exact hlt)
          obtain ⟨z, hzl, hz⟩ := ord_get cs i (by rw [← HCL.out]; omega)
          have hlts := ord_lt cs HAP.out i k z x hlt2 (by rw [← HCL.out]; exact hlt) hz hx hzl hxl
          obtain ⟨b2, off2, rfl, ok⟩ := HOR.out k (by rw [← HOL.out]; exact hlt)
          obtain ⟨b2', off2', e2, oi⟩ := HOR.out i (by rw [← HOL.out]; omega)
          cases e2
          rw [hx] at ok
          rw [hz] at oi
          obtain ⟨b, off, ax, ccx, rfl, x0, x1, x2, x3, xr⟩ := HC3.out x hxl
          obtain ⟨b', off', az, ccz, e1, z0, z1, z2, z3, zr⟩ := HC3.out z hzl
          cases e1
          have hsx := HSM.out _ (List.getElem_mem hxl)
          have hsz2 := HSM.out _ (List.getElem_mem hzl)
          have hl1 := HLT.out _ (List.getElem_mem hxl) _ (List.getElem_mem hzl)
          have hl2 := HLT.out _ (List.getElem_mem hzl) _ (List.getElem_mem hxl)
          unfold kf at hlts
          rw [Int.toNat_natCast, Int.toNat_natCast, getElem!_pos cs z hzl, getElem!_pos cs x hxl] at hlts
          rw [decide_eq_false (by omega)] at hl1
          rw [decide_eq_true hlts] at hl2
          have hxm : (x : Int) < (m : Int) := by have := HCL.out; omega
          have hzm : (z : Int) < (m : Int) := by have := HCL.out; omega
          generalize cs[x] = cx at *
          generalize cs[z] = cz at *
          obtain ⟨ux, rx, sx, bx⟩ := cx
          obtain ⟨uz, rz, sz, bz⟩ := cz
          dsimp only [Cl.small, ltC] at *
          obtain ⟨nx, hnx⟩ : ∃ q, q = rx.length := ⟨_, rfl⟩
          obtain ⟨nz, hnz⟩ : ∃ q, q = rz.length := ⟨_, rfl⟩
          rw [← hnx] at x1 hsx
          rw [← hnz] at z1 hsz2
          have HNX := Lib.hid hnx; have HNZ := Lib.hid hnz; have HRX := Lib.hid (xr.ext hr.out); have HRZ := Lib.hid (zr.ext hr.out)
          have HSX := Lib.hid hsx; have HSZ := Lib.hid hsz2; have HL1 := Lib.hid hl1; have HL2 := Lib.hid hl2
          have gk : ∀ y : Aft wr, y.1.cell? ⟨b2, off2 + k, none⟩ = some (.int .i64 x) := fun y => (hr.out.trans y.2).cell ok
          have gi : ∀ y : Aft wr, y.1.cell? ⟨b2, off2 + i, none⟩ = some (.int .i64 z) := fun y => (hr.out.trans y.2).cell oi
          have g0 : ∀ y : Aft wr, y.1.cell? ⟨b, off + x * 4, none⟩ = some (.bool ux) := fun y => (hr.out.trans y.2).cell x0
          have g1 : ∀ y : Aft wr, y.1.cell? ⟨b, off + x * 4 + 1, none⟩ = some (.slice ax nx ccx) := fun y => (hr.out.trans y.2).cell x1
          have g2 : ∀ y : Aft wr, y.1.cell? ⟨b, off + x * 4 + 2, none⟩ = some (.int .i64 sx) := fun y => (hr.out.trans y.2).cell x2
          have g3 : ∀ y : Aft wr, y.1.cell? ⟨b, off + x * 4 + 3, none⟩ = some (.int .i64 bx) := fun y => (hr.out.trans y.2).cell x3
          have h0 : ∀ y : Aft wr, y.1.cell? ⟨b, off + z * 4, none⟩ = some (.bool uz) := fun y => (hr.out.trans y.2).cell z0
          have h1 : ∀ y : Aft wr, y.1.cell? ⟨b, off + z * 4 + 1, none⟩ = some (.slice az nz ccz) := fun y => (hr.out.trans y.2).cell z1
          have h2 : ∀ y : Aft wr, y.1.cell? ⟨b, off + z * 4 + 2, none⟩ = some (.int .i64 sz) := fun y => (hr.out.trans y.2).cell z2
          have h3 : ∀ y : Aft wr, y.1.cell? ⟨b, off + z * 4 + 3, none⟩ = some (.int .i64 bz) := fun y => (hr.out.trans y.2).cell z3
          clear hnx hnz xr zr hsx hsz2 hl1 hl2 x0 x1 x2 x3 z0 z1 z2 z3 ok oi hx hz hlts hxl hzl
          go_wp2_with fail
          (refine wp_region_aft wr (Ext.refl _) (by kernel_rfl) (by kernel_rfl) ?_; (repeat (go_big_quiet_step ((go_at_call 8; first | with_reducible exact aft_call (implComes_is false ux uz ax az nx ccx nz ccz sx bx sz bz 100 rx rz _ HNX.out HSX.out.1 HSX.out.2 (HRX.out.ext (Subtype.property _)) HNZ.out HSZ.out.1 HSZ.out.2 (HRZ.out.ext (Subtype.property _)) HL1.out) | with_reducible exact aft_call (implComes_is true uz ux az ax nz ccz nx ccx sz bz sx bx 100 rz rx _ HNZ.out HSZ.out.1 HSZ.out.2 (HRZ.out.ext (Subtype.property _)) HNX.out HSX.out.1 HSX.out.2 (HRX.out.ext (Subtype.property _)) HL2.out))))); refine wpQuiet_nil ?_; intro w2 hx2)
          have HX5 := Lib.hid (hr.out.trans hx2)
          clear gk gi g0 g1 g2 g3 h0 h1 h2 h3
          go_wp2
          go_roundw
          case rel => exact ⟨i + 1, by omega, by go_num, HX5⟩
          case measure => simp [intOf]; omega
        · have hik : i = k := by omega
          subst hik
          go_wp2
          go_roundw
          case rel => exact ⟨i + 1, by omega, by go_num, hr⟩
          case measure => simp [intOf]; omega
    · have hkm : k = m := by omega
      subst hkm
      have H3R := Lib.hid hr.out
      have hs3 := hr.out.size
      have HO0 := Lib.hid (CG.lit wr (base := w3.heap.size) hs3).1
      have HE0 := Lib.hid (hr.out.alloc (.cells #[] 34))
      clear hr
      go_wp2
      go_loopw [7, 8] (fun v vk wq => ∃ (r : Nat) (fs : List Ec), r ≤ k ∧ vk = .int .i64 ((r : Int) - 1) ∧ Hid (Ext w3 wq) ∧ Hid (fs.map Ec.c = cs.reverse.take (k - r)) ∧ Hid (∀ f ∈ fs, RowsAt w3 f.a f.c.rows) ∧ Hid (wq.ownsRow w3.heap.size 34 4 v fs.length (fs.flatMap eCells))) (fun _ vk _ => (intOf vk + 1).toNat)
      case atStart => exact ⟨k, [], Nat.le_refl _, by first | rfl | go_num, HE0, (show Hid _ from by show List.map Ec.c [] = _; rw [Nat.sub_self]; rfl), (show Hid _ from (fun f hf => by cases hf)), HO0⟩
      case round =>
        clear HO0 HE0
        obtain ⟨r, fs, hrk, rfl, hr, hfs, hfr, hown⟩ := hrel
        have hfl : fs.length = k - r := by
          have h := congrArg List.length hfs.out
          rw [List.length_map, List.length_take, List.length_reverse, ← HCL.out] at h
          omega
        by_cases hr0 : 0 < r
        · obtain ⟨p, rfl⟩ : ∃ p, r = p + 1 := ⟨r - 1, by omega⟩
          have e8 : (((p + 1 : Nat) : Int) - 1) = (p : Int) := by omega
          rw [e8]
          have hpk : (p : Int) < (k : Int) := by omega
          have hpl : p < cs.length := by rw [← HCL.out]; omega
          obtain ⟨b, off, ai, cci, rfl, i0, i1, i2, i3, ir⟩ := HC3.out p hpl
          obtain ⟨ci, hci⟩ : ∃ x, x = cs[p] := ⟨_, rfl⟩
          rw [← hci] at i0 i1 i2 i3 ir
          obtain ⟨ui, ri, si, bi⟩ := ci
          dsimp only at i0 i1 i2 i3 ir
          have g0 := hr.out.cell i0
          have g1 := hr.out.cell i1
          have g2 := hr.out.cell i2
          have g3 := hr.out.cell i3
          have HIR := Lib.hid ir
          have HFS2 := Lib.hid (show (fs ++ [(⟨⟨ui, ri, si, bi⟩, ai, cci⟩ : Ec)]).map Ec.c = cs.reverse.take (k - p) by
            have hkp : k - p = (k - (p + 1)) + 1 := by omega
            have hlt' : k - (p + 1) < cs.reverse.length := by rw [List.length_reverse, ← HCL.out]; omega
            rw [hkp, List.take_succ_eq_append_getElem hlt', List.map_append, hfs.out, List.getElem_reverse]
            have e : cs.length - 1 - (k - (p + 1)) = p := by rw [← HCL.out]; omega
            simp only [e, List.map_cons, List.map_nil, ← hci])
          have hsz4 := hr.out.size
          obtain ⟨nfs, hnf⟩ : ∃ q, q = fs.length := ⟨_, rfl⟩
          have hnf6 : nfs ≤ 6 := by omega
          have HNF := Lib.hid hnf
          have HOW := Lib.hid hown.out
          rw [← hnf] at HOW
          clear hnf i0 i1 i2 i3 ir hci hfl hown hfs
          have hkk : k ≤ 9223372036854775807 := by omega
          go_wp2_with (at_builtin; refine wpList_plain rfl fun K hK => wp_append_call _ _ rfl w3.heap.size _ nfs fs rfl (ownsRow_ext HOW.out ((Ext.refl _).alloc _)) _ 1 rfl (⟨⟨ui, ri, si, bi⟩, ai, cci⟩ : Ec) (RowAt.new wr 34 _) (by omega) (by simp; omega) ?_)
          intro v5 w5 hown5 hg5 _
          have HX5 := Lib.hid (Ext.own (hr.out.alloc _) hg5 (fun g hg => (ownsRow_lt HOW.out hg).1))
          have HO5 := Lib.hid (show w5.ownsRow w3.heap.size 34 4 v5 (fs ++ [(⟨⟨ui, ri, si, bi⟩, ai, cci⟩ : Ec)]).length ((fs ++ [(⟨⟨ui, ri, si, bi⟩, ai, cci⟩ : Ec)]).flatMap eCells) from by
            rw [List.length_append, List.length_singleton, ← HNF.out]; simpa using hown5)
          have HR5 := Lib.hid (show ∀ f ∈ fs ++ [(⟨⟨ui, ri, si, bi⟩, ai, cci⟩ : Ec)], RowsAt w3 f.a f.c.rows from fun f hf => by
            rcases List.mem_append.1 hf with h | h
            · exact hfr.out f h
            · rw [List.mem_singleton.1 h]; exact HIR.out)
          clear hown5 hg5 g0 g1 g2 g3
          refine hK _ _ ?_
          clear hK K
          go_wp2
          go_roundw
          case rel => exact ⟨p, _, by omega, by first | rfl | go_num, HX5, HFS2, HR5, HO5⟩
          case measure => simp [intOf]
        · have hr0' : r = 0 := by omega
          subst hr0'
          have hfs' : fs.map Ec.c = cs.reverse := by rw [hfs.out, List.take_of_length_le]; rw [List.length_reverse, ← HCL.out]; omega
          obtain ⟨a4, c4, rfl, hcs4⟩ := calls_of_own fs hown.out (fun f hf => (hfr.out f hf).ext hr.out)
          rw [hfs'] at hcs4
          have hfl' : fs.length = k := by omega
          rw [hfl']
          have HC4 := Lib.hid hcs4
          clear hcs4 hown hfs hfs' hfl hfl' hfr
          go_wp2_with fail
          refine (orderCalls_any cs.reverse a4 k c4 _ (by rw [List.length_reverse]; exact HCL.out) (by omega) (fun x hx => HSM.out x (List.mem_reverse.1 hx)) (fun x hx y hy => HLT.out x (List.mem_reverse.1 hx) y (List.mem_reverse.1 hy)) (fun x hx => HRK.out x (List.mem_reverse.1 hx)) HC4.out).mono ?_
          rintro e w6 ⟨⟨a5, c5, rfl, hord5⟩, hx6⟩
          have HX6 := Lib.hid (hr.out.trans hx6)
          have HO6 := Lib.hid hord5
          have HOL6 := Lib.hid (show k = (ordOf cs.reverse).length by rw [ord_len, List.length_reverse]; exact HCL.out)
          clear hord5 hx6 hr
          go_wp2
          go_loopw [10] (fun vq wq => ∃ (q : Nat), q ≤ k ∧ vq = .int .i64 q ∧ Hid (Ext w6 wq)) (fun vq _ => k - (intOf vq).toNat)
          case atStart => exact ⟨0, Nat.zero_le _, rfl, Ext.refl _⟩
          case round =>
            obtain ⟨q, hqk, rfl, hr⟩ := hrel
            by_cases hlt3 : q < k
            · have hqz : (q : Int) < (k : Int) := by omega
              obtain ⟨x, hxl, hx⟩ := ord_get cs q (by rw [← HCL.out]; exact hlt3)
              have hy : (ordOf cs.reverse)[q]'(by rw [← HOL6.out]; exact hlt3) = (k : Int) - 1 - (x : Int) := by
                have h := ord_rev cs HAP.out
                simp only [h, List.getElem_map, hx, ← HCL.out]
              obtain ⟨b2, off2, rfl, ok⟩ := HOR.out q (by rw [← HOL.out]; exact hlt3)
              rw [hx] at ok
              have hxk : (x : Int) < (k : Int) := by have := HCL.out; omega
              have gk : ∀ y : Aft wr, y.1.cell? ⟨b2, off2 + q, none⟩ = some (.int .i64 x) := fun y => (HX6.out.trans (hr.out.trans y.2)).cell ok
              have HY := Lib.hid hy
              obtain ⟨yv, hyv⟩ : ∃ yv : Int, yv = (k : Int) - 1 - (x : Int) := ⟨_, rfl⟩
              clear ok hx hy
              go_wp2_with fail
              (refine wp_region_aft wr (Ext.refl _) (by kernel_rfl) (by kernel_rfl) ?_; (repeat (go_big_quiet_step ((go_at_call 9; exact aft_same (get_any a5 k c5 (ordOf cs.reverse) q _ _ HOL6.out (by omega) (HO6.out.ext (hr.out.trans (Subtype.property _))) hlt3 HY.out))))); refine wpQuiet_nil ?_; intro w2 hx2)
              have HX7 := Lib.hid (hr.out.trans hx2)
              clear gk
              go_wp2
              go_roundw
              case rel => exact ⟨q + 1, by omega, by go_num, HX7⟩
              case measure => simp [intOf]; omega
            · have hqk' : q = k := by omega
              subst hqk'
              go_wp2
              go_ret
              exact ⟨rfl, ((HX2.out.trans HX3.out).trans HX6.out).trans hr.out⟩
end Go.Proofs.Ytjjikcjhnglkaaa
