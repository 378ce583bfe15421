/- TrainOk: what it computes, on both sides. -/
import Derived.Test.YtjjikcjhnglkaaaProg
import Derived.Test.YtjjikcjhnglkaaaTrainList
namespace Go.Proofs.Ytjjikcjhnglkaaa
open Go.RowKit
set_option linter.unusedSimpArgs false
set_option linter.unusedVariables false

def bOk (b : Bt) : Bool := boatOk b.id b.len b.wid b.dra b.spd b.cls
/-- The boats are valid, and their Ids differ from those seen and from each other. -/
def boatsGo (seen : List Int) : List Bt → Bool
  | [] => true
  | b :: bs => bOk b && !seen.contains b.id && boatsGo (seen ++ [b.id]) bs
def implGo (seen : List Int) : List (List Bt) → Bool
  | [] => true
  | r :: rs => if r.length = 0 ∨ 6 < seen.length + r.length then false else boatsGo seen r && implGo (seen ++ r.map Bt.id) rs
def trainOk (rows : List (List Bt)) : Bool := if rows.length = 0 ∨ 6 < rows.length then false else implGo [] rows

theorem row_le {rows : List (List Bt)} {k : Nat} (h : k < rows.length) : rows[k].length ≤ rows.flatten.length := by
  have h1 := flatten_take_le rows (k + 1)
  rw [flatten_take rows k h, List.length_append] at h1
  omega

theorem containsInts_is (d : Bool) (a : Option Addr) (n c : Nat) (v : Int) (xs : List Int) (w : World) (hn : n = xs.length) (hs : n ≤ maxLen) (hf : IntsAt w a xs) (hd : xs.contains v = d) :
    Calls Try.prog 31 #[.slice a n c, .int .i64 v] w fun e w' => e = .returned (.bool d) ∧ w = w' := by
  subst hd
  exact containsInts_any a n c v xs w hn hs hf
theorem seenSlice (a : Addr) (m : Nat) (h : m ≤ 6) (W : World) : (Instr.sliceAt 63 (.pointer (some a)) none (some (.int .i64 (m : Int))) none).run Try.prog W = .ok (.slice (some a) m 6) W := by
  have hal : Try.prog.arrayLen 63 = 6 := by kernel_rfl
  have hel : Try.prog.elem 63 = 3 := by kernel_rfl
  rw [run_sliceAt_array_h W 63 a (by kernel_rfl) .i64 (m : Int) (by omega) (by rw [hal]; omega), hal, hel]
  have hs : (sizeOf 3).run Try.prog W = .ok 1 W := by kernel_rfl
  rw [hs]
  simp only [Result.andThen, slicedAt, Int.toNat_natCast, Nat.sub_zero, Nat.zero_mul]
  rw [if_neg (by decide)]
  simp [Addr.add]
set_option maxHeartbeats 4000000 in
theorem implTrainOk_any (u : Bool) (a : Option Addr) (n c : Nat) (rows : List (List Bt)) (w : World) (hn : n = rows.length) (hs : n ≤ 1048576) (ht : rows.flatten.length ≤ 1048576) (hf : RowsAt w a rows) :
    Calls Try.prog 24 #[.agg #[.bool u, .slice a n c]] w fun e w' => e = .returned (.bool (trainOk rows)) ∧ Ext w w' := by
  by_cases h0 : n = 0
  · have hR := Lib.hid (show trainOk rows = false by rw [trainOk, if_pos (by omega)])
    clear hn hf
    subst h0
    go_enter Try.func24, Try.ntmps24
    go_wp2
    go_ret
    exact ⟨ret_bool hR.out.symm, by (repeat' (first | (with_reducible exact Ext.refl _) | (with_reducible assumption) | (with_reducible refine Ext.alloc ?_ _) | (with_reducible refine Ext.drewN ?_ _) | (with_reducible refine Ext.drew ?_) | (with_reducible refine Ext.setCell ?_ ?_ _) | (with_reducible exact Nat.le_refl _) | (with_reducible exact Nat.le_succ _) | (with_reducible refine Ext.trans ?_ (by assumption)) | (simp; done) | (simp; omega)))⟩
  by_cases h6 : 6 < n
  · have hR := Lib.hid (show trainOk rows = false by rw [trainOk, if_pos (by omega)])
    clear hn hf
    go_enter Try.func24, Try.ntmps24
    go_wp2
    go_ret
    exact ⟨ret_bool hR.out.symm, by (repeat' (first | (with_reducible exact Ext.refl _) | (with_reducible assumption) | (with_reducible refine Ext.alloc ?_ _) | (with_reducible refine Ext.drewN ?_ _) | (with_reducible refine Ext.drew ?_) | (with_reducible refine Ext.setCell ?_ ?_ _) | (with_reducible exact Nat.le_refl _) | (with_reducible exact Nat.le_succ _) | (with_reducible refine Ext.trans ?_ (by assumption)) | (simp; done) | (simp; omega)))⟩
  have hR := Lib.hid (show trainOk rows = implGo [] (rows.drop 0) by rw [trainOk, if_neg (by omega), List.drop_zero])
  obtain ⟨R, hR'⟩ : ∃ R, trainOk rows = R := ⟨_, rfl⟩
  rw [hR'] at hR ⊢
  clear hR'
  have HF := Lib.hid hf; clear hf
  have HN := Lib.hid hn; clear hn
  have HT := Lib.hid ht; clear ht
  have r6 := RowAt.new (w.alloc (.cells #[.bool u, .slice a n c] 32)) 63 #[.int .i64 0, .int .i64 0, .int .i64 0, .int .i64 0, .int .i64 0, .int .i64 0]
  rw [World.size_alloc] at r6
  have R6 := Lib.hid r6; clear r6
  have q1 : ((n : Int) == 0) = false := by simpa using h0
  have q2 : decide (6 < (n : Int)) = false := by simp; omega
  go_enter Try.func24, Try.ntmps24
  go_wp2
  go_loopw [4, 22] (fun cn i wr => ∃ (k m : Nat) (seen : List Int) (cc : Array Value), k ≤ n ∧ i = .int .i64 k ∧ cn = .int .i64 m ∧ m ≤ 6 ∧ Ext w wr ∧ RowAt wr (w.heap.size + 1) 63 cc ∧ Hid (cc.size = 6) ∧ Hid (m = seen.length) ∧ Hid (∀ j (h : j < seen.length), cc[j]? = some (.int .i64 seen[j])) ∧ Hid (R = implGo seen (rows.drop k))) (fun _ i _ => n - (intOf i).toNat)
  case atStart =>
    exact ⟨0, 0, [], _, Nat.zero_le _, rfl, rfl, Nat.zero_le _, by (repeat' (first | (with_reducible exact Ext.refl _) | (with_reducible assumption) | (with_reducible refine Ext.alloc ?_ _) | (with_reducible refine Ext.drewN ?_ _) | (with_reducible refine Ext.drew ?_) | (with_reducible refine Ext.setCell ?_ ?_ _) | (with_reducible exact Nat.le_refl _) | (with_reducible exact Nat.le_succ _) | (with_reducible refine Ext.trans ?_ (by assumption)) | (simp; done) | (simp; omega))), R6.out, rfl, rfl, fun _ h => absurd h (Nat.not_lt_zero _), hR.out⟩
  case round =>
    obtain ⟨w1, rfl⟩ : ∃ x, x = wr := ⟨_, rfl⟩
    obtain ⟨k, m0, seen0, cc0, hk, rfl, rfl, hm6, hr0, hrow0, hsz0, hm0, hcc0, hgo⟩ := hrel
    by_cases hlt : k < n
    · have hlt' : k < rows.length := by rw [← HN.out]; exact hlt
      obtain ⟨b, off, a', c', rfl, hc0, hml, hfr⟩ := HF.out k hlt'
      have e0 : w1.cell? ⟨b, off + k, none⟩ = some (.slice a' rows[k].length c') := hr0.cell hc0
      have hd := List.drop_eq_getElem_cons hlt'
      have hml2 := Nat.le_trans (row_le hlt') HT.out
      obtain ⟨row, hrow'⟩ : ∃ row, rows[k] = row := ⟨_, rfl⟩
      rw [hrow'] at e0 hml hfr hd hml2
      have HG := Lib.hid (show R = implGo seen0 (row :: rows.drop (k + 1)) by rw [← hd]; exact hgo.out)
      clear hgo hd hrow' hc0
      obtain ⟨p, hp⟩ : ∃ p, p = row.length := ⟨_, rfl⟩
      rw [← hp] at e0 hml2
      by_cases hp0 : p = 0
      · have hR := Lib.hid (show R = false by rw [HG.out, implGo, if_pos (by omega)])
        clear HG hml hp hfr
        subst hp0
        go_wp2
        go_ret
        exact ⟨ret_bool hR.out.symm, by (repeat' (first | (with_reducible exact Ext.refl _) | (with_reducible assumption) | (with_reducible refine Ext.alloc ?_ _) | (with_reducible refine Ext.drewN ?_ _) | (with_reducible refine Ext.drew ?_) | (with_reducible refine Ext.setCell ?_ ?_ _) | (with_reducible exact Nat.le_refl _) | (with_reducible exact Nat.le_succ _) | (with_reducible refine Ext.trans ?_ (by assumption)) | (simp; done) | (simp; omega)))⟩
      by_cases hp6 : 6 < m0 + p
      · have hR := Lib.hid (show R = false by rw [HG.out, implGo, if_pos (by have := hm0.out; omega)])
        clear HG hml hp hfr
        have q3 : ((p : Int) == 0) = false := by simpa using hp0
        have q4 : decide (6 < (m0 : Int) + (p : Int)) = true := by simp; omega
        go_wp2
        go_ret
        exact ⟨ret_bool hR.out.symm, by (repeat' (first | (with_reducible exact Ext.refl _) | (with_reducible assumption) | (with_reducible refine Ext.alloc ?_ _) | (with_reducible refine Ext.drewN ?_ _) | (with_reducible refine Ext.drew ?_) | (with_reducible refine Ext.setCell ?_ ?_ _) | (with_reducible exact Nat.le_refl _) | (with_reducible exact Nat.le_succ _) | (with_reducible refine Ext.trans ?_ (by assumption)) | (simp; done) | (simp; omega)))⟩
      have q3 : ((p : Int) == 0) = false := by simpa using hp0
      have q4 : decide (6 < (m0 : Int) + (p : Int)) = false := by simp; omega
      have HG2 := Lib.hid (show R = (boatsGo seen0 (row.drop 0) && implGo (seen0 ++ (row.drop 0).map Bt.id) (rows.drop (k + 1))) by rw [HG.out, implGo, if_neg (by have := hm0.out; omega), List.drop_zero])
      have HFR := Lib.hid hfr; clear hfr
      have HP := Lib.hid hp
      clear HG hp hml
      go_wp2
      go_loopw [4, 38] (fun cn i wr => ∃ (q m : Nat) (seen : List Int) (cc : Array Value), q ≤ p ∧ i = .int .i64 q ∧ cn = .int .i64 m ∧ m + (p - q) ≤ 6 ∧ Ext w wr ∧ RowAt wr (w.heap.size + 1) 63 cc ∧ Hid (cc.size = 6) ∧ Hid (m = seen.length) ∧ Hid (∀ j (h : j < seen.length), cc[j]? = some (.int .i64 seen[j])) ∧ Hid (R = (boatsGo seen (row.drop q) && implGo (seen ++ (row.drop q).map Bt.id) (rows.drop (k + 1))))) (fun _ i _ => p - (intOf i).toNat)
      case atStart => exact ⟨0, m0, seen0, cc0, Nat.zero_le _, rfl, rfl, by omega, by (repeat' (first | (with_reducible exact Ext.refl _) | (with_reducible assumption) | (with_reducible refine Ext.alloc ?_ _) | (with_reducible refine Ext.drewN ?_ _) | (with_reducible refine Ext.drew ?_) | (with_reducible refine Ext.setCell ?_ ?_ _) | (with_reducible exact Nat.le_refl _) | (with_reducible exact Nat.le_succ _) | (with_reducible refine Ext.trans ?_ (by assumption)) | (simp; done) | (simp; omega))), hrow0, hsz0, hm0, hcc0, HG2⟩
      case round =>
        obtain ⟨q, m, seen, cc, hq, rfl, rfl, hmq, hr, hrow, hsz, hm, hcc, hgo⟩ := hrel
        by_cases hlt : q < p
        · have hlt2 : q < row.length := by rw [← HP.out]; exact hlt
          obtain ⟨b2, off2, rfl, hcell⟩ := HFR.out.get q hlt2
          have hd := List.drop_eq_getElem_cons hlt2
          obtain ⟨bt, hbt⟩ : ∃ bt, row[q] = bt := ⟨_, rfl⟩
          rw [hbt] at hcell hd
          clear hbt
          obtain ⟨bi, bl, bw, bd, bs, bc⟩ := bt
          have g0 : wr.cell? ⟨b2, off2 + q * 6, none⟩ = some (.int .i64 bi) := hcell 0 _ rfl _ hr
          have g1 : wr.cell? ⟨b2, off2 + q * 6 + 1, none⟩ = some (.int .i64 bl) := hcell 1 _ rfl _ hr
          have g2 : wr.cell? ⟨b2, off2 + q * 6 + 2, none⟩ = some (.int .i64 bw) := hcell 2 _ rfl _ hr
          have g3 : wr.cell? ⟨b2, off2 + q * 6 + 3, none⟩ = some (.int .i64 bd) := hcell 3 _ rfl _ hr
          have g4 : wr.cell? ⟨b2, off2 + q * 6 + 4, none⟩ = some (.int .i64 bs) := hcell 4 _ rfl _ hr
          have g5 : wr.cell? ⟨b2, off2 + q * 6 + 5, none⟩ = some (.int .i64 bc) := hcell 5 _ rfl _ hr
          have HG := Lib.hid (show R = ((boatOk bi bl bw bd bs bc && !seen.contains bi && boatsGo (seen ++ [bi]) (row.drop (q + 1))) && implGo (seen ++ bi :: (row.drop (q + 1)).map Bt.id) (rows.drop (k + 1))) by rw [hgo.out, hd]; rfl)
          clear hcell hd hgo
          have B5 := RowAt.new wr 57 #[.int .i64 bi, .int .i64 bl, .int .i64 bw, .int .i64 bd, .int .i64 bs, .int .i64 bc]
          have k0 : ∀ x : Aft (wr.alloc (.cells #[.int .i64 bi, .int .i64 bl, .int .i64 bw, .int .i64 bd, .int .i64 bs, .int .i64 bc] 57)), x.1.cell? ⟨wr.heap.size, 0, none⟩ = some (.int .i64 bi) := fun x => (B5.ext x.2).cell rfl
          have k1 : ∀ x : Aft (wr.alloc (.cells #[.int .i64 bi, .int .i64 bl, .int .i64 bw, .int .i64 bd, .int .i64 bs, .int .i64 bc] 57)), x.1.cell? ⟨wr.heap.size, 1, none⟩ = some (.int .i64 bl) := fun x => (B5.ext x.2).cell rfl
          have k2 : ∀ x : Aft (wr.alloc (.cells #[.int .i64 bi, .int .i64 bl, .int .i64 bw, .int .i64 bd, .int .i64 bs, .int .i64 bc] 57)), x.1.cell? ⟨wr.heap.size, 2, none⟩ = some (.int .i64 bw) := fun x => (B5.ext x.2).cell rfl
          have k3 : ∀ x : Aft (wr.alloc (.cells #[.int .i64 bi, .int .i64 bl, .int .i64 bw, .int .i64 bd, .int .i64 bs, .int .i64 bc] 57)), x.1.cell? ⟨wr.heap.size, 3, none⟩ = some (.int .i64 bd) := fun x => (B5.ext x.2).cell rfl
          have k4 : ∀ x : Aft (wr.alloc (.cells #[.int .i64 bi, .int .i64 bl, .int .i64 bw, .int .i64 bd, .int .i64 bs, .int .i64 bc] 57)), x.1.cell? ⟨wr.heap.size, 4, none⟩ = some (.int .i64 bs) := fun x => (B5.ext x.2).cell rfl
          have k5 : ∀ x : Aft (wr.alloc (.cells #[.int .i64 bi, .int .i64 bl, .int .i64 bw, .int .i64 bd, .int .i64 bs, .int .i64 bc] 57)), x.1.cell? ⟨wr.heap.size, 5, none⟩ = some (.int .i64 bc) := fun x => (B5.ext x.2).cell rfl
          have KI : Hid (∀ x : Aft (wr.alloc (.cells #[.int .i64 bi, .int .i64 bl, .int .i64 bw, .int .i64 bd, .int .i64 bs, .int .i64 bc] 57)), IntsAt x.1 (some ⟨w.heap.size + 1, 0, none⟩) seen) := fun x j hj => ⟨w.heap.size + 1, 0, rfl, ((hrow.ext ((Ext.refl _).alloc _)).ext x.2).cell (by rw [Nat.zero_add]; exact hcc.out j hj)⟩
          have K5 := Lib.hid B5; clear B5
          have hm6' : m ≤ 6 := by omega
          have HM63 : Hid (m ≤ maxLen) := by (show _ ≤ _); unfold maxLen; omega
          have Q7 : ∀ W : World, (Instr.sliceAt 63 (.pointer (some ⟨w.heap.size + 1, 0, none⟩)) none (some (.int .i64 (m : Int))) none).run Try.prog W = .ok (.slice (some ⟨w.heap.size + 1, 0, none⟩) m 6) W := fun W => seenSlice _ m hm6' W
          cases c1 : boatOk bi bl bw bd bs bc
          · have hR := Lib.hid (show R = false by rw [HG.out, c1]; rfl)
            go_wp2_with fail
            (refine wp_region_aft _ (Ext.refl _) (by kernel_rfl) (by kernel_rfl) ?_; (repeat (go_big_quiet_step (first | (go_at_call 30; exact aft_call (implBoatOk_any _ _ _ _ _ _ _)) | (go_at_call 31; exact aft_same (containsInts_any _ _ _ _ seen _ hm.out HM63.out (KI.out _)))))); refine wpQuiet_nil ?_; intro w2 hx2)
            rw [c1]
            go_wp2
            go_ret
            exact ⟨ret_bool hR.out.symm, by (repeat' (first | (with_reducible exact Ext.refl _) | (with_reducible assumption) | (with_reducible refine Ext.alloc ?_ _) | (with_reducible refine Ext.drewN ?_ _) | (with_reducible refine Ext.drew ?_) | (with_reducible refine Ext.setCell ?_ ?_ _) | (with_reducible exact Nat.le_refl _) | (with_reducible exact Nat.le_succ _) | (with_reducible refine Ext.trans ?_ (by assumption)) | (simp; done) | (simp; omega)))⟩
          rcases Bool.eq_false_or_eq_true (seen.contains bi) with c2 | c2
          · have hR := Lib.hid (show R = false by rw [HG.out, c1, c2]; rfl)
            have C2 := Lib.hid c2; clear c2
            go_wp2_with fail
            (refine wp_region_aft _ (Ext.refl _) (by kernel_rfl) (by kernel_rfl) ?_; (repeat (go_big_quiet_step (first | (go_at_call 30; exact aft_call (implBoatOk_any _ _ _ _ _ _ _)) | (go_at_call 31; exact aft_same (containsInts_is true _ _ _ _ seen _ hm.out HM63.out (KI.out _) C2.out))))); refine wpQuiet_nil ?_; intro w2 hx2)
            rw [c1]
            go_wp2
            go_ret
            exact ⟨ret_bool hR.out.symm, by (repeat' (first | (with_reducible exact Ext.refl _) | (with_reducible assumption) | (with_reducible refine Ext.alloc ?_ _) | (with_reducible refine Ext.drewN ?_ _) | (with_reducible refine Ext.drew ?_) | (with_reducible refine Ext.setCell ?_ ?_ _) | (with_reducible exact Nat.le_refl _) | (with_reducible exact Nat.le_succ _) | (with_reducible refine Ext.trans ?_ (by assumption)) | (simp; done) | (simp; omega)))⟩
          · have hR := Lib.hid (show R = (boatsGo (seen ++ [bi]) (row.drop (q + 1)) && implGo ((seen ++ [bi]) ++ (row.drop (q + 1)).map Bt.id) (rows.drop (k + 1))) by rw [HG.out, c1, c2, List.append_assoc]; rfl)
            have C2 := Lib.hid c2; clear c2
            go_wp2_with fail
            (refine wp_region_aft _ (Ext.refl _) (by kernel_rfl) (by kernel_rfl) ?_; (repeat (go_big_quiet_step (first | (go_at_call 30; exact aft_call (implBoatOk_any _ _ _ _ _ _ _)) | (go_at_call 31; exact aft_same (containsInts_is false _ _ _ _ seen _ hm.out HM63.out (KI.out _) C2.out))))); refine wpQuiet_nil ?_; intro w2 hx2)
            rw [c1]
            have HX := Lib.hid hx2
            have hxw := Ext.trans ((Ext.refl wr).alloc _) hx2
            have j0 := k0 ⟨w2, hx2⟩
            have j1 := k1 ⟨w2, hx2⟩
            have j2 := k2 ⟨w2, hx2⟩
            have j3 := k3 ⟨w2, hx2⟩
            have j4 := k4 ⟨w2, hx2⟩
            have j5 := k5 ⟨w2, hx2⟩
            dsimp only at j0 j1 j2 j3 j4 j5
            clear k0 k1 k2 k3 k4 k5 Q7
            have r2 := hrow.ext hxw
            have fz := r2.frozen m
            obtain ⟨v0, hv0⟩ : ∃ v, cc[m]? = some v := ⟨_, Array.getElem?_eq_getElem (by have := hsz.out; omega)⟩
            have cz := r2.cell hv0
            have HV0 := Lib.hid hv0; clear hv0
            have hmlt : m < 6 := by omega
            go_wp2
            go_roundw
            case rel =>
              have hs3 := hsz.out
              refine ⟨q + 1, m + 1, seen ++ [bi], cc.setIfInBounds m (.int .i64 bi), by omega, by go_num, by go_num, by omega, by (repeat' (first | (with_reducible exact Ext.refl _) | (with_reducible assumption) | (with_reducible refine Ext.alloc ?_ _) | (with_reducible refine Ext.drewN ?_ _) | (with_reducible refine Ext.drew ?_) | (with_reducible refine Ext.setCell ?_ ?_ _) | (with_reducible exact Nat.le_refl _) | (with_reducible exact Nat.le_succ _) | (with_reducible refine Ext.trans ?_ (by assumption)) | (simp; done) | (simp; omega))), r2.set _ _, by (show _ = _); simpa using hs3, by (show _ = _); simpa using hm.out, ?_, hR.out⟩
              intro j hj
              have hj2 : j < m + 1 := by have := hm.out; simpa [← this] using hj
              by_cases e : j = m
              · subst e
                rw [Array.getElem?_setIfInBounds_self_of_lt (by omega)]
                simp [hm.out]
              · rw [Array.getElem?_setIfInBounds_ne (by omega), hcc.out j (by have := hm.out; omega)]
                rw [List.getElem_append_left (by have := hm.out; omega)]
            case measure => simp [intOf]; omega
        · have hqp : q = p := by omega
          have HG := Lib.hid (show R = implGo seen (rows.drop (k + 1)) by rw [hgo.out, List.drop_eq_nil_of_le (by have := HP.out; omega)]; simp [boatsGo])
          clear hgo
          go_wp2
          go_roundw
          case rel => exact ⟨k + 1, m, seen, cc, by omega, by go_num, rfl, by omega, hr, hrow, hsz, hm, hcc, HG⟩
          case measure => simp [intOf]; omega
    · have hR := Lib.hid (show R = true by rw [hgo.out, List.drop_eq_nil_of_le (by have := HN.out; omega)]; rfl)
      go_wp2
      go_ret
      exact ⟨ret_bool hR.out.symm, by (repeat' (first | (with_reducible exact Ext.refl _) | (with_reducible assumption) | (with_reducible refine Ext.alloc ?_ _) | (with_reducible refine Ext.drewN ?_ _) | (with_reducible refine Ext.drew ?_) | (with_reducible refine Ext.setCell ?_ ?_ _) | (with_reducible exact Nat.le_refl _) | (with_reducible exact Nat.le_succ _) | (with_reducible refine Ext.trans ?_ (by assumption)) | (simp; done) | (simp; omega)))⟩
end Go.Proofs.Ytjjikcjhnglkaaa
