/- FormatInt, l04Join, FormatTrain of the reference: what they write. -/
import Derived.Test.YtjjikcjhnglkaaaDoorProg
import Derived.Test.YtjjikcjhnglkaaaDoorRank
import Derived.Test.YtjjikcjhnglkaaaDoorMark
import Derived.Lib.SlBytesRow
namespace Go.Proofs.YtjjikcjhnglkaaaDoor
open Go.RowKit
set_option linter.unusedSimpArgs false
set_option linter.unusedVariables false

/-- A text's bytes. -/
def S (l : List UInt8) : ByteArray := ⟨l.toArray⟩
theorem S_add (a b : List UInt8) : S a ++ S b = S (a ++ b) := by unfold S; rw [ByteArray.mk_append_mk]
theorem S_size (a : List UInt8) : (S a).size = a.length := by simp [S, ByteArray.size]
theorem lit_S (d : UInt8) : ({ data := #[d] } : ByteArray) = S [d] := rfl
theorem nil_S : ({ data := #[] } : ByteArray) = S [] := rfl

def fig (k : Nat) : UInt8 := UInt8.ofNat (48 + k % 10)
theorem fig_nat (k : Nat) : ((fig k).toNat : Int) = 48 + (k : Int) % 10 := by
  unfold fig
  rw [UInt8.toNat_ofNat']
  omega
def decGo (k : Nat) (t : List UInt8) : List UInt8 := if h : k = 0 then t else decGo (k / 10) (fig k :: t)
termination_by k
decreasing_by omega
theorem decGo_zero (t : List UInt8) : decGo 0 t = t := by rw [decGo]; simp
theorem decGo_pos {k : Nat} (h : ¬ k = 0) (t : List UInt8) : decGo k t = decGo (k / 10) (fig k :: t) := by rw [decGo, dif_neg h]
def dec (x : Nat) : List UInt8 := if x = 0 then [48] else decGo x []
theorem decGo_len (k : Nat) : ∀ t : List UInt8, (decGo k t).length ≤ t.length + k := by
  induction k using Nat.strongRecOn with
  | ind k ih =>
    intro t
    by_cases h : k = 0
    · subst h; rw [decGo_zero]; omega
    · rw [decGo_pos h]
      have := ih (k / 10) (by omega) (fig k :: t)
      rw [List.length_cons] at this
      omega
theorem dec_len (x : Nat) : (dec x).length ≤ x + 1 := by
  unfold dec
  split
  · simp
  · have := decGo_len x []
    simp at this
    omega

set_option maxHeartbeats 1000000 in
theorem l01Figure_any (x : Int) (w : World) (h0 : 0 ≤ x) (h1 : x ≤ 9) :
    Calls Tryd.prog 54 #[.int .i64 x] w fun e w' => e = .returned (.int .u8 (48 + x)) ∧ w = w' := by
  have hd : decide (x < 10) = true := by simp; omega
  have hw : IntKind.u8.wrap (48 + x) = 48 + x := by rw [IntKind.wrap_u8]; omega
  go_enter Tryd.func54, Tryd.ntmps54
  go_wp2
  go_ret
  exact ⟨by simp [*], rfl⟩

set_option maxRecDepth 100000 in
set_option maxHeartbeats 2000000 in
theorem FormatInt_any (x : Nat) (w : World) (h1 : x ≤ 100000000000) :
    Calls Tryd.prog 38 #[.int .i64 x] w fun e w' => e = .returned (.string (S (dec x))) ∧ Ext w w' := by
  by_cases h0 : x = 0
  · subst h0
    go_enter Tryd.func38, Tryd.ntmps38
    go_wp2
    go_ret
    exact ⟨rfl, by (repeat' (first | (with_reducible exact Ext.refl _) | (with_reducible assumption) | (with_reducible refine Ext.alloc ?_ _) | (with_reducible refine Ext.drewN ?_ _) | (with_reducible refine Ext.drew ?_) | (with_reducible refine Ext.setCell ?_ ?_ _) | (with_reducible exact Nat.le_refl _) | (with_reducible exact Nat.le_succ _) | (with_reducible refine Ext.trans ?_ (by assumption)) | (simp; done) | (simp; omega)))⟩
  · have hd : decide ((x : Int) < 0) = false := by simp
    have he : ((x : Int) == 0) = false := by simp; omega
    have hR := Lib.hid (show dec x = decGo x [] by rw [dec, if_neg h0])
    obtain ⟨R, hR'⟩ : ∃ R, dec x = R := ⟨_, rfl⟩
    rw [hR'] at hR ⊢
    clear hR'
    go_enter Tryd.func38, Tryd.ntmps38
    go_wp2_with fail
    go_loopw [0, 4] (fun n s wr => ∃ (k : Nat) (t : List UInt8), n = .int .i64 k ∧ t.length + k ≤ 100000000000 ∧ s = .string (S t) ∧ Ext w wr ∧ Hid (R = decGo k t)) (fun n _ _ => (intOf n).toNat)
    case atStart => exact ⟨x, [], rfl, by simp; omega, rfl, by (repeat' (first | (with_reducible exact Ext.refl _) | (with_reducible assumption) | (with_reducible refine Ext.alloc ?_ _) | (with_reducible refine Ext.drewN ?_ _) | (with_reducible refine Ext.drew ?_) | (with_reducible refine Ext.setCell ?_ ?_ _) | (with_reducible exact Nat.le_refl _) | (with_reducible exact Nat.le_succ _) | (with_reducible refine Ext.trans ?_ (by assumption)) | (simp; done) | (simp; omega))), hR⟩
    case round =>
      obtain ⟨k, t, rfl, hk, rfl, hr, hgo⟩ := hrel
      by_cases hk0 : k = 0
      · subst hk0
        have hRt := Lib.hid (show R = t by rw [hgo.out, decGo_zero])
        go_wp2
        go_ret
        exact ⟨by rw [hRt.out]; rfl, hr⟩
      · have he2 : ((k : Int) == 0) = false := by simp; omega
        have hm0 : 0 ≤ (k : Int) % 10 := by omega
        have hm1 : (k : Int) % 10 ≤ 9 := by omega
        have HG := Lib.hid (show R = decGo (k / 10) (fig k :: t) by rw [hgo.out, decGo_pos hk0])
        clear hgo
        have kc : (convert 37 9 (.slice (some ⟨wr.heap.size, 0, none⟩) 1 1)).run Tryd.prog (wr.alloc (.cells #[.int .u8 (48 + (k : Int) % 10)] 5)) = .ok (.string (S [fig k])) (wr.alloc (.cells #[.int .u8 (48 + (k : Int) % 10)] 5)) :=
          Lib.run_convert_whole (P := Tryd.prog) _ 37 5 9 Tryd.underlying37 Tryd.underlying5 Tryd.underlying9 wr.heap.size 0 (S [fig k]) (fun i hi => by
            have hi0 : i = 0 := by rw [S_size] at hi; simpa using hi
            subst hi0
            have e : (((S [fig k])[0]).toNat : Int) = 48 + (k : Int) % 10 := fig_nat k
            rw [e]
            exact (RowAt.new wr 5 #[.int .u8 (48 + (k : Int) % 10)]).cell rfl) 1
        have hz : ¬ ((S [fig k]).size + (S t).size > 9223372036854775807) := by rw [S_size, S_size]; simp; omega
        have hq : (k : Int).tdiv 10 = ((k / 10 : Nat) : Int) := by rw [Int.tdiv_eq_ediv_of_nonneg (by omega)]; push_cast; rfl
        have hqw : IntKind.i64.wrap (((k / 10 : Nat) : Int)) = ((k / 10 : Nat) : Int) := IntWalk.i64_in _ (by omega)
        go_wp2_with fail
        refine (l01Figure_any _ _ hm0 hm1).mono ?_
        rintro e w5 ⟨rfl, rfl⟩
        go_wp2
        rw [S_add]
        go_roundw
        case rel => exact ⟨k / 10, fig k :: t, by go_num, by simp; omega, rfl, by (repeat' (first | (with_reducible exact Ext.refl _) | (with_reducible assumption) | (with_reducible refine Ext.alloc ?_ _) | (with_reducible refine Ext.drewN ?_ _) | (with_reducible refine Ext.drew ?_) | (with_reducible refine Ext.setCell ?_ ?_ _) | (with_reducible exact Nat.le_refl _) | (with_reducible exact Nat.le_succ _) | (with_reducible refine Ext.trans ?_ (by assumption)) | (simp; done) | (simp; omega))), HG⟩
        case measure => simp [intOf]; omega

def joinGo (t : List UInt8) (k : Nat) : List Int → List UInt8
  | [] => t
  | x :: xs => joinGo ((if 0 < k then t ++ [58] else t) ++ dec x.toNat) (k + 1) xs
theorem joinGo_len : ∀ (xs : List Int) (t : List UInt8) (k : Nat), (∀ x ∈ xs, x ≤ 9999) → (joinGo t k xs).length ≤ t.length + 10001 * xs.length
  | [], t, k, _ => by simp [joinGo]
  | x :: xs, t, k, h => by
    have h1 := joinGo_len xs ((if 0 < k then t ++ [58] else t) ++ dec x.toNat) (k + 1) (fun y hy => h y (by simp [hy]))
    have h2 := dec_len x.toNat
    have h3 := h x (by simp)
    have h4 : (if 0 < k then t ++ [58] else t).length ≤ t.length + 1 := by split <;> simp
    rw [List.length_append] at h1
    rw [joinGo, List.length_cons]
    omega

set_option maxRecDepth 100000 in
set_option maxHeartbeats 2000000 in
theorem l04Join_any (a : Option Addr) (n c : Nat) (xs : List Int) (w : World) (hn : n = xs.length) (hs : n ≤ 6) (hx : ∀ x ∈ xs, 0 ≤ x ∧ x ≤ 9999) (hf : IntsAt w a xs) :
    Calls Tryd.prog 20 #[.slice a n c, .string (S [58])] w fun e w' => e = .returned (.string (S (joinGo [] 0 xs))) ∧ Ext w w' := by
  have HF := Lib.hid hf; clear hf
  have HN := Lib.hid hn; clear hn
  have HX := Lib.hid hx; clear hx
  have hR := Lib.hid (show joinGo [] 0 xs = joinGo [] 0 (xs.drop 0) by rw [List.drop_zero])
  obtain ⟨R, hR'⟩ : ∃ R, joinGo [] 0 xs = R := ⟨_, rfl⟩
  rw [hR'] at hR ⊢
  clear hR'
  go_enter Tryd.func20, Tryd.ntmps20
  go_wp2_with fail
  go_loopw [5, 6] (fun s i wr => ∃ (k : Nat) (t : List UInt8), i = .int .i64 k ∧ k ≤ n ∧ t.length ≤ 10001 * k ∧ s = .string (S t) ∧ Ext w wr ∧ Hid (R = joinGo t k (xs.drop k))) (fun _ i _ => n - (intOf i).toNat)
  case atStart => exact ⟨0, [], rfl, Nat.zero_le _, by simp, rfl, by (repeat' (first | (with_reducible exact Ext.refl _) | (with_reducible assumption) | (with_reducible refine Ext.alloc ?_ _) | (with_reducible refine Ext.drewN ?_ _) | (with_reducible refine Ext.drew ?_) | (with_reducible refine Ext.setCell ?_ ?_ _) | (with_reducible exact Nat.le_refl _) | (with_reducible exact Nat.le_succ _) | (with_reducible refine Ext.trans ?_ (by assumption)) | (simp; done) | (simp; omega))), hR⟩
  case round =>
    obtain ⟨k, t, rfl, hk, ht, rfl, hr, hgo⟩ := hrel
    by_cases hlt : k < n
    · have hlt' : k < xs.length := by rw [← HN.out]; exact hlt
      obtain ⟨b, off, rfl, hc0⟩ := HF.out k hlt'
      have hd := List.drop_eq_getElem_cons hlt'
      have hx := HX.out xs[k] (List.getElem_mem _)
      obtain ⟨x, hxk⟩ : ∃ x, xs[k] = x := ⟨_, rfl⟩
      rw [hxk] at hc0 hd hx
      clear hxk
      obtain ⟨x, rfl⟩ := Int.eq_ofNat_of_zero_le hx.1
      have hx9 : x ≤ 9999 := by omega
      have hdl := dec_len x
      have HG := Lib.hid (show R = joinGo ((if 0 < k then t ++ [58] else t) ++ dec x) (k + 1) (xs.drop (k + 1)) by rw [hgo.out, hd]; rfl)
      clear hgo hd hx
      have e0 : wr.cell? ⟨b, off + k, none⟩ = some (.int .i64 x) := hr.cell hc0
      obtain ⟨D, hD⟩ : ∃ D, dec x = D := ⟨_, rfl⟩
      by_cases hk0 : k = 0
      · subst hk0
        rw [Nat.add_zero] at e0
        rw [if_neg (by decide), hD] at HG
        rw [hD] at hdl
        have hz : ¬ ((S t).size + (S D).size > 9223372036854775807) := by rw [S_size, S_size]; omega
        go_wp2_with fail
        refine (FormatInt_any x _ (by omega)).mono ?_
        rintro e w5 ⟨rfl, h5⟩
        rw [hD]
        go_wp2
        rw [S_add]
        go_roundw
        case rel => exact ⟨0 + 1, t ++ D, by go_num, by omega, by rw [List.length_append]; omega, rfl, by (repeat' (first | (with_reducible exact Ext.refl _) | (with_reducible assumption) | (with_reducible refine Ext.alloc ?_ _) | (with_reducible refine Ext.drewN ?_ _) | (with_reducible refine Ext.drew ?_) | (with_reducible refine Ext.setCell ?_ ?_ _) | (with_reducible exact Nat.le_refl _) | (with_reducible exact Nat.le_succ _) | (with_reducible refine Ext.trans ?_ (by assumption)) | (simp; done) | (simp; omega))), HG⟩
        case measure => simp [intOf]; omega
      · have d0 : (0 : Int) < (k : Int) := by omega
        rw [if_pos (by omega), hD] at HG
        rw [hD] at hdl
        have hz1 : ¬ ((S t).size + (S [58]).size > 9223372036854775807) := by rw [S_size, S_size]; simp; omega
        have hz : ¬ ((S (t ++ [58])).size + (S D).size > 9223372036854775807) := by rw [S_size, S_size]; simp; omega
        have ha := S_add t [58]
        go_wp2_with fail
        refine (FormatInt_any x _ (by omega)).mono ?_
        rintro e w5 ⟨rfl, h5⟩
        rw [hD]
        go_wp2
        rw [S_add]
        go_roundw
        case rel => exact ⟨k + 1, t ++ [58] ++ D, by go_num, by omega, by simp; omega, rfl, by (repeat' (first | (with_reducible exact Ext.refl _) | (with_reducible assumption) | (with_reducible refine Ext.alloc ?_ _) | (with_reducible refine Ext.drewN ?_ _) | (with_reducible refine Ext.drew ?_) | (with_reducible refine Ext.setCell ?_ ?_ _) | (with_reducible exact Nat.le_refl _) | (with_reducible exact Nat.le_succ _) | (with_reducible refine Ext.trans ?_ (by assumption)) | (simp; done) | (simp; omega))), HG⟩
        case measure => simp [intOf]; omega
    · have hRt := Lib.hid (show R = t by rw [hgo.out, List.drop_eq_nil_of_le (by have := HN.out; omega)]; rfl)
      clear hgo
      go_wp2
      go_ret
      exact ⟨by rw [hRt.out]; rfl, hr⟩

/-! ### FormatTrain -/
def boatText (b : Bt) : List UInt8 := joinGo [] 0 [b.id, b.len, b.wid, b.dra, b.spd, b.cls]
def fmtRow (t : List UInt8) (i : Nat) : List Bt → List UInt8
  | [] => t
  | b :: bs => fmtRow ((if 0 < i then t ++ [43] else t) ++ boatText b) (i + 1) bs
def fmtRows (t : List UInt8) (k : Nat) : List (List Bt) → List UInt8
  | [] => t
  | r :: rs => fmtRows (fmtRow (if 0 < k then t ++ [47] else t) 0 r) (k + 1) rs
def fmtTrain (u : Bool) (rows : List (List Bt)) : List UInt8 := if trainOk rows = true then fmtRows (if u then [94] else [118]) 0 rows else []
theorem boatText_len {b : Bt} (h : bOk b = true) : (boatText b).length ≤ 60006 := by
  have hb := bOk_bounds h
  have := joinGo_len [b.id, b.len, b.wid, b.dra, b.spd, b.cls] [] 0 (fun x hx => by simp at hx; omega)
  simpa [boatText] using this
theorem six_new (w : World) (x0 x1 x2 x3 x4 x5 : Int) : IntsAt (w.alloc (.cells #[.int .i64 x0, .int .i64 x1, .int .i64 x2, .int .i64 x3, .int .i64 x4, .int .i64 x5] 3)) (some ⟨w.heap.size, 0, none⟩) [x0, x1, x2, x3, x4, x5] := by
  intro k hk
  refine ⟨w.heap.size, 0, rfl, ?_⟩
  rw [Nat.zero_add]
  have h := RowAt.new w 3 #[.int .i64 x0, .int .i64 x1, .int .i64 x2, .int .i64 x3, .int .i64 x4, .int .i64 x5]
  match k, hk with
  | 0, _ => exact h.cell rfl
  | 1, _ => exact h.cell rfl
  | 2, _ => exact h.cell rfl
  | 3, _ => exact h.cell rfl
  | 4, _ => exact h.cell rfl
  | 5, _ => exact h.cell rfl

set_option maxRecDepth 100000 in
set_option maxHeartbeats 4000000 in
theorem specFormatTrain_any (u : Bool) (a : Option Addr) (n c : Nat) (rows : List (List Bt)) (w : World) (hn : n = rows.length) (hs : n ≤ 1048576) (ht : rows.flatten.length ≤ 1048576) (hf : RowsAt w a rows) :
    Calls Tryd.prog 7 #[.agg #[.bool u, .slice a n c]] w fun e w' => e = .returned (.string (S (fmtTrain u rows))) ∧ Ext w w' := by
  have HF := Lib.hid hf; clear hf
  have HS := Lib.hid hs
  have HT := Lib.hid ht; clear ht
  cases hok : trainOk rows
  · have hR := Lib.hid (show fmtTrain u rows = [] by rw [fmtTrain, hok]; rfl)
    have OK := Lib.hid hok; clear hok
    have HN := Lib.hid hn; clear hn
    go_enter Tryd.func7, Tryd.ntmps7
    go_wp2_with fail
    (with_reducible refine (OK.out ▸ specTrainOk_any _ _ _ _ rows _ HN.out HS.out HT.out (HF.out.ext (by (repeat' (first | (with_reducible exact Ext.refl _) | (with_reducible assumption) | (with_reducible refine Ext.alloc ?_ _) | (with_reducible refine Ext.drewN ?_ _) | (with_reducible refine Ext.drew ?_) | (with_reducible refine Ext.setCell ?_ ?_ _) | (with_reducible exact Nat.le_refl _) | (with_reducible exact Nat.le_succ _) | (with_reducible refine Ext.trans ?_ (by assumption)) | (simp; done) | (simp; omega)))))).mono ?_); rintro e w1 ⟨rfl, hb1⟩
    have x0_1 := hb1
    obtain ⟨hc0_1, hf0_1⟩ := bcell x0_1.below
    have z0_1_0 : w.heap.size < w1.heap.size := by have h := x0_1.size; simp at h; omega
    go_wp2
    go_ret
    exact ⟨by rw [hR.out]; rfl, by (repeat' (first | (with_reducible exact Ext.refl _) | (with_reducible assumption) | (with_reducible refine Ext.alloc ?_ _) | (with_reducible refine Ext.drewN ?_ _) | (with_reducible refine Ext.drew ?_) | (with_reducible refine Ext.setCell ?_ ?_ _) | (with_reducible exact Nat.le_refl _) | (with_reducible exact Nat.le_succ _) | (with_reducible refine Ext.trans ?_ (by assumption)) | (simp; done) | (simp; omega)))⟩
  · obtain ⟨_, _, _, ht6, hn6, _⟩ := trainOk_true hok
    rw [← hn] at hn6
    have hR := Lib.hid (show fmtTrain u rows = fmtRows (if u then [94] else [118]) 0 (rows.drop 0) by rw [fmtTrain, hok, List.drop_zero]; rfl)
    obtain ⟨R, hR'⟩ : ∃ R, fmtTrain u rows = R := ⟨_, rfl⟩
    rw [hR'] at hR ⊢
    clear hR'
    have OK := Lib.hid hok; clear hok
    have HN := Lib.hid hn; clear hn
    have HT6 := Lib.hid ht6; clear ht6
    obtain ⟨s0, hs0, hs1⟩ : ∃ s0 : List UInt8, s0 = (if u then [94] else [118]) ∧ s0.length = 1 := ⟨_, rfl, by cases u <;> rfl⟩
    rw [← hs0] at hR
    go_enter Tryd.func7, Tryd.ntmps7
    go_wp2_with fail
    (with_reducible refine (OK.out ▸ specTrainOk_any _ _ _ _ rows _ HN.out HS.out HT.out (HF.out.ext (by (repeat' (first | (with_reducible exact Ext.refl _) | (with_reducible assumption) | (with_reducible refine Ext.alloc ?_ _) | (with_reducible refine Ext.drewN ?_ _) | (with_reducible refine Ext.drew ?_) | (with_reducible refine Ext.setCell ?_ ?_ _) | (with_reducible exact Nat.le_refl _) | (with_reducible exact Nat.le_succ _) | (with_reducible refine Ext.trans ?_ (by assumption)) | (simp; done) | (simp; omega)))))).mono ?_); rintro e w1 ⟨rfl, hb1⟩
    have x0_1 := hb1
    obtain ⟨hc0_1, hf0_1⟩ := bcell x0_1.below
    have z0_1_0 : w.heap.size < w1.heap.size := by have h := x0_1.size; simp at h; omega
    have HB := Lib.hid (Ext.trans ((Ext.refl w).alloc _) hb1)
    have RB := Lib.hid ((RowAt.new w 29 #[.bool u, .slice a n c]).ext hb1)
    have HF1 := Lib.hid (HF.out.ext HB.out)
    clear hb1 x0_1 hc0_1 hf0_1
    have b0 : w1.cell? ⟨w.heap.size, 0, none⟩ = some (.bool u) := RB.out.cell rfl
    have b1 : w1.cell? ⟨w.heap.size, 1, none⟩ = some (.slice a n c) := RB.out.cell rfl
    have hu : u = false ∨ u = true := by cases u <;> simp
    rcases hu with rfl | rfl
    all_goals
      go_wp2
      go_loopw [3, 4] (fun s i wr => ∃ (k : Nat) (t : List UInt8), i = .int .i64 k ∧ k ≤ n ∧ t.length ≤ 1 + 400000 * k ∧ s = .string (S t) ∧ Ext w1 wr ∧ Hid (R = fmtRows t k (rows.drop k))) (fun _ i _ => n - (intOf i).toNat)
      case atStart => exact ⟨0, s0, rfl, Nat.zero_le _, by omega, by rw [hs0]; rfl, Ext.refl _, hR⟩
      case round =>
        obtain ⟨w2, rfl⟩ : ∃ x, x = wr := ⟨_, rfl⟩
        obtain ⟨k, t, rfl, hk, ht, rfl, hr, hgo⟩ := hrel
        have c1 := (RB.out.ext hr).cell (j := 1) (v := .slice a n c) rfl
        by_cases hlt : k < n
        · have hlt' : k < rows.length := by rw [← HN.out]; exact hlt
          obtain ⟨b, off, a', c', rfl, hc0, hml, hfr⟩ := HF1.out k hlt'
          have hd := List.drop_eq_getElem_cons hlt'
          have hml2 := Nat.le_trans (row_le hlt') HT6.out
          have hmem : rows[k] ∈ rows := List.getElem_mem _
          obtain ⟨row, hrow'⟩ : ∃ row, rows[k] = row := ⟨_, rfl⟩
          rw [hrow'] at hc0 hfr hd hml2 hmem
          have HG := Lib.hid (show R = fmtRows (fmtRow (if 0 < k then t ++ [47] else t) 0 (row.drop 0)) (k + 1) (rows.drop (k + 1)) by rw [hgo.out, hd, List.drop_zero]; rfl)
          have HMEM := Lib.hid hmem; clear hmem
          clear hgo hd hrow' hml
          obtain ⟨p, hp⟩ : ∃ p, p = row.length := ⟨_, rfl⟩
          rw [← hp] at hml2 hc0
          have HC0 := Lib.hid hc0; clear hc0
          have HFR := Lib.hid hfr; clear hfr
          have HP := Lib.hid hp; clear hp
          have dcase : (¬ 0 < k ∧ (if 0 < k then t ++ [47] else t) = t) ∨ (0 < k ∧ (if 0 < k then t ++ [47] else t) = t ++ [47]) := by
            by_cases h : 0 < k
            · exact .inr ⟨h, if_pos h⟩
            · exact .inl ⟨h, if_neg h⟩
          have hz1 : ¬ ((S t).size + ({ data := #[47] } : ByteArray).size > 9223372036854775807) := by rw [S_size, lit_S, S_size]; simp; omega
          have ha : S t ++ ({ data := #[47] } : ByteArray) = S (t ++ [47]) := S_add t [47]
          rcases dcase with ⟨d0, e0⟩ | ⟨d0, e0⟩
          all_goals
            rw [e0] at HG
            go_wp2
            go_loopw [3, 5] (fun s i wr => ∃ (q : Nat) (t2 : List UInt8), i = .int .i64 q ∧ q ≤ p ∧ t2.length ≤ 2 + 400000 * k + 60007 * q ∧ s = .string (S t2) ∧ Ext w1 wr ∧ Hid (R = fmtRows (fmtRow t2 q (row.drop q)) (k + 1) (rows.drop (k + 1)))) (fun _ i _ => p - (intOf i).toNat)
            case atStart => exact ⟨0, _, rfl, Nat.zero_le _, by (first | omega | (simp; omega)), rfl, hr, HG⟩
            case round =>
              obtain ⟨q, t2, rfl, hq, ht2, rfl, hr2, hgo2⟩ := hrel
              have c2 := (RB.out.ext hr2).cell (j := 1) (v := .slice (some ⟨b, off, none⟩) n c) rfl
              have c3 := hr2.cell HC0.out
              by_cases hlt2 : q < p
              · have hlt2' : q < row.length := by rw [← HP.out]; exact hlt2
                obtain ⟨b2, off2, rfl, hcell⟩ := HFR.out.get q hlt2'
                have hd := List.drop_eq_getElem_cons hlt2'
                obtain ⟨bt, hbt⟩ : ∃ bt, row[q] = bt := ⟨_, rfl⟩
                have hbk := trainOk_boats OK.out HMEM.out (hbt ▸ List.getElem_mem hlt2')
                rw [hbt] at hcell hd
                clear hbt
                have hdl := boatText_len hbk
                have hbo := bOk_bounds hbk
                obtain ⟨bi, bl, bw, bd, bs, bc⟩ := bt
                dsimp only at hbo
                have g0 : wr.cell? ⟨b2, off2 + q * 6, none⟩ = some (.int .i64 bi) := hcell 0 _ rfl _ hr2
                have g1 : wr.cell? ⟨b2, off2 + q * 6 + 1, none⟩ = some (.int .i64 bl) := hcell 1 _ rfl _ hr2
                have g2 : wr.cell? ⟨b2, off2 + q * 6 + 2, none⟩ = some (.int .i64 bw) := hcell 2 _ rfl _ hr2
                have g3 : wr.cell? ⟨b2, off2 + q * 6 + 3, none⟩ = some (.int .i64 bd) := hcell 3 _ rfl _ hr2
                have g4 : wr.cell? ⟨b2, off2 + q * 6 + 4, none⟩ = some (.int .i64 bs) := hcell 4 _ rfl _ hr2
                have g5 : wr.cell? ⟨b2, off2 + q * 6 + 5, none⟩ = some (.int .i64 bc) := hcell 5 _ rfl _ hr2
                have HG2 := Lib.hid (show R = fmtRows (fmtRow ((if 0 < q then t2 ++ [43] else t2) ++ boatText ⟨bi, bl, bw, bd, bs, bc⟩) (q + 1) (row.drop (q + 1))) (k + 1) (rows.drop (k + 1)) by rw [hgo2.out, hd]; rfl)
                have hJ : joinGo [] 0 [bi, bl, bw, bd, bs, bc] = boatText ⟨bi, bl, bw, bd, bs, bc⟩ := rfl
                obtain ⟨D, hD⟩ : ∃ D, boatText ⟨bi, bl, bw, bd, bs, bc⟩ = D := ⟨_, rfl⟩
                rw [hD] at HG2 hdl hJ
                have HBX := Lib.hid (show ∀ x ∈ [bi, bl, bw, bd, bs, bc], 0 ≤ x ∧ x ≤ 9999 from fun x hx => by simp at hx; omega)
                have H6 := Lib.hid (by have h := six_new (wr.alloc (.cells #[.int .i64 bi, .int .i64 bl, .int .i64 bw, .int .i64 bd, .int .i64 bs, .int .i64 bc] 44)) bi bl bw bd bs bc; rw [World.size_alloc] at h; exact h)
                have EX6 := Lib.hid (((Ext.refl wr).alloc (.cells #[.int .i64 bi, .int .i64 bl, .int .i64 bw, .int .i64 bd, .int .i64 bs, .int .i64 bc] 44)).alloc (.cells #[.int .i64 bi, .int .i64 bl, .int .i64 bw, .int .i64 bd, .int .i64 bs, .int .i64 bc] 3))
                clear hcell hd hgo2 hbo hbk
                have dq : (¬ 0 < q ∧ (if 0 < q then t2 ++ [43] else t2) = t2) ∨ (0 < q ∧ (if 0 < q then t2 ++ [43] else t2) = t2 ++ [43]) := by
                  by_cases h : 0 < q
                  · exact .inr ⟨h, if_pos h⟩
                  · exact .inl ⟨h, if_neg h⟩
                have hz2 : ¬ ((S t2).size + ({ data := #[43] } : ByteArray).size > 9223372036854775807) := by rw [S_size, lit_S, S_size]; simp; omega
                have ha2 : S t2 ++ ({ data := #[43] } : ByteArray) = S (t2 ++ [43]) := S_add t2 [43]
                have hz3 : ¬ ((S t2).size + (S D).size > 9223372036854775807) := by rw [S_size, S_size]; omega
                have hz4 : ¬ ((S (t2 ++ [43])).size + (S D).size > 9223372036854775807) := by rw [S_size, S_size]; simp; omega
                rcases dq with ⟨dq, eq0⟩ | ⟨dq, eq0⟩
                all_goals
                  rw [eq0] at HG2
                  go_wp2_with fail
                  refine (l04Join_any _ 6 _ [bi, bl, bw, bd, bs, bc] _ rfl (by decide) HBX.out H6.out).mono ?_
                  rintro e w5 ⟨rfl, h5⟩
                  rw [hJ]
                  have h15 := hr2.trans (EX6.out.trans h5)
                  go_wp2
                  rw [S_add]
                  go_roundw
                  case rel => exact ⟨q + 1, _, by go_num, by omega, by (first | (rw [List.length_append]; omega) | (simp; omega)), rfl, h15, HG2⟩
                  case measure => simp [intOf]; omega
              · have hqp : q = p := by omega
                have HG2 := Lib.hid (show R = fmtRows t2 (k + 1) (rows.drop (k + 1)) by rw [hgo2.out, List.drop_eq_nil_of_le (by have := HP.out; omega)]; rfl)
                clear hgo2
                go_wp2
                go_roundw
                case rel => exact ⟨k + 1, t2, by go_num, by omega, by omega, rfl, hr2, HG2⟩
                case measure => simp [intOf]; omega
        · have hRt := Lib.hid (show R = t by rw [hgo.out, List.drop_eq_nil_of_le (by have := HN.out; omega)]; rfl)
          clear hgo
          go_wp2
          go_ret
          exact ⟨by rw [hRt.out]; rfl, HB.out.trans hr⟩
end Go.Proofs.YtjjikcjhnglkaaaDoor
