/- DraughtOf, SpeedOf, ClassOf: what they compute, on both sides. -/
import Derived.Test.YtjjikcjhnglkaaaProg
import Derived.Test.YtjjikcjhnglkaaaTrainLen
namespace Go.Proofs.Ytjjikcjhnglkaaa
open Go.RowKit
set_option linter.unusedSimpArgs false
set_option linter.unusedVariables false

/-- A valid train's first boat. -/
theorem trainOk_head {rows : List (List Bt)} (h : trainOk rows = true) : ∃ b r rs, rows = (b :: r) :: rs := by
  obtain ⟨h1, h2, _⟩ := trainOk_true h
  match rows, h1, h2 with
  | r :: rs, _, h2 =>
    match r, h2 r (by simp) with
    | b :: r, _ => exact ⟨b, r, rs, rfl⟩
theorem headCells {w : World} {a : Option Addr} {b0 : Bt} {r : List Bt} {rs : List (List Bt)} (h : RowsAt w a ((b0 :: r) :: rs)) :
    ∃ b off b2 off2 c', a = some ⟨b, off, none⟩ ∧ w.cell? ⟨b, off, none⟩ = some (.slice (some ⟨b2, off2, none⟩) (r.length + 1) c') ∧
      ∀ j v, (bCells b0)[j]? = some v → w.cell? ⟨b2, off2 + j, none⟩ = some v := by
  obtain ⟨b, off, a', c', rfl, hc, _, hf⟩ := h 0 (by simp)
  obtain ⟨b2, off2, rfl, hcell⟩ := hf 0 (by simp)
  exact ⟨b, off, b2, off2, c', rfl, by simpa using hc, fun j v hv => by simpa using hcell j v (by simpa using hv)⟩
theorem implBoats_is {flat : List Bt} {m : Nat} (u : Bool) (a : Option Addr) (n c : Nat) (rows : List (List Bt)) (w : World) (hn : n = rows.length) (hs : n ≤ maxLen) (ht : rows.flatten.length ≤ 1048576) (hf : RowsAt w a rows) (hfl : flat = rows.flatten) (hm : m = flat.length) :
    Calls Try.prog 25 #[.agg #[.bool u, .slice a n c]] w fun e w' => ∃ (a : Option Addr) (c : Nat), e = .returned (.slice a m c) ∧ (FlatAt w' bCells 6 a flat ∧ ∀ ad, a = some ad → w.heap.size ≤ ad.block) ∧ Ext w w' := by
  subst hfl hm
  exact implBoatsOf_any u a n c rows w hn hs ht hf
def draGo (n : Int) (bs : List Bt) : Int := bs.foldl (fun n b => if n < b.dra then b.dra else n) n
def draughtOf (rows : List (List Bt)) : Int := if trainOk rows then draGo 0 rows.flatten else 0

def spdGo (n : Int) (bs : List Bt) : Int := bs.foldl (fun n b => if b.spd < n then b.spd else n) n
def speedOf (rows : List (List Bt)) : Int := if trainOk rows then (match rows.flatten with | [] => 0 | b0 :: bs => spdGo b0.spd (b0 :: bs)) else 0

def clsGo (n : Int) (bs : List Bt) : Int := bs.foldl (fun n b => if b.cls < n then b.cls else n) n
def classOf (rows : List (List Bt)) : Int := if trainOk rows then (match rows.flatten with | [] => 0 | b0 :: bs => clsGo b0.cls (b0 :: bs)) else -1

set_option maxHeartbeats 4000000 in
theorem implClassOf_any (u : Bool) (a : Option Addr) (n c : Nat) (rows : List (List Bt)) (w : World) (hn : n = rows.length) (hs : n ≤ 1048576) (ht : rows.flatten.length ≤ 1048576) (hf : RowsAt w a rows) :
    Calls Try.prog 22 #[.agg #[.bool u, .slice a n c]] w fun e w' => e = .returned (.int .i64 (classOf rows)) ∧ Ext w w' := by
  have HF := Lib.hid hf; clear hf
  have HS := Lib.hid hs
  have HSM := Lib.hid (show n ≤ maxLen by unfold maxLen; omega)
  have HT := Lib.hid ht
  obtain ⟨flat, hfl⟩ : ∃ flat, flat = rows.flatten := ⟨_, rfl⟩
  have HFLAT := Lib.hid hfl
  obtain ⟨m, hm⟩ : ∃ m, m = flat.length := ⟨_, rfl⟩
  have hm2 : m ≤ 1048576 := by rw [hm, hfl]; exact ht
  have HM := Lib.hid hm
  clear hm hfl ht
  cases hok : trainOk rows
  · have hR := Lib.hid (show classOf rows = -1 by rw [classOf, hok]; rfl)
    have OK := Lib.hid hok; clear hok
    have HN := Lib.hid hn; clear hn
    go_enter Try.func22, Try.ntmps22
    go_wp2_with fail
    (with_reducible refine (OK.out ▸ implTrainOk_any _ _ _ _ rows _ HN.out HS.out HT.out (HF.out.ext (by (repeat' (first | (with_reducible exact Ext.refl _) | (with_reducible assumption) | (with_reducible refine Ext.alloc ?_ _) | (with_reducible refine Ext.drewN ?_ _) | (with_reducible refine Ext.drew ?_) | (with_reducible refine Ext.setCell ?_ ?_ _) | (with_reducible exact Nat.le_refl _) | (with_reducible exact Nat.le_succ _) | (with_reducible refine Ext.trans ?_ (by assumption)) | (simp; done) | (simp; omega)))))).mono ?_); rintro e w1 ⟨rfl, hb1⟩
    have x0_1 := hb1
    obtain ⟨hc0_1, hf0_1⟩ := bcell x0_1.below
    have z0_1_0 : w.heap.size < w1.heap.size := by have h := x0_1.size; simp at h; omega
    go_wp2
    go_ret
    exact ⟨ret_int hR.out.symm, by (repeat' (first | (with_reducible exact Ext.refl _) | (with_reducible assumption) | (with_reducible refine Ext.alloc ?_ _) | (with_reducible refine Ext.drewN ?_ _) | (with_reducible refine Ext.drew ?_) | (with_reducible refine Ext.setCell ?_ ?_ _) | (with_reducible exact Nat.le_refl _) | (with_reducible exact Nat.le_succ _) | (with_reducible refine Ext.trans ?_ (by assumption)) | (simp; done) | (simp; omega)))⟩
  · have hbo := fun b (hb : b ∈ flat) => bOk_bounds (boatsGo_ok _ _ (trainOk_true hok).2.2.2.2.2 b (HFLAT.out ▸ hb))
    have HBO := Lib.hid hbo; clear hbo
    obtain ⟨b0, r0, rs, hrows⟩ := trainOk_head hok
    have hR := Lib.hid (show classOf rows = clsGo b0.cls (flat.drop 0) by rw [classOf, hok, List.drop_zero, HFLAT.out, hrows]; rfl)
    have hflen : 0 < m := by rw [HM.out, HFLAT.out, hrows]; simp
    have hflat0 := Lib.hid (show ∀ h : 0 < flat.length, flat[0] = b0 by intro h; simp only [HFLAT.out, hrows]; rfl)
    have hnpos : 0 < n := by rw [hn, hrows]; simp
    obtain ⟨bx, offx, by', offy, cx, ea, hcx, hcy⟩ := headCells (hrows ▸ HF.out)
    have HCY := Lib.hid (hcy 5 _ rfl)
    have HCX := Lib.hid hcx
    have hrlen : 0 < r0.length + 1 := Nat.succ_pos _
    have HROWS := Lib.hid hrows
    clear hcy hcx hrows
    subst ea
    obtain ⟨R, hR'⟩ : ∃ R, classOf rows = R := ⟨_, rfl⟩
    rw [hR'] at hR ⊢
    clear hR'
    have OK := Lib.hid hok; clear hok
    have HN := Lib.hid hn; clear hn
    go_enter Try.func22, Try.ntmps22
    go_wp2_with fail
    (with_reducible refine (OK.out ▸ implTrainOk_any _ _ _ _ rows _ HN.out HS.out HT.out (HF.out.ext (by (repeat' (first | (with_reducible exact Ext.refl _) | (with_reducible assumption) | (with_reducible refine Ext.alloc ?_ _) | (with_reducible refine Ext.drewN ?_ _) | (with_reducible refine Ext.drew ?_) | (with_reducible refine Ext.setCell ?_ ?_ _) | (with_reducible exact Nat.le_refl _) | (with_reducible exact Nat.le_succ _) | (with_reducible refine Ext.trans ?_ (by assumption)) | (simp; done) | (simp; omega)))))).mono ?_); rintro e w1 ⟨rfl, hb1⟩
    have x0_1 := hb1
    obtain ⟨hc0_1, hf0_1⟩ := bcell x0_1.below
    have z0_1_0 : w.heap.size < w1.heap.size := by have h := x0_1.size; simp at h; omega
    have k0 : w1.cell? ⟨bx, offx, none⟩ = some (.slice (some ⟨by', offy, none⟩) (r0.length + 1) cx) := (Ext.trans ((Ext.refl w).alloc _) hb1).cell HCX.out
    have k1 : w1.cell? ⟨by', offy + 5, none⟩ = some (.int .i64 b0.cls) := (Ext.trans ((Ext.refl w).alloc _) hb1).cell HCY.out
    go_wp2_with fail
    refine (implBoats_is _ _ _ _ rows _ HN.out HSM.out HT.out (HF.out.ext (Ext.trans ((Ext.refl w).alloc _) hb1)) HFLAT.out HM.out).mono ?_
    rintro e w2 ⟨a9, c9, rfl, ⟨hflat, _⟩, hb2⟩
    have HB := Lib.hid ((Ext.trans ((Ext.refl w).alloc _) hb1).trans hb2)
    have HFL := Lib.hid hflat; clear hflat
    clear k0 k1
    go_wp2
    go_loopw [3, 19] (fun s i wr => ∃ (q : Nat) (z : Int), q ≤ m ∧ i = .int .i64 q ∧ s = .int .i64 z ∧ Ext w2 wr ∧ Ext w wr ∧ Hid (R = clsGo z (flat.drop q))) (fun _ i _ => m - (intOf i).toNat)
    case atStart => exact ⟨0, b0.cls, Nat.zero_le _, rfl, rfl, Ext.refl _, HB.out, hR⟩
    case round =>
      obtain ⟨q, z, hq, rfl, rfl, hr, hrw, hgo⟩ := hrel
      by_cases hlt : q < m
      · have hlt2 : q < flat.length := by rw [← HM.out]; exact hlt
        obtain ⟨b2, off2, e2, hcell⟩ := HFL.out.get q hlt2
        cases e2
        have hd := List.drop_eq_getElem_cons hlt2
        obtain ⟨bt, hbt⟩ : ∃ bt, flat[q] = bt := ⟨_, rfl⟩
        rw [hbt] at hcell hd
        clear hbt
        obtain ⟨bi, bl, bw, bd, bs, bc⟩ := bt
        have g0 : wr.cell? ⟨b2, off2 + q * 6, none⟩ = some (.int .i64 bi) := hcell 0 _ rfl _ hr
        have g1 : wr.cell? ⟨b2, off2 + q * 6 + 1, none⟩ = some (.int .i64 bl) := hcell 1 _ rfl _ hr
        have g2 : wr.cell? ⟨b2, off2 + q * 6 + 2, none⟩ = some (.int .i64 bw) := hcell 2 _ rfl _ hr
        have g3 : wr.cell? ⟨b2, off2 + q * 6 + 3, none⟩ = some (.int .i64 bd) := hcell 3 _ rfl _ hr
        have g4 : wr.cell? ⟨b2, off2 + q * 6 + 4, none⟩ = some (.int .i64 bs) := hcell 4 _ rfl _ hr
        have g5 : wr.cell? ⟨b2, off2 + q * 6 + 5, none⟩ = some (.int .i64 bc) := hcell 5 _ rfl _ hr
        have HG2 := Lib.hid (show R = clsGo (if bc < z then bc else z) (flat.drop (q + 1)) by rw [hgo.out, hd]; rfl)
        clear hcell hd hgo
        go_wp2
        go_roundw
        case rel => exact ⟨q + 1, if bc < z then bc else z, by omega, by go_num, rfl, by (repeat' (first | (with_reducible exact Ext.refl _) | (with_reducible assumption) | (with_reducible refine Ext.alloc ?_ _) | (with_reducible refine Ext.drewN ?_ _) | (with_reducible refine Ext.drew ?_) | (with_reducible refine Ext.setCell ?_ ?_ _) | (with_reducible exact Nat.le_refl _) | (with_reducible exact Nat.le_succ _) | (with_reducible refine Ext.trans ?_ (by assumption)) | (simp; done) | (simp; omega))), by (repeat' (first | (with_reducible exact Ext.refl _) | (with_reducible assumption) | (with_reducible refine Ext.alloc ?_ _) | (with_reducible refine Ext.drewN ?_ _) | (with_reducible refine Ext.drew ?_) | (with_reducible refine Ext.setCell ?_ ?_ _) | (with_reducible exact Nat.le_refl _) | (with_reducible exact Nat.le_succ _) | (with_reducible refine Ext.trans ?_ (by assumption)) | (simp; done) | (simp; omega))), HG2⟩
        case measure => simp [intOf]; omega
      · have hR2 := Lib.hid (show R = z by rw [hgo.out, List.drop_eq_nil_of_le (by have := HM.out; omega)]; rfl)
        go_wp2
        go_ret
        exact ⟨ret_int hR2.out.symm, by (repeat' (first | (with_reducible exact Ext.refl _) | (with_reducible assumption) | (with_reducible refine Ext.alloc ?_ _) | (with_reducible refine Ext.drewN ?_ _) | (with_reducible refine Ext.drew ?_) | (with_reducible refine Ext.setCell ?_ ?_ _) | (with_reducible exact Nat.le_refl _) | (with_reducible exact Nat.le_succ _) | (with_reducible refine Ext.trans ?_ (by assumption)) | (simp; done) | (simp; omega)))⟩

end Go.Proofs.Ytjjikcjhnglkaaa
