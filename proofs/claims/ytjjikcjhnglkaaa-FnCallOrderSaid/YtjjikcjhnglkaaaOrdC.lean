/- OrderCalls: the calls in memory; the closure that compares two of them. -/
import Derived.Test.YtjjikcjhnglkaaaProg
import Derived.Test.YtjjikcjhnglkaaaComes
namespace Go.Proofs.Ytjjikcjhnglkaaa
open Go.RowKit
set_option linter.unusedSimpArgs false
set_option linter.unusedVariables false

structure Cl where
  u : Bool
  rows : List (List Bt)
  si : Int
  bo : Int
def Cl.small (x : Cl) : Prop := x.rows.length ≤ 1048576 ∧ x.rows.flatten.length ≤ 1048576
def ltC (x y : Cl) : Bool := comesBefore x.rows y.rows x.si x.bo y.si y.bo 100
/-- Calls in a slice. -/
def CallsAt (w : World) (a : Option Addr) (cs : List Cl) : Prop := ∀ k (h : k < cs.length), ∃ b off a' c', a = some ⟨b, off, none⟩ ∧ w.cell? ⟨b, off + k * 4, none⟩ = some (.bool cs[k].u) ∧ w.cell? ⟨b, off + k * 4 + 1, none⟩ = some (.slice a' cs[k].rows.length c') ∧
  w.cell? ⟨b, off + k * 4 + 2, none⟩ = some (.int .i64 cs[k].si) ∧ w.cell? ⟨b, off + k * 4 + 3, none⟩ = some (.int .i64 cs[k].bo) ∧ RowsAt w a' cs[k].rows
theorem CallsAt.ext {w w' : World} {a : Option Addr} {cs : List Cl} (h : CallsAt w a cs) (hx : Ext w w') : CallsAt w' a cs := fun k hk =>
  let ⟨b, off, a', c', e, h0, h1, h2, h3, h4⟩ := h k hk; ⟨b, off, a', c', e, hx.cell h0, hx.cell h1, hx.cell h2, hx.cell h3, h4.ext hx⟩
def cfC (x y : Cl) : Int := if ltC x y = true then -1 else if ltC y x = true then 1 else 0

theorem implComes_is (R : Bool) (ua ub : Bool) (aa ab : Option Addr) (na ca nb cb : Nat) (sa ba sb bb now : Int) (ra rb : List (List Bt)) (w : World) (hna : na = ra.length) (hsa : na ≤ 1048576) (hta : ra.flatten.length ≤ 1048576) (hfa : RowsAt w aa ra) (hnb : nb = rb.length) (hsb : nb ≤ 1048576) (htb : rb.flatten.length ≤ 1048576) (hfb : RowsAt w ab rb) (hR : comesBefore ra rb sa ba sb bb now = R) :
    Calls Try.prog 8 #[.agg #[.bool ua, .slice aa na ca, .int .i64 sa, .int .i64 ba], .agg #[.bool ub, .slice ab nb cb, .int .i64 sb, .int .i64 bb], .int .i64 now] w fun e w' => e = .returned (.bool R) ∧ Ext w w' := by
  subst hR
  exact implComesBefore_any ua ub aa ab na ca nb cb sa ba sb bb now ra rb w hna hsa hta hfa hnb hsb htb hfb

set_option maxRecDepth 100000 in
set_option maxHeartbeats 4000000 in
theorem closure_any (cs : List Cl) (a : Option Addr) (n c bl bn : Nat) (w : World) (hn : n = cs.length) (hs : n ≤ 1000) (hsm : ∀ x ∈ cs, x.small) (hcs : CallsAt w a cs) (hl : RowAt w bl 24 #[.slice a n c]) (hw : RowAt w bn 3 #[.int .i64 100])
    (i k : Nat) (hi : i < n) (hk : k < n) (ci ck : Cl) (hci : cs[i]'(by omega) = ci) (hck : cs[k]'(by omega) = ck) :
    Calls Try.prog 15 #[.int .i64 i, .int .i64 k, .pointer (some ⟨bl, 0, none⟩), .pointer (some ⟨bn, 0, none⟩)] w fun e w' => e = .returned (.int .i64 (cfC ci ck)) ∧ Ext w w' := by
  obtain ⟨b, off, ai, cci, rfl, i0, i1, i2, i3, ir⟩ := hcs i (by omega)
  obtain ⟨b', off', ak, cck, e, k0, k1, k2, k3, kr⟩ := hcs k (by omega)
  cases e
  have hsi := hsm _ (List.getElem_mem (show i < cs.length by omega))
  have hsk := hsm _ (List.getElem_mem (show k < cs.length by omega))
  rw [hci] at i0 i1 i2 i3 ir hsi
  rw [hck] at k0 k1 k2 k3 kr hsk
  obtain ⟨ui, ri, si, bi⟩ := ci
  obtain ⟨uk, rk, sk, bk⟩ := ck
  dsimp only [Cl.small] at *
  obtain ⟨ni, hni⟩ : ∃ m, m = ri.length := ⟨_, rfl⟩
  obtain ⟨nk, hnk⟩ : ∃ m, m = rk.length := ⟨_, rfl⟩
  rw [← hni] at i1 hsi
  rw [← hnk] at k1 hsk
  have HNI := Lib.hid hni; have HNK := Lib.hid hnk; have HRI := Lib.hid ir; have HRK := Lib.hid kr; have HSI := Lib.hid hsi; have HSK := Lib.hid hsk
  have HI := Lib.hid (⟨i0, i1, i2, i3⟩ : _ ∧ _ ∧ _ ∧ _); have HK := Lib.hid (⟨k0, k1, k2, k3⟩ : _ ∧ _ ∧ _ ∧ _)
  have HL := Lib.hid hl; have HW := Lib.hid hw
  obtain ⟨b1, hb1⟩ : ∃ r, comesBefore ri rk si bi sk bk 100 = r := ⟨_, rfl⟩
  obtain ⟨b2, hb2⟩ : ∃ r, comesBefore rk ri sk bk si bi 100 = r := ⟨_, rfl⟩
  have hcf : cfC ⟨ui, ri, si, bi⟩ ⟨uk, rk, sk, bk⟩ = if b1 = true then -1 else if b2 = true then 1 else 0 := by unfold cfC ltC; dsimp only; rw [hb1, hb2]
  rw [hcf]
  have HB1 := Lib.hid hb1; have HB2 := Lib.hid hb2
  clear hcf hb1 hb2 hni hnk ir kr hsi hsk i0 i1 i2 i3 k0 k1 k2 k3 hl hw hci hck hsm hcs
  have hiz : (i : Int) < (n : Int) := by omega
  have hkz : (k : Int) < (n : Int) := by omega
  go_enter Try.func15, Try.ntmps15
  go_wp2_with fail
  have i0 : ∀ y : Aft w, y.1.cell? ⟨b, off + i * 4, none⟩ = some (.bool ui) := fun y => y.2.cell HI.out.1
  have i1 : ∀ y : Aft w, y.1.cell? ⟨b, off + i * 4 + 1, none⟩ = some (.slice ai ni cci) := fun y => y.2.cell HI.out.2.1
  have i2 : ∀ y : Aft w, y.1.cell? ⟨b, off + i * 4 + 2, none⟩ = some (.int .i64 si) := fun y => y.2.cell HI.out.2.2.1
  have i3 : ∀ y : Aft w, y.1.cell? ⟨b, off + i * 4 + 3, none⟩ = some (.int .i64 bi) := fun y => y.2.cell HI.out.2.2.2
  have k0 : ∀ y : Aft w, y.1.cell? ⟨b, off + k * 4, none⟩ = some (.bool uk) := fun y => y.2.cell HK.out.1
  have k1 : ∀ y : Aft w, y.1.cell? ⟨b, off + k * 4 + 1, none⟩ = some (.slice ak nk cck) := fun y => y.2.cell HK.out.2.1
  have k2 : ∀ y : Aft w, y.1.cell? ⟨b, off + k * 4 + 2, none⟩ = some (.int .i64 sk) := fun y => y.2.cell HK.out.2.2.1
  have k3 : ∀ y : Aft w, y.1.cell? ⟨b, off + k * 4 + 3, none⟩ = some (.int .i64 bk) := fun y => y.2.cell HK.out.2.2.2
  have l0 : ∀ y : Aft w, y.1.cell? ⟨bl, 0, none⟩ = some (.slice (some ⟨b, off, none⟩) n c) := fun y => (HL.out.ext y.2).cell rfl
  have n0 : ∀ y : Aft w, y.1.cell? ⟨bn, 0, none⟩ = some (.int .i64 100) := fun y => (HW.out.ext y.2).cell rfl
  (refine wp_region_aft w (Ext.refl _) (by kernel_rfl) (by kernel_rfl) ?_; (repeat (go_big_quiet_step ((go_at_call 8; with_reducible exact aft_call (implComes_is b1 ui uk ai ak ni cci nk cck si bi sk bk 100 ri rk _ HNI.out HSI.out.1 HSI.out.2 (HRI.out.ext (Subtype.property _)) HNK.out HSK.out.1 HSK.out.2 (HRK.out.ext (Subtype.property _)) HB1.out))))); refine wpQuiet_nil ?_; intro w2 hx2)
  obtain ⟨wb, hq⟩ : ∃ x, x = w2 := ⟨_, rfl⟩; subst hq
  clear i0 i1 i2 i3 k0 k1 k2 k3 l0 n0
  cases b1
  case true =>
    go_wp2
    go_ret
    exact ⟨rfl, hx2⟩
  case false =>
    go_wp2_with fail
    have i0 : ∀ y : Aft wb, y.1.cell? ⟨b, off + i * 4, none⟩ = some (.bool ui) := fun y => (hx2.trans y.2).cell HI.out.1
    have i1 : ∀ y : Aft wb, y.1.cell? ⟨b, off + i * 4 + 1, none⟩ = some (.slice ai ni cci) := fun y => (hx2.trans y.2).cell HI.out.2.1
    have i2 : ∀ y : Aft wb, y.1.cell? ⟨b, off + i * 4 + 2, none⟩ = some (.int .i64 si) := fun y => (hx2.trans y.2).cell HI.out.2.2.1
    have i3 : ∀ y : Aft wb, y.1.cell? ⟨b, off + i * 4 + 3, none⟩ = some (.int .i64 bi) := fun y => (hx2.trans y.2).cell HI.out.2.2.2
    have k0 : ∀ y : Aft wb, y.1.cell? ⟨b, off + k * 4, none⟩ = some (.bool uk) := fun y => (hx2.trans y.2).cell HK.out.1
    have k1 : ∀ y : Aft wb, y.1.cell? ⟨b, off + k * 4 + 1, none⟩ = some (.slice ak nk cck) := fun y => (hx2.trans y.2).cell HK.out.2.1
    have k2 : ∀ y : Aft wb, y.1.cell? ⟨b, off + k * 4 + 2, none⟩ = some (.int .i64 sk) := fun y => (hx2.trans y.2).cell HK.out.2.2.1
    have k3 : ∀ y : Aft wb, y.1.cell? ⟨b, off + k * 4 + 3, none⟩ = some (.int .i64 bk) := fun y => (hx2.trans y.2).cell HK.out.2.2.2
    have l0 : ∀ y : Aft wb, y.1.cell? ⟨bl, 0, none⟩ = some (.slice (some ⟨b, off, none⟩) n c) := fun y => (HL.out.ext (hx2.trans y.2)).cell rfl
    have n0 : ∀ y : Aft wb, y.1.cell? ⟨bn, 0, none⟩ = some (.int .i64 100) := fun y => (HW.out.ext (hx2.trans y.2)).cell rfl
    (refine wp_region_aft wb (Ext.refl _) (by kernel_rfl) (by kernel_rfl) ?_; (repeat (go_big_quiet_step ((go_at_call 8; with_reducible exact aft_call (implComes_is b2 uk ui ak ai nk cck ni cci sk bk si bi 100 rk ri _ HNK.out HSK.out.1 HSK.out.2 (HRK.out.ext (hx2.trans (Subtype.property _))) HNI.out HSI.out.1 HSI.out.2 (HRI.out.ext (hx2.trans (Subtype.property _))) HB2.out))))); refine wpQuiet_nil ?_; intro w2 hx2)
    cases b2
    case true =>
      go_wp2
      go_ret
      exact ⟨rfl, by (repeat' (first | (with_reducible exact Ext.refl _) | (with_reducible assumption) | (with_reducible refine Ext.alloc ?_ _) | (with_reducible refine Ext.drewN ?_ _) | (with_reducible refine Ext.drew ?_) | (with_reducible refine Ext.setCell ?_ ?_ _) | (with_reducible exact Nat.le_refl _) | (with_reducible exact Nat.le_succ _) | (with_reducible refine Ext.trans ?_ (by assumption)) | (simp; done) | (simp; omega)))⟩
    case false =>
      go_wp2
      go_ret
      exact ⟨rfl, by (repeat' (first | (with_reducible exact Ext.refl _) | (with_reducible assumption) | (with_reducible refine Ext.alloc ?_ _) | (with_reducible refine Ext.drewN ?_ _) | (with_reducible refine Ext.drew ?_) | (with_reducible refine Ext.setCell ?_ ?_ _) | (with_reducible exact Nat.le_refl _) | (with_reducible exact Nat.le_succ _) | (with_reducible refine Ext.trans ?_ (by assumption)) | (simp; done) | (simp; omega)))⟩
end Go.Proofs.Ytjjikcjhnglkaaa
