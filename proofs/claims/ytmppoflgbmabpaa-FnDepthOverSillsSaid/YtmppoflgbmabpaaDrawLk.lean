/- Draws of locks: l05Lock, DrawLock. -/
import Derived.Test.YtmppoflgbmabpaaProg
import Derived.Test.YtmppoflgbmabpaaDrawTrain
import Derived.Test.YtmppoflgbmabpaaM3
import Derived.Test.YtmppoflgbmabpaaM5
namespace Go.Proofs.Ytmppoflgbmabpaa
open Go.RowKit
set_option linter.unusedSimpArgs false
set_option linter.unusedVariables false

theorem ints3_new (w : World) (x0 x1 x2 : Int) : IntsAt (w.alloc (.cells #[.int .i64 x0, .int .i64 x1, .int .i64 x2] 3)) (some ⟨w.heap.size, 0, none⟩) [x0, x1, x2] := by
  intro k hk
  refine ⟨w.heap.size, 0, rfl, ?_⟩
  rw [Nat.zero_add]
  have h := RowAt.new w 3 #[.int .i64 x0, .int .i64 x1, .int .i64 x2]
  match k, hk with
  | 0, _ => exact h.cell rfl
  | 1, _ => exact h.cell rfl
  | 2, _ => exact h.cell rfl
theorem only_after {w wa wb : World} {B : Nat} (E : Ext w wa) (ho : wa.grownBy wb (some B)) : w.grownBy wb (some B) :=
  ⟨ho.os.trans E.below.os, ho.tape.trans E.below.tape, ho.output.trans E.below.output, Nat.le_trans E.size ho.size, fun k hk hne => (ho.block k (Nat.lt_of_lt_of_le hk E.size) hne).trans (E.below.block k hk)⟩
/-- The trains lie in another outer slice too, in a block of its own behind them all. -/
theorem GT.outer {w w' : World} {lo hi hi' : Nat} {v v' : Value} {es : List (Bool × Value)} {ts : List Tn} (h : GT w lo hi v es ts) (ho : w'.ownsRow lo 47 2 v' ts.length (es.flatMap eC)) (hb : ∀ g, v'.ownBlock = some g → hi ≤ g ∧ g < hi') (hh : hi ≤ hi')
    (hk : ∀ B t c, lo ≤ B → B < hi → RowAt w B t c → RowAt w' B t c) : GT w' lo hi' v' es ts := by
  obtain ⟨h1, _, h3, p, q, h4⟩ := h
  refine ⟨h1, ho, (fun g hg => (hb g hg).2), p, q, fun k hk' => ?_⟩
  obtain ⟨⟨a', c, q1, q2, q3⟩, q4, q5, q6, q7⟩ := h4 k hk'
  exact ⟨⟨a', c, q1, q2, q3.keep (Nat.le_refl _) (Nat.le_refl _) (fun B t c g1 g2 hr => hk B t c (by omega) (by omega) hr)⟩, q4, by omega, (fun g hg => by have := (hb g hg).1; omega), q7⟩
theorem GT.cells {w : World} {lo hi n c : Nat} {a : Option Addr} {es : List (Bool × Value)} {ts : List Tn} (h : GT w lo hi (.slice a n c) es ts) : (a = none → c = 0 ∧ n = 0) ∧ ∀ ad, a = some ad → ∀ (j : Nat) u, (es.flatMap eC)[j]? = some u → w.cell? (ad.add j) = some u := by
  rcases h.2.1.2 with ⟨e, hn⟩ | ⟨g, cap, cur, e, hb, hheap, hnc, hcm, hcs, htake⟩
  · injection e with e1 e2 e3
    subst e1 e2 e3
    exact ⟨fun _ => ⟨rfl, rfl⟩, fun ad e => by cases e⟩
  · injection e with e1 e2 e3
    subst e1
    refine ⟨(fun e => by cases e), fun ad e j u hu => ?_⟩
    cases e
    rw [add_plain rfl, Nat.zero_add]
    rw [← htake, List.getElem?_take] at hu
    split at hu
    · exact (show RowAt w g 47 cur from hheap).cell (by simpa using hu)
    · cases hu
theorem GT.ones {w : World} {lo hi : Nat} {v : Value} {es : List (Bool × Value)} {ts : List Tn} (h : GT w lo hi v es ts) : ∀ e ∈ es, e.2.oneCell' = true := fun e he => by
  obtain ⟨k, hk, rfl⟩ := List.getElem_of_mem he
  obtain ⟨h1, _, _, p, q, h4⟩ := h
  obtain ⟨⟨a', c, q1, _⟩, _⟩ := h4 k (by rw [← h1]; exact hk)
  rw [List.getElem?_eq_getElem hk] at q1
  rw [Option.some.inj q1]
  rfl
theorem one_train (w : World) (u : Bool) (v : Value) : ∀ ad, (some ⟨w.heap.size, 0, none⟩ : Option Addr) = some ad → ∀ (j : Nat) x, ([(u, v)].flatMap eC)[j]? = some x → (w.alloc (.cells #[.bool u, v] 47)).cell? (ad.add j) = some x := by
  intro ad e j x hx
  cases e
  rw [add_plain rfl, Nat.zero_add]
  match j, hx with
  | 0, hx => cases hx; exact (RowAt.new w 47 #[.bool u, v]).cell rfl
  | 1, hx => cases hx; exact (RowAt.new w 47 #[.bool u, v]).cell rfl
  | j + 2, hx => simp [eC] at hx
/-- A train that has been drawn with Ids from id on. -/
def Dn (id : Int) (t : Tn) : Prop := ∃ k, (1 ≤ k ∧ k ≤ 4) ∧ GoodAcc id k t.2
theorem Dn.small {id : Int} {t : Tn} (h : Dn id t) : SmallT t := by
  obtain ⟨k, hk, hg⟩ := h
  refine ⟨by have := hg.small.1; omega, fun r hr => by have := hg.small.2 r hr; omega, by rw [hg.1]; omega⟩
/-- A lock that has been drawn. -/
structure LkOk (x0 x1 x2 x3 x4 x5 x6 x7 x8 : Int) : Prop where
  h0 : 40 ≤ x0 ∧ x0 ≤ 200
  h1 : 8 ≤ x1 ∧ x1 ≤ 20
  h2 : 0 ≤ x2 ∧ x2 ≤ 59
  h3 : 0 ≤ x3 ∧ x3 ≤ 29
  h4 : 0 ≤ x4 ∧ x4 ≤ 59
  h5 : 1 ≤ x5 ∧ x5 ≤ 20
  h6 : x6 = 50 ∨ x6 = 500 ∨ x6 = 5000
  h7 : 0 ≤ x7 ∧ x7 ≤ 2999
  h8 : 0 ≤ x8 ∧ x8 ≤ 2
/-- Trains inside: they fit; those that were drawn. -/
def InsOk (x0 x1 : Int) (j : Nat) (ts : List Tn) : Prop := fits x0 x1 ts = true ∧ ts.length + j ≤ 2 ∧ ∀ t ∈ ts, Dn 1010 t ∨ Dn 1020 t
theorem InsOk.nil {x0 x1 : Int} {j : Nat} (h : 0 ≤ x0) (hj : j ≤ 2) : InsOk x0 x1 j [] := ⟨by simp [fits, distinct, allOk, tIds, difGo, fitB]; exact h, by simpa using hj, (fun t h => by cases h)⟩
theorem InsOk.small {x0 x1 : Int} {j : Nat} {ts : List Tn} (h : InsOk x0 x1 j ts) : ∀ t ∈ ts, SmallT t := fun t ht => by
  rcases h.2.2 t ht with h | h
  · exact h.small
  · exact h.small

set_option maxRecDepth 100000 in
set_option maxHeartbeats 1000000 in
theorem l05Lock_any (w0 w : World) (B : Nat) (bs : List Int) (hc : CurAt w0 w B bs) :
    Calls Try.prog 23 #[.pointer (some ⟨B, 0, none⟩)] w fun e w' => ∃ (x0 x1 x2 x3 x4 x5 x6 x7 x8 : Int) (a : Option Addr) (n c lo : Nat) (es : List (Bool × Value)) (ts : List Tn), LkOk x0 x1 x2 x3 x4 x5 x6 x7 x8 ∧ InsOk x0 x1 0 ts ∧ n = ts.length ∧ w.heap.size < lo ∧ lo ≤ w'.heap.size ∧
      e = .returned (.agg #[.int .i64 x0, .int .i64 x1, .int .i64 x2, .int .i64 x3, .int .i64 x4, .int .i64 x5, .int .i64 x6, .int .i64 x7, .int .i64 x8, .slice a n c]) ∧ GT w' lo w'.heap.size (.slice a n c) es ts ∧ CurAt w0 w' B bs ∧ w.grownBy w' (some B) := by
  have zB := hc.lt
  have hwB := hc.1
  have HC0 := Lib.hid hc; clear hc
  have HR0 := Lib.hid (RowAt.new w 26 #[.int .i64 0, .int .i64 0, .int .i64 0, .int .i64 0, .int .i64 0, .int .i64 0, .int .i64 0, .int .i64 0, .int .i64 0, .slice none 0 0])
  have E0 := (Ext.refl w).alloc (.cells #[.int .i64 0, .int .i64 0, .int .i64 0, .int .i64 0, .int .i64 0, .int .i64 0, .int .i64 0, .int .i64 0, .int .i64 0, .slice none 0 0] 26)
  have HO0 := Lib.hid (show w.grownBy (w.alloc (.cells #[.int .i64 0, .int .i64 0, .int .i64 0, .int .i64 0, .int .i64 0, .int .i64 0, .int .i64 0, .int .i64 0, .int .i64 0, .slice none 0 0] 26)) (some B) from only_ext (only_refl w B) E0)
  have HCA0 := Lib.hid (HC0.out.ext E0)
  have zw : w.heap.size < (w.alloc (.cells #[.int .i64 0, .int .i64 0, .int .i64 0, .int .i64 0, .int .i64 0, .int .i64 0, .int .i64 0, .int .i64 0, .int .i64 0, .slice none 0 0] 26)).heap.size := by simp
  go_enter Try.func23, Try.ntmps23
  go_wp2_with fail
  have HIN1 := Lib.hid (ints3_new (w.alloc (.cells #[.int .i64 0, .int .i64 0, .int .i64 0, .int .i64 0, .int .i64 0, .int .i64 0, .int .i64 0, .int .i64 0, .int .i64 0, .slice none 0 0] 26)) 40 100 200)
  (try simp only [World.size_alloc] at HIN1)
  have hlt1 := (HR0.out).lt
  (try simp only [World.size_alloc] at hlt1)
  refine (l01PickInt_any w0 _ B bs _ 3 _ [40, 100, 200] rfl (by decide) (by decide) HIN1.out (fun ad e => by cases e; have := HCA0.out.lt; (try simp only [World.size_alloc] at this); dsimp only; omega) (HCA0.out.ext ((Ext.refl _).alloc (.cells #[.int .i64 40, .int .i64 100, .int .i64 200] 3)))).mono ?_
  rintro e w1 ⟨y1, hy1, rfl, hc1, ho1⟩
  have HR1 := Lib.hid ((HR0.out.ext ((Ext.refl _).alloc (.cells #[.int .i64 40, .int .i64 100, .int .i64 200] 3))).only ho1 (by omega))
  have HO1 := Lib.hid (only_trans (only_ext HO0.out ((Ext.refl _).alloc (.cells #[.int .i64 40, .int .i64 100, .int .i64 200] 3))) ho1)
  have HCA1 := Lib.hid hc1
  clear hc1 ho1
  go_wp2_with fail
  have HIN2 := Lib.hid (ints3_new w1 8 12 20)
  (try simp only [World.size_alloc] at HIN2)
  have hlt2 := (HR1.out).lt
  (try simp only [World.size_alloc] at hlt2)
  refine (l01PickInt_any w0 _ B bs _ 3 _ [8, 12, 20] rfl (by decide) (by decide) HIN2.out (fun ad e => by cases e; have := HCA1.out.lt; (try simp only [World.size_alloc] at this); dsimp only; omega) (HCA1.out.ext ((Ext.refl _).alloc (.cells #[.int .i64 8, .int .i64 12, .int .i64 20] 3)))).mono ?_
  rintro e w2 ⟨y2, hy2, rfl, hc2, ho2⟩
  have HR2 := Lib.hid ((HR1.out.ext ((Ext.refl _).alloc (.cells #[.int .i64 8, .int .i64 12, .int .i64 20] 3))).only ho2 (by omega))
  have HO2 := Lib.hid (only_trans (only_ext HO1.out ((Ext.refl _).alloc (.cells #[.int .i64 8, .int .i64 12, .int .i64 20] 3))) ho2)
  have HCA2 := Lib.hid hc2
  clear hc2 ho2
  go_wp2_with fail
  refine (l01Below_any w0 _ B bs 60 (by decide) (by decide) HCA2.out).mono ?_
  rintro e w3 ⟨y3, hy3, rfl, hc3, ho3⟩
  have HR3 := Lib.hid (HR2.out.only ho3 (by omega))
  have HO3 := Lib.hid (only_trans HO2.out ho3)
  have HCA3 := Lib.hid hc3
  clear hc3 ho3
  go_wp2_with fail
  refine (l01Below_any w0 _ B bs 30 (by decide) (by decide) HCA3.out).mono ?_
  rintro e w4 ⟨y4, hy4, rfl, hc4, ho4⟩
  have HR4 := Lib.hid (HR3.out.only ho4 (by omega))
  have HO4 := Lib.hid (only_trans HO3.out ho4)
  have HCA4 := Lib.hid hc4
  clear hc4 ho4
  go_wp2_with fail
  refine (l01Below_any w0 _ B bs 60 (by decide) (by decide) HCA4.out).mono ?_
  rintro e w5 ⟨y5, hy5, rfl, hc5, ho5⟩
  have HR5 := Lib.hid (HR4.out.only ho5 (by omega))
  have HO5 := Lib.hid (only_trans HO4.out ho5)
  have HCA5 := Lib.hid hc5
  clear hc5 ho5
  go_wp2_with fail
  refine (l01Below_any w0 _ B bs 20 (by decide) (by decide) HCA5.out).mono ?_
  rintro e w6 ⟨y6, hy6, rfl, hc6, ho6⟩
  have HR6 := Lib.hid (HR5.out.only ho6 (by omega))
  have HO6 := Lib.hid (only_trans HO5.out ho6)
  have HCA6 := Lib.hid hc6
  clear hc6 ho6
  go_wp2_with fail
  have HIN7 := Lib.hid (ints3_new w6 50 500 5000)
  (try simp only [World.size_alloc] at HIN7)
  have hlt7 := (HR6.out).lt
  (try simp only [World.size_alloc] at hlt7)
  refine (l01PickInt_any w0 _ B bs _ 3 _ [50, 500, 5000] rfl (by decide) (by decide) HIN7.out (fun ad e => by cases e; have := HCA6.out.lt; (try simp only [World.size_alloc] at this); dsimp only; omega) (HCA6.out.ext ((Ext.refl _).alloc (.cells #[.int .i64 50, .int .i64 500, .int .i64 5000] 3)))).mono ?_
  rintro e w7 ⟨y7, hy7, rfl, hc7, ho7⟩
  have HR7 := Lib.hid ((HR6.out.ext ((Ext.refl _).alloc (.cells #[.int .i64 50, .int .i64 500, .int .i64 5000] 3))).only ho7 (by omega))
  have HO7 := Lib.hid (only_trans (only_ext HO6.out ((Ext.refl _).alloc (.cells #[.int .i64 50, .int .i64 500, .int .i64 5000] 3))) ho7)
  have HCA7 := Lib.hid hc7
  clear hc7 ho7
  go_wp2_with fail
  refine (l01Below_any w0 _ B bs 3000 (by decide) (by decide) HCA7.out).mono ?_
  rintro e w8 ⟨y8, hy8, rfl, hc8, ho8⟩
  have HR8 := Lib.hid (HR7.out.only ho8 (by omega))
  have HO8 := Lib.hid (only_trans HO7.out ho8)
  have HCA8 := Lib.hid hc8
  clear hc8 ho8
  go_wp2_with fail
  have HIN9 := Lib.hid (ints3_new w8 0 300 y8)
  (try simp only [World.size_alloc] at HIN9)
  have hlt9 := (HR8.out).lt
  (try simp only [World.size_alloc] at hlt9)
  refine (l01PickInt_any w0 _ B bs _ 3 _ [0, 300, y8] rfl (by decide) (by decide) HIN9.out (fun ad e => by cases e; have := HCA8.out.lt; (try simp only [World.size_alloc] at this); dsimp only; omega) (HCA8.out.ext ((Ext.refl _).alloc (.cells #[.int .i64 0, .int .i64 300, .int .i64 y8] 3)))).mono ?_
  rintro e w9 ⟨y109, hy9, rfl, hc9, ho9⟩
  have HR9 := Lib.hid ((HR8.out.ext ((Ext.refl _).alloc (.cells #[.int .i64 0, .int .i64 300, .int .i64 y8] 3))).only ho9 (by omega))
  have HO9 := Lib.hid (only_trans (only_ext HO8.out ((Ext.refl _).alloc (.cells #[.int .i64 0, .int .i64 300, .int .i64 y8] 3))) ho9)
  have HCA9 := Lib.hid hc9
  clear hc9 ho9
  go_wp2_with fail
  refine (l01Below_any w0 _ B bs 3 (by decide) (by decide) HCA9.out).mono ?_
  rintro e w10 ⟨y10, hy10, rfl, hc10, ho10⟩
  have HR10 := Lib.hid (HR9.out.only ho10 (by omega))
  have HO10 := Lib.hid (only_trans HO9.out ho10)
  have HCA10 := Lib.hid hc10
  clear hc10 ho10
  go_wp2_with fail
  have zL := HCA10.out.lt
  have zz := HR10.out.lt
  have RL := RowAt.new w10 26 #[.int .i64 y1, .int .i64 y2, .int .i64 y3, .int .i64 y4, .int .i64 y5, .int .i64 (1 + y6), .int .i64 y7, .int .i64 y109, .int .i64 y10, .slice none 0 0]
  have EL := (Ext.refl w10).alloc (.cells #[.int .i64 y1, .int .i64 y2, .int .i64 y3, .int .i64 y4, .int .i64 y5, .int .i64 (1 + y6), .int .i64 y7, .int .i64 y109, .int .i64 y10, .slice none 0 0] 26)
  have HRZ := Lib.hid (HR10.out.ext EL)
  have HCAL := Lib.hid (HCA10.out.ext EL)
  have HOL := Lib.hid (only_ext HO10.out EL)
  have hsz := EL.size
  simp only [World.size_alloc] at hsz
  refine (l01Below_any w0 _ B bs 3 (by decide) (by decide) HCAL.out).mono ?_
  rintro e w11 ⟨m, hm, rfl, hc11, ho11⟩
  have RL11 := RL.only ho11 (by omega)
  have HZ11 := Lib.hid (HRZ.out.only ho11 (by omega))
  have HC11 := Lib.hid hc11
  have HO11 := Lib.hid (only_trans HOL.out ho11)
  have hs11 := ho11.size
  simp only [World.size_alloc] at hs11
  obtain ⟨Lb, hLb⟩ : ∃ x, x = w10.heap.size := ⟨_, rfl⟩
  rw [← hLb] at RL11 hs11 zL zz
  (try rw [← hLb])
  obtain ⟨m, rfl⟩ := Int.eq_ofNat_of_zero_le hm.1
  have hm2 : m ≤ 2 := by have := hm.2; omega
  have HLK := Lib.hid (show LkOk y1 y2 y3 y4 y5 (1 + y6) y7 y109 y10 from ⟨by simp at hy1; omega, by simp at hy2; omega, by omega, by omega, by omega, by omega, by simp at hy7; omega, by simp at hy9; omega, by omega⟩)
  have hi0 : I64 y1 := by have := HLK.out.h0; unfold I64; omega
  have hi1 : I64 y2 := by have := HLK.out.h1; unfold I64; omega
  have hy10' := HLK.out.h0.1
  clear hm hc11 ho11 RL EL hLb hy1 hy2 hy3 hy4 hy5 hy6 hy7 hy8 hy9 hy10 HR0 HR1 HR2 HR3 HR4 HR5 HR6 HR7 HR8 HR9 HR10 HO0 HO1 HO2 HO3 HO4 HO5 HO6 HO7 HO8 HO9 HO10 HCA0 HCA1 HCA2 HCA3 HCA4 HCA5 HCA6 HCA7 HCA8 HCA9 HCA10 HIN1 HIN2 HIN7 HIN9 hlt1 hlt2 hlt7 hlt9 HRZ HCAL HOL E0 zw
  go_wp2
  go_loopw [4] (fun kk wr => ∃ (j : Nat) (v : Value) (es : List (Bool × Value)) (ts : List Tn), kk = .int .i64 j ∧ j ≤ 2 ∧ Lb < wr.heap.size ∧ Hid (RowAt wr Lb 26 #[.int .i64 y1, .int .i64 y2, .int .i64 y3, .int .i64 y4, .int .i64 y5, .int .i64 (1 + y6), .int .i64 y7, .int .i64 y109, .int .i64 y10, v]) ∧ Hid (RowAt wr w.heap.size 26 #[.int .i64 0, .int .i64 0, .int .i64 0, .int .i64 0, .int .i64 0, .int .i64 0, .int .i64 0, .int .i64 0, .int .i64 0, .slice none 0 0]) ∧ Hid (CurAt w0 wr B bs) ∧ Hid (w.grownBy wr (some B)) ∧ Hid (GT wr (Lb + 1) wr.heap.size v es ts) ∧ Hid (InsOk y1 y2 j ts)) (fun kk _ => (intOf kk).toNat)
  case atStart => exact ⟨m, .slice none 0 0, [], [], rfl, hm2, RL11.lt, RL11, HZ11.out, HC11.out, HO11.out, GT.nil _ _ _, InsOk.nil (by omega) hm2⟩
  case round =>
    clear RL11 HZ11 HC11 HO11
    obtain ⟨j, v, es, ts, rfl, hj, hlb, hbox, hz, hcu, hgw, hgt, hins⟩ := hrel
    by_cases hlt : 0 < j
    · obtain ⟨jj, rfl⟩ : ∃ jj, j = jj + 1 := ⟨j - 1, by omega⟩
      obtain ⟨a, c, hv, hml, how⟩ := hgt.out.own
      obtain ⟨n, hn⟩ : ∃ n, n = ts.length := ⟨_, rfl⟩
      rw [← hn] at hv hml
      subst hv
      have hnj : n + (jj + 1) ≤ 2 := by rw [hn]; exact hins.out.2.1
      have HN := Lib.hid hn
      clear hn hml how
      have HE := Lib.hid (show es.length = n by rw [HN.out]; exact hgt.out.1)
      have HCL := Lib.hid hgt.out.cells
      have HONE := Lib.hid hgt.out.ones
      have HLT := Lib.hid (GT.lit wr (Nat.lt_succ_self wr.heap.size)).2.1
      have b9 : wr.cell? ⟨Lb, 9, none⟩ = some (.slice a n c) := hbox.out.cell rfl
      have hcb := hcu.out.lt
      have HX0 := Lib.hid ((Ext.refl wr).alloc (.cells #[] 47))
      go_wp2_with (at_builtin; refine wpList_plain rfl fun K hK => wp_append_trains _ _ rfl wr.heap.size _ 0 [] rfl HLT.out a n c rfl es HE.out HCL.out.1 (fun ad e j u hu => HX0.out.cell (HCL.out.2 ad e j u hu)) HONE.out (by omega) (by simp) ?_)
      intro v1 w1 hown1 hg1' hat1
      have hg1 : (wr.alloc (.cells #[] 47)).grownBy w1 (some wr.heap.size) := hg1'
      clear hg1'
      have hs1 := hg1.size
      simp only [World.size_alloc] at hs1 hat1
      have HV1 := Lib.hid (show ∀ g, v1.ownBlock = some g → wr.heap.size ≤ g from fun g hg => (ownsRow_lt hown1 hg).1)
      have YG1 := Lib.hid (GT.outer (hi' := w1.heap.size) hgt.out (by rw [← HN.out]; exact ownsRow_low hown1 (by omega)) (fun g hg => ⟨HV1.out g hg, (ownsRow_lt hown1 hg).2⟩) (by omega) (fun B' t c h1 h2 hr => (hr.ext HX0.out).kept hg1 (fun e => by cases e; omega)))
      have YO1 := Lib.hid ((hgt.out.ext HX0.out).grown hg1 (fun B' e => by cases e; right; exact Nat.le_refl _))
      have YB1 := Lib.hid ((hbox.out.ext HX0.out).kept hg1 (fun e => by have := Option.some.inj e; omega))
      have YZ1 := Lib.hid ((hz.out.ext HX0.out).kept hg1 (fun e => by have := Option.some.inj e; omega))
      have YC1 := Lib.hid (CurAt.own (v := .slice (some ⟨wr.heap.size, 0, none⟩) 0 0) (hcu.out.ext HX0.out) hg1 (fun g hg => by cases hg; omega))
      have YW1 := Lib.hid (grown_step hgw.out HX0.out hg1 (fun g hg => by cases hg; right; omega))
      obtain ⟨a1, c1, hv1, _, _⟩ := YG1.out.own
      rw [← HN.out] at hv1
      subst hv1
      clear hown1 hg1 hat1 HLT HCL b9
      refine hK _ _ ?_
      clear hK K
      go_wp2_with fail
      refine (l04Train_any w0 _ B bs (1000 + 10 * ((jj : Int) + 1)) (by omega) (by omega) YC1.out).mono ?_
      rintro e w2 ⟨u, a2, n2, c2, k, vs, rows, hk, hgood, hn2, rfl, hgr, hc2, ho2⟩
      have HDN := Lib.hid (show Dn (1000 + 10 * ((jj : Int) + 1)) (u, rows) from ⟨k, hk, hgood⟩)
      have HN2 := Lib.hid hn2
      have hs2 := ho2.size
      obtain ⟨a5, c5, e5, hm5, ho5⟩ := hgr.own
      rw [← hn2] at e5
      injection e5 with q1 q2 q3
      subst q1 q3
      have HOR := Lib.hid (show OwnRows w2 w1.heap.size w2.heap.size a2 rows from ho5)
      have HM2 := Lib.hid hm5.1
      have HX2 := Lib.hid ((Ext.refl w2).alloc (.cells #[.bool u, .slice a2 n2 c2] 47))
      have YG2 := Lib.hid ((YG1.out.grown ho2 (fun B' e => by cases e; left; omega)).ext HX2.out)
      have YO2 := Lib.hid ((YO1.out.grown ho2 (fun B' e => by cases e; left; omega)).ext HX2.out)
      have YB2 := Lib.hid ((YB1.out.only ho2 (by omega)).ext HX2.out)
      have YZ2 := Lib.hid ((YZ1.out.only ho2 (by omega)).ext HX2.out)
      have YC2 := Lib.hid (hc2.ext HX2.out)
      have YW2 := Lib.hid (only_ext (only_trans YW1.out ho2) HX2.out)
      have HOW := Lib.hid YG2.out.2.1
      rw [← HN.out] at HOW
      have HOT := Lib.hid (one_train w2 u (.slice a2 n2 c2))
      clear hgr hc2 ho2 hgood hk hn2 hm5 ho5 q2 YG1 YO1 YB1 YZ1 YC1 YW1
      go_wp2_with (at_builtin; refine wpList_plain rfl fun K hK => wp_append_trains _ _ rfl (Lb + 1) _ n es rfl HOW.out _ 1 1 rfl [(u, .slice a2 n2 c2)] rfl (fun h => by cases h) HOT.out (fun e he => by cases List.mem_singleton.1 he; rfl) (by omega) (by simp; omega) ?_)
      intro v3 w3 hown3 hg3 hat3
      have hs3 := hg3.size
      simp only [World.size_alloc] at hs3
      have YG3 := Lib.hid (GT.push (P := w1.heap.size) (Q := w2.heap.size) (u := u) (rows := rows) (a' := a2) (c := c2) YG2.out (Nat.le_refl _) (by omega) (by simp) (HOR.out.ext HX2.out) HM2.out (by rw [← HN2.out, ← HN.out, List.flatMap_append]; simpa using hown3) hg3 (by simpa using hat3) (by simp; omega))
      have YO3 := Lib.hid (YO2.out.grown hg3 (fun B' e => by right; exact HV1.out B' e))
      have YB3 := Lib.hid (YB2.out.kept hg3 (fun e => by have := HV1.out _ e; omega))
      have YZ3 := Lib.hid (YZ2.out.kept hg3 (fun e => by have := HV1.out _ e; omega))
      have YC3 := Lib.hid (CurAt.own YC2.out hg3 (fun g hg => by have := HV1.out _ hg; omega))
      have YW3 := Lib.hid (grown_step YW2.out (Ext.refl _) hg3 (fun g hg => by have := HV1.out _ hg; right; omega))
      obtain ⟨a3, c3, hv3, hml3, _⟩ := YG3.out.own
      have hl3 : (ts ++ [(u, rows)]).length = n + 1 := by rw [List.length_append, HN.out]; rfl
      rw [hl3] at hv3
      subst hv3
      clear hown3 hg3 hat3 hml3 HOT HOW HX2 HOR YG2 YO2 YB2 YZ2 YC2 YW2
      refine hK _ _ ?_
      clear hK K
      have d0 : w3.cell? ⟨Lb, 0, none⟩ = some (.int .i64 y1) := YB3.out.cell rfl
      have d1 : w3.cell? ⟨Lb, 1, none⟩ = some (.int .i64 y2) := YB3.out.cell rfl
      have d2 : w3.cell? ⟨Lb, 2, none⟩ = some (.int .i64 y3) := YB3.out.cell rfl
      have d3 : w3.cell? ⟨Lb, 3, none⟩ = some (.int .i64 y4) := YB3.out.cell rfl
      have d4 : w3.cell? ⟨Lb, 4, none⟩ = some (.int .i64 y5) := YB3.out.cell rfl
      have d5 : w3.cell? ⟨Lb, 5, none⟩ = some (.int .i64 (1 + y6)) := YB3.out.cell rfl
      have d6 : w3.cell? ⟨Lb, 6, none⟩ = some (.int .i64 y7) := YB3.out.cell rfl
      have d7 : w3.cell? ⟨Lb, 7, none⟩ = some (.int .i64 y109) := YB3.out.cell rfl
      have d8 : w3.cell? ⟨Lb, 8, none⟩ = some (.int .i64 y10) := YB3.out.cell rfl
      have d9 : w3.cell? ⟨Lb, 9, none⟩ = some (.slice a n c) := YB3.out.cell rfl
      obtain ⟨R, hR⟩ : ∃ R, fits y1 y2 (ts ++ [(u, rows)]) = R := ⟨_, rfl⟩
      have HTA := Lib.hid (show TrainsAt w3 a3 (ts ++ [(u, rows)]) from by
        obtain ⟨a', c', e', h'⟩ := YG3.out.trains
        injection e' with e1 _ _
        rw [e1]
        exact h')
      have HSM := Lib.hid (show ∀ t ∈ ts ++ [(u, rows)], SmallT t from fun t ht => by
        rcases List.mem_append.1 ht with h | h
        · exact hins.out.small t h
        · rw [List.mem_singleton.1 h]; exact HDN.out.small)
      have HL3 := Lib.hid hl3
      clear hl3
      have HRR := Lib.hid hR
      clear hR
      go_wp2_with fail
      refine (specFits_any R _ _ _ _ _ _ _ _ _ _ _ _ _ _ _ (ts ++ [(u, rows)]) _ HL3.out.symm (by omega) HSM.out HTA.out HRR.out hi0 hi1).mono ?_
      rintro e w4 ⟨rfl, hb4⟩
      have hs4 := hb4.size
      have ZG := Lib.hid ((YG3.out.ext hb4).wide (Nat.le_refl _) hs4)
      have ZO := Lib.hid ((YO3.out.ext hb4).wide (hi' := w4.heap.size) (Nat.le_refl _) (by omega))
      have ZB := Lib.hid (YB3.out.ext hb4)
      have ZZ' := Lib.hid (YZ3.out.ext hb4)
      have ZC := Lib.hid (YC3.out.ext hb4)
      have ZW := Lib.hid (only_ext YW3.out hb4)
      have zlb := ZB.out.lt
      clear d0 d1 d2 d3 d4 d5 d6 d7 d8 d9 YG3 YO3 YB3 YZ3 YC3 YW3 hb4 HTA
      cases R
      · go_wp2
        go_roundw
        case rel => exact ⟨jj, _, es, ts, by go_num, by omega, zlb, ZB.out, ZZ'.out, ZC.out, ZW.out, ZO.out, hins.out.1, by have := hins.out.2.1; omega, hins.out.2.2⟩
        case measure => simp [intOf]
      · have d9 : w4.cell? ⟨Lb, 9, none⟩ = some (.slice a n c) := ZB.out.cell rfl
        have f9 := ZB.out.frozen 9
        go_wp2
        go_roundw
        case rel =>
          refine ⟨jj, .slice a3 (n + 1) c3, _, ts ++ [(u, rows)], by go_num, by omega, by rw [size_setCell']; exact zlb, ZB.out.set 9 _, ZZ'.out.other (by dsimp only; omega) _, ZC.out.only (grownBy_set _ _ _) (by dsimp only; omega) (by dsimp only; omega), grown_step ZW.out (Ext.refl _) (grownBy_set _ _ _) (fun g hg => by cases hg; right; dsimp only; omega), (ZG.out.set (p := ⟨Lb, 9, none⟩) (.inl (by dsimp only; omega)) _).wide (Nat.le_refl _) (by rw [size_setCell']; exact Nat.le_refl _), HRR.out, by rw [HL3.out]; omega, fun t ht => ?_⟩
          rcases List.mem_append.1 ht with h | h
          · exact hins.out.2.2 t h
          · rw [List.mem_singleton.1 h]
            have hd := HDN.out
            rcases (by omega : jj = 0 ∨ jj = 1) with rfl | rfl
            · exact .inl hd
            · exact .inr hd
        case measure => simp [intOf]
    · have hj0 : j = 0 := by omega
      subst hj0
      obtain ⟨a, c, hv, hml, how⟩ := hgt.out.own
      obtain ⟨n, hn⟩ : ∃ n, n = ts.length := ⟨_, rfl⟩
      rw [← hn] at hv
      subst hv
      have HN := Lib.hid hn
      clear hn hml how
      have zlb := hbox.out.lt
      have zw2 := hz.out.lt
      have d0 : wr.cell? ⟨Lb, 0, none⟩ = some (.int .i64 y1) := hbox.out.cell rfl
      have d1 : wr.cell? ⟨Lb, 1, none⟩ = some (.int .i64 y2) := hbox.out.cell rfl
      have d2 : wr.cell? ⟨Lb, 2, none⟩ = some (.int .i64 y3) := hbox.out.cell rfl
      have d3 : wr.cell? ⟨Lb, 3, none⟩ = some (.int .i64 y4) := hbox.out.cell rfl
      have d4 : wr.cell? ⟨Lb, 4, none⟩ = some (.int .i64 y5) := hbox.out.cell rfl
      have d5 : wr.cell? ⟨Lb, 5, none⟩ = some (.int .i64 (1 + y6)) := hbox.out.cell rfl
      have d6 : wr.cell? ⟨Lb, 6, none⟩ = some (.int .i64 y7) := hbox.out.cell rfl
      have d7 : wr.cell? ⟨Lb, 7, none⟩ = some (.int .i64 y109) := hbox.out.cell rfl
      have d8 : wr.cell? ⟨Lb, 8, none⟩ = some (.int .i64 y10) := hbox.out.cell rfl
      have d9 : wr.cell? ⟨Lb, 9, none⟩ = some (.slice a n c) := hbox.out.cell rfl
      have q0 : wr.cell? ⟨w.heap.size, 0, none⟩ = some (.int .i64 0) := hz.out.cell rfl
      have f0 := hz.out.frozen 0
      have q1 : wr.cell? ⟨w.heap.size, 1, none⟩ = some (.int .i64 0) := hz.out.cell rfl
      have f1 := hz.out.frozen 1
      have q2 : wr.cell? ⟨w.heap.size, 2, none⟩ = some (.int .i64 0) := hz.out.cell rfl
      have f2 := hz.out.frozen 2
      have q3 : wr.cell? ⟨w.heap.size, 3, none⟩ = some (.int .i64 0) := hz.out.cell rfl
      have f3 := hz.out.frozen 3
      have q4 : wr.cell? ⟨w.heap.size, 4, none⟩ = some (.int .i64 0) := hz.out.cell rfl
      have f4 := hz.out.frozen 4
      have q5 : wr.cell? ⟨w.heap.size, 5, none⟩ = some (.int .i64 0) := hz.out.cell rfl
      have f5 := hz.out.frozen 5
      have q6 : wr.cell? ⟨w.heap.size, 6, none⟩ = some (.int .i64 0) := hz.out.cell rfl
      have f6 := hz.out.frozen 6
      have q7 : wr.cell? ⟨w.heap.size, 7, none⟩ = some (.int .i64 0) := hz.out.cell rfl
      have f7 := hz.out.frozen 7
      have q8 : wr.cell? ⟨w.heap.size, 8, none⟩ = some (.int .i64 0) := hz.out.cell rfl
      have f8 := hz.out.frozen 8
      have q9 : wr.cell? ⟨w.heap.size, 9, none⟩ = some (.slice none 0 0) := hz.out.cell rfl
      have f9 := hz.out.frozen 9
      go_wp2
      refine bodyPost_ret (v := .agg #[.int .i64 y1, .int .i64 y2, .int .i64 y3, .int .i64 y4, .int .i64 y5, .int .i64 (1 + y6), .int .i64 y7, .int .i64 y109, .int .i64 y10, .slice a n c]) (by simp [results, Try.results23, go_sem, *]) rfl ⟨y1, y2, y3, y4, y5, 1 + y6, y7, y109, y10, a, n, c, Lb + 1, es, ts, HLK.out, hins.out, HN.out, by omega, by simp only [size_setCell']; omega, rfl, ?_, ?_, ?_⟩
      · exact ((((((((((hgt.out.set (p := ⟨w.heap.size, 0, none⟩) (.inl (by dsimp only; omega)) _).set (p := ⟨w.heap.size, 1, none⟩) (.inl (by dsimp only; omega)) _).set (p := ⟨w.heap.size, 2, none⟩) (.inl (by dsimp only; omega)) _).set (p := ⟨w.heap.size, 3, none⟩) (.inl (by dsimp only; omega)) _).set (p := ⟨w.heap.size, 4, none⟩) (.inl (by dsimp only; omega)) _).set (p := ⟨w.heap.size, 5, none⟩) (.inl (by dsimp only; omega)) _).set (p := ⟨w.heap.size, 6, none⟩) (.inl (by dsimp only; omega)) _).set (p := ⟨w.heap.size, 7, none⟩) (.inl (by dsimp only; omega)) _).set (p := ⟨w.heap.size, 8, none⟩) (.inl (by dsimp only; omega)) _).set (p := ⟨w.heap.size, 9, none⟩) (.inl (by dsimp only; omega)) _).wide (Nat.le_refl _) (by simp only [size_setCell']; exact Nat.le_refl _)
      · exact ((((((((((hcu.out.only (grownBy_set _ ⟨w.heap.size, 0, none⟩ _) (by dsimp only; omega) (by dsimp only; omega)).only (grownBy_set _ ⟨w.heap.size, 1, none⟩ _) (by dsimp only; omega) (by dsimp only; omega)).only (grownBy_set _ ⟨w.heap.size, 2, none⟩ _) (by dsimp only; omega) (by dsimp only; omega)).only (grownBy_set _ ⟨w.heap.size, 3, none⟩ _) (by dsimp only; omega) (by dsimp only; omega)).only (grownBy_set _ ⟨w.heap.size, 4, none⟩ _) (by dsimp only; omega) (by dsimp only; omega)).only (grownBy_set _ ⟨w.heap.size, 5, none⟩ _) (by dsimp only; omega) (by dsimp only; omega)).only (grownBy_set _ ⟨w.heap.size, 6, none⟩ _) (by dsimp only; omega) (by dsimp only; omega)).only (grownBy_set _ ⟨w.heap.size, 7, none⟩ _) (by dsimp only; omega) (by dsimp only; omega)).only (grownBy_set _ ⟨w.heap.size, 8, none⟩ _) (by dsimp only; omega) (by dsimp only; omega)).only (grownBy_set _ ⟨w.heap.size, 9, none⟩ _) (by dsimp only; omega) (by dsimp only; omega))
      · have st : ∀ (x : World) (j : Nat) (v : Value), w.grownBy x (some B) → w.grownBy (x.setCell ⟨w.heap.size, j, none⟩ v) (some B) := fun x j v h => grown_step h (Ext.refl _) (grownBy_set x ⟨w.heap.size, j, none⟩ v) (fun k hk => by cases hk; exact .inr (Nat.le_refl _))
        exact st _ _ _ (st _ _ _ (st _ _ _ (st _ _ _ (st _ _ _ (st _ _ _ (st _ _ _ (st _ _ _ (st _ _ _ (st _ _ _ (hgw.out))))))))))

/-- A queue that has been drawn: K trains were meant, j are still to come. -/
def QOk (K j : Nat) (qs : List Tn) : Prop := K ≤ 5 ∧ qs.length + j = K ∧ ∀ i (h : i < qs.length), Dn (10 * (((K - i : Nat) : Int))) qs[i]
theorem QOk.small {K j : Nat} {qs : List Tn} (h : QOk K j qs) : ∀ t ∈ qs, SmallT t := fun t ht => by
  obtain ⟨i, hi, rfl⟩ := List.getElem_of_mem ht
  exact (h.2.2 i hi).small
theorem QOk.push {K j : Nat} {qs : List Tn} {t : Tn} (h : QOk K (j + 1) qs) (ht : Dn (10 * ((j : Int) + 1)) t) : QOk K j (qs ++ [t]) := by
  refine ⟨h.1, by rw [List.length_append]; have := h.2.1; simp; omega, fun i hi => ?_⟩
  by_cases e : i < qs.length
  · rw [List.getElem_append_left e]
    exact h.2.2 i e
  · have e2 : i = qs.length := by simp at hi; omega
    subst e2
    rw [List.getElem_concat_length rfl]
    have e3 : (((K - qs.length : Nat) : Int)) = (j : Int) + 1 := by have := h.2.1; omega
    rw [e3]
    exact ht

set_option maxRecDepth 100000 in
set_option maxHeartbeats 1000000 in
theorem DrawLock_any (a : Option Addr) (n c : Nat) (bs : List Int) (w : World) (hn : n = bs.length) (hs : n ≤ 1048576) (hf : BytesAt w a bs) :
    Calls Try.prog 6 #[.slice a n c] w fun e w' => ∃ (x0 x1 x2 x3 x4 x5 x6 x7 x8 : Int) (a1 : Option Addr) (n1 c1 lo1 hi1 : Nat) (es : List (Bool × Value)) (ts : List Tn) (a2 : Option Addr) (n2 c2 lo2 : Nat) (es2 : List (Bool × Value)) (qs : List Tn) (K : Nat),
      LkOk x0 x1 x2 x3 x4 x5 x6 x7 x8 ∧ InsOk x0 x1 0 ts ∧ n1 = ts.length ∧ QOk K 0 qs ∧ n2 = qs.length ∧ w.heap.size ≤ lo1 ∧ hi1 ≤ lo2 ∧ lo2 ≤ w'.heap.size ∧
      e = .returned (.tuple #[.agg #[.int .i64 x0, .int .i64 x1, .int .i64 x2, .int .i64 x3, .int .i64 x4, .int .i64 x5, .int .i64 x6, .int .i64 x7, .int .i64 x8, .slice a1 n1 c1], .slice a2 n2 c2]) ∧ GT w' lo1 hi1 (.slice a1 n1 c1) es ts ∧ GT w' lo2 w'.heap.size (.slice a2 n2 c2) es2 qs ∧ Ext w w' := by
  have HF := Lib.hid hf; clear hf
  have HN := Lib.hid hn; clear hn
  have RZ := RowAt.new w 26 #[.int .i64 0, .int .i64 0, .int .i64 0, .int .i64 0, .int .i64 0, .int .i64 0, .int .i64 0, .int .i64 0, .int .i64 0, .slice none 0 0]
  have E1 := (Ext.refl w).alloc (.cells #[.int .i64 0, .int .i64 0, .int .i64 0, .int .i64 0, .int .i64 0, .int .i64 0, .int .i64 0, .int .i64 0, .int .i64 0, .slice none 0 0] 26)
  go_enter Try.func6, Try.ntmps6
  go_wp2_with fail
  refine (l01New_any _ _ _ bs _ HN.out hs (HF.out.ext E1)).mono ?_
  rintro e w1 ⟨rfl, hc1⟩
  have HZ1 := Lib.hid (RZ.ext hc1.2.1)
  have X1 := Lib.hid (E1.trans hc1.2.1)
  have zc := hc1.lt
  simp only [World.size_alloc] at zc hc1
  have HC1 := Lib.hid hc1
  clear hc1 RZ
  (try dsimp only)
  go_wp2_with fail
  simp only [World.size_alloc]
  refine (l05Lock_any _ _ _ bs HC1.out).mono ?_
  rintro e w2 ⟨x0, x1, x2, x3, x4, x5, x6, x7, x8, a1, n1, c1, lo1, es, ts, hlk, hins, hn1, hlo1, hlo2, rfl, hgt, hc2, ho2⟩
  have hs2 := ho2.size
  have EL := (Ext.refl w2).alloc (.cells #[.int .i64 x0, .int .i64 x1, .int .i64 x2, .int .i64 x3, .int .i64 x4, .int .i64 x5, .int .i64 x6, .int .i64 x7, .int .i64 x8, .slice a1 n1 c1] 26)
  have EQ := EL.alloc (.cells #[] 47)
  have HLK := Lib.hid hlk
  have HINS := Lib.hid hins
  have HN1 := Lib.hid hn1
  have RL2 := Lib.hid ((RowAt.new w2 26 #[.int .i64 x0, .int .i64 x1, .int .i64 x2, .int .i64 x3, .int .i64 x4, .int .i64 x5, .int .i64 x6, .int .i64 x7, .int .i64 x8, .slice a1 n1 c1]).ext ((Ext.refl _).alloc (.cells #[] 47)))
  have HZ2 := Lib.hid ((HZ1.out.only ho2 (by omega)).ext EQ)
  have HO2 := Lib.hid (only_ext ho2 EQ)
  have HC2 := Lib.hid (hc2.ext EQ)
  have HG2 := Lib.hid (hgt.ext EQ)
  have HQ2 := Lib.hid (show GT ((w2.alloc (.cells #[.int .i64 x0, .int .i64 x1, .int .i64 x2, .int .i64 x3, .int .i64 x4, .int .i64 x5, .int .i64 x6, .int .i64 x7, .int .i64 x8, .slice a1 n1 c1] 26)).alloc (.cells #[] 47)) (w2.heap.size + 1) (w2.heap.size + 1 + 1) (.slice (some ⟨w2.heap.size + 1, 0, none⟩) 0 0) [] [] from by
    have h := GT.lit (w2.alloc (.cells #[.int .i64 x0, .int .i64 x1, .int .i64 x2, .int .i64 x3, .int .i64 x4, .int .i64 x5, .int .i64 x6, .int .i64 x7, .int .i64 x8, .slice a1 n1 c1] 26)) (Nat.lt_succ_self _)
    simp only [World.size_alloc] at h
    exact h)
  clear hlk hins hn1 hgt hc2 ho2 EL EQ HZ1 HC1
  go_wp2_with fail
  refine (l01Below_any _ _ _ bs 6 (by decide) (by decide) HC2.out).mono ?_
  rintro e w3 ⟨m, hm, rfl, hc3, ho3⟩
  have hs3 := ho3.size
  simp only [World.size_alloc] at hs3
  have RL3 := Lib.hid (RL2.out.only ho3 (by omega))
  have HZ3 := Lib.hid (HZ2.out.only ho3 (by omega))
  have HC3 := Lib.hid hc3
  have HO3 := Lib.hid (only_trans HO2.out ho3)
  have HG3 := Lib.hid (HG2.out.grown ho3 (fun B' e => by cases e; left; omega))
  have HQ3 := Lib.hid ((HQ2.out.grown ho3 (fun B' e => by cases e; left; omega)).wide (hi' := w3.heap.size) (Nat.le_refl _) hs3)
  clear hc3 ho3 RL2 HZ2 HC2 HO2 HG2 HQ2
  obtain ⟨Lb, hLb⟩ : ∃ x, x = w2.heap.size := ⟨_, rfl⟩
  rw [← hLb] at RL3 HG3 HQ3 hs3 hlo2 hs2
  (try rw [← hLb])
  obtain ⟨m, rfl⟩ := Int.eq_ofNat_of_zero_le hm.1
  have hm5 : m ≤ 5 := by have := hm.2; omega
  obtain ⟨B, hB⟩ : ∃ x, x = w.heap.size + 1 := ⟨_, rfl⟩
  rw [← hB] at HC3 HO3 zc
  (try rw [← hB])
  have hsE := E1.size
  obtain ⟨w0, hw0⟩ : ∃ x, x = w.alloc (.cells #[.int .i64 0, .int .i64 0, .int .i64 0, .int .i64 0, .int .i64 0, .int .i64 0, .int .i64 0, .int .i64 0, .int .i64 0, .slice none 0 0] 26) := ⟨_, rfl⟩
  rw [← hw0] at HC3
  have hw0s : w0.heap.size = w.heap.size + 1 := by rw [hw0]; simp
  clear hm hLb E1 hw0
  go_wp2
  go_loopw [6, 7] (fun v kk wr => ∃ (j : Nat) (es2 : List (Bool × Value)) (qs : List Tn), kk = .int .i64 j ∧ j ≤ 5 ∧ Lb < wr.heap.size ∧ Hid (RowAt wr Lb 26 #[.int .i64 x0, .int .i64 x1, .int .i64 x2, .int .i64 x3, .int .i64 x4, .int .i64 x5, .int .i64 x6, .int .i64 x7, .int .i64 x8, .slice a1 n1 c1]) ∧ Hid (RowAt wr w.heap.size 26 #[.int .i64 0, .int .i64 0, .int .i64 0, .int .i64 0, .int .i64 0, .int .i64 0, .int .i64 0, .int .i64 0, .int .i64 0, .slice none 0 0]) ∧ Hid (CurAt w0 wr B bs) ∧ Hid (w1.grownBy wr (some B)) ∧ Hid (GT wr lo1 Lb (.slice a1 n1 c1) es ts) ∧ Lb + 1 ≤ wr.heap.size ∧ Hid (GT wr (Lb + 1) wr.heap.size v es2 qs) ∧ Hid (QOk m j qs)) (fun _ kk _ => (intOf kk).toNat)
  case atStart => exact ⟨m, [], [], rfl, hm5, by omega, RL3.out, HZ3.out, HC3.out, HO3.out, HG3.out, by omega, HQ3.out, ⟨hm5, by simp, fun i h => absurd h (Nat.not_lt_zero _)⟩⟩
  case round =>
    clear RL3 HZ3 HC3 HO3 HG3 HQ3
    obtain ⟨j, es2, qs, rfl, hj, hlb, hbox, hz, hcu, hgw, hgt, hlb2, hgq, hq⟩ := hrel
    by_cases hlt : 0 < j
    · obtain ⟨jj, rfl⟩ : ∃ jj, j = jj + 1 := ⟨j - 1, by omega⟩
      obtain ⟨qa, qc, hv, hml, how⟩ := hgq.out.own
      obtain ⟨qn, hqn⟩ : ∃ n, n = qs.length := ⟨_, rfl⟩
      rw [← hqn] at hv hml
      subst hv
      have hnj : qn + (jj + 1) = m := by rw [hqn]; exact hq.out.2.1
      have HQN := Lib.hid hqn
      clear hqn hml how
      have hcb := hcu.out.lt
      go_wp2_with fail
      with_reducible refine (l04Train_any w0 _ (w.heap.size + 1) bs (10 * ((jj : Int) + 1)) (by omega) (by omega) (hB ▸ hcu.out)).mono ?_
      rintro e w2 ⟨u, a2, n2, c2, k, vs, rows, hk, hgood, hn2, rfl, hgr, hc2, ho2⟩
      rw [← hB] at hc2 ho2
      have HDN := Lib.hid (show Dn (10 * ((jj : Int) + 1)) (u, rows) from ⟨k, hk, hgood⟩)
      have HN2 := Lib.hid hn2
      have hs2 := ho2.size
      obtain ⟨a5, c5, e5, hm5, ho5⟩ := hgr.own
      rw [← hn2] at e5
      injection e5 with q1 q2 q3
      subst q1 q3
      have HOR := Lib.hid (show OwnRows w2 wr.heap.size w2.heap.size a2 rows from ho5)
      have HM2 := Lib.hid hm5.1
      have HX2 := Lib.hid ((Ext.refl w2).alloc (.cells #[.bool u, .slice a2 n2 c2] 47))
      have YG2 := Lib.hid ((hgq.out.grown ho2 (fun B' e => by cases e; left; omega)).ext HX2.out)
      have YO2 := Lib.hid ((hgt.out.grown ho2 (fun B' e => by cases e; left; omega)).ext HX2.out)
      have YB2 := Lib.hid ((hbox.out.only ho2 (by omega)).ext HX2.out)
      have YZ2 := Lib.hid ((hz.out.only ho2 (by omega)).ext HX2.out)
      have YC2 := Lib.hid (hc2.ext HX2.out)
      have YW2 := Lib.hid (only_ext (only_trans hgw.out ho2) HX2.out)
      have HOW := Lib.hid YG2.out.2.1
      rw [← HQN.out] at HOW
      have HOT := Lib.hid (one_train w2 u (.slice a2 n2 c2))
      clear hgr hc2 ho2 hgood hk hn2 hm5 ho5 q2
      go_wp2_with (at_builtin; refine wpList_plain rfl fun K hK => wp_append_trains _ _ rfl (Lb + 1) _ qn es2 rfl HOW.out _ 1 1 rfl [(u, .slice a2 n2 c2)] rfl (fun h => by cases h) HOT.out (fun e he => by cases List.mem_singleton.1 he; rfl) (by omega) (by simp; omega) ?_)
      intro v3 w3 hown3 hg3 hat3
      have hs3 := hg3.size
      simp only [World.size_alloc] at hs3
      have HV1 := Lib.hid (show ∀ g, (Value.slice qa qn qc).ownBlock = some g → Lb + 1 ≤ g from fun g hg => (ownsRow_lt HOW.out hg).1)
      have YG3 := Lib.hid (GT.push (P := wr.heap.size) (Q := w2.heap.size) (u := u) (rows := rows) (a' := a2) (c := c2) YG2.out (Nat.le_refl _) (by omega) (by simp) (HOR.out.ext HX2.out) HM2.out (by rw [← HN2.out, ← HQN.out, List.flatMap_append]; simpa using hown3) hg3 (by simpa using hat3) (by simp; omega))
      have YO3 := Lib.hid (YO2.out.grown hg3 (fun B' e => by right; have := HV1.out B' e; omega))
      have YB3 := Lib.hid (YB2.out.kept hg3 (fun e => by have := HV1.out _ e; omega))
      have YZ3 := Lib.hid (YZ2.out.kept hg3 (fun e => by have := HV1.out _ e; omega))
      have YC3 := Lib.hid (CurAt.own YC2.out hg3 (fun g hg => by have := HV1.out _ hg; omega))
      have YW3 := Lib.hid (grown_step YW2.out (Ext.refl _) hg3 (fun g hg => by have := HV1.out _ hg; right; omega))
      obtain ⟨a3, c3, hv3, hml3, _⟩ := YG3.out.own
      have hl3 : (qs ++ [(u, rows)]).length = qn + 1 := by rw [List.length_append, HQN.out]; rfl
      rw [hl3] at hv3
      subst hv3
      clear hown3 hg3 hat3 hml3 HOT HOW HX2 HOR YG2 YO2 YB2 YZ2 YC2 YW2
      refine hK _ _ ?_
      clear hK K
      go_wp2
      go_roundw
      case rel => exact ⟨jj, _, _, by go_num, by omega, by omega, YB3.out, YZ3.out, YC3.out, YW3.out, YO3.out, by omega, YG3.out, hq.out.push HDN.out⟩
      case measure => simp [intOf]
    · have hj0 : j = 0 := by omega
      subst hj0
      obtain ⟨qa, qc, hv, hml, how⟩ := hgq.out.own
      obtain ⟨qn, hqn⟩ : ∃ n, n = qs.length := ⟨_, rfl⟩
      rw [← hqn] at hv
      subst hv
      have HQN := Lib.hid hqn
      clear hqn hml how
      have zlb := hbox.out.lt
      have zw2 := hz.out.lt
      have HE := Lib.hid (X1.out.only hgw.out (by omega))
      have d0 : wr.cell? ⟨Lb, 0, none⟩ = some (.int .i64 x0) := hbox.out.cell rfl
      have d1 : wr.cell? ⟨Lb, 1, none⟩ = some (.int .i64 x1) := hbox.out.cell rfl
      have d2 : wr.cell? ⟨Lb, 2, none⟩ = some (.int .i64 x2) := hbox.out.cell rfl
      have d3 : wr.cell? ⟨Lb, 3, none⟩ = some (.int .i64 x3) := hbox.out.cell rfl
      have d4 : wr.cell? ⟨Lb, 4, none⟩ = some (.int .i64 x4) := hbox.out.cell rfl
      have d5 : wr.cell? ⟨Lb, 5, none⟩ = some (.int .i64 x5) := hbox.out.cell rfl
      have d6 : wr.cell? ⟨Lb, 6, none⟩ = some (.int .i64 x6) := hbox.out.cell rfl
      have d7 : wr.cell? ⟨Lb, 7, none⟩ = some (.int .i64 x7) := hbox.out.cell rfl
      have d8 : wr.cell? ⟨Lb, 8, none⟩ = some (.int .i64 x8) := hbox.out.cell rfl
      have d9 : wr.cell? ⟨Lb, 9, none⟩ = some (.slice a1 n1 c1) := hbox.out.cell rfl
      have q0 : wr.cell? ⟨w.heap.size, 0, none⟩ = some (.int .i64 0) := hz.out.cell rfl
      have f0 := hz.out.frozen 0
      have q1 : wr.cell? ⟨w.heap.size, 1, none⟩ = some (.int .i64 0) := hz.out.cell rfl
      have f1 := hz.out.frozen 1
      have q2 : wr.cell? ⟨w.heap.size, 2, none⟩ = some (.int .i64 0) := hz.out.cell rfl
      have f2 := hz.out.frozen 2
      have q3 : wr.cell? ⟨w.heap.size, 3, none⟩ = some (.int .i64 0) := hz.out.cell rfl
      have f3 := hz.out.frozen 3
      have q4 : wr.cell? ⟨w.heap.size, 4, none⟩ = some (.int .i64 0) := hz.out.cell rfl
      have f4 := hz.out.frozen 4
      have q5 : wr.cell? ⟨w.heap.size, 5, none⟩ = some (.int .i64 0) := hz.out.cell rfl
      have f5 := hz.out.frozen 5
      have q6 : wr.cell? ⟨w.heap.size, 6, none⟩ = some (.int .i64 0) := hz.out.cell rfl
      have f6 := hz.out.frozen 6
      have q7 : wr.cell? ⟨w.heap.size, 7, none⟩ = some (.int .i64 0) := hz.out.cell rfl
      have f7 := hz.out.frozen 7
      have q8 : wr.cell? ⟨w.heap.size, 8, none⟩ = some (.int .i64 0) := hz.out.cell rfl
      have f8 := hz.out.frozen 8
      have q9 : wr.cell? ⟨w.heap.size, 9, none⟩ = some (.slice none 0 0) := hz.out.cell rfl
      have f9 := hz.out.frozen 9
      go_wp2
      refine bodyPost_ret (v := .tuple #[.agg #[.int .i64 x0, .int .i64 x1, .int .i64 x2, .int .i64 x3, .int .i64 x4, .int .i64 x5, .int .i64 x6, .int .i64 x7, .int .i64 x8, .slice a1 n1 c1], .slice qa qn qc]) (by simp [results, Try.results6, go_sem, *]) rfl ⟨x0, x1, x2, x3, x4, x5, x6, x7, x8, a1, n1, c1, lo1, Lb, es, ts, qa, qn, qc, Lb + 1, es2, qs, m, HLK.out, HINS.out, HN1.out, hq.out, HQN.out, by omega, by omega, by simp only [size_setCell']; omega, rfl, ?_, ?_, ?_⟩
      · exact ((((((((((hgt.out.set (p := ⟨w.heap.size, 0, none⟩) (.inl (by dsimp only; omega)) _).set (p := ⟨w.heap.size, 1, none⟩) (.inl (by dsimp only; omega)) _).set (p := ⟨w.heap.size, 2, none⟩) (.inl (by dsimp only; omega)) _).set (p := ⟨w.heap.size, 3, none⟩) (.inl (by dsimp only; omega)) _).set (p := ⟨w.heap.size, 4, none⟩) (.inl (by dsimp only; omega)) _).set (p := ⟨w.heap.size, 5, none⟩) (.inl (by dsimp only; omega)) _).set (p := ⟨w.heap.size, 6, none⟩) (.inl (by dsimp only; omega)) _).set (p := ⟨w.heap.size, 7, none⟩) (.inl (by dsimp only; omega)) _).set (p := ⟨w.heap.size, 8, none⟩) (.inl (by dsimp only; omega)) _).set (p := ⟨w.heap.size, 9, none⟩) (.inl (by dsimp only; omega)) _)
      · exact ((((((((((hgq.out.set (p := ⟨w.heap.size, 0, none⟩) (.inl (by dsimp only; omega)) _).set (p := ⟨w.heap.size, 1, none⟩) (.inl (by dsimp only; omega)) _).set (p := ⟨w.heap.size, 2, none⟩) (.inl (by dsimp only; omega)) _).set (p := ⟨w.heap.size, 3, none⟩) (.inl (by dsimp only; omega)) _).set (p := ⟨w.heap.size, 4, none⟩) (.inl (by dsimp only; omega)) _).set (p := ⟨w.heap.size, 5, none⟩) (.inl (by dsimp only; omega)) _).set (p := ⟨w.heap.size, 6, none⟩) (.inl (by dsimp only; omega)) _).set (p := ⟨w.heap.size, 7, none⟩) (.inl (by dsimp only; omega)) _).set (p := ⟨w.heap.size, 8, none⟩) (.inl (by dsimp only; omega)) _).set (p := ⟨w.heap.size, 9, none⟩) (.inl (by dsimp only; omega)) _).wide (Nat.le_refl _) (by simp only [size_setCell']; exact Nat.le_refl _)
      · exact ((((((((((HE.out.setCell (p := ⟨w.heap.size, 0, none⟩) (by dsimp only; omega) _).setCell (p := ⟨w.heap.size, 1, none⟩) (by dsimp only; omega) _).setCell (p := ⟨w.heap.size, 2, none⟩) (by dsimp only; omega) _).setCell (p := ⟨w.heap.size, 3, none⟩) (by dsimp only; omega) _).setCell (p := ⟨w.heap.size, 4, none⟩) (by dsimp only; omega) _).setCell (p := ⟨w.heap.size, 5, none⟩) (by dsimp only; omega) _).setCell (p := ⟨w.heap.size, 6, none⟩) (by dsimp only; omega) _).setCell (p := ⟨w.heap.size, 7, none⟩) (by dsimp only; omega) _).setCell (p := ⟨w.heap.size, 8, none⟩) (by dsimp only; omega) _).setCell (p := ⟨w.heap.size, 9, none⟩) (by dsimp only; omega) _)
end Go.Proofs.Ytmppoflgbmabpaa
