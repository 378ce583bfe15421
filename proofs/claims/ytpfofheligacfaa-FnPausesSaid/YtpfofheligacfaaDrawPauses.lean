/- Drawn pauses: they are valid, at most three, and end early. -/
import Derived.Test.YtpfofheligacfaaProg
import Derived.Test.YtpfofheligacfaaDraw
import Derived.Test.YtpfofheligacfaaPause
import Derived.Test.YtpfofheligacfaaOwn
namespace Go.Proofs.Ytpfofheligacfaa
open Go.RowKit
set_option linter.unusedSimpArgs false
set_option linter.unusedVariables false

/-- Pauses in order that end by t. -/
def EndBy (ps : List (Int × Int)) (t : Int) : Prop := pausesGo 0 ps = true ∧ (∀ p ∈ ps, p.2 ≤ t) ∧ 0 ≤ t
theorem pausesGo_snoc : ∀ (ps : List (Int × Int)) (bef : Int) (p : Int × Int), pausesGo bef ps = true → (∀ q ∈ ps, q.2 ≤ p.1) → bef ≤ p.1 → p.1 < p.2 → p.2 ≤ 1000000 → pausesGo bef (ps ++ [p]) = true
  | [], bef, p, _, _, h1, h2, h3 => by
    simp only [List.nil_append, pausesGo]
    rw [if_neg (by omega), if_neg (by omega), if_neg (by omega)]
  | q :: ps, bef, p, h, hq, h1, h2, h3 => by
    simp only [List.cons_append, pausesGo] at h ⊢
    split at h
    · cases h
    rename_i c1
    split at h
    · cases h
    rename_i c2
    split at h
    · cases h
    rename_i c3
    rw [if_neg c1, if_neg c2, if_neg c3]
    exact pausesGo_snoc ps q.2 p h (fun x hx => hq x (by simp [hx])) (hq q (by simp)) h2 h3
theorem EndBy.snoc {ps : List (Int × Int)} {t u v : Int} (h : EndBy ps t) (h1 : t < u) (h2 : u ≤ v) (h3 : u ≤ 1000000) : EndBy (ps ++ [(t, u)]) v :=
  ⟨pausesGo_snoc ps 0 (t, u) h.1 h.2.1 h.2.2 h1 h3, fun p hp => by
    rcases List.mem_append.1 hp with hp | hp
    · have := h.2.1 p hp; omega
    · simp at hp; subst hp; exact h2, by have := h.2.2; omega⟩

/-- The pauses that a draw gives. -/
def SomePauses (w : World) (e : Ending) (w' : World) : Prop :=
  ∃ (a : Option Addr) (cap : Nat) (ps : List (Int × Int)), e = .returned (.slice a ps.length cap) ∧ FlatAt w' pCells 2 a ps ∧ ps.length ≤ 3 ∧ EndBy ps 1000 ∧ Ext w w'

set_option maxHeartbeats 1000000 in
theorem DrawPauses_any (a : Option Addr) (n c : Nat) (bs : List Int) (w : World) (hn : n = bs.length) (hs : n ≤ 1048576) (hf : BytesAt w a bs) :
    Calls Try.prog 42 #[.slice a n c] w (SomePauses w) := by
  have HF := Lib.hid hf; clear hf
  have HN := Lib.hid hn; clear hn
  go_enter Try.func42, Try.ntmps42
  go_wp2_with fail
  refine (l01New_any _ _ _ bs _ HN.out hs HF.out).mono ?_
  rintro e w1 ⟨rfl, hc1⟩
  have HC1 := Lib.hid hc1; clear hc1
  go_wp2_with fail
  refine (l01Below_any w _ _ bs 20 (by omega) (by omega) (HC1.out.ext ((Ext.refl _).alloc _))).mono ?_
  rintro e w2 ⟨t0, ht0, rfl, hc2, ho2⟩
  have hw1 : w.heap.size < w1.heap.size := HC1.out.lt
  have hown2 : w2.ownsRow (w.heap.size + 1) 66 2 (.slice (some ⟨w1.heap.size, 0, none⟩) 0 0) 0 [] :=
    (World.ownsRow_made w1 #[] 0 (by omega) (Nat.zero_le _) rfl).kept ho2 (.inr (by simp [Value.ownBlock]; omega))
  have HO2 := Lib.hid hown2; clear hown2
  have HC2 := Lib.hid hc2; clear hc2
  go_wp2_with fail
  refine (l01Below_any w _ _ bs 4 (by omega) (by omega) HC2.out).mono ?_
  rintro e w3 ⟨k0, hk0, rfl, hc3, ho3⟩
  have hown3 := HO2.out.kept ho3 (.inr (by simp [Value.ownBlock]; omega))
  have HO3 := Lib.hid hown3; clear hown3 HO2
  have HC3 := Lib.hid hc3; clear hc3
  go_wp2
  go_loopw [4, 5, 6] (fun v t k wr => ∃ (j : Nat) (z : Int) (ps : List (Int × Int)), k = .int .i64 j ∧ j ≤ 3 ∧ t = .int .i64 z ∧ Hid (wr.ownsRow (w.heap.size + 1) 66 2 v ps.length (ps.flatMap pCells)) ∧ Hid (CurAt w wr w.heap.size bs) ∧ Hid (EndBy ps z) ∧ Hid (ps.length + j ≤ 3) ∧ 0 ≤ z ∧ z ≤ 20 + (3 - j) * 60) (fun _ _ k _ => (intOf k).toNat)
  case atStart => exact ⟨k0.toNat, t0, [], by rw [Int.toNat_of_nonneg (by omega)], by omega, rfl, HO3.out, HC3.out, ⟨rfl, (fun p hp => by cases hp), by omega⟩, by (show _ ≤ _); simp; omega, by omega, by omega⟩
  case round =>
    obtain ⟨j, z, ps, rfl, hj, rfl, hown, hcur, hend, hlen, hz0, hz1⟩ := hrel
    by_cases hpos : 0 < j
    · go_wp2_with fail
      refine (l01Below_any w _ _ bs 20 (by omega) (by omega) hcur.out).mono ?_
      rintro e w4 ⟨m, hm, rfl, hc4, ho4⟩
      have hown4 := ownsRow_only hown.out ho4 (by omega)
      have HO4 := Lib.hid hown4; clear hown4
      have HC4 := Lib.hid hc4; clear hc4
      have hbs4 : w.heap.size < w4.heap.size := HC4.out.lt
      go_wp2_with (at_builtin; refine wpList_append_row rfl _ _ 55 rfl (w.heap.size + 1) 66 _ 2 16 Try.underlying55 info_pause rfl (by decide) _ _ _ rfl (ownsRow_ext HO4.out ((Ext.refl _).alloc _)) ⟨w4.heap.size, 0, none⟩ 1 1 [.int .i64 z, .int .i64 (z + (1 + m))] rfl rfl ?c1 ?c2 ?c3 ?c4 ?c5 ?_)
      case c1 => exact cells_new _ _ _
      case c2 => simp [Value.oneCell']
      case c3 => have := hlen.out; unfold maxLen; omega
      case c4 => have := hlen.out; omega
      case c5 => simp; omega
      intro v' w5 hown5 hgrow5 _
      have hv4 := World.ownsRow.lt HO4.out
      have hcur5 := (HC4.out.ext ((Ext.refl _).alloc _)).own hgrow5 (fun k hk => by have := (hv4 k hk).1; omega)
      have HO5 := Lib.hid hown5; clear hown5
      have HC5 := Lib.hid hcur5; clear hcur5
      clear hgrow5 hv4
      go_wp2_with fail
      refine (l01Below_any w _ _ bs 20 (by omega) (by omega) HC5.out).mono ?_
      rintro e w6 ⟨m2, hm2, rfl, hc6, ho6⟩
      have hown6 := ownsRow_only HO5.out ho6 (by omega)
      have HO6 := Lib.hid hown6; clear hown6
      have HC6 := Lib.hid hc6; clear hc6
      go_wp2
      go_roundw
      case rel =>
        refine ⟨j - 1, z + (1 + m) + m2, ps ++ [(z, z + (1 + m))], by go_num, by omega, by go_num, ?_, HC6.out, ?_, ?_, by omega, by omega⟩
        · have := HO6.out
          rw [List.length_append, List.flatMap_append]
          exact this
        · exact hend.out.snoc (by omega) (by omega) (by omega)
        · have := hlen.out
          (show _ ≤ _)
          simp
          omega
      case measure => simp [intOf]; omega
    · have hj0 : j = 0 := by omega
      subst hj0
      go_wp2
      go_ret
      obtain ⟨a2, cp2, rfl, hfl, _⟩ := ownsRow_flat (ec := pCells) (sz := 2) (fun _ => rfl) hown.out
      have := hlen.out
      exact ⟨a2, cp2, ps, rfl, hfl, by omega, ⟨hend.out.1, fun p hp => by have := hend.out.2.1 p hp; omega, by omega⟩, hcur.out.2.1⟩
end Go.Proofs.Ytpfofheligacfaa
