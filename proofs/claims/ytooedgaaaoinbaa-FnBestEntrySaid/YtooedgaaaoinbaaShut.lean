/- ShutGate on both sides. -/
import Derived.Test.YtooedgaaaoinbaaProg
import Derived.Test.YtooedgaaaoinbaaCopyT
import Derived.Test.YtooedgaaaoinbaaLockOk
namespace Go.Proofs.Ytooedgaaaoinbaa
open Go.RowKit
set_option linter.unusedSimpArgs false
set_option linter.unusedVariables false

theorem GT.ownAt {w : World} {lo hi n : Nat} {a : Option Addr} {c : Nat} {es : List (Bool × Value)} {ts : List Tn} (h : GT w lo hi (.slice a n c) es ts) : OwnTrains w lo hi a ts := by
  obtain ⟨a', c', e, _, ho⟩ := h.own
  injection e with e1 _ _
  rw [e1]
  exact ho
theorem OwnTrains.wide {w : World} {lo hi lo' hi' : Nat} {a : Option Addr} {ts : List Tn} (h : OwnTrains w lo hi a ts) (hl : lo' ≤ lo) (hh : hi ≤ hi') : OwnTrains w lo' hi' a ts := h.keep hl hh (fun _ _ _ _ _ hr => hr)


set_option maxRecDepth 100000 in
set_option maxHeartbeats 2000000 in
theorem implShut_any (g : Int) (x0 x1 x2 x3 x4 x5 x6 x7 x8 : Int) (a : Option Addr) (n c : Nat) (ts : List Tn) (w : World) (hn : n = ts.length) (hs : n ≤ 1048576) (hts : ∀ t ∈ ts, SmallT t) (hf : TrainsAt w a ts) (hg : (if lockOk x0 x1 x2 x3 x4 x5 x6 x7 x8 ts = true then 0 else x8) = g) :
    Calls Try.prog 51 #[.agg #[.int .i64 x0, .int .i64 x1, .int .i64 x2, .int .i64 x3, .int .i64 x4, .int .i64 x5, .int .i64 x6, .int .i64 x7, .int .i64 x8, .slice a n c]] w fun e w' => ∃ a' c', e = .returned (.agg #[.int .i64 x0, .int .i64 x1, .int .i64 x2, .int .i64 x3, .int .i64 x4, .int .i64 x5, .int .i64 x6, .int .i64 x7, .int .i64 g, .slice a' n c']) ∧ OwnTrains w' w.heap.size w'.heap.size a' ts ∧ Ext w w' := by
  obtain ⟨R, hR⟩ : ∃ R, lockOk x0 x1 x2 x3 x4 x5 x6 x7 x8 ts = R := ⟨_, rfl⟩
  rw [hR] at hg
  have HRR := Lib.hid hR; clear hR
  have HF := Lib.hid hf; clear hf
  have HN := Lib.hid hn; clear hn
  have HTS := Lib.hid hts; clear hts
  have R0 := (RowAt.new w 33 #[.int .i64 x0, .int .i64 x1, .int .i64 x2, .int .i64 x3, .int .i64 x4, .int .i64 x5, .int .i64 x6, .int .i64 x7, .int .i64 x8, .slice a n c]).ext ((Ext.refl _).alloc (.cells #[.int .i64 0, .int .i64 0, .int .i64 0, .int .i64 0, .int .i64 0, .int .i64 0, .int .i64 0, .int .i64 0, .int .i64 0, .slice none 0 0] 33))
  have R1 := RowAt.new (w.alloc (.cells #[.int .i64 x0, .int .i64 x1, .int .i64 x2, .int .i64 x3, .int .i64 x4, .int .i64 x5, .int .i64 x6, .int .i64 x7, .int .i64 x8, .slice a n c] 33)) 33 #[.int .i64 0, .int .i64 0, .int .i64 0, .int .i64 0, .int .i64 0, .int .i64 0, .int .i64 0, .int .i64 0, .int .i64 0, .slice none 0 0]
  rw [World.size_alloc] at R1
  have HR0 := Lib.hid R0
  have HR1 := Lib.hid R1
  have HE0 := Lib.hid (((Ext.refl w).alloc (.cells #[.int .i64 x0, .int .i64 x1, .int .i64 x2, .int .i64 x3, .int .i64 x4, .int .i64 x5, .int .i64 x6, .int .i64 x7, .int .i64 x8, .slice a n c] 33)).alloc (.cells #[.int .i64 0, .int .i64 0, .int .i64 0, .int .i64 0, .int .i64 0, .int .i64 0, .int .i64 0, .int .i64 0, .int .i64 0, .slice none 0 0] 33))
  clear R0 R1
  cases R
  all_goals
    (first | rw [if_pos rfl] at hg | rw [if_neg (by decide)] at hg)
    subst hg
    go_enter Try.func51, Try.ntmps51
    go_wp2_with fail
    with_reducible refine (copyLock_any _ _ _ _ _ _ _ _ _ _ _ _ ts _ HN.out hs HTS.out (HF.out.ext HE0.out)).mono ?_
    rintro e w1 ⟨a1, c1, es, rfl, hg1, hb1⟩
    have z1 := hb1.size
    simp only [World.size_alloc] at z1 hg1
    have eA := (Ext.refl w1).alloc (.cells #[.int .i64 x0, .int .i64 x1, .int .i64 x2, .int .i64 x3, .int .i64 x4, .int .i64 x5, .int .i64 x6, .int .i64 x7, .int .i64 x8, .slice a1 n c1] 33)
    have HG2 := Lib.hid (hg1.ext eA)
    have S0 := Lib.hid ((HR0.out.ext hb1).ext eA)
    have S1 := Lib.hid ((HR1.out.ext hb1).ext eA)
    have SO := Lib.hid (RowAt.new w1 33 #[.int .i64 x0, .int .i64 x1, .int .i64 x2, .int .i64 x3, .int .i64 x4, .int .i64 x5, .int .i64 x6, .int .i64 x7, .int .i64 x8, .slice a1 n c1])
    have HE2 := Lib.hid (HE0.out.trans (hb1.trans eA))
    have p0 : (w1.alloc (.cells #[.int .i64 x0, .int .i64 x1, .int .i64 x2, .int .i64 x3, .int .i64 x4, .int .i64 x5, .int .i64 x6, .int .i64 x7, .int .i64 x8, .slice a1 n c1] 33)).cell? ⟨w.heap.size, 0, none⟩ = some (.int .i64 x0) := S0.out.cell rfl
    have p1 : (w1.alloc (.cells #[.int .i64 x0, .int .i64 x1, .int .i64 x2, .int .i64 x3, .int .i64 x4, .int .i64 x5, .int .i64 x6, .int .i64 x7, .int .i64 x8, .slice a1 n c1] 33)).cell? ⟨w.heap.size, 1, none⟩ = some (.int .i64 x1) := S0.out.cell rfl
    have p2 : (w1.alloc (.cells #[.int .i64 x0, .int .i64 x1, .int .i64 x2, .int .i64 x3, .int .i64 x4, .int .i64 x5, .int .i64 x6, .int .i64 x7, .int .i64 x8, .slice a1 n c1] 33)).cell? ⟨w.heap.size, 2, none⟩ = some (.int .i64 x2) := S0.out.cell rfl
    have p3 : (w1.alloc (.cells #[.int .i64 x0, .int .i64 x1, .int .i64 x2, .int .i64 x3, .int .i64 x4, .int .i64 x5, .int .i64 x6, .int .i64 x7, .int .i64 x8, .slice a1 n c1] 33)).cell? ⟨w.heap.size, 3, none⟩ = some (.int .i64 x3) := S0.out.cell rfl
    have p4 : (w1.alloc (.cells #[.int .i64 x0, .int .i64 x1, .int .i64 x2, .int .i64 x3, .int .i64 x4, .int .i64 x5, .int .i64 x6, .int .i64 x7, .int .i64 x8, .slice a1 n c1] 33)).cell? ⟨w.heap.size, 4, none⟩ = some (.int .i64 x4) := S0.out.cell rfl
    have p5 : (w1.alloc (.cells #[.int .i64 x0, .int .i64 x1, .int .i64 x2, .int .i64 x3, .int .i64 x4, .int .i64 x5, .int .i64 x6, .int .i64 x7, .int .i64 x8, .slice a1 n c1] 33)).cell? ⟨w.heap.size, 5, none⟩ = some (.int .i64 x5) := S0.out.cell rfl
    have p6 : (w1.alloc (.cells #[.int .i64 x0, .int .i64 x1, .int .i64 x2, .int .i64 x3, .int .i64 x4, .int .i64 x5, .int .i64 x6, .int .i64 x7, .int .i64 x8, .slice a1 n c1] 33)).cell? ⟨w.heap.size, 6, none⟩ = some (.int .i64 x6) := S0.out.cell rfl
    have p7 : (w1.alloc (.cells #[.int .i64 x0, .int .i64 x1, .int .i64 x2, .int .i64 x3, .int .i64 x4, .int .i64 x5, .int .i64 x6, .int .i64 x7, .int .i64 x8, .slice a1 n c1] 33)).cell? ⟨w.heap.size, 7, none⟩ = some (.int .i64 x7) := S0.out.cell rfl
    have p8 : (w1.alloc (.cells #[.int .i64 x0, .int .i64 x1, .int .i64 x2, .int .i64 x3, .int .i64 x4, .int .i64 x5, .int .i64 x6, .int .i64 x7, .int .i64 x8, .slice a1 n c1] 33)).cell? ⟨w.heap.size, 8, none⟩ = some (.int .i64 x8) := S0.out.cell rfl
    have p9 : (w1.alloc (.cells #[.int .i64 x0, .int .i64 x1, .int .i64 x2, .int .i64 x3, .int .i64 x4, .int .i64 x5, .int .i64 x6, .int .i64 x7, .int .i64 x8, .slice a1 n c1] 33)).cell? ⟨w.heap.size, 9, none⟩ = some (.slice a n c) := S0.out.cell rfl
    go_wp2_with fail
    clear p0 p1 p2 p3 p4 p5 p6 p7 p8 p9
    with_reducible refine (implLockOk_any _ _ _ _ _ _ _ _ _ _ _ _ _ ts _ HN.out hs HTS.out (HF.out.ext HE2.out) HRR.out).mono ?_
    rintro e w3 ⟨rfl, hb3⟩
    have z3 := hb3.size
    simp only [World.size_alloc] at z3
    have HG3 := Lib.hid (HG2.out.ext hb3)
    have T1 := Lib.hid (S1.out.ext hb3)
    have TO := Lib.hid (SO.out.ext hb3)
    have HE3 := Lib.hid (HE2.out.trans hb3)
    obtain ⟨O, hO⟩ : ∃ x, x = w1.heap.size := ⟨_, rfl⟩
    rw [← hO] at TO z3
    (try rw [← hO])
    have zO : w.heap.size + 1 + 1 ≤ O := by omega
    have zG : w1.heap.size ≤ O := by omega
    clear hO hb1 hb3 S0 S1 SO HG2 HE2 HE0 HR0 HR1 hg1 eA
  · have TO2 := TO; have T12 := T1; have HG4 := HG3; have HE4 := HE3
    have q0 : w3.cell? ⟨O, 0, none⟩ = some (.int .i64 x0) := TO2.out.cell rfl
    have q1 : w3.cell? ⟨O, 1, none⟩ = some (.int .i64 x1) := TO2.out.cell rfl
    have q2 : w3.cell? ⟨O, 2, none⟩ = some (.int .i64 x2) := TO2.out.cell rfl
    have q3 : w3.cell? ⟨O, 3, none⟩ = some (.int .i64 x3) := TO2.out.cell rfl
    have q4 : w3.cell? ⟨O, 4, none⟩ = some (.int .i64 x4) := TO2.out.cell rfl
    have q5 : w3.cell? ⟨O, 5, none⟩ = some (.int .i64 x5) := TO2.out.cell rfl
    have q6 : w3.cell? ⟨O, 6, none⟩ = some (.int .i64 x6) := TO2.out.cell rfl
    have q7 : w3.cell? ⟨O, 7, none⟩ = some (.int .i64 x7) := TO2.out.cell rfl
    have q8 : w3.cell? ⟨O, 8, none⟩ = some (.int .i64 x8) := TO2.out.cell rfl
    have q9 : w3.cell? ⟨O, 9, none⟩ = some (.slice a1 n c1) := TO2.out.cell rfl
    have r0 : w3.cell? ⟨w.heap.size + 1, 0, none⟩ = some (.int .i64 0) := T12.out.cell rfl
    have g0 := T12.out.frozen 0
    have r1 : w3.cell? ⟨w.heap.size + 1, 1, none⟩ = some (.int .i64 0) := T12.out.cell rfl
    have g1 := T12.out.frozen 1
    have r2 : w3.cell? ⟨w.heap.size + 1, 2, none⟩ = some (.int .i64 0) := T12.out.cell rfl
    have g2 := T12.out.frozen 2
    have r3 : w3.cell? ⟨w.heap.size + 1, 3, none⟩ = some (.int .i64 0) := T12.out.cell rfl
    have g3 := T12.out.frozen 3
    have r4 : w3.cell? ⟨w.heap.size + 1, 4, none⟩ = some (.int .i64 0) := T12.out.cell rfl
    have g4 := T12.out.frozen 4
    have r5 : w3.cell? ⟨w.heap.size + 1, 5, none⟩ = some (.int .i64 0) := T12.out.cell rfl
    have g5 := T12.out.frozen 5
    have r6 : w3.cell? ⟨w.heap.size + 1, 6, none⟩ = some (.int .i64 0) := T12.out.cell rfl
    have g6 := T12.out.frozen 6
    have r7 : w3.cell? ⟨w.heap.size + 1, 7, none⟩ = some (.int .i64 0) := T12.out.cell rfl
    have g7 := T12.out.frozen 7
    have r8 : w3.cell? ⟨w.heap.size + 1, 8, none⟩ = some (.int .i64 0) := T12.out.cell rfl
    have g8 := T12.out.frozen 8
    have r9 : w3.cell? ⟨w.heap.size + 1, 9, none⟩ = some (.slice none 0 0) := T12.out.cell rfl
    have g9 := T12.out.frozen 9
    go_wp2
    refine bodyPost_ret (v := .agg #[.int .i64 x0, .int .i64 x1, .int .i64 x2, .int .i64 x3, .int .i64 x4, .int .i64 x5, .int .i64 x6, .int .i64 x7, .int .i64 x8, .slice a1 n c1]) (by simp [results, Try.results51, go_sem, *]) rfl ⟨a1, c1, rfl, ?_, ?_⟩
    · exact (((((((((((HG4.out.set (p := ⟨w.heap.size + 1, 0, none⟩) (.inl (by dsimp only; omega)) _).set (p := ⟨w.heap.size + 1, 1, none⟩) (.inl (by dsimp only; omega)) _).set (p := ⟨w.heap.size + 1, 2, none⟩) (.inl (by dsimp only; omega)) _).set (p := ⟨w.heap.size + 1, 3, none⟩) (.inl (by dsimp only; omega)) _).set (p := ⟨w.heap.size + 1, 4, none⟩) (.inl (by dsimp only; omega)) _).set (p := ⟨w.heap.size + 1, 5, none⟩) (.inl (by dsimp only; omega)) _).set (p := ⟨w.heap.size + 1, 6, none⟩) (.inl (by dsimp only; omega)) _).set (p := ⟨w.heap.size + 1, 7, none⟩) (.inl (by dsimp only; omega)) _).set (p := ⟨w.heap.size + 1, 8, none⟩) (.inl (by dsimp only; omega)) _).set (p := ⟨w.heap.size + 1, 9, none⟩) (.inl (by dsimp only; omega)) _).ownAt).wide (by omega) (by simp only [size_setCell']; omega)
    · exact ((((((((((HE4.out.setCell (p := ⟨w.heap.size + 1, 0, none⟩) (by dsimp only; omega) _).setCell (p := ⟨w.heap.size + 1, 1, none⟩) (by dsimp only; omega) _).setCell (p := ⟨w.heap.size + 1, 2, none⟩) (by dsimp only; omega) _).setCell (p := ⟨w.heap.size + 1, 3, none⟩) (by dsimp only; omega) _).setCell (p := ⟨w.heap.size + 1, 4, none⟩) (by dsimp only; omega) _).setCell (p := ⟨w.heap.size + 1, 5, none⟩) (by dsimp only; omega) _).setCell (p := ⟨w.heap.size + 1, 6, none⟩) (by dsimp only; omega) _).setCell (p := ⟨w.heap.size + 1, 7, none⟩) (by dsimp only; omega) _).setCell (p := ⟨w.heap.size + 1, 8, none⟩) (by dsimp only; omega) _).setCell (p := ⟨w.heap.size + 1, 9, none⟩) (by dsimp only; omega) _)
  · have f8 := TO.out.frozen 8
    have d8 : w3.cell? ⟨O, 8, none⟩ = some (.int .i64 x8) := TO.out.cell rfl
    have TO2 := Lib.hid (TO.out.set 8 (.int .i64 0))
    have T12 := Lib.hid (T1.out.other (p := ⟨O, 8, none⟩) (by dsimp only; omega) (.int .i64 0))
    have HG4 := Lib.hid (HG3.out.set (p := ⟨O, 8, none⟩) (.inr zG) (.int .i64 0))
    have HE4 := Lib.hid (HE3.out.setCell (p := ⟨O, 8, none⟩) (by dsimp only; omega) (.int .i64 0))
    have q0 : (w3.setCell ⟨O, 8, none⟩ (.int .i64 0)).cell? ⟨O, 0, none⟩ = some (.int .i64 x0) := TO2.out.cell rfl
    have q1 : (w3.setCell ⟨O, 8, none⟩ (.int .i64 0)).cell? ⟨O, 1, none⟩ = some (.int .i64 x1) := TO2.out.cell rfl
    have q2 : (w3.setCell ⟨O, 8, none⟩ (.int .i64 0)).cell? ⟨O, 2, none⟩ = some (.int .i64 x2) := TO2.out.cell rfl
    have q3 : (w3.setCell ⟨O, 8, none⟩ (.int .i64 0)).cell? ⟨O, 3, none⟩ = some (.int .i64 x3) := TO2.out.cell rfl
    have q4 : (w3.setCell ⟨O, 8, none⟩ (.int .i64 0)).cell? ⟨O, 4, none⟩ = some (.int .i64 x4) := TO2.out.cell rfl
    have q5 : (w3.setCell ⟨O, 8, none⟩ (.int .i64 0)).cell? ⟨O, 5, none⟩ = some (.int .i64 x5) := TO2.out.cell rfl
    have q6 : (w3.setCell ⟨O, 8, none⟩ (.int .i64 0)).cell? ⟨O, 6, none⟩ = some (.int .i64 x6) := TO2.out.cell rfl
    have q7 : (w3.setCell ⟨O, 8, none⟩ (.int .i64 0)).cell? ⟨O, 7, none⟩ = some (.int .i64 x7) := TO2.out.cell rfl
    have q8 : (w3.setCell ⟨O, 8, none⟩ (.int .i64 0)).cell? ⟨O, 8, none⟩ = some (.int .i64 0) := TO2.out.cell rfl
    have q9 : (w3.setCell ⟨O, 8, none⟩ (.int .i64 0)).cell? ⟨O, 9, none⟩ = some (.slice a1 n c1) := TO2.out.cell rfl
    have r0 : (w3.setCell ⟨O, 8, none⟩ (.int .i64 0)).cell? ⟨w.heap.size + 1, 0, none⟩ = some (.int .i64 0) := T12.out.cell rfl
    have g0 := T12.out.frozen 0
    have r1 : (w3.setCell ⟨O, 8, none⟩ (.int .i64 0)).cell? ⟨w.heap.size + 1, 1, none⟩ = some (.int .i64 0) := T12.out.cell rfl
    have g1 := T12.out.frozen 1
    have r2 : (w3.setCell ⟨O, 8, none⟩ (.int .i64 0)).cell? ⟨w.heap.size + 1, 2, none⟩ = some (.int .i64 0) := T12.out.cell rfl
    have g2 := T12.out.frozen 2
    have r3 : (w3.setCell ⟨O, 8, none⟩ (.int .i64 0)).cell? ⟨w.heap.size + 1, 3, none⟩ = some (.int .i64 0) := T12.out.cell rfl
    have g3 := T12.out.frozen 3
    have r4 : (w3.setCell ⟨O, 8, none⟩ (.int .i64 0)).cell? ⟨w.heap.size + 1, 4, none⟩ = some (.int .i64 0) := T12.out.cell rfl
    have g4 := T12.out.frozen 4
    have r5 : (w3.setCell ⟨O, 8, none⟩ (.int .i64 0)).cell? ⟨w.heap.size + 1, 5, none⟩ = some (.int .i64 0) := T12.out.cell rfl
    have g5 := T12.out.frozen 5
    have r6 : (w3.setCell ⟨O, 8, none⟩ (.int .i64 0)).cell? ⟨w.heap.size + 1, 6, none⟩ = some (.int .i64 0) := T12.out.cell rfl
    have g6 := T12.out.frozen 6
    have r7 : (w3.setCell ⟨O, 8, none⟩ (.int .i64 0)).cell? ⟨w.heap.size + 1, 7, none⟩ = some (.int .i64 0) := T12.out.cell rfl
    have g7 := T12.out.frozen 7
    have r8 : (w3.setCell ⟨O, 8, none⟩ (.int .i64 0)).cell? ⟨w.heap.size + 1, 8, none⟩ = some (.int .i64 0) := T12.out.cell rfl
    have g8 := T12.out.frozen 8
    have r9 : (w3.setCell ⟨O, 8, none⟩ (.int .i64 0)).cell? ⟨w.heap.size + 1, 9, none⟩ = some (.slice none 0 0) := T12.out.cell rfl
    have g9 := T12.out.frozen 9
    go_wp2
    refine bodyPost_ret (v := .agg #[.int .i64 x0, .int .i64 x1, .int .i64 x2, .int .i64 x3, .int .i64 x4, .int .i64 x5, .int .i64 x6, .int .i64 x7, .int .i64 0, .slice a1 n c1]) (by simp [results, Try.results51, go_sem, *]) rfl ⟨a1, c1, rfl, ?_, ?_⟩
    · exact (((((((((((HG4.out.set (p := ⟨w.heap.size + 1, 0, none⟩) (.inl (by dsimp only; omega)) _).set (p := ⟨w.heap.size + 1, 1, none⟩) (.inl (by dsimp only; omega)) _).set (p := ⟨w.heap.size + 1, 2, none⟩) (.inl (by dsimp only; omega)) _).set (p := ⟨w.heap.size + 1, 3, none⟩) (.inl (by dsimp only; omega)) _).set (p := ⟨w.heap.size + 1, 4, none⟩) (.inl (by dsimp only; omega)) _).set (p := ⟨w.heap.size + 1, 5, none⟩) (.inl (by dsimp only; omega)) _).set (p := ⟨w.heap.size + 1, 6, none⟩) (.inl (by dsimp only; omega)) _).set (p := ⟨w.heap.size + 1, 7, none⟩) (.inl (by dsimp only; omega)) _).set (p := ⟨w.heap.size + 1, 8, none⟩) (.inl (by dsimp only; omega)) _).set (p := ⟨w.heap.size + 1, 9, none⟩) (.inl (by dsimp only; omega)) _).ownAt).wide (by omega) (by simp only [size_setCell']; omega)
    · exact ((((((((((HE4.out.setCell (p := ⟨w.heap.size + 1, 0, none⟩) (by dsimp only; omega) _).setCell (p := ⟨w.heap.size + 1, 1, none⟩) (by dsimp only; omega) _).setCell (p := ⟨w.heap.size + 1, 2, none⟩) (by dsimp only; omega) _).setCell (p := ⟨w.heap.size + 1, 3, none⟩) (by dsimp only; omega) _).setCell (p := ⟨w.heap.size + 1, 4, none⟩) (by dsimp only; omega) _).setCell (p := ⟨w.heap.size + 1, 5, none⟩) (by dsimp only; omega) _).setCell (p := ⟨w.heap.size + 1, 6, none⟩) (by dsimp only; omega) _).setCell (p := ⟨w.heap.size + 1, 7, none⟩) (by dsimp only; omega) _).setCell (p := ⟨w.heap.size + 1, 8, none⟩) (by dsimp only; omega) _).setCell (p := ⟨w.heap.size + 1, 9, none⟩) (by dsimp only; omega) _)


end Go.Proofs.Ytooedgaaaoinbaa
