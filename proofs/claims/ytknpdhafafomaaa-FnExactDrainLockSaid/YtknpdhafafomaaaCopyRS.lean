/- Copies of reaches: the reference's. -/
import Derived.Test.YtknpdhafafomaaaProg
import Derived.Test.YtknpdhafafomaaaCopyR
import Derived.Test.YtknpdhafafomaaaGrowT
namespace Go.Proofs.Ytknpdhafafomaaa
open Go.RowKit
set_option linter.unusedSimpArgs false
set_option linter.unusedVariables false

set_option maxRecDepth 100000 in
set_option maxHeartbeats 1000000 in
theorem l02Copy_any (ta pa : Option Addr) (tn tc pn pc : Nat) (vol : Int) (ps : List Pt) (xs : List Int) (w : World) (ht : tn = ps.length) (hts : tn ≤ 1048576) (hp : pn = xs.length) (hps : pn ≤ 1048576) (hft : FlatAt w ptCells 2 ta ps) (hfp : IntsAt w pa xs) (hct : ta = none → tc = 0) (hcp : pa = none → pc = 0) :
    Calls Try.prog 96 #[.agg #[.slice ta tn tc, .int .i64 vol, .slice pa pn pc]] w fun e w' => ∃ a1 c1 a2 c2, e = .returned (.agg #[.slice a1 tn c1, .int .i64 vol, .slice a2 pn c2]) ∧ OwnReach w' w.heap.size w'.heap.size a1 tn c1 a2 pn c2 ps xs ∧ Ext w w' := by
  have HTN := Lib.hid (show ta = none → tc = 0 ∧ tn = 0 from fun h => ⟨hct h, by rw [ht, pts_none hft h]; rfl⟩)
  have HPN := Lib.hid (show pa = none → pc = 0 ∧ pn = 0 from fun h => ⟨hcp h, by rw [hp, ints_none hfp h]; rfl⟩)
  have HFT := Lib.hid hft; clear hft
  have HFP := Lib.hid hfp; clear hfp
  have HT := Lib.hid ht; clear ht
  have HP := Lib.hid hp; clear hp hct hcp
  have R0 := (RowAt.new w 40 #[.slice ta tn tc, .int .i64 vol, .slice pa pn pc]).ext (((Ext.refl _).alloc (.cells #[.slice none 0 0, .int .i64 0, .slice none 0 0] 40)).alloc (.cells #[] 44))
  have R1 := (RowAt.new (w.alloc (.cells #[.slice ta tn tc, .int .i64 vol, .slice pa pn pc] 40)) 40 #[.slice none 0 0, .int .i64 0, .slice none 0 0]).ext ((Ext.refl _).alloc (.cells #[] 44))
  rw [World.size_alloc] at R1
  have HE0 := Lib.hid ((((Ext.refl w).alloc (.cells #[.slice ta tn tc, .int .i64 vol, .slice pa pn pc] 40)).alloc (.cells #[.slice none 0 0, .int .i64 0, .slice none 0 0] 40)).alloc (.cells #[] 44))
  have HR0 := Lib.hid R0
  have HR1 := Lib.hid R1
  clear R0 R1
  have HL := Lib.hid (show (((w.alloc (.cells #[.slice ta tn tc, .int .i64 vol, .slice pa pn pc] 40)).alloc (.cells #[.slice none 0 0, .int .i64 0, .slice none 0 0] 40)).alloc (.cells #[] 44)).ownsRow (w.heap.size + 1 + 1) 44 2 (.slice (some ⟨w.heap.size + 1 + 1, 0, none⟩) 0 0) 0 [] from by
    have := World.ownsRow_lit (base := w.heap.size + 1 + 1) (e := 44) (size := 2) ((w.alloc (.cells #[.slice ta tn tc, .int .i64 vol, .slice pa pn pc] 40)).alloc (.cells #[.slice none 0 0, .int .i64 0, .slice none 0 0] 40)) #[] 0 (by simp) (by unfold maxLen; omega) rfl
    simpa using this)
  have HFC := Lib.hid (flatPts_cells (HFT.out.ext HE0.out))
  go_enter Try.func96, Try.ntmps96
  go_wp2_with (at_builtin; refine wpList_plain rfl fun K hK => wp_append_any _ _ _ _ 44 rfl (w.heap.size + 1 + 1) _ 2 16 Try.underlying38 info_point rfl (by decide) (.slice (some ⟨w.heap.size + 1 + 1, 0, none⟩) 0 0) 0 [] rfl HL.out ta tn tc rfl (ps.flatMap ptCells) HTN.out (by rw [ptFlat_len, HT.out]) HFC.out (ptFlat_one ps) (by unfold maxLen; omega) (by omega) (by simp) ?_)
  intro v' w5 hown5 hg5' _
  have hg5 : World.grownBy _ w5 (some (w.heap.size + 1 + 1)) := hg5'
  clear hg5'
  have z5 := hg5.size
  simp only [World.size_alloc] at z5
  have HP1 := Lib.hid (PtOwn.of_row (n := tn) HT.out (by simpa using hown5))
  obtain ⟨a1, c1, hv, _⟩ := HP1.out
  rw [← HT.out] at hv
  subst hv
  have X5 := Lib.hid (Ext.own2 HE0.out hg5 HL.out (by omega))
  have S0 := Lib.hid (HR0.out.kept hg5 (fun e => by have := Option.some.inj e; omega))
  have S1 := Lib.hid (HR1.out.kept hg5 (fun e => by have := Option.some.inj e; omega))
  clear hown5 hg5
  refine hK _ _ ?_
  clear hK K
  have k0 : w5.cell? ⟨w.heap.size, 0, none⟩ = some (.slice ta tn tc) := S0.out.cell rfl
  have f0 := S0.out.frozen 0
  have U0 := (S0.out.set 0 (.slice a1 tn c1))
  have U1 := S1.out.other (p := ⟨w.heap.size, 0, none⟩) (by simp) (.slice a1 tn c1)
  have UP := HP1.out.keep (lo' := w.heap.size + 1 + 1) (hi' := w5.heap.size) (Nat.le_refl _) (Nat.le_refl _) (fun B t c h1 h2 hr => hr.other (p := ⟨w.heap.size, 0, none⟩) (by dsimp only; omega) (.slice a1 tn c1))
  have XU := X5.out.setCell (p := ⟨w.heap.size, 0, none⟩) (by dsimp only; omega) (.slice a1 tn c1)
  have zU := size_setCell' w5 ⟨w.heap.size, 0, none⟩ (.slice a1 tn c1)
  have HL2 := Lib.hid (show ((w5.setCell ⟨w.heap.size, 0, none⟩ (.slice a1 tn c1)).alloc (.cells #[] 3)).ownsRow w5.heap.size 3 1 (.slice (some ⟨w5.heap.size, 0, none⟩) 0 0) 0 [] from by
    have := World.ownsRow_lit (base := w5.heap.size) (e := 3) (size := 1) (w5.setCell ⟨w.heap.size, 0, none⟩ (.slice a1 tn c1)) #[] 0 (by rw [zU]; exact Nat.le_refl _) (by unfold maxLen; omega) rfl
    rw [zU] at this
    simpa using this)
  have XV := Lib.hid (XU.alloc (.cells #[] 3))
  have HFC2 := Lib.hid (flatInts_cells (HFP.out.ext XV.out))
  have HFL := Lib.hid (show (xs.flatMap iCells).length = pn * 1 by rw [iFlat_map, List.length_map, HP.out, Nat.mul_one])
  have HFO := Lib.hid (show ∀ u ∈ xs.flatMap iCells, u.oneCell' = true from fun u hu => by
    rw [iFlat_map] at hu
    obtain ⟨x, _, rfl⟩ := List.mem_map.1 hu
    rfl)
  have V0 := Lib.hid (U0.ext ((Ext.refl _).alloc (.cells #[] 3)))
  have V1 := Lib.hid (U1.ext ((Ext.refl _).alloc (.cells #[] 3)))
  have VP := Lib.hid (UP.ext ((Ext.refl _).alloc (.cells #[] 3)))
  have kk2 : ((w5.setCell ⟨w.heap.size, 0, none⟩ (.slice a1 tn c1)).alloc (.cells #[] 3)).cell? ⟨w.heap.size, 2, none⟩ = some (.slice pa pn pc) := V0.out.cell rfl
  clear U0 U1 UP XU
  go_wp2_with (at_builtin; refine wpList_plain rfl fun K hK => wp_append_any _ _ _ _ 3 rfl w5.heap.size _ 1 8 Try.underlying29 info_int2 rfl (by decide) (.slice (some ⟨w5.heap.size, 0, none⟩) 0 0) 0 [] rfl HL2.out pa pn pc rfl (xs.flatMap iCells) HPN.out HFL.out HFC2.out HFO.out (by unfold maxLen; omega) (by omega) (by simp [size_setCell']) ?_)
  intro v2 w6 hown6 hg6' _
  have hg6 : World.grownBy _ w6 (some w5.heap.size) := hg6'
  clear hg6'
  have z6 := hg6.size
  simp only [World.size_alloc, size_setCell'] at z6
  have HP2 := Lib.hid (OwnInts.own (show OwnInts w6 w5.heap.size v2 xs from by unfold OwnInts; rw [← HP.out]; simpa using hown6))
  obtain ⟨a2, c2, hv2, _⟩ := HP2.out
  rw [← HP.out] at hv2
  subst hv2
  have X6 := Lib.hid (Ext.own2 XV.out hg6 HL2.out (by omega))
  have Q0 := Lib.hid (V0.out.kept hg6 (fun e => by have := Option.some.inj e; omega))
  have Q1 := Lib.hid (V1.out.kept hg6 (fun e => by have := Option.some.inj e; omega))
  have QP := Lib.hid (VP.out.keep (lo' := w.heap.size + 1 + 1) (hi' := w5.heap.size) (Nat.le_refl _) (Nat.le_refl _) (fun B t c h1 h2 hr => hr.kept hg6 (fun e => by have := Option.some.inj e; omega)))
  have HO := Lib.hid (OwnReach.mk (lo := w.heap.size + 1 + 1) (hi := w6.heap.size) ⟨by omega, by omega⟩ QP.out HP2.out)
  clear hown6 hg6 kk2 k0 f0
  refine hK _ _ ?_
  clear hK K
  have m2 : w6.cell? ⟨w.heap.size, 2, none⟩ = some (.slice pa pn pc) := Q0.out.cell rfl
  have n2 := Q0.out.frozen 2
  have P0 := Q0.out.set 2 (.slice a2 pn c2)
  have P1 := Q1.out.other (p := ⟨w.heap.size, 2, none⟩) (by simp) (.slice a2 pn c2)
  have p0 : (w6.setCell ⟨w.heap.size, 2, none⟩ (.slice a2 pn c2)).cell? ⟨w.heap.size, 0, none⟩ = some (.slice a1 tn c1) := P0.cell rfl
  have p1 : (w6.setCell ⟨w.heap.size, 2, none⟩ (.slice a2 pn c2)).cell? ⟨w.heap.size, 1, none⟩ = some (.int .i64 vol) := P0.cell rfl
  have p2 : (w6.setCell ⟨w.heap.size, 2, none⟩ (.slice a2 pn c2)).cell? ⟨w.heap.size, 2, none⟩ = some (.slice a2 pn c2) := P0.cell rfl
  have r0 : (w6.setCell ⟨w.heap.size, 2, none⟩ (.slice a2 pn c2)).cell? ⟨w.heap.size + 1, 0, none⟩ = some (.slice none 0 0) := P1.cell rfl
  have r1 : (w6.setCell ⟨w.heap.size, 2, none⟩ (.slice a2 pn c2)).cell? ⟨w.heap.size + 1, 1, none⟩ = some (.int .i64 0) := P1.cell rfl
  have r2 : (w6.setCell ⟨w.heap.size, 2, none⟩ (.slice a2 pn c2)).cell? ⟨w.heap.size + 1, 2, none⟩ = some (.slice none 0 0) := P1.cell rfl
  have g0 := P1.frozen 0
  have g1 := P1.frozen 1
  have g2 := P1.frozen 2
  clear P0 P1
  go_wp2
  refine bodyPost_ret (v := .agg #[.slice a1 tn c1, .int .i64 vol, .slice a2 pn c2]) (by simp [results, Try.results96, go_sem, *]) rfl ⟨a1, c1, a2, c2, rfl, ?_, (((X6.out.setCell (by dsimp only; omega) _).setCell (by dsimp only; omega) _).setCell (by dsimp only; omega) _).setCell (by dsimp only; omega) _⟩
  exact HO.out.keep (by omega) (by simp only [size_setCell']; exact Nat.le_refl _) (fun B t c h1 h2 hr => by
    (repeat' (first | (with_reducible assumption) | (with_reducible refine RowAt.other ?_ ?_ _))) <;> dsimp only <;> omega)
end Go.Proofs.Ytknpdhafafomaaa
