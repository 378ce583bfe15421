/- DrawTrain: a valid train, in memory of its own. -/
import Derived.Test.YtjjikcjhnglkaaaDoorProg
import Derived.Test.YtjjikcjhnglkaaaDoorDrawTr
namespace Go.Proofs.YtjjikcjhnglkaaaDoor
open Go.RowKit
set_option linter.unusedSimpArgs false
set_option linter.unusedVariables false

set_option maxRecDepth 100000 in
set_option maxHeartbeats 2000000 in
theorem DrawTrain_any (a : Option Addr) (n c : Nat) (bs : List Int) (w : World) (hn : n = bs.length) (hs : n ≤ 1048576) (hf : BytesAt w a bs) :
    Calls Tryd.prog 16 #[.slice a n c] w fun e w' => ∃ (u : Bool) (a : Option Addr) (c k : Nat) (rows : List (List Bt)), (1 ≤ k ∧ k ≤ 4) ∧ GoodAcc 1 k rows ∧ e = .returned (.agg #[.bool u, .slice a rows.length c]) ∧ OwnRows w' w.heap.size w'.heap.size a rows ∧ Ext w w' := by
  have HF := Lib.hid hf; clear hf
  have HN := Lib.hid hn; clear hn
  have RZ := RowAt.new w 29 #[.bool false, .slice none 0 0]
  have E1 := (Ext.refl w).alloc (.cells #[.bool false, .slice none 0 0] 29)
  go_enter Tryd.func16, Tryd.ntmps16
  go_wp2_with fail
  refine (l01New_any _ _ _ bs _ HN.out hs (HF.out.ext E1)).mono ?_
  rintro e w1 ⟨rfl, hc1⟩
  have HZ1 := Lib.hid (RZ.ext hc1.2.1)
  have X1 := Lib.hid hc1.2.1
  have zc := hc1.lt
  simp only [World.size_alloc] at zc hc1
  have HC1 := Lib.hid hc1
  clear hc1 RZ
  (try dsimp only)
  go_wp2_with fail
  simp only [World.size_alloc]
  refine (l04Train_any _ _ _ bs 1 (by decide) (by decide) HC1.out).mono ?_
  rintro e w2 ⟨u, a2, n2, c2, k, vs, rows, hk, hgood, hn2, rfl, hgr, hc2, ho2⟩
  have HZ2 := HZ1.out.only ho2 (by omega)
  have zs2 := ho2.size
  have hZ0 : w2.cell? ⟨w.heap.size, 0, none⟩ = some (.bool false) := HZ2.cell rfl
  have hZ1 : w2.cell? ⟨w.heap.size, 1, none⟩ = some (.slice none 0 0) := HZ2.cell rfl
  have hf0 := HZ2.frozen 0
  have hf1 := HZ2.frozen 1
  have zz := HZ2.lt
  have HR := Lib.hid (show Ext w w2 from E1.trans (X1.out.only ho2 (by simp)))
  have HGR := Lib.hid hgr
  have HGD := Lib.hid hgood
  clear hgr hgood hc2 ho2 HZ2
  go_wp2
  refine bodyPost_ret (v := .agg #[.bool u, .slice a2 n2 c2]) (by simp [results, Tryd.results16, go_sem, *]) rfl ?_
  obtain ⟨a3, c3, e3, _, how⟩ := (((HGR.out.set (p := ⟨w.heap.size, 0, none⟩) (.inl (by dsimp only; omega)) (.bool u)).set (p := ⟨w.heap.size, 1, none⟩) (.inl (by dsimp only; omega)) (.slice a2 n2 c2)).wide (lo' := w.heap.size) (hi' := ((w2.setCell ⟨w.heap.size, 0, none⟩ (.bool u)).setCell ⟨w.heap.size, 1, none⟩ (.slice a2 n2 c2)).heap.size) (by omega) (by simp [size_setCell'])).own
  injection e3 with q1 q2 q3
  subst q1 q2 q3
  exact ⟨u, a2, c2, k, rows, hk, HGD.out, rfl, how, (HR.out.setCell (by dsimp only; omega) _).setCell (by dsimp only; omega) _⟩
end Go.Proofs.YtjjikcjhnglkaaaDoor
