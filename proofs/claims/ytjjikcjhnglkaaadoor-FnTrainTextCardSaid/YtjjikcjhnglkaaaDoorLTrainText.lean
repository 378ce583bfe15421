/- The tied card of FnTrainText. -/
import Derived.Test.YtjjikcjhnglkaaaDoorLTrainTextA
namespace Go.Proofs.YtjjikcjhnglkaaaDoor.lawTrainText
open Go.ChangeShapes Go.WideShapes Go.ChangeAt Go.RowKit Go.Joins
theorem hw : Rows.fnTrainTextRow.wfByText (OpenSpec.ofChange Rows.fnTrainTextSpec) = true := by kernel_rfl
theorem hst : Rows.fnTrainTextRow.start = .entering := rfl
theorem hnb : Rows.fnTrainTextRow.noBlocks = false ∧ Rows.fnTrainTextRow.again = false := ⟨rfl, rfl⟩
theorem hm : Tryd.pinned.checked.prog.mainIs = some (true, "fcf586ad2d7ed7ad1b7a6de81cfd07d97204e4079bf230df6bb3852b5a0659f5".toList) := by kernel_rfl
theorem hg : false = Rows.fnTrainTextRow.goesBy Tryd.pinned.checked.prog := by kernel_rfl
theorem hl : ∀ f fn, Tryd.pinned.checked.prog.funcNamed Rows.fnTrainTextRow.func = some f → Tryd.pinned.checked.prog.funcs[f]? = some fn → false = Tryd.pinned.checked.prog.looks [] ∧ ∀ (j : Nat) t, fn.params[j]? = some t → Tryd.pinned.checked.prog.wantsStandIn t = false := fun f fn hf hfn => by
  obtain rfl : f = 5 := Option.some.inj (named.symm.trans hf) |>.symm
  obtain rfl : fn = Tryd.f5 := (Option.some.inj (Tryd.func5.symm.trans hfn)).symm
  exact ⟨by kernel_rfl, fun j t ht => by
    rw [Tryd.params5] at ht
    have hm : t ∈ [37] := by simpa using Array.mem_of_getElem? ht
    have hall : ([37].all fun u => !Tryd.prog.wantsStandIn u) = true := by kernel_rfl
    exact (show Tryd.prog.wantsStandIn t = false by simpa using List.all_eq_true.1 hall t hm)⟩
theorem proved : Rows.FnTrainTextCardSaid :=
  Claim7.holds_tied_plain_at .later (p := Tryd.pinned) (s := OpenSpec.ofChange Rows.fnTrainTextSpec) (c := Rows.fnTrainTextRow) [] [.data, .data, .data, .data, .pinned] true (true, "fcf586ad2d7ed7ad1b7a6de81cfd07d97204e4079bf230df6bb3852b5a0659f5") false
    row_holds (fun _ h => by cases h) hw (fun _ h => by cases h) fnTrainText_row_tie hst hnb hm rfl hl hg
end Go.Proofs.YtjjikcjhnglkaaaDoor.lawTrainText
