/- The tied card of FnExactParseTrain. -/
import Derived.Test.YtjjikcjhnglkaaaDoorFParseTrainA
namespace Go.Proofs.YtjjikcjhnglkaaaDoor.lawParseTrain
open Go.ChangeShapes Go.WideShapes Go.ChangeAt Go.RowKit Go.Joins
theorem hw : Rows.fnExactParseTrainRow.wfByText (OpenSpec.ofChange Rows.fnExactParseTrainSpec) = true := by kernel_rfl
theorem hst : Rows.fnExactParseTrainRow.start = .entering := rfl
theorem hnb : Rows.fnExactParseTrainRow.noBlocks = false ∧ Rows.fnExactParseTrainRow.again = false := ⟨rfl, rfl⟩
theorem hm : Tryd.pinned.checked.prog.mainIs = some (true, "fcf586ad2d7ed7ad1b7a6de81cfd07d97204e4079bf230df6bb3852b5a0659f5".toList) := by kernel_rfl
theorem hg : false = Rows.fnExactParseTrainRow.goesBy Tryd.pinned.checked.prog := by kernel_rfl
theorem hl : ∀ f fn, Tryd.pinned.checked.prog.funcNamed Rows.fnExactParseTrainRow.func = some f → Tryd.pinned.checked.prog.funcs[f]? = some fn → false = Tryd.pinned.checked.prog.looks [] ∧ ∀ (j : Nat) t, fn.params[j]? = some t → Tryd.pinned.checked.prog.wantsStandIn t = false := fun f fn hf hfn => by
  obtain rfl : f = 4 := Option.some.inj (named.symm.trans hf) |>.symm
  obtain rfl : fn = Tryd.f4 := (Option.some.inj (Tryd.func4.symm.trans hfn)).symm
  exact ⟨by kernel_rfl, fun j t ht => by
    rw [Tryd.params4] at ht
    have hm : t ∈ [9] := by simpa using Array.mem_of_getElem? ht
    have hall : ([9].all fun u => !Tryd.prog.wantsStandIn u) = true := by kernel_rfl
    exact (show Tryd.prog.wantsStandIn t = false by simpa using List.all_eq_true.1 hall t hm)⟩
theorem proved : Rows.FnExactParseTrainCardSaid :=
  Claim7.holds_tied_plain_at .later (p := Tryd.pinned) (s := OpenSpec.ofChange Rows.fnExactParseTrainSpec) (c := Rows.fnExactParseTrainRow) [] [.data, .pinned] true (true, "fcf586ad2d7ed7ad1b7a6de81cfd07d97204e4079bf230df6bb3852b5a0659f5") false
    row_holds (fun _ h => by cases h) hw (fun _ h => by cases h) fnExactParseTrain_row_tie hst hnb hm rfl hl hg
end Go.Proofs.YtjjikcjhnglkaaaDoor.lawParseTrain
