/- The facts on the program's head line (the list of the cut's roots), shown once. -/
import Derived.Test.YtmcmialaofckkaaRows
namespace Go.Proofs.Ytmcmialaofckkaa.Head
set_option maxRecDepth 100000
theorem order : Try.prog.initOrder = "harness 0c0bb2e191b7373a99a4b46535cae19247b80b689fe231ca7f6692de293e8aed cut at loop.example/g03317/laws.FnNobodyWaits loop.example/g03317/laws.FnReformed loop.example/g03317/laws.FnExactIdsOf loop.example/g03317/laws.FnExactDivideTrain loop.example/g03317/laws.FnCoupled loop.example/g03317/laws.FnExactCoupleTrains loop.example/g03317/laws.FnFits loop.example/g03317/laws.FnExactReformTrain loop.example/g03317/laws.FnExactComesBefore loop.example/g03317/laws.FnExactLockOk loop.example/g03317/laws.FnExactChamberLevel loop.example/g03317/laws.FnExactFitsChamber" := by kernel_rfl
theorem spelt : "harness 0c0bb2e191b7373a99a4b46535cae19247b80b689fe231ca7f6692de293e8aed cut at loop.example/g03317/laws.FnNobodyWaits loop.example/g03317/laws.FnReformed loop.example/g03317/laws.FnExactIdsOf loop.example/g03317/laws.FnExactDivideTrain loop.example/g03317/laws.FnCoupled loop.example/g03317/laws.FnExactCoupleTrains loop.example/g03317/laws.FnFits loop.example/g03317/laws.FnExactReformTrain loop.example/g03317/laws.FnExactComesBefore loop.example/g03317/laws.FnExactLockOk loop.example/g03317/laws.FnExactChamberLevel loop.example/g03317/laws.FnExactFitsChamber" = String.ofList ['h', 'a', 'r', 'n', 'e', 's', 's', ' ', '0', 'c', '0', 'b', 'b', '2', 'e', '1', '9', '1', 'b', '7', '3', '7', '3', 'a', '9', '9', 'a', '4', 'b', '4', '6', '5', '3', '5', 'c', 'a', 'e', '1', '9', '2', '4', '7', 'b', '8', '0', 'b', '6', '8', '9', 'f', 'e', '2', '3', '1', 'c', 'a', '7', 'f', '6', '6', '9', '2', 'd', 'e', '2', '9', '3', 'e', '8', 'a', 'e', 'd', ' ', 'c', 'u', 't', ' ', 'a', 't', ' ', 'l', 'o', 'o', 'p', '.', 'e', 'x', 'a', 'm', 'p', 'l', 'e', '/', 'g', '0', '3', '3', '1', '7', '/', 'l', 'a', 'w', 's', '.', 'F', 'n', 'N', 'o', 'b', 'o', 'd', 'y', 'W', 'a', 'i', 't', 's', ' ', 'l', 'o', 'o', 'p', '.', 'e', 'x', 'a', 'm', 'p', 'l', 'e', '/', 'g', '0', '3', '3', '1', '7', '/', 'l', 'a', 'w', 's', '.', 'F', 'n', 'R', 'e', 'f', 'o', 'r', 'm', 'e', 'd', ' ', 'l', 'o', 'o', 'p', '.', 'e', 'x', 'a', 'm', 'p', 'l', 'e', '/', 'g', '0', '3', '3', '1', '7', '/', 'l', 'a', 'w', 's', '.', 'F', 'n', 'E', 'x', 'a', 'c', 't', 'I', 'd', 's', 'O', 'f', ' ', 'l', 'o', 'o', 'p', '.', 'e', 'x', 'a', 'm', 'p', 'l', 'e', '/', 'g', '0', '3', '3', '1', '7', '/', 'l', 'a', 'w', 's', '.', 'F', 'n', 'E', 'x', 'a', 'c', 't', 'D', 'i', 'v', 'i', 'd', 'e', 'T', 'r', 'a', 'i', 'n', ' ', 'l', 'o', 'o', 'p', '.', 'e', 'x', 'a', 'm', 'p', 'l', 'e', '/', 'g', '0', '3', '3', '1', '7', '/', 'l', 'a', 'w', 's', '.', 'F', 'n', 'C', 'o', 'u', 'p', 'l', 'e', 'd', ' ', 'l', 'o', 'o', 'p', '.', 'e', 'x', 'a', 'm', 'p', 'l', 'e', '/', 'g', '0', '3', '3', '1', '7', '/', 'l', 'a', 'w', 's', '.', 'F', 'n', 'E', 'x', 'a', 'c', 't', 'C', 'o', 'u', 'p', 'l', 'e', 'T', 'r', 'a', 'i', 'n', 's', ' ', 'l', 'o', 'o', 'p', '.', 'e', 'x', 'a', 'm', 'p', 'l', 'e', '/', 'g', '0', '3', '3', '1', '7', '/', 'l', 'a', 'w', 's', '.', 'F', 'n', 'F', 'i', 't', 's', ' ', 'l', 'o', 'o', 'p', '.', 'e', 'x', 'a', 'm', 'p', 'l', 'e', '/', 'g', '0', '3', '3', '1', '7', '/', 'l', 'a', 'w', 's', '.', 'F', 'n', 'E', 'x', 'a', 'c', 't', 'R', 'e', 'f', 'o', 'r', 'm', 'T', 'r', 'a', 'i', 'n', ' ', 'l', 'o', 'o', 'p', '.', 'e', 'x', 'a', 'm', 'p', 'l', 'e', '/', 'g', '0', '3', '3', '1', '7', '/', 'l', 'a', 'w', 's', '.', 'F', 'n', 'E', 'x', 'a', 'c', 't', 'C', 'o', 'm', 'e', 's', 'B', 'e', 'f', 'o', 'r', 'e', ' ', 'l', 'o', 'o', 'p', '.', 'e', 'x', 'a', 'm', 'p', 'l', 'e', '/', 'g', '0', '3', '3', '1', '7', '/', 'l', 'a', 'w', 's', '.', 'F', 'n', 'E', 'x', 'a', 'c', 't', 'L', 'o', 'c', 'k', 'O', 'k', ' ', 'l', 'o', 'o', 'p', '.', 'e', 'x', 'a', 'm', 'p', 'l', 'e', '/', 'g', '0', '3', '3', '1', '7', '/', 'l', 'a', 'w', 's', '.', 'F', 'n', 'E', 'x', 'a', 'c', 't', 'C', 'h', 'a', 'm', 'b', 'e', 'r', 'L', 'e', 'v', 'e', 'l', ' ', 'l', 'o', 'o', 'p', '.', 'e', 'x', 'a', 'm', 'p', 'l', 'e', '/', 'g', '0', '3', '3', '1', '7', '/', 'l', 'a', 'w', 's', '.', 'F', 'n', 'E', 'x', 'a', 'c', 't', 'F', 'i', 't', 's', 'C', 'h', 'a', 'm', 'b', 'e', 'r'] := rfl
theorem signs : ∃ rest, Try.prog.initOrder.toList = ['h', 'a', 'r', 'n', 'e', 's', 's'] ++ ' ' :: (['0', 'c', '0', 'b', 'b', '2', 'e', '1', '9', '1', 'b', '7', '3', '7', '3', 'a', '9', '9', 'a', '4', 'b', '4', '6', '5', '3', '5', 'c', 'a', 'e', '1', '9', '2', '4', '7', 'b', '8', '0', 'b', '6', '8', '9', 'f', 'e', '2', '3', '1', 'c', 'a', '7', 'f', '6', '6', '9', '2', 'd', 'e', '2', '9', '3', 'e', '8', 'a', 'e', 'd'] ++ ' ' :: (['c', 'u', 't'] ++ ' ' :: rest)) := ⟨_, (congrArg String.toList (order.trans spelt)).trans String.toList_ofList⟩
theorem words_append : ∀ (xs ys : List Char), wordsSigns (xs ++ ' ' :: ys) = wordsSigns xs ++ wordsSigns ys
  | [], ys => by simp [wordsSigns]
  | c :: xs, ys => by
    have ih := words_append xs ys
    by_cases hc : c = ' '
    · subst hc
      simp only [List.cons_append, wordsSigns, ih]
    · have ne : wordsSigns xs ≠ [] := by
        cases xs with
        | nil => simp [wordsSigns]
        | cons d ds => unfold wordsSigns; split <;> (try split) <;> simp_all
      have e1 : ∀ zs, wordsSigns (c :: zs) = (match wordsSigns zs with | w :: ws => (c :: w) :: ws | [] => [[c]]) := fun zs => by
        conv => lhs; unfold wordsSigns
        split
        · simp_all
        · simp_all
        · rename_i h; cases h; rfl
      rw [List.cons_append, e1, e1, ih]
      cases hx : wordsSigns xs with
      | nil => exact absurd hx ne
      | cons w ws => simp
theorem words_cons (c : Char) (hc : c ≠ ' ') (zs : List Char) : wordsSigns (c :: zs) = (match wordsSigns zs with | w :: ws => (c :: w) :: ws | [] => [[c]]) := by
  conv => lhs; unfold wordsSigns
  split
  · simp_all
  · simp_all
  · rename_i h; cases h; rfl
theorem words_one : ∀ (cs : List Char), cs.all (fun c => c != ' ') = true → wordsSigns cs = [cs]
  | [], _ => by simp [wordsSigns]
  | c :: cs, h => by
    rw [List.all_cons, Bool.and_eq_true] at h
    rw [words_cons c (by simpa using h.1), words_one cs h.2]
/-- The words of the head line: the roots are left out of sight. -/
theorem words : ∃ R, wordsSigns Try.prog.initOrder.toList = ['h', 'a', 'r', 'n', 'e', 's', 's'] :: ['0', 'c', '0', 'b', 'b', '2', 'e', '1', '9', '1', 'b', '7', '3', '7', '3', 'a', '9', '9', 'a', '4', 'b', '4', '6', '5', '3', '5', 'c', 'a', 'e', '1', '9', '2', '4', '7', 'b', '8', '0', 'b', '6', '8', '9', 'f', 'e', '2', '3', '1', 'c', 'a', '7', 'f', '6', '6', '9', '2', 'd', 'e', '2', '9', '3', 'e', '8', 'a', 'e', 'd'] :: ['c', 'u', 't'] :: R := by
  obtain ⟨rest, h⟩ := signs
  refine ⟨wordsSigns rest, ?_⟩
  rw [h, words_append, words_append, words_append, words_one _ (by kernel_rfl), words_one ['0', 'c', '0', 'b', 'b', '2', 'e', '1', '9', '1', 'b', '7', '3', '7', '3', 'a', '9', '9', 'a', '4', 'b', '4', '6', '5', '3', '5', 'c', 'a', 'e', '1', '9', '2', '4', '7', 'b', '8', '0', 'b', '6', '8', '9', 'f', 'e', '2', '3', '1', 'c', 'a', '7', 'f', '6', '6', '9', '2', 'd', 'e', '2', '9', '3', 'e', '8', 'a', 'e', 'd'] (by kernel_rfl), words_one ['c', 'u', 't'] (by kernel_rfl)]
  rfl
theorem behind : ∃ R, behindMainWord (wordsSigns Try.prog.initOrder.toList) = ['c', 'u', 't'] :: R := by
  obtain ⟨R, h⟩ := words
  rw [h]
  exact ⟨R, by kernel_rfl⟩
theorem liftsFinal : Try.prog.liftsFinal = false := by
  unfold Program.liftsFinal Program.headLifts
  obtain ⟨R, h⟩ := behind
  rw [h]
  kernel_rfl
theorem make_of {P : Program} {R : List (List Char)} (h : behindMainWord (wordsSigns P.initOrder.toList) = ['c', 'u', 't'] :: R) : P.make = some .cut := by
  unfold Program.make
  rw [h]
  rfl
theorem strip_cut (R : List (List Char)) : stripLifts liftWords (['c', 'u', 't'] :: R) = ([], ['c', 'u', 't'] :: R) := by kernel_rfl
theorem mayEnter_of {P : Program} {R : List (List Char)} (h : behindMainWord (wordsSigns P.initOrder.toList) = ['c', 'u', 't'] :: R) (h1 : P.laysLater = false) (h2 : P.bearsReflect = false) (h3 : P.doorFits [] = true) : P.mayEnter = true := by
  unfold Program.mayEnter
  rw [h]
  simp only [strip_cut, h1, h2, h3]
  have e : ((['c', 'u', 't'] :: R).head? == some "cut".toList) = true := by kernel_rfl
  rw [e]
  simp
theorem make : Try.prog.make = some .cut := by
  obtain ⟨R, h⟩ := behind
  exact make_of h
theorem laysLater : Try.prog.laysLater = false := by kernel_rfl
theorem bearsReflect : Try.prog.bearsReflect = false := by kernel_rfl
theorem doorFits : Try.prog.doorFits [] = true := by kernel_rfl
theorem mayEnter : Try.prog.mayEnter = true := by
  obtain ⟨R, h⟩ := behind
  exact mayEnter_of h laysLater bearsReflect doorFits
theorem laidOut : laidOutB Try.prog = true := by kernel_rfl
theorem mapsRowed : mapsRowed Try.prog = true := by kernel_rfl
theorem plainKeys : Try.prog.plainKeys = true := by kernel_rfl
theorem stopsHeard : Try.prog.stopsHeard = true := by kernel_rfl
end Go.Proofs.Ytmcmialaofckkaa.Head
