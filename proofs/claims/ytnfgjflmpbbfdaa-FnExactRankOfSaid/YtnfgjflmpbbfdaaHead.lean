/- The facts on the program's head line (the list of the cut's roots), shown once. -/
import Derived.Test.YtnfgjflmpbbfdaaRows
namespace Go.Proofs.Ytnfgjflmpbbfdaa.Head
set_option maxRecDepth 100000
theorem order : Try.prog.initOrder = "harness 4adba1649147ebe301f5eb683562f1901ecae33508440fd1ea4baff6d53d4f1b cut at loop.example/g03317/laws.FnBestEntry loop.example/g03317/laws.FnNobodyWaits loop.example/g03317/laws.FnReformed loop.example/g03317/laws.FnExactTrainOk loop.example/g03317/laws.FnExactLengthOf loop.example/g03317/laws.FnLockage loop.example/g03317/laws.FnExactWidthOf loop.example/g03317/laws.FnExactDraughtOf loop.example/g03317/laws.FnExactClassOf loop.example/g03317/laws.FnExactSpeedOf loop.example/g03317/laws.FnExactCallOk loop.example/g03317/laws.FnExactRankOf loop.example/g03317/laws.FnExactIdsOf loop.example/g03317/laws.FnExactDivideTrain loop.example/g03317/laws.FnCoupled loop.example/g03317/laws.FnExactCoupleTrains loop.example/g03317/laws.FnFits loop.example/g03317/laws.FnExactReformTrain loop.example/g03317/laws.FnExactComesBefore loop.example/g03317/laws.FnCallOrder loop.example/g03317/laws.FnExactLockOk loop.example/g03317/laws.FnExactChamberLevel loop.example/g03317/laws.FnExactFitsChamber loop.example/g03317/laws.FnExactShutGate loop.example/g03317/laws.FnDepthOverSills loop.example/g03317/laws.FnExactBestEntry loop.example/g03317/laws.FnExactMayEnter loop.example/g03317/laws.FnExactOpenGate loop.example/g03317/laws.FnExactLeaveLock loop.example/g03317/laws.FnExactFillLock loop.example/g03317/laws.FnExactDrainLock loop.example/g03317/laws.FnExactEnterLock" := by kernel_rfl
theorem spelt : "harness 4adba1649147ebe301f5eb683562f1901ecae33508440fd1ea4baff6d53d4f1b cut at loop.example/g03317/laws.FnBestEntry loop.example/g03317/laws.FnNobodyWaits loop.example/g03317/laws.FnReformed loop.example/g03317/laws.FnExactTrainOk loop.example/g03317/laws.FnExactLengthOf loop.example/g03317/laws.FnLockage loop.example/g03317/laws.FnExactWidthOf loop.example/g03317/laws.FnExactDraughtOf loop.example/g03317/laws.FnExactClassOf loop.example/g03317/laws.FnExactSpeedOf loop.example/g03317/laws.FnExactCallOk loop.example/g03317/laws.FnExactRankOf loop.example/g03317/laws.FnExactIdsOf loop.example/g03317/laws.FnExactDivideTrain loop.example/g03317/laws.FnCoupled loop.example/g03317/laws.FnExactCoupleTrains loop.example/g03317/laws.FnFits loop.example/g03317/laws.FnExactReformTrain loop.example/g03317/laws.FnExactComesBefore loop.example/g03317/laws.FnCallOrder loop.example/g03317/laws.FnExactLockOk loop.example/g03317/laws.FnExactChamberLevel loop.example/g03317/laws.FnExactFitsChamber loop.example/g03317/laws.FnExactShutGate loop.example/g03317/laws.FnDepthOverSills loop.example/g03317/laws.FnExactBestEntry loop.example/g03317/laws.FnExactMayEnter loop.example/g03317/laws.FnExactOpenGate loop.example/g03317/laws.FnExactLeaveLock loop.example/g03317/laws.FnExactFillLock loop.example/g03317/laws.FnExactDrainLock loop.example/g03317/laws.FnExactEnterLock" = String.ofList ['h', 'a', 'r', 'n', 'e', 's', 's', ' ', '4', 'a', 'd', 'b', 'a', '1', '6', '4', '9', '1', '4', '7', 'e', 'b', 'e', '3', '0', '1', 'f', '5', 'e', 'b', '6', '8', '3', '5', '6', '2', 'f', '1', '9', '0', '1', 'e', 'c', 'a', 'e', '3', '3', '5', '0', '8', '4', '4', '0', 'f', 'd', '1', 'e', 'a', '4', 'b', 'a', 'f', 'f', '6', 'd', '5', '3', 'd', '4', 'f', '1', 'b', ' ', 'c', 'u', 't', ' ', 'a', 't', ' ', 'l', 'o', 'o', 'p', '.', 'e', 'x', 'a', 'm', 'p', 'l', 'e', '/', 'g', '0', '3', '3', '1', '7', '/', 'l', 'a', 'w', 's', '.', 'F', 'n', 'B', 'e', 's', 't', 'E', 'n', 't', 'r', 'y', ' ', 'l', 'o', 'o', 'p', '.', 'e', 'x', 'a', 'm', 'p', 'l', 'e', '/', 'g', '0', '3', '3', '1', '7', '/', 'l', 'a', 'w', 's', '.', 'F', 'n', 'N', 'o', 'b', 'o', 'd', 'y', 'W', 'a', 'i', 't', 's', ' ', 'l', 'o', 'o', 'p', '.', 'e', 'x', 'a', 'm', 'p', 'l', 'e', '/', 'g', '0', '3', '3', '1', '7', '/', 'l', 'a', 'w', 's', '.', 'F', 'n', 'R', 'e', 'f', 'o', 'r', 'm', 'e', 'd', ' ', 'l', 'o', 'o', 'p', '.', 'e', 'x', 'a', 'm', 'p', 'l', 'e', '/', 'g', '0', '3', '3', '1', '7', '/', 'l', 'a', 'w', 's', '.', 'F', 'n', 'E', 'x', 'a', 'c', 't', 'T', 'r', 'a', 'i', 'n', 'O', 'k', ' ', 'l', 'o', 'o', 'p', '.', 'e', 'x', 'a', 'm', 'p', 'l', 'e', '/', 'g', '0', '3', '3', '1', '7', '/', 'l', 'a', 'w', 's', '.', 'F', 'n', 'E', 'x', 'a', 'c', 't', 'L', 'e', 'n', 'g', 't', 'h', 'O', 'f', ' ', 'l', 'o', 'o', 'p', '.', 'e', 'x', 'a', 'm', 'p', 'l', 'e', '/', 'g', '0', '3', '3', '1', '7', '/', 'l', 'a', 'w', 's', '.', 'F', 'n', 'L', 'o', 'c', 'k', 'a', 'g', 'e', ' ', 'l', 'o', 'o', 'p', '.', 'e', 'x', 'a', 'm', 'p', 'l', 'e', '/', 'g', '0', '3', '3', '1', '7', '/', 'l', 'a', 'w', 's', '.', 'F', 'n', 'E', 'x', 'a', 'c', 't', 'W', 'i', 'd', 't', 'h', 'O', 'f', ' ', 'l', 'o', 'o', 'p', '.', 'e', 'x', 'a', 'm', 'p', 'l', 'e', '/', 'g', '0', '3', '3', '1', '7', '/', 'l', 'a', 'w', 's', '.', 'F', 'n', 'E', 'x', 'a', 'c', 't', 'D', 'r', 'a', 'u', 'g', 'h', 't', 'O', 'f', ' ', 'l', 'o', 'o', 'p', '.', 'e', 'x', 'a', 'm', 'p', 'l', 'e', '/', 'g', '0', '3', '3', '1', '7', '/', 'l', 'a', 'w', 's', '.', 'F', 'n', 'E', 'x', 'a', 'c', 't', 'C', 'l', 'a', 's', 's', 'O', 'f', ' ', 'l', 'o', 'o', 'p', '.', 'e', 'x', 'a', 'm', 'p', 'l', 'e', '/', 'g', '0', '3', '3', '1', '7', '/', 'l', 'a', 'w', 's', '.', 'F', 'n', 'E', 'x', 'a', 'c', 't', 'S', 'p', 'e', 'e', 'd', 'O', 'f', ' ', 'l', 'o', 'o', 'p', '.', 'e', 'x', 'a', 'm', 'p', 'l', 'e', '/', 'g', '0', '3', '3', '1', '7', '/', 'l', 'a', 'w', 's', '.', 'F', 'n', 'E', 'x', 'a', 'c', 't', 'C', 'a', 'l', 'l', 'O', 'k', ' ', 'l', 'o', 'o', 'p', '.', 'e', 'x', 'a', 'm', 'p', 'l', 'e', '/', 'g', '0', '3', '3', '1', '7', '/', 'l', 'a', 'w', 's', '.', 'F', 'n', 'E', 'x', 'a', 'c', 't', 'R', 'a', 'n', 'k', 'O', 'f', ' ', 'l', 'o', 'o', 'p', '.', 'e', 'x', 'a', 'm', 'p', 'l', 'e', '/', 'g', '0', '3', '3', '1', '7', '/', 'l', 'a', 'w', 's', '.', 'F', 'n', 'E', 'x', 'a', 'c', 't', 'I', 'd', 's', 'O', 'f', ' ', 'l', 'o', 'o', 'p', '.', 'e', 'x', 'a', 'm', 'p', 'l', 'e', '/', 'g', '0', '3', '3', '1', '7', '/', 'l', 'a', 'w', 's', '.', 'F', 'n', 'E', 'x', 'a', 'c', 't', 'D', 'i', 'v', 'i', 'd', 'e', 'T', 'r', 'a', 'i', 'n', ' ', 'l', 'o', 'o', 'p', '.', 'e', 'x', 'a', 'm', 'p', 'l', 'e', '/', 'g', '0', '3', '3', '1', '7', '/', 'l', 'a', 'w', 's', '.', 'F', 'n', 'C', 'o', 'u', 'p', 'l', 'e', 'd', ' ', 'l', 'o', 'o', 'p', '.', 'e', 'x', 'a', 'm', 'p', 'l', 'e', '/', 'g', '0', '3', '3', '1', '7', '/', 'l', 'a', 'w', 's', '.', 'F', 'n', 'E', 'x', 'a', 'c', 't', 'C', 'o', 'u', 'p', 'l', 'e', 'T', 'r', 'a', 'i', 'n', 's', ' ', 'l', 'o', 'o', 'p', '.', 'e', 'x', 'a', 'm', 'p', 'l', 'e', '/', 'g', '0', '3', '3', '1', '7', '/', 'l', 'a', 'w', 's', '.', 'F', 'n', 'F', 'i', 't', 's', ' ', 'l', 'o', 'o', 'p', '.', 'e', 'x', 'a', 'm', 'p', 'l', 'e', '/', 'g', '0', '3', '3', '1', '7', '/', 'l', 'a', 'w', 's', '.', 'F', 'n', 'E', 'x', 'a', 'c', 't', 'R', 'e', 'f', 'o', 'r', 'm', 'T', 'r', 'a', 'i', 'n', ' ', 'l', 'o', 'o', 'p', '.', 'e', 'x', 'a', 'm', 'p', 'l', 'e', '/', 'g', '0', '3', '3', '1', '7', '/', 'l', 'a', 'w', 's', '.', 'F', 'n', 'E', 'x', 'a', 'c', 't', 'C', 'o', 'm', 'e', 's', 'B', 'e', 'f', 'o', 'r', 'e', ' ', 'l', 'o', 'o', 'p', '.', 'e', 'x', 'a', 'm', 'p', 'l', 'e', '/', 'g', '0', '3', '3', '1', '7', '/', 'l', 'a', 'w', 's', '.', 'F', 'n', 'C', 'a', 'l', 'l', 'O', 'r', 'd', 'e', 'r', ' ', 'l', 'o', 'o', 'p', '.', 'e', 'x', 'a', 'm', 'p', 'l', 'e', '/', 'g', '0', '3', '3', '1', '7', '/', 'l', 'a', 'w', 's', '.', 'F', 'n', 'E', 'x', 'a', 'c', 't', 'L', 'o', 'c', 'k', 'O', 'k', ' ', 'l', 'o', 'o', 'p', '.', 'e', 'x', 'a', 'm', 'p', 'l', 'e', '/', 'g', '0', '3', '3', '1', '7', '/', 'l', 'a', 'w', 's', '.', 'F', 'n', 'E', 'x', 'a', 'c', 't', 'C', 'h', 'a', 'm', 'b', 'e', 'r', 'L', 'e', 'v', 'e', 'l', ' ', 'l', 'o', 'o', 'p', '.', 'e', 'x', 'a', 'm', 'p', 'l', 'e', '/', 'g', '0', '3', '3', '1', '7', '/', 'l', 'a', 'w', 's', '.', 'F', 'n', 'E', 'x', 'a', 'c', 't', 'F', 'i', 't', 's', 'C', 'h', 'a', 'm', 'b', 'e', 'r', ' ', 'l', 'o', 'o', 'p', '.', 'e', 'x', 'a', 'm', 'p', 'l', 'e', '/', 'g', '0', '3', '3', '1', '7', '/', 'l', 'a', 'w', 's', '.', 'F', 'n', 'E', 'x', 'a', 'c', 't', 'S', 'h', 'u', 't', 'G', 'a', 't', 'e', ' ', 'l', 'o', 'o', 'p', '.', 'e', 'x', 'a', 'm', 'p', 'l', 'e', '/', 'g', '0', '3', '3', '1', '7', '/', 'l', 'a', 'w', 's', '.', 'F', 'n', 'D', 'e', 'p', 't', 'h', 'O', 'v', 'e', 'r', 'S', 'i', 'l', 'l', 's', ' ', 'l', 'o', 'o', 'p', '.', 'e', 'x', 'a', 'm', 'p', 'l', 'e', '/', 'g', '0', '3', '3', '1', '7', '/', 'l', 'a', 'w', 's', '.', 'F', 'n', 'E', 'x', 'a', 'c', 't', 'B', 'e', 's', 't', 'E', 'n', 't', 'r', 'y', ' ', 'l', 'o', 'o', 'p', '.', 'e', 'x', 'a', 'm', 'p', 'l', 'e', '/', 'g', '0', '3', '3', '1', '7', '/', 'l', 'a', 'w', 's', '.', 'F', 'n', 'E', 'x', 'a', 'c', 't', 'M', 'a', 'y', 'E', 'n', 't', 'e', 'r', ' ', 'l', 'o', 'o', 'p', '.', 'e', 'x', 'a', 'm', 'p', 'l', 'e', '/', 'g', '0', '3', '3', '1', '7', '/', 'l', 'a', 'w', 's', '.', 'F', 'n', 'E', 'x', 'a', 'c', 't', 'O', 'p', 'e', 'n', 'G', 'a', 't', 'e', ' ', 'l', 'o', 'o', 'p', '.', 'e', 'x', 'a', 'm', 'p', 'l', 'e', '/', 'g', '0', '3', '3', '1', '7', '/', 'l', 'a', 'w', 's', '.', 'F', 'n', 'E', 'x', 'a', 'c', 't', 'L', 'e', 'a', 'v', 'e', 'L', 'o', 'c', 'k', ' ', 'l', 'o', 'o', 'p', '.', 'e', 'x', 'a', 'm', 'p', 'l', 'e', '/', 'g', '0', '3', '3', '1', '7', '/', 'l', 'a', 'w', 's', '.', 'F', 'n', 'E', 'x', 'a', 'c', 't', 'F', 'i', 'l', 'l', 'L', 'o', 'c', 'k', ' ', 'l', 'o', 'o', 'p', '.', 'e', 'x', 'a', 'm', 'p', 'l', 'e', '/', 'g', '0', '3', '3', '1', '7', '/', 'l', 'a', 'w', 's', '.', 'F', 'n', 'E', 'x', 'a', 'c', 't', 'D', 'r', 'a', 'i', 'n', 'L', 'o', 'c', 'k', ' ', 'l', 'o', 'o', 'p', '.', 'e', 'x', 'a', 'm', 'p', 'l', 'e', '/', 'g', '0', '3', '3', '1', '7', '/', 'l', 'a', 'w', 's', '.', 'F', 'n', 'E', 'x', 'a', 'c', 't', 'E', 'n', 't', 'e', 'r', 'L', 'o', 'c', 'k'] := rfl
theorem signs : ∃ rest, Try.prog.initOrder.toList = ['h', 'a', 'r', 'n', 'e', 's', 's'] ++ ' ' :: (['4', 'a', 'd', 'b', 'a', '1', '6', '4', '9', '1', '4', '7', 'e', 'b', 'e', '3', '0', '1', 'f', '5', 'e', 'b', '6', '8', '3', '5', '6', '2', 'f', '1', '9', '0', '1', 'e', 'c', 'a', 'e', '3', '3', '5', '0', '8', '4', '4', '0', 'f', 'd', '1', 'e', 'a', '4', 'b', 'a', 'f', 'f', '6', 'd', '5', '3', 'd', '4', 'f', '1', 'b'] ++ ' ' :: (['c', 'u', 't'] ++ ' ' :: rest)) := ⟨_, (congrArg String.toList (order.trans spelt)).trans String.toList_ofList⟩
theorem words_append : ∀ (xs ys : List Char), wordsSigns (xs ++ ' ' :: ys) = wordsSigns xs ++ wordsSigns ys
  | [], ys => by simp [wordsSigns]
  | c :: xs, ys => by
    have ih := words_append xs ys
    by_cases hc : c = ' '
    · subst hc
      simp only [List.cons_append, wordsSigns, ih]
    · have ne : wordsSigns xs ≠ [] := by
        cases xs with
        | nil => simp [wordsSigns]
        | cons d ds => unfold wordsSigns; split <;> (try split) <;> simp_all
      have e1 : ∀ zs, wordsSigns (c :: zs) = (match wordsSigns zs with | w :: ws => (c :: w) :: ws | [] => [[c]]) := fun zs => by
        conv => lhs; unfold wordsSigns
        split
        · simp_all
        · simp_all
        · rename_i h; cases h; rfl
      rw [List.cons_append, e1, e1, ih]
      cases hx : wordsSigns xs with
      | nil => exact absurd hx ne
      | cons w ws => simp
theorem words_cons (c : Char) (hc : c ≠ ' ') (zs : List Char) : wordsSigns (c :: zs) = (match wordsSigns zs with | w :: ws => (c :: w) :: ws | [] => [[c]]) := by
  conv => lhs; unfold wordsSigns
  split
  · simp_all
  · simp_all
  · rename_i h; cases h; rfl
theorem words_one : ∀ (cs : List Char), cs.all (fun c => c != ' ') = true → wordsSigns cs = [cs]
  | [], _ => by simp [wordsSigns]
  | c :: cs, h => by
    rw [List.all_cons, Bool.and_eq_true] at h
    rw [words_cons c (by simpa using h.1), words_one cs h.2]
/-- The words of the head line: the roots are left out of sight. -/
theorem words : ∃ R, wordsSigns Try.prog.initOrder.toList = ['h', 'a', 'r', 'n', 'e', 's', 's'] :: ['4', 'a', 'd', 'b', 'a', '1', '6', '4', '9', '1', '4', '7', 'e', 'b', 'e', '3', '0', '1', 'f', '5', 'e', 'b', '6', '8', '3', '5', '6', '2', 'f', '1', '9', '0', '1', 'e', 'c', 'a', 'e', '3', '3', '5', '0', '8', '4', '4', '0', 'f', 'd', '1', 'e', 'a', '4', 'b', 'a', 'f', 'f', '6', 'd', '5', '3', 'd', '4', 'f', '1', 'b'] :: ['c', 'u', 't'] :: R := by
  obtain ⟨rest, h⟩ := signs
  refine ⟨wordsSigns rest, ?_⟩
  rw [h, words_append, words_append, words_append, words_one _ (by kernel_rfl), words_one ['4', 'a', 'd', 'b', 'a', '1', '6', '4', '9', '1', '4', '7', 'e', 'b', 'e', '3', '0', '1', 'f', '5', 'e', 'b', '6', '8', '3', '5', '6', '2', 'f', '1', '9', '0', '1', 'e', 'c', 'a', 'e', '3', '3', '5', '0', '8', '4', '4', '0', 'f', 'd', '1', 'e', 'a', '4', 'b', 'a', 'f', 'f', '6', 'd', '5', '3', 'd', '4', 'f', '1', 'b'] (by kernel_rfl), words_one ['c', 'u', 't'] (by kernel_rfl)]
  rfl
theorem behind : ∃ R, behindMainWord (wordsSigns Try.prog.initOrder.toList) = ['c', 'u', 't'] :: R := by
  obtain ⟨R, h⟩ := words
  rw [h]
  exact ⟨R, by kernel_rfl⟩
theorem liftsFinal : Try.prog.liftsFinal = false := by
  unfold Program.liftsFinal Program.headLifts
  obtain ⟨R, h⟩ := behind
  rw [h]
  kernel_rfl
theorem make_of {P : Program} {R : List (List Char)} (h : behindMainWord (wordsSigns P.initOrder.toList) = ['c', 'u', 't'] :: R) : P.make = some .cut := by
  unfold Program.make
  rw [h]
  rfl
theorem strip_cut (R : List (List Char)) : stripLifts liftWords (['c', 'u', 't'] :: R) = ([], ['c', 'u', 't'] :: R) := by kernel_rfl
theorem mayEnter_of {P : Program} {R : List (List Char)} (h : behindMainWord (wordsSigns P.initOrder.toList) = ['c', 'u', 't'] :: R) (h1 : P.laysLater = false) (h2 : P.bearsReflect = false) (h3 : P.doorFits [] = true) : P.mayEnter = true := by
  unfold Program.mayEnter
  rw [h]
  simp only [strip_cut, h1, h2, h3]
  have e : ((['c', 'u', 't'] :: R).head? == some "cut".toList) = true := by kernel_rfl
  rw [e]
  simp
theorem make : Try.prog.make = some .cut := by
  obtain ⟨R, h⟩ := behind
  exact make_of h
theorem laysLater : Try.prog.laysLater = false := by kernel_rfl
theorem bearsReflect : Try.prog.bearsReflect = false := by kernel_rfl
theorem doorFits : Try.prog.doorFits [] = true := by kernel_rfl
theorem mayEnter : Try.prog.mayEnter = true := by
  obtain ⟨R, h⟩ := behind
  exact mayEnter_of h laysLater bearsReflect doorFits
theorem laidOut : laidOutB Try.prog = true := by kernel_rfl
theorem mapsRowed : mapsRowed Try.prog = true := by kernel_rfl
theorem plainKeys : Try.prog.plainKeys = true := by kernel_rfl
theorem stopsHeard : Try.prog.stopsHeard = true := by kernel_rfl
end Go.Proofs.Ytnfgjflmpbbfdaa.Head
