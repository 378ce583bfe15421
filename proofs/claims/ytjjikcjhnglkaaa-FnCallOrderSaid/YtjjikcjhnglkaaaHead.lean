/- The facts on the program's head line (the list of the cut's roots), shown once. -/
import Derived.Test.YtjjikcjhnglkaaaRows
namespace Go.Proofs.Ytjjikcjhnglkaaa.Head
set_option maxRecDepth 100000
theorem order : Try.prog.initOrder = "harness 1d12373d4bfc34469d72695036b18087390c0806dc9eaaa982c227d83e126172 cut at loop.example/g03317/laws.FnCallOrder" := by kernel_rfl
theorem spelt : "harness 1d12373d4bfc34469d72695036b18087390c0806dc9eaaa982c227d83e126172 cut at loop.example/g03317/laws.FnCallOrder" = String.ofList [Char.ofNat 104, Char.ofNat 97, Char.ofNat 114, Char.ofNat 110, Char.ofNat 101, Char.ofNat 115, Char.ofNat 115, Char.ofNat 32, Char.ofNat 49, Char.ofNat 100, Char.ofNat 49, Char.ofNat 50, Char.ofNat 51, Char.ofNat 55, Char.ofNat 51, Char.ofNat 100, Char.ofNat 52, Char.ofNat 98, Char.ofNat 102, Char.ofNat 99, Char.ofNat 51, Char.ofNat 52, Char.ofNat 52, Char.ofNat 54, Char.ofNat 57, Char.ofNat 100, Char.ofNat 55, Char.ofNat 50, Char.ofNat 54, Char.ofNat 57, Char.ofNat 53, Char.ofNat 48, Char.ofNat 51, Char.ofNat 54, Char.ofNat 98, Char.ofNat 49, Char.ofNat 56, Char.ofNat 48, Char.ofNat 56, Char.ofNat 55, Char.ofNat 51, Char.ofNat 57, Char.ofNat 48, Char.ofNat 99, Char.ofNat 48, Char.ofNat 56, Char.ofNat 48, Char.ofNat 54, Char.ofNat 100, Char.ofNat 99, Char.ofNat 57, Char.ofNat 101, Char.ofNat 97, Char.ofNat 97, Char.ofNat 97, Char.ofNat 57, Char.ofNat 56, Char.ofNat 50, Char.ofNat 99, Char.ofNat 50, Char.ofNat 50, Char.ofNat 55, Char.ofNat 100, Char.ofNat 56, Char.ofNat 51, Char.ofNat 101, Char.ofNat 49, Char.ofNat 50, Char.ofNat 54, Char.ofNat 49, Char.ofNat 55, Char.ofNat 50, Char.ofNat 32, Char.ofNat 99, Char.ofNat 117, Char.ofNat 116, Char.ofNat 32, Char.ofNat 97, Char.ofNat 116, Char.ofNat 32, Char.ofNat 108, Char.ofNat 111, Char.ofNat 111, Char.ofNat 112, Char.ofNat 46, Char.ofNat 101, Char.ofNat 120, Char.ofNat 97, Char.ofNat 109, Char.ofNat 112, Char.ofNat 108, Char.ofNat 101, Char.ofNat 47, Char.ofNat 103, Char.ofNat 48, Char.ofNat 51, Char.ofNat 51, Char.ofNat 49, Char.ofNat 55, Char.ofNat 47, Char.ofNat 108, Char.ofNat 97, Char.ofNat 119, Char.ofNat 115, Char.ofNat 46, Char.ofNat 70, Char.ofNat 110, Char.ofNat 67, Char.ofNat 97, Char.ofNat 108, Char.ofNat 108, Char.ofNat 79, Char.ofNat 114, Char.ofNat 100, Char.ofNat 101, Char.ofNat 114] := rfl
theorem signs : ∃ rest, Try.prog.initOrder.toList = [Char.ofNat 104, Char.ofNat 97, Char.ofNat 114, Char.ofNat 110, Char.ofNat 101, Char.ofNat 115, Char.ofNat 115] ++ (Char.ofNat 32) :: ([Char.ofNat 49, Char.ofNat 100, Char.ofNat 49, Char.ofNat 50, Char.ofNat 51, Char.ofNat 55, Char.ofNat 51, Char.ofNat 100, Char.ofNat 52, Char.ofNat 98, Char.ofNat 102, Char.ofNat 99, Char.ofNat 51, Char.ofNat 52, Char.ofNat 52, Char.ofNat 54, Char.ofNat 57, Char.ofNat 100, Char.ofNat 55, Char.ofNat 50, Char.ofNat 54, Char.ofNat 57, Char.ofNat 53, Char.ofNat 48, Char.ofNat 51, Char.ofNat 54, Char.ofNat 98, Char.ofNat 49, Char.ofNat 56, Char.ofNat 48, Char.ofNat 56, Char.ofNat 55, Char.ofNat 51, Char.ofNat 57, Char.ofNat 48, Char.ofNat 99, Char.ofNat 48, Char.ofNat 56, Char.ofNat 48, Char.ofNat 54, Char.ofNat 100, Char.ofNat 99, Char.ofNat 57, Char.ofNat 101, Char.ofNat 97, Char.ofNat 97, Char.ofNat 97, Char.ofNat 57, Char.ofNat 56, Char.ofNat 50, Char.ofNat 99, Char.ofNat 50, Char.ofNat 50, Char.ofNat 55, Char.ofNat 100, Char.ofNat 56, Char.ofNat 51, Char.ofNat 101, Char.ofNat 49, Char.ofNat 50, Char.ofNat 54, Char.ofNat 49, Char.ofNat 55, Char.ofNat 50] ++ (Char.ofNat 32) :: ([Char.ofNat 99, Char.ofNat 117, Char.ofNat 116] ++ (Char.ofNat 32) :: rest)) := ⟨_, (congrArg String.toList (order.trans spelt)).trans String.toList_ofList⟩
theorem words_append : ∀ (xs ys : List Char), wordsSigns (xs ++ (Char.ofNat 32) :: ys) = wordsSigns xs ++ wordsSigns ys
  | [], ys => by simp [wordsSigns]
  | c :: xs, ys => by
    have ih := words_append xs ys
    by_cases hc : c = (Char.ofNat 32)
    · subst hc
      simp only [List.cons_append, wordsSigns, ih]
    · have ne : wordsSigns xs ≠ [] := by
        cases xs with
        | nil => simp [wordsSigns]
        | cons d ds => unfold wordsSigns; split <;> (try split) <;> simp_all
      have e1 : ∀ zs, wordsSigns (c :: zs) = (match wordsSigns zs with | w :: ws => (c :: w) :: ws | [] => [[c]]) := fun zs => by
        conv => lhs; unfold wordsSigns
        split
        · simp_all
        · simp_all
        · rename_i h; cases h; rfl
      rw [List.cons_append, e1, e1, ih]
      cases hx : wordsSigns xs with
      | nil => exact absurd hx ne
      | cons w ws => simp
theorem words_cons (c : Char) (hc : c ≠ (Char.ofNat 32)) (zs : List Char) : wordsSigns (c :: zs) = (match wordsSigns zs with | w :: ws => (c :: w) :: ws | [] => [[c]]) := by
  conv => lhs; unfold wordsSigns
  split
  · simp_all
  · simp_all
  · rename_i h; cases h; rfl
theorem words_one : ∀ (cs : List Char), cs.all (fun c => c != (Char.ofNat 32)) = true → wordsSigns cs = [cs]
  | [], _ => by simp [wordsSigns]
  | c :: cs, h => by
    rw [List.all_cons, Bool.and_eq_true] at h
    rw [words_cons c (by simpa using h.1), words_one cs h.2]
/-- The words of the head line: the roots are left out of sight. -/
theorem words : ∃ R, wordsSigns Try.prog.initOrder.toList = [Char.ofNat 104, Char.ofNat 97, Char.ofNat 114, Char.ofNat 110, Char.ofNat 101, Char.ofNat 115, Char.ofNat 115] :: [Char.ofNat 49, Char.ofNat 100, Char.ofNat 49, Char.ofNat 50, Char.ofNat 51, Char.ofNat 55, Char.ofNat 51, Char.ofNat 100, Char.ofNat 52, Char.ofNat 98, Char.ofNat 102, Char.ofNat 99, Char.ofNat 51, Char.ofNat 52, Char.ofNat 52, Char.ofNat 54, Char.ofNat 57, Char.ofNat 100, Char.ofNat 55, Char.ofNat 50, Char.ofNat 54, Char.ofNat 57, Char.ofNat 53, Char.ofNat 48, Char.ofNat 51, Char.ofNat 54, Char.ofNat 98, Char.ofNat 49, Char.ofNat 56, Char.ofNat 48, Char.ofNat 56, Char.ofNat 55, Char.ofNat 51, Char.ofNat 57, Char.ofNat 48, Char.ofNat 99, Char.ofNat 48, Char.ofNat 56, Char.ofNat 48, Char.ofNat 54, Char.ofNat 100, Char.ofNat 99, Char.ofNat 57, Char.ofNat 101, Char.ofNat 97, Char.ofNat 97, Char.ofNat 97, Char.ofNat 57, Char.ofNat 56, Char.ofNat 50, Char.ofNat 99, Char.ofNat 50, Char.ofNat 50, Char.ofNat 55, Char.ofNat 100, Char.ofNat 56, Char.ofNat 51, Char.ofNat 101, Char.ofNat 49, Char.ofNat 50, Char.ofNat 54, Char.ofNat 49, Char.ofNat 55, Char.ofNat 50] :: [Char.ofNat 99, Char.ofNat 117, Char.ofNat 116] :: R := by
  obtain ⟨rest, h⟩ := signs
  refine ⟨wordsSigns rest, ?_⟩
  rw [h, words_append, words_append, words_append, words_one _ (by kernel_rfl), words_one [Char.ofNat 49, Char.ofNat 100, Char.ofNat 49, Char.ofNat 50, Char.ofNat 51, Char.ofNat 55, Char.ofNat 51, Char.ofNat 100, Char.ofNat 52, Char.ofNat 98, Char.ofNat 102, Char.ofNat 99, Char.ofNat 51, Char.ofNat 52, Char.ofNat 52, Char.ofNat 54, Char.ofNat 57, Char.ofNat 100, Char.ofNat 55, Char.ofNat 50, Char.ofNat 54, Char.ofNat 57, Char.ofNat 53, Char.ofNat 48, Char.ofNat 51, Char.ofNat 54, Char.ofNat 98, Char.ofNat 49, Char.ofNat 56, Char.ofNat 48, Char.ofNat 56, Char.ofNat 55, Char.ofNat 51, Char.ofNat 57, Char.ofNat 48, Char.ofNat 99, Char.ofNat 48, Char.ofNat 56, Char.ofNat 48, Char.ofNat 54, Char.ofNat 100, Char.ofNat 99, Char.ofNat 57, Char.ofNat 101, Char.ofNat 97, Char.ofNat 97, Char.ofNat 97, Char.ofNat 57, Char.ofNat 56, Char.ofNat 50, Char.ofNat 99, Char.ofNat 50, Char.ofNat 50, Char.ofNat 55, Char.ofNat 100, Char.ofNat 56, Char.ofNat 51, Char.ofNat 101, Char.ofNat 49, Char.ofNat 50, Char.ofNat 54, Char.ofNat 49, Char.ofNat 55, Char.ofNat 50] (by kernel_rfl), words_one [Char.ofNat 99, Char.ofNat 117, Char.ofNat 116] (by kernel_rfl)]
  rfl
theorem behind : ∃ R, behindMainWord (wordsSigns Try.prog.initOrder.toList) = [Char.ofNat 99, Char.ofNat 117, Char.ofNat 116] :: R := by
  obtain ⟨R, h⟩ := words
  rw [h]
  exact ⟨R, by kernel_rfl⟩
theorem liftsFinal : Try.prog.liftsFinal = false := by
  unfold Program.liftsFinal Program.headLifts
  obtain ⟨R, h⟩ := behind
  rw [h]
  kernel_rfl
theorem make_of {P : Program} {R : List (List Char)} (h : behindMainWord (wordsSigns P.initOrder.toList) = [Char.ofNat 99, Char.ofNat 117, Char.ofNat 116] :: R) : P.make = some .cut := by
  unfold Program.make
  rw [h]
  rfl
theorem strip_cut (R : List (List Char)) : stripLifts liftWords ([Char.ofNat 99, Char.ofNat 117, Char.ofNat 116] :: R) = ([], [Char.ofNat 99, Char.ofNat 117, Char.ofNat 116] :: R) := by kernel_rfl
theorem mayEnter_of {P : Program} {R : List (List Char)} (h : behindMainWord (wordsSigns P.initOrder.toList) = [Char.ofNat 99, Char.ofNat 117, Char.ofNat 116] :: R) (h1 : P.laysLater = false) (h2 : P.bearsReflect = false) (h3 : P.doorFits [] = true) : P.mayEnter = true := by
  unfold Program.mayEnter
  rw [h]
  simp only [strip_cut, h1, h2, h3]
  have e : (([Char.ofNat 99, Char.ofNat 117, Char.ofNat 116] :: R).head? == some "cut".toList) = true := by kernel_rfl
  rw [e]
  simp
theorem make : Try.prog.make = some .cut := by
  obtain ⟨R, h⟩ := behind
  exact make_of h
theorem laysLater : Try.prog.laysLater = false := by kernel_rfl
theorem bearsReflect : Try.prog.bearsReflect = false := by kernel_rfl
theorem doorFits : Try.prog.doorFits [] = true := by kernel_rfl
theorem mayEnter : Try.prog.mayEnter = true := by
  obtain ⟨R, h⟩ := behind
  exact mayEnter_of h laysLater bearsReflect doorFits
theorem laidOut : laidOutB Try.prog = true := by kernel_rfl
theorem mapsRowed : mapsRowed Try.prog = true := by kernel_rfl
theorem plainKeys : Try.prog.plainKeys = true := by kernel_rfl
theorem stopsHeard : Try.prog.stopsHeard = true := by kernel_rfl
end Go.Proofs.Ytjjikcjhnglkaaa.Head
