/- The facts on the program's head line (the list of the cut's roots), shown once. -/
import Derived.Test.YtmppoflgbmabpaaRows
import Derived.WalkKit
import Derived.WalkSpells
import Derived.WalkLawsBesides
import Derived.Deep.QuietTactic
import Derived.BigQuiet
import Derived.Lib.Hide
import Derived.ProofKit
import Derived.OpenShut
import Derived.Deep.Slices
import Derived.Deep.Fields
import Derived.ChangeSame
import Derived.Lib.SmallJoins
import Derived.Test.YtmppoflgbmabpaaProg
import Derived.Laws.AppendOwnNone
namespace Go.Proofs.Ytmppoflgbmabpaa.Head
set_option maxRecDepth 100000
theorem order : Try.prog.initOrder = "harness a6fe91b269f767ac6f2dab694aa2cfb806c2b0a4929018a58d8ad6b9ec4ee128 cut at loop.example/g03317/laws.FnLockage loop.example/g03317/laws.FnDepthOverSills" := by kernel_rfl
theorem spelt : "harness a6fe91b269f767ac6f2dab694aa2cfb806c2b0a4929018a58d8ad6b9ec4ee128 cut at loop.example/g03317/laws.FnLockage loop.example/g03317/laws.FnDepthOverSills" = String.ofList [Char.ofNat 104, Char.ofNat 97, Char.ofNat 114, Char.ofNat 110, Char.ofNat 101, Char.ofNat 115, Char.ofNat 115, Char.ofNat 32, Char.ofNat 97, Char.ofNat 54, Char.ofNat 102, Char.ofNat 101, Char.ofNat 57, Char.ofNat 49, Char.ofNat 98, Char.ofNat 50, Char.ofNat 54, Char.ofNat 57, Char.ofNat 102, Char.ofNat 55, Char.ofNat 54, Char.ofNat 55, Char.ofNat 97, Char.ofNat 99, Char.ofNat 54, Char.ofNat 102, Char.ofNat 50, Char.ofNat 100, Char.ofNat 97, Char.ofNat 98, Char.ofNat 54, Char.ofNat 57, Char.ofNat 52, Char.ofNat 97, Char.ofNat 97, Char.ofNat 50, Char.ofNat 99, Char.ofNat 102, Char.ofNat 98, Char.ofNat 56, Char.ofNat 48, Char.ofNat 54, Char.ofNat 99, Char.ofNat 50, Char.ofNat 98, Char.ofNat 48, Char.ofNat 97, Char.ofNat 52, Char.ofNat 57, Char.ofNat 50, Char.ofNat 57, Char.ofNat 48, Char.ofNat 49, Char.ofNat 56, Char.ofNat 97, Char.ofNat 53, Char.ofNat 56, Char.ofNat 100, Char.ofNat 56, Char.ofNat 97, Char.ofNat 100, Char.ofNat 54, Char.ofNat 98, Char.ofNat 57, Char.ofNat 101, Char.ofNat 99, Char.ofNat 52, Char.ofNat 101, Char.ofNat 101, Char.ofNat 49, Char.ofNat 50, Char.ofNat 56, Char.ofNat 32, Char.ofNat 99, Char.ofNat 117, Char.ofNat 116, Char.ofNat 32, Char.ofNat 97, Char.ofNat 116, Char.ofNat 32, Char.ofNat 108, Char.ofNat 111, Char.ofNat 111, Char.ofNat 112, Char.ofNat 46, Char.ofNat 101, Char.ofNat 120, Char.ofNat 97, Char.ofNat 109, Char.ofNat 112, Char.ofNat 108, Char.ofNat 101, Char.ofNat 47, Char.ofNat 103, Char.ofNat 48, Char.ofNat 51, Char.ofNat 51, Char.ofNat 49, Char.ofNat 55, Char.ofNat 47, Char.ofNat 108, Char.ofNat 97, Char.ofNat 119, Char.ofNat 115, Char.ofNat 46, Char.ofNat 70, Char.ofNat 110, Char.ofNat 76, Char.ofNat 111, Char.ofNat 99, Char.ofNat 107, Char.ofNat 97, Char.ofNat 103, Char.ofNat 101, Char.ofNat 32, Char.ofNat 108, Char.ofNat 111, Char.ofNat 111, Char.ofNat 112, Char.ofNat 46, Char.ofNat 101, Char.ofNat 120, Char.ofNat 97, Char.ofNat 109, Char.ofNat 112, Char.ofNat 108, Char.ofNat 101, Char.ofNat 47, Char.ofNat 103, Char.ofNat 48, Char.ofNat 51, Char.ofNat 51, Char.ofNat 49, Char.ofNat 55, Char.ofNat 47, Char.ofNat 108, Char.ofNat 97, Char.ofNat 119, Char.ofNat 115, Char.ofNat 46, Char.ofNat 70, Char.ofNat 110, Char.ofNat 68, Char.ofNat 101, Char.ofNat 112, Char.ofNat 116, Char.ofNat 104, Char.ofNat 79, Char.ofNat 118, Char.ofNat 101, Char.ofNat 114, Char.ofNat 83, Char.ofNat 105, Char.ofNat 108, Char.ofNat 108, Char.ofNat 115] := rfl
theorem signs : ∃ rest, Try.prog.initOrder.toList = [Char.ofNat 104, Char.ofNat 97, Char.ofNat 114, Char.ofNat 110, Char.ofNat 101, Char.ofNat 115, Char.ofNat 115] ++ (Char.ofNat 32) :: ([Char.ofNat 97, Char.ofNat 54, Char.ofNat 102, Char.ofNat 101, Char.ofNat 57, Char.ofNat 49, Char.ofNat 98, Char.ofNat 50, Char.ofNat 54, Char.ofNat 57, Char.ofNat 102, Char.ofNat 55, Char.ofNat 54, Char.ofNat 55, Char.ofNat 97, Char.ofNat 99, Char.ofNat 54, Char.ofNat 102, Char.ofNat 50, Char.ofNat 100, Char.ofNat 97, Char.ofNat 98, Char.ofNat 54, Char.ofNat 57, Char.ofNat 52, Char.ofNat 97, Char.ofNat 97, Char.ofNat 50, Char.ofNat 99, Char.ofNat 102, Char.ofNat 98, Char.ofNat 56, Char.ofNat 48, Char.ofNat 54, Char.ofNat 99, Char.ofNat 50, Char.ofNat 98, Char.ofNat 48, Char.ofNat 97, Char.ofNat 52, Char.ofNat 57, Char.ofNat 50, Char.ofNat 57, Char.ofNat 48, Char.ofNat 49, Char.ofNat 56, Char.ofNat 97, Char.ofNat 53, Char.ofNat 56, Char.ofNat 100, Char.ofNat 56, Char.ofNat 97, Char.ofNat 100, Char.ofNat 54, Char.ofNat 98, Char.ofNat 57, Char.ofNat 101, Char.ofNat 99, Char.ofNat 52, Char.ofNat 101, Char.ofNat 101, Char.ofNat 49, Char.ofNat 50, Char.ofNat 56] ++ (Char.ofNat 32) :: ([Char.ofNat 99, Char.ofNat 117, Char.ofNat 116] ++ (Char.ofNat 32) :: rest)) := ⟨_, (congrArg String.toList (order.trans spelt)).trans String.toList_ofList⟩
theorem words_append : ∀ (xs ys : List Char), wordsSigns (xs ++ (Char.ofNat 32) :: ys) = wordsSigns xs ++ wordsSigns ys
  | [], ys => by simp [wordsSigns]
  | c :: xs, ys => by
    have ih := words_append xs ys
    by_cases hc : c = (Char.ofNat 32)
    · subst hc
      simp only [List.cons_append, wordsSigns, ih]
    · have ne : wordsSigns xs ≠ [] := by
        cases xs with
        | nil => simp [wordsSigns]
        | cons d ds => unfold wordsSigns; split <;> (try split) <;> simp_all
      have e1 : ∀ zs, wordsSigns (c :: zs) = (match wordsSigns zs with | w :: ws => (c :: w) :: ws | [] => [[c]]) := fun zs => by
        conv => lhs; unfold wordsSigns
        split
        · simp_all
        · simp_all
        · rename_i h; cases h; rfl
      rw [List.cons_append, e1, e1, ih]
      cases hx : wordsSigns xs with
      | nil => exact absurd hx ne
      | cons w ws => simp
theorem words_cons (c : Char) (hc : c ≠ (Char.ofNat 32)) (zs : List Char) : wordsSigns (c :: zs) = (match wordsSigns zs with | w :: ws => (c :: w) :: ws | [] => [[c]]) := by
  conv => lhs; unfold wordsSigns
  split
  · simp_all
  · simp_all
  · rename_i h; cases h; rfl
theorem words_one : ∀ (cs : List Char), cs.all (fun c => c != (Char.ofNat 32)) = true → wordsSigns cs = [cs]
  | [], _ => by simp [wordsSigns]
  | c :: cs, h => by
    rw [List.all_cons, Bool.and_eq_true] at h
    rw [words_cons c (by simpa using h.1), words_one cs h.2]
/-- The words of the head line: the roots are left out of sight. -/
theorem words : ∃ R, wordsSigns Try.prog.initOrder.toList = [Char.ofNat 104, Char.ofNat 97, Char.ofNat 114, Char.ofNat 110, Char.ofNat 101, Char.ofNat 115, Char.ofNat 115] :: [Char.ofNat 97, Char.ofNat 54, Char.ofNat 102, Char.ofNat 101, Char.ofNat 57, Char.ofNat 49, Char.ofNat 98, Char.ofNat 50, Char.ofNat 54, Char.ofNat 57, Char.ofNat 102, Char.ofNat 55, Char.ofNat 54, Char.ofNat 55, Char.ofNat 97, Char.ofNat 99, Char.ofNat 54, Char.ofNat 102, Char.ofNat 50, Char.ofNat 100, Char.ofNat 97, Char.ofNat 98, Char.ofNat 54, Char.ofNat 57, Char.ofNat 52, Char.ofNat 97, Char.ofNat 97, Char.ofNat 50, Char.ofNat 99, Char.ofNat 102, Char.ofNat 98, Char.ofNat 56, Char.ofNat 48, Char.ofNat 54, Char.ofNat 99, Char.ofNat 50, Char.ofNat 98, Char.ofNat 48, Char.ofNat 97, Char.ofNat 52, Char.ofNat 57, Char.ofNat 50, Char.ofNat 57, Char.ofNat 48, Char.ofNat 49, Char.ofNat 56, Char.ofNat 97, Char.ofNat 53, Char.ofNat 56, Char.ofNat 100, Char.ofNat 56, Char.ofNat 97, Char.ofNat 100, Char.ofNat 54, Char.ofNat 98, Char.ofNat 57, Char.ofNat 101, Char.ofNat 99, Char.ofNat 52, Char.ofNat 101, Char.ofNat 101, Char.ofNat 49, Char.ofNat 50, Char.ofNat 56] :: [Char.ofNat 99, Char.ofNat 117, Char.ofNat 116] :: R := by
  obtain ⟨rest, h⟩ := signs
  refine ⟨wordsSigns rest, ?_⟩
  rw [h, words_append, words_append, words_append, words_one _ (by kernel_rfl), words_one [Char.ofNat 97, Char.ofNat 54, Char.ofNat 102, Char.ofNat 101, Char.ofNat 57, Char.ofNat 49, Char.ofNat 98, Char.ofNat 50, Char.ofNat 54, Char.ofNat 57, Char.ofNat 102, Char.ofNat 55, Char.ofNat 54, Char.ofNat 55, Char.ofNat 97, Char.ofNat 99, Char.ofNat 54, Char.ofNat 102, Char.ofNat 50, Char.ofNat 100, Char.ofNat 97, Char.ofNat 98, Char.ofNat 54, Char.ofNat 57, Char.ofNat 52, Char.ofNat 97, Char.ofNat 97, Char.ofNat 50, Char.ofNat 99, Char.ofNat 102, Char.ofNat 98, Char.ofNat 56, Char.ofNat 48, Char.ofNat 54, Char.ofNat 99, Char.ofNat 50, Char.ofNat 98, Char.ofNat 48, Char.ofNat 97, Char.ofNat 52, Char.ofNat 57, Char.ofNat 50, Char.ofNat 57, Char.ofNat 48, Char.ofNat 49, Char.ofNat 56, Char.ofNat 97, Char.ofNat 53, Char.ofNat 56, Char.ofNat 100, Char.ofNat 56, Char.ofNat 97, Char.ofNat 100, Char.ofNat 54, Char.ofNat 98, Char.ofNat 57, Char.ofNat 101, Char.ofNat 99, Char.ofNat 52, Char.ofNat 101, Char.ofNat 101, Char.ofNat 49, Char.ofNat 50, Char.ofNat 56] (by kernel_rfl), words_one [Char.ofNat 99, Char.ofNat 117, Char.ofNat 116] (by kernel_rfl)]
  rfl
theorem behind : ∃ R, behindMainWord (wordsSigns Try.prog.initOrder.toList) = [Char.ofNat 99, Char.ofNat 117, Char.ofNat 116] :: R := by
  obtain ⟨R, h⟩ := words
  rw [h]
  exact ⟨R, by kernel_rfl⟩
theorem liftsFinal : Try.prog.liftsFinal = false := by
  unfold Program.liftsFinal Program.headLifts
  obtain ⟨R, h⟩ := behind
  rw [h]
  kernel_rfl
theorem make_of {P : Program} {R : List (List Char)} (h : behindMainWord (wordsSigns P.initOrder.toList) = [Char.ofNat 99, Char.ofNat 117, Char.ofNat 116] :: R) : P.make = some .cut := by
  unfold Program.make
  rw [h]
  rfl
theorem strip_cut (R : List (List Char)) : stripLifts liftWords ([Char.ofNat 99, Char.ofNat 117, Char.ofNat 116] :: R) = ([], [Char.ofNat 99, Char.ofNat 117, Char.ofNat 116] :: R) := by kernel_rfl
theorem mayEnter_of {P : Program} {R : List (List Char)} (h : behindMainWord (wordsSigns P.initOrder.toList) = [Char.ofNat 99, Char.ofNat 117, Char.ofNat 116] :: R) (h1 : P.laysLater = false) (h2 : P.bearsReflect = false) (h3 : P.doorFits [] = true) : P.mayEnter = true := by
  unfold Program.mayEnter
  rw [h]
  simp only [strip_cut, h1, h2, h3]
  have e : (([Char.ofNat 99, Char.ofNat 117, Char.ofNat 116] :: R).head? == some "cut".toList) = true := by kernel_rfl
  rw [e]
  simp
theorem make : Try.prog.make = some .cut := by
  obtain ⟨R, h⟩ := behind
  exact make_of h
theorem laysLater : Try.prog.laysLater = false := by kernel_rfl
theorem bearsReflect : Try.prog.bearsReflect = false := by kernel_rfl
theorem doorFits : Try.prog.doorFits [] = true := by kernel_rfl
theorem mayEnter : Try.prog.mayEnter = true := by
  obtain ⟨R, h⟩ := behind
  exact mayEnter_of h laysLater bearsReflect doorFits
theorem laidOut : laidOutB Try.prog = true := by kernel_rfl
theorem mapsRowed : mapsRowed Try.prog = true := by kernel_rfl
theorem plainKeys : Try.prog.plainKeys = true := by kernel_rfl
theorem stopsHeard : Try.prog.stopsHeard = true := by kernel_rfl
end Go.Proofs.Ytmppoflgbmabpaa.Head
/- General lemmas for all claims of this seat: what a row's post asks when a law returns true and changes nothing; how flat slices read. -/
namespace Go.Proofs.Ytmppoflgbmabpaa
open Go.RowKit Go.WideShapes Go.ChangeShapes Go.Deep Go.Joins

theorem post_of_below {H : Type} {enc : TypeId × Value → H} {P : Program} {f : Func} {s : ChangeSpec} {apart fresh handsOn again : Bool} {W W' : World} {args : Array Value} {v : Value} {ds gs : List (DataW H)} {before pa pv : List MemPlace}
    (hW : DataW.Whole enc P f.params.toList s.vars apart W args.toList ds gs before)
    (hres : ∀ (b : Nat) (sp : Nat → Bool) (hd : Bool), DataW.TrodAll enc P W' b sp hd f.resultTypes.toList (v.resultList f.resultTypes.size) (s.fn H (ds ++ gs)).results [])
    (hargs : ∀ sp : Nat → Bool, (∀ p ∈ before, sp p.block = true) → DataW.TrodAll enc P W' 0 sp true f.params.toList args.toList (s.fn H (ds ++ gs)).args pa)
    (hvars : ∀ sp : Nat → Bool, (∀ p ∈ before, sp p.block = true) → DataW.TrodVars enc P W' sp s.vars (s.fn H (ds ++ gs)).vars pv)
    (hps : before = pa ++ pv) (hb : Below W.heap.size W W')
    (hok : ∀ (j : Nat) (t : TypeId) (r : Value), f.resultTypes[j]? = some t → (v.resultList f.resultTypes.size)[j]? = some r → Value.okWide P W' .any 0 t r) :
    s.post enc P f apart fresh handsOn again W args v W' := by
  have hlt : ∀ p ∈ before, p.block < W.heap.size := fun p hp => hW.lt p hp
  have hold : ∀ p ∈ before, (fun b => decide (b < W.heap.size)) p.block = true := fun p hp => by simpa using hlt p hp
  refine ⟨ds, gs, before, [], pa, pv, hW, hres _ _ _, hargs _ hold, hvars _ hold, World.keptBut_mono (fun p hp => ⟨hp, ?_⟩) (hb.frame (· ∈ before)), fun _ => ?_⟩
  · rw [hps, List.mem_append] at hp
    exact Or.inr hp
  · obtain ⟨_, _, _, _, _, hz, hn⟩ := hW
    refine ⟨hok, _, _, ([] ++ pa) ++ pv, ⟨[] ++ pa, pv, trodAll_append (hargs _ (fun _ _ => rfl)) (hres _ _ _), hvars _ (fun _ _ => rfl), rfl, ?_, ?_⟩, ?_⟩
    · intro b off hp
      have hin : MemPlace.cell b off ∈ before := by rw [hps]; simpa using hp
      rw [hb.frozen (hlt _ hin)]
      exact hz b off hin
    · intro ha
      have := hn ha
      rw [hps] at this
      simpa using this
    · intro p hp _
      rw [hps]
      simpa using hp

theorem trodAll_keep {H : Type} {enc : TypeId × Value → H} {P : Program} (hl : laidOutB P = true) {W W' : World} (hb : Below W.heap.size W W') {sp : Nat → Bool} :
    ∀ (ts : List TypeId), (∀ t ∈ ts, P.readableRec t = true ∧ t < P.types.size) → ∀ (vs : List Value) (ds : List (DataW H)) (ps : List MemPlace),
      DataW.TrodAll enc P W 0 (fun _ => true) true ts vs ds ps → (∀ p ∈ ps, p.block < W.heap.size ∧ sp p.block = true) → DataW.TrodAll enc P W' 0 sp true ts vs ds ps
  | [], _, vs, ds, ps, h, _ => by
    obtain ⟨rfl, rfl, rfl⟩ := trodAll_nil h
    exact trodAll_mk0
  | t :: ts, hr, vs, ds, ps, h, hp => by
    obtain ⟨v, vs', d, ds', p, q, rfl, rfl, rfl, h1, h2⟩ := trodAll_cons h
    obtain ⟨r1, r2⟩ := hr t (by simp)
    exact ⟨p, q, WideElems.Trod_stays hl r1 r2 h1 (fun x hx => hb.same (hp x (by simp [hx])).1) (fun x hx => (hp x (by simp [hx])).2),
      trodAll_keep hl hb ts (fun t ht => hr t (by simp [ht])) vs' ds' q h2 (fun x hx => hp x (by simp [hx])), rfl⟩

/-- A law that has returned true and has changed nothing that was there. -/
theorem law_post {H : Type} {enc : TypeId × Value → H} {P : Program} {f : Func} {s : ChangeSpec} {tb : TypeId} (hl : laidOutB P = true) (hvars : s.vars = [])
    (hread : f.params.toList.all (fun t => P.readableRec t && decide (t < P.types.size)) = true) (hrt : f.resultTypes = #[tb]) (htb : P.underlying tb = some .bool)
    {W W' : World} {args : Array Value} {ds gs : List (DataW H)} {before : List MemPlace} (hW : DataW.Whole enc P f.params.toList s.vars false W args.toList ds gs before)
    (hres : (s.fn H ds).results = [.lit (.bool true)]) (hargs : (s.fn H ds).args = ds) (hgv : (s.fn H ds).vars = []) (hb : Below W.heap.size W W') :
    s.post enc P f false true false false W args (.bool true) W' := by
  have hW0 := hW
  obtain ⟨p, q, hA, hV, hpq, hfz, hnd⟩ := hW
  rw [hvars] at hV
  obtain ⟨rfl, rfl⟩ := trodVars_none hV
  rw [List.append_nil] at hpq
  subst hpq
  have hr : ∀ t ∈ f.params.toList, P.readableRec t = true ∧ t < P.types.size := fun t ht => by
    have := List.all_eq_true.1 hread t ht
    simpa using this
  refine post_of_below (pa := before) (pv := []) hW0 ?_ ?_ ?_ (by simp) hb ?_
  · intro b sp hd
    rw [List.append_nil, hres, hrt]
    exact trodAll_mk1 (shut_bool htb true)
  · intro sp hsp
    rw [List.append_nil, hargs]
    exact trodAll_keep hl hb _ hr _ _ _ hA (fun x hx => ⟨hW0.lt x hx, hsp x hx⟩)
  · intro sp _
    rw [List.append_nil, hgv, hvars]
    rfl
  · exact ok_one hrt rfl (okWide_bool_mk htb true)

theorem bcell {W w1 : World} {B : Nat} (hb : Below B W w1) : (∀ b o, b < B → w1.cell? ⟨b, o, none⟩ = W.cell? ⟨b, o, none⟩) ∧ (∀ b o, b < B → w1.frozen? ⟨b, o, none⟩ = W.frozen? ⟨b, o, none⟩) :=
  ⟨fun b o h => hb.cell (p := ⟨b, o, none⟩) h, fun b o h => hb.frozen (p := ⟨b, o, none⟩) h⟩
/-- Nothing that was there in w has changed in w'. -/
def Ext (w w' : World) : Prop := Below w.heap.size w w'
theorem Ext.below {w w' : World} (h : Ext w w') : Below w.heap.size w w' := h
theorem Ext.refl (w : World) : Ext w w := Below.refl _ _
theorem Ext.size {w w' : World} (h : Ext w w') : w.heap.size ≤ w'.heap.size := h.below.size
theorem Ext.trans {a b c : World} (h : Ext a b) (k : Ext b c) : Ext a c := Below.trans h (Below.mono k h.size)
theorem Ext.alloc {a w : World} (h : Ext a w) (o : Obj) : Ext a (w.alloc o) := Below.alloc h h.size o
theorem Ext.drew {a w : World} (h : Ext a w) : Ext a w.drew := Below.drew h
theorem Ext.drewN {a w : World} (h : Ext a w) (n : Nat) : Ext a (w.drewN n) := ⟨h.os, h.tape, h.output, h.size, h.block⟩
theorem Ext.setCell {a w : World} (h : Ext a w) {p : Addr} (hp : a.heap.size ≤ p.block) (u : Value) : Ext a (w.setCell p u) := Below.setCell h hp u
theorem Ext.cell {w w' : World} (h : Ext w w') {a : Addr} {v : Value} (hc : w.cell? a = some v) : w'.cell? a = some v :=
  (h.below.cell (World.block_lt_of_cell? w a hc)).trans hc
theorem below_drewN {B : Nat} {a w : World} (h : Below B a w) (n : Nat) : Below B a (w.drewN n) := ⟨h.os, h.tape, h.output, h.size, h.block⟩
theorem cell_keep {w w' : World} (hb : Below w.heap.size w w') {a : Addr} {v : Value} (h : w.cell? a = some v) : w'.cell? a = some v :=
  (hb.cell (World.block_lt_of_cell? w a h)).trans h
theorem ret_int {k : IntKind} {a b : Int} (h : a = b) : Ending.returned (.int k a) = .returned (.int k b) := by rw [h]
theorem ret_bool {a b : Bool} (h : a = b) : Ending.returned (.bool a) = .returned (.bool b) := by rw [h]

section
variable {H : Type} {enc : TypeId × Value → H} {P : Program} {w : World} {base : Nat} {spare : Nat → Bool} {held : Bool}
/-- A struct of one-cell fields, by value: its cells, each with its own reading. -/
theorem open_aggN {r : Reach} {b0 : Nat} {t : TypeId} {fs : Array Field} {v : Value} {d : DataW H} {p : List MemPlace} (hs : P.underlying t = some (.struct fs)) (hone : oneCellFields P fs = true) (hC : P.cellsOf t = fs.size)
    (hv : Value.okWide P w r b0 t v) (h : DataW.Trod enc P w base spare held t v d p) :
    ∃ (l : List Value) (ys : List (DataW H × List MemPlace)) (n : Nat), v = .agg l.toArray ∧ l.length = fs.size ∧ ys.length = fs.size ∧ d = .agg (ys.map (·.1)) ∧ p = ys.flatMap (·.2) ∧
      ∀ (j : Nat) (f : Field), fs[j]? = some f → ∃ (u : Value) (y : DataW H × List MemPlace), l[j]? = some u ∧ ys[j]? = some y ∧ DataW.trod enc P w base spare held n f.type [u] = some y := by
  obtain ⟨cs, rfl, hsz⟩ := okWide_struct hs hv
  obtain ⟨l⟩ := cs
  have hl : l.length = fs.size := hsz.trans hC
  obtain ⟨fuel, hf⟩ := h
  obtain ⟨xs, n, _, hx, _, hlen, hg⟩ := DataW.trod_struct hs hf
  simp only [Prod.mk.injEq] at hx
  refine ⟨l, xs, n, rfl, hl, hlen, hx.1, hx.2, fun j f hj => ?_⟩
  obtain ⟨o, k⟩ := hone_of hone j f hj
  have hjl : j < fs.size := (Array.getElem?_eq_some_iff.1 hj).1
  have h1 := hg j f hj
  rw [o, k] at h1
  have e1 : (l.drop j).take 1 = [l[j]'(by omega)] := by
    rw [List.drop_eq_getElem_cons (by omega)]
    rfl
  have e2 : xs[j]? = some (xs[j]'(by omega)) := List.getElem?_eq_getElem (by omega)
  refine ⟨_, _, List.getElem?_eq_getElem (by omega), e2, ?_⟩
  have h2 : DataW.trod enc P w base spare held n f.type ((l.drop j).take 1) = xs[j]? := by simpa [Value.cells] using h1
  rw [e1, e2] at h2
  exact h2
theorem open_agg6 {r : Reach} {b0 : Nat} {t : TypeId} {f0 f1 f2 f3 f4 f5 : Field} {v : Value} {d : DataW H} {p : List MemPlace} (hs : P.underlying t = some (.struct #[f0, f1, f2, f3, f4, f5])) (hone : oneCellFields P #[f0, f1, f2, f3, f4, f5] = true) (hC : P.cellsOf t = 6)
    (hv : Value.okWide P w r b0 t v) (h : DataW.Trod enc P w base spare held t v d p) :
    ∃ (v0 v1 v2 v3 v4 v5 : Value) (y0 y1 y2 y3 y4 y5 : DataW H × List MemPlace) (n : Nat), v = .agg #[v0, v1, v2, v3, v4, v5] ∧ d = .agg [y0.1, y1.1, y2.1, y3.1, y4.1, y5.1] ∧ p = y0.2 ++ (y1.2 ++ (y2.2 ++ (y3.2 ++ (y4.2 ++ y5.2)))) ∧
      DataW.trod enc P w base spare held n f0.type [v0] = some y0 ∧ DataW.trod enc P w base spare held n f1.type [v1] = some y1 ∧ DataW.trod enc P w base spare held n f2.type [v2] = some y2 ∧ DataW.trod enc P w base spare held n f3.type [v3] = some y3 ∧ DataW.trod enc P w base spare held n f4.type [v4] = some y4 ∧ DataW.trod enc P w base spare held n f5.type [v5] = some y5 := by
  obtain ⟨l, ys, n, rfl, hl, hy, rfl, rfl, hf⟩ := open_aggN hs hone hC hv h
  match l, ys, hl, hy with
  | [c0, c1, c2, c3, c4, c5], [y0, y1, y2, y3, y4, y5], _, _ =>
    obtain ⟨_, _, a0, b0, t0⟩ := hf 0 f0 rfl
    obtain ⟨_, _, a1, b1, t1⟩ := hf 1 f1 rfl
    obtain ⟨_, _, a2, b2, t2⟩ := hf 2 f2 rfl
    obtain ⟨_, _, a3, b3, t3⟩ := hf 3 f3 rfl
    obtain ⟨_, _, a4, b4, t4⟩ := hf 4 f4 rfl
    obtain ⟨_, _, a5, b5, t5⟩ := hf 5 f5 rfl
    cases a0; cases a1; cases a2; cases a3; cases a4; cases a5
    cases b0; cases b1; cases b2; cases b3; cases b4; cases b5
    exact ⟨c0, c1, c2, c3, c4, c5, y0, y1, y2, y3, y4, y5, n, rfl, rfl, by simp, t0, t1, t2, t3, t4, t5⟩
end

end Go.Proofs.Ytmppoflgbmabpaa
/- Memory that a call makes: flat slices, blocks of the call's own, regions whose calls make memory. -/
namespace Go.Proofs.Ytmppoflgbmabpaa
open Go.RowKit

/-! ### Slices whose elements are structs of one-cell fields -/
/-- The elements 'xs' lie one behind the other at a, each as its cells 'enc x'. -/
def FlatAt {α : Type} (w : World) (enc : α → List Value) (sz : Nat) (a : Option Addr) (xs : List α) : Prop :=
  ∀ k (h : k < xs.length), ∃ b off, a = some ⟨b, off, none⟩ ∧ ∀ j v, (enc xs[k])[j]? = some v → w.cell? ⟨b, off + k * sz + j, none⟩ = some v
theorem FlatAt.ext {α : Type} {w w' : World} {enc : α → List Value} {sz : Nat} {a : Option Addr} {xs : List α} (h : FlatAt w enc sz a xs) (hx : Ext w w') : FlatAt w' enc sz a xs :=
  fun k hk => let ⟨b, off, e, hc⟩ := h k hk; ⟨b, off, e, fun j v hv => hx.cell (hc j v hv)⟩
/-- An element's cells, in every later world. -/
theorem FlatAt.get {α : Type} {w : World} {enc : α → List Value} {sz : Nat} {a : Option Addr} {xs : List α} (h : FlatAt w enc sz a xs) (k : Nat) (hk : k < xs.length) :
    ∃ b off, a = some ⟨b, off, none⟩ ∧ ∀ j v, (enc xs[k])[j]? = some v → ∀ w', Ext w w' → w'.cell? ⟨b, off + k * sz + j, none⟩ = some v :=
  let ⟨b, off, e, hc⟩ := h k hk; ⟨b, off, e, fun j v hv _ hx => hx.cell (hc j v hv)⟩

/-- Block B is a block of cells of the call's own, none of them frozen. -/
def RowAt (w : World) (B : Nat) (t : TypeId) (c : Array Value) : Prop := w.heap[B]? = some (.cells c t (0, 0))
theorem RowAt.lt {w : World} {B : Nat} {t : TypeId} {c : Array Value} (h : RowAt w B t c) : B < w.heap.size := (Array.getElem?_eq_some_iff.1 h).1
theorem RowAt.cell {w : World} {B : Nat} {t : TypeId} {c : Array Value} (h : RowAt w B t c) {j : Nat} {v : Value} (hv : c[j]? = some v) : w.cell? ⟨B, j, none⟩ = some v := by
  unfold RowAt at h
  simp [World.cell?, h, hv]
theorem RowAt.frozen {w : World} {B : Nat} {t : TypeId} {c : Array Value} (h : RowAt w B t c) (j : Nat) : w.frozen? ⟨B, j, none⟩ = false := by
  unfold RowAt at h
  simp [World.frozen?, h]
theorem RowAt.ext {w w' : World} {B : Nat} {t : TypeId} {c : Array Value} (h : RowAt w B t c) (hx : Ext w w') : RowAt w' B t c := (hx.below.block B h.lt).trans h
theorem RowAt.set {w : World} {B : Nat} {t : TypeId} {c : Array Value} (h : RowAt w B t c) (j : Nat) (v : Value) : RowAt (w.setCell ⟨B, j, none⟩ v) B t (c.setIfInBounds j v) := by
  unfold RowAt at *
  simp only [World.setCell, Array.getElem?_modify, h]
  simp
theorem RowAt.new (w : World) (t : TypeId) (c : Array Value) : RowAt (w.alloc (.cells c t)) w.heap.size t c := heap_alloc_new w _
theorem RowAt.drewN {w : World} {B : Nat} {t : TypeId} {c : Array Value} (h : RowAt w B t c) (n : Nat) : RowAt (w.drewN n) B t c := h
theorem RowAt.other {w : World} {B : Nat} {t : TypeId} {c : Array Value} (h : RowAt w B t c) {p : Addr} (hp : p.block ≠ B) (v : Value) : RowAt (w.setCell p v) B t c := by
  unfold RowAt at *
  rw [Below.heap_setCell w p v B (fun e => hp e.symm)]
  exact h

/-- A world in which nothing of w has changed. -/
def Aft (w : World) := { w' : World // Ext w w' }
instance (w : World) : Nonempty (Aft w) := ⟨⟨w, Ext.refl w⟩⟩
theorem aft_call {P : Program} {f : FuncId} {args : Array Value} {v : Value} {w0 : World} {x : Aft w0} (h : Calls P f args x.1 fun e w' => e = .returned v ∧ Ext x.1 w') :
    Calls P f args x.1 fun e w'' => e = .returned v ∧ ∃ y : Aft w0, w'' = y.1 := h.mono fun _ w' ⟨he, hx⟩ => ⟨he, ⟨⟨w', x.2.trans hx⟩, rfl⟩⟩
theorem aft_same {P : Program} {f : FuncId} {args : Array Value} {v : Value} {w0 : World} {x : Aft w0} (h : Calls P f args x.1 fun e w' => e = .returned v ∧ x.1 = w') :
    Calls P f args x.1 fun e w'' => e = .returned v ∧ ∃ y : Aft w0, w'' = y.1 := h.mono fun _ _ ⟨he, hx⟩ => ⟨he, ⟨x, hx.symm⟩⟩
/-- A region that draws its order, whose operations read and whose calls make new memory at the most: one walk in the order of the text. -/
theorem wp_region_aft {P : Program} {id : Nat} {Q : Exit → Act → World → Prop} {a : Act} {w : World} {l : List Oper} (w0 : World) (h0 : Ext w0 w) (hm : P.follows .mixedOrders = true) (hB : Region.lexB .any l.toArray = true)
    (h : wpQuiet P l.toArray (fun w' => ∃ x : Aft w0, w' = x.1) (fun a' => ∀ w', Ext w0 w' → Q .normal a' w') l a) : (Code.region id l.toArray true).wp P Q a w := by
  refine wp_region_quiet (C := fun w' => ∃ x : Aft w0, w' = x.1) hm hB ⟨⟨_, h0.drew⟩, rfl⟩ ?_
  have e : (fun a' => ∀ w', Ext w0 w' → Q .normal a' w') = (fun a' => ∀ w', (∃ x : Aft w0, w' = x.1) → Q .normal a' w') := by
    funext a'
    apply propext
    constructor
    · rintro h w' ⟨x, rfl⟩
      exact h _ x.2
    · intro h w' hx
      exact h w' ⟨⟨w', hx⟩, rfl⟩
    
  rw [e] at h
  simpa using h

theorem run_make_rowN {P : Program} (t e : TypeId) (i : TypeInfo) (z : Value) (ht : P.underlying t = some (.slice e)) (hi : P.info? e = some i) (hz : i.zero = some z)
    (kl kc : IntKind) (n c : Nat) (hnc : n ≤ c) (hbytes : i.bytes * c ≤ 281474976710656) (h63 : c ≤ 9223372036854775807) (w : World) :
    (Instr.makeSlice t (.int kl (n : Int)) (.int kc (c : Int))).run P w = .ok (.slice (some ⟨w.heap.size, 0, none⟩) n c) (w.alloc (.cells (madeCells z.cells (c * i.size)) e)) := by
  have hb : (i.bytes : Int) * (c : Int) ≤ 281474976710656 := by
    have h : ((i.bytes * c : Nat) : Int) ≤ 281474976710656 := by omega
    rwa [Int.natCast_mul] at h
  have hr := run_make (P := P) w t e i z ht hi hz kl kc n c (by omega) (by omega) hb (by omega)
  simp only [Int.toNat_natCast] at hr
  exact hr

end Go.Proofs.Ytmppoflgbmabpaa
/- How arguments that lead to slices read: opened to cells. -/
namespace Go.Proofs.Ytmppoflgbmabpaa
open Go.RowKit Go.WideShapes Go.ChangeShapes Go.Deep Go.Joins
section
variable {H : Type} {enc : TypeId × Value → H} {P : Program} {w : World} {base : Nat} {spare : Nat → Bool} {held : Bool}
/-- A slice of structs of one-cell fields, opened at every element and field. -/
theorem open_slice_fields {t e : TypeId} {fs : Array Field} {fuel : Nat} {cs : List Value} {x : DataW H × List MemPlace} (ht : P.underlying t = some (.slice e)) (he : P.underlying e = some (.struct fs))
    (hone : oneCellFields P fs = true) (hC : P.cellsOf e = fs.size) (h : DataW.trod enc P w base spare held fuel t cs = some x) :
    (cs = [.slice none 0 0] ∧ x = (.nil, [])) ∨
    ∃ (a : Addr) (len cap m : Nat) (D : Nat → DataW H) (Pl : Nat → List MemPlace), cs = [.slice (some a) len cap] ∧ base ≤ a.block ∧ len ≤ cap ∧ cap ≤ maxLen ∧ m = (if spare a.block then cap else len) ∧
      x = (.slice ((List.range len).map D) ((List.range (m - len)).map fun j => D (len + j)), MemPlace.row a (m * fs.size) ++ (List.range m).flatMap Pl) ∧
      ∀ i, i < m → ∃ (ys : List (DataW H × List MemPlace)) (n : Nat), D i = .agg (ys.map (·.1)) ∧ Pl i = ys.flatMap (·.2) ∧ ys.length = fs.size ∧
        ∀ (j : Nat) (f : Field), fs[j]? = some f → ∃ (v : Value) (y : DataW H × List MemPlace), w.cell? (a.add (i * fs.size + j)) = some v ∧ ys[j]? = some y ∧ DataW.trod enc P w base spare held n f.type [v] = some y := by
  rcases open_slice ht h with h0 | ⟨a, len, cap, m, n, D, Pl, hcs, hb, hl, hm, hmm, hx, hi⟩
  · exact .inl h0
  · refine .inr ⟨a, len, cap, m, D, Pl, hcs, hb, hl, hm, hmm, by rw [hC] at hx; exact hx, fun i him => ?_⟩
    obtain ⟨cs', hc, ht'⟩ := hi i him
    rw [hC] at hc
    obtain ⟨ys, n', hn', hy, hlen, hyl, hf⟩ := DataW.trod_struct he ht'
    obtain ⟨_, hcl, hat⟩ := World.cells?_some hc
    simp only [Prod.mk.injEq] at hy
    refine ⟨ys, n', hy.1, hy.2, hyl, fun j f hj => ?_⟩
    obtain ⟨ho, hk⟩ := hone_of hone j f hj
    have hjl : j < fs.size := (Array.getElem?_eq_some_iff.1 hj).1
    have hcell := hat j hjl
    have hv : cs'[j]? = some (cs'[j]'(by omega)) := List.getElem?_eq_getElem (by omega)
    have h1 := hf j f hj
    rw [ho, hk] at h1
    have hone' : (cs'.drop j).take 1 = [cs'[j]'(by omega)] := by
      rw [List.drop_eq_getElem_cons (by omega)]
      rfl
    rw [hone'] at h1
    have hys : ys[j]? = some (ys[j]'(by omega)) := List.getElem?_eq_getElem (by omega)
    refine ⟨_, _, ?_, hys, h1.trans hys⟩
    rw [← Go.Deep.add_add, hcell, hv]

theorem add_plain {a : Addr} (h : a.spot = none) (n : Nat) : a.add n = ⟨a.block, a.off + n, none⟩ := by
  obtain ⟨b, o, s⟩ := a
  simp only at h
  subst h
  unfold Addr.add
  split
  · rename_i hn; subst hn; rfl
  · rfl
theorem spot_of_cell {a : Addr} {v : Value} (h : w.cell? a = some v) : a.spot = none := by
  unfold World.cell? at h
  split at h
  · split at h
    · cases h
    · rename_i hs; simpa using hs
  · cases h

/-- A slice of structs whose fields are all ints. -/
theorem open_flat {α : Type} {ec : α → List Value} (mk : (Nat → Int) → α) {t e : TypeId} {fs : Array Field} {n : Nat} {v : Value} {d : DataW H} {p : List MemPlace} {r : Reach} {b0 : Nat}
    (hn : fs.size = n) (hmk : ∀ z, ec (mk z) = (List.range n).map fun j => .int .i64 (z j)) (ht : P.underlying t = some (.slice e)) (he : P.underlying e = some (.struct fs)) (hone : oneCellFields P fs = true) (hC : P.cellsOf e = fs.size) (h0 : 0 < n)
    (hint : ∀ (j : Nat) (f : Field), fs[j]? = some f → P.underlying f.type = some (.int .i64)) (hv : Value.okWide P w r b0 t v) (h : DataW.Trod enc P w base spare held t v d p) :
    ∃ (a : Option Addr) (len cap : Nat) (xs : List α), v = .slice a len cap ∧ len = xs.length ∧ len ≤ maxLen ∧ FlatAt w ec n a xs := by
  subst hn
  obtain ⟨a0, len0, cap0, rfl⟩ := okWide_slice ht hv
  obtain ⟨fuel, hf⟩ := h
  rcases open_slice_fields ht he hone hC hf with ⟨hcs, _⟩ | ⟨a, len, cap, m, D, Pl, hcs, _, hl, hm, hmm, _, hi⟩
  · simp [Value.cells] at hcs
    obtain ⟨rfl, rfl, rfl⟩ := hcs
    exact ⟨none, 0, 0, [], rfl, rfl, Nat.zero_le _, fun k hk => absurd hk (Nat.not_lt_zero _)⟩
  · simp [Value.cells] at hcs
    obtain ⟨rfl, rfl, rfl⟩ := hcs
    have hlm : len0 ≤ m := by rw [hmm]; split <;> omega
    have key : ∀ i, i < len0 → ∃ z : Nat → Int, ∀ j, j < fs.size → w.cell? (a.add (i * fs.size + j)) = some (.int .i64 (z j)) := fun i hil => by
      obtain ⟨ys, n, _, _, _, hf⟩ := hi i (by omega)
      refine choose_lt (α := Int) (p := fun j z => w.cell? (a.add (i * fs.size + j)) = some (.int .i64 z)) (fun j hj => ?_)
      obtain ⟨u, y, hc, _, htr⟩ := hf j _ (Array.getElem?_eq_getElem hj)
      obtain ⟨z, hz, _, _⟩ := DataW.trod_int (hint j _ (Array.getElem?_eq_getElem hj)) htr
      simp only [List.cons.injEq, and_true] at hz
      exact ⟨z, by rw [hc, hz]⟩
    obtain ⟨Z, hZ⟩ := choose_lt (α := Nat → Int) (p := fun i z => ∀ j, j < fs.size → w.cell? (a.add (i * fs.size + j)) = some (.int .i64 (z j))) key
    refine ⟨some a, len0, cap0, (List.range len0).map fun i => mk (Z i), rfl, by simp, by omega, fun k hk => ?_⟩
    have hk' : k < len0 := by simpa using hk
    have hs : a.spot = none := by
      have := spot_of_cell (hZ 0 (by omega) 0 h0)
      simpa [Addr.add] using this
    refine ⟨a.block, a.off, by rw [← hs], fun j u hu => ?_⟩
    simp only [List.getElem_map, List.getElem_range] at hu
    rw [hmk, List.getElem?_map] at hu
    by_cases hj : j < fs.size
    · rw [List.getElem?_eq_getElem (by simpa using hj)] at hu
      simp at hu
      subst hu
      have := hZ k hk' j hj
      rw [add_plain hs] at this
      rw [Nat.add_assoc]
      exact this
    · rw [List.getElem?_eq_none (by simpa using hj)] at hu
      cases hu
end
end Go.Proofs.Ytmppoflgbmabpaa
/- Bytes that come in: at, big; a block of one cell type. -/
namespace Go.Proofs.Ytmppoflgbmabpaa
open Go.RowKit
set_option linter.unusedSimpArgs false
set_option linter.unusedVariables false

/-- The bytes xs lie at a. -/
def BytesAt (w : World) (a : Option Addr) (xs : List Int) : Prop := ∀ k (h : k < xs.length), 0 ≤ xs[k] ∧ xs[k] ≤ 255 ∧ ∃ b off, a = some ⟨b, off, none⟩ ∧ w.cell? ⟨b, off + k, none⟩ = some (.int .u8 xs[k])
theorem BytesAt.ext {w w' : World} {a : Option Addr} {xs : List Int} (h : BytesAt w a xs) (hx : Ext w w') : BytesAt w' a xs :=
  fun k hk => let ⟨h0, h1, b, off, e, hc⟩ := h k hk; ⟨h0, h1, b, off, e, hx.cell hc⟩

theorem RowAt.alloc {w : World} {B : Nat} {t : TypeId} {c : Array Value} (h : RowAt w B t c) (o : Obj) : RowAt (w.alloc o) B t c := h.ext ((Ext.refl w).alloc o)

set_option maxHeartbeats 400000 in
theorem big_any (a : Option Addr) (n c : Nat) (w : World) (hs : n ≤ maxLen) :
    Calls Try.prog 5 #[.slice a n c] w fun e w' => e = .returned (.bool (decide ((1048576 : Int) < n))) ∧ w = w' := by
  unfold maxLen at hs
  go_enter Try.func5, Try.ntmps5
  go_wp2
  go_ret
  exact ⟨rfl, rfl⟩

/-- Some number from 0 to 255. -/
def SomeByte (w : World) (e : Ending) (w' : World) : Prop := ∃ z : Int, 0 ≤ z ∧ z ≤ 255 ∧ e = .returned (.int .i64 z) ∧ w = w'

set_option maxHeartbeats 400000 in
theorem at_any (a : Option Addr) (n c : Nat) (xs : List Int) (i : Int) (w : World) (hn : n = xs.length) (hs : n ≤ 1048576) (h0 : 0 ≤ i) (h1 : i ≤ 1000000) (hf : BytesAt w a xs) :
    Calls Try.prog 7 #[.slice a n c, .int .i64 i] w (SomeByte w) := by
  by_cases hz : n = 0
  · subst hz
    go_enter Try.func7, Try.ntmps7
    go_wp2
    go_ret
    exact ⟨0, by omega, by omega, rfl, rfl⟩
  · obtain ⟨i, rfl⟩ := Int.eq_ofNat_of_zero_le h0
    have hm : (i * 5 + 1) % n < n := Nat.mod_lt _ (by omega)
    obtain ⟨h0, h255, b, off, rfl, hc⟩ := hf ((i * 5 + 1) % n) (by omega)
    generalize hx : xs[(i * 5 + 1) % n] = x at *
    have HN := Lib.hid hn; clear hn hx hf
    have hne : ((n : Int) == 0) = false := by simpa using hz
    have hi : ((i : Int) * 5 + 1) % (n : Int) = (((i * 5 + 1) % n : Nat) : Int) := by push_cast; rfl
    have hi2 : (((i : Int) * 5 + 1) % (n : Int)).toNat = (i * 5 + 1) % n := by omega
    have hlt : (((i : Int) * 5 + 1) % (n : Int)) < n := by omega
    have hge : 0 ≤ (((i : Int) * 5 + 1) % (n : Int)) := by omega
    generalize (i * 5 + 1) % n = m at *
    go_enter Try.func7, Try.ntmps7
    go_wp2
    go_ret
    exact ⟨x, h0, h255, rfl, rfl⟩
end Go.Proofs.Ytmppoflgbmabpaa
/- An argument that is a slice of bytes, opened. -/
namespace Go.Proofs.Ytmppoflgbmabpaa
open Go.RowKit Go.WideShapes Go.ChangeShapes Go.Deep Go.Joins
theorem open_bytes {H : Type} {enc : TypeId × Value → H} {P : Program} {w : World} {base : Nat} {spare : Nat → Bool} {held : Bool} {t e : TypeId} {v : Value} {d : DataW H} {p : List MemPlace} {r : Reach} {b0 : Nat}
    (ht : P.underlying t = some (.slice e)) (he : P.underlying e = some (.int .u8)) (hC : P.cellsOf e = 1) (hv : Value.okWide P w r b0 t v) (h : DataW.Trod enc P w base spare held t v d p) :
    ∃ (a : Option Addr) (len cap : Nat) (xs : List Int), v = .slice a len cap ∧ len = xs.length ∧ len ≤ maxLen ∧ BytesAt w a xs := by
  obtain ⟨a0, len0, cap0, rfl⟩ := okWide_slice ht hv
  obtain ⟨fuel, hf⟩ := h
  rcases open_ints ht he hC hf with ⟨hcs, _⟩ | ⟨a, len, cap, zs, hcs, _, hl, hm, hz, _, hc, hw⟩
  · simp [Value.cells] at hcs
    obtain ⟨rfl, rfl, rfl⟩ := hcs
    exact ⟨none, 0, 0, [], rfl, rfl, Nat.zero_le _, fun k hk => absurd hk (Nat.not_lt_zero _)⟩
  · simp [Value.cells] at hcs
    obtain ⟨rfl, rfl, rfl⟩ := hcs
    have hlz : len0 ≤ zs.length := by rw [hz]; split <;> omega
    refine ⟨some a, len0, cap0, zs.take len0, rfl, by simp; omega, by omega, fun k hk => ?_⟩
    have hk' : k < zs.length := by simp at hk; omega
    have hs : a.spot = none := by
      have := spot_of_cell (hc 0 (by omega))
      simpa [Addr.add] using this
    have hck := hc k hk'
    rw [add_plain hs] at hck
    have hb := bounds_u8 (hw zs[k] (List.getElem_mem _))
    refine ⟨by simpa using hb.1, by simpa using hb.2, a.block, a.off, by rw [← hs], ?_⟩
    rw [hck]
    simp [List.getD, List.getElem?_eq_getElem hk']
end Go.Proofs.Ytmppoflgbmabpaa
/- Ranges. -/
namespace Go.Proofs.Ytmppoflgbmabpaa
open Go.RowKit

def inR (n lo hi : Int) : Bool := decide (lo ≤ n ∧ n ≤ hi)
theorem inR_true {n lo hi : Int} (h : inR n lo hi = true) : lo ≤ n ∧ n ≤ hi := by simpa [inR] using h
theorem inR_false {n lo hi : Int} (h : inR n lo hi = false) : ¬ (lo ≤ n ∧ n ≤ hi) := by simpa [inR] using h
set_option maxHeartbeats 400000 in
theorem inRange_any (n lo hi : Int) (w : World) :
    Calls Try.prog 26 #[.int .i64 n, .int .i64 lo, .int .i64 hi] w fun e w' => e = .returned (.bool (inR n lo hi)) ∧ w = w' := by
  rcases (by omega : (lo ≤ n ∧ n ≤ hi) ∨ (n < lo) ∨ (lo ≤ n ∧ hi < n)) with ⟨h1, h2⟩ | h1 | ⟨h1, h2⟩
  all_goals
    go_enter Try.func26, Try.ntmps26
    go_wp2
    go_ret
    exact ⟨ret_bool (by simp [inR]; omega), rfl⟩
set_option maxHeartbeats 400000 in
theorem l01In_any (n lo hi : Int) (w : World) :
    Calls Try.prog 36 #[.int .i64 n, .int .i64 lo, .int .i64 hi] w fun e w' => e = .returned (.bool (inR n lo hi)) ∧ w = w' := by
  rcases (by omega : (lo ≤ n ∧ n ≤ hi) ∨ (n < lo) ∨ (lo ≤ n ∧ hi < n)) with ⟨h1, h2⟩ | h1 | ⟨h1, h2⟩
  all_goals
    go_enter Try.func36, Try.ntmps36
    go_wp2
    go_ret
    exact ⟨ret_bool (by simp [inR]; omega), rfl⟩

end Go.Proofs.Ytmppoflgbmabpaa
/- What the functions on boats compute. -/
namespace Go.Proofs.Ytmppoflgbmabpaa
open Go.RowKit
set_option linter.unusedSimpArgs false

/-! ### Boats -/
def boatOk (a b c d e f : Int) : Bool := inR a 1 9999 && inR b 1 200 && inR c 1 30 && inR d 1 100 && inR e 1 50 && inR f 0 2
theorem chain5 (a b c d e : Bool) : a = false ∨ (a = true ∧ b = false) ∨ (a = true ∧ b = true ∧ c = false) ∨ (a = true ∧ b = true ∧ c = true ∧ d = false) ∨ (a = true ∧ b = true ∧ c = true ∧ d = true ∧ e = false) ∨ (a = true ∧ b = true ∧ c = true ∧ d = true ∧ e = true) := by
  cases a <;> cases b <;> cases c <;> cases d <;> cases e <;> simp
set_option maxHeartbeats 1000000 in
theorem implBoatOk_any (a b c d e f : Int) (w : World) :
    Calls Try.prog 58 #[.agg #[.int .i64 a, .int .i64 b, .int .i64 c, .int .i64 d, .int .i64 e, .int .i64 f]] w fun en w' => en = .returned (.bool (boatOk a b c d e f)) ∧ Ext w w' := by
  rcases chain5 (inR a 1 9999) (inR b 1 200) (inR c 1 30) (inR d 1 100) (inR e 1 50) with c1 | ⟨c1, c2⟩ | ⟨c1, c2, c3⟩ | ⟨c1, c2, c3, c4⟩ | ⟨c1, c2, c3, c4, c5⟩ | ⟨c1, c2, c3, c4, c5⟩
  all_goals
    go_enter Try.func58, Try.ntmps58
    go_wp2_with (go_at_call 26; refine (inRange_any _ _ _ _).mono ?_; rintro e w' ⟨rfl, rfl⟩)
    go_ret
    exact ⟨ret_bool (by simp [boatOk, *]), by (repeat' (first | (with_reducible exact Ext.refl _) | (with_reducible assumption) | (with_reducible refine Ext.alloc ?_ _) | (with_reducible refine Ext.drewN ?_ _) | (with_reducible refine Ext.drew ?_) | (with_reducible refine Ext.setCell ?_ ?_ _) | (with_reducible exact Nat.le_refl _) | (with_reducible exact Nat.le_succ _) | (with_reducible refine Ext.trans ?_ (by assumption)) | (simp; done) | (simp; omega)))⟩
set_option maxHeartbeats 1000000 in
theorem specBoatOk_any (a b c d e f : Int) (w : World) :
    Calls Try.prog 68 #[.agg #[.int .i64 a, .int .i64 b, .int .i64 c, .int .i64 d, .int .i64 e, .int .i64 f]] w fun en w' => en = .returned (.bool (boatOk a b c d e f)) ∧ Ext w w' := by
  rcases chain5 (inR a 1 9999) (inR b 1 200) (inR c 1 30) (inR d 1 100) (inR e 1 50) with c1 | ⟨c1, c2⟩ | ⟨c1, c2, c3⟩ | ⟨c1, c2, c3, c4⟩ | ⟨c1, c2, c3, c4, c5⟩ | ⟨c1, c2, c3, c4, c5⟩
  all_goals
    go_enter Try.func68, Try.ntmps68
    go_wp2_with (go_at_call 36; refine (l01In_any _ _ _ _).mono ?_; rintro e w' ⟨rfl, rfl⟩)
    go_ret
    exact ⟨ret_bool (by simp [boatOk, *]), by (repeat' (first | (with_reducible exact Ext.refl _) | (with_reducible assumption) | (with_reducible refine Ext.alloc ?_ _) | (with_reducible refine Ext.drewN ?_ _) | (with_reducible refine Ext.drew ?_) | (with_reducible refine Ext.setCell ?_ ?_ _) | (with_reducible exact Nat.le_refl _) | (with_reducible exact Nat.le_succ _) | (with_reducible refine Ext.trans ?_ (by assumption)) | (simp; done) | (simp; omega)))⟩
end Go.Proofs.Ytmppoflgbmabpaa
/- Trains in memory: rows of boats; what the law's helpers on them do (sizes, conversion, comparison). -/
namespace Go.Proofs.Ytmppoflgbmabpaa
open Go.RowKit
set_option linter.unusedSimpArgs false
set_option linter.unusedVariables false

structure Bt where
  id : Int
  len : Int
  wid : Int
  dra : Int
  spd : Int
  cls : Int
def bCells (b : Bt) : List Value := [.int .i64 b.id, .int .i64 b.len, .int .i64 b.wid, .int .i64 b.dra, .int .i64 b.spd, .int .i64 b.cls]
theorem bCells_len (b : Bt) : (bCells b).length = 6 := rfl

/-- The rows lie one behind the other at a, each a slice of boats. -/
def RowsAt (w : World) (a : Option Addr) (rows : List (List Bt)) : Prop :=
  ∀ k (h : k < rows.length), ∃ b off a' c, a = some ⟨b, off, none⟩ ∧ w.cell? ⟨b, off + k, none⟩ = some (.slice a' rows[k].length c) ∧ (rows[k].length ≤ maxLen ∧ (a' = none → c = 0)) ∧ FlatAt w bCells 6 a' rows[k]
theorem RowsAt.ext {w w' : World} {a : Option Addr} {rows : List (List Bt)} (h : RowsAt w a rows) (hx : Ext w w') : RowsAt w' a rows :=
  fun k hk => let ⟨b, off, a', c, e, hc, hl, hf⟩ := h k hk; ⟨b, off, a', c, e, hx.cell hc, hl, hf.ext hx⟩

/-! ### Sizes -/
def szRow (left : Int) (n : Nat) : Int := if left < n then -1 else left - n
def szGo (left : Int) : List (List Bt) → Int
  | [] => left
  | r :: rs => if szRow left r.length < 0 then -1 else szGo (szRow left r.length) rs
def szRows (left : Int) (rows : List (List Bt)) : Int := if szRow left rows.length < 0 then -1 else szGo (szRow left rows.length) rows
def total (rows : List (List Bt)) : Nat := (rows.map List.length).sum
theorem szRow_val {left : Int} {n : Nat} (h : ¬ szRow left n < 0) : szRow left n = left - n ∧ (n : Int) ≤ left := by
  unfold szRow at *
  split at h
  · exact absurd (by decide) h
  · rename_i h1; rw [if_neg h1]; exact ⟨rfl, by omega⟩
theorem szGo_val : ∀ (rows : List (List Bt)) (left : Int), 0 ≤ left → 0 ≤ szGo left rows → szGo left rows = left - total rows
  | [], left, _, _ => by simp [szGo, total]
  | r :: rs, left, h0, h => by
    simp only [szGo] at h ⊢
    split at h
    · omega
    · rename_i h1
      rw [if_neg h1]
      obtain ⟨e, hl⟩ := szRow_val h1
      have := szGo_val rs (szRow left r.length) (by omega) h
      simp only [total, List.map_cons, List.sum_cons] at *
      omega
theorem szRows_val {left : Int} {rows : List (List Bt)} (h0 : 0 ≤ left) (h : 0 ≤ szRows left rows) : szRows left rows = left - rows.length - total rows := by
  unfold szRows at *
  split at h
  · omega
  · rename_i h1
    rw [if_neg h1]
    obtain ⟨e, hl⟩ := szRow_val h1
    rw [szGo_val rows _ (by omega) h, e]
theorem total_le {rows : List (List Bt)} {r : List Bt} (h : r ∈ rows) : r.length ≤ total rows := by
  induction rows with
  | nil => cases h
  | cons x xs ih =>
    simp only [total, List.map_cons, List.sum_cons] at *
    rcases List.mem_cons.1 h with rfl | h
    · omega
    · have := ih h; omega

end Go.Proofs.Ytmppoflgbmabpaa
/- Trains in memory: conversion and comparison. -/
namespace Go.Proofs.Ytmppoflgbmabpaa
open Go.RowKit
set_option linter.unusedSimpArgs false
set_option linter.unusedVariables false

/-- A row of boats in a block of its own, B, of which nothing is frozen. -/
def RowOwn (w : World) (lo hi : Nat) (v : Value) (row : List Bt) (B : Nat) : Prop :=
  ∃ a c, v = .slice a row.length c ∧ (row.length ≤ maxLen ∧ (a = none → c = 0)) ∧ (row = [] ∨ ∃ off cur, a = some ⟨B, off, none⟩ ∧ lo ≤ B ∧ B < hi ∧ RowAt w B 76 cur ∧
    ∀ k (h : k < row.length) (j : Nat) u, (bCells row[k])[j]? = some u → cur[off + k * 6 + j]? = some u)
theorem RowOwn.keep {w w' : World} {lo hi lo' hi' : Nat} {v : Value} {row : List Bt} {B : Nat} (h : RowOwn w lo hi v row B) (hl : lo' ≤ lo) (hh : hi ≤ hi') (hk : ∀ t c, lo ≤ B → B < hi → RowAt w B t c → RowAt w' B t c) : RowOwn w' lo' hi' v row B :=
  let ⟨a, c, e, hm, hr⟩ := h
  ⟨a, c, e, hm, hr.imp id fun ⟨off, cur, e1, h1, h2, h3, h4⟩ => ⟨off, cur, e1, Nat.le_trans hl h1, Nat.lt_of_lt_of_le h2 hh, hk _ _ h1 h2 h3, h4⟩⟩
theorem RowOwn.flat {w : World} {lo hi : Nat} {v : Value} {row : List Bt} {B : Nat} (h : RowOwn w lo hi v row B) : ∃ a c, v = .slice a row.length c ∧ (row.length ≤ maxLen ∧ (a = none → c = 0)) ∧ FlatAt w bCells 6 a row := by
  obtain ⟨a, c, rfl, hm, hr⟩ := h
  refine ⟨a, c, rfl, hm, fun k hk => ?_⟩
  rcases hr with rfl | ⟨off, cur, rfl, _, _, hrow, hc⟩
  · exact absurd hk (Nat.not_lt_zero _)
  · exact ⟨B, off, rfl, fun j u hu => hrow.cell (hc k hk j u hu)⟩

/-- Rows of boats in blocks of their own, all different, with numbers from lo to hi. -/
def OwnRows (w : World) (lo hi : Nat) (a : Option Addr) (rows : List (List Bt)) : Prop :=
  rows = [] ∨ ∃ (ob oo : Nat) (oc : Array Value) (blk : Nat → Nat), a = some ⟨ob, oo, none⟩ ∧ lo ≤ ob ∧ ob < hi ∧ RowAt w ob 73 oc ∧
    ∀ k (h : k < rows.length), (∃ v, oc[oo + k]? = some v ∧ RowOwn w lo hi v rows[k] (blk k)) ∧ (rows[k] ≠ [] → blk k ≠ ob ∧ ∀ k' (h' : k' < k), rows[k'] ≠ [] → blk k' ≠ blk k)
theorem OwnRows.keep {w w' : World} {lo hi lo' hi' : Nat} {a : Option Addr} {rows : List (List Bt)} (h : OwnRows w lo hi a rows) (hl : lo' ≤ lo) (hh : hi ≤ hi') (hk : ∀ B t c, lo ≤ B → B < hi → RowAt w B t c → RowAt w' B t c) : OwnRows w' lo' hi' a rows := by
  rcases h with h | ⟨ob, oo, oc, blk, e, h1, h2, h3, h4⟩
  · exact .inl h
  · exact .inr ⟨ob, oo, oc, blk, e, Nat.le_trans hl h1, Nat.lt_of_lt_of_le h2 hh, hk _ _ _ h1 h2 h3, fun k hk' => let ⟨⟨v, q1, q2⟩, q3⟩ := h4 k hk'; ⟨⟨v, q1, q2.keep hl hh (hk (blk k))⟩, q3⟩⟩
theorem OwnRows.ext {w w' : World} {lo hi : Nat} {a : Option Addr} {rows : List (List Bt)} (h : OwnRows w lo hi a rows) (hx : Ext w w') : OwnRows w' lo hi a rows := h.keep (Nat.le_refl _) (Nat.le_refl _) (fun _ _ _ _ _ hr => hr.ext hx)
theorem OwnRows.rows {w : World} {lo hi : Nat} {a : Option Addr} {rows : List (List Bt)} (h : OwnRows w lo hi a rows) : RowsAt w a rows := fun k hk => by
  rcases h with rfl | ⟨ob, oo, oc, blk, rfl, _, _, h3, h4⟩
  · exact absurd hk (Nat.not_lt_zero _)
  · obtain ⟨⟨v, q1, q2⟩, _⟩ := h4 k hk
    obtain ⟨a', c, rfl, hm, hf⟩ := q2.flat
    exact ⟨ob, oo, a', c, rfl, h3.cell q1, hm, hf⟩

theorem OwnRows.set {w : World} {lo hi : Nat} {a : Option Addr} {rows : List (List Bt)} (h : OwnRows w lo hi a rows) {p : Addr} (hp : p.block < lo) (v : Value) : OwnRows (w.setCell p v) lo hi a rows :=
  h.keep (Nat.le_refl _) (Nat.le_refl _) (fun B t c h1 _ hr => hr.other (by omega) v)
theorem OwnRows.wide {w : World} {lo hi lo' hi' : Nat} {a : Option Addr} {rows : List (List Bt)} (h : OwnRows w lo hi a rows) (hl : lo' ≤ lo) (hh : hi ≤ hi') : OwnRows w lo' hi' a rows := h.keep hl hh (fun _ _ _ _ _ hr => hr)
theorem size_setCell' (w : World) (p : Addr) (v : Value) : (w.setCell p v).heap.size = w.heap.size := by simp [World.setCell]

theorem info_boat : (Try.prog.info? 76).map (fun i => (i.zero, i.size, i.bytes)) = some (some (.agg #[.int .i64 0, .int .i64 0, .int .i64 0, .int .i64 0, .int .i64 0, .int .i64 0]), 6, 48) := by kernel_rfl
theorem info_boats : (Try.prog.info? 73).map (fun i => (i.zero, i.size, i.bytes)) = some (some (.slice none 0 0), 1, 24) := by kernel_rfl

def Laid (wr : World) (B : Nat) (oc : Array Value) (rows : List (List Bt)) (k : Nat) : Prop :=
  ∃ blk : Nat → Nat, ∀ j (h : j < rows.length), j < k → (∃ v, oc[j]? = some v ∧ RowOwn wr B wr.heap.size v rows[j] (blk j)) ∧ B < blk j ∧ blk j < wr.heap.size ∧ ∀ j', j' < j → blk j' < blk j

theorem Laid.step {wr w1 : World} {B : Nat} {oc : Array Value} {rows : List (List Bt)} {k : Nat} {v : Value} (h : Laid wr B oc rows k) (hk : k < rows.length) (hB : B < wr.heap.size) (hx : Ext wr w1)
    (hro : RowOwn w1 wr.heap.size w1.heap.size v rows[k] wr.heap.size) (hlt : wr.heap.size < w1.heap.size) (hsz : k < oc.size) : Laid (w1.setCell ⟨B, k, none⟩ v) B (oc.setIfInBounds k v) rows (k + 1) := by
  obtain ⟨blk, hblk⟩ := h
  have hsize : (w1.setCell ⟨B, k, none⟩ v).heap.size = w1.heap.size := by simp [World.setCell]
  refine ⟨fun j => if j = k then wr.heap.size else blk j, fun j hj hjk => ?_⟩
  rw [hsize]
  by_cases e : j = k
  · subst e
    simp only [if_true]
    refine ⟨⟨v, Array.getElem?_setIfInBounds_self_of_lt hsz, hro.keep (Nat.le_of_lt hB) (Nat.le_refl _) (fun t c h1 _ hr => hr.other (p := ⟨B, j, none⟩) (by simp; omega) _)⟩, hB, hlt, fun j' hj' => ?_⟩
    rw [if_neg (by omega)]
    exact (hblk j' (by omega) hj').2.2.1
  · simp only [if_neg e]
    obtain ⟨⟨u, q1, q2⟩, q3, q4, q5⟩ := hblk j hj (by omega)
    refine ⟨⟨u, by rw [Array.getElem?_setIfInBounds_ne (by omega)]; exact q1, q2.keep (Nat.le_refl _) hx.size (fun t c h1 _ hr => (hr.ext hx).other (p := ⟨B, k, none⟩) (by simp; omega) _)⟩, q3, by have := hx.size; omega, fun j' hj' => ?_⟩
    rw [if_neg (by omega)]
    exact q5 j' hj'

end Go.Proofs.Ytmppoflgbmabpaa
/- Slices of the call's own, as flat slices. -/
namespace Go.Proofs.Ytmppoflgbmabpaa
open Go.RowKit
theorem flatMap_get {α : Type} {ec : α → List Value} {sz : Nat} (hsz : ∀ x, (ec x).length = sz) : ∀ (xs : List α) (k j : Nat) (hk : k < xs.length), j < sz → (xs.flatMap ec)[k * sz + j]? = (ec xs[k])[j]?
  | x :: xs, 0, j, _, hj => by
    simp only [Nat.zero_mul, Nat.zero_add, List.flatMap_cons, List.getElem_cons_zero]
    rw [List.getElem?_append_left (by rw [hsz]; exact hj)]
  | x :: xs, k + 1, j, hk, hj => by
    simp only [List.flatMap_cons, List.getElem_cons_succ]
    rw [List.getElem?_append_right (by rw [hsz, Nat.add_mul]; omega), hsz]
    have : (k + 1) * sz + j - sz = k * sz + j := by rw [Nat.add_mul]; omega
    rw [this]
    exact flatMap_get hsz xs k j (by simpa using hk) hj
/-- What the call owns, read as a flat slice; 'lo': it lies in new memory. -/
theorem ownsRow_flat {α : Type} {ec : α → List Value} {sz : Nat} (hsz : ∀ x, (ec x).length = sz) {w : World} {base : Nat} {e : TypeId} {v : Value} {xs : List α} (h : w.ownsRow base e sz v xs.length (xs.flatMap ec)) :
    ∃ (a : Option Addr) (cap : Nat), v = .slice a xs.length cap ∧ FlatAt w ec sz a xs ∧ (∀ ad, a = some ad → base ≤ ad.block ∧ ∃ cur, RowAt w ad.block e cur) := by
  rcases h.2 with ⟨rfl, hn⟩ | ⟨g, cap, cur, rfl, hg, hh, hnc, hcm, hcs, htake⟩
  · have hps : xs = [] := List.eq_nil_of_length_eq_zero hn
    subst hps
    exact ⟨none, 0, rfl, fun k hk => absurd hk (Nat.not_lt_zero _), fun _ h => by cases h⟩
  · refine ⟨some ⟨g, 0, none⟩, cap, rfl, fun k hk => ⟨g, 0, rfl, fun j u hu => ?_⟩, fun ad had => by cases had; exact ⟨hg, cur, hh⟩⟩
    have hj : j < sz := by
      have := (List.getElem?_eq_some_iff.1 hu).1
      rwa [hsz] at this
    have hc := World.ownsRow.cells h (g := g) rfl (k * sz + j) u (by rw [flatMap_get hsz xs k j hk hj]; exact hu)
    rw [add_plain rfl] at hc
    simp only [Nat.zero_add] at hc ⊢
    exact hc

/-- append of m elements to a slice of the call's own, its element type's row of the table in one equation. -/
theorem wpList_append_row {P : Program} {w : World} {ops : Array Oper} {rest : List Oper} {o : Oper} {a : Act} {Q : Exit → Act → World → Prop} (hgd : o.guard = none) (s x : Operand) (t : TypeId)
    (ho : o.op = .call { callee := .builtin .append, args := #[s, x], argTypes := #[t, t] })
    (base : Nat) (e : TypeId) (z : Value) (size bytes : Nat) (ht : P.underlying t = some (.slice e)) (hinf : (P.info? e).map (fun i => (i.zero, i.size, i.bytes)) = some (some z, size, bytes))
    (hzs : z.cells.size = size) (hsz : 0 < size)
    (v : Value) (n : Nat) (xs : List Value) (hs : a.eval s = v) (hown : w.ownsRow base e size v n xs)
    (ad : Addr) (m c : Nat) (news : List Value) (hx : a.eval x = .slice (some ad) m c) (hl : news.length = m * size) (hnews : ∀ (j : Nat) u, news[j]? = some u → w.cell? (ad.add j) = some u) (h1 : ∀ u ∈ news, u.oneCell' = true)
    (h63 : n + m ≤ maxLen) (hbytes : (n + m) * bytes ≤ 140737488355328) (hbase : base ≤ w.heap.size)
    (h : ∀ v' w', w'.ownsRow base e size v' (n + m) (xs ++ news) → w.grownBy w' v.ownBlock → (v' = .slice none 0 0 ↔ v = .slice none 0 0 ∧ m = 0) → wpList P ops Q rest (a.put o.dst v') w') : wpList P ops Q (o :: rest) a w := by
  obtain ⟨i0, hi, hz0, hz1, hz2⟩ := info_parts hinf
  exact wpList_append_own w hgd s x t ho base e i0 z size bytes ht hi hz0 hz1 hz2 hzs hsz v n xs hs hown ad m c news hx hl hnews h1 h63 hbytes hbase h
theorem cells_new (w : World) (t : TypeId) (news : List Value) : ∀ (j : Nat) u, news[j]? = some u → (w.alloc (.cells news.toArray t)).cell? ((⟨w.heap.size, 0, none⟩ : Addr).add j) = some u := fun j u h => by
  rw [add_plain rfl]
  simp only [Nat.zero_add]
  exact (RowAt.new w t news.toArray).cell (by simpa using h)
/-- What the call owns from 'base' on, after another block than these has changed. -/
theorem ownsRow_only {w w' : World} {base : Nat} {e : TypeId} {size : Nat} {v : Value} {n : Nat} {xs : List Value} {B : Nat} (h : w.ownsRow base e size v n xs) (hg : w.grownBy w' (some B)) (hB : B < base) : w'.ownsRow base e size v n xs :=
  h.kept hg (by
    cases hb : v.ownBlock with
    | none => exact .inl rfl
    | some k => exact .inr (fun e => by have := (World.ownsRow.lt h k hb).1; have := Option.some.inj e; omega))
theorem ownsRow_ext {w w' : World} {base : Nat} {e : TypeId} {size : Nat} {v : Value} {n : Nat} {xs : List Value} (h : w.ownsRow base e size v n xs) (hx : Ext w w') : w'.ownsRow base e size v n xs :=
  h.kept (row := none) ⟨hx.below.os, hx.below.tape, hx.below.output, hx.size, fun k hk _ => hx.below.block k hk⟩ (by cases hb : v.ownBlock <;> simp)
theorem Ext.own {w0 w w' : World} {v : Value} (h : Ext w0 w) (hg : w.grownBy w' v.ownBlock) (hv : ∀ k, v.ownBlock = some k → w0.heap.size ≤ k) : Ext w0 w' :=
  ⟨hg.os.trans h.below.os, hg.tape.trans h.below.tape, hg.output.trans h.below.output, Nat.le_trans h.size hg.size, fun i hi => (hg.block i (Nat.lt_of_lt_of_le hi h.size) (fun e => by have := hv i e.symm; omega)).trans (h.below.block i hi)⟩
theorem RowAt.own {w w' : World} {B : Nat} {t : TypeId} {c : Array Value} {v : Value} (h : RowAt w B t c) (hg : w.grownBy w' v.ownBlock) (hv : ∀ k, v.ownBlock = some k → k ≠ B) : RowAt w' B t c :=
  (hg.block B h.lt (fun e => hv B e.symm rfl)).trans h
end Go.Proofs.Ytmppoflgbmabpaa
/- slices.Contains over ints; the list of a train's boats. -/
namespace Go.Proofs.Ytmppoflgbmabpaa
open Go.RowKit
set_option linter.unusedSimpArgs false
set_option linter.unusedVariables false

/-- The ints xs lie at a. -/
def IntsAt (w : World) (a : Option Addr) (xs : List Int) : Prop := ∀ k (h : k < xs.length), ∃ b off, a = some ⟨b, off, none⟩ ∧ w.cell? ⟨b, off + k, none⟩ = some (.int .i64 xs[k])
theorem IntsAt.ext {w w' : World} {a : Option Addr} {xs : List Int} (h : IntsAt w a xs) (hx : Ext w w') : IntsAt w' a xs :=
  fun k hk => let ⟨b, off, e, hc⟩ := h k hk; ⟨b, off, e, hx.cell hc⟩

/-- The place of v, or -1. -/
def SomeIdx (v : Int) (xs : List Int) (w : World) (e : Ending) (w' : World) : Prop := ∃ z : Int, e = .returned (.int .i64 z) ∧ decide (0 ≤ z) = xs.contains v ∧ w = w'

set_option maxHeartbeats 1000000 in
theorem indexInts_any (a : Option Addr) (n c : Nat) (v : Int) (xs : List Int) (w : World) (hn : n = xs.length) (hs : n ≤ maxLen) (hf : IntsAt w a xs) :
    Calls Try.prog 66 #[.slice a n c, .int .i64 v] w (SomeIdx v xs w) := by
  unfold maxLen at hs
  have HF := Lib.hid hf; clear hf
  have HN := Lib.hid hn; clear hn
  go_enter Try.func66, Try.ntmps66
  go_wp2
  go_loop [8] (fun i => ∃ k : Nat, k ≤ n ∧ i = .int .i64 k ∧ Hid (∀ j (h : j < xs.length), j < k → xs[j] ≠ v)) (fun i => n - (intOf i).toNat)
  case atStart => exact ⟨0, Nat.zero_le _, rfl, fun _ _ h => absurd h (Nat.not_lt_zero _)⟩
  case round =>
    obtain ⟨k, hk, rfl, hno⟩ := hrel
    by_cases hlt : k < n
    · have hlt' : k < xs.length := by rw [← HN.out]; exact hlt
      obtain ⟨b, off, rfl, hc⟩ := HF.out k hlt'
      obtain ⟨y, hy⟩ : ∃ y, xs[k] = y := ⟨_, rfl⟩
      rw [hy] at hc
      have HY := Lib.hid hy; clear hy
      cases hq : (v == y)
      · go_wp2
        go_round
        case rel =>
          refine ⟨k + 1, by omega, by go_num, fun j hj hjk => ?_⟩
          by_cases e : j = k
          · subst e
            rw [HY.out]
            intro e
            rw [e] at hq
            simp at hq
          · exact hno.out j hj (by omega)
        case measure => simp [intOf]; omega
      · go_wp2
        go_ret
        refine ⟨k, rfl, ?_, rfl⟩
        have e : v = xs[k] := by rw [HY.out]; simpa using hq
        have : v ∈ xs := by rw [e]; exact List.getElem_mem _
        simp [this]
    · go_wp2
      go_ret
      refine ⟨-1, rfl, ?_, rfl⟩
      have : v ∉ xs := fun h => by
        obtain ⟨j, hj, e⟩ := List.getElem_of_mem h
        exact hno.out j hj (by have := HN.out; omega) e
      simp [this]

set_option maxHeartbeats 1000000 in
theorem containsInts_any (a : Option Addr) (n c : Nat) (v : Int) (xs : List Int) (w : World) (hn : n = xs.length) (hs : n ≤ maxLen) (hf : IntsAt w a xs) :
    Calls Try.prog 59 #[.slice a n c, .int .i64 v] w fun e w' => e = .returned (.bool (xs.contains v)) ∧ w = w' := by
  have HF := Lib.hid hf; clear hf
  have HN := Lib.hid hn; clear hn
  have HS := Lib.hid hs; clear hs
  go_enter Try.func59, Try.ntmps59
  go_wp2_with fail
  refine (indexInts_any _ _ _ _ xs _ HN.out HS.out HF.out).mono ?_
  rintro e w1 ⟨z, rfl, hz, rfl⟩
  have HZ := Lib.hid hz; clear hz
  go_wp2
  go_ret
  exact ⟨ret_bool HZ.out, rfl⟩

/-! ### The boats of a train, row by row -/
/-- The list of the boats, in new memory or nil. -/
def SomeBoats (w : World) (rows : List (List Bt)) (e : Ending) (w' : World) : Prop :=
  ∃ (a : Option Addr) (c : Nat), e = .returned (.slice a rows.flatten.length c) ∧ (FlatAt w' bCells 6 a rows.flatten ∧ ∀ ad, a = some ad → w.heap.size ≤ ad.block) ∧ Ext w w'

theorem flatMap_len (row : List Bt) : (row.flatMap bCells).length = row.length * 6 := by
  induction row with
  | nil => rfl
  | cons r rs ih => rw [List.flatMap_cons, List.length_append, ih, bCells_len, List.length_cons]; omega
theorem flat_cells {w : World} {b off : Nat} {row : List Bt} (h : FlatAt w bCells 6 (some ⟨b, off, none⟩) row) : ∀ (j : Nat) u, (row.flatMap bCells)[j]? = some u → w.cell? ((⟨b, off, none⟩ : Addr).add j) = some u := fun j u hu => by
  have hj : j < row.length * 6 := by rw [← flatMap_len]; exact (List.getElem?_eq_some_iff.1 hu).1
  have hk : j / 6 < row.length := by omega
  have e : j / 6 * 6 + j % 6 = j := by omega
  have h2 := flatMap_get bCells_len row (j / 6) (j % 6) hk (by omega)
  rw [e, hu] at h2
  obtain ⟨b', off', e', hc⟩ := h (j / 6) hk
  cases e'
  have := hc (j % 6) u h2.symm
  rw [add_plain rfl]
  rw [Nat.add_assoc, e] at this
  exact this
theorem cells_one (row : List Bt) : ∀ u ∈ row.flatMap bCells, u.oneCell' = true := fun u hu => by
  obtain ⟨b, _, hb⟩ := List.mem_flatMap.1 hu
  simp [bCells] at hb
  rcases hb with rfl | rfl | rfl | rfl | rfl | rfl <;> rfl
theorem flatten_take (rows : List (List Bt)) (k : Nat) (h : k < rows.length) : (rows.take (k + 1)).flatten = (rows.take k).flatten ++ rows[k] := by
  rw [List.take_succ_eq_append_getElem h, List.flatten_append]
  simp
theorem flatten_take_le (rows : List (List Bt)) (k : Nat) : (rows.take k).flatten.length ≤ rows.flatten.length := by
  conv => rhs; rw [← List.take_append_drop k rows, List.flatten_append, List.length_append]
  omega

/-- append of a row of boats, nil or not, to a slice of the call's own. -/
theorem append_boats {w : World} {ops : Array Oper} {rest : List Oper} {o : Oper} {a : Act} {Q : Exit → Act → World → Prop} (hgd : o.guard = none) (s x : Operand)
    (ho : o.op = .call { callee := .builtin .append, args := #[s, x], argTypes := #[73, 73] })
    (base : Nat) (v : Value) (done row done' : List Bt) (hd : done' = done ++ row) (hs : a.eval s = v) (hown : w.ownsRow base 76 6 v done.length (done.flatMap bCells))
    (a' : Option Addr) (m c : Nat) (hm : m = row.length) (hx : a.eval x = .slice a' m c) (hc : a' = none → c = 0) (hf : FlatAt w bCells 6 a' row) (hle : done'.length ≤ 1048576) (hbase : base ≤ w.heap.size)
    (h : ∀ v' w', w'.ownsRow base 76 6 v' done'.length (done'.flatMap bCells) → w.grownBy w' v.ownBlock → wpList Try.prog ops Q rest (a.put o.dst v') w') : wpList Try.prog ops Q (o :: rest) a w := by
  subst hm
  subst hd
  rw [List.length_append] at hle
  cases a' with
  | none =>
    have hr : row = [] := by
      cases row with
      | nil => rfl
      | cons r rs => obtain ⟨_, _, e, _⟩ := hf 0 (by simp); cases e
    subst hr
    obtain ⟨i0, hi, _⟩ := info_parts info_boat
    rw [hc rfl] at hx
    refine wpList_append_own_none hgd s x _ ho base 76 i0 6 Try.underlying73 hi v _ _ hs hown hx ?_
    refine h v w (by rw [List.append_nil]; exact hown) ⟨rfl, rfl, rfl, Nat.le_refl _, fun _ _ _ => rfl⟩
  | some ad =>
    obtain ⟨i0, hi, hz0, hz1, hz2⟩ := info_parts info_boat
    have hcells : ∀ (j : Nat) u, (row.flatMap bCells)[j]? = some u → w.cell? (ad.add j) = some u := by
      cases row with
      | nil => intro j u hu; simp at hu
      | cons r rs =>
        obtain ⟨b, off, e, _⟩ := hf 0 (by simp)
        cases e
        exact flat_cells hf
    refine wpList_append_row hgd s x _ ho base 76 _ 6 48 Try.underlying73 info_boat rfl (by decide) v _ _ hs hown ad _ c (row.flatMap bCells) hx (flatMap_len _) hcells (cells_one _) (by unfold maxLen; omega) (by omega) hbase ?_
    intro v' w' h1 h2 _
    exact h v' w' (by rw [List.length_append, List.flatMap_append]; exact h1) h2

set_option maxHeartbeats 2000000 in
theorem implBoatsOf_any (u : Bool) (a : Option Addr) (n c : Nat) (rows : List (List Bt)) (w : World) (hn : n = rows.length) (hs : n ≤ maxLen) (ht : rows.flatten.length ≤ 1048576) (hf : RowsAt w a rows) :
    Calls Try.prog 43 #[.agg #[.bool u, .slice a n c]] w (SomeBoats w rows) := by
  unfold maxLen at hs
  have HF := Lib.hid hf; clear hf
  have HN := Lib.hid hn; clear hn
  have HT := Lib.hid ht; clear ht
  go_enter Try.func43, Try.ntmps43
  go_wp2
  go_loopw [3, 9] (fun v i wr => ∃ (k : Nat) (done : List Bt), k ≤ n ∧ i = .int .i64 k ∧ Ext w wr ∧ Hid (done = (rows.take k).flatten) ∧ Hid (wr.ownsRow w.heap.size 76 6 v done.length (done.flatMap bCells))) (fun _ i _ => n - (intOf i).toNat)
  case atStart => exact ⟨0, [], Nat.zero_le _, rfl, by (repeat' (first | (with_reducible exact Ext.refl _) | (with_reducible assumption) | (with_reducible refine Ext.alloc ?_ _) | (with_reducible refine Ext.drewN ?_ _) | (with_reducible refine Ext.drew ?_) | (with_reducible refine Ext.setCell ?_ ?_ _) | (with_reducible exact Nat.le_refl _) | (with_reducible exact Nat.le_succ _) | (with_reducible refine Ext.trans ?_ (by assumption)) | (simp; done) | (simp; omega))), rfl, World.ownsRow_nil _ _ _ _⟩
  case round =>
    obtain ⟨k, done, hk, rfl, hr, hdone, hown⟩ := hrel
    by_cases hlt : k < n
    · have hlt' : k < rows.length := by rw [← HN.out]; exact hlt
      obtain ⟨b, off, a', c', rfl, hc0, hml, hfr⟩ := HF.out k hlt'
      have e0 : wr.cell? ⟨b, off + k, none⟩ = some (.slice a' rows[k].length c') := hr.cell hc0
      have HFR := Lib.hid (hfr.ext hr); clear hfr
      have hle := flatten_take_le rows (k + 1)
      have hd2 := flatten_take rows k hlt'
      rw [hd2, ← hdone.out] at hle
      rw [← hdone.out] at hd2
      clear hdone
      obtain ⟨row, hrow⟩ : ∃ row, rows[k] = row := ⟨_, rfl⟩
      rw [hrow] at e0 HFR hle hml hd2
      obtain ⟨done', hd'⟩ : ∃ d, d = done ++ row := ⟨_, rfl⟩
      rw [← hd'] at hle hd2
      have HLE := Lib.hid (Nat.le_trans hle HT.out); clear hle
      have HD := Lib.hid hd2.symm; clear hd2
      have HD' := Lib.hid hd'; clear hd'
      have HML := Lib.hid hml; clear hml
      clear hc0
      obtain ⟨m, hm⟩ : ∃ m, m = row.length := ⟨_, rfl⟩
      rw [← hm] at e0
      have HM := Lib.hid hm; clear hm
      clear hrow
      have hsz := hr.size
      go_wp2_with (at_builtin; refine append_boats rfl _ _ rfl w.heap.size _ done row done' HD'.out rfl hown.out a' m c' HM.out rfl HML.out.2 HFR.out HLE.out hsz ?_)
      intro v' w5 hown5 hgrow5
      have hx5 := hr.own hgrow5 (fun k hk => (World.ownsRow.lt hown.out k hk).1)
      have HO5 := Lib.hid hown5; clear hown5
      clear hgrow5
      go_wp2
      go_roundw
      case rel => exact ⟨k + 1, done', by omega, by go_num, hx5, HD.out, HO5.out⟩
      case measure => simp [intOf]; omega
    · have hkn : k = n := by omega
      have HD : done = rows.flatten := by rw [hdone.out, hkn, HN.out, List.take_length]
      clear hdone
      obtain ⟨a9, c9, rfl, hfl, hnew⟩ := ownsRow_flat bCells_len hown.out
      have HNEW := Lib.hid (fun ad e => (hnew ad e).1); clear hnew
      have HD := Lib.hid HD
      have HFL := Lib.hid hfl
      clear hfl
      go_wp2
      go_ret
      exact ⟨a9, c9, by (show Ending.returned (Value.slice a9 done.length c9) = _); rw [HD.out], ⟨by rw [← HD.out]; exact HFL.out, fun ad e => by have := HNEW.out ad e; omega⟩, hr⟩

set_option maxHeartbeats 2000000 in
theorem specBoats_any (u : Bool) (a : Option Addr) (n c : Nat) (rows : List (List Bt)) (w : World) (hn : n = rows.length) (hs : n ≤ maxLen) (ht : rows.flatten.length ≤ 1048576) (hf : RowsAt w a rows) :
    Calls Try.prog 67 #[.agg #[.bool u, .slice a n c]] w (SomeBoats w rows) := by
  unfold maxLen at hs
  have HF := Lib.hid hf; clear hf
  have HN := Lib.hid hn; clear hn
  have HT := Lib.hid ht; clear ht
  go_enter Try.func67, Try.ntmps67
  go_wp2
  go_loopw [3, 4] (fun v i wr => ∃ (k : Nat) (done : List Bt), k ≤ n ∧ i = .int .i64 k ∧ Ext w wr ∧ RowAt wr w.heap.size 47 #[.bool u, .slice a n c] ∧ Hid (done = (rows.take k).flatten) ∧ Hid (wr.ownsRow (w.heap.size + 1) 76 6 v done.length (done.flatMap bCells))) (fun _ i _ => n - (intOf i).toNat)
  case atStart =>
    refine ⟨0, [], Nat.zero_le _, rfl, by (repeat' (first | (with_reducible exact Ext.refl _) | (with_reducible assumption) | (with_reducible refine Ext.alloc ?_ _) | (with_reducible refine Ext.drewN ?_ _) | (with_reducible refine Ext.drew ?_) | (with_reducible refine Ext.setCell ?_ ?_ _) | (with_reducible exact Nat.le_refl _) | (with_reducible exact Nat.le_succ _) | (with_reducible refine Ext.trans ?_ (by assumption)) | (simp; done) | (simp; omega))), (RowAt.new _ _ _).ext ((Ext.refl _).alloc _), rfl, ?_⟩
    have := World.ownsRow_lit (base := w.heap.size + 1) (e := 76) (size := 6) (w.alloc (Obj.cells #[Value.bool u, Value.slice a n c] 47)) #[] 0 (by simp) (by unfold maxLen; omega) rfl
    (show World.ownsRow _ _ _ _ _ _ _)
    simpa using this
  case round =>
    obtain ⟨k, done, hk, rfl, hr, hrow0, hdone, hown⟩ := hrel
    have g0 : wr.cell? ⟨w.heap.size, 0, none⟩ = some (.bool u) := hrow0.cell rfl
    have g1 : wr.cell? ⟨w.heap.size, 1, none⟩ = some (.slice a n c) := hrow0.cell rfl
    have hlt0 := hrow0.lt
    have HROW := Lib.hid hrow0; clear hrow0
    by_cases hlt : k < n
    · have hlt' : k < rows.length := by rw [← HN.out]; exact hlt
      obtain ⟨b, off, a', c', rfl, hc0, hml, hfr⟩ := HF.out k hlt'
      have e0 : wr.cell? ⟨b, off + k, none⟩ = some (.slice a' rows[k].length c') := hr.cell hc0
      have HFR := Lib.hid (hfr.ext hr); clear hfr
      have hle := flatten_take_le rows (k + 1)
      have hd2 := flatten_take rows k hlt'
      rw [hd2, ← hdone.out] at hle
      rw [← hdone.out] at hd2
      clear hdone
      obtain ⟨row, hrow⟩ : ∃ row, rows[k] = row := ⟨_, rfl⟩
      rw [hrow] at e0 HFR hle hml hd2
      obtain ⟨done', hd'⟩ : ∃ d, d = done ++ row := ⟨_, rfl⟩
      rw [← hd'] at hle hd2
      have HLE := Lib.hid (Nat.le_trans hle HT.out); clear hle
      have HD := Lib.hid hd2.symm; clear hd2
      have HD' := Lib.hid hd'; clear hd'
      have HML := Lib.hid hml; clear hml
      clear hc0
      obtain ⟨m, hm⟩ : ∃ m, m = row.length := ⟨_, rfl⟩
      rw [← hm] at e0
      have HM := Lib.hid hm; clear hm
      clear hrow
      have hsz : w.heap.size + 1 ≤ wr.heap.size := hlt0
      go_wp2_with (at_builtin; refine append_boats rfl _ _ rfl (w.heap.size + 1) _ done row done' HD'.out rfl hown.out a' m c' HM.out rfl HML.out.2 HFR.out HLE.out hsz ?_)
      intro v' w5 hown5 hgrow5
      have hx5 := hr.own hgrow5 (fun k hk => Nat.le_of_succ_le (World.ownsRow.lt hown.out k hk).1)
      have hr5 := HROW.out.own hgrow5 (fun k hk => by have := (World.ownsRow.lt hown.out k hk).1; omega)
      have HO5 := Lib.hid hown5; clear hown5
      clear hgrow5
      go_wp2
      go_roundw
      case rel => exact ⟨k + 1, done', by omega, by go_num, hx5, hr5, HD.out, HO5.out⟩
      case measure => simp [intOf]; omega
    · have hkn : k = n := by omega
      have HD : done = rows.flatten := by rw [hdone.out, hkn, HN.out, List.take_length]
      clear hdone
      obtain ⟨a9, c9, rfl, hfl, hnew⟩ := ownsRow_flat bCells_len hown.out
      have HNEW := Lib.hid (fun ad e => (hnew ad e).1); clear hnew
      have HD := Lib.hid HD
      have HFL := Lib.hid hfl
      clear hfl
      go_wp2
      go_ret
      exact ⟨a9, c9, by (show Ending.returned (Value.slice a9 done.length c9) = _); rw [HD.out], ⟨by rw [← HD.out]; exact HFL.out, fun ad e => by have := HNEW.out ad e; omega⟩, hr⟩
end Go.Proofs.Ytmppoflgbmabpaa
/- TrainOk: what it computes, on both sides. -/
namespace Go.Proofs.Ytmppoflgbmabpaa
open Go.RowKit
set_option linter.unusedSimpArgs false
set_option linter.unusedVariables false

def bOk (b : Bt) : Bool := boatOk b.id b.len b.wid b.dra b.spd b.cls
/-- The boats are valid, and their Ids differ from those seen and from each other. -/
def boatsGo (seen : List Int) : List Bt → Bool
  | [] => true
  | b :: bs => bOk b && !seen.contains b.id && boatsGo (seen ++ [b.id]) bs
def implGo (seen : List Int) : List (List Bt) → Bool
  | [] => true
  | r :: rs => if r.length = 0 ∨ 6 < seen.length + r.length then false else boatsGo seen r && implGo (seen ++ r.map Bt.id) rs
def trainOk (rows : List (List Bt)) : Bool := if rows.length = 0 ∨ 6 < rows.length then false else implGo [] rows

theorem row_le {rows : List (List Bt)} {k : Nat} (h : k < rows.length) : rows[k].length ≤ rows.flatten.length := by
  have h1 := flatten_take_le rows (k + 1)
  rw [flatten_take rows k h, List.length_append] at h1
  omega

theorem containsInts_is (d : Bool) (a : Option Addr) (n c : Nat) (v : Int) (xs : List Int) (w : World) (hn : n = xs.length) (hs : n ≤ maxLen) (hf : IntsAt w a xs) (hd : xs.contains v = d) :
    Calls Try.prog 59 #[.slice a n c, .int .i64 v] w fun e w' => e = .returned (.bool d) ∧ w = w' := by
  subst hd
  exact containsInts_any a n c v xs w hn hs hf
theorem seenSlice (a : Addr) (m : Nat) (h : m ≤ 6) (W : World) : (Instr.sliceAt 88 (.pointer (some a)) none (some (.int .i64 (m : Int))) none).run Try.prog W = .ok (.slice (some a) m 6) W := by
  have hal : Try.prog.arrayLen 88 = 6 := by kernel_rfl
  have hel : Try.prog.elem 88 = 3 := by kernel_rfl
  rw [run_sliceAt_array_h W 88 a (by kernel_rfl) .i64 (m : Int) (by omega) (by rw [hal]; omega), hal, hel]
  have hs : (sizeOf 3).run Try.prog W = .ok 1 W := by kernel_rfl
  rw [hs]
  simp only [Result.andThen, slicedAt, Int.toNat_natCast, Nat.sub_zero, Nat.zero_mul]
  rw [if_neg (by decide)]
  simp [Addr.add]
set_option maxHeartbeats 4000000 in
theorem implTrainOk_any (u : Bool) (a : Option Addr) (n c : Nat) (rows : List (List Bt)) (w : World) (hn : n = rows.length) (hs : n ≤ 1048576) (ht : rows.flatten.length ≤ 1048576) (hf : RowsAt w a rows) :
    Calls Try.prog 42 #[.agg #[.bool u, .slice a n c]] w fun e w' => e = .returned (.bool (trainOk rows)) ∧ Ext w w' := by
  by_cases h0 : n = 0
  · have hR := Lib.hid (show trainOk rows = false by rw [trainOk, if_pos (by omega)])
    clear hn hf
    subst h0
    go_enter Try.func42, Try.ntmps42
    go_wp2
    go_ret
    exact ⟨ret_bool hR.out.symm, by (repeat' (first | (with_reducible exact Ext.refl _) | (with_reducible assumption) | (with_reducible refine Ext.alloc ?_ _) | (with_reducible refine Ext.drewN ?_ _) | (with_reducible refine Ext.drew ?_) | (with_reducible refine Ext.setCell ?_ ?_ _) | (with_reducible exact Nat.le_refl _) | (with_reducible exact Nat.le_succ _) | (with_reducible refine Ext.trans ?_ (by assumption)) | (simp; done) | (simp; omega)))⟩
  by_cases h6 : 6 < n
  · have hR := Lib.hid (show trainOk rows = false by rw [trainOk, if_pos (by omega)])
    clear hn hf
    go_enter Try.func42, Try.ntmps42
    go_wp2
    go_ret
    exact ⟨ret_bool hR.out.symm, by (repeat' (first | (with_reducible exact Ext.refl _) | (with_reducible assumption) | (with_reducible refine Ext.alloc ?_ _) | (with_reducible refine Ext.drewN ?_ _) | (with_reducible refine Ext.drew ?_) | (with_reducible refine Ext.setCell ?_ ?_ _) | (with_reducible exact Nat.le_refl _) | (with_reducible exact Nat.le_succ _) | (with_reducible refine Ext.trans ?_ (by assumption)) | (simp; done) | (simp; omega)))⟩
  have hR := Lib.hid (show trainOk rows = implGo [] (rows.drop 0) by rw [trainOk, if_neg (by omega), List.drop_zero])
  obtain ⟨R, hR'⟩ : ∃ R, trainOk rows = R := ⟨_, rfl⟩
  rw [hR'] at hR ⊢
  clear hR'
  have HF := Lib.hid hf; clear hf
  have HN := Lib.hid hn; clear hn
  have HT := Lib.hid ht; clear ht
  have r6 := RowAt.new (w.alloc (.cells #[.bool u, .slice a n c] 47)) 88 #[.int .i64 0, .int .i64 0, .int .i64 0, .int .i64 0, .int .i64 0, .int .i64 0]
  rw [World.size_alloc] at r6
  have R6 := Lib.hid r6; clear r6
  have q1 : ((n : Int) == 0) = false := by simpa using h0
  have q2 : decide (6 < (n : Int)) = false := by simp; omega
  go_enter Try.func42, Try.ntmps42
  go_wp2
  go_loopw [4, 22] (fun cn i wr => ∃ (k m : Nat) (seen : List Int) (cc : Array Value), k ≤ n ∧ i = .int .i64 k ∧ cn = .int .i64 m ∧ m ≤ 6 ∧ Ext w wr ∧ RowAt wr (w.heap.size + 1) 88 cc ∧ Hid (cc.size = 6) ∧ Hid (m = seen.length) ∧ Hid (∀ j (h : j < seen.length), cc[j]? = some (.int .i64 seen[j])) ∧ Hid (R = implGo seen (rows.drop k))) (fun _ i _ => n - (intOf i).toNat)
  case atStart =>
    exact ⟨0, 0, [], _, Nat.zero_le _, rfl, rfl, Nat.zero_le _, by (repeat' (first | (with_reducible exact Ext.refl _) | (with_reducible assumption) | (with_reducible refine Ext.alloc ?_ _) | (with_reducible refine Ext.drewN ?_ _) | (with_reducible refine Ext.drew ?_) | (with_reducible refine Ext.setCell ?_ ?_ _) | (with_reducible exact Nat.le_refl _) | (with_reducible exact Nat.le_succ _) | (with_reducible refine Ext.trans ?_ (by assumption)) | (simp; done) | (simp; omega))), R6.out, rfl, rfl, fun _ h => absurd h (Nat.not_lt_zero _), hR.out⟩
  case round =>
    obtain ⟨w1, rfl⟩ : ∃ x, x = wr := ⟨_, rfl⟩
    obtain ⟨k, m0, seen0, cc0, hk, rfl, rfl, hm6, hr0, hrow0, hsz0, hm0, hcc0, hgo⟩ := hrel
    by_cases hlt : k < n
    · have hlt' : k < rows.length := by rw [← HN.out]; exact hlt
      obtain ⟨b, off, a', c', rfl, hc0, hml, hfr⟩ := HF.out k hlt'
      have e0 : w1.cell? ⟨b, off + k, none⟩ = some (.slice a' rows[k].length c') := hr0.cell hc0
      have hd := List.drop_eq_getElem_cons hlt'
      have hml2 := Nat.le_trans (row_le hlt') HT.out
      obtain ⟨row, hrow'⟩ : ∃ row, rows[k] = row := ⟨_, rfl⟩
      rw [hrow'] at e0 hml hfr hd hml2
      have HG := Lib.hid (show R = implGo seen0 (row :: rows.drop (k + 1)) by rw [← hd]; exact hgo.out)
      clear hgo hd hrow' hc0
      obtain ⟨p, hp⟩ : ∃ p, p = row.length := ⟨_, rfl⟩
      rw [← hp] at e0 hml2
      by_cases hp0 : p = 0
      · have hR := Lib.hid (show R = false by rw [HG.out, implGo, if_pos (by omega)])
        clear HG hml hp hfr
        subst hp0
        go_wp2
        go_ret
        exact ⟨ret_bool hR.out.symm, by (repeat' (first | (with_reducible exact Ext.refl _) | (with_reducible assumption) | (with_reducible refine Ext.alloc ?_ _) | (with_reducible refine Ext.drewN ?_ _) | (with_reducible refine Ext.drew ?_) | (with_reducible refine Ext.setCell ?_ ?_ _) | (with_reducible exact Nat.le_refl _) | (with_reducible exact Nat.le_succ _) | (with_reducible refine Ext.trans ?_ (by assumption)) | (simp; done) | (simp; omega)))⟩
      by_cases hp6 : 6 < m0 + p
      · have hR := Lib.hid (show R = false by rw [HG.out, implGo, if_pos (by have := hm0.out; omega)])
        clear HG hml hp hfr
        have q3 : ((p : Int) == 0) = false := by simpa using hp0
        have q4 : decide (6 < (m0 : Int) + (p : Int)) = true := by simp; omega
        go_wp2
        go_ret
        exact ⟨ret_bool hR.out.symm, by (repeat' (first | (with_reducible exact Ext.refl _) | (with_reducible assumption) | (with_reducible refine Ext.alloc ?_ _) | (with_reducible refine Ext.drewN ?_ _) | (with_reducible refine Ext.drew ?_) | (with_reducible refine Ext.setCell ?_ ?_ _) | (with_reducible exact Nat.le_refl _) | (with_reducible exact Nat.le_succ _) | (with_reducible refine Ext.trans ?_ (by assumption)) | (simp; done) | (simp; omega)))⟩
      have q3 : ((p : Int) == 0) = false := by simpa using hp0
      have q4 : decide (6 < (m0 : Int) + (p : Int)) = false := by simp; omega
      have HG2 := Lib.hid (show R = (boatsGo seen0 (row.drop 0) && implGo (seen0 ++ (row.drop 0).map Bt.id) (rows.drop (k + 1))) by rw [HG.out, implGo, if_neg (by have := hm0.out; omega), List.drop_zero])
      have HFR := Lib.hid hfr; clear hfr
      have HP := Lib.hid hp
      clear HG hp hml
      go_wp2
      go_loopw [4, 38] (fun cn i wr => ∃ (q m : Nat) (seen : List Int) (cc : Array Value), q ≤ p ∧ i = .int .i64 q ∧ cn = .int .i64 m ∧ m + (p - q) ≤ 6 ∧ Ext w wr ∧ RowAt wr (w.heap.size + 1) 88 cc ∧ Hid (cc.size = 6) ∧ Hid (m = seen.length) ∧ Hid (∀ j (h : j < seen.length), cc[j]? = some (.int .i64 seen[j])) ∧ Hid (R = (boatsGo seen (row.drop q) && implGo (seen ++ (row.drop q).map Bt.id) (rows.drop (k + 1))))) (fun _ i _ => p - (intOf i).toNat)
      case atStart => exact ⟨0, m0, seen0, cc0, Nat.zero_le _, rfl, rfl, by omega, by (repeat' (first | (with_reducible exact Ext.refl _) | (with_reducible assumption) | (with_reducible refine Ext.alloc ?_ _) | (with_reducible refine Ext.drewN ?_ _) | (with_reducible refine Ext.drew ?_) | (with_reducible refine Ext.setCell ?_ ?_ _) | (with_reducible exact Nat.le_refl _) | (with_reducible exact Nat.le_succ _) | (with_reducible refine Ext.trans ?_ (by assumption)) | (simp; done) | (simp; omega))), hrow0, hsz0, hm0, hcc0, HG2⟩
      case round =>
        obtain ⟨q, m, seen, cc, hq, rfl, rfl, hmq, hr, hrow, hsz, hm, hcc, hgo⟩ := hrel
        by_cases hlt : q < p
        · have hlt2 : q < row.length := by rw [← HP.out]; exact hlt
          obtain ⟨b2, off2, rfl, hcell⟩ := HFR.out.get q hlt2
          have hd := List.drop_eq_getElem_cons hlt2
          obtain ⟨bt, hbt⟩ : ∃ bt, row[q] = bt := ⟨_, rfl⟩
          rw [hbt] at hcell hd
          clear hbt
          obtain ⟨bi, bl, bw, bd, bs, bc⟩ := bt
          have g0 : wr.cell? ⟨b2, off2 + q * 6, none⟩ = some (.int .i64 bi) := hcell 0 _ rfl _ hr
          have g1 : wr.cell? ⟨b2, off2 + q * 6 + 1, none⟩ = some (.int .i64 bl) := hcell 1 _ rfl _ hr
          have g2 : wr.cell? ⟨b2, off2 + q * 6 + 2, none⟩ = some (.int .i64 bw) := hcell 2 _ rfl _ hr
          have g3 : wr.cell? ⟨b2, off2 + q * 6 + 3, none⟩ = some (.int .i64 bd) := hcell 3 _ rfl _ hr
          have g4 : wr.cell? ⟨b2, off2 + q * 6 + 4, none⟩ = some (.int .i64 bs) := hcell 4 _ rfl _ hr
          have g5 : wr.cell? ⟨b2, off2 + q * 6 + 5, none⟩ = some (.int .i64 bc) := hcell 5 _ rfl _ hr
          have HG := Lib.hid (show R = ((boatOk bi bl bw bd bs bc && !seen.contains bi && boatsGo (seen ++ [bi]) (row.drop (q + 1))) && implGo (seen ++ bi :: (row.drop (q + 1)).map Bt.id) (rows.drop (k + 1))) by rw [hgo.out, hd]; rfl)
          clear hcell hd hgo
          have B5 := RowAt.new wr 76 #[.int .i64 bi, .int .i64 bl, .int .i64 bw, .int .i64 bd, .int .i64 bs, .int .i64 bc]
          have k0 : ∀ x : Aft (wr.alloc (.cells #[.int .i64 bi, .int .i64 bl, .int .i64 bw, .int .i64 bd, .int .i64 bs, .int .i64 bc] 76)), x.1.cell? ⟨wr.heap.size, 0, none⟩ = some (.int .i64 bi) := fun x => (B5.ext x.2).cell rfl
          have k1 : ∀ x : Aft (wr.alloc (.cells #[.int .i64 bi, .int .i64 bl, .int .i64 bw, .int .i64 bd, .int .i64 bs, .int .i64 bc] 76)), x.1.cell? ⟨wr.heap.size, 1, none⟩ = some (.int .i64 bl) := fun x => (B5.ext x.2).cell rfl
          have k2 : ∀ x : Aft (wr.alloc (.cells #[.int .i64 bi, .int .i64 bl, .int .i64 bw, .int .i64 bd, .int .i64 bs, .int .i64 bc] 76)), x.1.cell? ⟨wr.heap.size, 2, none⟩ = some (.int .i64 bw) := fun x => (B5.ext x.2).cell rfl
          have k3 : ∀ x : Aft (wr.alloc (.cells #[.int .i64 bi, .int .i64 bl, .int .i64 bw, .int .i64 bd, .int .i64 bs, .int .i64 bc] 76)), x.1.cell? ⟨wr.heap.size, 3, none⟩ = some (.int .i64 bd) := fun x => (B5.ext x.2).cell rfl
          have k4 : ∀ x : Aft (wr.alloc (.cells #[.int .i64 bi, .int .i64 bl, .int .i64 bw, .int .i64 bd, .int .i64 bs, .int .i64 bc] 76)), x.1.cell? ⟨wr.heap.size, 4, none⟩ = some (.int .i64 bs) := fun x => (B5.ext x.2).cell rfl
          have k5 : ∀ x : Aft (wr.alloc (.cells #[.int .i64 bi, .int .i64 bl, .int .i64 bw, .int .i64 bd, .int .i64 bs, .int .i64 bc] 76)), x.1.cell? ⟨wr.heap.size, 5, none⟩ = some (.int .i64 bc) := fun x => (B5.ext x.2).cell rfl
          have KI : Hid (∀ x : Aft (wr.alloc (.cells #[.int .i64 bi, .int .i64 bl, .int .i64 bw, .int .i64 bd, .int .i64 bs, .int .i64 bc] 76)), IntsAt x.1 (some ⟨w.heap.size + 1, 0, none⟩) seen) := fun x j hj => ⟨w.heap.size + 1, 0, rfl, ((hrow.ext ((Ext.refl _).alloc _)).ext x.2).cell (by rw [Nat.zero_add]; exact hcc.out j hj)⟩
          have K5 := Lib.hid B5; clear B5
          have hm6' : m ≤ 6 := by omega
          have HM63 : Hid (m ≤ maxLen) := by (show _ ≤ _); unfold maxLen; omega
          have Q7 : ∀ W : World, (Instr.sliceAt 88 (.pointer (some ⟨w.heap.size + 1, 0, none⟩)) none (some (.int .i64 (m : Int))) none).run Try.prog W = .ok (.slice (some ⟨w.heap.size + 1, 0, none⟩) m 6) W := fun W => seenSlice _ m hm6' W
          cases c1 : boatOk bi bl bw bd bs bc
          · have hR := Lib.hid (show R = false by rw [HG.out, c1]; rfl)
            go_wp2_with fail
            (refine wp_region_aft _ (Ext.refl _) (by kernel_rfl) (by kernel_rfl) ?_; (repeat (go_big_quiet_step (first | (go_at_call 58; exact aft_call (implBoatOk_any _ _ _ _ _ _ _)) | (go_at_call 59; exact aft_same (containsInts_any _ _ _ _ seen _ hm.out HM63.out (KI.out _)))))); refine wpQuiet_nil ?_; intro w2 hx2)
            rw [c1]
            go_wp2
            go_ret
            exact ⟨ret_bool hR.out.symm, by (repeat' (first | (with_reducible exact Ext.refl _) | (with_reducible assumption) | (with_reducible refine Ext.alloc ?_ _) | (with_reducible refine Ext.drewN ?_ _) | (with_reducible refine Ext.drew ?_) | (with_reducible refine Ext.setCell ?_ ?_ _) | (with_reducible exact Nat.le_refl _) | (with_reducible exact Nat.le_succ _) | (with_reducible refine Ext.trans ?_ (by assumption)) | (simp; done) | (simp; omega)))⟩
          rcases Bool.eq_false_or_eq_true (seen.contains bi) with c2 | c2
          · have hR := Lib.hid (show R = false by rw [HG.out, c1, c2]; rfl)
            have C2 := Lib.hid c2; clear c2
            go_wp2_with fail
            (refine wp_region_aft _ (Ext.refl _) (by kernel_rfl) (by kernel_rfl) ?_; (repeat (go_big_quiet_step (first | (go_at_call 58; exact aft_call (implBoatOk_any _ _ _ _ _ _ _)) | (go_at_call 59; exact aft_same (containsInts_is true _ _ _ _ seen _ hm.out HM63.out (KI.out _) C2.out))))); refine wpQuiet_nil ?_; intro w2 hx2)
            rw [c1]
            go_wp2
            go_ret
            exact ⟨ret_bool hR.out.symm, by (repeat' (first | (with_reducible exact Ext.refl _) | (with_reducible assumption) | (with_reducible refine Ext.alloc ?_ _) | (with_reducible refine Ext.drewN ?_ _) | (with_reducible refine Ext.drew ?_) | (with_reducible refine Ext.setCell ?_ ?_ _) | (with_reducible exact Nat.le_refl _) | (with_reducible exact Nat.le_succ _) | (with_reducible refine Ext.trans ?_ (by assumption)) | (simp; done) | (simp; omega)))⟩
          · have hR := Lib.hid (show R = (boatsGo (seen ++ [bi]) (row.drop (q + 1)) && implGo ((seen ++ [bi]) ++ (row.drop (q + 1)).map Bt.id) (rows.drop (k + 1))) by rw [HG.out, c1, c2, List.append_assoc]; rfl)
            have C2 := Lib.hid c2; clear c2
            go_wp2_with fail
            (refine wp_region_aft _ (Ext.refl _) (by kernel_rfl) (by kernel_rfl) ?_; (repeat (go_big_quiet_step (first | (go_at_call 58; exact aft_call (implBoatOk_any _ _ _ _ _ _ _)) | (go_at_call 59; exact aft_same (containsInts_is false _ _ _ _ seen _ hm.out HM63.out (KI.out _) C2.out))))); refine wpQuiet_nil ?_; intro w2 hx2)
            rw [c1]
            have HX := Lib.hid hx2
            have hxw := Ext.trans ((Ext.refl wr).alloc _) hx2
            have j0 := k0 ⟨w2, hx2⟩
            have j1 := k1 ⟨w2, hx2⟩
            have j2 := k2 ⟨w2, hx2⟩
            have j3 := k3 ⟨w2, hx2⟩
            have j4 := k4 ⟨w2, hx2⟩
            have j5 := k5 ⟨w2, hx2⟩
            dsimp only at j0 j1 j2 j3 j4 j5
            clear k0 k1 k2 k3 k4 k5 Q7
            have r2 := hrow.ext hxw
            have fz := r2.frozen m
            obtain ⟨v0, hv0⟩ : ∃ v, cc[m]? = some v := ⟨_, Array.getElem?_eq_getElem (by have := hsz.out; omega)⟩
            have cz := r2.cell hv0
            have HV0 := Lib.hid hv0; clear hv0
            have hmlt : m < 6 := by omega
            go_wp2
            go_roundw
            case rel =>
              have hs3 := hsz.out
              refine ⟨q + 1, m + 1, seen ++ [bi], cc.setIfInBounds m (.int .i64 bi), by omega, by go_num, by go_num, by omega, by (repeat' (first | (with_reducible exact Ext.refl _) | (with_reducible assumption) | (with_reducible refine Ext.alloc ?_ _) | (with_reducible refine Ext.drewN ?_ _) | (with_reducible refine Ext.drew ?_) | (with_reducible refine Ext.setCell ?_ ?_ _) | (with_reducible exact Nat.le_refl _) | (with_reducible exact Nat.le_succ _) | (with_reducible refine Ext.trans ?_ (by assumption)) | (simp; done) | (simp; omega))), r2.set _ _, by (show _ = _); simpa using hs3, by (show _ = _); simpa using hm.out, ?_, hR.out⟩
              intro j hj
              have hj2 : j < m + 1 := by have := hm.out; simpa [← this] using hj
              by_cases e : j = m
              · subst e
                rw [Array.getElem?_setIfInBounds_self_of_lt (by omega)]
                simp [hm.out]
              · rw [Array.getElem?_setIfInBounds_ne (by omega), hcc.out j (by have := hm.out; omega)]
                rw [List.getElem_append_left (by have := hm.out; omega)]
            case measure => simp [intOf]; omega
        · have hqp : q = p := by omega
          have HG := Lib.hid (show R = implGo seen (rows.drop (k + 1)) by rw [hgo.out, List.drop_eq_nil_of_le (by have := HP.out; omega)]; simp [boatsGo])
          clear hgo
          go_wp2
          go_roundw
          case rel => exact ⟨k + 1, m, seen, cc, by omega, by go_num, rfl, by omega, hr, hrow, hsz, hm, hcc, HG⟩
          case measure => simp [intOf]; omega
    · have hR := Lib.hid (show R = true by rw [hgo.out, List.drop_eq_nil_of_le (by have := HN.out; omega)]; rfl)
      go_wp2
      go_ret
      exact ⟨ret_bool hR.out.symm, by (repeat' (first | (with_reducible exact Ext.refl _) | (with_reducible assumption) | (with_reducible refine Ext.alloc ?_ _) | (with_reducible refine Ext.drewN ?_ _) | (with_reducible refine Ext.drew ?_) | (with_reducible refine Ext.setCell ?_ ?_ _) | (with_reducible exact Nat.le_refl _) | (with_reducible exact Nat.le_succ _) | (with_reducible refine Ext.trans ?_ (by assumption)) | (simp; done) | (simp; omega)))⟩
end Go.Proofs.Ytmppoflgbmabpaa
/- TrainOk: the closed form, and the reference. -/
namespace Go.Proofs.Ytmppoflgbmabpaa
open Go.RowKit
set_option linter.unusedSimpArgs false
set_option linter.unusedVariables false

theorem boatsGo_append : ∀ (xs ys : List Bt) (seen : List Int), boatsGo seen (xs ++ ys) = (boatsGo seen xs && boatsGo (seen ++ xs.map Bt.id) ys)
  | [], ys, seen => by simp [boatsGo]
  | b :: xs, ys, seen => by
    simp only [List.cons_append, boatsGo, boatsGo_append xs ys, List.map_cons, List.append_assoc, Bool.and_assoc]
    rfl
theorem implGo_empty : ∀ (rows : List (List Bt)) (seen : List Int), (∃ r ∈ rows, r.length = 0) → implGo seen rows = false
  | [], _, h => by simp at h
  | r :: rs, seen, h => by
    unfold implGo
    split
    · rfl
    · rename_i hc
      obtain ⟨r', hr', h0⟩ := h
      rcases List.mem_cons.1 hr' with rfl | hm
      · exact absurd (.inl h0) hc
      · rw [implGo_empty rs _ ⟨r', hm, h0⟩, Bool.and_false]
theorem implGo_full : ∀ (rows : List (List Bt)) (seen : List Int), (∀ r ∈ rows, r.length ≠ 0) → implGo seen rows = (decide (rows.flatten.length = 0 ∨ seen.length + rows.flatten.length ≤ 6) && boatsGo seen rows.flatten)
  | [], seen, _ => by simp [implGo, boatsGo]
  | r :: rs, seen, h => by
    have h0 := h r (by simp)
    unfold implGo
    rw [List.flatten_cons, List.length_append, boatsGo_append]
    split
    · rename_i hc
      rw [decide_eq_false (by omega), Bool.false_and]
    · rename_i hc
      rw [implGo_full rs _ (fun r' hr' => h r' (by simp [hr'])), List.length_append, List.length_map]
      cases boatsGo seen r
      · simp
      · rw [Bool.true_and, Bool.true_and]
        congr 1
        apply decide_eq_decide.2
        omega
theorem len_le_flatten : ∀ (rows : List (List Bt)), (∀ r ∈ rows, r.length ≠ 0) → rows.length ≤ rows.flatten.length
  | [], _ => by simp
  | r :: rs, h => by
    have := h r (by simp)
    have := len_le_flatten rs (fun r' hr' => h r' (by simp [hr']))
    rw [List.flatten_cons, List.length_append, List.length_cons]
    omega
theorem trainOk_empty {rows : List (List Bt)} (h : ∃ r ∈ rows, r.length = 0) : trainOk rows = false := by
  unfold trainOk
  split
  · rfl
  · exact implGo_empty _ _ h
theorem trainOk_full {rows : List (List Bt)} (h : ∀ r ∈ rows, r.length ≠ 0) : trainOk rows = (inR rows.flatten.length 1 6 && boatsGo [] rows.flatten) := by
  have hl := len_le_flatten rows h
  unfold trainOk
  split
  · rename_i hc
    have : inR rows.flatten.length 1 6 = false := by
      unfold inR
      apply decide_eq_false
      rcases hc with hc | hc
      · have : rows = [] := List.eq_nil_of_length_eq_zero hc
        subst this
        simp
      · omega
    rw [this, Bool.false_and]
  · rename_i hc
    rw [implGo_full rows [] h]
    congr 1
    unfold inR
    apply decide_eq_decide.2
    have : ([] : List Int).length = 0 := rfl
    omega
/-- What a valid train is like. -/
theorem trainOk_true {rows : List (List Bt)} (h : trainOk rows = true) : rows ≠ [] ∧ (∀ r ∈ rows, r.length ≠ 0) ∧ 1 ≤ rows.flatten.length ∧ rows.flatten.length ≤ 6 ∧ rows.length ≤ 6 ∧ boatsGo [] rows.flatten = true := by
  by_cases he : ∃ r ∈ rows, r.length = 0
  · rw [trainOk_empty he] at h; cases h
  · have he' : ∀ r ∈ rows, r.length ≠ 0 := fun r hr h0 => he ⟨r, hr, h0⟩
    rw [trainOk_full he', Bool.and_eq_true] at h
    have h2 := inR_true h.1
    have hl := len_le_flatten rows he'
    refine ⟨?_, he', by omega, by omega, by omega, h.2⟩
    rintro rfl
    simp at h2

/-- The step of the reference: the boat's Id among those ahead of it. -/
theorem boatsGo_step {flat : List Bt} {k : Nat} (hk : k < flat.length) : boatsGo ((flat.take k).map Bt.id) (flat.drop k) = (bOk flat[k] && !((flat.take k).map Bt.id).contains flat[k].id && boatsGo ((flat.take (k + 1)).map Bt.id) (flat.drop (k + 1))) := by
  rw [List.drop_eq_getElem_cons hk]
  simp only [boatsGo]
  rw [List.take_succ_eq_append_getElem hk, List.map_append]
  rfl
theorem contains_take {flat : List Bt} {k i : Nat} (hk : k < flat.length) (hi : i < k) (v : Int) (h : (flat[i]'(by omega)).id = v) : ((flat.take k).map Bt.id).contains v = true := by
  rw [List.contains_iff_mem, List.mem_map]
  refine ⟨flat[i]'(by omega), ?_, h⟩
  rw [List.mem_take_iff_getElem]
  exact ⟨i, by omega, rfl⟩
theorem contains_take_no {flat : List Bt} {k : Nat} (v : Int) (h : ∀ i (hi : i < flat.length), i < k → flat[i].id ≠ v) : ((flat.take k).map Bt.id).contains v = false := by
  rw [Bool.eq_false_iff]
  intro hc
  rw [List.contains_iff_mem, List.mem_map] at hc
  obtain ⟨b, hb, e⟩ := hc
  rw [List.mem_take_iff_getElem] at hb
  obtain ⟨i, hi, e2⟩ := hb
  exact h i (by omega) (by omega) (by rw [e2]; exact e)

theorem notIn6 {m : Nat} (h : 6 < m) : inR m 1 6 = false := by
  unfold inR
  apply decide_eq_false
  omega
set_option maxHeartbeats 4000000 in
theorem specTrainOk_any (u : Bool) (a : Option Addr) (n c : Nat) (rows : List (List Bt)) (w : World) (hn : n = rows.length) (hs : n ≤ 1048576) (ht : rows.flatten.length ≤ 1048576) (hf : RowsAt w a rows) :
    Calls Try.prog 61 #[.agg #[.bool u, .slice a n c]] w fun e w' => e = .returned (.bool (trainOk rows)) ∧ Ext w w' := by
  obtain ⟨R, hR'⟩ : ∃ R, trainOk rows = R := ⟨_, rfl⟩
  rw [hR']
  have HR := Lib.hid hR'; clear hR'
  have HF := Lib.hid hf; clear hf
  have HN := Lib.hid hn; clear hn
  have HT := Lib.hid ht
  have HS := Lib.hid (show n ≤ maxLen by unfold maxLen; omega)
  obtain ⟨flat, hfl⟩ : ∃ flat, flat = rows.flatten := ⟨_, rfl⟩
  have HFLAT := Lib.hid hfl
  obtain ⟨m, hm⟩ : ∃ m, m = flat.length := ⟨_, rfl⟩
  have hm2 : m ≤ 1048576 := by rw [hm, hfl]; exact ht
  have HM := Lib.hid hm
  clear hm hfl ht
  go_enter Try.func61, Try.ntmps61
  go_wp2_with fail
  (with_reducible refine (specBoats_any _ _ _ _ rows _ HN.out HS.out HT.out (HF.out.ext (by (repeat' (first | (with_reducible exact Ext.refl _) | (with_reducible assumption) | (with_reducible refine Ext.alloc ?_ _) | (with_reducible refine Ext.drewN ?_ _) | (with_reducible refine Ext.drew ?_) | (with_reducible refine Ext.setCell ?_ ?_ _) | (with_reducible exact Nat.le_refl _) | (with_reducible exact Nat.le_succ _) | (with_reducible refine Ext.trans ?_ (by assumption)) | (simp; done) | (simp; omega)))))).mono ?_); rintro e w1 ⟨a9, c9, rfl, ⟨hflat, _⟩, hb1⟩
  have x0_1 := hb1
  obtain ⟨hc0_1, hf0_1⟩ := bcell x0_1.below
  have z0_1_0 : w.heap.size < w1.heap.size := by have h := x0_1.size; simp at h; omega
  have hlen : rows.flatten.length = m := by rw [HM.out, HFLAT.out]
  rw [hlen]
  rw [← HFLAT.out] at hflat
  have HFL := Lib.hid hflat; clear hflat hlen
  have HB := Lib.hid (Ext.trans ((Ext.refl w).alloc _) hb1)
  go_wp2
  go_loop [4] (fun i => ∃ k : Nat, k ≤ n ∧ i = .int .i64 k ∧ Hid (∀ j (h : j < rows.length), j < k → rows[j].length ≠ 0)) (fun i => n - (intOf i).toNat)
  case atStart => exact ⟨0, Nat.zero_le _, rfl, fun _ _ h => absurd h (Nat.not_lt_zero _)⟩
  case round =>
    obtain ⟨k, hk, rfl, hne⟩ := hrel
    by_cases hlt : k < n
    · have hlt' : k < rows.length := by rw [← HN.out]; exact hlt
      obtain ⟨b, off, a', c', rfl, hc0, hml, hfr⟩ := HF.out k hlt'
      obtain ⟨p, hp⟩ : ∃ p, rows[k].length = p := ⟨_, rfl⟩
      have e0 : w1.cell? ⟨b, off + k, none⟩ = some (.slice a' p c') := by rw [← hp]; exact HB.out.cell hc0
      have HP := Lib.hid hp
      have HML := Lib.hid hml
      clear hp hfr hc0 hml
      by_cases hp0 : p = 0
      · have hR := Lib.hid (show R = false by rw [← HR.out]; exact trainOk_empty ⟨rows[k], List.getElem_mem _, by rw [HP.out]; exact hp0⟩)
        subst hp0
        go_wp2
        go_ret
        exact ⟨ret_bool hR.out.symm, by (repeat' (first | (with_reducible exact Ext.refl _) | (with_reducible assumption) | (with_reducible refine Ext.alloc ?_ _) | (with_reducible refine Ext.drewN ?_ _) | (with_reducible refine Ext.drew ?_) | (with_reducible refine Ext.setCell ?_ ?_ _) | (with_reducible exact Nat.le_refl _) | (with_reducible exact Nat.le_succ _) | (with_reducible refine Ext.trans ?_ (by assumption)) | (simp; done) | (simp; omega)))⟩
      · have q3 : ((p : Int) == 0) = false := by simpa using hp0
        go_wp2
        go_round
        case rel =>
          refine ⟨k + 1, by omega, by go_num, fun j hj hjk => ?_⟩
          by_cases e : j = k
          · subst e
            rw [HP.out]
            exact hp0
          · exact hne.out j hj (by omega)
        case measure => simp [intOf]; omega
    · have hne' : ∀ r ∈ rows, r.length ≠ 0 := fun r hr => by
        obtain ⟨j, hj, rfl⟩ := List.getElem_of_mem hr
        exact hne.out j hj (by have := HN.out; omega)
      have hfull := trainOk_full hne'
      rw [HR.out, ← HFLAT.out, ← HM.out] at hfull
      have HFULL := Lib.hid hfull
      clear hfull hne' hne
      have HG0 := Lib.hid (show R = (inR m 1 6 && boatsGo ((flat.take 0).map Bt.id) (flat.drop 0)) by rw [HFULL.out, List.drop_zero]; rfl)
      clear HFULL
      go_wp2
      go_loopw [5] (fun i wr => ∃ k : Nat, k ≤ m ∧ i = .int .i64 k ∧ Ext w1 wr ∧ Hid (R = (inR m 1 6 && boatsGo ((flat.take k).map Bt.id) (flat.drop k)))) (fun i _ => m - (intOf i).toNat)
      case atStart => exact ⟨0, Nat.zero_le _, rfl, by (repeat' (first | (with_reducible exact Ext.refl _) | (with_reducible assumption) | (with_reducible refine Ext.alloc ?_ _) | (with_reducible refine Ext.drewN ?_ _) | (with_reducible refine Ext.drew ?_) | (with_reducible refine Ext.setCell ?_ ?_ _) | (with_reducible exact Nat.le_refl _) | (with_reducible exact Nat.le_succ _) | (with_reducible refine Ext.trans ?_ (by assumption)) | (simp; done) | (simp; omega))), HG0⟩
      case round =>
        obtain ⟨k5, hk5, rfl, hr5, hgo⟩ := hrel
        obtain ⟨w5, rfl⟩ : ∃ x, x = wr := ⟨_, rfl⟩
        by_cases h6 : 6 < m
        · have hR := Lib.hid (show inR m 1 6 = R by rw [hgo.out, notIn6 h6, Bool.false_and])
          have d6 : decide ((m : Int) ≤ 6) = false := by simp; omega
          rcases Nat.lt_or_ge k5 m with hcase | hcase
          all_goals
            go_wp2_with (go_at_call 36; refine (l01In_any _ _ _ _).mono ?_; rintro e w' ⟨rfl, rfl⟩)
            go_ret
            exact ⟨ret_bool hR.out, by (repeat' (first | (with_reducible exact Ext.refl _) | (with_reducible assumption) | (with_reducible refine Ext.alloc ?_ _) | (with_reducible refine Ext.drewN ?_ _) | (with_reducible refine Ext.drew ?_) | (with_reducible refine Ext.setCell ?_ ?_ _) | (with_reducible exact Nat.le_refl _) | (with_reducible exact Nat.le_succ _) | (with_reducible refine Ext.trans ?_ (by assumption)) | (simp; done) | (simp; omega)))⟩
        have d6 : decide ((m : Int) ≤ 6) = true := by simp; omega
        by_cases hlt5 : k5 < m
        · have hlt5' : k5 < flat.length := by rw [← HM.out]; exact hlt5
          obtain ⟨b2, off2, rfl, hcell⟩ := HFL.out.get k5 hlt5'
          have hst := boatsGo_step hlt5'
          have HK := Lib.hid (rfl : flat[k5] = flat[k5])
          obtain ⟨bt, hbt⟩ : ∃ bt, flat[k5] = bt := ⟨_, rfl⟩
          clear HK
          rw [hbt] at hcell hst
          have HBT := Lib.hid hbt; clear hbt
          obtain ⟨bi, bl, bw, bd, bs, bc⟩ := bt
          have g0 : w5.cell? ⟨b2, off2 + k5 * 6, none⟩ = some (.int .i64 bi) := hcell 0 _ rfl _ hr5
          have g1 : w5.cell? ⟨b2, off2 + k5 * 6 + 1, none⟩ = some (.int .i64 bl) := hcell 1 _ rfl _ hr5
          have g2 : w5.cell? ⟨b2, off2 + k5 * 6 + 2, none⟩ = some (.int .i64 bw) := hcell 2 _ rfl _ hr5
          have g3 : w5.cell? ⟨b2, off2 + k5 * 6 + 3, none⟩ = some (.int .i64 bd) := hcell 3 _ rfl _ hr5
          have g4 : w5.cell? ⟨b2, off2 + k5 * 6 + 4, none⟩ = some (.int .i64 bs) := hcell 4 _ rfl _ hr5
          have g5 : w5.cell? ⟨b2, off2 + k5 * 6 + 5, none⟩ = some (.int .i64 bc) := hcell 5 _ rfl _ hr5
          have HID : Hid (∀ w', Ext w1 w' → w'.cell? ⟨b2, off2 + k5 * 6, none⟩ = some (.int .i64 bi)) := hcell 0 _ rfl
          have HG := Lib.hid (show R = (inR m 1 6 && (boatOk bi bl bw bd bs bc && !((flat.take k5).map Bt.id).contains bi && boatsGo ((flat.take (k5 + 1)).map Bt.id) (flat.drop (k5 + 1)))) by rw [hgo.out, hst]; rfl)
          clear hcell hst hgo
          cases c1 : boatOk bi bl bw bd bs bc
          · have hR := Lib.hid (show R = false by rw [HG.out, c1]; simp)
            go_wp2_with (go_at_call 68; refine (specBoatOk_any _ _ _ _ _ _ _).mono ?_; rintro e w6 ⟨rfl, hb6⟩)
            go_ret
            exact ⟨ret_bool hR.out.symm, by (repeat' (first | (with_reducible exact Ext.refl _) | (with_reducible assumption) | (with_reducible refine Ext.alloc ?_ _) | (with_reducible refine Ext.drewN ?_ _) | (with_reducible refine Ext.drew ?_) | (with_reducible refine Ext.setCell ?_ ?_ _) | (with_reducible exact Nat.le_refl _) | (with_reducible exact Nat.le_succ _) | (with_reducible refine Ext.trans ?_ (by assumption)) | (simp; done) | (simp; omega)))⟩
          · have C1 := Lib.hid c1
            go_wp2_with fail
            refine (specBoatOk_any _ _ _ _ _ _ _).mono ?_
            rintro e w6 ⟨rfl, hb6⟩
            rw [c1]
            clear g0 g1 g2 g3 g4 g5
            have hx6 : Ext w1 w6 := hr5.trans hb6
            have HX6 := Lib.hid hx6
            go_wp2
            go_loopw [6] (fun i wr => ∃ j : Nat, j ≤ k5 ∧ i = .int .i64 j ∧ Ext w1 wr ∧ Hid (∀ q (h : q < flat.length), q < j → flat[q].id ≠ bi)) (fun i _ => k5 - (intOf i).toNat)
            case atStart => exact ⟨0, Nat.zero_le _, rfl, by (repeat' (first | (with_reducible exact Ext.refl _) | (with_reducible assumption) | (with_reducible refine Ext.alloc ?_ _) | (with_reducible refine Ext.drewN ?_ _) | (with_reducible refine Ext.drew ?_) | (with_reducible refine Ext.setCell ?_ ?_ _) | (with_reducible exact Nat.le_refl _) | (with_reducible exact Nat.le_succ _) | (with_reducible refine Ext.trans ?_ (by assumption)) | (simp; done) | (simp; omega))), fun _ _ h => absurd h (Nat.not_lt_zero _)⟩
            case round =>
              obtain ⟨j, hj, rfl, hr, hno⟩ := hrel
              by_cases hlj : j < k5
              · have hlj' : j < flat.length := by omega
                obtain ⟨b3, off3, e3, hcell⟩ := HFL.out.get j hlj'
                cases e3
                obtain ⟨bj, hbj⟩ : ∃ v, flat[j].id = v := ⟨_, rfl⟩
                have HBJ := Lib.hid hbj
                have k0 : ∀ x : Aft wr, x.1.cell? ⟨b2, off2 + k5 * 6, none⟩ = some (.int .i64 bi) := fun x => HID.out _ (hr.trans x.2)
                have k1 : ∀ x : Aft wr, x.1.cell? ⟨b2, off2 + j * 6, none⟩ = some (.int .i64 bj) := fun x => by rw [← HBJ.out]; exact hcell 0 _ rfl _ (hr.trans x.2)
                have hlm : j < m := by omega
                clear hcell hbj
                cases q : (bj == bi)
                · have hne : bj ≠ bi := fun e => by rw [e] at q; simp at q
                  have HNE := Lib.hid hne; clear hne
                  go_wp2
                  (refine wp_region_aft wr (Ext.refl _) (by kernel_rfl) (by kernel_rfl) ?_; (repeat (go_big_quiet_step (fail))); refine wpQuiet_nil ?_; intro w2 hx2)
                  go_wp2
                  go_roundw
                  case rel =>
                    refine ⟨j + 1, by omega, by go_num, by (repeat' (first | (with_reducible exact Ext.refl _) | (with_reducible assumption) | (with_reducible refine Ext.alloc ?_ _) | (with_reducible refine Ext.drewN ?_ _) | (with_reducible refine Ext.drew ?_) | (with_reducible refine Ext.setCell ?_ ?_ _) | (with_reducible exact Nat.le_refl _) | (with_reducible exact Nat.le_succ _) | (with_reducible refine Ext.trans ?_ (by assumption)) | (simp; done) | (simp; omega))), fun q hq hqj => ?_⟩
                    by_cases e : q = j
                    · subst e
                      rw [HBJ.out]
                      exact HNE.out
                    · exact hno.out q hq (by omega)
                  case measure => simp [intOf]; omega
                · have he : bj = bi := by simpa using q
                  have hR := Lib.hid (show R = false by rw [HG.out, contains_take hlt5' hlj bi (HBJ.out.trans he)]; simp)
                  clear he
                  go_wp2
                  (refine wp_region_aft wr (Ext.refl _) (by kernel_rfl) (by kernel_rfl) ?_; (repeat (go_big_quiet_step (fail))); refine wpQuiet_nil ?_; intro w2 hx2)
                  go_wp2
                  go_ret
                  exact ⟨ret_bool hR.out.symm, by (repeat' (first | (with_reducible exact Ext.refl _) | (with_reducible assumption) | (with_reducible refine Ext.alloc ?_ _) | (with_reducible refine Ext.drewN ?_ _) | (with_reducible refine Ext.drew ?_) | (with_reducible refine Ext.setCell ?_ ?_ _) | (with_reducible exact Nat.le_refl _) | (with_reducible exact Nat.le_succ _) | (with_reducible refine Ext.trans ?_ (by assumption)) | (simp; done) | (simp; omega)))⟩
              · have HG2 := Lib.hid (show R = (inR m 1 6 && boatsGo ((flat.take (k5 + 1)).map Bt.id) (flat.drop (k5 + 1))) by rw [HG.out, C1.out, contains_take_no bi (fun i hi hik => hno.out i hi (by omega))]; simp)
                clear hno
                go_wp2
                go_roundw
                case rel => exact ⟨k5 + 1, by omega, by go_num, by (repeat' (first | (with_reducible exact Ext.refl _) | (with_reducible assumption) | (with_reducible refine Ext.alloc ?_ _) | (with_reducible refine Ext.drewN ?_ _) | (with_reducible refine Ext.drew ?_) | (with_reducible refine Ext.setCell ?_ ?_ _) | (with_reducible exact Nat.le_refl _) | (with_reducible exact Nat.le_succ _) | (with_reducible refine Ext.trans ?_ (by assumption)) | (simp; done) | (simp; omega))), HG2⟩
                case measure => simp [intOf]; omega
        · have hR := Lib.hid (show inR m 1 6 = R by rw [hgo.out, List.drop_eq_nil_of_le (by have := HM.out; omega)]; simp [boatsGo])
          go_wp2_with (go_at_call 36; refine (l01In_any _ _ _ _).mono ?_; rintro e w' ⟨rfl, rfl⟩)
          go_ret
          exact ⟨ret_bool hR.out, by (repeat' (first | (with_reducible exact Ext.refl _) | (with_reducible assumption) | (with_reducible refine Ext.alloc ?_ _) | (with_reducible refine Ext.drewN ?_ _) | (with_reducible refine Ext.drew ?_) | (with_reducible refine Ext.setCell ?_ ?_ _) | (with_reducible exact Nat.le_refl _) | (with_reducible exact Nat.le_succ _) | (with_reducible refine Ext.trans ?_ (by assumption)) | (simp; done) | (simp; omega)))⟩
end Go.Proofs.Ytmppoflgbmabpaa
