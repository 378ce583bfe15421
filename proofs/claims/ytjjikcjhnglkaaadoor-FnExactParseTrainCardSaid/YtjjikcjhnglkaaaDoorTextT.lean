/- Texts of trains: boats, rows and trains are read back as they were written; and the reference's loose reading, held against the text, is the strict one. -/
import Derived.Test.YtjjikcjhnglkaaaDoorProg
import Derived.Test.YtjjikcjhnglkaaaDoorText
namespace Go.Proofs.YtjjikcjhnglkaaaDoor
open Go.RowKit
set_option linter.unusedSimpArgs false
set_option linter.unusedVariables false

def nums6 (b : Bt) : List Int := [b.id, b.len, b.wid, b.dra, b.spd, b.cls]
def txtBoat (b : Bt) : List UInt8 := Lib.join ((nums6 b).map (fun x => dec x.toNat)) [58]
def txtRow (r : List Bt) : List UInt8 := Lib.join (r.map txtBoat) [43]
def txtRows (rows : List (List Bt)) : List UInt8 := Lib.join (rows.map txtRow) [47]

/-! ### The reference's writing is the joined one -/
theorem joinGo_tail : ∀ (xs : List Int) (t : List UInt8) (k : Nat), 0 < k → joinGo t k xs = t ++ Lib.joinTail [58] (xs.map (fun x => dec x.toNat))
  | [], t, k, _ => by simp [joinGo, Lib.joinTail]
  | x :: xs, t, k, h => by
    rw [joinGo, if_pos h, joinGo_tail xs _ (k + 1) (by omega)]
    simp [Lib.joinTail]
theorem joinGo_join (xs : List Int) : joinGo [] 0 xs = Lib.join (xs.map (fun x => dec x.toNat)) [58] := by
  cases xs with
  | nil => rfl
  | cons x xs =>
    rw [joinGo, if_neg (by omega), joinGo_tail xs _ 1 (by omega), List.map_cons, Lib.join_cons]
    simp
theorem boatText_txt (b : Bt) : boatText b = txtBoat b := joinGo_join _
theorem fmtRow_tail : ∀ (bs : List Bt) (t : List UInt8) (k : Nat), 0 < k → fmtRow t k bs = t ++ Lib.joinTail [43] (bs.map txtBoat)
  | [], t, k, _ => by simp [fmtRow, Lib.joinTail]
  | x :: xs, t, k, h => by
    rw [fmtRow, if_pos h, fmtRow_tail xs _ (k + 1) (by omega), boatText_txt]
    simp [Lib.joinTail]
theorem fmtRow_txt (t : List UInt8) (r : List Bt) : fmtRow t 0 r = t ++ txtRow r := by
  cases r with
  | nil => simp [fmtRow, txtRow, Lib.join_nil]
  | cons x xs =>
    rw [fmtRow, if_neg (by omega), fmtRow_tail xs _ 1 (by omega), boatText_txt]
    simp [txtRow, Lib.join_cons]
theorem fmtRows_tail : ∀ (rs : List (List Bt)) (t : List UInt8) (k : Nat), 0 < k → fmtRows t k rs = t ++ Lib.joinTail [47] (rs.map txtRow)
  | [], t, k, _ => by simp [fmtRows, Lib.joinTail]
  | x :: xs, t, k, h => by
    rw [fmtRows, if_pos h, fmtRow_txt, fmtRows_tail xs _ (k + 1) (by omega)]
    simp [Lib.joinTail]
theorem fmtRows_txt (t : List UInt8) (rows : List (List Bt)) : fmtRows t 0 rows = t ++ txtRows rows := by
  cases rows with
  | nil => simp [fmtRows, txtRows, Lib.join_nil]
  | cons x xs =>
    rw [fmtRows, if_neg (by omega), fmtRow_txt, fmtRows_tail xs _ 1 (by omega)]
    simp [txtRows, Lib.join_cons]
theorem fmtTrain_ok {u : Bool} {rows : List (List Bt)} (h : trainOk rows = true) : fmtTrain u rows = (if u then 94 else 118) :: txtRows rows := by
  unfold fmtTrain
  rw [if_pos h, fmtRows_txt]
  cases u <;> rfl

/-! ### Reading -/
def readAll {α : Type} (f : List UInt8 → Option α) : List (List UInt8) → Option (List α)
  | [] => some []
  | x :: xs => match f x with | none => none | some a => match readAll f xs with | none => none | some ys => some (a :: ys)
def boat6 : List Nat → Option Bt
  | [a, b, c, d, e, f] => some ⟨a, b, c, d, e, f⟩
  | _ => none
theorem boat6_inv {xs : List Nat} {b : Bt} (h : boat6 xs = some b) : ∃ a b' c d e f, xs = [a, b', c, d, e, f] ∧ b = ⟨a, b', c, d, e, f⟩ := by
  match xs, h with
  | [a, b', c, d, e, f], h => exact ⟨_, _, _, _, _, _, rfl, (Option.some.inj h).symm⟩
  | [], h => cases h
  | [_], h => cases h
  | [_, _], h => cases h
  | [_, _, _], h => cases h
  | [_, _, _, _], h => cases h
  | [_, _, _, _, _], h => cases h
  | _ :: _ :: _ :: _ :: _ :: _ :: _ :: _, h => cases h
def readBoat (s : List UInt8) : Option Bt := match readAll readU (splitP 58 s) with | none => none | some xs => boat6 xs
def readRow (s : List UInt8) : Option (List Bt) := readAll readBoat (splitP 43 s)
def readRows (s : List UInt8) : Option (List (List Bt)) := readAll readRow (splitP 47 s)
/-- What ParseTrain reads. -/
def readTrain : List UInt8 → Option (Bool × List (List Bt))
  | [] => none
  | b :: s => if b = 94 ∨ b = 118 then (match readRows s with | none => none | some rows => if trainOk rows = true then some (b == 94, rows) else none) else none

theorem readTrain_cons (b : UInt8) (s : List UInt8) : readTrain (b :: s) = if b = 94 ∨ b = 118 then (match readRows s with | none => none | some rows => if trainOk rows = true then some (b == 94, rows) else none) else none := rfl
theorem readAll_map {α : Type} {f : List UInt8 → Option α} {g : α → List UInt8} : ∀ (xs : List α), (∀ x ∈ xs, f (g x) = some x) → readAll f (xs.map g) = some xs
  | [], _ => rfl
  | x :: xs, h => by
    rw [List.map_cons, readAll, h x (by simp)]
    simp only [readAll_map xs (fun y hy => h y (by simp [hy]))]
theorem readAll_back {α : Type} {f : List UInt8 → Option α} {g : α → List UInt8} (hf : ∀ s x, f s = some x → g x = s) : ∀ (ss : List (List UInt8)) (xs : List α), readAll f ss = some xs → xs.map g = ss
  | [], xs, h => by cases h; rfl
  | s :: ss, xs, h => by
    rw [readAll] at h
    cases h1 : f s with
    | none => rw [h1] at h; cases h
    | some a =>
      cases h2 : readAll f ss with
      | none => rw [h1, h2] at h; cases h
      | some ys =>
        rw [h1, h2] at h
        cases h
        rw [List.map_cons, hf s a h1, readAll_back hf ss ys h2]
theorem mem_join {c : UInt8} {sep : List UInt8} : ∀ {xs : List (List UInt8)}, c ∈ Lib.join xs sep → c ∈ sep ∨ ∃ x ∈ xs, c ∈ x
  | [], h => by rw [Lib.join_nil] at h; cases h
  | [x], h => by rw [Lib.join_one] at h; exact .inr ⟨x, by simp, h⟩
  | x :: y :: r, h => by
    rw [join_cons2, List.mem_append, List.mem_append] at h
    rcases h with (h | h) | h
    · exact .inr ⟨x, by simp, h⟩
    · exact .inl h
    · rcases mem_join (xs := y :: r) h with h | ⟨z, hz, h⟩
      · exact .inl h
      · exact .inr ⟨z, by simp [hz], h⟩
theorem dec_fig {x : Nat} {c : UInt8} (h : c ∈ dec x) : isFig c = true := by
  rw [dec_itoa] at h
  exact List.all_eq_true.1 (digits_fig x) c h
theorem boat_sign {b : Bt} {c : UInt8} (h : c ∈ txtBoat b) : c = 58 ∨ isFig c = true := by
  rcases mem_join h with h | ⟨x, hx, h⟩
  · exact .inl (by simpa using h)
  · obtain ⟨y, _, rfl⟩ := List.mem_map.1 hx
    exact .inr (dec_fig h)
theorem row_sign {r : List Bt} {c : UInt8} (h : c ∈ txtRow r) : c = 43 ∨ c = 58 ∨ isFig c = true := by
  rcases mem_join h with h | ⟨x, hx, h⟩
  · exact .inl (by simpa using h)
  · obtain ⟨y, _, rfl⟩ := List.mem_map.1 hx
    exact .inr (boat_sign h)
def nonNeg (b : Bt) : Prop := ∀ x ∈ nums6 b, 0 ≤ x ∧ x ≤ 1000000000
theorem bOk_nonNeg {b : Bt} (h : bOk b = true) : nonNeg b := fun x hx => by
  have := bOk_bounds h
  simp [nums6] at hx
  omega
theorem readBoat_txt {b : Bt} (h : nonNeg b) : readBoat (txtBoat b) = some b := by
  unfold readBoat txtBoat
  rw [splitP_join 58 _ (by simp [nums6]) (fun x hx hm => by
    obtain ⟨y, _, rfl⟩ := List.mem_map.1 hx
    have := dec_fig hm
    exact absurd this (by decide))]
  have e : (nums6 b).map (fun x => dec x.toNat) = ((nums6 b).map Int.toNat).map dec := by simp [nums6]
  rw [e, readAll_map _ (fun x hx => by
    obtain ⟨y, hy, rfl⟩ := List.mem_map.1 hx
    have := h y hy
    exact readU_dec (by omega))]
  have h0 := h b.id (by simp [nums6]); have h1 := h b.len (by simp [nums6]); have h2 := h b.wid (by simp [nums6])
  have h3 := h b.dra (by simp [nums6]); have h4 := h b.spd (by simp [nums6]); have h5 := h b.cls (by simp [nums6])
  show some (Bt.mk _ _ _ _ _ _) = some b
  rw [Int.toNat_of_nonneg h0.1, Int.toNat_of_nonneg h1.1, Int.toNat_of_nonneg h2.1, Int.toNat_of_nonneg h3.1, Int.toNat_of_nonneg h4.1, Int.toNat_of_nonneg h5.1]
theorem readRow_txt {r : List Bt} (hr : r ≠ []) (h : ∀ b ∈ r, nonNeg b) : readRow (txtRow r) = some r := by
  unfold readRow txtRow
  rw [splitP_join 43 _ (by simpa using hr) (fun x hx hm => by
    obtain ⟨y, _, rfl⟩ := List.mem_map.1 hx
    rcases boat_sign hm with h | h <;> exact absurd h (by decide))]
  exact readAll_map _ (fun b hb => readBoat_txt (h b hb))
theorem readRows_txt {rows : List (List Bt)} (hn : rows ≠ []) (hr : ∀ r ∈ rows, r ≠ []) (h : ∀ r ∈ rows, ∀ b ∈ r, nonNeg b) : readRows (txtRows rows) = some rows := by
  unfold readRows txtRows
  rw [splitP_join 47 _ (by simpa using hn) (fun x hx hm => by
    obtain ⟨y, _, rfl⟩ := List.mem_map.1 hx
    rcases row_sign hm with h | h | h <;> exact absurd h (by decide))]
  exact readAll_map _ (fun r hr' => readRow_txt (hr r hr') (h r hr'))
theorem train_rows {rows : List (List Bt)} (h : trainOk rows = true) : rows ≠ [] ∧ (∀ r ∈ rows, r ≠ []) ∧ (∀ r ∈ rows, ∀ b ∈ r, nonNeg b) :=
  ⟨(trainOk_true h).1, (fun r hr e => (trainOk_true h).2.1 r hr (by rw [e]; rfl)), fun r hr b hb => bOk_nonNeg (trainOk_boats h hr hb)⟩
/-- A valid train's text is read as that train. -/
theorem readTrain_fmt {u : Bool} {rows : List (List Bt)} (h : trainOk rows = true) : readTrain (fmtTrain u rows) = some (u, rows) := by
  obtain ⟨h1, h2, h3⟩ := train_rows h
  rw [fmtTrain_ok h]
  rw [readTrain_cons]
  rw [if_pos (by cases u <;> decide), readRows_txt h1 h2 h3]
  simp only [h, if_true]
  cases u <;> rfl
theorem readBoat_back (s : List UInt8) (b : Bt) (h : readBoat s = some b) : txtBoat b = s := by
  unfold readBoat at h
  cases h1 : readAll readU (splitP 58 s) with
  | none => rw [h1] at h; cases h
  | some xs =>
    rw [h1] at h
    have h2 := readAll_back (g := dec) (fun s x hx => (readU_back hx).1) _ _ h1
    have h3 := boat6_inv h
    obtain ⟨a, b', c, d, e, f, rfl, rfl⟩ := h3
    have h4 := join_splitP 58 s
    rw [← h2] at h4
    exact h4
theorem readRow_back (s : List UInt8) (r : List Bt) (h : readRow s = some r) : txtRow r = s := by
  have h2 := readAll_back (g := txtBoat) readBoat_back _ _ h
  have h4 := join_splitP 43 s
  rw [← h2] at h4
  exact h4
theorem readRows_back (s : List UInt8) (rows : List (List Bt)) (h : readRows s = some rows) : txtRows rows = s := by
  have h2 := readAll_back (g := txtRow) readRow_back _ _ h
  have h4 := join_splitP 47 s
  rw [← h2] at h4
  exact h4
/-- What is read would be written so. -/
theorem readTrain_back {s : List UInt8} {u : Bool} {rows : List (List Bt)} (h : readTrain s = some (u, rows)) : fmtTrain u rows = s ∧ trainOk rows = true := by
  cases s with
  | nil => cases h
  | cons b s =>
    rw [readTrain_cons] at h
    split at h
    · rename_i hb
      cases h1 : readRows s with
      | none => rw [h1] at h; cases h
      | some rs =>
        rw [h1] at h
        simp only at h
        split at h
        · rename_i hok
          obtain ⟨e1, e2⟩ := Prod.mk.inj (Option.some.inj h)
          subst e2
          refine ⟨?_, hok⟩
          rw [fmtTrain_ok hok, readRows_back s rs h1, ← e1]
          rcases hb with rfl | rfl <;> rfl
        · cases h
    · cases h

/-! ### The loose reading of the reference -/
def looseU (s : List UInt8) : Int := match readU s with | some x => (x : Int) | none => 0
def looseN (f : List (List UInt8)) (j : Nat) : Int := match f[j]? with | some s => looseU s | none => 0
def looseBoat (s : List UInt8) : Bt := ⟨looseN (splitP 58 s) 0, looseN (splitP 58 s) 1, looseN (splitP 58 s) 2, looseN (splitP 58 s) 3, looseN (splitP 58 s) 4, looseN (splitP 58 s) 5⟩
def looseRow (s : List UInt8) : List Bt := (splitP 43 s).map looseBoat
def looseRows (s : List UInt8) : List (List Bt) := (splitP 47 s).map looseRow
/-- What the reference's ParseTrain hands back. -/
def specRead : List UInt8 → Option (Bool × List (List Bt))
  | [] => none
  | b :: s => if fmtTrain (b == 94) (looseRows s) = b :: s then some (b == 94, looseRows s) else none
theorem specRead_cons (b : UInt8) (s : List UInt8) : specRead (b :: s) = if fmtTrain (b == 94) (looseRows s) = b :: s then some (b == 94, looseRows s) else none := rfl
theorem readAll_loose {α : Type} {f : List UInt8 → Option α} {g : List UInt8 → α} (hf : ∀ s x, f s = some x → g s = x) : ∀ (ss : List (List UInt8)) (xs : List α), readAll f ss = some xs → ss.map g = xs
  | [], xs, h => by cases h; rfl
  | s :: ss, xs, h => by
    rw [readAll] at h
    cases h1 : f s with
    | none => rw [h1] at h; cases h
    | some a =>
      cases h2 : readAll f ss with
      | none => rw [h1, h2] at h; cases h
      | some ys =>
        rw [h1, h2] at h
        cases h
        rw [List.map_cons, hf s a h1, readAll_loose hf ss ys h2]
theorem looseBoat_read (s : List UInt8) (b : Bt) (h : readBoat s = some b) : looseBoat s = b := by
  unfold readBoat at h
  cases h1 : readAll readU (splitP 58 s) with
  | none => rw [h1] at h; cases h
  | some xs =>
    rw [h1] at h
    have h2 := readAll_back (g := dec) (fun s x hx => (readU_back hx).1) _ _ h1
    have h5 : (splitP 58 s).map looseU = xs.map (fun (x : Nat) => (x : Int)) := by
      have := readAll_loose (f := fun s => (readU s).map (fun (x : Nat) => (x : Int))) (g := looseU) (fun s x hx => by
        unfold looseU
        cases hr : readU s with
        | none => rw [hr] at hx; cases hx
        | some y => rw [hr] at hx; cases hx; rfl) (splitP 58 s) (xs.map (fun (x : Nat) => (x : Int)))
      refine this ?_
      clear this h2 h
      generalize splitP 58 s = ss at h1
      induction ss generalizing xs with
      | nil => cases h1; rfl
      | cons t ts ih =>
        rw [readAll] at h1
        cases q1 : readU t with
        | none => rw [q1] at h1; cases h1
        | some a =>
          cases q2 : readAll readU ts with
          | none => rw [q1, q2] at h1; cases h1
          | some ys =>
            rw [q1, q2] at h1
            cases h1
            rw [readAll, q1]
            simp only [Option.map_some]
            rw [ih ys q2]
            rfl
    have h3 := boat6_inv h
    obtain ⟨a, b', c, d, e, f, rfl, rfl⟩ := h3
    have key : ∀ j (x : Nat), [a, b', c, d, e, f][j]? = some x → looseN (splitP 58 s) j = (x : Int) := fun j x hx => by
      have hm : ((splitP 58 s).map looseU)[j]? = some (x : Int) := by rw [h5, List.getElem?_map, hx]; rfl
      rw [List.getElem?_map] at hm
      unfold looseN
      cases hq : (splitP 58 s)[j]? with
      | none => rw [hq] at hm; cases hm
      | some t => rw [hq] at hm; exact Option.some.inj hm
    unfold looseBoat
    rw [key 0 a rfl, key 1 b' rfl, key 2 c rfl, key 3 d rfl, key 4 e rfl, key 5 f rfl]
theorem looseRow_read (s : List UInt8) (r : List Bt) (h : readRow s = some r) : looseRow s = r := readAll_loose looseBoat_read _ _ h
theorem looseRows_read (s : List UInt8) (rows : List (List Bt)) (h : readRows s = some rows) : looseRows s = rows := readAll_loose looseRow_read _ _ h
/-- The reference reads what the program reads. -/
theorem specRead_read (s : List UInt8) : specRead s = readTrain s := by
  cases s with
  | nil => rfl
  | cons b s =>
    cases hr : readTrain (b :: s) with
    | some t =>
      obtain ⟨u, rows⟩ := t
      have hb := (readTrain_back hr).1
      rw [readTrain_cons] at hr
      split at hr
      · cases h1 : readRows s with
        | none => rw [h1] at hr; cases hr
        | some rs =>
          rw [h1] at hr
          simp only at hr
          split at hr
          · obtain ⟨e1, e2⟩ := Prod.mk.inj (Option.some.inj hr)
            subst e2
            rw [specRead_cons]
            rw [looseRows_read s rs h1, e1, if_pos hb]
          · cases hr
      · cases hr
    | none =>
      rw [specRead_cons]
      rw [if_neg]
      intro he
      by_cases hok : trainOk (looseRows s) = true
      · have := readTrain_fmt (u := (b == 94)) hok
        rw [he, hr] at this
        cases this
      · rw [fmtTrain, if_neg hok] at he
        cases he

/-! ### Texts that are no train's -/
theorem readAll_none {α : Type} {f : List UInt8 → Option α} : ∀ (ss : List (List UInt8)) (s : List UInt8), s ∈ ss → f s = none → readAll f ss = none
  | [], s, h, _ => by cases h
  | t :: ts, s, h, hs => by
    rw [readAll]
    rcases List.mem_cons.1 h with e | h
    · subst e; rw [hs]
    · rw [readAll_none ts s h hs]
      cases f t <;> rfl
theorem splitP_end (c : UInt8) : ∀ s : List UInt8, ∃ p ps, splitP c (s ++ [c]) = p :: ps ∧ [] ∈ ps
  | [] => ⟨[], [[]], by rw [List.nil_append, splitP_hit]; rfl, by simp⟩
  | b :: s => by
    obtain ⟨p, ps, hp, hm⟩ := splitP_end c s
    rw [List.cons_append]
    by_cases h : b = c
    · subst h; exact ⟨[], p :: ps, by rw [splitP_hit, hp], List.mem_cons_of_mem _ hm⟩
    · exact ⟨b :: p, ps, splitP_miss h hp, hm⟩
theorem readRow_nil : readRow [] = none := by decide
theorem readTrain_more {u : Bool} {rows : List (List Bt)} (h : trainOk rows = true) : readTrain (fmtTrain u rows ++ [47]) = none := by
  rw [fmtTrain_ok h, List.cons_append]
  obtain ⟨p, ps, hp, hm⟩ := splitP_end 47 (txtRows rows)
  have : readRows (txtRows rows ++ [47]) = none := by
    unfold readRows
    rw [hp]
    exact readAll_none _ [] (List.mem_cons_of_mem _ hm) readRow_nil
  rw [readTrain_cons]
  rw [this]
  split <;> rfl
theorem head_fig {rows : List (List Bt)} (h : trainOk rows = true) : ∃ b s, txtRows rows = b :: s ∧ isFig b = true := by
  obtain ⟨b, r, rs, rfl⟩ := trainOk_head h
  have h1 : ∃ c s, dec b.id.toNat = c :: s ∧ isFig c = true := by
    have hl := digits_len b.id.toNat b.id.toNat (by have := @Nat.lt_pow_self (b.id.toNat + 1) 10 (by decide); omega)
    rw [← dec_itoa] at hl
    cases hd : dec b.id.toNat with
    | nil => rw [hd] at hl; simp at hl
    | cons c s => exact ⟨c, s, rfl, dec_fig (x := b.id.toNat) (by rw [hd]; simp)⟩
  obtain ⟨c, s, e, hc⟩ := h1
  have key : ∃ s', txtRows ((b :: r) :: rs) = c :: s' := by
    unfold txtRows txtRow txtBoat nums6
    simp only [List.map_cons]
    rw [Lib.join_cons, Lib.join_cons, Lib.join_cons, e]
    exact ⟨_, rfl⟩
  obtain ⟨s', hs'⟩ := key
  exact ⟨c, s', hs', hc⟩
theorem readTrain_headless {rows : List (List Bt)} (h : trainOk rows = true) : readTrain (txtRows rows) = none := by
  obtain ⟨b, s, e, hb⟩ := head_fig h
  rw [e]
  rw [readTrain_cons]
  rw [if_neg]
  rintro (rfl | rfl) <;> exact absurd hb (by decide)
end Go.Proofs.YtjjikcjhnglkaaaDoor
