/- FormatInt, FormatTrain of the program: what they write. -/
import Derived.Test.YtjjikcjhnglkaaaDoorProg
import Derived.Test.YtjjikcjhnglkaaaDoorTextT
import Derived.Test.YtjjikcjhnglkaaaDoorIds
import Derived.Test.YtjjikcjhnglkaaaDoorShelf
import Derived.Shelf.Unicode.PredsPay
namespace Go.Proofs.YtjjikcjhnglkaaaDoor
open Go.RowKit
set_option linter.unusedSimpArgs false
set_option linter.unusedVariables false

def sCells (s : List UInt8) : List Value := [.string (S s)]
theorem sCells_len (s : List UInt8) : (sCells s).length = 1 := rfl
theorem info_str : (Tryd.prog.info? 9).map (fun i => (i.zero, i.size, i.bytes)) = some (some (.string ⟨#[]⟩), 1, 16) := by kernel_rfl
/-- The texts 'ss' in a row of the call's own, from block 'base' on. -/
def OwnStrs (w : World) (base : Nat) (v : Value) (ss : List (List UInt8)) : Prop := w.ownsRow base 9 1 v ss.length (ss.flatMap sCells)
theorem OwnStrs.ext {w w' : World} {base : Nat} {v : Value} {xs : List (List UInt8)} (h : OwnStrs w base v xs) (hx : Ext w w') : OwnStrs w' base v xs := ownsRow_ext h hx
theorem OwnStrs.nil (w : World) (base : Nat) : OwnStrs w base (.slice none 0 0) [] := World.ownsRow_nil _ _ _ _
/-- append of one text to a slice of the call's own. -/
theorem append_str {w : World} {ops : Array Oper} {rest : List Oper} {o : Oper} {a : Act} {Q : Exit → Act → World → Prop} (hgd : o.guard = none) (s x : Operand)
    (ho : o.op = .call { callee := .builtin .append, args := #[s, x], argTypes := #[48, 48] })
    (base : Nat) (v : Value) (done done' : List (List UInt8)) (z : List UInt8) (hd : done' = done ++ [z]) (hs : a.eval s = v) (hown : OwnStrs w base v done)
    (B c : Nat) (hx : a.eval x = .slice (some ⟨B, 0, none⟩) 1 c) (hc : w.cell? ⟨B, 0, none⟩ = some (.string (S z))) (hle : done'.length ≤ 1048576) (hbase : base ≤ w.heap.size)
    (h : ∀ v' w', OwnStrs w' base v' done' → w.grownBy w' v.ownBlock → (v'.ownBlock = v.ownBlock ∨ v'.ownBlock = some w.heap.size) → wpList Tryd.prog ops Q rest (a.put o.dst v') w') : wpList Tryd.prog ops Q (o :: rest) a w := by
  subst hd
  rw [List.length_append] at hle
  obtain ⟨i0, hi, hz0, hz1, hz2⟩ := info_parts info_str
  refine wpList_append_own_at w hgd s x _ ho base 9 i0 _ 1 16 Tryd.underlying48 hi hz0 hz1 hz2 rfl (by decide) v _ _ hs hown ⟨B, 0, none⟩ 1 c [.string (S z)] hx rfl ?_ (by simp [Value.oneCell']) (by simp at hle; unfold maxLen; omega) (by simp at hle; omega) hbase ?_
  · intro j u hu
    match j, hu with
    | 0, hu => cases hu; rw [add_plain rfl]; exact hc
    | j + 1, hu => simp at hu
  · intro v' w' h1 h2 _ h4
    refine h v' w' ?_ h2 h4
    unfold OwnStrs
    rw [List.length_append, List.flatMap_append]
    exact h1
theorem S_list (s : List UInt8) : (S s).data.toList = s := rfl
theorem map_S : ∀ ss : List (List UInt8), (ss.map S).map (·.data.toList) = ss
  | [] => rfl
  | s :: ss => congrArg (s :: ·) (map_S ss)
/-- Join over texts of the call's own. -/
theorem join_own (base : Nat) (v : Value) (ss : List (List UInt8)) (sep : List UInt8) (w : World) (h : OwnStrs w base v ss) (hne : ss ≠ []) (hl : ss.length ≤ 1048576) (hb : (Lib.join ss sep).length ≤ 1000000000) :
    Calls Tryd.prog 24 #[v, .string (S sep)] w fun e w' => e = .returned (.string (S (Lib.join ss sep))) ∧ Ext w w' := by
  obtain ⟨a, cp, hv, hfl, _⟩ := ownsRow_flat sCells_len h
  rcases h.2 with ⟨_, hn⟩ | ⟨g, cap, cur, e, hg, hh, hnc, hcm, hcs, htake⟩
  · exact absurd (List.eq_nil_of_length_eq_zero hn) hne
  · rw [e] at hv
    injection hv with e1 e2 e3
    subst e1
    subst e
    have hj := Tryd.strings_Join g 0 cap (ss.map S) (S sep) w (fun j x hx => by
      rw [List.getElem?_map] at hx
      obtain ⟨s, hs, rfl⟩ := Option.map_eq_some_iff.1 hx
      obtain ⟨hj, rfl⟩ := List.getElem?_eq_some_iff.1 hs
      obtain ⟨b, off, eb, hc⟩ := hfl j hj
      cases eb
      have := hc 0 _ rfl
      simpa using this) (show RowAt w g 9 cur from hh).lt (by rw [List.length_map]; omega) (by rw [List.length_map]; exact hnc) (by rw [map_S, S_list]; omega)
    rw [List.length_map, map_S, S_list] at hj
    exact hj
/-- The table that Itoa reads. -/
def TabW (w : World) : Prop := Lib.TabIs Tryd.prog w "internal/strconv.uint64pow10" .u64 Lib.pow10Tab
theorem tab_named0 : (Tryd.prog.globalNamed "internal/strconv.uint64pow10").isSome = true := by kernel_rfl
theorem tab_named : ∃ g, Tryd.prog.globalNamed "internal/strconv.uint64pow10" = some g := Option.isSome_iff_exists.1 tab_named0
theorem TabW.ext {w w' : World} (h : TabW w) (hx : Ext w w') : TabW w' := let ⟨_, hg⟩ := tab_named; TabIs_below hg h hx
theorem implFormatInt_any (x : Nat) (w : World) (h1 : x ≤ 1000000000) (ht : TabW w) :
    Calls Tryd.prog 23 #[.int .i64 x] w fun e w' => e = .returned (.string (S (dec x))) ∧ Ext w w' := by
  go_enter Tryd.func23, Tryd.ntmps23
  go_wp2_with fail
  refine (Tryd.strconv_Itoa x (by omega) (by omega) _ ht).mono ?_
  rintro e w' ⟨rfl, k, os, rfl⟩
  go_wp2
  go_ret
  refine ⟨?_, ⟨rfl, rfl, rfl, by simp [Sort.grow, World.drewN], fun i hi => by simp [Sort.grow, World.drewN]; exact Array.getElem?_append_left hi⟩⟩
  rw [dec_itoa, show Lib.itoa (x : Int) = Lib.decDigits x by unfold Lib.itoa; rw [if_neg (by omega)]; rfl]
  rfl
end Go.Proofs.YtjjikcjhnglkaaaDoor
