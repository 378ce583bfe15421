/- Reaches in memory of their own; what their sizes tell. -/
import Derived.Test.YtooedgaaaoinbaaProg
import Derived.Test.YtooedgaaaoinbaaPoint
import Derived.Test.YtooedgaaaoinbaaTrains
namespace Go.Proofs.Ytooedgaaaoinbaa
open Go.RowKit
set_option linter.unusedSimpArgs false
set_option linter.unusedVariables false

theorem szReach_bounds {l : Int} {tn pn : Nat} (h0 : 0 ≤ l) (h1 : l ≤ 1048576) (h : ¬ (if szRow l tn < 0 then -1 else szRow (szRow l tn) pn) < 0) : tn ≤ 1048576 ∧ pn ≤ 1048576 ∧ (if szRow l tn < 0 then -1 else szRow (szRow l tn) pn) ≤ l := by
  split at h
  · omega
  · rename_i h2
    rw [if_neg h2]
    obtain ⟨e, hl⟩ := szRow_val h2
    obtain ⟨e2, hl2⟩ := szRow_val h
    omega
/-- A reach whose points and whose pipe lie in blocks of their own, from lo to hi. -/
def OwnReach (w : World) (lo hi : Nat) (ta : Option Addr) (tn tc : Nat) (pa : Option Addr) (pn pc : Nat) (ps : List Pt) (xs : List Int) : Prop :=
  ∃ mid, (lo ≤ mid ∧ mid ≤ hi) ∧ PtOwn w lo mid (.slice ta tn tc) ps ∧ IntOwn w mid hi (.slice pa pn pc) xs
theorem OwnReach.mk {w : World} {lo mid hi : Nat} {ta : Option Addr} {tn tc : Nat} {pa : Option Addr} {pn pc : Nat} {ps : List Pt} {xs : List Int} (h1 : lo ≤ mid ∧ mid ≤ hi) (h2 : PtOwn w lo mid (.slice ta tn tc) ps) (h3 : IntOwn w mid hi (.slice pa pn pc) xs) : OwnReach w lo hi ta tn tc pa pn pc ps xs := ⟨mid, h1, h2, h3⟩
theorem OwnReach.ext {w w' : World} {lo hi : Nat} {ta : Option Addr} {tn tc : Nat} {pa : Option Addr} {pn pc : Nat} {ps : List Pt} {xs : List Int} (h : OwnReach w lo hi ta tn tc pa pn pc ps xs) (hx : Ext w w') : OwnReach w' lo hi ta tn tc pa pn pc ps xs :=
  let ⟨mid, h1, h2, h3⟩ := h; ⟨mid, h1, h2.ext hx, h3.ext hx⟩
theorem OwnReach.chg {w w' : World} {lo hi lo2 hi2 : Nat} {ta : Option Addr} {tn tc : Nat} {pa : Option Addr} {pn pc : Nat} {ps : List Pt} {xs : List Int} (h : OwnReach w lo hi ta tn tc pa pn pc ps xs) (hc : Chg lo2 hi2 w w') (ho : hi ≤ lo2 ∨ hi2 ≤ lo) : OwnReach w' lo hi ta tn tc pa pn pc ps xs :=
  let ⟨mid, h1, h2, h3⟩ := h; ⟨mid, h1, h2.chg hc (by omega), h3.chg hc (by omega)⟩
theorem OwnReach.pts {w : World} {lo hi : Nat} {ta : Option Addr} {tn tc : Nat} {pa : Option Addr} {pn pc : Nat} {ps : List Pt} {xs : List Int} (h : OwnReach w lo hi ta tn tc pa pn pc ps xs) : FlatAt w ptCells 2 ta ps :=
  let ⟨_, _, h2, _⟩ := h; h2.at
theorem OwnReach.ints {w : World} {lo hi : Nat} {ta : Option Addr} {tn tc : Nat} {pa : Option Addr} {pn pc : Nat} {ps : List Pt} {xs : List Int} (h : OwnReach w lo hi ta tn tc pa pn pc ps xs) : IntsAt w pa xs :=
  let ⟨_, _, _, h3⟩ := h; h3.at
theorem OwnTrains.chg {lo hi lo2 hi2 : Nat} {w w' : World} {a : Option Addr} {ts : List Tn} (h : OwnTrains w lo hi a ts) (hc : Chg lo2 hi2 w w') (ho : hi ≤ lo2 ∨ hi2 ≤ lo) : OwnTrains w' lo hi a ts :=
  h.keep (Nat.le_refl _) (Nat.le_refl _) (fun B t c h1 h2 hr => hr.chg hc (by omega))
end Go.Proofs.Ytooedgaaaoinbaa
