/- The order of calls that have been drawn, in plain words: a key for each call, the sort by the key, and the list turned round. -/
import Derived.Test.YtjjikcjhnglkaaaProg
import Derived.Test.YtjjikcjhnglkaaaSortC
import Derived.Test.YtjjikcjhnglkaaaDrawC
namespace Go.Proofs.Ytjjikcjhnglkaaa
open Go.RowKit Go.Sort
set_option linter.unusedSimpArgs false
set_option linter.unusedVariables false

instance : Inhabited Cl := ⟨⟨false, [], 0, 0⟩⟩
def rk (c : Cl) : Int := rankOf c.rows c.si c.bo 100
def bk (c : Cl) : Int := if rk c = -1 then c.bo else 0
def keyC (c : Cl) : Int := 1000000000 * rk c + 1000000 * bk c + 1000 * c.si + firstId c.rows
theorem CDn.facts {id : Int} {c : Cl} (h : CDn id c) (h0 : 1 ≤ id) (h1 : id ≤ 9000) : (-1 ≤ rk c ∧ rk c ≤ 2) ∧ (0 ≤ c.si ∧ c.si ≤ 100) ∧ (-1 ≤ c.bo ∧ c.bo ≤ 105) ∧ firstId c.rows = id ∧ c.small := by
  obtain ⟨k, hk, hg, hsi, hbo⟩ := h
  have hok := hg.ok h0 h1 hk.1 (by omega)
  have hcl := cls_bounds hok
  have hcall : callOk c.rows c.si c.bo = true := by
    simp only [callOk, inR, Bool.and_eq_true, decide_eq_true_eq]
    exact ⟨⟨hok, by omega⟩, by omega⟩
  have hin : inR 100 c.si 1000000 = true := by simp only [inR, decide_eq_true_eq]; omega
  refine ⟨?_, hsi, by omega, ?_, ?_⟩
  · unfold rk rankOf
    rw [if_pos ⟨hcall, hin⟩]
    split
    · omega
    · split <;> omega
  · unfold firstId idsOf
    rw [if_pos hok]
    have h2 := hg.2.2 0 (by rw [hg.1]; omega)
    have h3 := h2.1
    cases hfl : c.rows.flatten with
    | nil => have := hg.1; rw [hfl] at this; simp at this; omega
    | cons b t => simp only [hfl, List.getElem_cons_zero] at h3; simp [h3]
  · have := hg.small
    exact ⟨by omega, by rw [hg.1]; omega⟩
theorem lt_key {i j : Int} {c d : Cl} (hc : CDn i c) (hd : CDn j d) (i0 : 1 ≤ i) (i1 : i ≤ 900) (j0 : 1 ≤ j) (j1 : j ≤ 900) : ltC c d = decide (keyC c < keyC d) := by
  obtain ⟨c1, c2, c3, c4, _⟩ := hc.facts i0 (by omega)
  obtain ⟨d1, d2, d3, d4, _⟩ := hd.facts j0 (by omega)
  have e1 : rankOf c.rows c.si c.bo 100 = rk c := rfl
  have e2 : rankOf d.rows d.si d.bo 100 = rk d := rfl
  unfold ltC comesBefore keyC bk
  rw [e1, e2, if_neg (by omega), c4, d4]
  obtain ⟨rc, hrc⟩ : ∃ x, x = rk c := ⟨_, rfl⟩
  obtain ⟨rd, hrd⟩ : ∃ x, x = rk d := ⟨_, rfl⟩
  rw [← hrc] at c1 ⊢
  rw [← hrd] at d1 ⊢
  by_cases h1 : rc = rd
  · rw [if_neg (by omega)]
    subst h1
    by_cases h2 : rc = -1
    · simp only [h2, if_true, true_and]
      by_cases h3 : c.bo = d.bo
      · rw [if_neg (by omega), h3]
        by_cases h4 : c.si = d.si
        · rw [if_neg (by omega), h4]; rw [decide_eq_decide]; omega
        · rw [if_pos (by omega)]; rw [decide_eq_decide]; omega
      · rw [if_pos (by omega)]; rw [decide_eq_decide]; omega
    · simp only [h2, if_false, false_and]
      by_cases h4 : c.si = d.si
      · rw [if_neg (by omega), h4]; rw [decide_eq_decide]; omega
      · rw [if_pos (by omega)]; rw [decide_eq_decide]; omega
  · rw [if_pos (by omega), decide_eq_decide]
    split <;> split <;> omega
theorem key_inj {i j : Int} {c d : Cl} (hc : CDn i c) (hd : CDn j d) (i0 : 1 ≤ i) (i1 : i ≤ 900) (j0 : 1 ≤ j) (j1 : j ≤ 900) (h : keyC c = keyC d) : i = j := by
  obtain ⟨c1, c2, c3, c4, _⟩ := hc.facts i0 (by omega)
  obtain ⟨d1, d2, d3, d4, _⟩ := hd.facts j0 (by omega)
  unfold keyC at h
  rw [c4, d4] at h
  have hb : ∀ x : Int, 1000000 * x = 1000 * (1000 * x) := fun x => by omega
  omega

/-! ### The sort -/
def upto (n : Nat) : List Int := (List.range n).map (fun (j : Nat) => (j : Int))
theorem upto_len (n : Nat) : (upto n).length = n := by simp [upto]
theorem upto_step (n : Nat) : upto (n + 1) = upto n ++ [(n : Int)] := by simp [upto, List.range_succ]
theorem upto_get (n k : Nat) (h : k < n) : (upto n).toArray[k]! = (k : Int) := by simp [upto, h]
theorem upto_mem {n : Nat} {x : Int} : x ∈ upto n ↔ ∃ k : Nat, k < n ∧ x = (k : Int) := by
  simp only [upto, List.mem_map, List.mem_range]
  exact ⟨fun ⟨k, h, e⟩ => ⟨k, h, e.symm⟩, fun ⟨k, h, e⟩ => ⟨k, h, e.symm⟩⟩
theorem upto_nodup (n : Nat) : (upto n).Nodup := by
  unfold upto
  exact List.pairwise_map.2 (List.nodup_range.imp (fun h e => h (Int.ofNat_inj.1 e)))
def kf (cs : List Cl) (x : Int) : Int := keyC cs[x.toNat]!
def cfi (cs : List Cl) (x y : Int) : Int := if kf cs x < kf cs y then -1 else if kf cs y < kf cs x then 1 else 0
theorem ltI_kf (cs : List Cl) (x y : Int) : ltI (cfi cs) x y = decide (kf cs x < kf cs y) := by
  unfold ltI cfi
  rw [decide_eq_decide]
  split
  · omega
  · split <;> omega
theorem cfi_swo (cs : List Cl) : SWO (ltI (cfi cs)) := by
  constructor
  · intro x; rw [ltI_kf]; simp
  · intro x y z h1 h2
    rw [ltI_kf, decide_eq_true_eq] at *
    omega
  · intro x y z h1 h2
    rw [ltI_kf, decide_eq_false_iff_not] at *
    omega
def ordOf (cs : List Cl) : List Int := (insertionSort (ltI (cfi cs)) (upto cs.length).toArray 0 cs.length).toList
theorem ord_perm (cs : List Cl) : (ordOf cs).Perm (upto cs.length) := by
  obtain ⟨hp, _⟩ := insertionSort_holds (lt := ltI (cfi cs)) (cfi_swo cs) (upto cs.length).toArray 0 cs.length (Nat.zero_le _) (by simp [upto])
  obtain ⟨hsz, _, hperm⟩ := hp
  have h1 : (upto cs.length).toArray.size = cs.length := by simp [upto]
  have e0 : ∀ (A : Array Int) (m : Nat), A.size = m → A.extract 0 m = A := by rintro A _ rfl; exact Array.extract_size
  have e1 := e0 (insertionSort (ltI (cfi cs)) (upto cs.length).toArray 0 cs.length) cs.length (by rw [hsz, h1])
  have e2 := e0 (upto cs.length).toArray cs.length h1
  rw [e1, e2] at hperm
  exact hperm
theorem ord_len (cs : List Cl) : (ordOf cs).length = cs.length := by rw [(ord_perm cs).length_eq, upto_len]
theorem ord_sorted (cs : List Cl) : (ordOf cs).Pairwise (fun x y => kf cs x ≤ kf cs y) := by
  obtain ⟨_, hs⟩ := insertionSort_holds (lt := ltI (cfi cs)) (cfi_swo cs) (upto cs.length).toArray 0 cs.length (Nat.zero_le _) (by simp [upto])
  rw [List.pairwise_iff_getElem]
  intro i j hi hj hij
  have hl := ord_len cs
  have h := hs i j (Nat.zero_le _) hij (by omega)
  rw [ltI_kf, decide_eq_false_iff_not] at h
  unfold ordOf at hi hj ⊢
  rw [Array.length_toList] at hi hj
  rw [getElem!_pos _ i hi, getElem!_pos _ j hj] at h
  simp only [Array.getElem_toList]
  omega
/-- Keys that differ. -/
def Apart (cs : List Cl) : Prop := ∀ i j : Nat, i < cs.length → j < cs.length → kf cs (i : Int) = kf cs (j : Int) → i = j
theorem ord_get (cs : List Cl) (k : Nat) (h : k < cs.length) : ∃ x : Nat, x < cs.length ∧ (ordOf cs)[k]'(by rw [ord_len]; exact h) = (x : Int) :=
  upto_mem.1 ((ord_perm cs).mem_iff.1 (List.getElem_mem _))
theorem ord_has (cs : List Cl) (k : Nat) (h : k < cs.length) : (k : Int) ∈ ordOf cs := (ord_perm cs).mem_iff.2 (upto_mem.2 ⟨k, h, rfl⟩)
theorem ord_lt (cs : List Cl) (ha : Apart cs) (i k x y : Nat) (hik : i < k) (hk : k < cs.length) (hx : (ordOf cs)[i]'(by rw [ord_len]; omega) = (x : Int)) (hy : (ordOf cs)[k]'(by rw [ord_len]; omega) = (y : Int)) (hxl : x < cs.length) (hyl : y < cs.length) : kf cs (x : Int) < kf cs (y : Int) := by
  have hl := ord_len cs
  have h1 := List.pairwise_iff_getElem.1 (ord_sorted cs) i k (by omega) (by omega) hik
  have hnd : (ordOf cs).Nodup := (ord_perm cs).nodup_iff.2 (upto_nodup _)
  have h2 := List.pairwise_iff_getElem.1 hnd i k (by omega) (by omega) hik
  rw [hx, hy] at h1 h2
  have h3 : kf cs (x : Int) ≠ kf cs (y : Int) := fun e => h2 (by rw [ha x y hxl hyl e])
  omega
theorem kf_rev (cs : List Cl) (x : Nat) (h : x < cs.length) : kf cs.reverse (x : Int) = kf cs (((cs.length - 1 - x : Nat)) : Int) := by
  unfold kf
  rw [Int.toNat_natCast, Int.toNat_natCast, getElem!_pos cs.reverse x (by simpa using h), getElem!_pos cs (cs.length - 1 - x) (by omega), List.getElem_reverse]
theorem ord_rev (cs : List Cl) (ha : Apart cs) : ordOf cs.reverse = (ordOf cs).map (fun x => (cs.length : Int) - 1 - x) := by
  have hp1 := ord_perm cs.reverse
  rw [List.length_reverse] at hp1
  have hp2 : ((ordOf cs).map (fun x => (cs.length : Int) - 1 - x)).Perm (upto cs.length) := by
    refine ((ord_perm cs).map _).trans ?_
    rw [List.perm_ext_iff_of_nodup]
    · intro x
      simp only [List.mem_map, upto_mem]
      constructor
      · rintro ⟨y, ⟨k, hk, rfl⟩, rfl⟩
        exact ⟨cs.length - 1 - k, by omega, by omega⟩
      · rintro ⟨k, hk, rfl⟩
        exact ⟨(cs.length : Int) - 1 - k, ⟨cs.length - 1 - k, by omega, by omega⟩, by omega⟩
    · exact List.pairwise_map.2 ((upto_nodup _).imp (fun h e => h (by omega)))
    · exact upto_nodup _
  refine List.Perm.eq_of_pairwise (le := fun x y => kf cs.reverse x ≤ kf cs.reverse y) ?_ (ord_sorted _) ?_ (hp1.trans hp2.symm)
  · intro a b ha1 hb1 h1 h2
    obtain ⟨x, hx, rfl⟩ := upto_mem.1 (hp1.mem_iff.1 ha1)
    obtain ⟨y, hy, rfl⟩ := upto_mem.1 (hp2.mem_iff.1 hb1)
    rw [kf_rev cs x hx, kf_rev cs y hy] at h1 h2
    have := ha (cs.length - 1 - x) (cs.length - 1 - y) (by omega) (by omega) (by omega)
    omega
  · rw [List.pairwise_map]
    refine (ord_sorted cs).imp_of_mem ?_
    intro a b ha1 hb1 h
    obtain ⟨x, hx, rfl⟩ := upto_mem.1 ((ord_perm cs).mem_iff.1 ha1)
    obtain ⟨y, hy, rfl⟩ := upto_mem.1 ((ord_perm cs).mem_iff.1 hb1)
    have e1 : (cs.length : Int) - 1 - (x : Int) = ((cs.length - 1 - x : Nat) : Int) := by omega
    have e2 : (cs.length : Int) - 1 - (y : Int) = ((cs.length - 1 - y : Nat) : Int) := by omega
    rw [e1, e2, kf_rev cs _ (by omega), kf_rev cs _ (by omega)]
    have e3 : cs.length - 1 - (cs.length - 1 - x) = x := by omega
    have e4 : cs.length - 1 - (cs.length - 1 - y) = y := by omega
    rw [e3, e4]
    exact h

/-! ### What a drawn list asks -/
theorem CQ.cdn {K : Nat} {es : List Ec} (h : CQ K 0 es) : ∀ x ∈ es.map Ec.c, ∃ id : Int, 1 ≤ id ∧ id ≤ 900 ∧ CDn id x := by
  intro x hx
  obtain ⟨e, he, rfl⟩ := List.mem_map.1 hx
  obtain ⟨i, hi, rfl⟩ := List.getElem_of_mem he
  have h1 := h.1
  have h2 := h.2.1
  exact ⟨_, by omega, by omega, h.2.2 i hi⟩
theorem CQ.small {K : Nat} {es : List Ec} (h : CQ K 0 es) : ∀ x ∈ es.map Ec.c, x.small := fun x hx =>
  let ⟨id, h0, h1, hd⟩ := h.cdn x hx; (hd.facts h0 (by omega)).2.2.2.2
theorem CQ.rank {K : Nat} {es : List Ec} (h : CQ K 0 es) : ∀ x ∈ es.map Ec.c, rankOf x.rows x.si x.bo 100 ≠ 3 := fun x hx =>
  let ⟨id, h0, h1, hd⟩ := h.cdn x hx; by have := (hd.facts h0 (by omega)).1; unfold rk at this; omega
theorem CQ.lt {K : Nat} {es : List Ec} (h : CQ K 0 es) : ∀ x ∈ es.map Ec.c, ∀ y ∈ es.map Ec.c, ltC x y = decide (keyC x < keyC y) := fun x hx y hy =>
  let ⟨_, h0, h1, hd⟩ := h.cdn x hx; let ⟨_, g0, g1, gd⟩ := h.cdn y hy; lt_key hd gd h0 h1 g0 g1
theorem CQ.apart {K : Nat} {es : List Ec} (h : CQ K 0 es) : Apart (es.map Ec.c) := by
  intro i j hi hj e
  rw [List.length_map] at hi hj
  have h1 := h.1
  have h2 := h.2.1
  unfold kf at e
  rw [Int.toNat_natCast, Int.toNat_natCast, getElem!_pos _ i (by simpa using hi), getElem!_pos _ j (by simpa using hj), List.getElem_map, List.getElem_map] at e
  have := key_inj (h.2.2 i hi) (h.2.2 j hj) (by omega) (by omega) (by omega) (by omega) e
  omega
end Go.Proofs.Ytjjikcjhnglkaaa
