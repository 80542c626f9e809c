/-
  Canonical codes: the order of assignment.
-/
import Derived.Test.YtilegaokfamfnaaCa
set_option linter.unusedVariables false
namespace Go.Proofs.Ytilegaokfamfnaa
open Go.Fw

/-- the symbols below i whose code length is n -/
def blk (l : List Int) (n : Nat) : Nat → List Int
  | 0 => []
  | i + 1 => blk l n i ++ if l.getD i 0 = (n : Int) then [(i : Int)] else []
theorem blk_len {l : List Int} {n : Nat} (hn : 0 < n) : ∀ {i : Nat}, i ≤ l.length → ((blk l n i).length : Int) = cn (l.take i) n
  | 0, _ => by simp [blk, cn]
  | i + 1, h => by
    have ih := blk_len (l := l) hn (i := i) (by omega)
    rw [cn_take (by omega), ← ih, blk, List.length_append]
    by_cases h1 : l.getD i 0 = (n : Int)
    · rw [if_pos h1, if_pos ⟨hn, h1⟩]; simp
    · rw [if_neg h1, if_neg (fun h => h1 h.2)]; simp
theorem blk_all {l : List Int} {n : Nat} (hn : 0 < n) : ((blk l n l.length).length : Int) = cn l n := by
  have := blk_len (l := l) hn (Nat.le_refl _); rwa [List.take_length] at this
theorem blk_mem {l : List Int} {n : Nat} {x : Int} : ∀ {i : Nat}, x ∈ blk l n i ↔ ∃ j : Nat, j < i ∧ l.getD j 0 = (n : Int) ∧ x = (j : Int)
  | 0 => by simp [blk]
  | i + 1 => by
    rw [blk, List.mem_append, blk_mem (i := i)]
    constructor
    · rintro (⟨j, h1, h2, h3⟩ | h)
      · exact ⟨j, by omega, h2, h3⟩
      · split at h
        · rename_i h2; simp at h; exact ⟨i, by omega, h2, h⟩
        · simp at h
    · rintro ⟨j, h1, h2, h3⟩
      by_cases h4 : j = i
      · subst h4; right; rw [if_pos h2]; simp [h3]
      · exact .inl ⟨j, by omega, h2, h3⟩
theorem blk_rank {l : List Int} {n : Nat} (hn : 0 < n) {x : Int} {r : Nat} : ∀ {i : Nat}, i ≤ l.length → (blk l n i)[r]? = some x → ∃ j : Nat, x = (j : Int) ∧ j < i ∧ l.getD j 0 = (n : Int) ∧ (r : Int) = cn (l.take j) n
  | 0, _, h => by simp [blk] at h
  | i + 1, hi, h => by
    have hl := blk_len (l := l) hn (i := i) (by omega)
    rw [blk, List.getElem?_append] at h
    split at h
    · obtain ⟨j, h1, h2, h3⟩ := blk_rank hn (i := i) (by omega) h
      exact ⟨j, h1, by omega, h3⟩
    · rename_i hr
      split at h
      · rename_i h2
        have h0 : r - (blk l n i).length = 0 := by
          rcases Nat.eq_zero_or_pos (r - (blk l n i).length) with h4 | h4
          · exact h4
          · rw [List.getElem?_eq_none (by simp; omega)] at h; cases h
        rw [h0] at h
        simp only [List.getElem?_cons_zero, Option.some.injEq] at h
        exact ⟨i, h.symm, by omega, h2, by omega⟩
      · simp at h
def ordU (l : List Int) : Nat → List Int
  | 0 => []
  | n + 1 => ordU l n ++ blk l (n + 1) l.length
/-- the last m blocks -/
def rst (l : List Int) : Nat → List Int
  | 0 => []
  | m + 1 => blk l (11 - m) l.length ++ rst l m
/-- the order of assignment -/
def ord (l : List Int) : List Int := ordU l 11
theorem ord_split (l : List Int) {n : Nat} (h : n ≤ 11) : ordU l n ++ rst l (11 - n) = ord l := by
  have key : ∀ m, m ≤ 11 → ordU l (11 - m) ++ rst l m = ord l := by
    intro m
    induction m with
    | zero => intro _; simp [rst, ord]
    | succ m ih =>
      intro h
      rw [← ih (by omega), rst, ← List.append_assoc]
      congr 1
      rw [show 11 - m = (11 - (m + 1)) + 1 from by omega, ordU]
  have := key (11 - n) (by omega)
  rwa [show 11 - (11 - n) = n from by omega] at this
theorem rst_mem {l : List Int} {x : Int} : ∀ {m : Nat}, m ≤ 11 → x ∈ rst l m → ∃ j : Nat, j < l.length ∧ (12 - m : Nat) ≤ l.getD j 0 ∧ l.getD j 0 ≤ 11 ∧ x = (j : Int)
  | 0, _, h => by simp [rst] at h
  | m + 1, hm, h => by
    rw [rst, List.mem_append] at h
    rcases h with h | h
    · obtain ⟨j, h1, h2, h3⟩ := blk_mem.1 h
      exact ⟨j, h1, by omega, by omega, h3⟩
    · obtain ⟨j, h1, h2, h3⟩ := rst_mem (m := m) (by omega) h
      exact ⟨j, h1, by omega, h3⟩
theorem ordU_mem {l : List Int} {x : Int} : ∀ {n : Nat}, x ∈ ordU l n ↔ ∃ j : Nat, j < l.length ∧ 0 < l.getD j 0 ∧ l.getD j 0 ≤ n ∧ x = (j : Int)
  | 0 => by
    simp only [ordU, List.not_mem_nil, false_iff]
    rintro ⟨j, h⟩; omega
  | n + 1 => by
    rw [ordU, List.mem_append, ordU_mem (n := n), blk_mem]
    constructor
    · rintro (⟨j, h1, h2, h3, h4⟩ | ⟨j, h1, h2, h3⟩)
      · exact ⟨j, h1, h2, by omega, h4⟩
      · exact ⟨j, h1, by omega, by omega, h3⟩
    · rintro ⟨j, h1, h2, h3, h4⟩
      by_cases h5 : l.getD j 0 = ((n + 1 : Nat) : Int)
      · exact .inr ⟨j, h1, h5, h4⟩
      · exact .inl ⟨j, h1, h2, by omega, h4⟩
theorem ord_mem {l : List Int} (hb : Bd l) {j : Nat} (hj : j < l.length) : (j : Int) ∈ ord l ↔ 0 < l.getD j 0 := by
  rw [ord, ordU_mem]
  constructor
  · rintro ⟨k, h1, h2, h3, h4⟩
    have : j = k := by omega
    rw [this]; exact h2
  · intro h; exact ⟨j, hj, h, (hb.gd j).2, rfl⟩
theorem ord_at {l : List Int} {i : Nat} (h : i < (ord l).length) : ∃ j : Nat, (ord l).getD i 0 = (j : Int) ∧ j < l.length ∧ 0 < l.getD j 0 ∧ l.getD j 0 ≤ 11 := by
  have hm : (ord l).getD i 0 ∈ ord l := by rw [List.getD_eq_getElem?_getD, List.getElem?_eq_getElem h]; exact List.getElem_mem _
  obtain ⟨j, h1, h2, h3, h4⟩ := ordU_mem.1 hm
  exact ⟨j, h4, h1, h2, by omega⟩
/-- where the assignment stands: next comes symbol r of the block of length n -/
structure St (l : List Int) (i n r : Nat) : Prop where
  h1 : 1 ≤ n
  h2 : n ≤ 11
  hr : r ≤ (blk l n l.length).length
  hd : (ord l).drop i = (blk l n l.length).drop r ++ rst l (11 - n)
theorem drop_cons {l : List Int} {i : Nat} (h : i < l.length) : l.drop i = l.getD i 0 :: l.drop (i + 1) := by
  rw [List.drop_eq_getElem_cons h, List.getD_eq_getElem?_getD, List.getElem?_eq_getElem h]; rfl
theorem st_start {l : List Int} : St l 0 1 0 := by
  refine ⟨by omega, by omega, by omega, ?_⟩
  have := ord_split l (n := 1) (by omega)
  rw [← this]
  simp [ordU]
theorem St.head {l : List Int} {i n r : Nat} (h : St l i n r) (hi : i < (ord l).length) : ∃ j : Nat, (ord l).getD i 0 = (j : Int) ∧ j < l.length ∧ (n : Int) ≤ l.getD j 0 ∧ l.getD j 0 ≤ 11 := by
  have hm : (ord l).getD i 0 ∈ (blk l n l.length).drop r ++ rst l (11 - n) := by rw [← h.hd, drop_cons hi]; exact List.mem_cons_self
  rcases List.mem_append.1 hm with h3 | h3
  · obtain ⟨j, h4, h5, h6⟩ := blk_mem.1 (List.mem_of_mem_drop h3)
    have := h.h2
    exact ⟨j, h6, h4, by omega, by omega⟩
  · obtain ⟨j, h4, h5, h6, h7⟩ := rst_mem (by omega) h3
    exact ⟨j, h7, h4, by omega, h6⟩
theorem St.next {l : List Int} {i n r : Nat} (h : St l i n r) (hi : i < (ord l).length) {j : Nat} (hj : (ord l).getD i 0 = (j : Int)) (hn : (n : Int) < l.getD j 0) : St l i (n + 1) 0 ∧ (r : Int) = cn l n := by
  have hd := h.hd
  have h1 := h.h1
  have hr := h.hr
  have hb := blk_all (l := l) (n := n) (by omega)
  have he : (blk l n l.length).drop r = [] := by
    cases hq : (blk l n l.length).drop r with
    | nil => rfl
    | cons x t =>
      rw [hq, drop_cons hi] at hd
      simp only [List.cons_append, List.cons.injEq] at hd
      have hm : x ∈ blk l n l.length := List.mem_of_mem_drop (by rw [hq]; exact List.mem_cons_self)
      obtain ⟨k, h4, h5, h6⟩ := blk_mem.1 hm
      have : k = j := by omega
      subst this
      omega
  have hlen := List.drop_eq_nil_iff.1 he
  have h11 : n ≠ 11 := by
    intro h11
    obtain ⟨j', e1, _, _, e4⟩ := h.head hi
    have : j' = j := by omega
    subst this
    omega
  have := h.h2
  refine ⟨⟨by omega, by omega, by omega, ?_⟩, by omega⟩
  rw [hd, he, show 11 - n = (11 - (n + 1)) + 1 from by omega, rst, show 11 - (11 - (n + 1)) = n + 1 from by omega]
  simp
theorem St.take {l : List Int} {i n r : Nat} (h : St l i n r) (hi : i < (ord l).length) {j : Nat} (hj : (ord l).getD i 0 = (j : Int)) (hn : ¬ (n : Int) < l.getD j 0) : St l (i + 1) n (r + 1) ∧ l.getD j 0 = (n : Int) ∧ (r : Int) = cn (l.take j) n := by
  have hd := h.hd
  have h1 := h.h1
  obtain ⟨j', e1, e2, e3, e4⟩ := h.head hi
  have : j' = j := by omega
  subst this
  have hlt : r < (blk l n l.length).length := by
    rcases Nat.lt_or_ge r (blk l n l.length).length with h5 | h5
    · exact h5
    · rw [List.drop_eq_nil_iff.2 h5, drop_cons hi, List.nil_append] at hd
      have hm : (ord l).getD i 0 ∈ rst l (11 - n) := by rw [← hd]; exact List.mem_cons_self
      obtain ⟨k, h6, h7, _, h8⟩ := rst_mem (by omega) hm
      have : k = j' := by omega
      subst this
      have := h.h2
      omega
  rw [drop_cons hi, drop_cons hlt] at hd
  simp only [List.cons_append, List.cons.injEq] at hd
  have hb : (blk l n l.length)[r]? = some (j' : Int) := by
    rw [← e1, hd.1, List.getD_eq_getElem?_getD, List.getElem?_eq_getElem hlt]; rfl
  obtain ⟨k, h6, h7, h8, h9⟩ := blk_rank (by omega) (Nat.le_refl _) hb
  have : k = j' := by omega
  subst this
  exact ⟨⟨h1, h.h2, by omega, hd.2⟩, h8, h9⟩
/-- from the start to the length of the first symbol -/
theorem st_first {l : List Int} (hi : 0 < (ord l).length) {j : Nat} (hj : (ord l).getD 0 0 = (j : Int)) : St l 0 (l.getD j 0).toNat 0 ∧ F l (l.getD j 0).toNat = 0 ∧ 0 < l.getD j 0 := by
  obtain ⟨j', e1, e2, e3, e4⟩ := ord_at hi
  have : j' = j := by omega
  subst this
  have key : ∀ m : Nat, 1 ≤ m → (m : Int) ≤ l.getD j' 0 → St l 0 m 0 ∧ F l m = 0 := by
    intro m
    induction m with
    | zero => intro h; omega
    | succ m ih =>
      intro h1 h2
      rcases Nat.eq_zero_or_pos m with h3 | h3
      · subst h3
        exact ⟨st_start, by simp [F, cn]⟩
      · obtain ⟨h4, h5⟩ := ih (by omega) (by omega)
        obtain ⟨h6, h7⟩ := h4.next hi hj (by omega)
        exact ⟨h6, by rw [F, h5]; omega⟩
  obtain ⟨h1, h2⟩ := key (l.getD j' 0).toNat (by omega) (by omega)
  exact ⟨h1, h2, e3⟩
theorem St.cd {l : List Int} {i n r : Nat} (h : St l i n r) (hi : i < (ord l).length) {j : Nat} (hj : (ord l).getD i 0 = (j : Int)) (hn : ¬ (n : Int) < l.getD j 0) : cd l j = ((n : Int), F l n + r) := by
  obtain ⟨_, h1, h2⟩ := h.take hi hj hn
  have := h.h1
  rw [Go.Proofs.Ytilegaokfamfnaa.cd, if_pos (by omega), h1, h2]
  rfl
/-- the code word of symbol j, once k symbols have been served -/
def outS (l : List Int) (k j : Nat) : Int × Int := if (j : Int) ∈ (ord l).take k then Go.Proofs.Ytilegaokfamfnaa.cd l j else (0, 0)
theorem outS_zero (l : List Int) (j : Nat) : outS l 0 j = (0, 0) := by simp [outS]
theorem outS_all {l : List Int} (hb : Bd l) {k j : Nat} (hk : (ord l).length ≤ k) (hj : j < l.length) : outS l k j = Go.Proofs.Ytilegaokfamfnaa.cd l j := by
  unfold outS
  rw [List.take_of_length_le hk]
  split
  · rfl
  · rename_i h; rw [cd_zero (fun h2 => h ((ord_mem hb hj).2 h2))]
theorem outS_step {l : List Int} {k j : Nat} (hk : k < (ord l).length) (hj : (ord l).getD k 0 = (j : Int)) {v : Int × Int} (hv : Go.Proofs.Ytilegaokfamfnaa.cd l j = v) (i : Nat) : outS l (k + 1) i = if i = j then v else outS l k i := by
  unfold outS
  rw [tk1 hk, hj]
  by_cases h : i = j
  · subst h; rw [if_pos rfl, if_pos (by simp), hv]
  · rw [if_neg h]
    have : ((i : Int) ∈ (ord l).take k ++ [(j : Int)]) ↔ (i : Int) ∈ (ord l).take k := by
      rw [List.mem_append]
      constructor
      · rintro (h1 | h1)
        · exact h1
        · simp at h1; omega
      · exact .inl
    by_cases h1 : (i : Int) ∈ (ord l).take k
    · rw [if_pos h1, if_pos (this.2 h1)]
    · rw [if_neg h1, if_neg (fun h2 => h1 (this.1 h2))]
theorem ord_pos {l : List Int} (h : Rt l) : 0 < (ord l).length := by
  have key : ∀ l : List Int, 0 < mc l → ∃ j, j < l.length ∧ 0 < l.getD j 0 := by
    intro l
    induction l with
    | nil => intro h; simp [mc] at h
    | cons x l ih =>
      intro h
      by_cases hx : 0 < x
      · exact ⟨0, by simp, by simpa using hx⟩
      · rw [mc, if_neg hx] at h
        obtain ⟨j, h1, h2⟩ := ih (by omega)
        exact ⟨j + 1, by simp; omega, by simpa using h2⟩
  obtain ⟨j, h1, h2⟩ := key l (by have := h.2.2.1; omega)
  have := (ord_mem h.1 h1).2 h2
  exact List.length_pos_of_mem this
theorem ordU_len (l : List Int) : ∀ n, n ≤ 11 → (ordU l n).length ≤ n * l.length
  | 0, _ => by simp [ordU]
  | n + 1, h => by
    have := ordU_len l n (by omega)
    have h1 := blk_all (l := l) (n := n + 1) (by omega)
    have h2 := cn_le l (n + 1)
    rw [ordU, List.length_append, Nat.succ_mul]; omega
theorem ord_len (l : List Int) : (ord l).length ≤ 11 * l.length := ordU_len l 11 (by omega)
end Go.Proofs.Ytilegaokfamfnaa
