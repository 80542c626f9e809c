/-
  Canonical codes: finding a symbol, decoding, codes that came in, the greatest length.
-/
import Derived.Test.YtilegaokfamfnaaCa
set_option linter.unusedVariables false
namespace Go.Proofs.Ytilegaokfamfnaa
open Go.Fw

def qsym (c x : Int × Int) : Bool := decide (x = c ∧ 0 < c.1)
def sy (l : List Int) (c : Int × Int) : Int := if Rt l then fidx (qsym c) (cds l) else -1
theorem sy_t {l : List Int} (h : Rt l) (c : Int × Int) : sy l c = fidx (qsym c) (cds l) := if_pos h
theorem sy_f {l : List Int} (h : ¬ Rt l) (c : Int × Int) : sy l c = -1 := if_neg h
def qrd (bits n : Int) (x : Int × Int) : Bool := decide (0 < x.1 ∧ x.1 ≤ n ∧ bits / 2 ^ (min (n - x.1).toNat IntKind.u64.bits) = x.2)
def Va (bits n : Int) : Prop := (0 ≤ n ∧ n ≤ 64) ∧ (n = 64 ∨ bits / 2 ^ (min n.toNat IntKind.u64.bits) = 0)
instance (bits n : Int) : Decidable (Va bits n) := inferInstanceAs (Decidable ((0 ≤ n ∧ n ≤ 64) ∧ (n = 64 ∨ bits / 2 ^ (min n.toNat IntKind.u64.bits) = 0)))
def dec (l : List Int) (bits n : Int) : Int × Int × Int :=
  if ¬ Rt l then (0, 0, 12) else if ¬ Va bits n then (0, 0, 2) else
  if fidx (qrd bits n) (cds l) < 0 then (0, 0, 3) else (fidx (qrd bits n) (cds l), ((cds l).getD (fidx (qrd bits n) (cds l)).toNat (0, 0)).1, 0)
theorem dec_no {l : List Int} (h : ¬ Rt l) (bits n : Int) : dec l bits n = (0, 0, 12) := if_pos h
theorem dec_arg {l : List Int} (h : Rt l) {bits n : Int} (h2 : ¬ Va bits n) : dec l bits n = (0, 0, 2) := by rw [dec, if_neg (by simpa using h), if_pos h2]
theorem dec_short {l : List Int} (h : Rt l) {bits n : Int} (h2 : Va bits n) (h3 : fidx (qrd bits n) (cds l) < 0) : dec l bits n = (0, 0, 3) := by
  rw [dec, if_neg (by simpa using h), if_neg (by simpa using h2), if_pos h3]
theorem dec_ok {l : List Int} (h : Rt l) {bits n : Int} (h2 : Va bits n) (h3 : ¬ fidx (qrd bits n) (cds l) < 0) : dec l bits n = (fidx (qrd bits n) (cds l), ((cds l).getD (fidx (qrd bits n) (cds l)).toNat (0, 0)).1, 0) := by
  rw [dec, if_neg (by simpa using h), if_neg (by simpa using h2), if_neg h3]
/-- a valid code -/
def Vc (c : Int × Int) : Prop := 1 ≤ c.1 ∧ c.1 ≤ 11 ∧ c.2 < 2 ^ c.1.toNat
instance (c : Int × Int) : Decidable (Vc c) := inferInstanceAs (Decidable (1 ≤ c.1 ∧ c.1 ≤ 11 ∧ c.2 < 2 ^ c.1.toNat))
def qbad (x : Int × Int) : Bool := decide (x ≠ (0, 0) ∧ ¬ Vc x)
def lns (cs : List (Int × Int)) : List Int := cs.map (·.1)
theorem lns_len (cs : List (Int × Int)) : (lns cs).length = cs.length := by simp [lns]
theorem lns_take (cs : List (Int × Int)) {k : Nat} (h : k < cs.length) : lns (cs.take (k + 1)) = lns (cs.take k) ++ [(cs.getD k (0, 0)).1] := by
  unfold lns
  rw [List.take_add_one, List.getElem?_eq_getElem h, List.getD_eq_getElem?_getD, List.getElem?_eq_getElem h, List.map_append]; rfl
def ofc (cs : List (Int × Int)) : List Int × Int :=
  if ¬ (cs.length ≤ 256 ∧ fidx qbad cs < 0) then ([], 2) else if ¬ Rt (lns cs) then ([], 12) else if cds (lns cs) = cs then (lns cs, 0) else ([], 12)
theorem ofc_arg {cs : List (Int × Int)} (h : ¬ (cs.length ≤ 256 ∧ fidx qbad cs < 0)) : ofc cs = ([], 2) := if_pos h
theorem ofc_tree {cs : List (Int × Int)} (h : cs.length ≤ 256 ∧ fidx qbad cs < 0) (h2 : ¬ Rt (lns cs)) : ofc cs = ([], 12) := by rw [ofc, if_neg (fun f => f h), if_pos h2]
theorem ofc_ne {cs : List (Int × Int)} (h : cs.length ≤ 256 ∧ fidx qbad cs < 0) (h2 : Rt (lns cs)) (h3 : ¬ cds (lns cs) = cs) : ofc cs = ([], 12) := by rw [ofc, if_neg (fun f => f h), if_neg (fun f => f h2), if_neg h3]
theorem ofc_ok {cs : List (Int × Int)} (h : cs.length ≤ 256 ∧ fidx qbad cs < 0) (h2 : Rt (lns cs)) (h3 : cds (lns cs) = cs) : ofc cs = (lns cs, 0) := by rw [ofc, if_neg (fun f => f h), if_neg (fun f => f h2), if_pos h3]
def Pfx (a b : Int × Int) : Prop := Vc a ∧ Vc b ∧ a.1 ≤ b.1 ∧ b.2 / 2 ^ (min (b.1 - a.1).toNat IntKind.u32.bits) = a.2
instance (a b : Int × Int) : Decidable (Pfx a b) := inferInstanceAs (Decidable (Vc a ∧ Vc b ∧ a.1 ≤ b.1 ∧ b.2 / 2 ^ (min (b.1 - a.1).toNat IntKind.u32.bits) = a.2))
def mx : List Int → Int
  | [] => 0
  | x :: l => max x (mx l)
theorem mx_app (l m : List Int) (h : ∀ x ∈ m, 0 ≤ x) : mx (l ++ m) = max (mx l) (mx m) := by
  have h0 : ∀ m : List Int, 0 ≤ mx m := by
    intro m; induction m with
    | nil => simp [mx]
    | cons x m ih => simp only [mx]; omega
  induction l with
  | nil => have := h0 m; simp only [List.nil_append, mx]; omega
  | cons x l ih => simp only [List.cons_append, mx, ih]; omega
theorem mx_take {l : List Int} (h : Bd l) {k : Nat} (hk : k < l.length) : mx (l.take (k + 1)) = max (mx (l.take k)) (l.getD k 0) := by
  have := h.gd k
  rw [tk1 hk, mx_app _ _ (fun x hx => by simp at hx; rw [hx]; exact this.1)]
  simp only [mx]; omega
theorem mx_nonneg : ∀ l : List Int, 0 ≤ mx l
  | [] => by simp [mx]
  | x :: l => by have := mx_nonneg l; simp only [mx]; omega
theorem mx_le {l : List Int} (h : Bd l) : mx l ≤ 11 := by
  induction l with
  | nil => simp [mx]
  | cons x l ih =>
    have := ih fun y hy => h y (List.mem_cons_of_mem _ hy)
    have := h x List.mem_cons_self
    simp only [mx]; omega
theorem shlc {x : Int} (h0 : 1 ≤ x) (h1 : x ≤ 11) : IntKind.u32.wrap (1 * 2 ^ (min x.toNat IntKind.u32.bits)) = 2 ^ x.toNat := by
  have : x = 1 ∨ x = 2 ∨ x = 3 ∨ x = 4 ∨ x = 5 ∨ x = 6 ∨ x = 7 ∨ x = 8 ∨ x = 9 ∨ x = 10 ∨ x = 11 := by omega
  rcases this with rfl | rfl | rfl | rfl | rfl | rfl | rfl | rfl | rfl | rfl | rfl <;> decide
theorem Rt.pos {l : List Int} (h : Rt l) : 0 < l.length := by
  have := mc_bd l
  have := h.2.2.1
  omega
end Go.Proofs.Ytilegaokfamfnaa
