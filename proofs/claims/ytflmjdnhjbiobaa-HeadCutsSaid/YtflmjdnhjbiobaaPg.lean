/-
  Layer 1: what the laws say of lists of bytes.
-/
import Derived.Test.YtflmjdnhjbiobaaPf
import Derived.Test.YtflmjdnhjbiobaaFi
namespace Go.Proofs.Ytflmjdnhjbiobaa
open Go.Fw

theorem gword_word {bs rest : List Int} {p : Nat} {n : Int} (h0 : 0 ≤ n) (h1 : n < 4294967296) (hd : bs.drop p = word n ++ rest) : gword bs p = (n, p + 4, 0) := by
  have hl := congrArg List.length hd
  simp only [List.length_drop, List.length_append, word, List.length_cons, List.length_nil] at hl
  unfold gword
  rw [if_neg (by omega), hd, List.take_append_of_le_length (by simp [word]), List.take_of_length_le (by simp [word])]
  simp only [word, wval]
  congr 1
  omega
theorem gbytes_at {bs ks rest : List Int} {p : Nat} {k : Int} (hk : k = ks.length) (hd : bs.drop p = ks ++ rest) (hp : p ≤ bs.length) : gbytes bs p k = (ks, p + ks.length, 0) := by
  have hl := congrArg List.length hd
  simp only [List.length_drop, List.length_append] at hl
  rw [gbytes_ok (by omega) (by omega), hd, hk]
  simp
theorem bk2 {w n : Int} {kb rb : List Int} : ([] ++ word w ++ vi n ++ kb ++ rb).drop 4 = vi n ++ (kb ++ rb) := by simp [word]
theorem bk3 {w n : Int} {kb rb : List Int} : ([] ++ word w ++ vi n ++ kb ++ rb).drop (4 + (vi n).length) = kb ++ rb := by
  rw [← List.drop_drop, bk2]; simp
theorem bk4 {w n : Int} {kb rb : List Int} : ([] ++ word w ++ vi n ++ kb ++ rb).drop (4 + (vi n).length + kb.length) = rb := by
  rw [← List.drop_drop, bk3]; simp
theorem gvar_once0 {bs : List Int} (hb : Byt bs) (h : (gvar bs 0).2.2 = 0) : bs.take (vi (gvar bs 0).1).length = vi (gvar bs 0).1 ∧ (gvar bs 0).2.1 = (vi (gvar bs 0).1).length := by
  have h2 := gvar_once hb h
  rw [List.drop_zero, Nat.sub_zero, Nat.zero_add] at h2
  have h3 := h2.2
  rw [h3] at h2
  exact ⟨h2.1, h3⟩
theorem or128b {x : Int} (h0 : 0 ≤ x) (h1 : x < 256) : IntKind.u8.wrap (((x % 2 ^ IntKind.u8.bits).toNat ||| (128 % 2 ^ IntKind.u8.bits : Int).toNat : Nat) : Int) = x % 128 + 128 := by
  have := or128 (x := x)
  rwa [Int.emod_eq_of_lt h0 h1] at this
theorem byt_set {l : List Int} (h : Byt l) {i : Nat} {x : Int} (h0 : 0 ≤ x ∧ x < 256) : Byt (l.set i x) := fun y hy => by
  rcases List.mem_or_eq_of_mem_set hy with h1 | h1
  · exact h y h1
  · rw [h1]; exact h0
theorem gbytes_len2 {bs : List Int} {p : Nat} {k : Int} : (gbytes bs p k).1.length ≤ bs.length := by
  unfold gbytes; split
  · simp
  · split
    · simp
    · simp only [List.length_take, List.length_drop]; omega
theorem stp_byt {bs : List Int} (hb : Byt bs) {p : Nat} {k n : Int} : Byt (stp bs p k n).2.1 := by
  unfold stp
  repeat' split
  all_goals first | exact byt_nil | exact gbytes_byt hb
theorem dt_eq {l : List Int} {p q t u : Nat} (h1 : p = q) (h2 : t = u) : (l.drop p).take t = (l.drop q).take u := by rw [h1, h2]
theorem d_eq {l : List Int} {p q : Nat} (h1 : p = q) : l.drop p = l.drop q := by rw [h1]
theorem t_eq {l : List Int} {p q : Nat} (h1 : p = q) : l.take p = l.take q := by rw [h1]
end Go.Proofs.Ytflmjdnhjbiobaa
