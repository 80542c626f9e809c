/-
  The numbers of layer 1: words and varints as lists of bytes.
-/
import Derived.Test.YtflmjdnhjbiobaaFg
namespace Go.Proofs.Ytflmjdnhjbiobaa

def vb : Nat → Int → List Int
  | 0, _ => []
  | f + 1, n => if n < 128 then [n] else (n % 128 + 128) :: vb f (n / 128)
/-- a varint's bytes -/
def vi (n : Int) : List Int := vb 10 n
/-- a word's bytes -/
def word (n : Int) : List Int := [n % 256, n / 256 % 256, n / 65536 % 256, n / 16777216]

theorem vb_small {f : Nat} {m : Int} (h : m < 128) : vb (f + 1) m = [m] := by simp [vb, h]
theorem vb_big {f : Nat} {m : Int} (h : 128 ≤ m) : vb (f + 1) m = (m % 128 + 128) :: vb f (m / 128) := by
  have : ¬ m < 128 := by omega
  simp [vb, this]
theorem pow_step {f : Nat} {m : Int} (h : m < 128 ^ (f + 1)) : m / 128 < 128 ^ f := by
  rw [Int.pow_succ] at h
  omega
theorem vb_len : ∀ (f : Nat) (n : Int), (vb f n).length ≤ f
  | 0, _ => by simp [vb]
  | f + 1, n => by
    simp only [vb]
    split
    · simp
    · have := vb_len f (n / 128); simp; omega
theorem vb_byt : ∀ (f : Nat) (n : Int), 0 ≤ n → Fw.Byt (vb f n)
  | 0, _, _ => by intro x hx; simp [vb] at hx
  | f + 1, n, h0 => by
    intro x hx
    simp only [vb] at hx
    split at hx
    · simp at hx; omega
    · rcases List.mem_cons.1 hx with rfl | hx
      · omega
      · exact vb_byt f (n / 128) (by omega) x hx
theorem vi_byt {n : Int} (h : 0 ≤ n) : Fw.Byt (vi n) := vb_byt 10 n h
theorem vi_len (n : Int) : (vi n).length ≤ 10 := vb_len 10 n
theorem word_byt {n : Int} (h0 : 0 ≤ n) (h1 : n < 4294967296) : Fw.Byt (word n) := by
  intro x hx
  simp only [word, List.mem_cons, List.not_mem_nil, or_false] at hx
  omega
theorem or128N : ∀ x : Nat, x < 256 → x ||| 128 = x % 128 + 128 := by decide +kernel
theorem or128 {x : Int} : IntKind.u8.wrap (((x % 256 % 2 ^ IntKind.u8.bits).toNat ||| (128 % 2 ^ IntKind.u8.bits : Int).toNat : Nat) : Int) = x % 128 + 128 := by
  have e : (2 ^ IntKind.u8.bits : Int) = 256 := by decide
  rw [e]
  have e2 : (128 % 256 : Int).toNat = 128 := by decide
  rw [e2, or128N _ (by omega), Fw.wu8 (by omega) (by omega)]
  omega
/-- the head of what is left of a varint's bytes -/
theorem drop_getD {l : List Int} {k : Nat} {x : Int} {r : List Int} (h : l.drop k = x :: r) : l.getD k 0 = x ∧ l.drop (k + 1) = r ∧ k < l.length := by
  have hk : k < l.length := by
    rcases Nat.lt_or_ge k l.length with h1 | h1
    · exact h1
    · rw [List.drop_eq_nil_of_le h1] at h; cases h
  rw [List.drop_eq_getElem_cons hk] at h
  simp only [List.cons.injEq] at h
  refine ⟨?_, h.2, hk⟩
  rw [List.getD_eq_getElem?_getD, List.getElem?_eq_getElem hk]
  exact h.1
theorem drop_last {l : List Int} {k : Nat} {x : Int} (h : l.drop k = [x]) : l.length = k + 1 := by
  obtain ⟨_, h2, h3⟩ := drop_getD h
  have := List.length_drop (i := k + 1) (l := l)
  rw [h2] at this
  simp at this
  omega
theorem take_getD {l : List Int} {i : Nat} (h : i < l.length) : l.take (i + 1) = l.take i ++ [l.getD i 0] := by
  rw [List.take_succ_eq_append_getElem h, List.getD_eq_getElem?_getD, List.getElem?_eq_getElem h]; rfl
end Go.Proofs.Ytflmjdnhjbiobaa
