/-
  Varints: what is encoded, and that it is decoded to the same number and by no other bytes.
-/
import Derived.Test.YtflmjdnhjbiobaaPe
namespace Go.Proofs.Ytflmjdnhjbiobaa
open Go.Fw

/-- the bytes of a varint -/
def Vr : List Int → Prop
  | [] => False
  | [x] => 0 ≤ x ∧ x < 128
  | x :: y :: ys => 128 ≤ x ∧ x < 256 ∧ Vr (y :: ys) ∧ y :: ys ≠ [0]
theorem vr_ne {l : List Int} (h : Vr l) : 0 < l.length := by cases l <;> simp_all [Vr]
theorem vr_vb : ∀ (f : Nat) (n : Int), 0 ≤ n → n < 128 ^ f → 0 < f → Vr (vb f n) ∧ val (vb f n) = n
  | 0, _, _, _, h => absurd h (by omega)
  | f + 1, n, h0, h1, _ => by
    by_cases h : n < 128
    · rw [vb_small h]; refine ⟨⟨h0, h⟩, ?_⟩; simp only [val]; omega
    · have h2 := pow_step h1
      have hf : 0 < f := by
        cases f with
        | zero => simp at h2; omega
        | succ f => omega
      obtain ⟨i1, i2⟩ := vr_vb f (n / 128) (by omega) h2 hf
      rw [vb_big (by omega)]
      cases hl : vb f (n / 128) with
      | nil => rw [hl] at i1; exact absurd i1 (by simp [Vr])
      | cons y ys =>
        rw [hl] at i1 i2
        refine ⟨⟨by omega, by omega, i1, fun he => ?_⟩, ?_⟩
        · rw [he] at i2; simp [val] at i2; omega
        · rw [val, i2]; omega
theorem vb_of_vr : ∀ (l : List Int) (f : Nat), Vr l → l.length ≤ f → vb f (val l) = l ∧ 0 ≤ val l ∧ (l ≠ [0] → 1 ≤ val l)
  | [], _, h, _ => absurd h (by simp [Vr])
  | [x], f, h, hf => by
    obtain ⟨h0, h1⟩ := h
    have e : val [x] = x := by simp only [val]; omega
    obtain ⟨g, rfl⟩ : ∃ g, f = g + 1 := ⟨f - 1, by simp at hf; omega⟩
    rw [e, vb_small h1]
    exact ⟨rfl, h0, fun h => by
      rcases Int.lt_or_le 0 x with h3 | h3
      · omega
      · exact absurd (by rw [show x = 0 from by omega]) h⟩
  | x :: y :: ys, f, h, hf => by
    obtain ⟨h0, h1, h2, h3⟩ := h
    obtain ⟨g, rfl⟩ : ∃ g, f = g + 1 := ⟨f - 1, by simp at hf; omega⟩
    obtain ⟨i1, i2, i3⟩ := vb_of_vr (y :: ys) g h2 (by simp at hf ⊢; omega)
    have i3 := i3 h3
    have e : val (x :: y :: ys) = x % 128 + 128 * val (y :: ys) := rfl
    rw [e, vb_big (by omega), show (x % 128 + 128 * val (y :: ys)) / 128 = val (y :: ys) from by omega, i1, show (x % 128 + 128 * val (y :: ys)) % 128 + 128 = x from by omega]
    exact ⟨rfl, by omega, fun _ => by omega⟩
theorem vr_run : ∀ (l : List Int) (g : Nat) (r : List Int), Vr l → l.length ≤ g + 1 → run g (l ++ r) + 1 = l.length ∧ (l ++ r).getD (l.length - 1) 0 < 128 ∧ (1 < l.length → (l ++ r).getD (l.length - 1) 0 ≠ 0)
  | [], _, _, h, _ => absurd h (by simp [Vr])
  | [x], g, r, h, _ => by
    obtain ⟨h0, h1⟩ := h
    cases g with
    | zero => simp [run, h1]
    | succ g =>
      have : ¬ 128 ≤ x := by omega
      simp [run, this, h1]
  | x :: y :: ys, g, r, h, hg => by
    obtain ⟨h0, h1, h2, h3⟩ := h
    obtain ⟨g', rfl⟩ : ∃ g', g = g' + 1 := ⟨g - 1, by simp at hg; omega⟩
    obtain ⟨i1, i2, i3⟩ := vr_run (y :: ys) g' r h2 (by simp at hg ⊢; omega)
    refine ⟨?_, ?_, fun _ => ?_⟩
    · simp only [List.cons_append, run, if_pos h0, List.length_cons] at i1 ⊢; omega
    · simpa using i2
    · cases ys with
      | nil =>
        simp only [List.cons_append, List.nil_append, List.length_cons, List.length_nil]
        intro h5; simp at h5; exact h3 (by rw [h5])
      | cons z zs => simpa using i3 (by simp)
theorem run_vr : ∀ (g : Nat) (r : List Int), Byt r → run g r < g → run g r < r.length → (0 < run g r → r.getD (run g r) 0 ≠ 0) → Vr (r.take (run g r + 1))
  | 0, _, _, h, _, _ => absurd h (by omega)
  | g + 1, [], _, _, h, _ => by simp at h
  | g + 1, x :: xs, hb, h1, h2, h3 => by
    have hx := hb x List.mem_cons_self
    by_cases h : 128 ≤ x
    · simp only [run, if_pos h] at h1 h2 h3 ⊢
      simp only [List.length_cons] at h2
      have h3 := h3 (by omega)
      have ih := run_vr g xs (fun y hy => hb y (List.mem_cons_of_mem _ hy)) (by omega) (by omega) (fun _ => by simpa using h3)
      rw [List.take_succ_cons]
      cases hl : xs.take (run g xs + 1) with
      | nil => rw [hl] at ih; exact absurd ih (by simp [Vr])
      | cons y ys =>
        rw [hl] at ih
        refine ⟨h, hx.2, ih, fun he => ?_⟩
        rw [← hl] at he
        have hlen := congrArg List.length he
        simp only [List.length_take, List.length_cons, List.length_nil] at hlen
        have hr : run g xs = 0 := by omega
        rw [hr] at he h3
        cases xs with
        | nil => simp at he
        | cons z zs => simp at he h3; exact h3 he
    · simp only [run, if_neg h, List.take_succ_cons, List.take_zero]
      exact ⟨hx.1, by omega⟩
theorem vr_size : ∀ (l : List Int), Vr l → 0 ≤ val l ∧ val l < 128 ^ l.length ∧ (2 ≤ l.length → 128 ^ (l.length - 1) ≤ val l)
  | l, h => ⟨(val_bound l).1, (val_bound l).2, fun h2 => by
    have key : ∀ (l : List Int), Vr l → l ≠ [0] → (128 : Int) ^ (l.length - 1) ≤ val l := by
      intro l
      induction l with
      | nil => intro h; exact absurd h (by simp [Vr])
      | cons x xs ih =>
        intro h hne
        cases xs with
        | nil =>
          obtain ⟨h0, h1⟩ := h
          have : x ≠ 0 := fun he => hne (by rw [he])
          simp only [List.length_cons, List.length_nil, val]
          simp; omega
        | cons y ys =>
          obtain ⟨h0, h1, h2, h3⟩ := h
          have := ih h2 h3
          have e : val (x :: y :: ys) = x % 128 + 128 * val (y :: ys) := rfl
          simp only [List.length_cons, Nat.add_sub_cancel] at this ⊢
          rw [e, Int.pow_succ]; omega
    exact key l h fun he => by rw [he] at h2; simp at h2⟩
theorem vi_vr {n : Int} (h0 : 0 ≤ n) (h1 : n < 18446744073709551616) : Vr (vi n) ∧ val (vi n) = n := vr_vb 10 n h0 (by omega) (by omega)
theorem vi_of {l : List Int} (h : Vr l) (hl : l.length ≤ 10) : vi (val l) = l := (vb_of_vr l 10 h hl).1
theorem vi_inj {a b : Int} (a0 : 0 ≤ a) (a1 : a < 18446744073709551616) (b0 : 0 ≤ b) (b1 : b < 18446744073709551616) (h : vi a = vi b) : a = b := by
  rw [← (vi_vr a0 a1).2, ← (vi_vr b0 b1).2, h]
theorem vi_9 {n : Int} (h0 : 0 ≤ n) (h1 : n ≤ 4611686018427387903) : (vi n).length ≤ 9 ∧ 0 < (vi n).length := by
  have h := vi_vr h0 (by omega)
  refine ⟨?_, vr_ne h.1⟩
  rcases Nat.lt_or_ge 9 (vi n).length with h2 | h2
  · have h3 := (vr_size _ h.1).2.2 (by omega)
    have h4 : (128 : Int) ^ 9 ≤ 128 ^ ((vi n).length - 1) := pow_mono (by omega)
    rw [h.2] at h3; omega
  · exact h2
theorem vi_mono {a b : Int} (a0 : 0 ≤ a) (h : a ≤ b) (b1 : b < 18446744073709551616) : (vi a).length ≤ (vi b).length := by
  have ha := vi_vr a0 (by omega)
  have hb := vi_vr (n := b) (by omega) b1
  rcases Nat.lt_or_ge (vi b).length (vi a).length with h2 | h2
  · have h3 := (vr_size _ ha.1).2.2 (by have := vr_ne hb.1; omega)
    have h4 := (vr_size _ hb.1).2.1
    have h5 : (128 : Int) ^ (vi b).length ≤ 128 ^ ((vi a).length - 1) := pow_mono (by omega)
    rw [ha.2] at h3; rw [hb.2] at h4; omega
  · exact h2
theorem vr_prefix : ∀ (l m : List Int), Vr l → Vr m → l.length ≤ m.length → m.take l.length = l → l = m
  | [], _, h, _, _, _ => absurd h (by simp [Vr])
  | _, [], _, h, _, _ => absurd h (by simp [Vr])
  | [x], [y], _, _, _, h => by simpa using h.symm
  | [x], y :: z :: zs, hl, hm, _, h => by simp at h; have := hl.2; have := hm.1; omega
  | x :: x2 :: xs, [y], _, _, h, _ => by simp at h
  | x :: x2 :: xs, y :: y2 :: ys, hl, hm, h1, h => by
    simp only [List.length_cons, List.take_succ_cons, List.cons.injEq] at h
    have := vr_prefix (x2 :: xs) (y2 :: ys) hl.2.2.1 hm.2.2.1 (by simpa using h1) (by simp [h.2.1, h.2.2])
    rw [h.1, this]
theorem vi_prefix {a b : Int} (a0 : 0 ≤ a) (a1 : a < 18446744073709551616) (b0 : 0 ≤ b) (b1 : b < 18446744073709551616) (hl : (vi a).length ≤ (vi b).length) (h : (vi b).take (vi a).length = vi a) : a = b :=
  vi_inj a0 a1 b0 b1 (vr_prefix _ _ (vi_vr a0 a1).1 (vi_vr b0 b1).1 hl h)
/-- what is encoded is decoded -/
theorem gvar_vi {bs rest : List Int} {p : Nat} {n : Int} (h0 : 0 ≤ n) (h1 : n ≤ 4611686018427387903) (hd : bs.drop p = vi n ++ rest) : gvar bs p = (n, p + (vi n).length, 0) := by
  have hv := vi_vr h0 (by omega)
  have h9 := vi_9 h0 h1
  obtain ⟨i1, i2, i3⟩ := vr_run (vi n) 9 rest hv.1 (by omega)
  simp only [gvar, hd]
  rw [if_neg (by omega), if_neg (by rw [List.length_append]; omega), show run 9 (vi n ++ rest) = (vi n).length - 1 from by omega, if_neg (fun h => i3 (by omega) h.2), show (vi n).length - 1 + 1 = (vi n).length from by omega, List.take_left, hv.2, if_neg (by omega)]
  simp; omega
/-- what is decoded is an encoding -/
theorem gvar_once {bs : List Int} {p : Nat} (hb : Byt bs) (h : (gvar bs p).2.2 = 0) : (bs.drop p).take ((gvar bs p).2.1 - p) = vi (gvar bs p).1 ∧ (gvar bs p).2.1 = p + (vi (gvar bs p).1).length := by
  have hr := run_vr 9 (bs.drop p) (byt_drop hb p)
  have hl := run_le 9 (bs.drop p)
  generalize hk : run 9 (bs.drop p) = k at hr hl
  simp only [gvar, hk] at h ⊢
  by_cases c1 : k = 9
  · rw [if_pos c1] at h; simp at h
  rw [if_neg c1] at h ⊢
  by_cases c2 : (bs.drop p).length ≤ k
  · rw [if_pos c2] at h; simp at h
  rw [if_neg c2] at h ⊢
  by_cases c3 : 0 < k ∧ (bs.drop p).getD k 0 = 0
  · rw [if_pos c3] at h; simp at h
  rw [if_neg c3] at h ⊢
  by_cases c4 : 4611686018427387903 < val ((bs.drop p).take (k + 1))
  · rw [if_pos c4] at h; simp at h
  rw [if_neg c4]
  have hv := hr (by omega) (by omega) (fun a b => c3 ⟨a, b⟩)
  have hvi := vi_of hv (by rw [List.length_take]; omega)
  have hlen : ((bs.drop p).take (k + 1)).length = k + 1 := by rw [List.length_take]; omega
  simp only
  rw [hvi, hlen]
  exact ⟨by congr 1; omega, by omega⟩
/-- the last byte marked as if another one followed, and that one is zero -/
theorem gvar_padded {l : List Int} {x : Int} {n : Int} (h0 : 0 ≤ n) (h1 : n ≤ 4611686018427387903) (hn : (vi n).length < 9) (hl : l = (vi n).set ((vi n).length - 1) x ++ [0]) (hx : 128 ≤ x) : gvar l 0 = (0, 0, 5) := by
  have hv := vi_vr h0 (by omega)
  have hne := vr_ne hv.1
  have key : ∀ (m : List Int), Vr m → ∀ i, i + 1 < m.length → 128 ≤ m.getD i 0 := by
    intro m
    induction m with
    | nil => intro h; exact absurd h (by simp [Vr])
    | cons a as ih =>
      intro h i hi
      cases as with
      | nil => simp at hi
      | cons b cs =>
        cases i with
        | zero => simpa using h.1
        | succ i => simpa using ih h.2.2.1 i (by simpa using hi)
  have hlen : l.length = (vi n).length + 1 := by rw [hl]; simp
  refine gvar_min (p := 0) (k := (vi n).length) (by omega) hn (fun i hi => ?_) hne ?_
  · rw [hl, Nat.zero_add, List.getD_eq_getElem?_getD, List.getElem?_append_left (by simpa using hi), List.getElem?_set]
    by_cases hi2 : (vi n).length - 1 = i
    · rw [if_pos hi2, if_pos (by omega)]; simpa using hx
    · rw [if_neg hi2]
      have := key _ hv.1 i (by omega)
      rwa [List.getD_eq_getElem?_getD] at this
  · rw [hl, Nat.zero_add, List.getD_eq_getElem?_getD, List.getElem?_append_right (by simp)]; simp
end Go.Proofs.Ytflmjdnhjbiobaa
