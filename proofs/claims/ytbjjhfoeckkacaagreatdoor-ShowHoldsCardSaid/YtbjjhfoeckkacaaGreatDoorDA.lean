/-
  Several texts of this project, put together.
-/
import Derived.Test.YtbjjhfoeckkacaaGreatDoorFZ
import Derived.Test.YtbjjhfoeckkacaaGreatDoorKD
import Derived.Test.YtbjjhfoeckkacaaGreatDoorFB
import Derived.Test.YtbjjhfoeckkacaaGreatDoorSA
set_option linter.unusedVariables false
set_option maxRecDepth 100000
set_option maxHeartbeats 16000000
namespace Go.Fw
theorem Sl.rlo {α : Type} {enc : α → List Value} {w : World} {R : Nat → Prop} {sz m c : Nat} {a : Option Addr} {L : List α} (hs : ∀ x, (enc x).length = sz) (h : Sl w R sz (.slice a m c) m (rows enc L)) {l n : Nat} (h1 : l ≤ m) (hn : m - l = n) :
    Sl w R sz (.slice (if c = l then a else a.map (·.add (l * sz))) n (c - l)) n (rows enc (L.drop l)) := by
  subst hn
  have h2 := h.cut (l := l) (k := m) h1 (Nat.le_refl _)
  have h3 := h.1
  rwa [List.take_of_length_le (by rw [List.length_drop, h3, Nat.sub_mul]; exact Nat.le_refl _), rows_drop hs] at h2
theorem YC {P : Program} {fn : Func} {w : World} {n : Nat} {ρ : Env} {a b c : Tmp} {tb : TypeId} {b2 : Nat} {v1 v2 v3 : Value} (h : fn.results = #[.tmp a, .cell b tb, .tmp c]) (h1 : ev n ρ (.tmp a) = v1) (h2 : ev n ρ (.tmp b) = .pointer (some ⟨b2, 0, none⟩)) (h3 : ev n ρ (.tmp c) = v3)
    (k2 : CellIs P tb b2 v2 w) : (results fn (tab n ρ)).run P w = .ok (.tuple #[v1, v2, v3]) w := by
  have e1 := Yy h1
  have e2 := Yy h2
  have e3 := Yy h3
  unfold CellIs at k2
  simp only [results, h]
  simp [e1, e2, e3, asAddr, k2]
end Go.Fw
namespace Go.Proofs.YtbjjhfoeckkacaaGreatDoor
open Go.Fw
def Rd (w : World) (rr lo hi n rd : Nat) : Prop :=
  lo ≤ hi ∧ hi ≤ rr ∧ ∃ (a : Option Addr) (c : Nat) (xs : List Bool), Blk w rr [.slice a n c, .int .i64 (rd : Int)] ∧ Sl w (fun g => lo ≤ g ∧ g < hi) 1 (.slice a n c) n (rows encB xs)
theorem Rd.upd {w w' : World} {rr lo hi n rd : Nat} {S : Nat → Prop} (h : Rd w rr lo hi n rd) (hu : Upd S w w') (hS : ∀ g, S g → (g < lo ∨ hi ≤ g) ∧ g ≠ rr := by intro _ _; omega) : Rd w' rr lo hi n rd := by
  obtain ⟨h1, h2, a, c, xs, hB, hs⟩ := h
  exact ⟨h1, h2, a, c, xs, hB.upd hu fun h => (hS _ h).2 rfl, hs.upd hu fun g hg h => by have := (hS g h).1; omega⟩
theorem Rd.Zc {w w' : World} {rr lo hi n rd : Nat} (h : Rd w rr lo hi n rd) (hu : Upd No w w') : Rd w' rr lo hi n rd := h.upd hu fun _ x => x.elim
theorem Rd.Zh {w w' : World} {rr lo hi n rd x : Nat} (h : Rd w rr lo hi n rd) (hu : Upd (Is x) w w') (hx : (x < lo ∨ hi ≤ x) ∧ x ≠ rr := by omega) : Rd w' rr lo hi n rd := h.upd hu fun g hg => by cases hg; exact hx
theorem Rd.lt {w : World} {rr lo hi n rd : Nat} (h : Rd w rr lo hi n rd) : rr < w.heap.size := let ⟨_, _, _, _, _, hB, _⟩ := h; hB.lt
theorem Rd.le {w : World} {rr lo hi n rd : Nat} (h : Rd w rr lo hi n rd) : lo ≤ hi ∧ hi ≤ rr := ⟨h.1, h.2.1⟩
theorem Rd.of {w : World} {rr lo hi n rd c : Nat} {a : Option Addr} {xs : List Bool} {R : Nat → Prop} (hB : Blk w rr [.slice a n c, .int .i64 (rd : Int)]) (hs : Sl w R 1 (.slice a n c) n (rows encB xs)) (hR : ∀ g, R g → lo ≤ g ∧ g < hi) (h1 : lo ≤ hi) (h2 : hi ≤ rr) : Rd w rr lo hi n rd :=
  ⟨h1, h2, a, c, xs, hB, hs.weak hR⟩
theorem encB_one (x : Bool) : ∀ u ∈ encB x, u.oneCell' = true := by intro u hu; simp [encB] at hu; subst hu; rfl
theorem p2le {j k : Nat} (h : j ≤ k) : 2 ^ j ≤ 2 ^ k := Nat.pow_le_pow_right (by decide) h
theorem p2s (j : Nat) : 2 ^ (j + 1) = 2 * 2 ^ j := by rw [Nat.pow_succ]; omega
theorem half_lt {y k i : Nat} (h : y < 2 ^ (k - i)) (hi : i < k) : y / 2 < 2 ^ (k - (i + 1)) := by
  rw [show k - i = (k - (i + 1)) + 1 from by omega, p2s] at h; omega
theorem v64 {v j : Nat} (h : v < 2 ^ j) (hj : j < 64) : 2 * v + 1 < 2 ^ (j + 1) ∧ 2 ^ (j + 1) ≤ 18446744073709551616 := by
  have := p2s j
  have h2 : 2 ^ (j + 1) ≤ 2 ^ 64 := p2le (by omega)
  omega
theorem tr_app {l m : List Bool} (h : true ∈ l ∨ true ∈ m) : true ∈ l ++ m := List.mem_append.2 h
theorem tr_cut {l : List Bool} {q : Nat} (h : true ∈ l) (hl : l.length = q) (hn : ¬ l.getD (q - 1) false = true) : true ∈ l.take (q - 1) := by
  obtain ⟨i, hi, e⟩ := List.mem_iff_getElem.1 h
  have : i ≠ q - 1 := by
    rintro rfl
    rw [List.getD_eq_getElem?_getD, List.getElem?_eq_getElem (by omega)] at hn
    exact hn e
  exact List.mem_iff_getElem.2 ⟨i, by rw [List.length_take]; omega, by rw [List.getElem_take]; exact e⟩
theorem tr_pos {l : List Bool} (h : true ∈ l) : 0 < l.length := by
  cases l with
  | nil => cases h
  | cons x l => simp
def stt (x : Int) : Int := if x = -1 then 1 else x
def sm (N : List Int) : Nat → Int
  | 0 => 0
  | k + 1 => sm N k + stt (N.getD k 0)
structure MayP (lg : Int) (N : List Int) (sy lm : Int) : Prop where
  l0 : 0 ≤ lg
  l1 : lg ≤ lm
  l9 : lg ≤ 9
  n1 : 1 ≤ N.length
  ns : (N.length : Int) ≤ sy
  la : N.getD (N.length - 1) 0 ≠ 0
  rg : ∀ i, i < N.length → -1 ≤ N.getD i 0 ∧ N.getD i 0 ≤ 512
  su : sm N N.length = ((2 ^ lg.toNat : Nat) : Int)
theorem stt_pos {x : Int} (h : -1 ≤ x) : 0 ≤ stt x := by unfold stt; split <;> omega
theorem stt_le {x : Int} (h : -1 ≤ x ∧ x ≤ 512) : 0 ≤ stt x ∧ stt x ≤ 512 := by unfold stt; split <;> omega
theorem sm_mono {N : List Int} {k n : Nat} (h : ∀ i, i < n → -1 ≤ N.getD i 0) (hk : k ≤ n) : sm N k ≤ sm N n := by
  induction n with
  | zero => rw [show k = 0 from by omega]; exact Int.le_refl _
  | succ n ih =>
    rcases Nat.lt_or_ge k (n + 1) with h1 | h1
    · have h2 := ih (fun i hi => h i (by omega)) (by omega)
      have h3 := stt_pos (h n (by omega))
      show sm N k ≤ sm N n + stt (N.getD n 0)
      omega
    rw [show k = n + 1 from by omega]; exact Int.le_refl _
theorem p2_9 {lg : Int} (h0 : 0 ≤ lg) (h9 : lg ≤ 9) : 1 ≤ 2 ^ lg.toNat ∧ 2 ^ lg.toNat ≤ 512 :=
  ⟨Nat.one_le_two_pow, p2le (j := lg.toNat) (k := 9) (by omega)⟩
theorem MayP.sz {lg : Int} {N : List Int} {sy lm : Int} (h : MayP lg N sy lm) : 1 ≤ 2 ^ lg.toNat ∧ 2 ^ lg.toNat ≤ 512 := p2_9 h.l0 h.l9
theorem MayP.sm_le {lg : Int} {N : List Int} {sy lm : Int} (h : MayP lg N sy lm) {k : Nat} (hk : k ≤ N.length) : sm N k ≤ 512 := by
  have h1 := sm_mono (fun i hi => (h.rg i hi).1) hk
  have h2 := h.su
  have h3 := h.sz
  omega
theorem MayP.st1 {lg : Int} {N : List Int} {sy lm : Int} (h : MayP lg N sy lm) {i : Nat} (hi : i < N.length) : stt (N.getD i 0) ≤ ((2 ^ lg.toNat : Nat) : Int) := by
  have h1 := sm_mono (N := N) (k := i + 1) (n := N.length) (fun i hi => (h.rg i hi).1) hi
  have h2 := h.su
  have h3 := sm_mono (N := N) (k := 0) (n := i) (fun j hj => (h.rg j (by omega)).1) (Nat.zero_le _)
  have h4 : sm N (i + 1) = sm N i + stt (N.getD i 0) := rfl
  have h5 : sm N 0 = 0 := rfl
  omega
def mn (N : List Int) : Nat → Nat
  | 0 => 0
  | k + 1 => mn N k + (if N.getD k 0 = -1 then 1 else 0)
def pl (N : List Int) : Nat → Nat
  | 0 => 0
  | k + 1 => pl N k + (N.getD k 0).toNat
theorem mn_pl {N : List Int} {n : Nat} (h : ∀ i, i < n → -1 ≤ N.getD i 0) : ((mn N n + pl N n : Nat) : Int) = sm N n := by
  induction n with
  | zero => rfl
  | succ n ih =>
    have h1 := ih fun i hi => h i (by omega)
    have h2 := h n (by omega)
    show ((mn N n + (if N.getD n 0 = -1 then 1 else 0) + (pl N n + (N.getD n 0).toNat) : Nat) : Int) = sm N n + stt (N.getD n 0)
    unfold stt
    split <;> omega
theorem mn_mono {N : List Int} {k n : Nat} (h : k ≤ n) : mn N k ≤ mn N n := by
  induction n with
  | zero => rw [show k = 0 from by omega]; exact Nat.le_refl _
  | succ n ih =>
    rcases Nat.lt_or_ge k (n + 1) with h1 | h1
    · exact Nat.le_trans (ih (by omega)) (Nat.le_add_right _ _)
    rw [show k = n + 1 from by omega]; exact Nat.le_refl _
theorem pl_mono {N : List Int} {k n : Nat} (h : k ≤ n) : pl N k ≤ pl N n := by
  induction n with
  | zero => rw [show k = 0 from by omega]; exact Nat.le_refl _
  | succ n ih =>
    rcases Nat.lt_or_ge k (n + 1) with h1 | h1
    · exact Nat.le_trans (ih (by omega)) (Nat.le_add_right _ _)
    rw [show k = n + 1 from by omega]; exact Nat.le_refl _
def fre : List Int → Nat
  | [] => 0
  | x :: l => (if x < 0 then 1 else 0) + fre l
theorem fre_set {l : List Int} {i : Nat} {v : Int} (hi : i < l.length) (h1 : l.getD i 0 < 0) (hv : 0 ≤ v) : fre (l.set i v) + 1 = fre l := by
  induction l generalizing i with
  | nil => simp at hi
  | cons x l ih =>
    cases i with
    | zero => simp only [List.getD_cons_zero] at h1; rw [List.set_cons_zero, fre, fre, if_neg (by omega), if_pos h1]; omega
    | succ i => simp only [List.getD_cons_succ] at h1; rw [List.set_cons_succ, fre, fre]; have := ih (by simpa using hi) h1; omega
theorem fre_some {l : List Int} (h : 0 < fre l) : ∃ i, i < l.length ∧ l.getD i 0 < 0 := by
  induction l with
  | nil => simp [fre] at h
  | cons x l ih =>
    by_cases hx : x < 0
    · exact ⟨0, by simp, hx⟩
    rw [fre, if_neg hx] at h
    obtain ⟨i, hi, h1⟩ := ih (by omega)
    exact ⟨i + 1, by simp; omega, h1⟩
theorem fre_all {l : List Int} (h : fre l = 0) {i : Nat} (hi : i < l.length) : 0 ≤ l.getD i 0 := by
  induction l generalizing i with
  | nil => simp at hi
  | cons x l ih =>
    rw [fre] at h
    cases i with
    | zero => simp only [List.getD_cons_zero]; split at h <;> omega
    | succ i => simp only [List.getD_cons_succ]; exact ih (by omega) (by simpa using hi)
def stq (s : Nat) : Nat := if s < 16 then 1 else s / 2 + s / 8 + 3
theorem reach1 {s st inv q at_ f : Nat} (h : inv * st = 1 + q * s) (ha : at_ ≤ s) (hf : f < s) : (at_ + ((f + s - at_) * inv) * st) % s = f := by
  obtain ⟨d, hd⟩ : ∃ d, d = f + s - at_ := ⟨_, rfl⟩
  rw [← hd, Nat.mul_assoc, h, Nat.mul_add, Nat.mul_one, ← Nat.mul_assoc, ← Nat.add_assoc, show at_ + d = f + s from by omega, Nat.add_mul_mod_self_right, Nat.add_mod_right, Nat.mod_eq_of_lt hf]
theorem reach {lg : Nat} (hl : lg ≤ 9) {at_ f : Nat} (ha : at_ < 2 ^ lg) (hf : f < 2 ^ lg) : ∃ j, (at_ + j * stq (2 ^ lg)) % 2 ^ lg = f := by
  have e : ∃ inv q, inv * stq (2 ^ lg) = 1 + q * 2 ^ lg := by
    rcases (by omega : lg = 0 ∨ lg = 1 ∨ lg = 2 ∨ lg = 3 ∨ lg = 4 ∨ lg = 5 ∨ lg = 6 ∨ lg = 7 ∨ lg = 8 ∨ lg = 9) with rfl | rfl | rfl | rfl | rfl | rfl | rfl | rfl | rfl | rfl
    · exact ⟨1, 0, rfl⟩
    · exact ⟨1, 0, rfl⟩
    · exact ⟨1, 0, rfl⟩
    · exact ⟨1, 0, rfl⟩
    · exact ⟨5, 4, rfl⟩
    · exact ⟨7, 5, rfl⟩
    · exact ⟨3, 2, rfl⟩
    · exact ⟨91, 59, rfl⟩
    · exact ⟨11, 7, rfl⟩
    exact ⟨363, 229, rfl⟩
  obtain ⟨inv, q, e⟩ := e
  exact ⟨_, reach1 e (by omega) hf⟩
theorem reach_next {s st at_ j : Nat} (hj : 0 < j) : ((at_ + st) % s + (j - 1) * st) % s = (at_ + j * st) % s := by
  obtain ⟨i, rfl⟩ : ∃ i, j = i + 1 := ⟨j - 1, by omega⟩
  rw [Nat.mod_add_mod, Nat.add_assoc, Nat.add_sub_cancel, Nat.succ_mul, Nat.add_comm st]
theorem cell_in {x i lg : Nat} (h1 : 2 ^ i ≤ x) (h2 : x < 2 ^ (i + 1)) (hx : x < 2 * 2 ^ lg) : i ≤ lg ∧ 2 ^ lg ≤ x * 2 ^ (lg - i) ∧ x * 2 ^ (lg - i) + 2 ^ (lg - i) ≤ 2 * 2 ^ lg := by
  have hi : i ≤ lg := by
    rcases Nat.lt_or_ge lg i with h | h
    · have := p2le (j := lg + 1) (k := i) h
      have := p2s lg
      omega
    exact h
  have e : 2 ^ i * 2 ^ (lg - i) = 2 ^ lg := by rw [← Nat.pow_add, Nat.add_sub_cancel' hi]
  refine ⟨hi, ?_, ?_⟩
  · rw [← e]; exact Nat.mul_le_mul_right _ h1
  have := Nat.mul_le_mul_right (2 ^ (lg - i)) (show x + 1 ≤ 2 * 2 ^ i from by rw [← p2s]; omega)
  rw [Nat.add_mul, Nat.one_mul, Nat.mul_assoc, e] at this
  exact this
theorem gds {l : List Int} {i j : Nat} {v : Int} (hi : i < l.length) : (l.set i v).getD j 0 = if j = i then v else l.getD j 0 := by
  rw [List.getD_eq_getElem?_getD, List.getD_eq_getElem?_getD, List.getElem?_set]
  by_cases h : i = j
  · subst h; rw [if_pos rfl, if_pos hi, if_pos rfl]; rfl
  rw [if_neg h, if_neg (fun h2 => h h2.symm)]
theorem fre_neg {l : List Int} (h : ∀ j, j < l.length → l.getD j 0 = -1) : fre l = l.length := by
  induction l with
  | nil => rfl
  | cons x l ih =>
    have h0 := h 0 (by simp)
    rw [List.getD_cons_zero] at h0
    rw [fre, ih (fun j hj => by have := h (j + 1) (by simp; omega); rwa [List.getD_cons_succ] at this), if_pos (by omega), List.length_cons]; omega
def okS (N ys : List Int) : Prop := ∀ j, j < ys.length → 0 ≤ ys.getD j 0 → ys.getD j 0 < N.length ∧ N.getD (ys.getD j 0).toNat 0 ≠ 0
theorem okS_neg {N l : List Int} (h : ∀ j, j < l.length → l.getD j 0 = -1) : okS N l := fun j hj h0 => by rw [h j hj] at h0; omega
theorem okS_set {N ys : List Int} {i k : Nat} (h : okS N ys) (hi : i < ys.length) (hk : k < N.length) (hN : N.getD k 0 ≠ 0) : okS N (ys.set i (k : Int)) := fun j hj h0 => by
  rw [List.length_set] at hj
  rw [gds hi] at h0 ⊢
  by_cases e : j = i
  · rw [if_pos e] at h0 ⊢; exact ⟨by omega, by rwa [Int.toNat_natCast]⟩
  rw [if_neg e] at h0 ⊢; exact h j hj h0
theorem mn_s (N : List Int) (k : Nat) : mn N (k + 1) = mn N k + (if N.getD k 0 = -1 then 1 else 0) := rfl
theorem pl_s (N : List Int) (k : Nat) : pl N (k + 1) = pl N k + (N.getD k 0).toNat := rfl
theorem MayP.mp {lg : Int} {N : List Int} {sy lm : Int} (h : MayP lg N sy lm) : mn N N.length + pl N N.length = 2 ^ lg.toNat := by
  have h1 := mn_pl (N := N) (n := N.length) fun i hi => (h.rg i hi).1
  have h2 := h.su
  omega
theorem stq_p {lg : Int} (h0 : 0 ≤ lg) (h9 : lg ≤ 9) : stq (2 ^ lg.toNat) ≤ 600 := by
  have := p2_9 h0 h9
  unfold stq; split <;> omega
theorem stt_1 {x : Int} (h : -1 ≤ x) (h0 : x ≠ 0) : 1 ≤ stt x := by unfold stt; split <;> omega
def encQ (x : Int × Int × Int) : List Value := [.int .i64 x.1, .int .i64 x.2.1, .int .i64 x.2.2]
theorem ZP (x : Int × Int × Int) : (encQ x).length = 3 := rfl
theorem encQ_one (x : Int × Int × Int) : ∀ u ∈ encQ x, u.oneCell' = true := by intro u hu; simp [encQ] at hu; rcases hu with rfl | rfl | rfl <;> rfl
def okc (lg : Nat) (N : List Int) (c : Int × Int × Int) : Prop := (0 ≤ c.1 ∧ c.1 < N.length) ∧ (0 ≤ c.2.1 ∧ c.2.1 ≤ lg) ∧ 0 ≤ c.2.2 ∧ c.2.2 + ((2 ^ c.2.1.toNat : Nat) : Int) ≤ ((2 ^ lg : Nat) : Int)
def okC (lg : Nat) (N : List Int) (cs : List (Int × Int × Int)) : Prop := ∀ j, j < cs.length → okc lg N (cs.getD j (0, 0, 0))
theorem okC_snoc {lg : Nat} {N : List Int} {cs : List (Int × Int × Int)} {c : Int × Int × Int} (h : okC lg N cs) (hc : okc lg N c) : okC lg N (cs ++ [c]) := fun j hj => by
  rw [List.length_append, List.length_singleton] at hj
  rw [List.getD_eq_getElem?_getD]
  rcases Nat.lt_or_ge j cs.length with h1 | h1
  · rw [List.getElem?_append_left h1, ← List.getD_eq_getElem?_getD]; exact h j h1
  rw [show j = cs.length from by omega, List.getElem?_concat_length]; exact hc
def sml : List Int → Int
  | [] => 0
  | x :: l => stt x + sml l
theorem sml_app (l m : List Int) : sml (l ++ m) = sml l + sml m := by
  induction l with
  | nil => show sml m = 0 + sml m; omega
  | cons x l ih => show stt x + sml (l ++ m) = stt x + sml l + sml m; rw [ih]; omega
theorem sm_app {l : List Int} {x : Int} {k : Nat} (h : k ≤ l.length) : sm (l ++ [x]) k = sm l k := by
  induction k with
  | zero => rfl
  | succ k ih =>
    show sm (l ++ [x]) k + stt ((l ++ [x]).getD k 0) = sm l k + stt (l.getD k 0)
    rw [ih (by omega), List.getD_eq_getElem?_getD, List.getD_eq_getElem?_getD, List.getElem?_append_left (by omega)]
theorem sm_all (l : List Int) : sm l l.length = sml l := by
  have h : ∀ r : List Int, sm r.reverse r.length = sml r.reverse := by
    intro r
    induction r with
    | nil => rfl
    | cons x r ih =>
      rw [List.reverse_cons, sml_app, List.length_cons]
      show sm (r.reverse ++ [x]) r.length + stt ((r.reverse ++ [x]).getD r.length 0) = _
      rw [sm_app (by rw [List.length_reverse]; exact Nat.le_refl _), ih, List.getD_eq_getElem?_getD]
      conv => lhs; rw [show r.length = r.reverse.length from by rw [List.length_reverse], List.getElem?_concat_length]
      show sml r.reverse + stt x = sml r.reverse + (stt x + 0)
      omega
  have := h l.reverse
  rwa [List.reverse_reverse, List.length_reverse] at this
theorem sml_zeros (k : Nat) : sml (List.replicate k 0) = 0 := by
  induction k with
  | zero => rfl
  | succ k ih => rw [List.replicate_succ]; show stt 0 + sml (List.replicate k 0) = 0; rw [ih]; rfl
structure NoP (N : List Int) (L : Nat) (sy : Int) : Prop where
  n1 : 1 ≤ N.length
  ns : (N.length : Int) ≤ sy
  la : N.getD (N.length - 1) 0 ≠ 0
  rg : ∀ x ∈ N, -1 ≤ x ∧ x ≤ 512
  su : sml N = (L : Int)
theorem last_app (l : List Int) (x : Int) : (l ++ [x]).getD ((l ++ [x]).length - 1) 0 = x := by
  rw [List.length_append, List.length_singleton, Nat.add_sub_cancel, List.getD_eq_getElem?_getD, List.getElem?_concat_length]; rfl
theorem rg_app {l m : List Int} (h : ∀ x ∈ l, -1 ≤ x ∧ x ≤ 512) (h2 : ∀ x ∈ m, -1 ≤ x ∧ x ≤ 512) : ∀ x ∈ l ++ m, -1 ≤ x ∧ x ≤ 512 := fun x hx => (List.mem_append.1 hx).elim (h x) (h2 x)
theorem rg_one {x : Int} (h : -1 ≤ x ∧ x ≤ 512) : ∀ y ∈ [x], -1 ≤ y ∧ y ≤ 512 := fun y hy => by rw [List.mem_singleton.1 hy]; exact h
theorem rg_zeros (k : Nat) : ∀ y ∈ List.replicate k (0 : Int), -1 ≤ y ∧ y ≤ 512 := fun y hy => by rw [List.eq_of_mem_replicate hy]; omega
theorem NoP.may {N : List Int} {lg sy lm : Int} (h : NoP N (2 ^ lg.toNat) (min sy 256)) (h0 : 0 ≤ lg) (h9 : lg ≤ 9) (hl : lg ≤ lm) : MayP lg N sy lm := by
  have := h.ns
  refine ⟨h0, hl, h9, h.n1, by omega, h.la, fun i hi => ?_, by rw [sm_all]; exact h.su⟩
  rw [List.getD_eq_getElem?_getD, List.getElem?_eq_getElem hi]
  exact h.rg _ (List.getElem_mem hi)
def kb (o : Bool) (c : Nat) : Nat := if o = true then c else if c < 16 then 0 else 3 + (c - 16) / 2
theorem kb_le {o : Bool} {c : Nat} (h : c < 44) (ho : o = true → c ≤ 27) : kb o c ≤ 27 := by
  unfold kb
  split
  · exact ho (by assumption)
  split <;> omega
def sy3 (p : Nat) : Int := if p = 1 then 28 else 44
def lm3 (p : Nat) : Int := if p = 1 then 8 else 9
theorem one_may {s : Nat} {sy lm : Int} (hs : (s : Int) < sy) (hy : sy ≤ 256) (hl : 0 ≤ lm) : MayP 0 (List.replicate s 0 ++ [1]) sy lm := by
  refine NoP.may ⟨by simp, by rw [List.length_append, List.length_replicate, List.length_singleton]; omega, by rw [last_app]; decide, rg_app (rg_zeros s) (rg_one ⟨by decide, by decide⟩), ?_⟩ (by decide) (by decide) hl
  rw [sml_app, sml_zeros]; rfl
theorem MayP.any {lg : Int} {N : List Int} {sy lm : Int} (h : MayP lg N sy lm) (hs : sy ≤ 256) : MayP lg N 256 9 := ⟨h.l0, h.l9, h.l9, h.n1, by have := h.ns; omega, h.la, h.rg, h.su⟩
def okw (c : Int × Int × Int) : Prop := (0 ≤ c.1 ∧ c.1 ≤ 10000000000) ∧ (0 ≤ c.2.1 ∧ c.2.1 ≤ 10000000003) ∧ 1 ≤ c.2.2 ∧ c.2.2 ≤ 10000000000
def okW (cs : List (Int × Int × Int)) : Prop := ∀ c ∈ cs, okw c
theorem okW_snoc {cs : List (Int × Int × Int)} {c : Int × Int × Int} (h : okW cs) (hc : okw c) : okW (cs ++ [c]) := fun x hx => (List.mem_append.1 hx).elim (h x) fun h2 => by rw [List.mem_singleton.1 h2]; exact hc
theorem okW_nil : okW [] := fun x hx => by cases hx
structure RtP (l : List Int) : Prop where
  ln : l.length ≤ 256
  rg : ∀ i, i < l.length → 0 ≤ l.getD i 0 ∧ l.getD i 0 ≤ 11
  ex : ∃ i, i < l.length ∧ 0 < l.getD i 0
def kv (x : Int) : Int := 2048 / 2 ^ (min x.toNat IntKind.i64.bits)
theorem kv_eq {x : Int} : (2048 : Int) / 2 ^ (min x.toNat IntKind.i64.bits) = kv x := rfl
theorem kv_bd (x : Int) : 0 ≤ kv x ∧ kv x ≤ 2048 := ⟨Int.ediv_nonneg (by decide) (Int.le_of_lt (Int.pow_pos (by decide))), Int.ediv_le_self _ (by decide)⟩
def OrP (l os : List Int) : Prop := ∀ x ∈ os, 0 ≤ x ∧ x < l.length ∧ 1 ≤ l.getD x.toNat 0 ∧ l.getD x.toNat 0 ≤ 11
theorem OrP.snoc {l os : List Int} {k : Nat} (h : OrP l os) (hk : k < l.length) (h1 : 1 ≤ l.getD k 0) (h2 : l.getD k 0 ≤ 11) : OrP l (os ++ [(k : Int)]) := fun x hx => (List.mem_append.1 hx).elim (h x) fun h3 => by rw [List.mem_singleton.1 h3, Int.toNat_natCast]; omega
def encD (x : Int × Int) : List Value := [.int .i64 x.1, .int .u32 x.2]
theorem encD_len (x : Int × Int) : (encD x).length = 2 := rfl
theorem encD_one (x : Int × Int) : ∀ u ∈ encD x, u.oneCell' = true := by intro u hu; simp [encD] at hu; rcases hu with rfl | rfl <;> rfl
def okD (cs : List (Int × Int)) : Prop := ∀ j, j < cs.length → (cs.getD j (0, 0)).1 ≤ 11 ∧ 0 ≤ (cs.getD j (0, 0)).2 ∧ (cs.getD j (0, 0)).2 < 4294967296
theorem okD_rep (n : Nat) : okD (List.replicate n (0, 0)) := fun j hj => by
  rw [List.getD_eq_getElem?_getD, List.getElem?_replicate]
  rw [List.length_replicate] at hj
  rw [if_pos hj]; exact ⟨by decide, by decide, by decide⟩
theorem okD_set {cs : List (Int × Int)} {i : Nat} {c : Int × Int} (h : okD cs) (hi : i < cs.length) (h1 : c.1 ≤ 11) (h2 : 0 ≤ c.2 ∧ c.2 < 4294967296) : okD (cs.set i c) := fun j hj => by
  rw [List.length_set] at hj
  rw [List.getD_eq_getElem?_getD, List.getElem?_set]
  by_cases e : i = j
  · subst e; rw [if_pos rfl, if_pos hi]; exact ⟨h1, h2⟩
  rw [if_neg e, ← List.getD_eq_getElem?_getD]; exact h j hj
theorem OrP.gd {l os : List Int} (h : OrP l os) {i : Nat} (hi : i < os.length) : 0 ≤ os.getD i 0 ∧ os.getD i 0 < l.length ∧ 1 ≤ l.getD (os.getD i 0).toNat 0 ∧ l.getD (os.getD i 0).toNat 0 ≤ 11 := by
  rw [List.getD_eq_getElem?_getD, List.getElem?_eq_getElem hi]; exact h _ (List.getElem_mem hi)
def xr (a b : Int) : Int := IntKind.u64.wrap (((a % 2 ^ IntKind.u64.bits).toNat ^^^ (b % 2 ^ IntKind.u64.bits).toNat : Nat) : Int)
theorem xr_eq {a b : Int} : IntKind.u64.wrap (((a % 2 ^ IntKind.u64.bits).toNat ^^^ (b % 2 ^ IntKind.u64.bits).toNat : Nat) : Int) = xr a b := rfl
theorem xr_bd (a b : Int) : 0 ≤ xr a b ∧ xr a b < 18446744073709551616 := by unfold xr; rw [IntKind.wrap_u64]; omega
abbrev AV := Option Addr × Nat × Nat
def encA (x : AV) : List Value := [.slice x.1 x.2.1 x.2.2]
theorem Yt (x : AV) : (encA x).length = 1 := rfl
theorem encA_one (x : AV) : ∀ u ∈ encA x, u.oneCell' = true := by intro u hu; simp [encA] at hu; subst hu; rfl
def Pc (w : World) (B hi go : Nat) (x : AV) : Prop := ∃ b : List Int, Sl w (fun g => g < hi ∧ g ≠ go) 1 (.slice x.1 x.2.1 x.2.2) x.2.1 (ints .u8 b) ∧ Byt b ∧ x.2.1 ≤ B
def Pcs (w : World) (B hi go : Nat) (l : List AV) : Prop := ∀ x ∈ l, Pc w B hi go x
theorem Pc.of {w : World} {B hi go n c : Nat} {a : Option Addr} {b : List Int} {R : Nat → Prop} (h : Sl w R 1 (.slice a n c) n (ints .u8 b)) (hb : Byt b) (hn : n ≤ B) (hR : ∀ g, R g → g < hi ∧ g ≠ go) : Pc w B hi go (a, n, c) := ⟨b, h.weak hR, hb, hn⟩
theorem Pcs.upd {w w' : World} {B hi go : Nat} {l : List AV} {S : Nat → Prop} (h : Pcs w B hi go l) (hu : Upd S w w') (hS : ∀ g, S g → hi ≤ g ∨ g = go := by intro _ _; omega) : Pcs w' B hi go l :=
  fun x hx => let ⟨b, h1, h2, h3⟩ := h x hx; ⟨b, h1.upd hu fun g hg hs => (by have := hS g hs; omega), h2, h3⟩
theorem Pcs.Zc {w w' : World} {B hi go : Nat} {l : List AV} (h : Pcs w B hi go l) (hu : Upd No w w') : Pcs w' B hi go l := h.upd hu fun _ x => x.elim
theorem Pcs.Zh {w w' : World} {B hi go x : Nat} {l : List AV} (h : Pcs w B hi go l) (hu : Upd (Is x) w w') (hx : hi ≤ x ∨ x = go := by omega) : Pcs w' B hi go l := h.upd hu fun g hg => by cases hg; exact hx
theorem Pcs.nil (w : World) (B hi go : Nat) : Pcs w B hi go [] := fun x hx => by cases hx
theorem Pcs.wide {w : World} {B hi go hi' go' : Nat} {l : List AV} (h : Pcs w B hi go l) (h1 : hi ≤ hi') (h2 : go' = go ∨ hi ≤ go') : Pcs w B hi' go' l :=
  fun x hx => let ⟨b, h3, h4⟩ := h x hx; ⟨b, h3.weak (fun g hg => by omega), h4⟩
theorem Pcs.snoc {w : World} {B hi go : Nat} {l : List AV} {x : AV} (h : Pcs w B hi go l) (hx : Pc w B hi go x) : Pcs w B hi go (l ++ [x]) := fun y hy => by
  rcases List.mem_append.1 hy with h1 | h1
  · exact h y h1
  rw [List.mem_singleton.1 h1]; exact hx
theorem Pcs.one {w : World} {B hi go : Nat} {x : AV} (hx : Pc w B hi go x) : Pcs w B hi go [x] := fun y hy => by rw [List.mem_singleton.1 hy]; exact hx
theorem Pcs.get {w : World} {B hi go : Nat} {l : List AV} (h : Pcs w B hi go l) {i : Nat} (hi2 : i < l.length) : Pc w B hi go (l.getD i (none, 0, 0)) := by
  rw [List.getD_eq_getElem?_getD, List.getElem?_eq_getElem hi2]; exact h _ (List.getElem_mem hi2)
def ls (q : List (Int × Int × Int)) : Nat → Int
  | 0 => 0
  | k + 1 => ls q k + (q.getD k (0, 0, 0)).1
def okE (L : Int) (q : List (Int × Int × Int)) : Prop := ∀ i, i < q.length → 0 ≤ (q.getD i (0, 0, 0)).1 ∧ ls q (i + 1) ≤ L ∧ 3 ≤ (q.getD i (0, 0, 0)).2.1 ∧ (q.getD i (0, 0, 0)).2.1 ≤ 131072
def okU (q : List (Int × Int × Int)) : Prop := ∀ x ∈ q, (0 ≤ x.1 ∧ x.1 ≤ 10000000000) ∧ (0 ≤ x.2.1 ∧ x.2.1 ≤ 20000000000) ∧ 1 ≤ x.2.2 ∧ x.2.2 ≤ 134217728
theorem okU_nil : okU [] := fun x hx => by cases hx
theorem okU_snoc {q : List (Int × Int × Int)} {x : Int × Int × Int} (h : okU q) (hx : (0 ≤ x.1 ∧ x.1 ≤ 10000000000) ∧ (0 ≤ x.2.1 ∧ x.2.1 ≤ 20000000000) ∧ 1 ≤ x.2.2 ∧ x.2.2 ≤ 134217728) : okU (q ++ [x]) := fun y hy => by
  rcases List.mem_append.1 hy with h1 | h1
  · exact h y h1
  rw [List.mem_singleton.1 h1]; exact hx
theorem okU.gd {q : List (Int × Int × Int)} (h : okU q) (i : Nat) : (0 ≤ (q.getD i (0, 0, 0)).1 ∧ (q.getD i (0, 0, 0)).1 ≤ 10000000000) ∧ (0 ≤ (q.getD i (0, 0, 0)).2.1 ∧ (q.getD i (0, 0, 0)).2.1 ≤ 20000000000) ∧ 0 ≤ (q.getD i (0, 0, 0)).2.2 ∧ (q.getD i (0, 0, 0)).2.2 ≤ 134217728 := by
  rw [List.getD_eq_getElem?_getD]
  cases e : q[i]? with
  | none => exact ⟨by decide, by decide, by decide⟩
  | some x => have := h x (List.mem_of_getElem? e); exact ⟨this.1, this.2.1, by have := this.2.2; simp; omega⟩
def R30 (l : List Int) : Prop := ∀ x ∈ l, -30 ≤ x ∧ x ≤ 30
theorem R30.gd {l : List Int} (h : R30 l) (i : Nat) : -30 ≤ l.getD i 0 ∧ l.getD i 0 ≤ 30 := by
  rw [List.getD_eq_getElem?_getD]
  cases e : l[i]? with
  | none => exact ⟨by decide, by decide⟩
  | some x => exact h x (List.mem_of_getElem? e)
theorem R30.set {l : List Int} (h : R30 l) {i : Nat} {x : Int} (hx : -30 ≤ x ∧ x ≤ 30) : R30 (l.set i x) := fun y hy => (List.mem_or_eq_of_mem_set hy).elim (h y) fun e => by rw [e]; exact hx
theorem R30.of {l : List Int} {x : Int} (h : ∀ i, i < l.length → 0 ≤ l.getD i 0 ∧ l.getD i 0 ≤ 11) (hx : -30 ≤ x ∧ x ≤ 30) : R30 (l ++ [x]) := fun y hy => by
  rcases List.mem_append.1 hy with h1 | h1
  · obtain ⟨i, hi, e⟩ := List.mem_iff_getElem.1 h1
    have h2 := h i hi
    rw [List.getD_eq_getElem?_getD, List.getElem?_eq_getElem hi, Option.getD_some, e] at h2
    exact ⟨by omega, by omega⟩
  rw [List.mem_singleton.1 h1]; exact hx
theorem shl1 {d : Int} {k : Nat} (e : d = (k : Int)) (h : k ≤ 40) : IntKind.i64.wrap (1 * 2 ^ (min d.toNat IntKind.i64.bits)) = ((2 ^ k : Nat) : Int) := by
  subst e
  have e : min ((k : Int).toNat) IntKind.i64.bits = k := by show min _ 64 = _; omega
  have h2 : 2 ^ k ≤ 2 ^ 40 := p2le h
  have h3 : ((2 : Int) ^ k) = ((2 ^ k : Nat) : Int) := by simp
  have h4 : (2 : Nat) ^ 40 = 1099511627776 := by decide
  rw [e, Int.one_mul, h3]; exact ZY (by have : (0 : Int) ≤ ((2 ^ k : Nat) : Int) := Int.natCast_nonneg _; omega) (by have : ((2 ^ k : Nat) : Int) ≤ ((2 ^ 40 : Nat) : Int) := Int.ofNat_le.2 h2; omega)
theorem gnum_b {bs : List Int} {p : Nat} {most : Int} (hp : p ≤ bs.length) (hm : 0 ≤ most) : 0 ≤ (gnum bs p most).1 ∧ (gnum bs p most).1 ≤ most ∧ p ≤ (gnum bs p most).2.1 ∧ (gnum bs p most).2.1 ≤ bs.length := by
  have h := Yw bs p hp
  by_cases h0 : (ZN bs p).2.2 = 0
  · by_cases h1 : max most 0 < (ZN bs p).1
    · rw [gnum_lim h0 h1]; exact ⟨Int.le_refl _, hm, Nat.le_refl _, hp⟩
    rw [gnum_ok h0 h1]; exact ⟨by omega, by omega, by omega, by omega⟩
  rw [gnum_err h0]; exact ⟨Int.le_refl _, hm, Nat.le_refl _, hp⟩
theorem gbytes_b {bs : List Int} {p : Nat} {k : Int} (hp : p ≤ bs.length) : p ≤ (ZW bs p k).2.1 ∧ (ZW bs p k).2.1 ≤ bs.length ∧ ((ZW bs p k).2.2 = 0 → (((ZW bs p k).1.length : Nat) : Int) = k) := by
  rcases Int.lt_or_le k 0 with h | h
  · rw [gbytes_neg h]; exact ⟨Nat.le_refl _, hp, fun h => by cases h⟩
  rcases Int.lt_or_le (bs.length - p : Int) k with h2 | h2
  · rw [YP h h2]; exact ⟨Nat.le_refl _, hp, fun h => by cases h⟩
  rw [YR h h2]; refine ⟨Nat.le_add_right _ _, (by show p + k.toNat ≤ bs.length; omega), fun _ => ?_⟩
  show ((((bs.drop p).take k.toNat).length : Nat) : Int) = k
  rw [List.length_take, List.length_drop]; omega
def Pd (w : World) (B hi go lo mid : Nat) (x : AV) : Prop := ∃ b : List Int, Sl w (fun g => g < hi ∧ g ≠ go ∧ (g < lo ∨ mid ≤ g)) 1 (.slice x.1 x.2.1 x.2.2) x.2.1 (ints .u8 b) ∧ Byt b ∧ x.2.1 ≤ B
def Pcy (w : World) (B hi go lo mid : Nat) (l : List AV) : Prop := ∀ x ∈ l, Pd w B hi go lo mid x
theorem Pd.of {w : World} {B hi go lo mid n c : Nat} {a : Option Addr} {b : List Int} {R : Nat → Prop} (h : Sl w R 1 (.slice a n c) n (ints .u8 b)) (hb : Byt b) (hn : n ≤ B) (hR : ∀ g, R g → g < hi ∧ g ≠ go ∧ (g < lo ∨ mid ≤ g)) : Pd w B hi go lo mid (a, n, c) := ⟨b, h.weak hR, hb, hn⟩
theorem Pcy.upd {w w' : World} {B hi go lo mid : Nat} {l : List AV} {S : Nat → Prop} (h : Pcy w B hi go lo mid l) (hu : Upd S w w') (hS : ∀ g, S g → hi ≤ g ∨ g = go ∨ (lo ≤ g ∧ g < mid) := by intro _ _; omega) : Pcy w' B hi go lo mid l :=
  fun x hx => let ⟨b, h1, h2, h3⟩ := h x hx; ⟨b, h1.upd hu fun g hg hs => (by have := hS g hs; omega), h2, h3⟩
theorem Pcy.Zc {w w' : World} {B hi go lo mid : Nat} {l : List AV} (h : Pcy w B hi go lo mid l) (hu : Upd No w w') : Pcy w' B hi go lo mid l := h.upd hu fun _ x => x.elim
theorem Pcy.Zh {w w' : World} {B hi go lo mid x : Nat} {l : List AV} (h : Pcy w B hi go lo mid l) (hu : Upd (Is x) w w') (hx : hi ≤ x ∨ x = go ∨ (lo ≤ x ∧ x < mid) := by omega) : Pcy w' B hi go lo mid l := h.upd hu fun g hg => by cases hg; exact hx
theorem Pcy.nil (w : World) (B hi go lo mid : Nat) : Pcy w B hi go lo mid [] := fun x hx => by cases hx
theorem Pcy.wide {w : World} {B hi go lo mid hi' go' : Nat} {l : List AV} (h : Pcy w B hi go lo mid l) (h1 : hi ≤ hi') (h2 : go' = go ∨ hi ≤ go') : Pcy w B hi' go' lo mid l :=
  fun x hx => let ⟨b, h3, h4⟩ := h x hx; ⟨b, h3.weak (fun g hg => by omega), h4⟩
theorem Pcy.snoc {w : World} {B hi go lo mid : Nat} {l : List AV} {x : AV} (h : Pcy w B hi go lo mid l) (hx : Pd w B hi go lo mid x) : Pcy w B hi go lo mid (l ++ [x]) := fun y hy => by
  rcases List.mem_append.1 hy with h1 | h1
  · exact h y h1
  rw [List.mem_singleton.1 h1]; exact hx
theorem Pcy.to {w : World} {B hi go lo mid hi' go' : Nat} {l : List AV} (h : Pcy w B hi go lo mid l) (h1 : hi ≤ hi') (h2 : hi ≤ go') : Pcs w B hi' go' l := fun x hx => let ⟨b, h3, h4⟩ := h x hx; ⟨b, h3.weak (fun g hg => by omega), h4⟩
structure CV where
  tr : AV
  l0 : Int
  t0 : AV
  l1 : Int
  t1 : AV
  l2 : Int
  t2 : AV
  r0 : Int
  r1 : Int
  r2 : Int
abbrev cxl (x : CV) : List Value := [.slice x.tr.1 x.tr.2.1 x.tr.2.2, .int .i64 x.l0, .slice x.t0.1 x.t0.2.1 x.t0.2.2, .int .i64 x.l1, .slice x.t1.1 x.t1.2.1 x.t1.2.2, .int .i64 x.l2, .slice x.t2.1 x.t2.2.1 x.t2.2.2, .int .i64 x.r0, .int .i64 x.r1, .int .i64 x.r2]
def IS (w : World) (R : Nat → Prop) (x : AV) : Prop := ∃ l : List Int, Sl w R 1 (.slice x.1 x.2.1 x.2.2) x.2.1 (ints .i64 l) ∧ x.2.1 ≤ 1000000
theorem IS.of {w : World} {R : Nat → Prop} {a : Option Addr} {n c : Nat} {l : List Int} (h : Sl w R 1 (.slice a n c) n (ints .i64 l)) (hn : n ≤ 1000000) : IS w R (a, n, c) := ⟨l, h, hn⟩
theorem IS.upd {w w' : World} {R S : Nat → Prop} {x : AV} (h : IS w R x) (hu : Upd S w w') (hS : ∀ g, R g → ¬ S g := by intro _ _; omega) : IS w' R x := let ⟨l, h1, h2⟩ := h; ⟨l, h1.upd hu hS, h2⟩
theorem IS.weak {w : World} {R R' : Nat → Prop} {x : AV} (h : IS w R x) (hR : ∀ g, R g → R' g := by intro _ _; omega) : IS w R' x := let ⟨l, h1, h2⟩ := h; ⟨l, h1.weak hR, h2⟩
theorem IS.tight {w : World} {R : Nat → Prop} {x : AV} (h : IS w R x) : IS w (fun g => R g ∧ g < w.heap.size) x := let ⟨l, h1, h2⟩ := h; ⟨l, h1.tight, h2⟩
def Cx (w : World) (R : Nat → Prop) (x : CV) : Prop := IS w R x.tr ∧ IS w R x.t0 ∧ IS w R x.t1 ∧ IS w R x.t2
theorem Cx.upd {w w' : World} {R S : Nat → Prop} {x : CV} (h : Cx w R x) (hu : Upd S w w') (hS : ∀ g, R g → ¬ S g := by intro _ _; omega) : Cx w' R x := ⟨h.1.upd hu hS, h.2.1.upd hu hS, h.2.2.1.upd hu hS, h.2.2.2.upd hu hS⟩
theorem Cx.Zc {w w' : World} {R : Nat → Prop} {x : CV} (h : Cx w R x) (hu : Upd No w w') : Cx w' R x := h.upd hu fun _ _ h => h
theorem Cx.Zh {w w' : World} {R : Nat → Prop} {x : CV} {b : Nat} (h : Cx w R x) (hu : Upd (Is b) w w') (hb : ¬ R b := by omega) : Cx w' R x := h.upd hu fun g hg hs => by cases hs; exact hb hg
theorem Cx.weak {w : World} {R R' : Nat → Prop} {x : CV} (h : Cx w R x) (hR : ∀ g, R g → R' g := by intro _ _; omega) : Cx w R' x := ⟨h.1.weak hR, h.2.1.weak hR, h.2.2.1.weak hR, h.2.2.2.weak hR⟩
theorem Cx.tight {w : World} {R : Nat → Prop} {x : CV} (h : Cx w R x) : Cx w (fun g => R g ∧ g < w.heap.size) x := ⟨h.1.tight, h.2.1.tight, h.2.2.1.tight, h.2.2.2.tight⟩
def cz (r0 r1 r2 : Int) : CV := ⟨(none, 0, 0), 0, (none, 0, 0), 0, (none, 0, 0), 0, (none, 0, 0), r0, r1, r2⟩
theorem IS.nil (w : World) (R : Nat → Prop) : IS w R (none, 0, 0) := ⟨[], Sl.nil _ _ _, Nat.zero_le _⟩
theorem Cx.nil (w : World) (R : Nat → Prop) (r0 r1 r2 : Int) : Cx w R (cz r0 r1 r2) := ⟨IS.nil _ _, IS.nil _ _, IS.nil _ _, IS.nil _ _⟩
def okR (x : CV) : Prop := (1 ≤ x.r0 ∧ x.r0 ≤ 134217728) ∧ (1 ≤ x.r1 ∧ x.r1 ≤ 134217728) ∧ 1 ≤ x.r2 ∧ x.r2 ≤ 134217728
theorem okW.gd {q : List (Int × Int × Int)} (h : okW q) {i : Nat} (hi : i < q.length) : okw (q.getD i (0, 0, 0)) := by
  rw [List.getD_eq_getElem?_getD, List.getElem?_eq_getElem hi]; exact h _ (List.getElem_mem hi)
end Go.Proofs.YtbjjhfoeckkacaaGreatDoor
namespace Go.Fw
theorem Own.flag {w : World} {R : Nat → Prop} {e : TypeId} {sz n c : Nat} {a : Option Addr} {cs : List Value} (h : Own w R e sz (.slice a n c) n cs) : ∃ g f : Nat, (f = 0 ∨ (f = 1 ∧ R g ∧ g < w.heap.size)) ∧ Own w (fun x => x = g ∧ 0 < f) e sz (.slice a n c) n cs := by
  have ht := h.tight
  obtain ⟨⟨h1, h2⟩, h3⟩ := h
  rcases h2 with ⟨h4, h5⟩ | ⟨g, cap, cur, h5, r⟩
  · refine ⟨0, 0, .inl rfl, ⟨h1, .inl ⟨h4, h5⟩⟩, fun k hk => ?_⟩
    rw [h4] at hk; simp [Value.ownBlock] at hk
  have h6 := h5
  simp only [Value.slice.injEq] at h6
  obtain ⟨rfl, _, rfl⟩ := h6
  exact ⟨g, 1, .inr ⟨rfl, h3 g rfl, (ht.2 g rfl).2⟩, ⟨h1, .inr ⟨g, _, cur, rfl, r⟩⟩, fun k hk => by simp [Value.ownBlock] at hk; exact ⟨hk.symm, by decide⟩⟩
end Go.Fw
namespace Go.Proofs.YtbjjhfoeckkacaaGreatDoor
open Go.Fw
theorem gb_snd_last {b : List Int} {q h0 : Nat} (h : (gb b h0).2 = (gb b q).2) (he : berr b q = 0) (hl : bla b q = true) : (gb b h0).2 = (bnx b q, 0) := by rw [h, gb_last he hl]
theorem gb_snd_more {b : List Int} {q h0 : Nat} (h : (gb b h0).2 = (gb b q).2) (he : berr b q = 0) (hl : ¬ bla b q = true) : (gb b h0).2 = (gb b (bnx b q)).2 := by rw [h, gb_more he hl]
theorem ga_snd {b : List Int} {q q' : Nat} (h : (ga b 0).2 = (ga b q).2) (hq : q < b.length) (he : (ZK b q).2.2 = 0) (hn : q' = (ZK b q).2.1) : (ga b 0).2 = (ga b q').2 := by rw [h, ga_more hq he, hn]
theorem ga_skip {b : List Int} {q : Nat} (h : (ga b 0).2 = (ga b q).2) (hq : q < b.length) (h2 : (hmk b q).2 = 0) (h1 : ¬ (hmk b q).1 = 1) (h3 : (Yc b q).2.2 = 0) : (ga b 0).2 = (ga b (Yc b q).2.1).2 := by
  have hG := gp_skip h2 h1 h3
  exact ga_snd h hq (by rw [hG]) (by rw [hG])
theorem gp_nosum {b : List Int} {p q : Nat} (hm : Hm b p) (hg : (ZA b p).2.2 = 0) (h : (gb b (ZA b p).2.1).2 = (q, 0)) (hs : ¬ (ZA b p).1.2.2.2 = true) : (ZK b p).2.2 = 0 ∧ q = (ZK b p).2.1 := by
  have hG := gp_frame hm.1 hm.2 hg (by rw [h]) hs
  rw [hG]; exact ⟨rfl, by rw [h]⟩
theorem gp_wsum {b : List Int} {p q : Nat} (hm : Hm b p) (hg : (ZA b p).2.2 = 0) (h : (gb b (ZA b p).2.1).2 = (q, 0)) (hs : (ZA b p).1.2.2.2 = true) (hw : (ZE b q).2.2 = 0) : (ZK b p).2.2 = 0 ∧ (ZE b q).2.1 = (ZK b p).2.1 := by
  have hG := gp_sum hm.1 hm.2 hg (by rw [h]) hs (by rw [h]; exact hw)
  rw [hG]; exact ⟨rfl, by rw [h]⟩
end Go.Proofs.YtbjjhfoeckkacaaGreatDoor
namespace Go.Fw
section
variable {P : Program} {ro : Option Nat} {w : World} {d : Option Tmp} {t : TypeId} {p : String} {e : Array Edge} {ρ : Operand → Value} {g : Option (Nat × Bool)}
end
end Go.Fw
namespace Go.Proofs.YtbjjhfoeckkacaaGreatDoor
open Go.Fw
structure okb1 (l : List BK) (lo nx : Int) (k : Nat) : Prop where
  g_lo : lo < (l.getD k (0, 0, 0, 0, false)).1
  g_up : (l.getD k (0, 0, 0, 0, false)).1 + 3 + (l.getD k (0, 0, 0, 0, false)).2.2.2.1 ≤ nx
  g_kd : (l.getD k (0, 0, 0, 0, false)).2.1 ≠ 3
  g_st : 0 ≤ (l.getD k (0, 0, 0, 0, false)).2.2.2.1
  g_la : (l.getD k (0, 0, 0, 0, false)).2.2.2.2 = true ↔ k + 1 = l.length
  g_nx : k + 1 < l.length → (l.getD (k + 1) (0, 0, 0, 0, false)).1 = (l.getD k (0, 0, 0, 0, false)).1 + 3 + (l.getD k (0, 0, 0, 0, false)).2.2.2.1
  g_en : k + 1 = l.length → (l.getD k (0, 0, 0, 0, false)).1 + 3 + (l.getD k (0, 0, 0, 0, false)).2.2.2.1 = nx
def okbl (l : List BK) (lo nx : Int) : Prop := 0 < l.length ∧ ∀ k, k < l.length → okb1 l lo nx k
theorem gb_cov {bs : List Int} (hb : Byt bs) (p : Nat) : (gb bs p).2.2 = 0 → ((gb bs p).1.getD 0 (0, 0, 0, 0, false)).1 = p ∧ ∀ lo : Int, lo < p → okbl (gb bs p).1 lo (gb bs p).2.1 := by
  refine gb_ind (bs := bs) (Q := fun p => (gb bs p).2.2 = 0 → ((gb bs p).1.getD 0 (0, 0, 0, 0, false)).1 = p ∧ ∀ lo : Int, lo < p → okbl (gb bs p).1 lo (gb bs p).2.1) ?_ ?_ ?_ p
  · intro p h h2; rw [gb_err h] at h2; exact absurd h2 h
  · intro p h h2 _
    have hs := bst_bd hb p
    have hi := berr_inv h
    have hn : bnx bs p = p + 3 + (bst bs p).toNat := rfl
    rw [gb_last h h2]
    refine ⟨rfl, fun lo hlo => ⟨by simp, fun k hk => ?_⟩⟩
    obtain rfl : k = 0 := by simpa using hk
    exact ⟨hlo, by show (p : Int) + 3 + bst bs p ≤ (bnx bs p : Nat); omega, hi.2.1, hs.1, ⟨fun _ => rfl, fun _ => h2⟩, fun h => absurd h (by simp), fun _ => by show (p : Int) + 3 + bst bs p = (bnx bs p : Nat); omega⟩
  intro p h h2 ih h3
  have hs := bst_bd hb p
  have hi := berr_inv h
  have hn : bnx bs p = p + 3 + (bst bs p).toNat := rfl
  rw [gb_more h h2] at h3 ⊢
  obtain ⟨i1, i2⟩ := ih h3
  have hle := gb_le _ h3
  refine ⟨rfl, fun lo hlo => ?_⟩
  obtain ⟨i3, i4⟩ := i2 lo (by omega)
  refine ⟨Nat.succ_pos _, fun k hk => ?_⟩
  cases k with
  | zero =>
    refine ⟨hlo, ?_, hi.2.1, hs.1, ⟨fun h4 => absurd h4 h2, fun h4 => ?_⟩, fun _ => ?_, fun h4 => ?_⟩
    · show (p : Int) + 3 + bst bs p ≤ (((gb bs (bnx bs p)).2.1 : Nat) : Int); omega
    · simp only [List.length_cons] at h4; have := i3; omega
    · show ((gb bs (bnx bs p)).1.getD 0 (0, 0, 0, 0, false)).1 = (p : Int) + 3 + bst bs p; rw [i1]; omega
    simp only [List.length_cons] at h4; omega
  | succ k =>
    have hk2 : k < (gb bs (bnx bs p)).1.length := by simpa using hk
    obtain ⟨j1, j2, j3, j4, j5, j6, j7⟩ := i4 k hk2
    exact ⟨j1, j2, j3, j4, by rw [List.length_cons]; exact j5.trans ⟨fun h => by omega, fun h => by omega⟩, fun h => j6 (by simpa using h), fun h => j7 (by simpa using h)⟩
def okpt (x : PT) : Prop := (x.sk = true → x.sz = x.pl + 8 ∧ x.bl.length = 0) ∧ (¬ x.sk = true → okbl x.bl x.at_ (x.at_ + x.sz - (if x.hd.2.2.2 = true then 4 else 0)))
theorem gpart_cov {bs : List Int} (hb : Byt bs) {p : Nat} (h : (ZK bs p).2.2 = 0) : okpt (ZK bs p).1 := by
  obtain ⟨c1, h2 | h2⟩ := gpart_inv h
  · obtain ⟨c2, c3, c4, c5⟩ := h2
    have h3 := ghead_ge c3
    obtain ⟨_, h5⟩ := gb_cov hb _ c4
    by_cases cs : (ZA bs p).1.2.2.2 = true
    · obtain ⟨w1, w2⟩ := gword_inv (c5 cs)
      rw [gp_sum c1 c2 c3 c4 cs (c5 cs)]
      refine ⟨(fun h => by cases h), fun _ => ?_⟩
      have h6 := h5 p (by omega)
      show okbl (gb bs (ZA bs p).2.1).1 (p : Int) ((p : Int) + ((((ZE bs (gb bs (ZA bs p).2.1).2.1).2.1 : Nat) : Int) - (p : Int)) - (if (ZA bs p).1.2.2.2 = true then 4 else 0))
      rw [if_pos cs, w2]
      rwa [show (p : Int) + ((((gb bs (ZA bs p).2.1).2.1 + 4 : Nat) : Int) - (p : Int)) - 4 = (((gb bs (ZA bs p).2.1).2.1 : Nat) : Int) from by omega]
    rw [gp_frame c1 c2 c3 c4 cs]
    refine ⟨(fun h => by cases h), fun _ => ?_⟩
    have h6 := h5 p (by omega)
    show okbl (gb bs (ZA bs p).2.1).1 (p : Int) ((p : Int) + ((((gb bs (ZA bs p).2.1).2.1 : Nat) : Int) - (p : Int)) - (if (ZA bs p).1.2.2.2 = true then 4 else 0))
    rw [if_neg cs]
    rwa [show (p : Int) + ((((gb bs (ZA bs p).2.1).2.1 : Nat) : Int) - (p : Int)) - 0 = (((gb bs (ZA bs p).2.1).2.1 : Nat) : Int) from by omega]
  obtain ⟨c2, c3⟩ := h2
  have := gskip_le c3
  rw [gp_skip c1 c2 c3]
  exact ⟨fun _ => ⟨by show (((Yc bs p).2.1 : Nat) : Int) - (p : Int) = (((Yc bs p).1.length : Nat) : Int) + 8; omega, rfl⟩, fun h => absurd rfl h⟩
def pe (l : List PT) : Nat → Int
  | 0 => 0
  | k + 1 => pe l k + (l.getD k pt0).sz
theorem pe_cons (x : PT) (l : List PT) (k : Nat) : pe (x :: l) (k + 1) = x.sz + pe l k := by
  induction k with
  | zero => show (0 : Int) + x.sz = x.sz + 0; omega
  | succ k ih => show pe (x :: l) (k + 1) + (l.getD k pt0).sz = x.sz + (pe l k + (l.getD k pt0).sz); rw [ih]; omega
structure okg (l : List PT) (p m : Int) (i : Nat) : Prop where
  ok : okpt (l.getD i pt0)
  at_ : (l.getD i pt0).at_ = p + pe l i
  sz : 8 ≤ (l.getD i pt0).sz
  lo : 0 ≤ pe l i
  up : p + pe l (i + 1) ≤ m
theorem ga_cov {bs : List Int} (hb : Byt bs) (p : Nat) : (ga bs p).2 = 0 → p ≤ bs.length → (∀ i, i < (ga bs p).1.length → okg (ga bs p).1 p bs.length i) ∧ (p : Int) + pe (ga bs p).1 (ga bs p).1.length = bs.length := by
  refine ga_ind (bs := bs) (Q := fun p => (ga bs p).2 = 0 → p ≤ bs.length → (∀ i, i < (ga bs p).1.length → okg (ga bs p).1 p bs.length i) ∧ (p : Int) + pe (ga bs p).1 (ga bs p).1.length = bs.length) ?_ ?_ ?_ p
  · intro p h _ h2; rw [ga_end h]; exact ⟨fun i hi => absurd hi (Nat.not_lt_zero _), by show (p : Int) + 0 = _; omega⟩
  · intro p h h1 h2; rw [ga_err h h1] at h2; exact absurd h2 h1
  intro p h h1 ih h2 hp
  have hl := gpart_le h1
  rw [ga_more h h1] at h2 ⊢
  obtain ⟨i1, i2⟩ := ih h2 hl.2.1
  have hc := gpart_cov hb h1
  refine ⟨fun i hi => ?_, ?_⟩
  · cases i with
    | zero =>
      refine ⟨hc, ?_, ?_, Int.le_refl _, ?_⟩
      · show (ZK bs p).1.at_ = (p : Int) + 0; omega
      · show 8 ≤ (ZK bs p).1.sz; omega
      show (p : Int) + (0 + (ZK bs p).1.sz) ≤ _; omega
    | succ i =>
      have hi2 : i < (ga bs (ZK bs p).2.1).1.length := by simpa using hi
      obtain ⟨j1, j2, j3, j4, j5⟩ := i1 i hi2
      have e := pe_cons (ZK bs p).1 (ga bs (ZK bs p).2.1).1 i
      have e2 := pe_cons (ZK bs p).1 (ga bs (ZK bs p).2.1).1 (i + 1)
      refine ⟨j1, ?_, j3, ?_, ?_⟩
      · show ((ga bs (ZK bs p).2.1).1.getD i pt0).at_ = _; rw [e]; dsimp only at *; omega
      · rw [e]; dsimp only at *; omega
      rw [e2]; dsimp only at *; omega
  show (p : Int) + pe ((ZK bs p).1 :: (ga bs (ZK bs p).2.1).1) ((ga bs (ZK bs p).2.1).1.length + 1) = _
  rw [pe_cons]; omega
end Go.Proofs.YtbjjhfoeckkacaaGreatDoor
