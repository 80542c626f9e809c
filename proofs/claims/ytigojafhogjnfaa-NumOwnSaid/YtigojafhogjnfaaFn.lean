/-
  Loops unrolled; cap; copy into a block that was made; slices with room behind them.
-/
import Derived.Test.YtigojafhogjnfaaFl
import Derived.Laws.CopyRow
namespace Go.Fw
/-- a loop, m rounds of it, each written out -/
def unrK (P : Program) (ro : Option Nat) (n : Nat) (c : Code) (Q : Post) : Nat → Env → List Deferred → World → Prop
  | 0 => fun _ _ _ => False
  | m + 1 => fun ρ ds w => W P ro n c (thn (unrK P ro n c Q m) Q) ρ ds w
theorem unrK_succ {P : Program} {ro : Option Nat} {n : Nat} {c : Code} {Q : Post} {m : Nat} {ρ : Env} {ds : List Deferred} {w : World} (h : W P ro n c (thn (unrK P ro n c Q m) Q) ρ ds w) : unrK P ro n c Q (m + 1) ρ ds w := h
theorem W_unroll {P : Program} {ro : Option Nat} {n : Nat} {Q : Post} {ρ : Env} {ds : List Deferred} {w : World} {c : Code} (m : Nat) (h : unrK P ro n c Q m ρ ds w) : W P ro n (.loop c) Q ρ ds w := by
  refine W_loop (fun m ρ ds w => unrK P ro n c Q m ρ ds w) m h ?_
  intro m ρ ds w h
  cases m with
  | zero => exact False.elim h
  | succ m =>
    refine W_mono h fun e ρ ds w hq => ?_
    cases e <;> first | exact ⟨m, by omega, hq⟩ | exact hq
section
variable {P : Program} {ro : Option Nat} {n : Nat} {Q : Post} {ρ : Env} {ds : List Deferred} {w : World} {ops : Array Oper} {rest : List Oper} {d : Option Tmp} {t : TypeId} {p : String} {e : Array Edge}
theorem r_cap {ρ' : Operand → Value} {g : Option (Nat × Bool)} {st : TypeId} {x : Operand} {et : TypeId} {a : Option Addr} {n c : Nat} (hu : P.underlying st = some (.slice et)) (hx : ρ' x = .slice a n c) :
    (Oper.semAt ro ρ' ⟨d, .call { callee := .builtin .cap, args := #[x], argTypes := #[st] }, t, p, e, g⟩).run P w = .ok (.value (.int .i64 c)) w := by
  rw [sem_op (by simp)]; simp [execOp, resolve, invoke, builtin, hx, Builtin.cap_, run_underlying hu, goInt]
/-- copy into the head of a block -/
theorem Wl_copy {st su et : TypeId} {x y : Operand} {R : Nat → Prop} {b m c sc : Nat} {a : Option Addr} {k : IntKind} {L bs : List Int} (hu : P.underlying st = some (.slice et)) (hsz : (P.info? et).map (·.size) = some 1)
    (hx : ev n ρ x = .slice (some ⟨b, 0, none⟩) m c) (hy : ev n ρ y = .slice a m sc) (hb : Blk w b (ints k L)) (hs : Sl w R 1 (.slice a m sc) m (ints k bs)) (hl : m ≤ L.length)
    (h : ∀ w', Upd (Is b) w w' → w'.heap.size = w.heap.size → Blk w' b (ints k (bs ++ L.drop m)) → Wl P ro n ops Q rest (put ρ d (.int .i64 m)) ds w') :
    Wl P ro n ops Q (⟨d, .call { callee := .builtin .copy, args := #[x, y], argTypes := #[st, su] }, t, p, e, none⟩ :: rest) ρ ds w := by
  obtain ⟨tt, hg⟩ := hb
  have hlen : bs.length = m := ilen hs
  cases a with
  | none =>
    obtain ⟨rfl, hnil⟩ := hs.none_len
    have hbs : bs = [] := List.length_eq_zero_iff.1 hlen
    subst hbs
    have hr : (Builtin.copy_ #[st, su] t #[.slice (some ⟨b, 0, none⟩) 0 c, .slice none 0 sc]).run P w = .ok (goInt 0) w := by
      cases hq : P.info? et with
      | none => simp [hq] at hsz
      | some i => simp [Builtin.copy_, run_underlying hu, Builtin.lenOf, Builtin.firstCells, sizeOf, typeInfo, hq, storeCells]
    refine Wl_v (v := .int .i64 0) (w' := w) ?_ (h w (Upd.refl _ _) rfl ⟨tt, by simpa using hg⟩)
    rw [sem_op (by simp)]; simp [execOp, resolve, invoke, builtin, hx, hy, hr, goInt]
  | some a =>
    have hr := run_copy_row (P := P) w st su t et b 0 m c a m sc (ints k L).toArray tt (ints k bs) hu hsz hg (by simp [ints, hlen]) (fun j v hj => by
      have hj1 : j < m := by
        rcases Nat.lt_or_ge j m with h1 | h1
        · exact h1
        · rw [List.getElem?_eq_none (by simp [ints]; omega)] at hj; cases hj
      obtain ⟨b', off, he, hc⟩ := hs.at hj1
      simp only [Option.some.injEq] at he
      subst he
      have := hc 0 (by omega)
      simp only [Nat.mul_one, Nat.add_zero] at this
      have hadd : (⟨b', off, none⟩ : Addr).add j = ⟨b', off + j, none⟩ := by unfold Addr.add; split <;> simp_all
      rw [hadd, this, hj]) (by simp [ints]; omega) one_ints
    have e : ((ints k L).toArray.toList.take 0 ++ ints k bs ++ (ints k L).toArray.toList.drop (0 + (ints k bs).length)) = ints k (bs ++ L.drop m) := by
      simp [ints, hlen]
    rw [e] at hr
    refine Wl_v (v := .int .i64 m) (w' := w.setRow b (ints k (bs ++ L.drop m)).toArray) ?_ (h _ ⟨rfl, rfl, rfl, by simp, fun g _ hg2 => setRow_other w b g _ (fun e => hg2 e)⟩ (by simp) ⟨tt, setRow_heap w b _ _ tt _ hg⟩)
    rw [sem_op (by simp)]; simp [execOp, resolve, invoke, builtin, hx, hy, hr, goInt, ints, hlen]
end
theorem Blk.slh {w : World} {b n c : Nat} {k : IntKind} {xs ys : List Int} (h : Blk w b (ints k (xs ++ ys))) (hn : xs.length = n) (hnc : n ≤ c) (hc : c ≤ maxLen) : Sl w (Is b) 1 (.slice (some ⟨b, 0, none⟩) n c) n (ints k xs) := by
  have := h.sl (off := 0) hnc hc (by simp; omega)
  rwa [List.drop_zero, List.take_append_of_le_length (by omega), List.take_of_length_le (by omega)] at this
theorem Blk.slt {w : World} {b n m c : Nat} {k : IntKind} {xs ys : List Int} (h : Blk w b (ints k (xs ++ ys))) (hn : xs.length = n) (hm : ys.length = m) (hnc : m ≤ c) (hc : c ≤ maxLen) : Sl w (Is b) 1 (.slice (some ⟨b, n, none⟩) m c) m (ints k ys) := by
  have := h.sl (off := n) hnc hc (by simp; omega)
  rwa [List.drop_append_of_le_length (by omega), List.drop_of_length_le (by omega), List.nil_append, List.take_of_length_le (by omega)] at this
section
variable {P : Program} {ro : Option Nat} {w : World} {ρ : Operand → Value} {d : Option Tmp} {t : TypeId} {p : String} {e : Array Edge} {g : Option (Nat × Bool)}
/-- a slice of a slice that begins its block -/
theorem r_slicet {st et : TypeId} {x y z : Operand} {b m c : Nat} {k k' : IntKind} {l h : Int} {l' h' n' c' : Nat} (hu : P.underlying st = some (.slice et)) (hsz : ∀ w, (sizeOf et).run P w = .ok 1 w)
    (hx : ρ x = .slice (some ⟨b, 0, none⟩) m c) (hy : ρ y = .int k l) (hz : ρ z = .int k' h) (hl : l = l') (hh : h = h') (h1 : l' ≤ h') (h2 : h' ≤ c) (hne : l' ≠ c) (hn : h' - l' = n') (hc : c - l' = c') :
    (Oper.semAt ro ρ ⟨d, .slice st x (some y) (some z) none, t, p, e, g⟩).run P w = .ok (.value (.slice (some ⟨b, l', none⟩) n' c')) w := by
  have := r_slicen (ro := ro) (w := w) (d := d) (t := t) (p := p) (e := e) (g := g) hu hsz hx hy hz hl hh h1 h2 hn
  have hadd : (⟨b, 0, none⟩ : Addr).add (l' * 1) = ⟨b, l', none⟩ := by unfold Addr.add; split <;> simp_all
  rw [if_neg (fun e => hne e.symm), Option.map_some, hadd, hc] at this
  exact this
end
theorem set_hd {xs ys : List Int} {i : Nat} {x : Int} (h : i < xs.length) : (xs ++ ys).set i x = xs.set i x ++ ys := List.set_append_left _ _ h
theorem getD_hd {xs ys : List Int} {i : Nat} (h : i < xs.length) : (xs ++ ys).getD i 0 = xs.getD i 0 := by
  rw [List.getD_eq_getElem?_getD, List.getElem?_append_left h, List.getD_eq_getElem?_getD]
theorem getD_rep0 {n i : Nat} : (List.replicate n (0 : Int)).getD i 0 = 0 := by
  rw [List.getD_eq_getElem?_getD, List.getElem?_replicate]; split <;> rfl
end Go.Fw
