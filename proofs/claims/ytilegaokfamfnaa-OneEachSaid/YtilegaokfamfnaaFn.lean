/-
  Loops unrolled; cap; copy into a block that was made; slices with room behind them.
-/
import Derived.Test.YtilegaokfamfnaaFl
import Derived.Laws.CopyRow
namespace Go.Fw
/-- a loop, m rounds of it, each written out -/
def unrK (P : Program) (ro : Option Nat) (n : Nat) (c : Code) (Q : Post) : Nat → Env → List Deferred → World → Prop
  | 0 => fun _ _ _ => False
  | m + 1 => fun ρ ds w => W P ro n c (thn (unrK P ro n c Q m) Q) ρ ds w
theorem unrK_succ {P : Program} {ro : Option Nat} {n : Nat} {c : Code} {Q : Post} {m : Nat} {ρ : Env} {ds : List Deferred} {w : World} (h : W P ro n c (thn (unrK P ro n c Q m) Q) ρ ds w) : unrK P ro n c Q (m + 1) ρ ds w := h
theorem W_unroll {P : Program} {ro : Option Nat} {n : Nat} {Q : Post} {ρ : Env} {ds : List Deferred} {w : World} {c : Code} (m : Nat) (h : unrK P ro n c Q m ρ ds w) : W P ro n (.loop c) Q ρ ds w := by
  refine W_loop (fun m ρ ds w => unrK P ro n c Q m ρ ds w) m h ?_
  intro m ρ ds w h
  cases m with
  | zero => exact False.elim h
  | succ m =>
    refine W_mono h fun e ρ ds w hq => ?_
    cases e <;> first | exact ⟨m, by omega, hq⟩ | exact hq
section
variable {P : Program} {ro : Option Nat} {n : Nat} {Q : Post} {ρ : Env} {ds : List Deferred} {w : World} {ops : Array Oper} {rest : List Oper} {d : Option Tmp} {t : TypeId} {p : String} {e : Array Edge}
theorem r_cap {ρ' : Operand → Value} {g : Option (Nat × Bool)} {st : TypeId} {x : Operand} {et : TypeId} {a : Option Addr} {n c : Nat} (hu : P.underlying st = some (.slice et)) (hx : ρ' x = .slice a n c) :
    (Oper.semAt ro ρ' ⟨d, .call { callee := .builtin .cap, args := #[x], argTypes := #[st] }, t, p, e, g⟩).run P w = .ok (.value (.int .i64 c)) w := by
  rw [sem_op (by simp)]; simp [execOp, resolve, invoke, builtin, hx, Builtin.cap_, run_underlying hu, goInt]
/-- copy into the head of a block -/
theorem Wl_copy {st su et : TypeId} {x y : Operand} {R : Nat → Prop} {b m c sc : Nat} {a : Option Addr} {k : IntKind} {L bs : List Int} (hu : P.underlying st = some (.slice et)) (hsz : (P.info? et).map (·.size) = some 1)
    (hx : ev n ρ x = .slice (some ⟨b, 0, none⟩) m c) (hy : ev n ρ y = .slice a m sc) (hb : Blk w b (ints k L)) (hs : Sl w R 1 (.slice a m sc) m (ints k bs)) (hl : m ≤ L.length)
    (h : ∀ w', Upd (Is b) w w' → w'.heap.size = w.heap.size → Blk w' b (ints k (bs ++ L.drop m)) → Wl P ro n ops Q rest (put ρ d (.int .i64 m)) ds w') :
    Wl P ro n ops Q (⟨d, .call { callee := .builtin .copy, args := #[x, y], argTypes := #[st, su] }, t, p, e, none⟩ :: rest) ρ ds w := by
  obtain ⟨tt, hg⟩ := hb
  have hlen : bs.length = m := ilen hs
  cases a with
  | none =>
    obtain ⟨rfl, hnil⟩ := hs.none_len
    have hbs : bs = [] := List.length_eq_zero_iff.1 hlen
    subst hbs
    have hr : (Builtin.copy_ #[st, su] t #[.slice (some ⟨b, 0, none⟩) 0 c, .slice none 0 sc]).run P w = .ok (goInt 0) w := by
      cases hq : P.info? et with
      | none => simp [hq] at hsz
      | some i => simp [Builtin.copy_, run_underlying hu, Builtin.lenOf, Builtin.firstCells, sizeOf, typeInfo, hq, storeCells]
    refine Wl_v (v := .int .i64 0) (w' := w) ?_ (h w (Upd.refl _ _) rfl ⟨tt, by simpa using hg⟩)
    rw [sem_op (by simp)]; simp [execOp, resolve, invoke, builtin, hx, hy, hr, goInt]
  | some a =>
    have hr := run_copy_row (P := P) w st su t et b 0 m c a m sc (ints k L).toArray tt (ints k bs) hu hsz hg (by simp [ints, hlen]) (fun j v hj => by
      have hj1 : j < m := by
        rcases Nat.lt_or_ge j m with h1 | h1
        · exact h1
        · rw [List.getElem?_eq_none (by simp [ints]; omega)] at hj; cases hj
      obtain ⟨b', off, he, hc⟩ := hs.at hj1
      simp only [Option.some.injEq] at he
      subst he
      have := hc 0 (by omega)
      simp only [Nat.mul_one, Nat.add_zero] at this
      have hadd : (⟨b', off, none⟩ : Addr).add j = ⟨b', off + j, none⟩ := by unfold Addr.add; split <;> simp_all
      rw [hadd, this, hj]) (by simp [ints]; omega) one_ints
    have e : ((ints k L).toArray.toList.take 0 ++ ints k bs ++ (ints k L).toArray.toList.drop (0 + (ints k bs).length)) = ints k (bs ++ L.drop m) := by
      simp [ints, hlen]
    rw [e] at hr
    refine Wl_v (v := .int .i64 m) (w' := w.setRow b (ints k (bs ++ L.drop m)).toArray) ?_ (h _ ⟨rfl, rfl, rfl, by simp, fun g _ hg2 => setRow_other w b g _ (fun e => hg2 e)⟩ (by simp) ⟨tt, setRow_heap w b _ _ tt _ hg⟩)
    rw [sem_op (by simp)]; simp [execOp, resolve, invoke, builtin, hx, hy, hr, goInt, ints, hlen]
end
theorem Blk.slh {w : World} {b n c : Nat} {k : IntKind} {xs ys : List Int} (h : Blk w b (ints k (xs ++ ys))) (hn : xs.length = n) (hnc : n ≤ c) (hc : c ≤ maxLen) : Sl w (Is b) 1 (.slice (some ⟨b, 0, none⟩) n c) n (ints k xs) := by
  have := h.sl (off := 0) hnc hc (by simp; omega)
  rwa [List.drop_zero, List.take_append_of_le_length (by omega), List.take_of_length_le (by omega)] at this
theorem Blk.slt {w : World} {b n m c : Nat} {k : IntKind} {xs ys : List Int} (h : Blk w b (ints k (xs ++ ys))) (hn : xs.length = n) (hm : ys.length = m) (hnc : m ≤ c) (hc : c ≤ maxLen) : Sl w (Is b) 1 (.slice (some ⟨b, n, none⟩) m c) m (ints k ys) := by
  have := h.sl (off := n) hnc hc (by simp; omega)
  rwa [List.drop_append_of_le_length (by omega), List.drop_of_length_le (by omega), List.nil_append, List.take_of_length_le (by omega)] at this
section
variable {P : Program} {ro : Option Nat} {w : World} {ρ : Operand → Value} {d : Option Tmp} {t : TypeId} {p : String} {e : Array Edge} {g : Option (Nat × Bool)}
/-- a slice of a slice that begins its block -/
theorem r_slicet {st et : TypeId} {x y z : Operand} {b m c : Nat} {k k' : IntKind} {l h : Int} {l' h' n' c' : Nat} (hu : P.underlying st = some (.slice et)) (hsz : ∀ w, (sizeOf et).run P w = .ok 1 w)
    (hx : ρ x = .slice (some ⟨b, 0, none⟩) m c) (hy : ρ y = .int k l) (hz : ρ z = .int k' h) (hl : l = l') (hh : h = h') (h1 : l' ≤ h') (h2 : h' ≤ c) (hne : l' ≠ c) (hn : h' - l' = n') (hc : c - l' = c') :
    (Oper.semAt ro ρ ⟨d, .slice st x (some y) (some z) none, t, p, e, g⟩).run P w = .ok (.value (.slice (some ⟨b, l', none⟩) n' c')) w := by
  have := r_slicen (ro := ro) (w := w) (d := d) (t := t) (p := p) (e := e) (g := g) hu hsz hx hy hz hl hh h1 h2 hn
  have hadd : (⟨b, 0, none⟩ : Addr).add (l' * 1) = ⟨b, l', none⟩ := by unfold Addr.add; split <;> simp_all
  rw [if_neg (fun e => hne e.symm), Option.map_some, hadd, hc] at this
  exact this
end
section
variable {P : Program} {ro : Option Nat} {w : World} {ρ : Operand → Value} {d : Option Tmp} {t : TypeId} {p : String} {e : Array Edge} {g : Option (Nat × Bool)}
theorem r_nestr {xt yt : TypeId} {x y : Operand} {xs ys : List Int} (bx : Byt xs) (by' : Byt ys) (hx : ρ x = .string (strOfNums xs)) (hy : ρ y = .string (strOfNums ys)) :
    (Oper.semAt ro ρ ⟨d, .binOp .neq xt x y yt, t, p, e, g⟩).run P w = .ok (.value (.bool (!decide (xs = ys)))) w := by
  rw [sem_op (by simp)]; simp only [execOp, hx, hy, eqGuard, binOp, Op.stringOp, str_eq bx by']; simp
end
theorem Own.cellc {w : World} {R : Nat → Prop} {n c g : Nat} {e : TypeId} {cs : List Value} (h : Own w R e 1 (.slice (some ⟨g, 0, none⟩) n c) n cs) {i : Nat} (hi : i < n) : w.cell? ⟨g, i, none⟩ = cs[i]? := by
  obtain ⟨b, off, ha, hc⟩ := h.sl.at hi
  simp only [Option.some.injEq, Addr.mk.injEq, and_true] at ha
  obtain ⟨rfl, rfl⟩ := ha
  have := hc 0 (by omega)
  simpa using this
theorem freeze_heap {w : World} {b k : Nat} {cur : Array Value} {e : TypeId} (h : w.heap[b]? = some (.cells cur e (0, 0))) : (w.freeze ⟨b, k, none⟩ 1).heap[b]? = some (.cells cur e (k, k + 1)) := by
  unfold World.freeze
  rw [if_neg (by decide)]
  simp [Array.getElem?_modify, h]
theorem freeze_other {w : World} {b k g : Nat} (hg : g ≠ b) : (w.freeze ⟨b, k, none⟩ 1).heap[g]? = w.heap[g]? := by
  unfold World.freeze
  rw [if_neg (by decide)]
  have : ¬ b = g := fun e => hg e.symm
  simp [Array.getElem?_modify, this]
theorem freeze_upd (w : World) (b k : Nat) : Upd (Is b) w (w.freeze ⟨b, k, none⟩ 1) := by
  refine ⟨?_, ?_, ?_, ?_, fun g _ hg => freeze_other (fun e => hg e)⟩ <;> (unfold World.freeze; rw [if_neg (by decide)]) <;> simp
theorem freeze_size (w : World) (b k : Nat) : (w.freeze ⟨b, k, none⟩ 1).heap.size = w.heap.size := by
  unfold World.freeze
  rw [if_neg (by decide)]
  simp
section
variable {P : Program} {ro : Option Nat} {n : Nat} {Q : Post} {ρ : Env} {ds : List Deferred} {w : World} {ops : Array Oper} {rest : List Oper} {d : Nat} {t : TypeId} {p : String} {e : Array Edge}
/-- a literal's row, converted to its own type: the row is marked, and is only read from then on -/
theorem Wl_cvtsl {st et : TypeId} {x : Operand} {R : Nat → Prop} {g m c : Nat} {cs : List Value} (hu : P.underlying st = some (.slice et)) (he : P.underlying et = some (.int .u8)) (hx : ev n ρ x = .slice (some ⟨g, 0, none⟩) m c)
    (ho : Own w R et 1 (.slice (some ⟨g, 0, none⟩) m c) m cs)
    (h : ∀ w', Upd (Is g) w w' → w'.heap.size = w.heap.size → Sl w' R 1 (.slice (some ⟨g, 0, none⟩) m c) m cs → Wl P ro n ops Q rest (upd ρ d (.slice (some ⟨g, 0, none⟩) m c)) ds w') :
    Wl P ro n ops Q (⟨some d, .convert st st x, t, p, e, none⟩ :: rest) ρ ds w := by
  obtain ⟨⟨h1, h2⟩, h3⟩ := ho
  rcases h2 with ⟨h4, _⟩ | ⟨g', cap, cur, h5, hb, hg, hnc, hcm, hcs, ht⟩
  · cases h4
  · simp only [Value.slice.injEq, Option.some.injEq, Addr.mk.injEq, and_true, true_and] at h5
    obtain ⟨rfl, rfl⟩ := h5
    have hsh : w.shape? g = some (et, cur.size) := by unfold World.shape?; rw [hg]
    refine Wl_v (v := .slice (some ⟨g, 0, none⟩) m c) (w' := w.freeze ⟨g, cur.size, none⟩ 1) ?_ (h _ (freeze_upd w g _) (freeze_size w g _) ?_)
    · rw [sem_op (by simp)]; simp [execOp, hx, convert, run_underlying hu, run_underlying he, markStringish, hsh]
    · refine ⟨h1, _, _, rfl, hnc, hcm, ?_⟩
      by_cases hm : m = 0
      · exact .inl hm
      · refine .inr ⟨g, 0, cur, et, _, rfl, h3 g rfl, freeze_heap hg, fun i hi => ?_⟩
        rw [Nat.zero_add, ← ht, List.getElem?_take, if_pos hi, Array.getElem?_toList]
/-- append of a slice that is read to a slice that is read and has no room -/
theorem run_appg {st et ty : TypeId} {ti : TypeInfo} {z : Value} {sz by' : Nat} (hu : P.underlying st = some (.slice et)) (hi : P.info? et = some ti) (hz : ti.zero = some z) (hsz : ti.size = sz) (hby : ti.bytes = by') (hzc : z.cells.size = sz)
    {R R2 : Nat → Prop} {a0 : Option Addr} {c0 : Nat} {v2 : Value} {m k : Nat} {cs cs2 : List Value} (ho : Sl w R sz (.slice a0 m c0) m cs) (hs : Sl w R2 sz v2 k cs2) (hm : 0 < m) (hk : 0 < k) (hc : c0 < m + k)
    (h63 : m + k ≤ maxLen) (hb : (m + k) * by' ≤ 140737488355328) :
    ∃ a c w', (Builtin.append_ #[st, st] ty #[.slice a0 m c0, v2]).run P w = .ok (.slice a (m + k) c) w' ∧ Upd No w w' ∧ w'.heap.size ≤ w.heap.size + 1 ∧ Own w' (fun g => g = w.heap.size) et sz (.slice a (m + k) c) (m + k) (cs ++ cs2) := by
  subst hsz
  subst hby
  obtain ⟨hl1, a1, c1, he1, hn1, hn2, hsl1⟩ := ho
  obtain ⟨hl2, a2, c2, rfl, hk1, hk2, hsl⟩ := hs
  simp only [Value.slice.injEq, true_and] at he1
  obtain ⟨rfl, rfl⟩ := he1
  have hsmall : m + k ≤ 9223372036854775807 := by simp only [maxLen] at h63; omega
  have hlen : (cs ++ cs2).length = (m + k) * ti.size := by rw [List.length_append, hl1, hl2, Nat.add_mul]
  have cell : ∀ {b off : Nat} {cc : Array Value} {t : TypeId} {f : Nat × Nat} {n : Nat} {cs : List Value}, w.heap[b]? = some (.cells cc t f) → cs.length = n * ti.size → (∀ i, i < n * ti.size → cc[off + i]? = cs[i]?) → ∀ j u, cs[j]? = some u → w.cell? ((⟨b, off, none⟩ : Addr).add j) = some u := by
    intro b off cc t f n cs hb hl hc j u hu
    have hj : j < cs.length := by
      rcases Nat.lt_or_ge j cs.length with h | h
      · exact h
      · simp [List.getElem?_eq_none h] at hu
    have hadd : (⟨b, off, none⟩ : Addr).add j = ⟨b, off + j, none⟩ := by unfold Addr.add; split <;> simp_all
    rw [hadd]
    simp only [World.cell?, hb, Option.isSome_none, Bool.false_eq_true, if_false]
    rw [hc j (hl ▸ hj)]; exact hu
  rcases hsl1 with h | ⟨b1, off1, cc1, t1, f1, rfl, _, hb1, hcells1⟩
  · omega
  rcases hsl with h | ⟨b2, off2, cc2, t2, f2, rfl, _, hb2, hcells2⟩
  · omega
  have hr := run_append_grow (P := P) w st ty et ti z hu hi hz ⟨b1, off1, none⟩ m c0 cs hl1 (cell hb1 hl1 hcells1) ⟨b2, off2, none⟩ k c2 cs2 hl2 (cell hb2 hl2 hcells2) (by omega) (by omega) (growslice_fits (by omega) hb)
  have hge := grownCap_ge w (m + k) c0 et
  have hcm : grownCap w (m + k) c0 et ≤ maxLen := grownCap_le_maxLen w (m + k) c0 et h63
  refine ⟨_, _, _, hr, ⟨rfl, rfl, rfl, by simp, fun b hb _ => heap_alloc_old w.drew _ hb⟩, by simp, ⟨⟨hlen, .inr ⟨w.heap.size, _, _, rfl, Nat.zero_le _, heap_alloc_new w.drew _, hge, hcm, ?_, ?_⟩⟩, ?_⟩⟩
  · simp only [Array.size_append, List.size_toArray, size_zeroCells, hzc, hl1, hl2, ← Nat.add_mul]
    congr 1
    omega
  · simp only [Array.toList_append, List.append_assoc]
    rw [← List.append_assoc, ← hlen]
    exact List.take_left
  · intro g hg
    simp [Value.ownBlock] at hg
    exact hg.symm
theorem Wl_appg {st et : TypeId} {ti : TypeInfo} {z : Value} {sz by' tot : Nat} {k' : IntKind} {xs ys zs : List Int} (hcs : xs ++ ys = zs) (hu : P.underlying st = some (.slice et)) (hi : P.info? et = some ti) (hz : ti.zero = some z) (hsz : ti.size = sz) (hby : ti.bytes = by') (hzc : z.cells.size = sz)
    {x y : Operand} {R R2 : Nat → Prop} {a0 : Option Addr} {c0 : Nat} {v2 : Value} {m k : Nat} (hx : ev n ρ x = .slice a0 m c0) (ho : Sl w R sz (.slice a0 m c0) m (ints k' xs)) (hy : ev n ρ y = v2) (hs : Sl w R2 sz v2 k (ints k' ys)) (htot : m + k = tot) (hm : 0 < m) (hk : 0 < k) (hc : c0 < m + k)
    (h63 : m + k ≤ maxLen) (hb : (m + k) * by' ≤ 140737488355328)
    (h : ∀ a c w', Upd No w w' → w'.heap.size ≤ w.heap.size + 1 → Own w' (fun g => g = w.heap.size) et sz (.slice a tot c) tot (ints k' zs) → Wl P ro n ops Q rest (upd ρ d (.slice a tot c)) ds w') :
    Wl P ro n ops Q (⟨some d, .call { callee := .builtin .append, args := #[x, y], argTypes := #[st, st] }, t, p, e, none⟩ :: rest) ρ ds w := by
  subst htot hcs
  obtain ⟨a, c, w', hr, h1, h2, h3⟩ := run_appg (ty := t) hu hi hz hsz hby hzc ho hs hm hk hc h63 hb
  refine Wl_v (v := .slice a (m + k) c) (w' := w') ?_ (h a c w' h1 h2 (by rw [ints, List.map_append]; exact h3))
  rw [sem_call0]; simp [execOp, resolve, invoke, builtin, hx, hy, hr]
end
theorem set_hd {xs ys : List Int} {i : Nat} {x : Int} (h : i < xs.length) : (xs ++ ys).set i x = xs.set i x ++ ys := List.set_append_left _ _ h
theorem getD_hd {xs ys : List Int} {i : Nat} (h : i < xs.length) : (xs ++ ys).getD i 0 = xs.getD i 0 := by
  rw [List.getD_eq_getElem?_getD, List.getElem?_append_left h, List.getD_eq_getElem?_getD]
theorem getD_rep0 {n i : Nat} : (List.replicate n (0 : Int)).getD i 0 = 0 := by
  rw [List.getD_eq_getElem?_getD, List.getElem?_replicate]; split <;> rfl
end Go.Fw
