/-
  Results that lie partly in cells, partly in slots.
-/
import Derived.Test.YtilegaokfamfnaaFn
namespace Go.Fw
section
variable {P : Program} {fn : Func} {w : World} {n : Nat} {ρ : Env}
theorem rm_ct {a b : Tmp} {ta : TypeId} {b1 : Nat} {v1 v2 : Value} (h : fn.results = #[.cell a ta, .tmp b]) (h1 : ev n ρ (.tmp a) = .pointer (some ⟨b1, 0, none⟩)) (h2 : ev n ρ (.tmp b) = v2)
    (k1 : CellIs P ta b1 v1 w) : (results fn (tab n ρ)).run P w = .ok (.tuple #[v1, v2]) w := by
  have e1 := res_slot h1
  have e2 := res_slot h2
  unfold CellIs at k1
  simp only [results, h]
  simp [e1, e2, asAddr, k1]
theorem rm_tc {a b : Tmp} {tb : TypeId} {b2 : Nat} {v1 v2 : Value} (h : fn.results = #[.tmp a, .cell b tb]) (h1 : ev n ρ (.tmp a) = v1) (h2 : ev n ρ (.tmp b) = .pointer (some ⟨b2, 0, none⟩))
    (k2 : CellIs P tb b2 v2 w) : (results fn (tab n ρ)).run P w = .ok (.tuple #[v1, v2]) w := by
  have e1 := res_slot h1
  have e2 := res_slot h2
  unfold CellIs at k2
  simp only [results, h]
  simp [e1, e2, asAddr, k2]
theorem rm_ctt {a b c : Tmp} {ta : TypeId} {b1 : Nat} {v1 v2 v3 : Value} (h : fn.results = #[.cell a ta, .tmp b, .tmp c]) (h1 : ev n ρ (.tmp a) = .pointer (some ⟨b1, 0, none⟩)) (h2 : ev n ρ (.tmp b) = v2) (h3 : ev n ρ (.tmp c) = v3)
    (k1 : CellIs P ta b1 v1 w) : (results fn (tab n ρ)).run P w = .ok (.tuple #[v1, v2, v3]) w := by
  have e1 := res_slot h1
  have e2 := res_slot h2
  have e3 := res_slot h3
  unfold CellIs at k1
  simp only [results, h]
  simp [e1, e2, e3, asAddr, k1]
end
section
variable {P : Program} {ro : Option Nat} {n : Nat} {Q : Post} {ρ : Env} {ds : List Deferred} {w : World} {ops : Array Oper} {rest : List Oper} {d : Nat} {t : TypeId} {p : String} {e : Array Edge}
/-- append of what is made, to a slice that has nothing: room alone -/
theorem Wl_appmk {st it et : TypeId} {ti : TypeInfo} {z : Value} {sz by' m : Nat} {k0 k : IntKind} {l : Int} {x y : Operand} (hu : P.underlying st = some (.slice et)) (hit : P.underlying it = some (.int k0)) (hi : P.info? et = some ti) (hz : ti.zero = some z) (hsz : ti.size = sz) (hby : ti.bytes = by') (hzc : z.cells.size = sz) (hpos : 0 < sz)
    (hx : ev n ρ x = .slice none 0 0) (hy : ev n ρ y = .int k l) (hl : l = m) (h0 : 0 < m) (h63 : m ≤ maxLen) (hb : m * by' ≤ 140737488355328)
    (h : ∀ b c w', w.heap.size = b → Upd No w w' → w'.heap.size = b + 1 → m ≤ c → Own w' (Is b) et sz (.slice (some ⟨b, 0, none⟩) 0 c) 0 [] → Wl P ro n ops Q rest (upd ρ d (.slice (some ⟨b, 0, none⟩) m c)) ds w') :
    Wl P ro n ops Q (⟨some d, .call { callee := .builtin .append, args := #[x, y], argTypes := #[st, it] }, t, p, e, none⟩ :: rest) ρ ds w := by
  subst hsz hby hl
  have hm2 : (m : Int) ≤ 9223372036854775807 := by simp only [maxLen] at h63; omega
  have hw : IntKind.i64.wrap (m : Int) = m := wi64 (by omega) (by omega)
  have hge := grownCap_ge w m 0 et
  have hcm : grownCap w m 0 et ≤ maxLen := grownCap_le_maxLen w m 0 et h63
  have hn : m ≠ 0 := by omega
  have hneg : ¬ ((m : Int) < 0) := by omega
  have h48 : ¬ (281474976710656 < (m : Int) * (ti.bytes : Int)) := by have : ((m * ti.bytes : Nat) : Int) = (m : Int) * ti.bytes := by simp
                                                                      omega
  have h63' : ¬ (9223372036854775807 < (m : Int)) := by omega
  have h48' : ¬ (281474976710656 < Builtin.nextslicecap m 0 * ti.bytes) := by rw [nextslicecap_zero h0]; omega
  have hmz : m * ti.size ≠ 0 := Nat.mul_ne_zero hn (by omega)
  have hr : (Builtin.append_ #[st, it] t #[.slice none 0 0, .int k (m : Int)]).run P w =
      .ok (.slice (some ⟨w.heap.size, 0, none⟩) m (grownCap w m 0 et)) (w.drew.alloc (.cells (Builtin.zeroCells z.cells m ++ Builtin.zeroCells z.cells (grownCap w m 0 et - m)) et)) := by
    have hsz0 : ti.size ≠ 0 := by omega
    simp [Builtin.append_, run_underlying hu, run_underlying hit, sizeOf, typeInfo, zeroValue, hi, hz, asInt, asIntOf, hw, hneg, h48, hn, h63', h48', hmz, hsz0, Question.forced, run_firstCells_none, newRow, grownCap]
  refine Wl_v (v := .slice (some ⟨w.heap.size, 0, none⟩) m (grownCap w m 0 et)) (w' := w.drew.alloc (.cells (Builtin.zeroCells z.cells m ++ Builtin.zeroCells z.cells (grownCap w m 0 et - m)) et)) ?_
    (h _ _ _ rfl ⟨rfl, rfl, rfl, by simp, fun b hb _ => heap_alloc_old w.drew _ hb⟩ (by simp) hge ⟨⟨by simp, .inr ⟨w.heap.size, _, _, rfl, Nat.zero_le _, heap_alloc_new w.drew _, Nat.zero_le _, hcm, ?_, by simp⟩⟩, fun g hg => by simp [Value.ownBlock] at hg; exact hg.symm⟩)
  · rw [sem_call0]; simp [execOp, resolve, invoke, builtin, hx, hy, hr]
  · simp only [Array.size_append, size_zeroCells, hzc, ← Nat.add_mul]
    congr 1
    omega
end
/-- what may leave a scope that is jumped in, forward, to one label -/
def gotoL (P : Program) (ro : Option Nat) (n : Nat) (l : Nat) (r : Code) (Q : Post) : Post
  | .goto l', ρ, ds, w => l' = l ∧ W P ro n r (noG Q) ρ ds w
  | e, ρ, ds, w => Q e ρ ds w
theorem W_scopeg {P : Program} {ro : Option Nat} {n : Nat} {Q : Post} {ρ : Env} {ds : List Deferred} {w : World} {c r : Code} (l : Nat) (hf : findLabel c l = some r) (h : W P ro n c (gotoL P ro n l r Q) ρ ds w) : W P ro n (.scope c) Q ρ ds w := by
  intro b k cs hro hb hr
  have h0 : (lone (b.atR ⟨tab n ρ, ds⟩ (.code (.scope c) :: k)) cs w).fenced P (Fo ro) := fenced_calm hb hr rfl
  obtain ⟨e, ⟨t, d⟩, w₁, ⟨ρ', h1, h2⟩, harr⟩ := h b (.inScope c :: k) cs hro hb hr
  simp only at h1 h2
  subst h1
  cases e with
  | normal => exact ⟨.normal, ⟨tab n ρ', d⟩, w₁, ⟨ρ', rfl, h2⟩, .head h0 stepR_scope (StepsIn.trans harr (.one (fenced_calm hb hr rfl) stepR_inScope))⟩
  | exit id =>
    have hx : exitTo id (.inScope c :: k) = exitTo id k := by simp [exitTo]
    exact ⟨_, ⟨tab n ρ', d⟩, w₁, ⟨ρ', rfl, h2⟩, fun k' hk => .head h0 stepR_scope (harr.1 k' (by rw [hx]; exact hk)),
      fun hr' hk => let ⟨k₁, h1, h2⟩ := harr.2 hr' (by rw [hx]; exact hk); ⟨k₁, h1, .head h0 stepR_scope h2⟩⟩
  | goto l' =>
    obtain ⟨rfl, h3⟩ := h2
    have pre := StepsIn.head h0 stepR_scope (harr.1 (.code r :: .inScope c :: k) (by simp [gotoIn, hf]))
    obtain ⟨e2, ⟨t2, d2⟩, w₂, ⟨ρ2, h4, h5⟩, harr2⟩ := h3 b (.inScope c :: k) cs hro hb hr
    simp only at h4 h5
    subst h4
    cases e2 with
    | normal => exact ⟨.normal, ⟨tab n ρ2, d2⟩, w₂, ⟨ρ2, rfl, h5⟩, StepsIn.trans pre (StepsIn.trans harr2 (.one (fenced_calm hb hr rfl) stepR_inScope))⟩
    | exit id =>
      have hx : exitTo id (.inScope c :: k) = exitTo id k := by simp [exitTo]
      exact ⟨_, ⟨tab n ρ2, d2⟩, w₂, ⟨ρ2, rfl, h5⟩, fun k' hk => StepsIn.trans pre (harr2.1 k' (by rw [hx]; exact hk)),
        fun hr' hk => let ⟨k₁, h1, h2⟩ := harr2.2 hr' (by rw [hx]; exact hk); ⟨k₁, h1, StepsIn.trans pre h2⟩⟩
    | goto l2 => exact h5.elim
    | ret => exact ⟨_, ⟨tab n ρ2, d2⟩, w₂, ⟨ρ2, rfl, h5⟩, .of_steps pre harr2⟩
    | panic ch => exact ⟨_, ⟨tab n ρ2, d2⟩, w₂, ⟨ρ2, rfl, h5⟩, .of_steps pre harr2⟩
    | outgrown => exact ⟨_, ⟨tab n ρ2, d2⟩, w₂, ⟨ρ2, rfl, h5⟩, .of_steps pre harr2⟩
  | ret => exact ⟨_, ⟨tab n ρ', d⟩, w₁, ⟨ρ', rfl, h2⟩, .of_steps (.one h0 stepR_scope) harr⟩
  | panic ch => exact ⟨_, ⟨tab n ρ', d⟩, w₁, ⟨ρ', rfl, h2⟩, .of_steps (.one h0 stepR_scope) harr⟩
  | outgrown => exact ⟨_, ⟨tab n ρ', d⟩, w₁, ⟨ρ', rfl, h2⟩, .of_steps (.one h0 stepR_scope) harr⟩
end Go.Fw
