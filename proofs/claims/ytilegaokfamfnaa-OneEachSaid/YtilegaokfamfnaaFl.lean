/-
  A scope that nothing jumps back into.
-/
import Derived.Test.YtilegaokfamfnaaFk
namespace Go.Fw
def noG (Q : Post) : Post
  | .goto _, _, _, _ => False
  | e, ρ, ds, w => Q e ρ ds w
theorem stepR_scope {P : Program} {b : Frame} {a : Act} {k : List Item} {cs : List Frame} {w : World} {c : Code} : step P (lone (b.atR a (.code (.scope c) :: k)) cs w) = .next (lone (b.atR a (.code c :: .inScope c :: k)) cs w) :=
  step_lone_go (by simp [stepG, stepG.exec, Frame.atR])
theorem stepR_inScope {P : Program} {b : Frame} {a : Act} {k : List Item} {cs : List Frame} {w : World} {c : Code} : step P (lone (b.atR a (.inScope c :: k)) cs w) = .next (lone (b.atR a k) cs w) :=
  step_lone_go (by simp [stepG, stepG.exec, Frame.atR])
theorem W_scope {P : Program} {ro : Option Nat} {n : Nat} {Q : Post} {ρ : Env} {ds : List Deferred} {w : World} {c : Code} (h : W P ro n c (noG Q) ρ ds w) : W P ro n (.scope c) Q ρ ds w := by
  intro b k cs hro hb hr
  have h0 : (lone (b.atR ⟨tab n ρ, ds⟩ (.code (.scope c) :: k)) cs w).fenced P (Fo ro) := fenced_calm hb hr rfl
  obtain ⟨e, ⟨t, d⟩, w₁, ⟨ρ', h1, h2⟩, harr⟩ := h b (.inScope c :: k) cs hro hb hr
  simp only at h1 h2
  subst h1
  cases e with
  | normal => exact ⟨.normal, ⟨tab n ρ', d⟩, w₁, ⟨ρ', rfl, h2⟩, .head h0 stepR_scope (StepsIn.trans harr (.one (fenced_calm hb hr rfl) stepR_inScope))⟩
  | exit id =>
    have hx : exitTo id (.inScope c :: k) = exitTo id k := by simp [exitTo]
    exact ⟨_, ⟨tab n ρ', d⟩, w₁, ⟨ρ', rfl, h2⟩, fun k' hk => .head h0 stepR_scope (harr.1 k' (by rw [hx]; exact hk)),
      fun hr' hk => let ⟨k₁, h1, h2⟩ := harr.2 hr' (by rw [hx]; exact hk); ⟨k₁, h1, .head h0 stepR_scope h2⟩⟩
  | goto l => exact h2.elim
  | ret => exact ⟨_, ⟨tab n ρ', d⟩, w₁, ⟨ρ', rfl, h2⟩, .of_steps (.one h0 stepR_scope) harr⟩
  | panic ch => exact ⟨_, ⟨tab n ρ', d⟩, w₁, ⟨ρ', rfl, h2⟩, .of_steps (.one h0 stepR_scope) harr⟩
  | outgrown => exact ⟨_, ⟨tab n ρ', d⟩, w₁, ⟨ρ', rfl, h2⟩, .of_steps (.one h0 stepR_scope) harr⟩
/-- a loop that goes round twice at the most -/
theorem W_unroll2 {P : Program} {ro : Option Nat} {n : Nat} {Q : Post} {ρ : Env} {ds : List Deferred} {w : World} {c : Code}
    (h : W P ro n c (thn (fun ρ ds w => W P ro n c (thn (fun ρ ds w => W P ro n c (thn (fun _ _ _ => False) Q) ρ ds w) Q) ρ ds w) Q) ρ ds w) : W P ro n (.loop c) Q ρ ds w := by
  refine W_loop (fun m ρ ds w => (m = 2 ∧ W P ro n c (thn (fun ρ ds w => W P ro n c (thn (fun ρ ds w => W P ro n c (thn (fun _ _ _ => False) Q) ρ ds w) Q) ρ ds w) Q) ρ ds w) ∨
    (m = 1 ∧ W P ro n c (thn (fun ρ ds w => W P ro n c (thn (fun _ _ _ => False) Q) ρ ds w) Q) ρ ds w) ∨ (m = 0 ∧ W P ro n c (thn (fun _ _ _ => False) Q) ρ ds w)) 2 (.inl ⟨rfl, h⟩) ?_
  rintro m ρ ds w (⟨rfl, h⟩ | ⟨rfl, h⟩ | ⟨rfl, h⟩)
  · refine W_mono h fun e ρ ds w hq => ?_
    cases e <;> first | exact ⟨1, by omega, .inr (.inl ⟨rfl, hq⟩)⟩ | exact hq
  · refine W_mono h fun e ρ ds w hq => ?_
    cases e <;> first | exact ⟨0, by omega, .inr (.inr ⟨rfl, hq⟩)⟩ | exact hq
  · refine W_mono h fun e ρ ds w hq => ?_
    cases e <;> first | exact False.elim hq | exact hq
section
variable {P : Program} {ro : Option Nat} {w : World} {d : Option Tmp} {t : TypeId} {p : String} {e : Array Edge} {ρ' : Operand → Value} {g : Option (Nat × Bool)}
/-- a function's value, held against nil -/
theorem r_eqfn_s {x : Operand} {xt yt : TypeId} {ps rs : Array TypeId} {vr : Bool} {f : Fn} {ts : Array Value} {cap : Array Value} {vv : Value} (hu : P.underlying xt = some (.func ps rs vr)) (hx : ρ' x = .func f ts cap) (hy : ρ' (.const vv) = .nilFunc) :
    (Oper.semAt ro ρ' ⟨d, .binOp .eql xt x (.const vv) yt, t, p, e, g⟩).run P w = .ok (.value (.bool false)) w := by
  have h : ∀ d, (Op.equalIn (d + 1) xt (.func f ts cap) .nilFunc).run P w = .ok false w := fun d => by simp [Op.equalIn, run_underlying hu]
  have h2 : (Op.equal xt (.func f ts cap) .nilFunc).run P w = .ok false w := h 9999
  rw [sem_op (by simp)]; simp [execOp, hx, hy, eqGuard, binOp, h2]
end
section
variable {P : Program} {ro : Option Nat} {w : World} {d : Option Tmp} {t : TypeId} {p : String} {e : Array Edge} {ρ : Operand → Value} {g : Option (Nat × Bool)}
theorem r_eqbp {xt yt : TypeId} {x y : Operand} {pp qq : Prop} [Decidable pp] [Decidable qq] (hu : P.underlying xt = some .bool) (hx : ρ x = .bool (decide pp)) (hy : ρ y = .bool (decide qq)) :
    (Oper.semAt ro ρ ⟨d, .binOp .eql xt x y yt, t, p, e, g⟩).run P w = .ok (.value (.bool (decide (pp ↔ qq)))) w := by
  have h : (decide (pp ↔ qq)) = (decide pp == decide qq) := by
    by_cases h1 : pp <;> by_cases h2 : qq <;> simp [h1, h2]
  rw [sem_op (by simp)]; simp [execOp, hx, hy, eqGuard, binOp, run_eqb hu, h]
end
theorem rows_one {α : Type} {enc : α → List Value} (h : ∀ x, ∀ u ∈ enc x, u.oneCell' = true) (l : List α) : ∀ u ∈ rows enc l, u.oneCell' = true := by
  intro u hu
  obtain ⟨x, _, h2⟩ := List.mem_flatMap.1 hu
  exact h x u h2
end Go.Fw
