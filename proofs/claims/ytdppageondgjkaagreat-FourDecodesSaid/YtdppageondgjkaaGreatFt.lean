/-
  Pieces of a slice with their own capacity; an array as a slice; an element of an array's value.
-/
import Derived.Test.YtdppageondgjkaaGreatFB
set_option maxRecDepth 100000
namespace Go.Fw
def Dual (A : Prop) (R1 R2 : Ending → World → Prop) : Ending → World → Prop := fun e w => (A ∧ R1 e w) ∨ (¬ A ∧ R2 e w)
section
variable {P : Program} {ro : Option Nat} {w : World} {t : TypeId} {p : String} {e : Array Edge} {ρ' : Operand → Value} {dd : Option Tmp} {g : Option (Nat × Bool)}
theorem r_slicef {st et : TypeId} {x y z u : Operand} {sz m c : Nat} {a : Option Addr} {k k' k'' : IntKind} {l h q : Int} {l' h' q' n' c' : Nat} (hu : P.underlying st = some (.slice et)) (hsz : ∀ w, (sizeOf et).run P w = .ok sz w)
    (hx : ρ' x = .slice a m c) (hy : ρ' y = .int k l) (hz : ρ' z = .int k' h) (hq : ρ' u = .int k'' q) (hl : l = l') (hh : h = h') (hq2 : q = q') (h1 : l' ≤ h') (h2 : h' ≤ q') (h3 : q' ≤ c) (hn : h' - l' = n') (hc : q' - l' = c') :
    (Oper.semAt ro ρ' ⟨dd, .slice st x (some y) (some z) (some u), t, p, e, g⟩).run P w = .ok (.value (.slice (if q' = l' then a else a.map (·.add (l' * sz))) n' c')) w := by
  subst hl hh hq2 hn hc
  rw [sem_op (by simp)]; simp [execOp, hx, hy, hz, hq, Instr.sliceAt, Instr.slice, Instr.sliceBounds, Instr.sliceBound, asIntOf, run_underlying hu, hsz, h1, h2, h3]
theorem r_slicearr {at' et : TypeId} {x : Operand} {sz len b : Nat} (hu : P.underlying at' = some (.array len et)) (hsz : ∀ w, (sizeOf et).run P w = .ok sz w) (hx : ρ' x = .pointer (some ⟨b, 0, none⟩)) :
    (Oper.semAt ro ρ' ⟨dd, .slice at' x none none none, t, p, e, g⟩).run P w = .ok (.value (.slice (some ⟨b, 0, none⟩) len len)) w := by
  have e3 : (⟨b, 0, none⟩ : Addr).add 0 = ⟨b, 0, none⟩ := rfl
  rw [sem_op (by simp)]; simp [execOp, hx, Instr.sliceAt, Instr.sliceBounds, run_underlying hu, hsz, Instr.sureAddr, e3]
theorem r_indexa {at' et : TypeId} {x y : Operand} {len : Nat} {cs : Array Value} {k : IntKind} {i : Int} {i' : Nat} {v : Value} (hu : P.underlying at' = some (.array len et)) (hsz : ∀ w, (sizeOf et).run P w = .ok 1 w) (hag : ∀ w, (isAgg et).run P w = .ok false w)
    (hx : ρ' x = .agg cs) (hy : ρ' y = .int k i) (hi : i = i') (h1 : i' < len) (hv : cs[i']? = some v) :
    (Oper.semAt ro ρ' ⟨dd, .index at' x y, t, p, e, g⟩).run P w = .ok (.value v) w := by
  subst hi
  have h2 : (i' : Int) < len := by omega
  rw [sem_op (by simp)]; simp [execOp, hx, hy, Instr.index, asIntOf, run_underlying hu, hsz, h1, part, hag, hv]
end
theorem Sl.cutc {w : World} {R : Nat → Prop} {sz m c : Nat} {a : Option Addr} {cs : List Value} (h : Sl w R sz (.slice a m c) m cs) {k : Nat} (hk : k ≤ m) : Sl w R sz (.slice a k c) k (cs.take (k * sz)) := by
  obtain ⟨e1, a', cap, e2, e3, e4, e5⟩ := h
  simp only [Value.slice.injEq] at e2
  obtain ⟨rfl, _, rfl⟩ := e2
  have hle : k * sz ≤ m * sz := Nat.mul_le_mul_right _ hk
  refine ⟨by rw [List.length_take]; omega, _, _, rfl, by omega, by omega, ?_⟩
  rcases e5 with e5 | ⟨b, off, cc, t, f, rfl, hR, hb, hc⟩
  · exact .inl (by omega)
  exact .inr ⟨b, off, cc, t, f, rfl, hR, hb, fun i hi => by rw [List.getElem?_take, if_pos hi]; exact hc i (by omega)⟩
section
variable {P : Program} {ro : Option Nat} {n : Nat} {Q : Post} {ρ : Env} {ds : List Deferred} {w : World} {ops : Array Oper} {rest : List Oper} {d : Nat} {t : TypeId} {p : String} {e : Array Edge}
theorem Wl_idxc {st et : TypeId} {x y : Operand} {R : Nat → Prop} {m : Nat} {a : Option Addr} {c : Nat} {cs : List Value} {v : Value} {k' : IntKind} {i : Int} {i' : Nat} (hu : P.underlying st = some (.slice et)) (hsz : ∀ w, (sizeOf et).run P w = .ok 1 w)
    (hx : ev n ρ x = .slice a m c) (hy : ev n ρ y = .int k' i) (hi : i = i') (hs : Sl w R 1 (.slice a m c) m cs) (h1 : i' < m) (hv : cs[i']? = some v)
    (h : ∀ b off, w.cell? ⟨b, off, none⟩ = some v → Wl P ro n ops Q rest (upd ρ d (.pointer (some ⟨b, off, none⟩))) ds w) :
    Wl P ro n ops Q (⟨some d, .indexAddr st x y, t, p, e, none⟩ :: rest) ρ ds w := by
  subst hi
  refine Wl_idx hu hsz hx hy hs (by omega) (by omega) fun b off hc => h b off ?_
  have h2 := hc 0 (by decide)
  rw [Int.toNat_natCast, Nat.mul_one, Nat.add_zero, Nat.add_zero, hv] at h2
  exact h2
end
theorem Sl.icong {w : World} {R : Nat → Prop} {n : Nat} {v : Value} {k : IntKind} {l l' : List Int} (h : Sl w R 1 v n (ints k l)) (e : l = l') : Sl w R 1 v n (ints k l') := e ▸ h
theorem Sl.of_blk {w : World} {b : Nat} {cs : List Value} {n : Nat} (h : Blk w b cs) (hn : cs.length = n) (hm : n ≤ maxLen) : Sl w (fun g => g = b) 1 (.slice (some ⟨b, 0, none⟩) n n) n cs := by
  refine ⟨by omega, _, _, rfl, Nat.le_refl _, hm, .inr ?_⟩
  obtain ⟨t, ht⟩ := h
  exact ⟨b, 0, cs.toArray, t, (0, 0), rfl, rfl, ht, fun i hi => by rw [Nat.zero_add]; simp⟩
theorem Sl.cutf {w : World} {R : Nat → Prop} {m c : Nat} {a : Option Addr} {K : IntKind} {li : List Int} (h : Sl w R 1 (.slice a m c) m (ints K li)) {l n q : Nat} (h1 : l + n ≤ q) (h2 : l + n ≤ m) (h3 : q ≤ c) :
    Sl w R 1 (.slice (if q = l then a else a.map (·.add (l * 1))) n (q - l)) n (ints K ((li.drop l).take n)) := by
  have hc := h.cap
  obtain ⟨e1, a', cap, e2, e3, e4, e5⟩ := h.cutn (l := l) (n := n) h2
  simp only [Value.slice.injEq] at e2
  obtain ⟨rfl, _, rfl⟩ := e2
  refine ⟨e1, _, _, rfl, by omega, by omega, ?_⟩
  rcases Nat.eq_zero_or_pos n with h0 | h0
  · exact .inl h0
  rw [if_neg (by omega)] at e5
  rw [if_neg (by omega)]
  exact e5
end Go.Fw
