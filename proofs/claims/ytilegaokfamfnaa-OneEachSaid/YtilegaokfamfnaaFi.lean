/-
  Slices of structs, whole structs loaded, elements of a slice of the call's own that are written.
-/
import Derived.Test.YtilegaokfamfnaaFh
namespace Go.Fw

/-- the cells of a slice of structs -/
def rows {α : Type} (enc : α → List Value) (l : List α) : List Value := l.flatMap enc
theorem rows_len {α : Type} {enc : α → List Value} {sz : Nat} (hs : ∀ x, (enc x).length = sz) : ∀ l : List α, (rows enc l).length = l.length * sz
  | [] => by simp [rows]
  | x :: l => by
    have := rows_len hs l
    simp only [rows, List.flatMap_cons, List.length_append, List.length_cons, hs, Nat.add_mul] at this ⊢
    omega
theorem rows_get {α : Type} {enc : α → List Value} {sz : Nat} (hs : ∀ x, (enc x).length = sz) (dflt : α) : ∀ (l : List α) (i j : Nat), i < l.length → j < sz → (rows enc l)[i * sz + j]? = (enc (l.getD i dflt))[j]?
  | [], _, _, h, _ => by simp at h
  | x :: l, 0, j, _, hj => by
    simp only [rows, List.flatMap_cons, Nat.zero_mul, Nat.zero_add]
    rw [List.getElem?_append_left (by rw [hs]; exact hj)]; rfl
  | x :: l, i + 1, j, h, hj => by
    simp only [List.length_cons] at h
    have := rows_get hs dflt l i j (by omega) hj
    simp only [rows, List.flatMap_cons] at this ⊢
    rw [List.getElem?_append_right (by rw [hs, Nat.add_mul]; omega), hs, show (i + 1) * sz + j - sz = i * sz + j from by rw [Nat.add_mul]; omega, this]
    rfl
theorem rows_app {α : Type} {enc : α → List Value} (l m : List α) : rows enc (l ++ m) = rows enc l ++ rows enc m := by simp [rows]
theorem rlen {α : Type} {enc : α → List Value} {sz : Nat} (hs : ∀ x, (enc x).length = sz) (hp : 0 < sz) {w : World} {R : Nat → Prop} {n : Nat} {v : Value} {l : List α} (h : Sl w R sz v n (rows enc l)) : l.length = n := by
  have h1 := h.len
  rw [rows_len hs] at h1
  exact Nat.eq_of_mul_eq_mul_right hp h1

theorem Own.addr {w : World} {R : Nat → Prop} {sz n c : Nat} {e : TypeId} {a : Option Addr} {cs : List Value} (h : Own w R e sz (.slice a n c) n cs) (hn : 0 < n) : ∃ g, a = some ⟨g, 0, none⟩ ∧ R g := by
  obtain ⟨⟨h1, h2⟩, h3⟩ := h
  rcases h2 with ⟨h4, rfl⟩ | ⟨g, cap, cur, h5, _⟩
  · omega
  · simp only [Value.slice.injEq] at h5
    obtain ⟨rfl, _, rfl⟩ := h5
    exact ⟨g, rfl, h3 g rfl⟩
theorem Own.cellAt {w : World} {R : Nat → Prop} {n c g : Nat} {e : TypeId} {k : IntKind} {l : List Int} (h : Own w R e 1 (.slice (some ⟨g, 0, none⟩) n c) n (ints k l)) {i : Nat} (hi : i < n) : w.cell? ⟨g, i, none⟩ = some (.int k (l.getD i 0)) := by
  obtain ⟨b, off, ha, _, hc⟩ := h.sl.iat hi
  simp only [Option.some.injEq, Addr.mk.injEq, and_true] at ha
  obtain ⟨rfl, rfl⟩ := ha
  rw [Nat.zero_add] at hc
  exact hc
theorem Own.setAt {w : World} {R : Nat → Prop} {n c g : Nat} {e : TypeId} {k : IntKind} {l : List Int} (h : Own w R e 1 (.slice (some ⟨g, 0, none⟩) n c) n (ints k l)) {i : Nat} (hi : i < n) (x : Int) :
    Own (w.setCell ⟨g, i, none⟩ (.int k x)) R e 1 (.slice (some ⟨g, 0, none⟩) n c) n (ints k (l.set i x)) ∧ w.frozen? ⟨g, i, none⟩ = false := by
  obtain ⟨⟨h1, h2⟩, h3⟩ := h
  rcases h2 with ⟨h4, rfl⟩ | ⟨g', cap, cur, h5, hb, hg, hnc, hcm, hcs, ht⟩
  · omega
  · simp only [Value.slice.injEq, Option.some.injEq, Addr.mk.injEq, and_true, true_and] at h5
    obtain ⟨rfl, rfl⟩ := h5
    refine ⟨⟨⟨by simpa [ints] using h1, .inr ⟨g, c, cur.setIfInBounds i (.int k x), rfl, hb, ?_, hnc, hcm, by simpa using hcs, ?_⟩⟩, h3⟩, ?_⟩
    · simp [World.setCell, Array.getElem?_modify, hg]
    · rw [Array.toList_setIfInBounds, List.take_set, ht, ints, ints, List.map_set]
    · simp [World.frozen?, hg]

section
variable {P : Program} {ro : Option Nat} {n : Nat} {Q : Post} {ρ : Env} {ds : List Deferred} {w : World} {ops : Array Oper} {rest : List Oper} {d : Nat} {t : TypeId} {p : String} {e : Array Edge}
/-- an index into a slice of structs -/
theorem Wl_idxr {α : Type} {enc : α → List Value} {st et : TypeId} {x y : Operand} {R : Nat → Prop} {sz m : Nat} {a : Option Addr} {c : Nat} {l : List α} {k' : IntKind} {i : Int} (dflt : α) (hs : ∀ x, (enc x).length = sz) (hpos : 0 < sz) (hu : P.underlying st = some (.slice et)) (hsz : ∀ w, (sizeOf et).run P w = .ok sz w)
    (hx : ev n ρ x = .slice a m c) (hy : ev n ρ y = .int k' i) (hsl : Sl w R sz (.slice a m c) m (rows enc l)) (h0 : 0 ≤ i) (h1 : i < m)
    (h : ∀ b off, (∀ j, j < sz → w.cell? ⟨b, off + j, none⟩ = (enc (l.getD i.toNat dflt))[j]?) → Wl P ro n ops Q rest (upd ρ d (.pointer (some ⟨b, off, none⟩))) ds w) :
    Wl P ro n ops Q (⟨some d, .indexAddr st x y, t, p, e, none⟩ :: rest) ρ ds w := by
  have hl := rlen hs hpos hsl
  refine Wl_idx hu hsz hx hy hsl h0 h1 fun b off hc => h b off fun j hj => ?_
  rw [hc j hj, rows_get hs dflt _ _ _ (by omega) hj]
theorem load_cells {b off sz : Nat} {cs : List Value} (hl : cs.length = sz) (hc : ∀ j, j < sz → w.cell? ⟨b, off + j, none⟩ = cs[j]?) : (loadCells (⟨b, off, none⟩ : Addr) sz).run P w = .ok cs.toArray w := by
  subst hl
  refine run_loadCells_list w ⟨b, off, none⟩ cs fun j u hu => ?_
  have hj : j < cs.length := by
    rcases Nat.lt_or_ge j cs.length with h | h
    · exact h
    · simp [List.getElem?_eq_none h] at hu
  have hadd : (⟨b, off, none⟩ : Addr).add j = ⟨b, off + j, none⟩ := by unfold Addr.add; split <;> simp_all
  rw [hadd, hc j (by omega)]; exact hu
/-- a struct, loaded whole -/
theorem r_loada {dd : Option Tmp} {g : Option (Nat × Bool)} {ρ' : Operand → Value} {lt : TypeId} {x : Operand} {b off sz : Nat} {cs : List Value} (hag : ∀ w, (isAgg lt).run P w = .ok true w) (hsz : ∀ w, (sizeOf lt).run P w = .ok sz w) (hx : ρ' x = .pointer (some ⟨b, off, none⟩)) (hl : cs.length = sz)
    (hc : ∀ j, j < sz → w.cell? ⟨b, off + j, none⟩ = cs[j]?) : (Oper.semAt ro ρ' ⟨dd, .load lt x, t, p, e, g⟩).run P w = .ok (.value (.agg cs.toArray)) w := by
  rw [sem_op (by simp)]; simp [execOp, hx, Instr.loadAt, Instr.sureAddr, loadVar, hag, hsz, load_cells hl hc]
/-- an index into a slice of the call's own, at the head of its block -/
theorem Wl_idxo {st et : TypeId} {x y : Operand} {R : Nat → Prop} {m g : Nat} {c : Nat} {l : List Int} {k k' : IntKind} {i : Int} {i' : Nat} (hu : P.underlying st = some (.slice et)) (hsz : ∀ w, (sizeOf et).run P w = .ok 1 w)
    (hx : ev n ρ x = .slice (some ⟨g, 0, none⟩) m c) (hy : ev n ρ y = .int k' i) (ho : Own w R et 1 (.slice (some ⟨g, 0, none⟩) m c) m (ints k l)) (hi : i = i') (h1 : i' < m)
    (h : w.cell? ⟨g, i', none⟩ = some (.int k (l.getD i' 0)) → Wl P ro n ops Q rest (upd ρ d (.pointer (some ⟨g, i', none⟩))) ds w) :
    Wl P ro n ops Q (⟨some d, .indexAddr st x y, t, p, e, none⟩ :: rest) ρ ds w := by
  subst hi
  refine Wl_v (v := .pointer (some ⟨g, i', none⟩)) (w' := w) ?_ (h (ho.cellAt h1))
  have h2 : (i' : Int) < m := by omega
  rw [sem_op (by simp)]; simp [execOp, hx, hy, Instr.indexAt, asIntOf, run_underlying hu, hsz, h1, h2, Addr.add]
  exact fun h => h.symm
theorem Wl_storeo {st et : TypeId} {x y : Operand} {R : Nat → Prop} {m g i : Nat} {c : Nat} {l : List Int} {k : IntKind} {v : Int} {dd : Option Nat} (hsz : ∀ w, (sizeOf st).run P w = .ok 1 w) (hx : ev n ρ x = .pointer (some ⟨g, i, none⟩)) (hy : ev n ρ y = .int k v)
    (ho : Own w R et 1 (.slice (some ⟨g, 0, none⟩) m c) m (ints k l)) (hi : i < m)
    (h : ∀ w', Upd (Is g) w w' → w'.heap.size = w.heap.size → Own w' R et 1 (.slice (some ⟨g, 0, none⟩) m c) m (ints k (l.set i v)) → Wl P ro n ops Q rest (put ρ dd undef) ds w') :
    Wl P ro n ops Q (⟨dd, .store st x y, t, p, e, none⟩ :: rest) ρ ds w := by
  have hs := ho.setAt hi v
  refine Wl_u (w' := w.setCell ⟨g, i, none⟩ (.int k v)) ?_ (h _ (upd_setCell w ⟨g, i, none⟩ _) (by simp) hs.1)
  have hc := ho.cellAt hi
  have hadd : (⟨g, i, none⟩ : Addr).add 0 = ⟨g, i, none⟩ := rfl
  rw [sem_op (by simp)]; simp [execOp, hx, hy, Instr.storeAt, Instr.sureAddr, storeVar, hsz, Value.cells, storeCells, hadd, run_store P w _ (.int k v) _ rfl, hc, hs.2]
end
end Go.Fw
