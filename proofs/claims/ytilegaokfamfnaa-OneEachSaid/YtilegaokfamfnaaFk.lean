/-
  Slices of structs that are written; equality of structs; make for a slice of the call's own; first index.
-/
import Derived.Test.YtilegaokfamfnaaFj
namespace Go.Fw

section
variable {P : Program} {ro : Option Nat} {n : Nat} {Q : Post} {ρ : Env} {ds : List Deferred} {w : World} {ops : Array Oper} {rest : List Oper} {d : Nat} {t : TypeId} {p : String} {e : Array Edge}
theorem Wl_makeo {st et : TypeId} {ti : TypeInfo} {z : Value} {zc cs : List Value} {sz : Nat} {x y : Operand} {kl kc : IntKind} {l c : Int} {c' : Nat} (hu : P.underlying st = some (.slice et)) (hi : P.info? et = some ti) (hz : ti.zero = some z) (hzc : z.cells = zc.toArray) (hsz : ti.size = zc.length) (hpos : 0 < zc.length)
    (hx : ev n ρ x = .int kl l) (hy : ev n ρ y = .int kc c) (hl : l = c') (hc : c = c') (hb : ti.bytes * c' ≤ 281474976710656) (h63 : c' ≤ maxLen) (hcs : (List.replicate c' zc).flatten = cs) (hzs : zc.length = sz)
    (h : ∀ b w', w.heap.size = b → Upd No w w' → w'.heap.size = b + 1 → Own w' (Is b) et sz (.slice (some ⟨b, 0, none⟩) c' c') c' cs → Wl P ro n ops Q rest (upd ρ d (.slice (some ⟨b, 0, none⟩) c' c')) ds w') :
    Wl P ro n ops Q (⟨some d, .makeSlice st x y, t, p, e, none⟩ :: rest) ρ ds w := by
  subst hl hc hcs hzs
  have hbi : (ti.bytes : Int) * (c' : Int) ≤ 281474976710656 := by
    have : ((ti.bytes * c' : Nat) : Int) ≤ 281474976710656 := by omega
    rwa [Int.natCast_mul] at this
  have h63' : c' ≤ 9223372036854775807 := by simp only [maxLen] at h63; omega
  have hr := run_make (P := P) w st et ti z hu hi hz kl kc c' c' (by omega) (by omega) hbi (by omega)
  rw [hzc, hsz, Int.toNat_natCast, madeCells_rep zc c' hpos] at hr
  refine Wl_v (v := .slice (some ⟨w.heap.size, 0, none⟩) c' c') (w' := w.alloc (.cells (List.replicate c' zc).flatten.toArray et)) ?_ (h _ _ rfl (upd_alloc _ _) (by simp) (Blk.own ⟨_, rfl, World.alloc_heap_new w _⟩ (by simp) h63))
  rw [sem_op (by simp)]; simp only [execOp, hx, hy, Sem.run_bind, hr, Result.andThen_ok, Sem.run_pure]
/-- an index into a slice of structs of the call's own -/
theorem r_idxor {ρ' : Operand → Value} {dd : Option Tmp} {g' : Option (Nat × Bool)} {st et : TypeId} {x y : Operand} {m g c sz : Nat} {k' : IntKind} {i : Int} {i' o' : Nat} (hu : P.underlying st = some (.slice et)) (hsz : ∀ w, (sizeOf et).run P w = .ok sz w)
    (hx : ρ' x = .slice (some ⟨g, 0, none⟩) m c) (hy : ρ' y = .int k' i) (hi : i = i') (h1 : i' < m) (ho : i' * sz = o') :
    (Oper.semAt ro ρ' ⟨dd, .indexAddr st x y, t, p, e, g'⟩).run P w = .ok (.value (.pointer (some ⟨g, o', none⟩))) w := by
  subst hi ho
  have h2 : (i' : Int) < m := by omega
  have hadd : (⟨g, 0, none⟩ : Addr).add (i' * sz) = ⟨g, i' * sz, none⟩ := by unfold Addr.add; split <;> simp_all
  rw [sem_op (by simp)]; simp [execOp, hx, hy, Instr.indexAt, asIntOf, run_underlying hu, hsz, h1, hadd]
theorem rows_set {α : Type} {enc : α → List Value} {sz : Nat} (hs : ∀ x, (enc x).length = sz) : ∀ (l : List α) (i : Nat) (x : α), i < l.length → (rows enc l).take (i * sz) ++ enc x ++ (rows enc l).drop (i * sz + sz) = rows enc (l.set i x)
  | [], _, _, h => by simp at h
  | y :: l, 0, x, _ => by
    simp only [rows, List.flatMap_cons, Nat.zero_mul, List.take_zero, List.nil_append, Nat.zero_add, List.set_cons_zero]
    rw [List.drop_append_of_le_length (by rw [hs]; exact Nat.le_refl _), List.drop_of_length_le (by rw [hs]; exact Nat.le_refl _), List.nil_append]
  | y :: l, i + 1, x, h => by
    have ih := rows_set hs l i x (by simpa using h)
    simp only [rows, List.flatMap_cons, List.set_cons_succ] at ih ⊢
    rw [← ih, show (i + 1) * sz = (enc y).length + i * sz from by rw [hs, Nat.add_mul]; omega, List.take_length_add_append, show (enc y).length + i * sz + sz = (enc y).length + (i * sz + sz) from by omega, List.drop_length_add_append]
    simp
theorem Wl_storer {α : Type} {enc : α → List Value} {st et : TypeId} {x y : Operand} {R : Nat → Prop} {m g i sz c : Nat} {l : List α} (v : α) {dd : Option Nat} {cs : Array Value} (hs : ∀ x, (enc x).length = sz) (hpos : 0 < sz) (one : ∀ u ∈ enc v, u.oneCell' = true) (hsz : ∀ w, (sizeOf st).run P w = .ok sz w) (hx : ev n ρ x = .pointer (some ⟨g, i * sz, none⟩)) (hy : ev n ρ y = .agg cs) (hcs : cs = (enc v).toArray)
    (ho : Own w R et sz (.slice (some ⟨g, 0, none⟩) m c) m (rows enc l)) (hi : i < m)
    (h : ∀ w', Upd (Is g) w w' → w'.heap.size = w.heap.size → Own w' R et sz (.slice (some ⟨g, 0, none⟩) m c) m (rows enc (l.set i v)) → Wl P ro n ops Q rest (put ρ dd undef) ds w') :
    Wl P ro n ops Q (⟨dd, .store st x y, t, p, e, none⟩ :: rest) ρ ds w := by
  subst hcs
  have hl := rlen hs hpos ho.sl
  obtain ⟨⟨h1, h2⟩, h3⟩ := ho
  rcases h2 with ⟨h4, h5⟩ | ⟨g', cap, cur, h5, hb, hg, hnc, hcm, hcur, ht⟩
  · cases h4
  · simp only [Value.slice.injEq, Option.some.injEq, Addr.mk.injEq, and_true, true_and] at h5
    obtain ⟨rfl, rfl⟩ := h5
    have hsm : i * sz + sz ≤ m * sz := by have : (i + 1) * sz ≤ m * sz := Nat.mul_le_mul_right _ hi; rw [Nat.add_mul] at this; omega
    have hmc : m * sz ≤ cur.size := by rw [hcur]; exact Nat.mul_le_mul_right _ hnc
    have hst := run_storeCells_at P g (i * sz) et (enc v) 0 cur w hg (by rw [hs]; omega) one
    simp only [Nat.add_zero, hs] at hst
    refine Wl_u (w' := w.setRow g (cur.toList.take (i * sz) ++ enc v ++ cur.toList.drop (i * sz + sz)).toArray) ?_ (h _ ?_ ?_ ?_)
    · rw [sem_op (by simp)]
      simp only [execOp, hx, hy, Instr.storeAt, Instr.sureAddr, storeVar, Value.cells, Sem.run_bind, Sem.run_pure, Result.andThen_ok, hsz]
      simp [hs, hst]
    · exact ⟨rfl, rfl, rfl, by simp, fun z _ hz => setRow_other w g z _ (fun e => hz e)⟩
    · simp
    · refine ⟨⟨by rw [rows_len hs, List.length_set, hl], .inr ⟨g, c, _, rfl, hb, setRow_heap w g cur _ et _ hg, hnc, hcm, ?_, ?_⟩⟩, h3⟩
      · simp only [List.size_toArray, List.length_append, List.length_take, List.length_drop, Array.length_toList, hs]; omega
      · rw [← rows_set hs l i v (by omega), ← ht]
        simp only [List.take_append, List.take_take, List.length_take, Array.length_toList, List.length_append, hs, List.drop_take]
        congr 1
        · congr 1
          · congr 1; omega
          · rw [List.take_of_length_le (by rw [hs]; omega)]
        · congr 1; omega
/-- append of structs -/
theorem Wl_appendr {α : Type} {enc : α → List Value} {st et : TypeId} {ti : TypeInfo} {z : Value} {sz by' tot : Nat} {xs ys zs : List α} (hcs : xs ++ ys = zs) (hu : P.underlying st = some (.slice et)) (hi : P.info? et = some ti) (hz : ti.zero = some z) (hsz : ti.size = sz) (hby : ti.bytes = by') (hzc : z.cells.size = sz) (hpos : 0 < sz)
    {x y : Operand} {R R2 : Nat → Prop} {v v2 : Value} {m k : Nat} (hx : ev n ρ x = v) (ho : Own w R et sz v m (rows enc xs)) (hy : ev n ρ y = v2) (hs : Sl w R2 sz v2 k (rows enc ys)) (one : ∀ x, ∀ u ∈ enc x, u.oneCell' = true) (htot : m + k = tot)
    (h63 : m + k ≤ maxLen) (hb : (m + k) * by' ≤ 140737488355328)
    (h : ∀ a c w', Upd R w w' → w'.heap.size ≤ w.heap.size + 1 → Own w' (fun g => R g ∨ g = w.heap.size) et sz (.slice a tot c) tot (rows enc zs) → Wl P ro n ops Q rest (upd ρ d (.slice a tot c)) ds w') :
    Wl P ro n ops Q (⟨some d, .call { callee := .builtin .append, args := #[x, y], argTypes := #[st, st] }, t, p, e, none⟩ :: rest) ρ ds w := by
  subst htot hcs
  refine Wl_append hu hi hz hsz hby hzc hpos hx ho hy hs (fun u hu => ?_) h63 hb fun a c w' h1 h2 h3 => h a c w' h1 h2 ?_
  · obtain ⟨y, _, h2⟩ := List.mem_flatMap.1 hu
    exact one y u h2
  · rw [rows_app]; exact h3
/-! equality of structs -/
theorem eqf_nil {dep : Nat} {xs ys : Array Value} : (Op.eqFields dep xs ys []).run P w = .ok true w := by simp [Op.eqFields]
theorem eqf_int {dep : Nat} {xs ys : Array Value} {f : Field} {fs : List Field} {k k' : IntKind} {a b : Int} {r : Bool} (hn : f.name ≠ "_") (hu : P.underlying f.type = some (.int k')) (hag : ∀ w, (isAgg f.type).run P w = .ok false w)
    (hx : xs[f.offset]? = some (.int k a)) (hy : ys[f.offset]? = some (.int k b)) (hr : ∀ w, (Op.eqFields (dep + 1) xs ys fs).run P w = .ok r w) : (Op.eqFields (dep + 1) xs ys (f :: fs)).run P w = .ok (decide (a = b) && r) w := by
  have he := run_equalIn_int (P := P) w dep f.type k k' a b hu
  simp only [Op.eqFields, if_pos hn, part, Sem.run_bind, hag, Result.andThen_ok, hx, hy]
  simp [he]
  by_cases hab : a = b
  · simp [hab, hr]
  · simp [hab]
theorem eqf_bool {dep : Nat} {xs ys : Array Value} {f : Field} {fs : List Field} {a b : Bool} {r : Bool} (hn : f.name ≠ "_") (hu : P.underlying f.type = some .bool) (hag : ∀ w, (isAgg f.type).run P w = .ok false w)
    (hx : xs[f.offset]? = some (.bool a)) (hy : ys[f.offset]? = some (.bool b)) (hr : ∀ w, (Op.eqFields (dep + 1) xs ys fs).run P w = .ok r w) : (Op.eqFields (dep + 1) xs ys (f :: fs)).run P w = .ok (decide (a = b) && r) w := by
  have he := run_equalIn_bool' (P := P) w dep f.type a b hu
  simp only [Op.eqFields, if_pos hn, part, Sem.run_bind, hag, Result.andThen_ok, hx, hy]
  simp [he]
  by_cases hab : a = b
  · simp [hab, hr]
  · simp [hab]
theorem r_eqag {ρ' : Operand → Value} {dd : Option Tmp} {g : Option (Nat × Bool)} {st yt : TypeId} {x y : Operand} {xs ys : Array Value} {r : Bool} {fs : Array Field} {pp : Prop} [Decidable pp] (hu : P.underlying st = some (.struct fs)) (hp : P.stoodInHeld st = false) (hm : P.eqGuardType P.depth st = false)
    (hx : ρ' x = .agg xs) (hy : ρ' y = .agg ys) (he : ∀ w, (Op.eqFields 9999 xs ys fs.toList).run P w = .ok r w) (hr : r = decide pp) :
    (Oper.semAt ro ρ' ⟨dd, .binOp .eql st x y yt, t, p, e, g⟩).run P w = .ok (.value (.bool (decide pp))) w := by
  have hf : P.fieldsOf st = fs := by simp [Program.fieldsOf, hu]
  have h := run_eql_struct (P := P) w st xs ys
  rw [run_equalIn_struct w 9999 st xs ys (by rw [hf]; exact hu) hp, hf, he] at h
  simp only [Result.andThen_ok, hr] at h
  rw [sem_op (by simp)]; simp only [execOp, hx, hy, Sem.run_bind, run_eqGuard_agg _ _ _ _ _ _ _ hm, Result.andThen_ok, h]; simp
theorem r_neag {ρ' : Operand → Value} {dd : Option Tmp} {g : Option (Nat × Bool)} {st yt : TypeId} {x y : Operand} {xs ys : Array Value} {r : Bool} {fs : Array Field} {pp : Prop} [Decidable pp] (hu : P.underlying st = some (.struct fs)) (hp : P.stoodInHeld st = false) (hm : P.eqGuardType P.depth st = false)
    (hx : ρ' x = .agg xs) (hy : ρ' y = .agg ys) (he : ∀ w, (Op.eqFields 9999 xs ys fs.toList).run P w = .ok r w) (hr : r = decide pp) :
    (Oper.semAt ro ρ' ⟨dd, .binOp .neq st x y yt, t, p, e, g⟩).run P w = .ok (.value (.bool (!decide pp))) w := by
  have hf : P.fieldsOf st = fs := by simp [Program.fieldsOf, hu]
  have h := run_neq_struct (P := P) w st xs ys
  rw [run_equalIn_struct w 9999 st xs ys (by rw [hf]; exact hu) hp, hf, he] at h
  simp only [Result.andThen_ok, hr] at h
  rw [sem_op (by simp)]; simp only [execOp, hx, hy, Sem.run_bind, run_eqGuard_agg _ _ _ _ _ _ _ hm, Result.andThen_ok, h]; simp
/-- 's[l:h:m]' and 's[:h:m]' -/
theorem r_slice3 {ρ' : Operand → Value} {dd : Option Tmp} {g : Option (Nat × Bool)} {st et : TypeId} {x z y : Operand} {sz m c : Nat} {a : Option Addr} {k k' : IntKind} {h q : Int} {h' q' : Nat} (hu : P.underlying st = some (.slice et)) (hsz : ∀ w, (sizeOf et).run P w = .ok sz w)
    (hx : ρ' x = .slice a m c) (hz : ρ' z = .int k h) (hy : ρ' y = .int k' q) (hh : h = h') (hq : q = q') (h1 : h' ≤ q') (h2 : q' ≤ c) :
    (Oper.semAt ro ρ' ⟨dd, .slice st x none (some z) (some y), t, p, e, g⟩).run P w = .ok (.value (.slice a h' q')) w := by
  subst hh hq
  have e1 : ¬ c < q' := by omega
  have e2 : ¬ q' < h' := by omega
  have e3 : a.map (fun x => x.add 0) = a := by cases a <;> rfl
  rw [sem_op (by simp)]; simp [execOp, hx, hz, hy, Instr.sliceAt, Instr.slice, Instr.sliceBounds, Instr.sliceBound, asIntOf, run_underlying hu, hsz, h1, h2, e3]
end
theorem Sl.recap {w : World} {R : Nat → Prop} {sz m c : Nat} {a : Option Addr} {cs : List Value} (h : Sl w R sz (.slice a m c) m cs) {q : Nat} (h1 : m ≤ q) (h2 : q ≤ maxLen) : Sl w R sz (.slice a m q) m cs := by
  obtain ⟨e1, a', cap, e2, e3, e4, e5⟩ := h
  simp only [Value.slice.injEq] at e2
  obtain ⟨rfl, _, rfl⟩ := e2
  exact ⟨e1, a, q, rfl, h1, h2, e5⟩
theorem Blk.icong {w : World} {b : Nat} {k : IntKind} {l l' : List Int} (h : Blk w b (ints k l)) (e : l = l') : Blk w b (ints k l') := e ▸ h
theorem Own.rcong {α : Type} {enc : α → List Value} {w : World} {R : Nat → Prop} {et : TypeId} {sz n : Nat} {v : Value} {l l' : List α} (h : Own w R et sz v n (rows enc l)) (e : l = l') : Own w R et sz v n (rows enc l') := e ▸ h
theorem Own.icong {w : World} {R : Nat → Prop} {et : TypeId} {n : Nat} {v : Value} {k : IntKind} {l l' : List Int} (h : Own w R et 1 v n (ints k l)) (e : l = l') : Own w R et 1 v n (ints k l') := e ▸ h
theorem take0_drop {k : IntKind} {l m : List Int} (h : l.length = m.length) : (ints k l).take 0 ++ ints k m ++ (ints k l).drop (0 + (ints k m).length) = ints k m := by
  rw [List.take_zero, List.nil_append, List.drop_of_length_le (by simp [ints]; omega), List.append_nil]
theorem ints_one {k : IntKind} {l : List Int} : ∀ u ∈ ints k l, u.oneCell' = true := one_ints
theorem Upd.cellsk {w0 w : World} (h : Upd No w0 w) {b off sz : Nat} {cs : List Value} (hl : cs.length = sz) (hc : ∀ j, j < sz → w0.cell? ⟨b, off + j, none⟩ = cs[j]?) : ∀ j, j < sz → w.cell? ⟨b, off + j, none⟩ = cs[j]? := fun j hj => by
  have h1 := hc j hj
  rw [List.getElem?_eq_getElem (by omega)] at h1 ⊢
  exact h.cellk h1
theorem Sl.rat {α : Type} {enc : α → List Value} {w : World} {R : Nat → Prop} {sz n c : Nat} {a : Option Addr} {l : List α} (d : α) (hs : ∀ x, (enc x).length = sz) (hp : 0 < sz) (h : Sl w R sz (.slice a n c) n (rows enc l)) {i : Nat} (hi : i < n) :
    ∃ b off, a = some ⟨b, off, none⟩ ∧ R b ∧ ∀ j, j < sz → w.cell? ⟨b, off + i * sz + j, none⟩ = (enc (l.getD i d))[j]? := by
  obtain ⟨b, off, h1, h2, h3⟩ := h.atR hi
  refine ⟨b, off, h1, h2, fun j hj => ?_⟩
  rw [h3 j hj, rows_get hs d l i j (by rw [rlen hs hp h]; exact hi) hj]
theorem r_field {P : Program} {ro : Option Nat} {w : World} {ρ : Operand → Value} {dd : Option Tmp} {t : TypeId} {p : String} {e : Array Edge} {g : Option (Nat × Bool)} {st : TypeId} {x : Operand} {i : Nat} {fs : Array Field} {f : Field} {cs : Array Value} {v : Value} (hu : P.underlying st = some (.struct fs)) (hf : fs[i]? = some f)
    (hag : ∀ w, (isAgg f.type).run P w = .ok false w) (hx : ρ x = .agg cs) (hv : cs[f.offset]? = some v) : (Oper.semAt ro ρ ⟨dd, .field st x i, t, p, e, g⟩).run P w = .ok (.value v) w := by
  rw [sem_op (by simp)]; simp [execOp, hx, Instr.field, run_underlying hu, hf, part, hag, asAgg, hv]
/-- a slice of bools -/
def encB (x : Bool) : List Value := [.bool (decide (x = true))]
theorem encB_len (x : Bool) : (encB x).length = 1 := rfl

/-- the first index at which q holds, or -1 -/
def fidx {α : Type} (q : α → Bool) (l : List α) : Int := match l.findIdx? q with
  | some i => (i : Int)
  | none => -1
theorem fidx_at {α : Type} {q : α → Bool} {l : List α} (d : α) {k : Nat} (hk : k < l.length) (h : ∀ i, i < k → q (l.getD i d) = false) (h2 : q (l.getD k d) = true) : fidx q l = k := by
  have h3 : l.findIdx? q = some k := by
    rw [List.findIdx?_eq_some_iff_getElem]
    refine ⟨hk, by simpa [List.getD_eq_getElem?_getD, List.getElem?_eq_getElem hk] using h2, fun j hj => ?_⟩
    have := h j hj
    simp [List.getD_eq_getElem?_getD, List.getElem?_eq_getElem (show j < l.length by omega)] at this
    simp [this]
  simp [fidx, h3]
theorem fidx_none {α : Type} {q : α → Bool} {l : List α} (d : α) (h : ∀ i, i < l.length → q (l.getD i d) = false) : fidx q l = -1 := by
  have h3 : l.findIdx? q = none := by
    rw [List.findIdx?_eq_none_iff]
    intro x hx
    obtain ⟨i, hi, rfl⟩ := List.mem_iff_getElem.1 hx
    have := h i hi
    simpa [List.getD_eq_getElem?_getD, List.getElem?_eq_getElem hi] using this
  simp [fidx, h3]
theorem fidx_cases {α : Type} (q : α → Bool) (l : List α) (d : α) : (fidx q l = -1 ∧ ∀ i, i < l.length → q (l.getD i d) = false) ∨ ∃ k : Nat, fidx q l = k ∧ k < l.length ∧ q (l.getD k d) = true ∧ ∀ i, i < k → q (l.getD i d) = false := by
  cases h : l.findIdx? q with
  | none =>
    refine .inl ⟨by simp [fidx, h], fun i hi => ?_⟩
    rw [List.findIdx?_eq_none_iff] at h
    have := h l[i] (List.getElem_mem hi)
    simpa [List.getD_eq_getElem?_getD, List.getElem?_eq_getElem hi] using this
  | some k =>
    rw [List.findIdx?_eq_some_iff_getElem] at h
    obtain ⟨h1, h2, h3⟩ := h
    refine .inr ⟨k, by simp [fidx, List.findIdx?_eq_some_iff_getElem.2 ⟨h1, h2, h3⟩], h1, by simpa [List.getD_eq_getElem?_getD, List.getElem?_eq_getElem h1] using h2, fun i hi => ?_⟩
    have := h3 i hi
    simpa [List.getD_eq_getElem?_getD, List.getElem?_eq_getElem (show i < l.length by omega)] using this
end Go.Fw
