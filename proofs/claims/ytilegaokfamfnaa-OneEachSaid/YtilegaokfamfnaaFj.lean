/-
  Array variables, whole structs stored, panics and what recovers from them, make, equality of structs, appending structs.
-/
import Derived.Test.YtilegaokfamfnaaFi
import Derived.RecoverIn
import Derived.Laws.MakeOwn
import Derived.Laws.CopyRow
import Derived.Laws.StructEq
namespace Go.Fw

/-! ### blocks of integers -/
theorem Blk.icell {w : World} {b : Nat} {k : IntKind} {l : List Int} (h : Blk w b (ints k l)) {i : Nat} (hi : i < l.length) : w.cell? ⟨b, i, none⟩ = some (.int k (l.getD i 0)) := by
  rw [h.cell, ints, List.getElem?_map, List.getD_eq_getElem?_getD, List.getElem?_eq_getElem hi]; rfl
theorem ints_set {k : IntKind} {l : List Int} {i : Nat} {v : Int} : (ints k l).set i (.int k v) = ints k (l.set i v) := by rw [ints, ints, List.map_set]

/-! ### chains of panics -/
abbrev pan (v : Value) : List PanicEntry := [{ v, recovered := false }]
/-- a contract that panics -/
def Pan (v : Value) (Φ : World → Prop) : Ending → World → Prop := fun e w' => e = .panicked (pan v) ∧ Φ w'

section
variable {P : Program} {ro : Option Nat} {n : Nat} {Q : Post} {ρ : Env} {ds : List Deferred} {w : World} {ops : Array Oper} {rest : List Oper} {d : Nat} {t : TypeId} {p : String} {e : Array Edge}
theorem r_idxa {ρ' : Operand → Value} {dd : Option Tmp} {g : Option (Nat × Bool)} {at' et : TypeId} {x y : Operand} {len sz b off i' o' : Nat} {k : IntKind} {i : Int} (hu : P.underlying at' = some (.array len et)) (hsz : ∀ w, (sizeOf et).run P w = .ok sz w)
    (hx : ρ' x = .pointer (some ⟨b, off, none⟩)) (hy : ρ' y = .int k i) (hi : i = i') (h1 : i' < len) (ho : off + i' * sz = o') :
    (Oper.semAt ro ρ' ⟨dd, .indexAddr at' x y, t, p, e, g⟩).run P w = .ok (.value (.pointer (some ⟨b, o', none⟩))) w := by
  subst hi ho
  have h2 : (i' : Int) < len := by omega
  have hadd : (⟨b, off, none⟩ : Addr).add (i' * sz) = ⟨b, off + i' * sz, none⟩ := by unfold Addr.add; split <;> simp_all
  rw [sem_op (by simp)]; simp [execOp, hx, hy, Instr.indexAt, asIntOf, run_underlying hu, hsz, Instr.sureAddr, h1, hadd]
theorem Wl_storei {st : TypeId} {x y : Operand} {b i : Nat} {l l' : List Int} {k : IntKind} {v : Int} {dd : Option Nat} (hsz : ∀ w, (sizeOf st).run P w = .ok 1 w) (hx : ev n ρ x = .pointer (some ⟨b, i, none⟩)) (hy : ev n ρ y = .int k v)
    (hb : Blk w b (ints k l)) (hi : i < l.length) (hl : l.set i v = l')
    (h : ∀ w', Upd (Is b) w w' → w'.heap.size = w.heap.size → Blk w' b (ints k l') → Wl P ro n ops Q rest (put ρ dd undef) ds w') :
    Wl P ro n ops Q (⟨dd, .store st x y, t, p, e, none⟩ :: rest) ρ ds w := by
  subst hl
  refine Wl_store (u := .int k (l.getD i 0)) hsz hx hy rfl rfl hb ?_ ints_set h
  rw [ints, List.getElem?_map, List.getD_eq_getElem?_getD, List.getElem?_eq_getElem hi]; rfl
/-- a whole struct or array, stored -/
theorem Wl_storea {st : TypeId} {x y : Operand} {b off sz : Nat} {cs vs cs' : List Value} {dd : Option Nat} (hsz : ∀ w, (sizeOf st).run P w = .ok sz w) (hx : ev n ρ x = .pointer (some ⟨b, off, none⟩)) (hy : ev n ρ y = .agg vs.toArray)
    (hv : vs.length = sz) (h1 : ∀ u ∈ vs, u.oneCell' = true) (hb : Blk w b cs) (hfit : off + vs.length ≤ cs.length) (hcs : cs.take off ++ vs ++ cs.drop (off + vs.length) = cs')
    (h : ∀ w', Upd (Is b) w w' → w'.heap.size = w.heap.size → Blk w' b cs' → Wl P ro n ops Q rest (put ρ dd undef) ds w') :
    Wl P ro n ops Q (⟨dd, .store st x y, t, p, e, none⟩ :: rest) ρ ds w := by
  obtain ⟨tt, hg⟩ := hb
  have hst := run_storeCells_at P b off tt vs 0 cs.toArray w hg (by simpa using hfit) h1
  simp only [Nat.add_zero] at hst
  rw [hcs] at hst
  refine Wl_u (w' := w.setRow b cs'.toArray) ?_ (h _ ?_ ?_ ?_)
  · rw [sem_op (by simp)]
    simp only [execOp, hx, hy, Instr.storeAt, Instr.sureAddr, storeVar, Value.cells, Sem.run_bind, Sem.run_pure, Result.andThen_ok, hsz]
    simp [hv, hst]
  · exact ⟨rfl, rfl, rfl, by simp, fun g _ hg2 => setRow_other w b g _ (fun e => hg2 e)⟩
  · simp
  · exact ⟨tt, setRow_heap w b cs.toArray _ tt _ hg⟩
theorem Wl_panic {x : Operand} {T : TypeId} {v : Value} {dd : Option Nat} (hx : ev n ρ x = .iface T v) (h : Q (.panic (pan (.iface T v))) ρ ds w) : Wl P ro n ops Q (⟨dd, .panic x, t, p, e, none⟩ :: rest) ρ ds w := by
  refine Wl_run rfl ?_
  have hr : (Oper.semAt ro (ev n ρ) ⟨dd, .panic x, t, p, e, none⟩).run P w = .halt (.panic (.iface T v)) w := by
    rw [sem_op (by simp)]; simp [execOp, hx, Instr.panic, goPanic]
  rw [hr]
  exact h
/-- a call that panics -/
theorem Wl_callp {dd : Option Tmp} {c : Call} {f : FuncId} {args : Array Value} {v : Value} {Φ : World → Prop}
    (hr : (Oper.semAt ro (ev n ρ) ⟨dd, .call c, t, p, e, none⟩).run P w = .ok (.enter f args) w)
    (hc : Calls P f args w (Pan v Φ)) (h : ∀ w', Φ w' → Q (.panic (pan v)) ρ ds w') : Wl P ro n ops Q (⟨dd, .call c, t, p, e, none⟩ :: rest) ρ ds w := by
  refine Wl_run rfl ?_
  rw [hr]
  refine hc.mono ?_
  rintro e w' ⟨rfl, hR⟩
  exact h w' hR
theorem Wl_defer2 {f : FuncId} {x0 x1 : Operand} {v0 v1 : Value} {ts : Array TypeId} {dd : Option Nat} (h0 : ev n ρ x0 = v0) (h1 : ev n ρ x1 = v1)
    (h : Wl P none n ops Q rest (put ρ dd undef) ({ target := .fn (.func f) #[], args := #[v0, v1] } :: ds) w) :
    Wl P none n ops Q (⟨dd, .defer { callee := .value (.func f), args := #[x0, x1], argTypes := ts }, t, p, e, none⟩ :: rest) ρ ds w := by
  refine Wl_run rfl ?_
  have : (Oper.semAt none (ev n ρ) ⟨dd, .defer { callee := .value (.func f), args := #[x0, x1], argTypes := ts }, t, p, e, none⟩).run P w = .ok (.defer { target := .fn (.func f) #[], args := #[v0, v1] }) w := by
    have hf : ev n ρ (.func f) = .func (.func f) #[] #[] := rfl
    rw [Oper.semAt_none]; simp [execOp, resolve, Deferred.ofValue, hf, h0, h1]
  rw [this]
  exact h
theorem Wl_defer1 {f : FuncId} {x0 : Operand} {v0 : Value} {ts : Array TypeId} {dd : Option Nat} (h0 : ev n ρ x0 = v0)
    (h : Wl P none n ops Q rest (put ρ dd undef) ({ target := .fn (.func f) #[], args := #[v0] } :: ds) w) :
    Wl P none n ops Q (⟨dd, .defer { callee := .value (.func f), args := #[x0], argTypes := ts }, t, p, e, none⟩ :: rest) ρ ds w := by
  refine Wl_run rfl ?_
  have : (Oper.semAt none (ev n ρ) ⟨dd, .defer { callee := .value (.func f), args := #[x0], argTypes := ts }, t, p, e, none⟩).run P w = .ok (.defer { target := .fn (.func f) #[], args := #[v0] }) w := by
    have hf : ev n ρ (.func f) = .func (.func f) #[] #[] := rfl
    rw [Oper.semAt_none]; simp [execOp, resolve, Deferred.ofValue, hf, h0]
  rw [this]
  exact h
theorem r_ta {dd : Option Tmp} {ρ' : Operand → Value} {g : Option (Nat × Bool)} {x : Operand} {xt T : TypeId} {v : Value} {u : TypeDesc} (hu : P.underlying T = some u) (hi : ∀ m, u ≠ .interface m) (hx : ρ' x = .iface T v) :
    (Oper.semAt ro ρ' ⟨dd, .typeAssert x xt T true, t, p, e, g⟩).run P w = .ok (.value (.tuple #[v, .bool true])) w := by
  rw [sem_op (by simp)]
  simp only [execOp, hx, Instr.typeAssert, Sem.run_bind, run_underlying hu, Result.andThen_ok]
  cases u <;> first | exact absurd rfl (hi _) | simp
theorem r_nei_n {dd : Option Tmp} {ρ' : Operand → Value} {g : Option (Nat × Bool)} {x : Operand} {xt yt : TypeId} {ms : Array (String × TypeId)} {vv : Value} (hu : P.underlying xt = some (.interface ms)) (hx : ρ' x = .nilIface) (hy : ρ' (.const vv) = .nilIface) :
    (Oper.semAt ro ρ' ⟨dd, .binOp .neq xt x (.const vv) yt, t, p, e, g⟩).run P w = .ok (.value (.bool false)) w := by
  have h : ∀ d, (Op.equalIn (d + 1) xt .nilIface .nilIface).run P w = .ok true w := fun d => by simp [Op.equalIn, run_underlying hu]
  have h2 : (Op.equal xt .nilIface .nilIface).run P w = .ok true w := h 9999
  rw [sem_op (by simp)]; simp [execOp, hx, hy, eqGuard, binOp, h2]
theorem r_nei_s {dd : Option Tmp} {ρ' : Operand → Value} {g : Option (Nat × Bool)} {x : Operand} {xt yt T : TypeId} {v : Value} {ms : Array (String × TypeId)} {vv : Value} (hu : P.underlying xt = some (.interface ms)) (hx : ρ' x = .iface T v) (hy : ρ' (.const vv) = .nilIface) :
    (Oper.semAt ro ρ' ⟨dd, .binOp .neq xt x (.const vv) yt, t, p, e, g⟩).run P w = .ok (.value (.bool true)) w := by
  have h : ∀ d, (Op.equalIn (d + 1) xt (.iface T v) .nilIface).run P w = .ok false w := fun d => by simp [Op.equalIn, run_underlying hu]
  have h2 : (Op.equal xt (.iface T v) .nilIface).run P w = .ok false w := h 9999
  rw [sem_op (by simp)]; simp [execOp, hx, hy, eqGuard, binOp, h2]
end

/-! ### recovering -/
section
variable {P : Program} {fn : Func} {n : Nat} {w : World}
theorem CD_recover {f : FuncId} {rest : Code} {rid a b : Nat} {ops : Array Oper} {o1 o2 : Oper} {args : Array Value} {u u' : FrameMode} {v : Value} {RR : Ending → World → Prop}
    (hf : P.funcs[f]? = some fn) (hb : fn.body = some (.seq (.region rid ops false) rest)) (hn : fn.ntmps = n) (ha : args.size ≤ n) (hops : ops = #[o1, o2])
    (h1 : ∀ ρ w, (execOp ρ o1).run P w = .ok .recover w) (hg1 : o1.guard = none) (hd1 : o1.dst = some a) (h2 : ∀ ρ w, (execOp ρ o2).run P w = .ok (.value (ρ (.tmp a))) w) (hg2 : o2.guard = none) (hd2 : o2.dst = some b) (han : a < n)
    (hrec : ∀ (c₀ : Frame) cs, c₀.mode = u → recoverD (c₀ :: cs) = some (v, { c₀ with mode := u' } :: cs) ∨ (recoverD (c₀ :: cs) = none ∧ v = .nilIface ∧ u' = u))
    (h : W P none n rest (fun e ρ ds w => bodyPost P fn RR e ⟨tab n ρ, ds⟩ w) (upd (upd (envOf args.toList 0) a v) b v) [] w) :
    CD P f args u w fun e u'' w' => u'' = u' ∧ RR e w' := by
  subst hn hops
  refine callsDIn_of_wpSIn hf hb trivial fun c₀ cs hu => ?_
  rw [enter_tab args fn.ntmps ha]
  refine wpSIn_seq (wpSIn_region ?_)
  have hc : ({ c₀ with mode := u' } : Frame) :: cs = if recoverD (c₀ :: cs) = none then c₀ :: cs else { c₀ with mode := u' } :: cs := by
    split
    · rename_i hno
      rcases hrec c₀ cs hu with h3 | ⟨_, _, h5⟩
      · rw [hno] at h3; cases h3
      · subst h5; rw [← hu]
    · rfl
  have key : ∀ cs', cs' = ({ c₀ with mode := u' } : Frame) :: cs → rest.wpSIn (Fo none) 0 P (bodyPostS P fn c₀ cs fun e u'' w' => u'' = u' ∧ RR e w') ⟨tab fn.ntmps (upd (upd (envOf args.toList 0) a v) b v), []⟩ cs' w := by
    rintro cs' rfl
    refine wpSIn_of_wpIn rfl (wpIn_mono h ?_)
    rintro e ⟨t, d⟩ w' ⟨ρ', h3, h4⟩
    simp only at h3 h4
    subst h3
    cases e with
    | normal => obtain ⟨h5, v', h6, h7⟩ := h4; exact ⟨h5, u', rfl, v', h6, rfl, h7⟩
    | ret => obtain ⟨h5, v', h6, h7⟩ := h4; exact ⟨h5, u', rfl, v', h6, rfl, h7⟩
    | panic ch => obtain ⟨h5, h6⟩ := h4; exact ⟨h5, u', rfl, rfl, h6⟩
    | outgrown => exact ⟨u', rfl, h4⟩
    | exit id => exact h4.elim
    | goto l => exact h4.elim
  have w1 : ∀ y, Region.wanted o1 y = true := fun y => by simp [Region.wanted, hg1]
  have w2 : ∀ y, Region.wanted o2 y = true := fun y => by simp [Region.wanted, hg2]
  have step2 : ∀ cs', cs' = ({ c₀ with mode := u' } : Frame) :: cs → wpOpsSIn (Fo none) 0 P #[o1, o2] (Exit.thenS (rest.wpSIn (Fo none) 0 P (bodyPostS P fn c₀ cs fun e u'' w' => u'' = u' ∧ RR e w')) (bodyPostS P fn c₀ cs fun e u'' w' => u'' = u' ∧ RR e w')) [1]
      ((⟨tab fn.ntmps (envOf args.toList 0), []⟩ : Act).put (some a) v) cs' w := by
    intro cs' hcs'
    simp only [wpOpsSIn, show (#[o1, o2] : Array Oper)[1]? = some o2 from rfl, w2, if_true, h2]
    refine ⟨fun _ _ => trivial, ?_⟩
    rw [hd2, act_put, act_eval, act_put]
    simp only [put, ev, blt_t han, cond_true, upd_same]
    exact key cs' hcs'
  rw [show List.range (#[o1, o2] : Array Oper).size = [0, 1] from rfl]
  rw [wpOpsSIn]
  simp only [show (#[o1, o2] : Array Oper)[0]? = some o1 from rfl, w1, if_true, h1]
  refine ⟨fun _ _ => trivial, ?_⟩
  rcases hrec c₀ cs hu with h3 | ⟨h3, h4, h5⟩
  · rw [h3, hd1]
    exact step2 _ rfl
  · rw [h3, hd1]
    subst h4 h5
    exact step2 _ (by rw [← hu])
theorem rec_some {v : Value} (c₀ : Frame) (cs : List Frame) (h : c₀.mode = .panicking (pan v)) : recoverD (c₀ :: cs) = some (v, { c₀ with mode := .panicking [{ v, recovered := true }] } :: cs) := by
  simp [recoverD, h, pan]
theorem rec_none (c₀ : Frame) (cs : List Frame) (h : c₀.mode = .returning) : recoverD (c₀ :: cs) = none := by
  simp [recoverD, h]
end

/-! ### results that lie in cells -/
section
variable {P : Program} {fn : Func} {n : Nat} {ρ : Env} {w : World}
theorem res_slot {a : Nat} {v : Value} (h : ev n ρ (.tmp a) = v) : (tab n ρ)[a]?.getD undef = v := by
  have e1 := (Array.getD_eq_getD_getElem? (xs := tab n ρ) (i := a) (d := undef)).symm.trans (tab_getD n ρ a)
  rw [h] at e1; exact e1
/-- a result in a cell: what its load yields -/
def CellIs (P : Program) (t : TypeId) (b : Nat) (v : Value) (w : World) : Prop := (loadVar t ⟨b, 0, none⟩).run P w = .ok v w
theorem cellIs {t : TypeId} {b : Nat} {v : Value} (g : ∀ w, (isAgg t).run P w = .ok false w) (k : Blk w b [v]) : CellIs P t b v w := by
  have c1 : w.cell? ⟨b, 0, none⟩ = some v := by rw [k.cell]; rfl
  simp [CellIs, loadVar, g, c1]
theorem cellAgg {t : TypeId} {b sz : Nat} {cs : List Value} (g : ∀ w, (isAgg t).run P w = .ok true w) (hs : ∀ w, (sizeOf t).run P w = .ok sz w) (hl : cs.length = sz) (k : Blk w b cs) : CellIs P t b (.agg cs.toArray) w := by
  have := load_cells (P := P) (w := w) (b := b) (off := 0) hl (fun j _ => by rw [k.cell, Nat.zero_add])
  simp [CellIs, loadVar, g, hs, this]
theorem rc1 {a : Tmp} {ta : TypeId} {b1 : Nat} {v1 : Value} (h : fn.results = #[.cell a ta]) (h1 : ev n ρ (.tmp a) = .pointer (some ⟨b1, 0, none⟩)) (k1 : CellIs P ta b1 v1 w) : (results fn (tab n ρ)).run P w = .ok v1 w := by
  have e1 := res_slot h1
  unfold CellIs at k1
  simp only [results, h]
  simp [e1, asAddr, k1]
theorem rc2 {a b : Tmp} {ta tb : TypeId} {b1 b2 : Nat} {v1 v2 : Value} (h : fn.results = #[.cell a ta, .cell b tb]) (h1 : ev n ρ (.tmp a) = .pointer (some ⟨b1, 0, none⟩)) (h2 : ev n ρ (.tmp b) = .pointer (some ⟨b2, 0, none⟩))
    (k1 : CellIs P ta b1 v1 w) (k2 : CellIs P tb b2 v2 w) : (results fn (tab n ρ)).run P w = .ok (.tuple #[v1, v2]) w := by
  have e1 := res_slot h1
  have e2 := res_slot h2
  unfold CellIs at k1 k2
  simp only [results, h]
  simp [e1, e2, asAddr, k1, k2]
theorem rc3 {a b c : Tmp} {ta tb tc : TypeId} {b1 b2 b3 : Nat} {v1 v2 v3 : Value} (h : fn.results = #[.cell a ta, .cell b tb, .cell c tc]) (h1 : ev n ρ (.tmp a) = .pointer (some ⟨b1, 0, none⟩)) (h2 : ev n ρ (.tmp b) = .pointer (some ⟨b2, 0, none⟩)) (h3 : ev n ρ (.tmp c) = .pointer (some ⟨b3, 0, none⟩))
    (k1 : CellIs P ta b1 v1 w) (k2 : CellIs P tb b2 v2 w) (k3 : CellIs P tc b3 v3 w) : (results fn (tab n ρ)).run P w = .ok (.tuple #[v1, v2, v3]) w := by
  have e1 := res_slot h1
  have e2 := res_slot h2
  have e3 := res_slot h3
  unfold CellIs at k1 k2 k3
  simp only [results, h]
  simp [e1, e2, e3, asAddr, k1, k2, k3]
end

/-! ### make -/
theorem madeCells_rep (zc : List Value) (c : Nat) (hz : 0 < zc.length) : madeCells zc.toArray (c * zc.length) = (List.replicate c zc).flatten.toArray := by
  apply Array.ext_getElem?
  intro i
  simp only [madeCells, List.size_toArray, List.getElem?_toArray, Array.getElem?_map]
  rcases Nat.lt_or_ge i (c * zc.length) with h | h
  · rw [Array.getElem?_range, if_pos h]
    have h1 : i % zc.length < zc.length := Nat.mod_lt _ hz
    have key : ∀ (c i : Nat), i < c * zc.length → (List.replicate c zc).flatten[i]? = zc[i % zc.length]? := by
      intro c
      induction c with
      | zero => intro i h; omega
      | succ c ih =>
        intro i h
        rw [List.replicate_succ, List.flatten_cons]
        rcases Nat.lt_or_ge i zc.length with h2 | h2
        · rw [List.getElem?_append_left h2, Nat.mod_eq_of_lt h2]
        · rw [List.getElem?_append_right h2, ih _ (by rw [Nat.add_mul] at h; omega)]
          rw [show i % zc.length = (i - zc.length) % zc.length from by rw [← Nat.mod_eq_sub_mod h2]]
    rw [key c i h]
    simp [h1]
  · rw [Array.getElem?_eq_none (by simpa using h), List.getElem?_eq_none (by simp; omega)]; rfl
theorem rows_rep {α : Type} {enc : α → List Value} (x : α) (c : Nat) : (List.replicate c (enc x)).flatten = rows enc (List.replicate c x) := by
  unfold rows
  induction c with
  | zero => rfl
  | succ c ih => rw [List.replicate_succ, List.replicate_succ, List.flatten_cons, List.flatMap_cons, ih]
section
variable {P : Program} {ro : Option Nat} {n : Nat} {Q : Post} {ρ : Env} {ds : List Deferred} {w : World} {ops : Array Oper} {rest : List Oper} {d : Nat} {t : TypeId} {p : String} {e : Array Edge}
theorem Wl_make {st et : TypeId} {ti : TypeInfo} {z : Value} {zc : List Value} {x y : Operand} {kl kc : IntKind} {l c : Int} {l' c' : Nat} (hu : P.underlying st = some (.slice et)) (hi : P.info? et = some ti) (hz : ti.zero = some z) (hzc : z.cells = zc.toArray) (hsz : ti.size = zc.length) (hpos : 0 < zc.length)
    (hx : ev n ρ x = .int kl l) (hy : ev n ρ y = .int kc c) (hl : l = l') (hc : c = c') (hlc : l' ≤ c') (hb : ti.bytes * c' ≤ 281474976710656) (h63 : c' ≤ 9223372036854775807)
    (h : ∀ b w', w.heap.size = b → Upd No w w' → w'.heap.size = b + 1 → Blk w' b (List.replicate c' zc).flatten → Wl P ro n ops Q rest (upd ρ d (.slice (some ⟨b, 0, none⟩) l' c')) ds w') :
    Wl P ro n ops Q (⟨some d, .makeSlice st x y, t, p, e, none⟩ :: rest) ρ ds w := by
  subst hl hc
  have hbi : (ti.bytes : Int) * (c' : Int) ≤ 281474976710656 := by
    have : ((ti.bytes * c' : Nat) : Int) ≤ 281474976710656 := by omega
    rwa [Int.natCast_mul] at this
  have hr := run_make (P := P) w st et ti z hu hi hz kl kc l' c' (by omega) (by omega) hbi (by omega)
  rw [hzc, hsz, Int.toNat_natCast, Int.toNat_natCast, madeCells_rep zc c' hpos] at hr
  refine Wl_v (v := .slice (some ⟨w.heap.size, 0, none⟩) l' c') (w' := w.alloc (.cells (List.replicate c' zc).flatten.toArray et)) ?_ (h _ _ rfl (upd_alloc _ _) (by simp) (blk_alloc w _ et))
  rw [sem_op (by simp)]; simp only [execOp, hx, hy, Sem.run_bind, hr, Result.andThen_ok, Sem.run_pure]
end
/-- a block that was made for a slice: the slice owns it -/
theorem Blk.own {w : World} {b sz c : Nat} {e : TypeId} {cs : List Value} (h : ∃ t, t = e ∧ w.heap[b]? = some (.cells cs.toArray t (0, 0))) (hl : cs.length = c * sz) (hc : c ≤ maxLen) : Own w (Is b) e sz (.slice (some ⟨b, 0, none⟩) c c) c cs := by
  obtain ⟨t, rfl, ht⟩ := h
  exact ⟨⟨hl, .inr ⟨b, c, cs.toArray, rfl, Nat.zero_le _, ht, Nat.le_refl _, hc, by simpa using hl, by simp [← hl]⟩⟩, fun k hk => by simp [Value.ownBlock] at hk; exact hk.symm⟩
/-- what a block reads as a slice -/
theorem Blk.sl {w : World} {b off n c : Nat} {k : IntKind} {l : List Int} (h : Blk w b (ints k l)) (hn : n ≤ c) (hc : c ≤ maxLen) (hl : off + n ≤ l.length) : Sl w (Is b) 1 (.slice (some ⟨b, off, none⟩) n c) n (ints k ((l.drop off).take n)) := by
  obtain ⟨t, ht⟩ := h
  refine ⟨by simp [ints]; omega, _, _, rfl, hn, hc, .inr ⟨b, off, _, t, _, rfl, rfl, ht, fun i hi => ?_⟩⟩
  simp only [List.getElem?_toArray, ints, List.getElem?_map, List.getElem?_take, List.getElem?_drop]
  rw [if_pos (by omega)]
end Go.Fw
