/-
  Several texts of this project, put together.
-/
import Derived.Test.YtdppageondgjkaaGreatFA
import Derived.RecoverIn
import Derived.Laws.MakeOwn
import Derived.Laws.CopyRow
import Derived.Laws.StructEq
import Derived.ProofKit
import Derived.OpenShut
import Derived.JoinedOf
import Derived.JoinedCond
import Derived.SizedLaws
import Derived.Deep.CondSized
import Derived.Carry
set_option maxRecDepth 100000
namespace Go.Fw
/-! ### blocks of integers -/
theorem Blk.icell {w : World} {b : Nat} {k : IntKind} {l : List Int} (h : Blk w b (ints k l)) {i : Nat} (hi : i < l.length) : w.cell? ⟨b, i, none⟩ = some (.int k (l.getD i 0)) := by
  rw [h.cell, ints, List.getElem?_map, List.getD_eq_getElem?_getD, List.getElem?_eq_getElem hi]; rfl
theorem ints_set {k : IntKind} {l : List Int} {i : Nat} {v : Int} : (ints k l).set i (.int k v) = ints k (l.set i v) := by rw [ints, ints, List.map_set]
/-! ### chains of panics -/
abbrev pan (v : Value) : List PanicEntry := [{ v, recovered := false }]
def Pan (v : Value) (Φ : World → Prop) : Ending → World → Prop := fun e w' => e = .panicked (pan v) ∧ Φ w'
section
variable {P : Program} {ro : Option Nat} {n : Nat} {Q : Post} {ρ : Env} {ds : List Deferred} {w : World} {ops : Array Oper} {rest : List Oper} {d : Nat} {t : TypeId} {p : String} {e : Array Edge}
theorem r_idxa {ρ' : Operand → Value} {dd : Option Tmp} {g : Option (Nat × Bool)} {at' et : TypeId} {x y : Operand} {len sz b off i' o' : Nat} {k : IntKind} {i : Int} (hu : P.underlying at' = some (.array len et)) (hsz : ∀ w, (sizeOf et).run P w = .ok sz w)
    (hx : ρ' x = .pointer (some ⟨b, off, none⟩)) (hy : ρ' y = .int k i) (hi : i = i') (h1 : i' < len) (ho : off + i' * sz = o') :
    (Oper.semAt ro ρ' ⟨dd, .indexAddr at' x y, t, p, e, g⟩).run P w = .ok (.value (.pointer (some ⟨b, o', none⟩))) w := by
  subst hi ho
  have h2 : (i' : Int) < len := by omega
  have hadd : (⟨b, off, none⟩ : Addr).add (i' * sz) = ⟨b, off + i' * sz, none⟩ := by unfold Addr.add; split <;> simp_all
  rw [sem_op (by simp)]; simp [execOp, hx, hy, Instr.indexAt, asIntOf, run_underlying hu, hsz, Instr.sureAddr, h1, hadd]
theorem Wl_storei {st : TypeId} {x y : Operand} {b i : Nat} {l l' : List Int} {k : IntKind} {v : Int} {dd : Option Nat} (hsz : ∀ w, (sizeOf st).run P w = .ok 1 w) (hx : ev n ρ x = .pointer (some ⟨b, i, none⟩)) (hy : ev n ρ y = .int k v)
    (hb : Blk w b (ints k l)) (hi : i < l.length) (hl : l.set i v = l')
    (h : ∀ w', Upd (Is b) w w' → w'.heap.size = w.heap.size → Blk w' b (ints k l') → Wl P ro n ops Q rest (put ρ dd undef) ds w') :
    Wl P ro n ops Q (⟨dd, .store st x y, t, p, e, none⟩ :: rest) ρ ds w := by
  subst hl
  refine Wl_store (u := .int k (l.getD i 0)) hsz hx hy rfl rfl hb ?_ ints_set h
  rw [ints, List.getElem?_map, List.getD_eq_getElem?_getD, List.getElem?_eq_getElem hi]; rfl
theorem Wl_storea {st : TypeId} {x y : Operand} {b off sz : Nat} {cs vs cs' : List Value} {dd : Option Nat} (hsz : ∀ w, (sizeOf st).run P w = .ok sz w) (hx : ev n ρ x = .pointer (some ⟨b, off, none⟩)) (hy : ev n ρ y = .agg vs.toArray)
    (hv : vs.length = sz) (h1 : ∀ u ∈ vs, u.oneCell' = true) (hb : Blk w b cs) (hfit : off + vs.length ≤ cs.length) (hcs : cs.take off ++ vs ++ cs.drop (off + vs.length) = cs')
    (h : ∀ w', Upd (Is b) w w' → w'.heap.size = w.heap.size → Blk w' b cs' → Wl P ro n ops Q rest (put ρ dd undef) ds w') :
    Wl P ro n ops Q (⟨dd, .store st x y, t, p, e, none⟩ :: rest) ρ ds w := by
  obtain ⟨tt, hg⟩ := hb
  have hst := run_storeCells_at P b off tt vs 0 cs.toArray w hg (by simpa using hfit) h1
  simp only [Nat.add_zero] at hst
  rw [hcs] at hst
  refine Wl_u (w' := w.setRow b cs'.toArray) ?_ (h _ ?_ ?_ ?_)
  · rw [sem_op (by simp)]
    simp only [execOp, hx, hy, Instr.storeAt, Instr.sureAddr, storeVar, Value.cells, Sem.run_bind, Sem.run_pure, Result.andThen_ok, hsz]
    simp [hv, hst]
  · exact ⟨rfl, rfl, rfl, by simp, fun g _ hg2 => setRow_other w b g _ (fun e => hg2 e)⟩
  · simp
  exact ⟨tt, setRow_heap w b cs.toArray _ tt _ hg⟩
theorem Wl_panic {x : Operand} {T : TypeId} {v : Value} {dd : Option Nat} (hx : ev n ρ x = .iface T v) (h : Q (.panic (pan (.iface T v))) ρ ds w) : Wl P ro n ops Q (⟨dd, .panic x, t, p, e, none⟩ :: rest) ρ ds w := by
  refine Wl_run rfl ?_
  have hr : (Oper.semAt ro (ev n ρ) ⟨dd, .panic x, t, p, e, none⟩).run P w = .halt (.panic (.iface T v)) w := by
    rw [sem_op (by simp)]; simp [execOp, hx, Instr.panic, goPanic]
  rw [hr]
  exact h
theorem Wl_callp {dd : Option Tmp} {c : Call} {f : FuncId} {args : Array Value} {v : Value} {Φ : World → Prop}
    (hr : (Oper.semAt ro (ev n ρ) ⟨dd, .call c, t, p, e, none⟩).run P w = .ok (.enter f args) w)
    (hc : Calls P f args w (Pan v Φ)) (h : ∀ w', Φ w' → Q (.panic (pan v)) ρ ds w') : Wl P ro n ops Q (⟨dd, .call c, t, p, e, none⟩ :: rest) ρ ds w := by
  refine Wl_run rfl ?_
  rw [hr]
  refine hc.mono ?_
  rintro e w' ⟨rfl, hR⟩
  exact h w' hR
theorem Wl_defer2 {f : FuncId} {x0 x1 : Operand} {v0 v1 : Value} {ts : Array TypeId} {dd : Option Nat} (h0 : ev n ρ x0 = v0) (h1 : ev n ρ x1 = v1)
    (h : Wl P none n ops Q rest (put ρ dd undef) ({ target := .fn (.func f) #[], args := #[v0, v1] } :: ds) w) :
    Wl P none n ops Q (⟨dd, .defer { callee := .value (.func f), args := #[x0, x1], argTypes := ts }, t, p, e, none⟩ :: rest) ρ ds w := by
  refine Wl_run rfl ?_
  have : (Oper.semAt none (ev n ρ) ⟨dd, .defer { callee := .value (.func f), args := #[x0, x1], argTypes := ts }, t, p, e, none⟩).run P w = .ok (.defer { target := .fn (.func f) #[], args := #[v0, v1] }) w := by
    have hf : ev n ρ (.func f) = .func (.func f) #[] #[] := rfl
    rw [Oper.semAt_none]; simp [execOp, resolve, Deferred.ofValue, hf, h0, h1]
  rw [this]
  exact h
theorem r_ta {dd : Option Tmp} {ρ' : Operand → Value} {g : Option (Nat × Bool)} {x : Operand} {xt T : TypeId} {v : Value} {u : TypeDesc} (hu : P.underlying T = some u) (hi : ∀ m, u ≠ .interface m) (hx : ρ' x = .iface T v) :
    (Oper.semAt ro ρ' ⟨dd, .typeAssert x xt T true, t, p, e, g⟩).run P w = .ok (.value (.tuple #[v, .bool true])) w := by
  rw [sem_op (by simp)]
  simp only [execOp, hx, Instr.typeAssert, Sem.run_bind, run_underlying hu, Result.andThen_ok]
  cases u <;> first | exact absurd rfl (hi _) | simp
theorem r_nei_n {dd : Option Tmp} {ρ' : Operand → Value} {g : Option (Nat × Bool)} {x : Operand} {xt yt : TypeId} {ms : Array (String × TypeId)} {vv : Value} (hu : P.underlying xt = some (.interface ms)) (hx : ρ' x = .nilIface) (hy : ρ' (.const vv) = .nilIface) :
    (Oper.semAt ro ρ' ⟨dd, .binOp .neq xt x (.const vv) yt, t, p, e, g⟩).run P w = .ok (.value (.bool false)) w := by
  have h : ∀ d, (Op.equalIn (d + 1) xt .nilIface .nilIface).run P w = .ok true w := fun d => by simp [Op.equalIn, run_underlying hu]
  have h2 : (Op.equal xt .nilIface .nilIface).run P w = .ok true w := h 9999
  rw [sem_op (by simp)]; simp [execOp, hx, hy, eqGuard, binOp, h2]
theorem r_nei_s {dd : Option Tmp} {ρ' : Operand → Value} {g : Option (Nat × Bool)} {x : Operand} {xt yt T : TypeId} {v : Value} {ms : Array (String × TypeId)} {vv : Value} (hu : P.underlying xt = some (.interface ms)) (hx : ρ' x = .iface T v) (hy : ρ' (.const vv) = .nilIface) :
    (Oper.semAt ro ρ' ⟨dd, .binOp .neq xt x (.const vv) yt, t, p, e, g⟩).run P w = .ok (.value (.bool true)) w := by
  have h : ∀ d, (Op.equalIn (d + 1) xt (.iface T v) .nilIface).run P w = .ok false w := fun d => by simp [Op.equalIn, run_underlying hu]
  have h2 : (Op.equal xt (.iface T v) .nilIface).run P w = .ok false w := h 9999
  rw [sem_op (by simp)]; simp [execOp, hx, hy, eqGuard, binOp, h2]
end
/-! ### recovering -/
section
variable {P : Program} {fn : Func} {n : Nat} {w : World}
theorem CD_recover {f : FuncId} {rest : Code} {rid a b : Nat} {ops : Array Oper} {o1 o2 : Oper} {args : Array Value} {u u' : FrameMode} {v : Value} {RR : Ending → World → Prop}
    (hf : P.funcs[f]? = some fn) (hb : fn.body = some (.seq (.region rid ops false) rest)) (hn : fn.ntmps = n) (ha : args.size ≤ n) (hops : ops = #[o1, o2])
    (h1 : ∀ ρ w, (execOp ρ o1).run P w = .ok .recover w) (hg1 : o1.guard = none) (hd1 : o1.dst = some a) (h2 : ∀ ρ w, (execOp ρ o2).run P w = .ok (.value (ρ (.tmp a))) w) (hg2 : o2.guard = none) (hd2 : o2.dst = some b) (han : a < n)
    (hrec : ∀ (c₀ : Frame) cs, c₀.mode = u → recoverD (c₀ :: cs) = some (v, { c₀ with mode := u' } :: cs) ∨ (recoverD (c₀ :: cs) = none ∧ v = .nilIface ∧ u' = u))
    (h : W P none n rest (fun e ρ ds w => bodyPost P fn RR e ⟨tab n ρ, ds⟩ w) (upd (upd (envOf args.toList 0) a v) b v) [] w) :
    CD P f args u w fun e u'' w' => u'' = u' ∧ RR e w' := by
  subst hn hops
  refine callsDIn_of_wpSIn hf hb trivial fun c₀ cs hu => ?_
  rw [enter_tab args fn.ntmps ha]
  refine wpSIn_seq (wpSIn_region ?_)
  have hc : ({ c₀ with mode := u' } : Frame) :: cs = if recoverD (c₀ :: cs) = none then c₀ :: cs else { c₀ with mode := u' } :: cs := by
    split
    · rename_i hno
      rcases hrec c₀ cs hu with h3 | ⟨_, _, h5⟩
      · rw [hno] at h3; cases h3
      subst h5; rw [← hu]
    rfl
  have key : ∀ cs', cs' = ({ c₀ with mode := u' } : Frame) :: cs → rest.wpSIn (Fo none) 0 P (bodyPostS P fn c₀ cs fun e u'' w' => u'' = u' ∧ RR e w') ⟨tab fn.ntmps (upd (upd (envOf args.toList 0) a v) b v), []⟩ cs' w := by
    rintro cs' rfl
    refine wpSIn_of_wpIn rfl (wpIn_mono h ?_)
    rintro e ⟨t, d⟩ w' ⟨ρ', h3, h4⟩
    simp only at h3 h4
    subst h3
    cases e with
    | normal => obtain ⟨h5, v', h6, h7⟩ := h4; exact ⟨h5, u', rfl, v', h6, rfl, h7⟩
    | ret => obtain ⟨h5, v', h6, h7⟩ := h4; exact ⟨h5, u', rfl, v', h6, rfl, h7⟩
    | panic ch => obtain ⟨h5, h6⟩ := h4; exact ⟨h5, u', rfl, rfl, h6⟩
    | outgrown => exact ⟨u', rfl, h4⟩
    | exit id => exact h4.elim
    | goto l => exact h4.elim
  have w1 : ∀ y, Region.wanted o1 y = true := fun y => by simp [Region.wanted, hg1]
  have w2 : ∀ y, Region.wanted o2 y = true := fun y => by simp [Region.wanted, hg2]
  have step2 : ∀ cs', cs' = ({ c₀ with mode := u' } : Frame) :: cs → wpOpsSIn (Fo none) 0 P #[o1, o2] (Exit.thenS (rest.wpSIn (Fo none) 0 P (bodyPostS P fn c₀ cs fun e u'' w' => u'' = u' ∧ RR e w')) (bodyPostS P fn c₀ cs fun e u'' w' => u'' = u' ∧ RR e w')) [1]
      ((⟨tab fn.ntmps (envOf args.toList 0), []⟩ : Act).put (some a) v) cs' w := by
    intro cs' hcs'
    simp only [wpOpsSIn, show (#[o1, o2] : Array Oper)[1]? = some o2 from rfl, w2, if_true, h2]
    refine ⟨fun _ _ => trivial, ?_⟩
    rw [hd2, act_put, act_eval, act_put]
    simp only [put, ev, blt_t han, cond_true, upd_same]
    exact key cs' hcs'
  rw [show List.range (#[o1, o2] : Array Oper).size = [0, 1] from rfl]
  rw [wpOpsSIn]
  simp only [show (#[o1, o2] : Array Oper)[0]? = some o1 from rfl, w1, if_true, h1]
  refine ⟨fun _ _ => trivial, ?_⟩
  rcases hrec c₀ cs hu with h3 | ⟨h3, h4, h5⟩
  · rw [h3, hd1]
    exact step2 _ rfl
  rw [h3, hd1]
  subst h4 h5
  exact step2 _ (by rw [← hu])
theorem rec_some {v : Value} (c₀ : Frame) (cs : List Frame) (h : c₀.mode = .panicking (pan v)) : recoverD (c₀ :: cs) = some (v, { c₀ with mode := .panicking [{ v, recovered := true }] } :: cs) := by
  simp [recoverD, h, pan]
theorem rec_none (c₀ : Frame) (cs : List Frame) (h : c₀.mode = .returning) : recoverD (c₀ :: cs) = none := by
  simp [recoverD, h]
end
/-! ### results that lie in cells -/
section
variable {P : Program} {fn : Func} {n : Nat} {ρ : Env} {w : World}
theorem res_slot {a : Nat} {v : Value} (h : ev n ρ (.tmp a) = v) : (tab n ρ)[a]?.getD undef = v := by
  have e1 := (Array.getD_eq_getD_getElem? (xs := tab n ρ) (i := a) (d := undef)).symm.trans (tab_getD n ρ a)
  rw [h] at e1; exact e1
def CellIs (P : Program) (t : TypeId) (b : Nat) (v : Value) (w : World) : Prop := (loadVar t ⟨b, 0, none⟩).run P w = .ok v w
theorem cellIs {t : TypeId} {b : Nat} {v : Value} (g : ∀ w, (isAgg t).run P w = .ok false w) (k : Blk w b [v]) : CellIs P t b v w := by
  have c1 : w.cell? ⟨b, 0, none⟩ = some v := by rw [k.cell]; rfl
  simp [CellIs, loadVar, g, c1]
theorem cellAgg {t : TypeId} {b sz : Nat} {cs : List Value} (g : ∀ w, (isAgg t).run P w = .ok true w) (hs : ∀ w, (sizeOf t).run P w = .ok sz w) (hl : cs.length = sz) (k : Blk w b cs) : CellIs P t b (.agg cs.toArray) w := by
  have := load_cells (P := P) (w := w) (b := b) (off := 0) hl (fun j _ => by rw [k.cell, Nat.zero_add])
  simp [CellIs, loadVar, g, hs, this]
theorem rc1 {a : Tmp} {ta : TypeId} {b1 : Nat} {v1 : Value} (h : fn.results = #[.cell a ta]) (h1 : ev n ρ (.tmp a) = .pointer (some ⟨b1, 0, none⟩)) (k1 : CellIs P ta b1 v1 w) : (results fn (tab n ρ)).run P w = .ok v1 w := by
  have e1 := res_slot h1
  unfold CellIs at k1
  simp only [results, h]
  simp [e1, asAddr, k1]
theorem rc2 {a b : Tmp} {ta tb : TypeId} {b1 b2 : Nat} {v1 v2 : Value} (h : fn.results = #[.cell a ta, .cell b tb]) (h1 : ev n ρ (.tmp a) = .pointer (some ⟨b1, 0, none⟩)) (h2 : ev n ρ (.tmp b) = .pointer (some ⟨b2, 0, none⟩))
    (k1 : CellIs P ta b1 v1 w) (k2 : CellIs P tb b2 v2 w) : (results fn (tab n ρ)).run P w = .ok (.tuple #[v1, v2]) w := by
  have e1 := res_slot h1
  have e2 := res_slot h2
  unfold CellIs at k1 k2
  simp only [results, h]
  simp [e1, e2, asAddr, k1, k2]
end
/-! ### make -/
theorem madeCells_rep (zc : List Value) (c : Nat) (hz : 0 < zc.length) : madeCells zc.toArray (c * zc.length) = (List.replicate c zc).flatten.toArray := by
  apply Array.ext_getElem?
  intro i
  simp only [madeCells, List.size_toArray, List.getElem?_toArray, Array.getElem?_map]
  rcases Nat.lt_or_ge i (c * zc.length) with h | h
  · rw [Array.getElem?_range, if_pos h]
    have h1 : i % zc.length < zc.length := Nat.mod_lt _ hz
    have key : ∀ (c i : Nat), i < c * zc.length → (List.replicate c zc).flatten[i]? = zc[i % zc.length]? := by
      intro c
      induction c with
      | zero => intro i h; omega
      | succ c ih =>
        intro i h
        rw [List.replicate_succ, List.flatten_cons]
        rcases Nat.lt_or_ge i zc.length with h2 | h2
        · rw [List.getElem?_append_left h2, Nat.mod_eq_of_lt h2]
        rw [List.getElem?_append_right h2, ih _ (by rw [Nat.add_mul] at h; omega)]
        rw [show i % zc.length = (i - zc.length) % zc.length from by rw [← Nat.mod_eq_sub_mod h2]]
    rw [key c i h]
    simp [h1]
  rw [Array.getElem?_eq_none (by simpa using h), List.getElem?_eq_none (by simp; omega)]; rfl
theorem rows_rep {α : Type} {enc : α → List Value} (x : α) (c : Nat) : (List.replicate c (enc x)).flatten = rows enc (List.replicate c x) := by
  unfold rows
  induction c with
  | zero => rfl
  | succ c ih => rw [List.replicate_succ, List.replicate_succ, List.flatten_cons, List.flatMap_cons, ih]
section
variable {P : Program} {ro : Option Nat} {n : Nat} {Q : Post} {ρ : Env} {ds : List Deferred} {w : World} {ops : Array Oper} {rest : List Oper} {d : Nat} {t : TypeId} {p : String} {e : Array Edge}
end
theorem Blk.own {w : World} {b sz c : Nat} {e : TypeId} {cs : List Value} (h : ∃ t, t = e ∧ w.heap[b]? = some (.cells cs.toArray t (0, 0))) (hl : cs.length = c * sz) (hc : c ≤ maxLen) : Own w (Is b) e sz (.slice (some ⟨b, 0, none⟩) c c) c cs := by
  obtain ⟨t, rfl, ht⟩ := h
  exact ⟨⟨hl, .inr ⟨b, c, cs.toArray, rfl, Nat.zero_le _, ht, Nat.le_refl _, hc, by simpa using hl, by simp [← hl]⟩⟩, fun k hk => by simp [Value.ownBlock] at hk; exact hk.symm⟩
end Go.Fw
namespace Go.Fw
section
variable {P : Program} {ro : Option Nat} {n : Nat} {Q : Post} {ρ : Env} {ds : List Deferred} {w : World} {ops : Array Oper} {rest : List Oper} {d : Nat} {t : TypeId} {p : String} {e : Array Edge}
theorem Wl_makeo {st et : TypeId} {ti : TypeInfo} {z : Value} {zc cs : List Value} {sz : Nat} {x y : Operand} {kl kc : IntKind} {l c : Int} {c' : Nat} (hu : P.underlying st = some (.slice et)) (hi : P.info? et = some ti) (hz : ti.zero = some z) (hzc : z.cells = zc.toArray) (hsz : ti.size = zc.length) (hpos : 0 < zc.length)
    (hx : ev n ρ x = .int kl l) (hy : ev n ρ y = .int kc c) (hl : l = c') (hc : c = c') (hb : ti.bytes * c' ≤ 281474976710656) (h63 : c' ≤ maxLen) (hcs : (List.replicate c' zc).flatten = cs) (hzs : zc.length = sz)
    (h : ∀ b w', w.heap.size = b → Upd No w w' → w'.heap.size = b + 1 → Own w' (Is b) et sz (.slice (some ⟨b, 0, none⟩) c' c') c' cs → Wl P ro n ops Q rest (upd ρ d (.slice (some ⟨b, 0, none⟩) c' c')) ds w') :
    Wl P ro n ops Q (⟨some d, .makeSlice st x y, t, p, e, none⟩ :: rest) ρ ds w := by
  subst hl hc hcs hzs
  have hbi : (ti.bytes : Int) * (c' : Int) ≤ 281474976710656 := by
    have : ((ti.bytes * c' : Nat) : Int) ≤ 281474976710656 := by omega
    rwa [Int.natCast_mul] at this
  have h63' : c' ≤ 9223372036854775807 := by simp only [maxLen] at h63; omega
  have hr := run_make (P := P) w st et ti z hu hi hz kl kc c' c' (by omega) (by omega) hbi (by omega)
  rw [hzc, hsz, Int.toNat_natCast, madeCells_rep zc c' hpos] at hr
  refine Wl_v (v := .slice (some ⟨w.heap.size, 0, none⟩) c' c') (w' := w.alloc (.cells (List.replicate c' zc).flatten.toArray et)) ?_ (h _ _ rfl (upd_alloc _ _) (by simp) (Blk.own ⟨_, rfl, World.alloc_heap_new w _⟩ (by simp) h63))
  rw [sem_op (by simp)]; simp only [execOp, hx, hy, Sem.run_bind, hr, Result.andThen_ok, Sem.run_pure]
theorem r_idxor {ρ' : Operand → Value} {dd : Option Tmp} {g' : Option (Nat × Bool)} {st et : TypeId} {x y : Operand} {m g c sz : Nat} {k' : IntKind} {i : Int} {i' o' : Nat} (hu : P.underlying st = some (.slice et)) (hsz : ∀ w, (sizeOf et).run P w = .ok sz w)
    (hx : ρ' x = .slice (some ⟨g, 0, none⟩) m c) (hy : ρ' y = .int k' i) (hi : i = i') (h1 : i' < m) (ho : i' * sz = o') :
    (Oper.semAt ro ρ' ⟨dd, .indexAddr st x y, t, p, e, g'⟩).run P w = .ok (.value (.pointer (some ⟨g, o', none⟩))) w := by
  subst hi ho
  have h2 : (i' : Int) < m := by omega
  have hadd : (⟨g, 0, none⟩ : Addr).add (i' * sz) = ⟨g, i' * sz, none⟩ := by unfold Addr.add; split <;> simp_all
  rw [sem_op (by simp)]; simp [execOp, hx, hy, Instr.indexAt, asIntOf, run_underlying hu, hsz, h1, hadd]
theorem rows_set {α : Type} {enc : α → List Value} {sz : Nat} (hs : ∀ x, (enc x).length = sz) : ∀ (l : List α) (i : Nat) (x : α), i < l.length → (rows enc l).take (i * sz) ++ enc x ++ (rows enc l).drop (i * sz + sz) = rows enc (l.set i x)
  | [], _, _, h => by simp at h
  | y :: l, 0, x, _ => by
    simp only [rows, List.flatMap_cons, Nat.zero_mul, List.take_zero, List.nil_append, Nat.zero_add, List.set_cons_zero]
    rw [List.drop_append_of_le_length (by rw [hs]; exact Nat.le_refl _), List.drop_of_length_le (by rw [hs]; exact Nat.le_refl _), List.nil_append]
  | y :: l, i + 1, x, h => by
    have ih := rows_set hs l i x (by simpa using h)
    simp only [rows, List.flatMap_cons, List.set_cons_succ] at ih ⊢
    rw [← ih, show (i + 1) * sz = (enc y).length + i * sz from by rw [hs, Nat.add_mul]; omega, List.take_length_add_append, show (enc y).length + i * sz + sz = (enc y).length + (i * sz + sz) from by omega, List.drop_length_add_append]
    simp
theorem Wl_storer {α : Type} {enc : α → List Value} {st et : TypeId} {x y : Operand} {R : Nat → Prop} {m g i sz c : Nat} {l : List α} (v : α) {dd : Option Nat} {cs : Array Value} (hs : ∀ x, (enc x).length = sz) (hpos : 0 < sz) (one : ∀ u ∈ enc v, u.oneCell' = true) (hsz : ∀ w, (sizeOf st).run P w = .ok sz w) (hx : ev n ρ x = .pointer (some ⟨g, i * sz, none⟩)) (hy : ev n ρ y = .agg cs) (hcs : cs = (enc v).toArray)
    (ho : Own w R et sz (.slice (some ⟨g, 0, none⟩) m c) m (rows enc l)) (hi : i < m)
    (h : ∀ w', Upd (Is g) w w' → w'.heap.size = w.heap.size → Own w' R et sz (.slice (some ⟨g, 0, none⟩) m c) m (rows enc (l.set i v)) → Wl P ro n ops Q rest (put ρ dd undef) ds w') :
    Wl P ro n ops Q (⟨dd, .store st x y, t, p, e, none⟩ :: rest) ρ ds w := by
  subst hcs
  have hl := rlen hs hpos ho.sl
  obtain ⟨⟨h1, h2⟩, h3⟩ := ho
  rcases h2 with ⟨h4, h5⟩ | ⟨g', cap, cur, h5, hb, hg, hnc, hcm, hcur, ht⟩
  · cases h4
  simp only [Value.slice.injEq, Option.some.injEq, Addr.mk.injEq, and_true, true_and] at h5
  obtain ⟨rfl, rfl⟩ := h5
  have hsm : i * sz + sz ≤ m * sz := by have : (i + 1) * sz ≤ m * sz := Nat.mul_le_mul_right _ hi; rw [Nat.add_mul] at this; omega
  have hmc : m * sz ≤ cur.size := by rw [hcur]; exact Nat.mul_le_mul_right _ hnc
  have hst := run_storeCells_at P g (i * sz) et (enc v) 0 cur w hg (by rw [hs]; omega) one
  simp only [Nat.add_zero, hs] at hst
  refine Wl_u (w' := w.setRow g (cur.toList.take (i * sz) ++ enc v ++ cur.toList.drop (i * sz + sz)).toArray) ?_ (h _ ?_ ?_ ?_)
  · rw [sem_op (by simp)]
    simp only [execOp, hx, hy, Instr.storeAt, Instr.sureAddr, storeVar, Value.cells, Sem.run_bind, Sem.run_pure, Result.andThen_ok, hsz]
    simp [hs, hst]
  · exact ⟨rfl, rfl, rfl, by simp, fun z _ hz => setRow_other w g z _ (fun e => hz e)⟩
  · simp
  refine ⟨⟨by rw [rows_len hs, List.length_set, hl], .inr ⟨g, c, _, rfl, hb, setRow_heap w g cur _ et _ hg, hnc, hcm, ?_, ?_⟩⟩, h3⟩
  · simp only [List.size_toArray, List.length_append, List.length_take, List.length_drop, Array.length_toList, hs]; omega
  rw [← rows_set hs l i v (by omega), ← ht]
  simp only [List.take_append, List.take_take, List.length_take, Array.length_toList, List.length_append, hs, List.drop_take]
  congr 1
  · congr 1
    · congr 1; omega
    rw [List.take_of_length_le (by rw [hs]; omega)]
  congr 1; omega
/-! equality of structs -/
theorem r_slice3 {ρ' : Operand → Value} {dd : Option Tmp} {g : Option (Nat × Bool)} {st et : TypeId} {x z y : Operand} {sz m c : Nat} {a : Option Addr} {k k' : IntKind} {h q : Int} {h' q' : Nat} (hu : P.underlying st = some (.slice et)) (hsz : ∀ w, (sizeOf et).run P w = .ok sz w)
    (hx : ρ' x = .slice a m c) (hz : ρ' z = .int k h) (hy : ρ' y = .int k' q) (hh : h = h') (hq : q = q') (h1 : h' ≤ q') (h2 : q' ≤ c) :
    (Oper.semAt ro ρ' ⟨dd, .slice st x none (some z) (some y), t, p, e, g⟩).run P w = .ok (.value (.slice a h' q')) w := by
  subst hh hq
  have e1 : ¬ c < q' := by omega
  have e2 : ¬ q' < h' := by omega
  have e3 : a.map (fun x => x.add 0) = a := by cases a <;> rfl
  rw [sem_op (by simp)]; simp [execOp, hx, hz, hy, Instr.sliceAt, Instr.slice, Instr.sliceBounds, Instr.sliceBound, asIntOf, run_underlying hu, hsz, h1, h2, e3]
end
theorem Sl.recap {w : World} {R : Nat → Prop} {sz m c : Nat} {a : Option Addr} {cs : List Value} (h : Sl w R sz (.slice a m c) m cs) {q : Nat} (h1 : m ≤ q) (h2 : q ≤ maxLen) : Sl w R sz (.slice a m q) m cs := by
  obtain ⟨e1, a', cap, e2, e3, e4, e5⟩ := h
  simp only [Value.slice.injEq] at e2
  obtain ⟨rfl, _, rfl⟩ := e2
  exact ⟨e1, a, q, rfl, h1, h2, e5⟩
theorem Blk.icong {w : World} {b : Nat} {k : IntKind} {l l' : List Int} (h : Blk w b (ints k l)) (e : l = l') : Blk w b (ints k l') := e ▸ h
theorem Own.rcong {α : Type} {enc : α → List Value} {w : World} {R : Nat → Prop} {et : TypeId} {sz n : Nat} {v : Value} {l l' : List α} (h : Own w R et sz v n (rows enc l)) (e : l = l') : Own w R et sz v n (rows enc l') := e ▸ h
theorem Own.icong {w : World} {R : Nat → Prop} {et : TypeId} {n : Nat} {v : Value} {k : IntKind} {l l' : List Int} (h : Own w R et 1 v n (ints k l)) (e : l = l') : Own w R et 1 v n (ints k l') := e ▸ h
theorem take0_drop {k : IntKind} {l m : List Int} (h : l.length = m.length) : (ints k l).take 0 ++ ints k m ++ (ints k l).drop (0 + (ints k m).length) = ints k m := by
  rw [List.take_zero, List.nil_append, List.drop_of_length_le (by simp [ints]; omega), List.append_nil]
theorem Upd.cellsk {w0 w : World} (h : Upd No w0 w) {b off sz : Nat} {cs : List Value} (hl : cs.length = sz) (hc : ∀ j, j < sz → w0.cell? ⟨b, off + j, none⟩ = cs[j]?) : ∀ j, j < sz → w.cell? ⟨b, off + j, none⟩ = cs[j]? := fun j hj => by
  have h1 := hc j hj
  rw [List.getElem?_eq_getElem (by omega)] at h1 ⊢
  exact h.cellk h1
theorem Sl.rat {α : Type} {enc : α → List Value} {w : World} {R : Nat → Prop} {sz n c : Nat} {a : Option Addr} {l : List α} (d : α) (hs : ∀ x, (enc x).length = sz) (hp : 0 < sz) (h : Sl w R sz (.slice a n c) n (rows enc l)) {i : Nat} (hi : i < n) :
    ∃ b off, a = some ⟨b, off, none⟩ ∧ R b ∧ ∀ j, j < sz → w.cell? ⟨b, off + i * sz + j, none⟩ = (enc (l.getD i d))[j]? := by
  obtain ⟨b, off, h1, h2, h3⟩ := h.atR hi
  refine ⟨b, off, h1, h2, fun j hj => ?_⟩
  rw [h3 j hj, rows_get hs d l i j (by rw [rlen hs hp h]; exact hi) hj]
theorem r_field {P : Program} {ro : Option Nat} {w : World} {ρ : Operand → Value} {dd : Option Tmp} {t : TypeId} {p : String} {e : Array Edge} {g : Option (Nat × Bool)} {st : TypeId} {x : Operand} {i : Nat} {fs : Array Field} {f : Field} {cs : Array Value} {v : Value} (hu : P.underlying st = some (.struct fs)) (hf : fs[i]? = some f)
    (hag : ∀ w, (isAgg f.type).run P w = .ok false w) (hx : ρ x = .agg cs) (hv : cs[f.offset]? = some v) : (Oper.semAt ro ρ ⟨dd, .field st x i, t, p, e, g⟩).run P w = .ok (.value v) w := by
  rw [sem_op (by simp)]; simp [execOp, hx, Instr.field, run_underlying hu, hf, part, hag, asAgg, hv]
def encB (x : Bool) : List Value := [.bool (decide (x = true))]
theorem encB_len (x : Bool) : (encB x).length = 1 := rfl
def fidx {α : Type} (q : α → Bool) (l : List α) : Int := match l.findIdx? q with
  | some i => (i : Int)
  | none => -1
theorem fidx_at {α : Type} {q : α → Bool} {l : List α} (d : α) {k : Nat} (hk : k < l.length) (h : ∀ i, i < k → q (l.getD i d) = false) (h2 : q (l.getD k d) = true) : fidx q l = k := by
  have h3 : l.findIdx? q = some k := by
    rw [List.findIdx?_eq_some_iff_getElem]
    refine ⟨hk, by simpa [List.getD_eq_getElem?_getD, List.getElem?_eq_getElem hk] using h2, fun j hj => ?_⟩
    have := h j hj
    simp [List.getD_eq_getElem?_getD, List.getElem?_eq_getElem (show j < l.length by omega)] at this
    simp [this]
  simp [fidx, h3]
theorem fidx_none {α : Type} {q : α → Bool} {l : List α} (d : α) (h : ∀ i, i < l.length → q (l.getD i d) = false) : fidx q l = -1 := by
  have h3 : l.findIdx? q = none := by
    rw [List.findIdx?_eq_none_iff]
    intro x hx
    obtain ⟨i, hi, rfl⟩ := List.mem_iff_getElem.1 hx
    have := h i hi
    simpa [List.getD_eq_getElem?_getD, List.getElem?_eq_getElem hi] using this
  simp [fidx, h3]
theorem fidx_cases {α : Type} (q : α → Bool) (l : List α) (d : α) : (fidx q l = -1 ∧ ∀ i, i < l.length → q (l.getD i d) = false) ∨ ∃ k : Nat, fidx q l = k ∧ k < l.length ∧ q (l.getD k d) = true ∧ ∀ i, i < k → q (l.getD i d) = false := by
  cases h : l.findIdx? q with
  | none =>
    refine .inl ⟨by simp [fidx, h], fun i hi => ?_⟩
    rw [List.findIdx?_eq_none_iff] at h
    have := h l[i] (List.getElem_mem hi)
    simpa [List.getD_eq_getElem?_getD, List.getElem?_eq_getElem hi] using this
  | some k =>
    rw [List.findIdx?_eq_some_iff_getElem] at h
    obtain ⟨h1, h2, h3⟩ := h
    refine .inr ⟨k, by simp [fidx, List.findIdx?_eq_some_iff_getElem.2 ⟨h1, h2, h3⟩], h1, by simpa [List.getD_eq_getElem?_getD, List.getElem?_eq_getElem h1] using h2, fun i hi => ?_⟩
    have := h3 i hi
    simpa [List.getD_eq_getElem?_getD, List.getElem?_eq_getElem (show i < l.length by omega)] using this
end Go.Fw
namespace Go.Fw
def noG (Q : Post) : Post
  | .goto _, _, _, _ => False
  | e, ρ, ds, w => Q e ρ ds w
theorem stepR_scope {P : Program} {b : Frame} {a : Act} {k : List Item} {cs : List Frame} {w : World} {c : Code} : step P (lone (b.atR a (.code (.scope c) :: k)) cs w) = .next (lone (b.atR a (.code c :: .inScope c :: k)) cs w) :=
  step_lone_go (by simp [stepG, stepG.exec, Frame.atR])
theorem stepR_inScope {P : Program} {b : Frame} {a : Act} {k : List Item} {cs : List Frame} {w : World} {c : Code} : step P (lone (b.atR a (.inScope c :: k)) cs w) = .next (lone (b.atR a k) cs w) :=
  step_lone_go (by simp [stepG, stepG.exec, Frame.atR])
theorem W_scope {P : Program} {ro : Option Nat} {n : Nat} {Q : Post} {ρ : Env} {ds : List Deferred} {w : World} {c : Code} (h : W P ro n c (noG Q) ρ ds w) : W P ro n (.scope c) Q ρ ds w := by
  intro b k cs hro hb hr
  have h0 : (lone (b.atR ⟨tab n ρ, ds⟩ (.code (.scope c) :: k)) cs w).fenced P (Fo ro) := fenced_calm hb hr rfl
  obtain ⟨e, ⟨t, d⟩, w₁, ⟨ρ', h1, h2⟩, harr⟩ := h b (.inScope c :: k) cs hro hb hr
  simp only at h1 h2
  subst h1
  cases e with
  | normal => exact ⟨.normal, ⟨tab n ρ', d⟩, w₁, ⟨ρ', rfl, h2⟩, .head h0 stepR_scope (StepsIn.trans harr (.one (fenced_calm hb hr rfl) stepR_inScope))⟩
  | exit id =>
    have hx : exitTo id (.inScope c :: k) = exitTo id k := by simp [exitTo]
    exact ⟨_, ⟨tab n ρ', d⟩, w₁, ⟨ρ', rfl, h2⟩, fun k' hk => .head h0 stepR_scope (harr.1 k' (by rw [hx]; exact hk)),
      fun hr' hk => let ⟨k₁, h1, h2⟩ := harr.2 hr' (by rw [hx]; exact hk); ⟨k₁, h1, .head h0 stepR_scope h2⟩⟩
  | goto l => exact h2.elim
  | ret => exact ⟨_, ⟨tab n ρ', d⟩, w₁, ⟨ρ', rfl, h2⟩, .of_steps (.one h0 stepR_scope) harr⟩
  | panic ch => exact ⟨_, ⟨tab n ρ', d⟩, w₁, ⟨ρ', rfl, h2⟩, .of_steps (.one h0 stepR_scope) harr⟩
  | outgrown => exact ⟨_, ⟨tab n ρ', d⟩, w₁, ⟨ρ', rfl, h2⟩, .of_steps (.one h0 stepR_scope) harr⟩
section
variable {P : Program} {ro : Option Nat} {w : World} {d : Option Tmp} {t : TypeId} {p : String} {e : Array Edge} {ρ' : Operand → Value} {g : Option (Nat × Bool)}
end
section
variable {P : Program} {ro : Option Nat} {w : World} {d : Option Tmp} {t : TypeId} {p : String} {e : Array Edge} {ρ : Operand → Value} {g : Option (Nat × Bool)}
end
theorem rows_one {α : Type} {enc : α → List Value} (h : ∀ x, ∀ u ∈ enc x, u.oneCell' = true) (l : List α) : ∀ u ∈ rows enc l, u.oneCell' = true := by
  intro u hu
  obtain ⟨x, _, h2⟩ := List.mem_flatMap.1 hu
  exact h x u h2
end Go.Fw
namespace Go.Fw
def unrK (P : Program) (ro : Option Nat) (n : Nat) (c : Code) (Q : Post) : Nat → Env → List Deferred → World → Prop
  | 0 => fun _ _ _ => False
  | m + 1 => fun ρ ds w => W P ro n c (thn (unrK P ro n c Q m) Q) ρ ds w
theorem unrK_succ {P : Program} {ro : Option Nat} {n : Nat} {c : Code} {Q : Post} {m : Nat} {ρ : Env} {ds : List Deferred} {w : World} (h : W P ro n c (thn (unrK P ro n c Q m) Q) ρ ds w) : unrK P ro n c Q (m + 1) ρ ds w := h
theorem W_unroll {P : Program} {ro : Option Nat} {n : Nat} {Q : Post} {ρ : Env} {ds : List Deferred} {w : World} {c : Code} (m : Nat) (h : unrK P ro n c Q m ρ ds w) : W P ro n (.loop c) Q ρ ds w := by
  refine W_loop (fun m ρ ds w => unrK P ro n c Q m ρ ds w) m h ?_
  intro m ρ ds w h
  cases m with
  | zero => exact False.elim h
  | succ m =>
    refine W_mono h fun e ρ ds w hq => ?_
    cases e <;> first | exact ⟨m, by omega, hq⟩ | exact hq
section
variable {P : Program} {ro : Option Nat} {n : Nat} {Q : Post} {ρ : Env} {ds : List Deferred} {w : World} {ops : Array Oper} {rest : List Oper} {d : Option Tmp} {t : TypeId} {p : String} {e : Array Edge}
theorem r_cap {ρ' : Operand → Value} {g : Option (Nat × Bool)} {st : TypeId} {x : Operand} {et : TypeId} {a : Option Addr} {n c : Nat} (hu : P.underlying st = some (.slice et)) (hx : ρ' x = .slice a n c) :
    (Oper.semAt ro ρ' ⟨d, .call { callee := .builtin .cap, args := #[x], argTypes := #[st] }, t, p, e, g⟩).run P w = .ok (.value (.int .i64 c)) w := by
  rw [sem_op (by simp)]; simp [execOp, resolve, invoke, builtin, hx, Builtin.cap_, run_underlying hu, goInt]
end
section
variable {P : Program} {ro : Option Nat} {w : World} {ρ : Operand → Value} {d : Option Tmp} {t : TypeId} {p : String} {e : Array Edge} {g : Option (Nat × Bool)}
end
section
variable {P : Program} {ro : Option Nat} {w : World} {ρ : Operand → Value} {d : Option Tmp} {t : TypeId} {p : String} {e : Array Edge} {g : Option (Nat × Bool)}
end
section
variable {P : Program} {ro : Option Nat} {n : Nat} {Q : Post} {ρ : Env} {ds : List Deferred} {w : World} {ops : Array Oper} {rest : List Oper} {d : Nat} {t : TypeId} {p : String} {e : Array Edge}
end
end Go.Fw
namespace Go.Fw
section
variable {P : Program} {fn : Func} {w : World} {n : Nat} {ρ : Env}
theorem rm_ct {a b : Tmp} {ta : TypeId} {b1 : Nat} {v1 v2 : Value} (h : fn.results = #[.cell a ta, .tmp b]) (h1 : ev n ρ (.tmp a) = .pointer (some ⟨b1, 0, none⟩)) (h2 : ev n ρ (.tmp b) = v2)
    (k1 : CellIs P ta b1 v1 w) : (results fn (tab n ρ)).run P w = .ok (.tuple #[v1, v2]) w := by
  have e1 := res_slot h1
  have e2 := res_slot h2
  unfold CellIs at k1
  simp only [results, h]
  simp [e1, e2, asAddr, k1]
theorem rm_tc {a b : Tmp} {tb : TypeId} {b2 : Nat} {v1 v2 : Value} (h : fn.results = #[.tmp a, .cell b tb]) (h1 : ev n ρ (.tmp a) = v1) (h2 : ev n ρ (.tmp b) = .pointer (some ⟨b2, 0, none⟩))
    (k2 : CellIs P tb b2 v2 w) : (results fn (tab n ρ)).run P w = .ok (.tuple #[v1, v2]) w := by
  have e1 := res_slot h1
  have e2 := res_slot h2
  unfold CellIs at k2
  simp only [results, h]
  simp [e1, e2, asAddr, k2]
end
section
variable {P : Program} {ro : Option Nat} {n : Nat} {Q : Post} {ρ : Env} {ds : List Deferred} {w : World} {ops : Array Oper} {rest : List Oper} {d : Nat} {t : TypeId} {p : String} {e : Array Edge}
theorem Wl_appmk {st it et : TypeId} {ti : TypeInfo} {z : Value} {sz by' m : Nat} {k0 k : IntKind} {l : Int} {x y : Operand} (hu : P.underlying st = some (.slice et)) (hit : P.underlying it = some (.int k0)) (hi : P.info? et = some ti) (hz : ti.zero = some z) (hsz : ti.size = sz) (hby : ti.bytes = by') (hzc : z.cells.size = sz) (hpos : 0 < sz)
    (hx : ev n ρ x = .slice none 0 0) (hy : ev n ρ y = .int k l) (hl : l = m) (h0 : 0 < m) (h63 : m ≤ maxLen) (hb : m * by' ≤ 140737488355328)
    (h : ∀ b c w', w.heap.size = b → Upd No w w' → w'.heap.size = b + 1 → m ≤ c → Own w' (Is b) et sz (.slice (some ⟨b, 0, none⟩) 0 c) 0 [] → Wl P ro n ops Q rest (upd ρ d (.slice (some ⟨b, 0, none⟩) m c)) ds w') :
    Wl P ro n ops Q (⟨some d, .call { callee := .builtin .append, args := #[x, y], argTypes := #[st, it] }, t, p, e, none⟩ :: rest) ρ ds w := by
  subst hsz hby hl
  have hm2 : (m : Int) ≤ 9223372036854775807 := by simp only [maxLen] at h63; omega
  have hw : IntKind.i64.wrap (m : Int) = m := wi64 (by omega) (by omega)
  have hge := grownCap_ge w m 0 et
  have hcm : grownCap w m 0 et ≤ maxLen := grownCap_le_maxLen w m 0 et h63
  have hn : m ≠ 0 := by omega
  have hneg : ¬ ((m : Int) < 0) := by omega
  have h48 : ¬ (281474976710656 < (m : Int) * (ti.bytes : Int)) := by have : ((m * ti.bytes : Nat) : Int) = (m : Int) * ti.bytes := by simp
                                                                      omega
  have h63' : ¬ (9223372036854775807 < (m : Int)) := by omega
  have h48' : ¬ (281474976710656 < Builtin.nextslicecap m 0 * ti.bytes) := by rw [nextslicecap_zero h0]; omega
  have hmz : m * ti.size ≠ 0 := Nat.mul_ne_zero hn (by omega)
  have hr : (Builtin.append_ #[st, it] t #[.slice none 0 0, .int k (m : Int)]).run P w =
      .ok (.slice (some ⟨w.heap.size, 0, none⟩) m (grownCap w m 0 et)) (w.drew.alloc (.cells (Builtin.zeroCells z.cells m ++ Builtin.zeroCells z.cells (grownCap w m 0 et - m)) et)) := by
    have hsz0 : ti.size ≠ 0 := by omega
    simp [Builtin.append_, run_underlying hu, run_underlying hit, sizeOf, typeInfo, zeroValue, hi, hz, asInt, asIntOf, hw, hneg, h48, hn, h63', h48', hmz, hsz0, Question.forced, run_firstCells_none, newRow, grownCap]
  refine Wl_v (v := .slice (some ⟨w.heap.size, 0, none⟩) m (grownCap w m 0 et)) (w' := w.drew.alloc (.cells (Builtin.zeroCells z.cells m ++ Builtin.zeroCells z.cells (grownCap w m 0 et - m)) et)) ?_
    (h _ _ _ rfl ⟨rfl, rfl, rfl, by simp, fun b hb _ => heap_alloc_old w.drew _ hb⟩ (by simp) hge ⟨⟨by simp, .inr ⟨w.heap.size, _, _, rfl, Nat.zero_le _, heap_alloc_new w.drew _, Nat.zero_le _, hcm, ?_, by simp⟩⟩, fun g hg => by simp [Value.ownBlock] at hg; exact hg.symm⟩)
  · rw [sem_call0]; simp [execOp, resolve, invoke, builtin, hx, hy, hr]
  simp only [Array.size_append, size_zeroCells, hzc, ← Nat.add_mul]
  congr 1
  omega
end
def gotoL (P : Program) (ro : Option Nat) (n : Nat) (l : Nat) (r : Code) (Q : Post) : Post
  | .goto l', ρ, ds, w => l' = l ∧ W P ro n r (noG Q) ρ ds w
  | e, ρ, ds, w => Q e ρ ds w
theorem W_scopeg {P : Program} {ro : Option Nat} {n : Nat} {Q : Post} {ρ : Env} {ds : List Deferred} {w : World} {c r : Code} (l : Nat) (hf : findLabel c l = some r) (h : W P ro n c (gotoL P ro n l r Q) ρ ds w) : W P ro n (.scope c) Q ρ ds w := by
  intro b k cs hro hb hr
  have h0 : (lone (b.atR ⟨tab n ρ, ds⟩ (.code (.scope c) :: k)) cs w).fenced P (Fo ro) := fenced_calm hb hr rfl
  obtain ⟨e, ⟨t, d⟩, w₁, ⟨ρ', h1, h2⟩, harr⟩ := h b (.inScope c :: k) cs hro hb hr
  simp only at h1 h2
  subst h1
  cases e with
  | normal => exact ⟨.normal, ⟨tab n ρ', d⟩, w₁, ⟨ρ', rfl, h2⟩, .head h0 stepR_scope (StepsIn.trans harr (.one (fenced_calm hb hr rfl) stepR_inScope))⟩
  | exit id =>
    have hx : exitTo id (.inScope c :: k) = exitTo id k := by simp [exitTo]
    exact ⟨_, ⟨tab n ρ', d⟩, w₁, ⟨ρ', rfl, h2⟩, fun k' hk => .head h0 stepR_scope (harr.1 k' (by rw [hx]; exact hk)),
      fun hr' hk => let ⟨k₁, h1, h2⟩ := harr.2 hr' (by rw [hx]; exact hk); ⟨k₁, h1, .head h0 stepR_scope h2⟩⟩
  | goto l' =>
    obtain ⟨rfl, h3⟩ := h2
    have pre := StepsIn.head h0 stepR_scope (harr.1 (.code r :: .inScope c :: k) (by simp [gotoIn, hf]))
    obtain ⟨e2, ⟨t2, d2⟩, w₂, ⟨ρ2, h4, h5⟩, harr2⟩ := h3 b (.inScope c :: k) cs hro hb hr
    simp only at h4 h5
    subst h4
    cases e2 with
    | normal => exact ⟨.normal, ⟨tab n ρ2, d2⟩, w₂, ⟨ρ2, rfl, h5⟩, StepsIn.trans pre (StepsIn.trans harr2 (.one (fenced_calm hb hr rfl) stepR_inScope))⟩
    | exit id =>
      have hx : exitTo id (.inScope c :: k) = exitTo id k := by simp [exitTo]
      exact ⟨_, ⟨tab n ρ2, d2⟩, w₂, ⟨ρ2, rfl, h5⟩, fun k' hk => StepsIn.trans pre (harr2.1 k' (by rw [hx]; exact hk)),
        fun hr' hk => let ⟨k₁, h1, h2⟩ := harr2.2 hr' (by rw [hx]; exact hk); ⟨k₁, h1, StepsIn.trans pre h2⟩⟩
    | goto l2 => exact h5.elim
    | ret => exact ⟨_, ⟨tab n ρ2, d2⟩, w₂, ⟨ρ2, rfl, h5⟩, .of_steps pre harr2⟩
    | panic ch => exact ⟨_, ⟨tab n ρ2, d2⟩, w₂, ⟨ρ2, rfl, h5⟩, .of_steps pre harr2⟩
    | outgrown => exact ⟨_, ⟨tab n ρ2, d2⟩, w₂, ⟨ρ2, rfl, h5⟩, .of_steps pre harr2⟩
  | ret => exact ⟨_, ⟨tab n ρ', d⟩, w₁, ⟨ρ', rfl, h2⟩, .of_steps (.one h0 stepR_scope) harr⟩
  | panic ch => exact ⟨_, ⟨tab n ρ', d⟩, w₁, ⟨ρ', rfl, h2⟩, .of_steps (.one h0 stepR_scope) harr⟩
  | outgrown => exact ⟨_, ⟨tab n ρ', d⟩, w₁, ⟨ρ', rfl, h2⟩, .of_steps (.one h0 stepR_scope) harr⟩
end Go.Fw
namespace Go.Fw
theorem rows_take {α : Type} {enc : α → List Value} {sz : Nat} (hs : ∀ x, (enc x).length = sz) : ∀ (l : List α) (i : Nat), (rows enc l).take (i * sz) = rows enc (l.take i)
  | [], i => by simp [rows]
  | x :: l, 0 => by simp [rows]
  | x :: l, i + 1 => by
    have := rows_take hs l i
    simp only [rows, List.flatMap_cons, List.take_succ_cons] at this ⊢
    rw [Nat.add_mul, Nat.one_mul, Nat.add_comm, List.take_append, List.take_of_length_le (by rw [hs]; omega), hs, Nat.add_sub_cancel_left, this]
theorem rows_drop {α : Type} {enc : α → List Value} {sz : Nat} (hs : ∀ x, (enc x).length = sz) : ∀ (l : List α) (i : Nat), (rows enc l).drop (i * sz) = rows enc (l.drop i)
  | [], i => by simp [rows]
  | x :: l, 0 => by simp [rows]
  | x :: l, i + 1 => by
    have := rows_drop hs l i
    simp only [rows, List.flatMap_cons, List.drop_succ_cons] at this ⊢
    rw [Nat.add_mul, Nat.one_mul, Nat.add_comm, List.drop_append, List.drop_of_length_le (by rw [hs]; omega), hs, Nat.add_sub_cancel_left, this, List.nil_append]
section
variable {P : Program} {ro : Option Nat} {n : Nat} {Q : Post} {ρ : Env} {ds : List Deferred} {w : World} {ops : Array Oper} {rest : List Oper} {d : Option Tmp} {t : TypeId} {p : String} {e : Array Edge}
theorem run_copy_rows (w : World) (dT sT ty elem : TypeId) (g o dLen dCap sz : Nat) (a : Addr) (sLen sCap : Nat) (cur : Array Value) (t : TypeId) (cs : List Value)
    (hu : P.underlying dT = some (.slice elem)) (hs : (P.info? elem).map (·.size) = some sz)
    (hg : w.heap[g]? = some (.cells cur t (0, 0))) (hn : cs.length = Nat.min sLen dLen * sz)
    (hsrc : ∀ j v, cs[j]? = some v → w.cell? (a.add j) = some v) (hfit : o + cs.length ≤ cur.size) (h1 : ∀ v ∈ cs, v.oneCell' = true) :
    (Builtin.copy_ #[dT, sT] ty #[.slice (some ⟨g, o, none⟩) dLen dCap, .slice (some a) sLen sCap]).run P w =
      .ok (goInt (Nat.min sLen dLen : Nat)) (w.setRow g (cur.toList.take o ++ cs ++ cur.toList.drop (o + cs.length)).toArray) := by
  have hl := run_loadCells_list (P := P) w a cs hsrc
  have hst := run_storeCells_at P g o t cs 0 cur w hg (by simpa using hfit) h1
  cases hq : P.info? elem with
  | none => simp [hq] at hs
  | some i =>
    have hi : i.size = sz := by simpa [hq] using hs
    rw [hn] at hl
    simp [Builtin.copy_, run_underlying hu, Builtin.lenOf, Builtin.firstCells, sizeOf, typeInfo, hq, hi, hl, hst]
theorem Wl_copyr {α : Type} {enc : α → List Value} {st su et : TypeId} {x y : Operand} {R R2 : Nat → Prop} {g o sz m dl dc k c : Nat} {v2 : Value} {xs ys : List α} (hs : ∀ x, (enc x).length = sz) (hpos : 0 < sz) (one : ∀ x, ∀ u ∈ enc x, u.oneCell' = true)
    (hu : P.underlying st = some (.slice et)) (hsz : (P.info? et).map (·.size) = some sz)
    (hx : ev n ρ x = .slice (some ⟨g, o * sz, none⟩) dl dc) (hy : ev n ρ y = v2) (ho : Own w R et sz (.slice (some ⟨g, 0, none⟩) m c) m (rows enc xs)) (hv : Sl w R2 sz v2 k (rows enc ys)) (hk : 0 < k) (hl : o + dl ≤ m)
    (h : ∀ w', Upd (Is g) w w' → w'.heap.size = w.heap.size → Own w' R et sz (.slice (some ⟨g, 0, none⟩) m c) m (rows enc (xs.take o ++ ys.take (min k dl) ++ xs.drop (o + min k dl))) → Wl P ro n ops Q rest (put ρ d (.int .i64 ((min k dl : Nat) : Int))) ds w') :
    Wl P ro n ops Q (⟨d, .call { callee := .builtin .copy, args := #[x, y], argTypes := #[st, su] }, t, p, e, none⟩ :: rest) ρ ds w := by
  have hxl := rlen hs hpos ho.sl
  have hyl := rlen hs hpos hv
  obtain ⟨hl2, a2, c2, rfl, hk1, hk2, hsl⟩ := hv
  obtain ⟨⟨h1, h2⟩, h3⟩ := ho
  rcases h2 with ⟨h4, h5⟩ | ⟨g', cap, cur, h5, hb, hg, hnc, hcm, hcur, ht⟩
  · cases h4
  simp only [Value.slice.injEq, Option.some.injEq, Addr.mk.injEq, and_true, true_and] at h5
  obtain ⟨rfl, rfl⟩ := h5
  rcases hsl with h | ⟨b2, off2, cc, t2, f2, rfl, hR2, hb2, hcells⟩
  · omega
  have hj : min k dl ≤ k := Nat.min_le_left _ _
  have hj2 : min k dl ≤ dl := Nat.min_le_right _ _
  generalize hjj : min k dl = j at *
  have hlen : (rows enc (ys.take j)).length = j * sz := by rw [rows_len hs, List.length_take, hyl, Nat.min_eq_left hj]
  have hoj : (o + j) * sz ≤ m * sz := Nat.mul_le_mul_right _ (by omega)
  rw [Nat.add_mul] at hoj
  have hmc : m * sz ≤ cur.size := by rw [hcur]; exact Nat.mul_le_mul_right _ hnc
  have hr := run_copy_rows (P := P) w st su t et g (o * sz) dl dc sz ⟨b2, off2, none⟩ k c2 cur et (rows enc (ys.take j)) hu hsz hg (by rw [hlen]; congr 1; exact hjj.symm) (fun i v hi => by
    have hi1 : i < j * sz := by
      rcases Nat.lt_or_ge i (j * sz) with h1 | h1
      · exact h1
      rw [List.getElem?_eq_none (by omega)] at hi; cases hi
    have hadd : (⟨b2, off2, none⟩ : Addr).add i = ⟨b2, off2 + i, none⟩ := by unfold Addr.add; split <;> simp_all
    have hjk : j * sz ≤ k * sz := Nat.mul_le_mul_right _ hj
    rw [hadd]
    simp only [World.cell?, hb2, Option.isSome_none, Bool.false_eq_true, if_false]
    rw [hcells i (by omega), ← hi, ← rows_take hs, List.getElem?_take, if_pos hi1]) (by omega) (rows_one one _)
  refine Wl_v (v := .int .i64 ((j : Nat) : Int)) (w' := w.setRow g (cur.toList.take (o * sz) ++ rows enc (ys.take j) ++ cur.toList.drop (o * sz + (rows enc (ys.take j)).length)).toArray) ?_ (h _ ?_ ?_ ?_)
  · rw [sem_op (by simp)]
    have : Nat.min k dl = j := hjj
    rw [this] at hr
    simp [execOp, resolve, invoke, builtin, hx, hy, hr, goInt]
  · exact ⟨rfl, rfl, rfl, by simp, fun z _ hz => setRow_other w g z _ (fun e => hz e)⟩
  · simp
  refine ⟨⟨?_, .inr ⟨g, c, _, rfl, hb, setRow_heap w g cur _ et _ hg, hnc, hcm, ?_, ?_⟩⟩, h3⟩
  · rw [rows_len hs, List.length_append, List.length_append, List.length_take, List.length_take, List.length_drop, hxl, hyl]; congr 1; omega
  · simp only [List.size_toArray, List.length_append, List.length_take, List.length_drop, Array.length_toList, hlen]; omega
  rw [rows_app, rows_app, ← rows_take hs xs o, ← rows_drop hs xs (o + j), ← ht, hlen, Nat.add_mul, List.drop_take, List.take_take, Nat.min_eq_left (by omega)]
  rw [List.take_append, List.take_of_length_le (by simp only [List.length_append, List.length_take, Array.length_toList, hlen]; omega)]
  congr 1
  congr 1
  simp only [List.length_append, List.length_take, Array.length_toList, hlen]
  omega
end
section
variable {P : Program} {ro : Option Nat} {w : World} {ρ : Operand → Value} {d : Option Tmp} {t : TypeId} {p : String} {e : Array Edge} {g : Option (Nat × Bool)}
theorem r_slicelt {st et : TypeId} {x y : Operand} {b m c sz : Nat} {k : IntKind} {l : Int} {l' : Nat} (hu : P.underlying st = some (.slice et)) (hsz : ∀ w, (sizeOf et).run P w = .ok sz w)
    (hx : ρ x = .slice (some ⟨b, 0, none⟩) m c) (hy : ρ y = .int k l) (hl : l = l') (h1 : l' ≤ m) (hne : l' ≠ c) :
    (Oper.semAt ro ρ ⟨d, .slice st x (some y) none none, t, p, e, g⟩).run P w = .ok (.value (.slice (some ⟨b, l' * sz, none⟩) (m - l') (c - l'))) w := by
  have := r_slicelen (ro := ro) (w := w) (d := d) (t := t) (p := p) (e := e) (g := g) hu hsz hx hy hl h1 rfl
  have hadd : (⟨b, 0, none⟩ : Addr).add (l' * sz) = ⟨b, l' * sz, none⟩ := by unfold Addr.add; split <;> simp_all
  rw [if_neg (fun e => hne e.symm), Option.map_some, hadd] at this
  exact this
end
section
variable {P : Program} {ro : Option Nat} {w : World} {ρ : Operand → Value} {d : Option Tmp} {t : TypeId} {p : String} {e : Array Edge} {g : Option (Nat × Bool)}
theorem r_builda {st et : TypeId} {len sz : Nat} {parts : Array (Nat × Operand)} {pv : List (Nat × Value)} {z : Value} {cs : Array Value} (hz : ∀ w, (zeroValue st).run P w = .ok z w) (hu : P.underlying st = some (.array len et)) (hsz : ∀ w, (sizeOf et).run P w = .ok sz w)
    (hp : (parts.map fun (i, x) => (i, ρ x)).toList = pv) (hf : Instr.fill (fun i => some (i * sz, sz)) z.cells pv = some cs) :
    (Oper.semAt ro ρ ⟨d, .build st parts, t, p, e, g⟩).run P w = .ok (.value (.agg cs)) w := by
  subst hp
  rw [sem_op (by simp)]; simp only [execOp, Instr.build, Sem.run_bind, hz, Result.andThen_ok, run_underlying hu, hsz, hf]; simp
end
theorem Own.one {w : World} {R : Nat → Prop} {e : TypeId} {sz n c : Nat} {a : Option Addr} {cs : List Value} (h : Own w R e sz (.slice a n c) n cs) (hn : 0 < n) : ∃ g, R g ∧ Own w (fun x => x = g) e sz (.slice a n c) n cs := by
  obtain ⟨⟨h1, h2⟩, h3⟩ := h
  rcases h2 with ⟨h4, h5⟩ | ⟨g, cap, cur, h5, r⟩
  · simp only [Value.slice.injEq] at h4; omega
  have h6 := h5
  simp only [Value.slice.injEq] at h6
  obtain ⟨rfl, _, rfl⟩ := h6
  exact ⟨g, h3 g rfl, ⟨h1, .inr ⟨g, _, cur, rfl, r⟩⟩, fun k hk => by simp [Value.ownBlock] at hk; exact hk.symm⟩
theorem Sl.rhd {α : Type} {enc : α → List Value} {w : World} {R : Nat → Prop} {sz m c k : Nat} {a : Option Addr} {xs : List α} (hs : ∀ x, (enc x).length = sz) (h : Sl w R sz (.slice a m c) m (rows enc xs)) (hk : k ≤ m) :
    Sl w R sz (.slice a k c) k (rows enc (xs.take k)) := by
  obtain ⟨h1, a', c', he, hn, hc, h2⟩ := h
  simp only [Value.slice.injEq, true_and] at he
  obtain ⟨rfl, rfl⟩ := he
  have hkm : k * sz ≤ m * sz := Nat.mul_le_mul_right _ hk
  refine ⟨by rw [← rows_take hs, List.length_take, h1]; omega, a, c, rfl, by omega, hc, ?_⟩
  rcases h2 with h | ⟨b, off, cc, t, f, r1, r2, r3, r4⟩
  · exact .inl (by omega)
  refine .inr ⟨b, off, cc, t, f, r1, r2, r3, fun i hi => ?_⟩
  rw [r4 i (by omega), ← rows_take hs, List.getElem?_take, if_pos hi]
section
variable {P : Program} {ro : Option Nat} {n : Nat} {ops : Array Oper} {K0 : Env → List Deferred → World → Prop}
theorem Wa_two {S : World → Prop} {i j : Nat} {oi oj : Oper} {fuel : Nat} {listed li lj : Array Bool} {ρ : Env} {ds : List Deferred} {w : World} (hr : Region.ready .any ops listed = [i, j]) (hi : ops.toList[i]? = some oi) (hj : ops.toList[j]? = some oj) (hli : listed.setIfInBounds i true = li) (hlj : listed.setIfInBounds j true = lj)
    (h1 : Ws P ro n ops oi (fun ρ' ds' w' => ∀ w'', Same w' w'' → (barOp ops i = false → S w'' ∧ Wa P ro n ops K0 S fuel li ρ' ds' w'') ∧ (barOp ops i = true → ∃ S', Wa P ro n ops K0 S' fuel li ρ' ds' w'')) ρ ds w)
    (h2 : Ws P ro n ops oj (fun ρ' ds' w' => ∀ w'', Same w' w'' → (barOp ops j = false → S w'' ∧ Wa P ro n ops K0 S fuel lj ρ' ds' w'') ∧ (barOp ops j = true → ∃ S', Wa P ro n ops K0 S' fuel lj ρ' ds' w'')) ρ ds w) : Wa P ro n ops K0 S (fuel + 1) listed ρ ds w := by
  subst hli hlj
  rw [Array.getElem?_toList] at hi hj
  refine ⟨fun h0 => (by rw [hr] at h0; cases h0), fun k hk ok hok => ?_⟩
  rw [hr] at hk
  rcases List.mem_cons.1 hk with rfl | hk
  · rw [hi] at hok; cases hok; exact h1
  obtain rfl := List.mem_singleton.1 hk
  rw [hj] at hok; cases hok; exact h2
def WtS (P : Program) (ro : Option Nat) (n : Nat) (ops : Array Oper) (K0 : Env → List Deferred → World → Prop) (T : Nat → Prop) (w0 w1 : World) (fuel : Nat) (listed : Array Bool) (ρ : Env) (ds : List Deferred) : Prop :=
  ∀ w, Upd No w1 w → Wa P ro n ops K0 (Upd T w0) fuel listed ρ ds w
theorem W_drawS {T : Nat → Prop} {id : Nat} {Q : Post} {ρ : Env} {ds : List Deferred} {w : World} {l0 : Array Bool} (hm : P.follows .mixedOrders = true) (hl : Array.replicate ops.size false = l0)
    (h : WtS P ro n ops (fun ρ ds w => Q .normal ρ ds w) T w w ops.size l0 ρ ds) : W P ro n (.region id ops true) Q ρ ds w := by
  subst hl
  exact W_draw (S := Upd T w) hm fun w' hw => h w' hw.upd
theorem WtS_take {T : Nat → Prop} {w0 w1 : World} {i : Nat} {oi : Oper} {v : Value} {fuel : Nat} {listed listed' : Array Bool} {ρ : Env} {ds : List Deferred} (h01 : Upd T w0 w1) (hc : calm ops = true)
    (hi : ops.toList[i]? = some oi) (hf : Region.free .any ops listed i = true) (hr : (Region.ready .any ops listed).contains i = true) (hl : listed.setIfInBounds i true = listed') (hcl : closedB ops listed = true)
    (hy : YI P ro n ops (Upd T w0) oi v ρ) (h : WtS P ro n ops K0 T w0 w1 fuel listed' (put ρ oi.dst v) ds) : WtS P ro n ops K0 T w0 w1 (fuel + 1) listed ρ ds := fun _ hw =>
  Wa_take hc (fun _ _ h1 h2 => h1.trans0 h2.upd) ((Array.getElem?_toList ..).symm.trans hi) hf hr hl hcl hy (h01.trans0 hw) fun w' hw' => h w' (hw.trans0 hw'.upd)
theorem WtS_base {T : Nat → Prop} {w0 w1 : World} {fuel : Nat} {listed : Array Bool} {ρ : Env} {ds : List Deferred} (h : WtS P ro n ops K0 T w0 w1 fuel listed ρ ds) : Wa P ro n ops K0 (Upd T w0) fuel listed ρ ds w1 := h w1 (Upd.refl _ _)
theorem YS_v {T : Nat → Prop} {w0 : World} {o : Oper} {v : Value} {ρ : Env} (hg : Region.wanted o (grd n ρ ops) = true) (h : ∀ w, Upd T w0 w → (o.semAt ro (ev n ρ)).run P w = .ok (.value v) w) : YI P ro n ops (Upd T w0) o v ρ :=
  .inl ⟨hg, fun w hw => .inl (h w hw)⟩
end
end Go.Fw
namespace Go.Fw
section
variable {P : Program} {ro : Option Nat} {w : World} {ρ : Operand → Value} {d : Option Tmp} {t : TypeId} {p : String} {e : Array Edge} {g : Option (Nat × Bool)}
theorem r_indexs {xt : TypeId} {x y : Operand} {s : ByteArray} {k : IntKind} {i c : Int} (hu : P.underlying xt = some .string) (hx : ρ x = .string s) (hy : ρ y = .int k i) (h0 : 0 ≤ i) (hc : (s[i.toNat]?).map (fun b => ((b.toNat : Nat) : Int)) = some c) :
    (Oper.semAt ro ρ ⟨d, .index xt x y, t, p, e, g⟩).run P w = .ok (.value (.int .u8 c)) w := by
  rw [sem_op (by simp)]
  cases hs : s[i.toNat]? with
  | none => rw [hs] at hc; simp at hc
  | some b =>
    rw [hs] at hc
    simp only [Option.map_some, Option.some.injEq] at hc
    simp [execOp, hx, hy, Instr.index, asIntOf, run_underlying hu, h0, hs, hc]
end
end Go.Fw
namespace Go.Fw
open Go.ChangeShapes Go.WideShapes Go.ChangeAt Go.RowKit
section
variable {H : Type} {enc : TypeId × Value → H} {P : Program}
theorem trodAll_keep (hl : laidOutB P = true) {W W' : World} {sp : Nat → Bool} (hb : RowKit.Below W.heap.size W W') : ∀ {ts : List TypeId} {vs : List Value} {ds : List (DataW H)} {ps : List MemPlace},
    (ts.all fun t => P.readableRec t && decide (t < P.types.size)) = true → DataW.TrodAll enc P W 0 (fun _ => true) true ts vs ds ps → (∀ p ∈ ps, p.block < W.heap.size) → (∀ p ∈ ps, sp p.block = true) →
    DataW.TrodAll enc P W' 0 sp true ts vs ds ps
  | [], vs, ds, ps, _, h, _, _ => by
    obtain ⟨rfl, rfl, rfl⟩ := trodAll_nil h
    exact trodAll_mk0
  | t :: ts, vs, ds, ps, hr, h, hlt, hs => by
    obtain ⟨v, vs1, d, ds1, p, q, rfl, rfl, rfl, h1, h2⟩ := trodAll_cons h
    simp only [List.all_cons, Bool.and_eq_true, decide_eq_true_eq] at hr
    refine trodAll_cons_mk (WideElems.Trod_stays hl hr.1.1 hr.1.2 h1 (fun x hx => hb.same (hlt x (by simp [hx]))) (fun x hx => hs x (by simp [hx]))) ?_
    exact trodAll_keep hl hb (by simpa using hr.2) h2 (fun x hx => hlt x (by simp [hx])) (fun x hx => hs x (by simp [hx]))
theorem law_post {f : Func} {s : ChangeSpec} {apart fresh handsOn again : Bool} {W W' : World} {args : Array Value} {ds gs : List (DataW H)} {before : List MemPlace} {tb : TypeId}
    (hl : laidOutB P = true) (hr : (f.params.toList.all fun t => P.readableRec t && decide (t < P.types.size)) = true) (hrt : f.resultTypes = #[tb]) (htb : P.underlying tb = some .bool)
    (hv : s.vars = []) (hW : DataW.Whole enc P f.params.toList s.vars apart W args.toList ds gs before) (hs : s.fn H (ds ++ gs) = { results := [.lit (.bool true)], args := ds }) (hb : Upd No W W') :
    s.post enc P f apart fresh handsOn again W args (.bool true) W' := by
  have hB := hb.below
  have hlt : ∀ p ∈ before, p.block < W.heap.size := fun p hp => hW.lt p hp
  have hold : ∀ p ∈ before, (fun b => decide (b < W.heap.size)) p.block = true := fun p hp => by simpa using hlt p hp
  obtain ⟨p, q, hA, hV, rfl, hz, hn⟩ := id hW
  rw [hv] at hV
  obtain ⟨rfl, rfl⟩ := trodVars_none hV
  rw [List.append_nil] at hlt hold hz hn
  have hargs : ∀ sp : Nat → Bool, (∀ x ∈ p, sp x.block = true) → DataW.TrodAll enc P W' 0 sp true f.params.toList args.toList (s.fn H (ds ++ [])).args p := fun sp hsp => by
    rw [hs]; exact trodAll_keep hl hB hr hA hlt hsp
  have hres : ∀ (b : Nat) (sp : Nat → Bool) (hd : Bool), DataW.TrodAll enc P W' b sp hd f.resultTypes.toList ((Value.bool true).resultList f.resultTypes.size) (s.fn H (ds ++ [])).results [] := fun b sp hd => by
    rw [hs, hrt]; exact trodAll_cons_mk (shut_bool htb _) trodAll_mk0
  have hvars : ∀ sp : Nat → Bool, DataW.TrodVars enc P W' sp s.vars (s.fn H (ds ++ [])).vars [] := fun sp => by rw [hs, hv]; rfl
  refine ⟨ds, [], p ++ [], [], p, [], hW, hres _ _ _, hargs _ hold, hvars _, World.keptBut_mono (fun x hx => ⟨by simpa using hx, Or.inr (Or.inl hx)⟩) (hB.frame (· ∈ p)), fun _ => ?_⟩
  refine ⟨ok_one hrt rfl (okWide_bool_mk htb _), _, _, ([] ++ p) ++ [], ⟨[] ++ p, [], trodAll_append (hargs _ (fun _ _ => rfl)) (hres _ _ _), hvars _, rfl, ?_, ?_⟩, ?_⟩
  · intro b off hp
    have hin : MemPlace.cell b off ∈ p := by simpa using hp
    rw [hB.frozen (hlt _ hin)]
    exact hz b off hin
  · intro ha
    simpa using hn ha
  intro x hx _
  simpa using hx
/-! ### arguments -/
theorem sl_of_trod {t e : TypeId} {k : IntKind} {r : Reach} {b0 : Nat} {W : World} {v : Value} {d : DataW H} {ps : List MemPlace} (ht : P.underlying t = some (.slice e)) (he : P.underlying e = some (.int k)) (hc : P.cellsOf e = 1)
    (hval : Value.okWide P W r b0 t v) (h : DataW.Trod enc P W 0 (fun _ => true) true t v d ps) :
    ∃ a n c xs, v = .slice a n c ∧ Sl W (fun g => g < W.heap.size) 1 (.slice a n c) n (ints k xs) ∧ (∀ x ∈ xs, (Lit.int k x).wf = true) ∧ (n = 0 ∨ ∃ el sp, d = .slice el sp ∧ el.length = n) := by
  obtain ⟨fuel, hf⟩ := h
  have hcell : v.cells = #[v] := by
    unfold Value.okWide at hval
    rw [ht] at hval
    unfold Cell.okWide Cell.ok at hval
    rw [ht] at hval
    cases v <;> first | rfl | simp at hval
  rw [hcell] at hf
  rcases open_ints ht he hc hf with ⟨hcs, _⟩ | ⟨a, len, cap, zs, hcs, _, hl, hm, hz, hx, hcl, hwz⟩
  · simp at hcs
    subst hcs
    exact ⟨none, 0, 0, [], rfl, Sl.nil _ _ _, by simp, .inl rfl⟩
  simp at hcs
  subst hcs
  simp only [if_true] at hz
  simp only [Prod.mk.injEq] at hx
  refine ⟨some a, len, cap, zs.take len, rfl, ⟨by simp; omega, _, _, rfl, hl, hm, ?_⟩, fun x hx => hwz x (List.mem_of_mem_take hx), .inr ⟨_, _, hx.1, by simp [lits]; omega⟩⟩
  by_cases hn : len = 0
  · exact .inl hn
  right
  obtain ⟨b, off, rfl, hc'⟩ := ints_at hcl (by omega)
  have h0 := hc' 0 (by omega)
  simp only [World.cell?, Option.isSome_none, Bool.false_eq_true, if_false, Nat.add_zero] at h0
  cases hb : W.heap[b]? with
  | none => rw [hb] at h0; simp at h0
  | some o =>
    rw [hb] at h0
    cases o with
    | cells c t' f =>
      refine ⟨b, off, c, t', f, rfl, (Array.getElem?_eq_some_iff.1 hb).1, hb, fun i hi => ?_⟩
      have h1 := hc' i (by omega)
      simp only [World.cell?, hb, Option.isSome_none, Bool.false_eq_true, if_false] at h1
      rw [h1, ints, List.getElem?_map, List.getElem?_take, if_pos (by omega), List.getD_eq_getElem?_getD, List.getElem?_eq_getElem (by omega)]
      simp
    | _ => simp at h0
theorem byt_of_wf {xs : List Int} (h : ∀ x ∈ xs, (Lit.int .u8 x).wf = true) : Byt xs := fun x hx => by
  have := h x hx
  simp [Lit.wf, IntKind.min, IntKind.max, IntKind.signed, IntKind.bits] at this
  omega
end
end Go.Fw
