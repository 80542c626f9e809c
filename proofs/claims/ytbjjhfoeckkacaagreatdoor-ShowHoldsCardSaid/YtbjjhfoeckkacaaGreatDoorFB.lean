/-
  Several texts of this project, put together.
-/
import Derived.Test.YtbjjhfoeckkacaaGreatDoorFA
import Derived.RecoverIn
import Derived.Laws.MakeOwn
import Derived.Laws.CopyRow
import Derived.Laws.StructEq
import Derived.ProofKit
import Derived.OpenShut
import Derived.JoinedOf
import Derived.JoinedCond
import Derived.SizedLaws
import Derived.Deep.CondSized
import Derived.Carry
set_option maxRecDepth 100000
set_option maxHeartbeats 16000000
namespace Go.Fw
/-! ### blocks of integers -/
/-! ### chains of panics -/
abbrev pan (v : Value) : List PanicEntry := [{ v, recovered := false }]
def Pan (v : Value) (Φ : World → Prop) : Ending → World → Prop := fun e w' => e = .panicked (pan v) ∧ Φ w'
section
variable {P : Program} {ro : Option Nat} {n : Nat} {Q : Post} {ρ : Env} {ds : List Deferred} {w : World} {ops : Array Oper} {rest : List Oper} {d : Nat} {t : TypeId} {p : String} {e : Array Edge}
theorem Z0 {ρ' : Operand → Value} {dd : Option Tmp} {g : Option (Nat × Bool)} {at' et : TypeId} {x y : Operand} {len sz b off i' o' : Nat} {k : IntKind} {i : Int} (hu : P.underlying at' = some (.array len et)) (hsz : ∀ w, (sizeOf et).run P w = .ok sz w)
    (hx : ρ' x = .pointer (some ⟨b, off, none⟩)) (hy : ρ' y = .int k i) (hi : i = i') (h1 : i' < len) (ho : off + i' * sz = o') :
    (Oper.semAt ro ρ' ⟨dd, .indexAddr at' x y, t, p, e, g⟩).run P w = .ok (.value (.pointer (some ⟨b, o', none⟩))) w := by
  subst hi ho
  have h2 : (i' : Int) < len := by omega
  have hadd : (⟨b, off, none⟩ : Addr).add (i' * sz) = ⟨b, off + i' * sz, none⟩ := by unfold Addr.add; split <;> simp_all
  rw [ZT (by simp)]; simp [execOp, hx, hy, Instr.indexAt, asIntOf, run_underlying hu, hsz, Instr.sureAddr, h1, hadd]
theorem Wl_storea {st : TypeId} {x y : Operand} {b off sz : Nat} {cs vs cs' : List Value} {dd : Option Nat} (hsz : ∀ w, (sizeOf st).run P w = .ok sz w) (hx : ev n ρ x = .pointer (some ⟨b, off, none⟩)) (hy : ev n ρ y = .agg vs.toArray)
    (hv : vs.length = sz) (h1 : ∀ u ∈ vs, u.oneCell' = true) (hb : Blk w b cs) (hfit : off + vs.length ≤ cs.length) (hcs : cs.take off ++ vs ++ cs.drop (off + vs.length) = cs')
    (h : ∀ w', Upd (Is b) w w' → w'.heap.size = w.heap.size → Blk w' b cs' → Wl P ro n ops Q rest (put ρ dd undef) ds w') :
    Wl P ro n ops Q (⟨dd, .store st x y, t, p, e, none⟩ :: rest) ρ ds w := by
  obtain ⟨tt, hg⟩ := hb
  have hst := run_storeCells_at P b off tt vs 0 cs.toArray w hg (by simpa using hfit) h1
  simp only [Nat.add_zero] at hst
  rw [hcs] at hst
  refine Wl_u (w' := w.setRow b cs'.toArray) ?_ (h _ ?_ ?_ ?_)
  · rw [ZT (by simp)]
    simp only [execOp, hx, hy, Instr.storeAt, Instr.sureAddr, storeVar, Value.cells, Sem.run_bind, Sem.run_pure, Result.andThen_ok, hsz]
    simp [hv, hst]
  · exact ⟨rfl, rfl, rfl, by simp, fun g _ hg2 => setRow_other w b g _ (fun e => hg2 e)⟩
  · simp
  · exact ⟨tt, setRow_heap w b cs.toArray _ tt _ hg⟩
theorem Wl_panic {x : Operand} {T : TypeId} {v : Value} {dd : Option Nat} (hx : ev n ρ x = .iface T v) (h : Q (.panic (pan (.iface T v))) ρ ds w) : Wl P ro n ops Q (⟨dd, .panic x, t, p, e, none⟩ :: rest) ρ ds w := by
  refine Wl_run rfl ?_
  have hr : (Oper.semAt ro (ev n ρ) ⟨dd, .panic x, t, p, e, none⟩).run P w = .halt (.panic (.iface T v)) w := by
    rw [ZT (by simp)]; simp [execOp, hx, Instr.panic, goPanic]
  rw [hr]
  exact h
theorem YH {dd : Option Tmp} {c : Call} {f : FuncId} {args : Array Value} {v : Value} {Φ : World → Prop}
    (hr : (Oper.semAt ro (ev n ρ) ⟨dd, .call c, t, p, e, none⟩).run P w = .ok (.enter f args) w)
    (hc : Calls P f args w (Pan v Φ)) (h : ∀ w', Φ w' → Q (.panic (pan v)) ρ ds w') : Wl P ro n ops Q (⟨dd, .call c, t, p, e, none⟩ :: rest) ρ ds w := by
  refine Wl_run rfl ?_
  rw [hr]
  refine hc.mono ?_
  rintro e w' ⟨rfl, hR⟩
  exact h w' hR
theorem Wl_defer1 {f : FuncId} {x0 : Operand} {v0 : Value} {ts : Array TypeId} {dd : Option Nat} (h0 : ev n ρ x0 = v0)
    (h : Wl P none n ops Q rest (put ρ dd undef) ({ target := .fn (.func f) #[], args := #[v0] } :: ds) w) :
    Wl P none n ops Q (⟨dd, .defer { callee := .value (.func f), args := #[x0], argTypes := ts }, t, p, e, none⟩ :: rest) ρ ds w := by
  refine Wl_run rfl ?_
  have : (Oper.semAt none (ev n ρ) ⟨dd, .defer { callee := .value (.func f), args := #[x0], argTypes := ts }, t, p, e, none⟩).run P w = .ok (.defer { target := .fn (.func f) #[], args := #[v0] }) w := by
    have hf : ev n ρ (.func f) = .func (.func f) #[] #[] := rfl
    rw [Oper.semAt_none]; simp [execOp, resolve, Deferred.ofValue, hf, h0]
  rw [this]
  exact h
theorem r_ta {dd : Option Tmp} {ρ' : Operand → Value} {g : Option (Nat × Bool)} {x : Operand} {xt T : TypeId} {v : Value} {u : TypeDesc} (hu : P.underlying T = some u) (hi : ∀ m, u ≠ .interface m) (hx : ρ' x = .iface T v) :
    (Oper.semAt ro ρ' ⟨dd, .typeAssert x xt T true, t, p, e, g⟩).run P w = .ok (.value (.tuple #[v, .bool true])) w := by
  rw [ZT (by simp)]
  simp only [execOp, hx, Instr.typeAssert, Sem.run_bind, run_underlying hu, Result.andThen_ok]
  cases u <;> first | exact absurd rfl (hi _) | simp
end
/-! ### recovering -/
section
variable {P : Program} {fn : Func} {n : Nat} {w : World}
theorem CD_recover {f : FuncId} {rest : Code} {rid a b : Nat} {ops : Array Oper} {o1 o2 : Oper} {args : Array Value} {u u' : FrameMode} {v : Value} {RR : Ending → World → Prop}
    (hf : P.funcs[f]? = some fn) (hb : fn.body = some (.seq (.region rid ops false) rest)) (hn : fn.ntmps = n) (ha : args.size ≤ n) (hops : ops = #[o1, o2])
    (h1 : ∀ ρ w, (execOp ρ o1).run P w = .ok .recover w) (hg1 : o1.guard = none) (hd1 : o1.dst = some a) (h2 : ∀ ρ w, (execOp ρ o2).run P w = .ok (.value (ρ (.tmp a))) w) (hg2 : o2.guard = none) (hd2 : o2.dst = some b) (han : a < n)
    (hrec : ∀ (c₀ : Frame) cs, c₀.mode = u → recoverD (c₀ :: cs) = some (v, { c₀ with mode := u' } :: cs) ∨ (recoverD (c₀ :: cs) = none ∧ v = .nilIface ∧ u' = u))
    (h : W P none n rest (fun e ρ ds w => bodyPost P fn RR e ⟨tab n ρ, ds⟩ w) (upd (upd (envOf args.toList 0) a v) b v) [] w) :
    CD P f args u w fun e u'' w' => u'' = u' ∧ RR e w' := by
  subst hn hops
  refine callsDIn_of_wpSIn hf hb trivial fun c₀ cs hu => ?_
  rw [enter_tab args fn.ntmps ha]
  refine wpSIn_seq (wpSIn_region ?_)
  have hc : ({ c₀ with mode := u' } : Frame) :: cs = if recoverD (c₀ :: cs) = none then c₀ :: cs else { c₀ with mode := u' } :: cs := by
    split
    · rename_i hno
      rcases hrec c₀ cs hu with h3 | ⟨_, _, h5⟩
      · rw [hno] at h3; cases h3
      · subst h5; rw [← hu]
    · rfl
  have key : ∀ cs', cs' = ({ c₀ with mode := u' } : Frame) :: cs → rest.wpSIn (Fo none) 0 P (bodyPostS P fn c₀ cs fun e u'' w' => u'' = u' ∧ RR e w') ⟨tab fn.ntmps (upd (upd (envOf args.toList 0) a v) b v), []⟩ cs' w := by
    rintro cs' rfl
    refine wpSIn_of_wpIn rfl (wpIn_mono h ?_)
    rintro e ⟨t, d⟩ w' ⟨ρ', h3, h4⟩
    simp only at h3 h4
    subst h3
    cases e with
    | normal => obtain ⟨h5, v', h6, h7⟩ := h4; exact ⟨h5, u', rfl, v', h6, rfl, h7⟩
    | ret => obtain ⟨h5, v', h6, h7⟩ := h4; exact ⟨h5, u', rfl, v', h6, rfl, h7⟩
    | panic ch => obtain ⟨h5, h6⟩ := h4; exact ⟨h5, u', rfl, rfl, h6⟩
    | outgrown => exact ⟨u', rfl, h4⟩
    | exit id => exact h4.elim
    | goto l => exact h4.elim
  have w1 : ∀ y, Region.wanted o1 y = true := fun y => by simp [Region.wanted, hg1]
  have w2 : ∀ y, Region.wanted o2 y = true := fun y => by simp [Region.wanted, hg2]
  have step2 : ∀ cs', cs' = ({ c₀ with mode := u' } : Frame) :: cs → wpOpsSIn (Fo none) 0 P #[o1, o2] (Exit.thenS (rest.wpSIn (Fo none) 0 P (bodyPostS P fn c₀ cs fun e u'' w' => u'' = u' ∧ RR e w')) (bodyPostS P fn c₀ cs fun e u'' w' => u'' = u' ∧ RR e w')) [1]
      ((⟨tab fn.ntmps (envOf args.toList 0), []⟩ : Act).put (some a) v) cs' w := by
    intro cs' hcs'
    simp only [wpOpsSIn, show (#[o1, o2] : Array Oper)[1]? = some o2 from rfl, w2, if_true, h2]
    refine ⟨fun _ _ => trivial, ?_⟩
    rw [hd2, YV, act_eval, YV]
    simp only [put, ev, blt_t han, cond_true, upd_same]
    exact key cs' hcs'
  rw [show List.range (#[o1, o2] : Array Oper).size = [0, 1] from rfl]
  rw [wpOpsSIn]
  simp only [show (#[o1, o2] : Array Oper)[0]? = some o1 from rfl, w1, if_true, h1]
  refine ⟨fun _ _ => trivial, ?_⟩
  rcases hrec c₀ cs hu with h3 | ⟨h3, h4, h5⟩
  · rw [h3, hd1]
    exact step2 _ rfl
  · rw [h3, hd1]
    subst h4 h5
    exact step2 _ (by rw [← hu])
theorem rec_some {v : Value} (c₀ : Frame) (cs : List Frame) (h : c₀.mode = .panicking (pan v)) : recoverD (c₀ :: cs) = some (v, { c₀ with mode := .panicking [{ v, recovered := true }] } :: cs) := by
  simp [recoverD, h, pan]
theorem rec_none (c₀ : Frame) (cs : List Frame) (h : c₀.mode = .returning) : recoverD (c₀ :: cs) = none := by
  simp [recoverD, h]
end
/-! ### results that lie in cells -/
section
variable {P : Program} {fn : Func} {n : Nat} {ρ : Env} {w : World}
theorem Yy {a : Nat} {v : Value} (h : ev n ρ (.tmp a) = v) : (tab n ρ)[a]?.getD undef = v := by
  have e1 := (Array.getD_eq_getD_getElem? (xs := tab n ρ) (i := a) (d := undef)).symm.trans (YF n ρ a)
  rw [h] at e1; exact e1
def CellIs (P : Program) (t : TypeId) (b : Nat) (v : Value) (w : World) : Prop := (loadVar t ⟨b, 0, none⟩).run P w = .ok v w
theorem cellIs {t : TypeId} {b : Nat} {v : Value} (g : ∀ w, (isAgg t).run P w = .ok false w) (k : Blk w b [v]) : CellIs P t b v w := by
  have c1 : w.cell? ⟨b, 0, none⟩ = some v := by rw [k.cell]; rfl
  simp [CellIs, loadVar, g, c1]
theorem Zu {t : TypeId} {b sz : Nat} {cs : List Value} (g : ∀ w, (isAgg t).run P w = .ok true w) (hs : ∀ w, (sizeOf t).run P w = .ok sz w) (hl : cs.length = sz) (k : Blk w b cs) : CellIs P t b (.agg cs.toArray) w := by
  have := load_cells (P := P) (w := w) (b := b) (off := 0) hl (fun j _ => by rw [k.cell, Nat.zero_add])
  simp [CellIs, loadVar, g, hs, this]
theorem rc1 {a : Tmp} {ta : TypeId} {b1 : Nat} {v1 : Value} (h : fn.results = #[.cell a ta]) (h1 : ev n ρ (.tmp a) = .pointer (some ⟨b1, 0, none⟩)) (k1 : CellIs P ta b1 v1 w) : (results fn (tab n ρ)).run P w = .ok v1 w := by
  have e1 := Yy h1
  unfold CellIs at k1
  simp only [results, h]
  simp [e1, asAddr, k1]
theorem rc2 {a b : Tmp} {ta tb : TypeId} {b1 b2 : Nat} {v1 v2 : Value} (h : fn.results = #[.cell a ta, .cell b tb]) (h1 : ev n ρ (.tmp a) = .pointer (some ⟨b1, 0, none⟩)) (h2 : ev n ρ (.tmp b) = .pointer (some ⟨b2, 0, none⟩))
    (k1 : CellIs P ta b1 v1 w) (k2 : CellIs P tb b2 v2 w) : (results fn (tab n ρ)).run P w = .ok (.tuple #[v1, v2]) w := by
  have e1 := Yy h1
  have e2 := Yy h2
  unfold CellIs at k1 k2
  simp only [results, h]
  simp [e1, e2, asAddr, k1, k2]
end
/-! ### make -/
theorem madeCells_rep (zc : List Value) (c : Nat) (hz : 0 < zc.length) : madeCells zc.toArray (c * zc.length) = (List.replicate c zc).flatten.toArray := by
  apply Array.ext_getElem?
  intro i
  simp only [madeCells, List.size_toArray, List.getElem?_toArray, Array.getElem?_map]
  rcases Nat.lt_or_ge i (c * zc.length) with h | h
  · rw [Array.getElem?_range, if_pos h]
    have h1 : i % zc.length < zc.length := Nat.mod_lt _ hz
    have key : ∀ (c i : Nat), i < c * zc.length → (List.replicate c zc).flatten[i]? = zc[i % zc.length]? := by
      intro c
      induction c with
      | zero => intro i h; omega
      | succ c ih =>
        intro i h
        rw [List.replicate_succ, List.flatten_cons]
        rcases Nat.lt_or_ge i zc.length with h2 | h2
        · rw [List.getElem?_append_left h2, Nat.mod_eq_of_lt h2]
        · rw [List.getElem?_append_right h2, ih _ (by rw [Nat.add_mul] at h; omega)]
          rw [show i % zc.length = (i - zc.length) % zc.length from by rw [← Nat.mod_eq_sub_mod h2]]
    rw [key c i h]
    simp [h1]
  · rw [Array.getElem?_eq_none (by simpa using h), List.getElem?_eq_none (by simp; omega)]; rfl
theorem rows_rep {α : Type} {enc : α → List Value} (x : α) (c : Nat) : (List.replicate c (enc x)).flatten = rows enc (List.replicate c x) := by
  unfold rows
  induction c with
  | zero => rfl
  | succ c ih => rw [List.replicate_succ, List.replicate_succ, List.flatten_cons, List.flatMap_cons, ih]
section
variable {P : Program} {ro : Option Nat} {n : Nat} {Q : Post} {ρ : Env} {ds : List Deferred} {w : World} {ops : Array Oper} {rest : List Oper} {d : Nat} {t : TypeId} {p : String} {e : Array Edge}
end
theorem Blk.own {w : World} {b sz c : Nat} {e : TypeId} {cs : List Value} (h : ∃ t, t = e ∧ w.heap[b]? = some (.cells cs.toArray t (0, 0))) (hl : cs.length = c * sz) (hc : c ≤ maxLen) : Own w (Is b) e sz (.slice (some ⟨b, 0, none⟩) c c) c cs := by
  obtain ⟨t, rfl, ht⟩ := h
  exact ⟨⟨hl, .inr ⟨b, c, cs.toArray, rfl, Nat.zero_le _, ht, Nat.le_refl _, hc, by simpa using hl, by simp [← hl]⟩⟩, fun k hk => by simp [Value.ownBlock] at hk; exact hk.symm⟩
theorem Blk.sl {w : World} {b off n c : Nat} {k : IntKind} {l : List Int} (h : Blk w b (ints k l)) (hn : n ≤ c) (hc : c ≤ maxLen) (hl : off + n ≤ l.length) : Sl w (Is b) 1 (.slice (some ⟨b, off, none⟩) n c) n (ints k ((l.drop off).take n)) := by
  obtain ⟨t, ht⟩ := h
  refine ⟨by simp [ints]; omega, _, _, rfl, hn, hc, .inr ⟨b, off, _, t, _, rfl, rfl, ht, fun i hi => ?_⟩⟩
  simp only [List.getElem?_toArray, ints, List.getElem?_map, List.getElem?_take, List.getElem?_drop]
  rw [if_pos (by omega)]
end Go.Fw
namespace Go.Fw
section
variable {P : Program} {ro : Option Nat} {n : Nat} {Q : Post} {ρ : Env} {ds : List Deferred} {w : World} {ops : Array Oper} {rest : List Oper} {d : Nat} {t : TypeId} {p : String} {e : Array Edge}
theorem Wl_makeo {st et : TypeId} {ti : TypeInfo} {z : Value} {zc cs : List Value} {sz : Nat} {x y : Operand} {kl kc : IntKind} {l c : Int} {c' : Nat} (hu : P.underlying st = some (.slice et)) (hi : P.info? et = some ti) (hz : ti.zero = some z) (hzc : z.cells = zc.toArray) (hsz : ti.size = zc.length) (hpos : 0 < zc.length)
    (hx : ev n ρ x = .int kl l) (hy : ev n ρ y = .int kc c) (hl : l = c') (hc : c = c') (hb : ti.bytes * c' ≤ 281474976710656) (h63 : c' ≤ maxLen) (hcs : (List.replicate c' zc).flatten = cs) (hzs : zc.length = sz)
    (h : ∀ b w', w.heap.size = b → Upd No w w' → w'.heap.size = b + 1 → Own w' (Is b) et sz (.slice (some ⟨b, 0, none⟩) c' c') c' cs → Wl P ro n ops Q rest (upd ρ d (.slice (some ⟨b, 0, none⟩) c' c')) ds w') :
    Wl P ro n ops Q (⟨some d, .makeSlice st x y, t, p, e, none⟩ :: rest) ρ ds w := by
  subst hl hc hcs hzs
  have hbi : (ti.bytes : Int) * (c' : Int) ≤ 281474976710656 := by
    have : ((ti.bytes * c' : Nat) : Int) ≤ 281474976710656 := by omega
    rwa [Int.natCast_mul] at this
  have h63' : c' ≤ 9223372036854775807 := by simp only [maxLen] at h63; omega
  have hr := run_make (P := P) w st et ti z hu hi hz kl kc c' c' (by omega) (by omega) hbi (by omega)
  rw [hzc, hsz, Int.toNat_natCast, madeCells_rep zc c' hpos] at hr
  refine Zf (v := .slice (some ⟨w.heap.size, 0, none⟩) c' c') (w' := w.alloc (.cells (List.replicate c' zc).flatten.toArray et)) ?_ (h _ _ rfl (Y4 _ _) (by simp) (Blk.own ⟨_, rfl, World.alloc_heap_new w _⟩ (by simp) h63))
  rw [ZT (by simp)]; simp only [execOp, hx, hy, Sem.run_bind, hr, Result.andThen_ok, Sem.run_pure]
theorem r_idxor {ρ' : Operand → Value} {dd : Option Tmp} {g' : Option (Nat × Bool)} {st et : TypeId} {x y : Operand} {m g c sz : Nat} {k' : IntKind} {i : Int} {i' o' : Nat} (hu : P.underlying st = some (.slice et)) (hsz : ∀ w, (sizeOf et).run P w = .ok sz w)
    (hx : ρ' x = .slice (some ⟨g, 0, none⟩) m c) (hy : ρ' y = .int k' i) (hi : i = i') (h1 : i' < m) (ho : i' * sz = o') :
    (Oper.semAt ro ρ' ⟨dd, .indexAddr st x y, t, p, e, g'⟩).run P w = .ok (.value (.pointer (some ⟨g, o', none⟩))) w := by
  subst hi ho
  have h2 : (i' : Int) < m := by omega
  have hadd : (⟨g, 0, none⟩ : Addr).add (i' * sz) = ⟨g, i' * sz, none⟩ := by unfold Addr.add; split <;> simp_all
  rw [ZT (by simp)]; simp [execOp, hx, hy, Instr.indexAt, asIntOf, run_underlying hu, hsz, h1, hadd]
theorem rows_set {α : Type} {enc : α → List Value} {sz : Nat} (hs : ∀ x, (enc x).length = sz) : ∀ (l : List α) (i : Nat) (x : α), i < l.length → (rows enc l).take (i * sz) ++ enc x ++ (rows enc l).drop (i * sz + sz) = rows enc (l.set i x)
  | [], _, _, h => by simp at h
  | y :: l, 0, x, _ => by
    simp only [rows, List.flatMap_cons, Nat.zero_mul, List.take_zero, List.nil_append, Nat.zero_add, List.set_cons_zero]
    rw [List.drop_append_of_le_length (by rw [hs]; exact Nat.le_refl _), List.drop_of_length_le (by rw [hs]; exact Nat.le_refl _), List.nil_append]
  | y :: l, i + 1, x, h => by
    have ih := rows_set hs l i x (by simpa using h)
    simp only [rows, List.flatMap_cons, List.set_cons_succ] at ih ⊢
    rw [← ih, show (i + 1) * sz = (enc y).length + i * sz from by rw [hs, Nat.add_mul]; omega, List.take_length_add_append, show (enc y).length + i * sz + sz = (enc y).length + (i * sz + sz) from by omega, List.drop_length_add_append]
    simp
theorem Wl_storer {α : Type} {enc : α → List Value} {st et : TypeId} {x y : Operand} {R : Nat → Prop} {m g i sz c : Nat} {l : List α} (v : α) {dd : Option Nat} {cs : Array Value} (hs : ∀ x, (enc x).length = sz) (hpos : 0 < sz) (one : ∀ u ∈ enc v, u.oneCell' = true) (hsz : ∀ w, (sizeOf st).run P w = .ok sz w) (hx : ev n ρ x = .pointer (some ⟨g, i * sz, none⟩)) (hy : ev n ρ y = .agg cs) (hcs : cs = (enc v).toArray)
    (ho : Own w R et sz (.slice (some ⟨g, 0, none⟩) m c) m (rows enc l)) (hi : i < m)
    (h : ∀ w', Upd (Is g) w w' → w'.heap.size = w.heap.size → Own w' R et sz (.slice (some ⟨g, 0, none⟩) m c) m (rows enc (l.set i v)) → Wl P ro n ops Q rest (put ρ dd undef) ds w') :
    Wl P ro n ops Q (⟨dd, .store st x y, t, p, e, none⟩ :: rest) ρ ds w := by
  subst hcs
  have hl := Ya hs hpos ho.sl
  obtain ⟨⟨h1, h2⟩, h3⟩ := ho
  rcases h2 with ⟨h4, h5⟩ | ⟨g', cap, cur, h5, hb, hg, hnc, hcm, hcur, ht⟩
  · cases h4
  · simp only [Value.slice.injEq, Option.some.injEq, Addr.mk.injEq, and_true, true_and] at h5
    obtain ⟨rfl, rfl⟩ := h5
    have hsm : i * sz + sz ≤ m * sz := by have : (i + 1) * sz ≤ m * sz := Nat.mul_le_mul_right _ hi; rw [Nat.add_mul] at this; omega
    have hmc : m * sz ≤ cur.size := by rw [hcur]; exact Nat.mul_le_mul_right _ hnc
    have hst := run_storeCells_at P g (i * sz) et (enc v) 0 cur w hg (by rw [hs]; omega) one
    simp only [Nat.add_zero, hs] at hst
    refine Wl_u (w' := w.setRow g (cur.toList.take (i * sz) ++ enc v ++ cur.toList.drop (i * sz + sz)).toArray) ?_ (h _ ?_ ?_ ?_)
    · rw [ZT (by simp)]
      simp only [execOp, hx, hy, Instr.storeAt, Instr.sureAddr, storeVar, Value.cells, Sem.run_bind, Sem.run_pure, Result.andThen_ok, hsz]
      simp [hs, hst]
    · exact ⟨rfl, rfl, rfl, by simp, fun z _ hz => setRow_other w g z _ (fun e => hz e)⟩
    · simp
    · refine ⟨⟨by rw [rows_len hs, List.length_set, hl], .inr ⟨g, c, _, rfl, hb, setRow_heap w g cur _ et _ hg, hnc, hcm, ?_, ?_⟩⟩, h3⟩
      · simp only [List.size_toArray, List.length_append, List.length_take, List.length_drop, Array.length_toList, hs]; omega
      · rw [← rows_set hs l i v (by omega), ← ht]
        simp only [List.take_append, List.take_take, List.length_take, Array.length_toList, List.length_append, hs, List.drop_take]
        congr 1
        · congr 1
          · congr 1; omega
          · rw [List.take_of_length_le (by rw [hs]; omega)]
        · congr 1; omega
/-! equality of structs -/
theorem eqf_nil {dep : Nat} {xs ys : Array Value} : (Op.eqFields dep xs ys []).run P w = .ok true w := by simp [Op.eqFields]
theorem eqf_int {dep : Nat} {xs ys : Array Value} {f : Field} {fs : List Field} {k k' : IntKind} {a b : Int} {r : Bool} (hn : f.name ≠ "_") (hu : P.underlying f.type = some (.int k')) (hag : ∀ w, (isAgg f.type).run P w = .ok false w)
    (hx : xs[f.offset]? = some (.int k a)) (hy : ys[f.offset]? = some (.int k b)) (hr : ∀ w, (Op.eqFields (dep + 1) xs ys fs).run P w = .ok r w) : (Op.eqFields (dep + 1) xs ys (f :: fs)).run P w = .ok (decide (a = b) && r) w := by
  have he := run_equalIn_int (P := P) w dep f.type k k' a b hu
  simp only [Op.eqFields, if_pos hn, part, Sem.run_bind, hag, Result.andThen_ok, hx, hy]
  simp [he]
  by_cases hab : a = b
  · simp [hab, hr]
  · simp [hab]
theorem r_eqag {ρ' : Operand → Value} {dd : Option Tmp} {g : Option (Nat × Bool)} {st yt : TypeId} {x y : Operand} {xs ys : Array Value} {r : Bool} {fs : Array Field} {pp : Prop} [Decidable pp] (hu : P.underlying st = some (.struct fs)) (hp : P.stoodInHeld st = false) (hm : P.eqGuardType P.depth st = false)
    (hx : ρ' x = .agg xs) (hy : ρ' y = .agg ys) (he : ∀ w, (Op.eqFields 9999 xs ys fs.toList).run P w = .ok r w) (hr : r = decide pp) :
    (Oper.semAt ro ρ' ⟨dd, .binOp .eql st x y yt, t, p, e, g⟩).run P w = .ok (.value (.bool (decide pp))) w := by
  have hf : P.fieldsOf st = fs := by simp [Program.fieldsOf, hu]
  have h := run_eql_struct (P := P) w st xs ys
  rw [run_equalIn_struct w 9999 st xs ys (by rw [hf]; exact hu) hp, hf, he] at h
  simp only [Result.andThen_ok, hr] at h
  rw [ZT (by simp)]; simp only [execOp, hx, hy, Sem.run_bind, run_eqGuard_agg _ _ _ _ _ _ _ hm, Result.andThen_ok, h]; simp
end
theorem Upd.cellsk {w0 w : World} (h : Upd No w0 w) {b off sz : Nat} {cs : List Value} (hl : cs.length = sz) (hc : ∀ j, j < sz → w0.cell? ⟨b, off + j, none⟩ = cs[j]?) : ∀ j, j < sz → w.cell? ⟨b, off + j, none⟩ = cs[j]? := fun j hj => by
  have h1 := hc j hj
  rw [List.getElem?_eq_getElem (by omega)] at h1 ⊢
  exact h.Y8 h1
theorem Sl.rat {α : Type} {enc : α → List Value} {w : World} {R : Nat → Prop} {sz n c : Nat} {a : Option Addr} {l : List α} (d : α) (hs : ∀ x, (enc x).length = sz) (hp : 0 < sz) (h : Sl w R sz (.slice a n c) n (rows enc l)) {i : Nat} (hi : i < n) :
    ∃ b off, a = some ⟨b, off, none⟩ ∧ R b ∧ ∀ j, j < sz → w.cell? ⟨b, off + i * sz + j, none⟩ = (enc (l.getD i d))[j]? := by
  obtain ⟨b, off, h1, h2, h3⟩ := h.atR hi
  refine ⟨b, off, h1, h2, fun j hj => ?_⟩
  rw [h3 j hj, rows_get hs d l i j (by rw [Ya hs hp h]; exact hi) hj]
def encB (x : Bool) : List Value := [.bool (decide (x = true))]
theorem Z4 (x : Bool) : (encB x).length = 1 := rfl
end Go.Fw
namespace Go.Fw
def noG (Q : Post) : Post
  | .goto _, _, _, _ => False
  | e, ρ, ds, w => Q e ρ ds w
theorem stepR_scope {P : Program} {b : Frame} {a : Act} {k : List Item} {cs : List Frame} {w : World} {c : Code} : step P (lone (b.atR a (.code (.scope c) :: k)) cs w) = .next (lone (b.atR a (.code c :: .inScope c :: k)) cs w) :=
  step_lone_go (by simp [stepG, stepG.exec, Frame.atR])
theorem stepR_inScope {P : Program} {b : Frame} {a : Act} {k : List Item} {cs : List Frame} {w : World} {c : Code} : step P (lone (b.atR a (.inScope c :: k)) cs w) = .next (lone (b.atR a k) cs w) :=
  step_lone_go (by simp [stepG, stepG.exec, Frame.atR])
theorem W_scope {P : Program} {ro : Option Nat} {n : Nat} {Q : Post} {ρ : Env} {ds : List Deferred} {w : World} {c : Code} (h : W P ro n c (noG Q) ρ ds w) : W P ro n (.scope c) Q ρ ds w := by
  intro b k cs hro hb hr
  have h0 : (lone (b.atR ⟨tab n ρ, ds⟩ (.code (.scope c) :: k)) cs w).fenced P (Fo ro) := fenced_calm hb hr rfl
  obtain ⟨e, ⟨t, d⟩, w₁, ⟨ρ', h1, h2⟩, harr⟩ := h b (.inScope c :: k) cs hro hb hr
  simp only at h1 h2
  subst h1
  cases e with
  | normal => exact ⟨.normal, ⟨tab n ρ', d⟩, w₁, ⟨ρ', rfl, h2⟩, .head h0 stepR_scope (StepsIn.trans harr (.one (fenced_calm hb hr rfl) stepR_inScope))⟩
  | exit id =>
    have hx : exitTo id (.inScope c :: k) = exitTo id k := by simp [exitTo]
    exact ⟨_, ⟨tab n ρ', d⟩, w₁, ⟨ρ', rfl, h2⟩, fun k' hk => .head h0 stepR_scope (harr.1 k' (by rw [hx]; exact hk)),
      fun hr' hk => let ⟨k₁, h1, h2⟩ := harr.2 hr' (by rw [hx]; exact hk); ⟨k₁, h1, .head h0 stepR_scope h2⟩⟩
  | goto l => exact h2.elim
  | ret => exact ⟨_, ⟨tab n ρ', d⟩, w₁, ⟨ρ', rfl, h2⟩, .of_steps (.one h0 stepR_scope) harr⟩
  | panic ch => exact ⟨_, ⟨tab n ρ', d⟩, w₁, ⟨ρ', rfl, h2⟩, .of_steps (.one h0 stepR_scope) harr⟩
  | outgrown => exact ⟨_, ⟨tab n ρ', d⟩, w₁, ⟨ρ', rfl, h2⟩, .of_steps (.one h0 stepR_scope) harr⟩
section
variable {P : Program} {ro : Option Nat} {w : World} {d : Option Tmp} {t : TypeId} {p : String} {e : Array Edge} {ρ' : Operand → Value} {g : Option (Nat × Bool)}
end
section
variable {P : Program} {ro : Option Nat} {w : World} {d : Option Tmp} {t : TypeId} {p : String} {e : Array Edge} {ρ : Operand → Value} {g : Option (Nat × Bool)}
end
theorem Yn {α : Type} {enc : α → List Value} (h : ∀ x, ∀ u ∈ enc x, u.oneCell' = true) (l : List α) : ∀ u ∈ rows enc l, u.oneCell' = true := by
  intro u hu
  obtain ⟨x, _, h2⟩ := List.mem_flatMap.1 hu
  exact h x u h2
end Go.Fw
namespace Go.Fw
def unrK (P : Program) (ro : Option Nat) (n : Nat) (c : Code) (Q : Post) : Nat → Env → List Deferred → World → Prop
  | 0 => fun _ _ _ => False
  | m + 1 => fun ρ ds w => W P ro n c (thn (unrK P ro n c Q m) Q) ρ ds w
theorem ZX {P : Program} {ro : Option Nat} {n : Nat} {c : Code} {Q : Post} {m : Nat} {ρ : Env} {ds : List Deferred} {w : World} (h : W P ro n c (thn (unrK P ro n c Q m) Q) ρ ds w) : unrK P ro n c Q (m + 1) ρ ds w := h
theorem W_unroll {P : Program} {ro : Option Nat} {n : Nat} {Q : Post} {ρ : Env} {ds : List Deferred} {w : World} {c : Code} (m : Nat) (h : unrK P ro n c Q m ρ ds w) : W P ro n (.loop c) Q ρ ds w := by
  refine ZS (fun m ρ ds w => unrK P ro n c Q m ρ ds w) m h ?_
  intro m ρ ds w h
  cases m with
  | zero => exact False.elim h
  | succ m =>
    refine W_mono h fun e ρ ds w hq => ?_
    cases e <;> first | exact ⟨m, by omega, hq⟩ | exact hq
section
variable {P : Program} {ro : Option Nat} {n : Nat} {Q : Post} {ρ : Env} {ds : List Deferred} {w : World} {ops : Array Oper} {rest : List Oper} {d : Option Tmp} {t : TypeId} {p : String} {e : Array Edge}
end
section
variable {P : Program} {ro : Option Nat} {w : World} {ρ : Operand → Value} {d : Option Tmp} {t : TypeId} {p : String} {e : Array Edge} {g : Option (Nat × Bool)}
end
section
variable {P : Program} {ro : Option Nat} {w : World} {ρ : Operand → Value} {d : Option Tmp} {t : TypeId} {p : String} {e : Array Edge} {g : Option (Nat × Bool)}
theorem r_nestr {xt yt : TypeId} {x y : Operand} {xs ys : List Int} (bx : Byt xs) (by' : Byt ys) (hx : ρ x = .string (strOfNums xs)) (hy : ρ y = .string (strOfNums ys)) :
    (Oper.semAt ro ρ ⟨d, .binOp .neq xt x y yt, t, p, e, g⟩).run P w = .ok (.value (.bool (!decide (xs = ys)))) w := by
  rw [ZT (by simp)]; simp only [execOp, hx, hy, eqGuard, binOp, Op.stringOp, str_eq bx by']; simp
end
theorem Own.cellc {w : World} {R : Nat → Prop} {n c g : Nat} {e : TypeId} {cs : List Value} (h : Own w R e 1 (.slice (some ⟨g, 0, none⟩) n c) n cs) {i : Nat} (hi : i < n) : w.cell? ⟨g, i, none⟩ = cs[i]? := by
  obtain ⟨b, off, ha, hc⟩ := h.sl.at hi
  simp only [Option.some.injEq, Addr.mk.injEq, and_true] at ha
  obtain ⟨rfl, rfl⟩ := ha
  have := hc 0 (by omega)
  simpa using this
theorem freeze_heap {w : World} {b k : Nat} {cur : Array Value} {e : TypeId} (h : w.heap[b]? = some (.cells cur e (0, 0))) : (w.freeze ⟨b, k, none⟩ 1).heap[b]? = some (.cells cur e (k, k + 1)) := by
  unfold World.freeze
  rw [if_neg (by decide)]
  simp [Array.getElem?_modify, h]
theorem freeze_other {w : World} {b k g : Nat} (hg : g ≠ b) : (w.freeze ⟨b, k, none⟩ 1).heap[g]? = w.heap[g]? := by
  unfold World.freeze
  rw [if_neg (by decide)]
  have : ¬ b = g := fun e => hg e.symm
  simp [Array.getElem?_modify, this]
theorem freeze_upd (w : World) (b k : Nat) : Upd (Is b) w (w.freeze ⟨b, k, none⟩ 1) := by
  refine ⟨?_, ?_, ?_, ?_, fun g _ hg => freeze_other (fun e => hg e)⟩ <;> (unfold World.freeze; rw [if_neg (by decide)]) <;> simp
theorem freeze_size (w : World) (b k : Nat) : (w.freeze ⟨b, k, none⟩ 1).heap.size = w.heap.size := by
  unfold World.freeze
  rw [if_neg (by decide)]
  simp
section
variable {P : Program} {ro : Option Nat} {n : Nat} {Q : Post} {ρ : Env} {ds : List Deferred} {w : World} {ops : Array Oper} {rest : List Oper} {d : Nat} {t : TypeId} {p : String} {e : Array Edge}
theorem Wl_cvtsl {st et : TypeId} {x : Operand} {R : Nat → Prop} {g m c : Nat} {cs : List Value} (hu : P.underlying st = some (.slice et)) (he : P.underlying et = some (.int .u8)) (hx : ev n ρ x = .slice (some ⟨g, 0, none⟩) m c)
    (ho : Own w R et 1 (.slice (some ⟨g, 0, none⟩) m c) m cs)
    (h : ∀ w', Upd (Is g) w w' → w'.heap.size = w.heap.size → Sl w' R 1 (.slice (some ⟨g, 0, none⟩) m c) m cs → Wl P ro n ops Q rest (upd ρ d (.slice (some ⟨g, 0, none⟩) m c)) ds w') :
    Wl P ro n ops Q (⟨some d, .convert st st x, t, p, e, none⟩ :: rest) ρ ds w := by
  obtain ⟨⟨h1, h2⟩, h3⟩ := ho
  rcases h2 with ⟨h4, _⟩ | ⟨g', cap, cur, h5, hb, hg, hnc, hcm, hcs, ht⟩
  · cases h4
  · simp only [Value.slice.injEq, Option.some.injEq, Addr.mk.injEq, and_true, true_and] at h5
    obtain ⟨rfl, rfl⟩ := h5
    have hsh : w.shape? g = some (et, cur.size) := by unfold World.shape?; rw [hg]
    refine Zf (v := .slice (some ⟨g, 0, none⟩) m c) (w' := w.freeze ⟨g, cur.size, none⟩ 1) ?_ (h _ (freeze_upd w g _) (freeze_size w g _) ?_)
    · rw [ZT (by simp)]; simp [execOp, hx, convert, run_underlying hu, run_underlying he, markStringish, hsh]
    · refine ⟨h1, _, _, rfl, hnc, hcm, ?_⟩
      by_cases hm : m = 0
      · exact .inl hm
      · refine .inr ⟨g, 0, cur, et, _, rfl, h3 g rfl, freeze_heap hg, fun i hi => ?_⟩
        rw [Nat.zero_add, ← ht, List.getElem?_take, if_pos hi, Array.getElem?_toList]
end
end Go.Fw
namespace Go.Fw
section
variable {P : Program} {fn : Func} {w : World} {n : Nat} {ρ : Env}
theorem YS {a b : Tmp} {ta : TypeId} {b1 : Nat} {v1 v2 : Value} (h : fn.results = #[.cell a ta, .tmp b]) (h1 : ev n ρ (.tmp a) = .pointer (some ⟨b1, 0, none⟩)) (h2 : ev n ρ (.tmp b) = v2)
    (k1 : CellIs P ta b1 v1 w) : (results fn (tab n ρ)).run P w = .ok (.tuple #[v1, v2]) w := by
  have e1 := Yy h1
  have e2 := Yy h2
  unfold CellIs at k1
  simp only [results, h]
  simp [e1, e2, asAddr, k1]
theorem rm_tc {a b : Tmp} {tb : TypeId} {b2 : Nat} {v1 v2 : Value} (h : fn.results = #[.tmp a, .cell b tb]) (h1 : ev n ρ (.tmp a) = v1) (h2 : ev n ρ (.tmp b) = .pointer (some ⟨b2, 0, none⟩))
    (k2 : CellIs P tb b2 v2 w) : (results fn (tab n ρ)).run P w = .ok (.tuple #[v1, v2]) w := by
  have e1 := Yy h1
  have e2 := Yy h2
  unfold CellIs at k2
  simp only [results, h]
  simp [e1, e2, asAddr, k2]
theorem Yb {a b c : Tmp} {ta : TypeId} {b1 : Nat} {v1 v2 v3 : Value} (h : fn.results = #[.cell a ta, .tmp b, .tmp c]) (h1 : ev n ρ (.tmp a) = .pointer (some ⟨b1, 0, none⟩)) (h2 : ev n ρ (.tmp b) = v2) (h3 : ev n ρ (.tmp c) = v3)
    (k1 : CellIs P ta b1 v1 w) : (results fn (tab n ρ)).run P w = .ok (.tuple #[v1, v2, v3]) w := by
  have e1 := Yy h1
  have e2 := Yy h2
  have e3 := Yy h3
  unfold CellIs at k1
  simp only [results, h]
  simp [e1, e2, e3, asAddr, k1]
end
section
variable {P : Program} {ro : Option Nat} {n : Nat} {Q : Post} {ρ : Env} {ds : List Deferred} {w : World} {ops : Array Oper} {rest : List Oper} {d : Nat} {t : TypeId} {p : String} {e : Array Edge}
end
end Go.Fw
namespace Go.Fw
theorem rows_take {α : Type} {enc : α → List Value} {sz : Nat} (hs : ∀ x, (enc x).length = sz) : ∀ (l : List α) (i : Nat), (rows enc l).take (i * sz) = rows enc (l.take i)
  | [], i => by simp [rows]
  | x :: l, 0 => by simp [rows]
  | x :: l, i + 1 => by
    have := rows_take hs l i
    simp only [rows, List.flatMap_cons, List.take_succ_cons] at this ⊢
    rw [Nat.add_mul, Nat.one_mul, Nat.add_comm, List.take_append, List.take_of_length_le (by rw [hs]; omega), hs, Nat.add_sub_cancel_left, this]
theorem rows_drop {α : Type} {enc : α → List Value} {sz : Nat} (hs : ∀ x, (enc x).length = sz) : ∀ (l : List α) (i : Nat), (rows enc l).drop (i * sz) = rows enc (l.drop i)
  | [], i => by simp [rows]
  | x :: l, 0 => by simp [rows]
  | x :: l, i + 1 => by
    have := rows_drop hs l i
    simp only [rows, List.flatMap_cons, List.drop_succ_cons] at this ⊢
    rw [Nat.add_mul, Nat.one_mul, Nat.add_comm, List.drop_append, List.drop_of_length_le (by rw [hs]; omega), hs, Nat.add_sub_cancel_left, this, List.nil_append]
section
variable {P : Program} {ro : Option Nat} {n : Nat} {Q : Post} {ρ : Env} {ds : List Deferred} {w : World} {ops : Array Oper} {rest : List Oper} {d : Option Tmp} {t : TypeId} {p : String} {e : Array Edge}
end
section
variable {P : Program} {ro : Option Nat} {w : World} {ρ : Operand → Value} {d : Option Tmp} {t : TypeId} {p : String} {e : Array Edge} {g : Option (Nat × Bool)}
end
section
variable {P : Program} {ro : Option Nat} {w : World} {ρ : Operand → Value} {d : Option Tmp} {t : TypeId} {p : String} {e : Array Edge} {g : Option (Nat × Bool)}
theorem YN {st et : TypeId} {len sz : Nat} {parts : Array (Nat × Operand)} {pv : List (Nat × Value)} {z : Value} {cs : Array Value} (hz : ∀ w, (zeroValue st).run P w = .ok z w) (hu : P.underlying st = some (.array len et)) (hsz : ∀ w, (sizeOf et).run P w = .ok sz w)
    (hp : (parts.map fun (i, x) => (i, ρ x)).toList = pv := by simp only [List.map_toArray, List.map_cons, List.map_nil] <;> rfl) (hf : Instr.fill (fun i => some (i * sz, sz)) z.cells pv = some cs := by kernel_rfl) :
    (Oper.semAt ro ρ ⟨d, .build st parts, t, p, e, g⟩).run P w = .ok (.value (.agg cs)) w := by
  subst hp
  rw [ZT (by simp)]; simp only [execOp, Instr.build, Sem.run_bind, hz, Result.andThen_ok, run_underlying hu, hsz, hf]; simp
end
theorem Own.one {w : World} {R : Nat → Prop} {e : TypeId} {sz n c : Nat} {a : Option Addr} {cs : List Value} (h : Own w R e sz (.slice a n c) n cs) (hn : 0 < n) : ∃ g, R g ∧ Own w (fun x => x = g) e sz (.slice a n c) n cs := by
  obtain ⟨⟨h1, h2⟩, h3⟩ := h
  rcases h2 with ⟨h4, h5⟩ | ⟨g, cap, cur, h5, r⟩
  · simp only [Value.slice.injEq] at h4; omega
  · have h6 := h5
    simp only [Value.slice.injEq] at h6
    obtain ⟨rfl, _, rfl⟩ := h6
    exact ⟨g, h3 g rfl, ⟨h1, .inr ⟨g, _, cur, rfl, r⟩⟩, fun k hk => by simp [Value.ownBlock] at hk; exact hk.symm⟩
theorem Sl.rhd {α : Type} {enc : α → List Value} {w : World} {R : Nat → Prop} {sz m c k : Nat} {a : Option Addr} {xs : List α} (hs : ∀ x, (enc x).length = sz) (h : Sl w R sz (.slice a m c) m (rows enc xs)) (hk : k ≤ m) :
    Sl w R sz (.slice a k c) k (rows enc (xs.take k)) := by
  obtain ⟨h1, a', c', he, hn, hc, h2⟩ := h
  simp only [Value.slice.injEq, true_and] at he
  obtain ⟨rfl, rfl⟩ := he
  have hkm : k * sz ≤ m * sz := Nat.mul_le_mul_right _ hk
  refine ⟨by rw [← rows_take hs, List.length_take, h1]; omega, a, c, rfl, by omega, hc, ?_⟩
  rcases h2 with h | ⟨b, off, cc, t, f, r1, r2, r3, r4⟩
  · exact .inl (by omega)
  · refine .inr ⟨b, off, cc, t, f, r1, r2, r3, fun i hi => ?_⟩
    rw [r4 i (by omega), ← rows_take hs, List.getElem?_take, if_pos hi]
section
variable {P : Program} {ro : Option Nat} {n : Nat} {ops : Array Oper} {K0 : Env → List Deferred → World → Prop}
theorem Wa_two {S : World → Prop} {i j : Nat} {oi oj : Oper} {fuel : Nat} {listed li lj : Array Bool} {ρ : Env} {ds : List Deferred} {w : World} (hr : Region.ready .any ops listed = [i, j]) (hi : ops.toList[i]? = some oi) (hj : ops.toList[j]? = some oj) (hli : listed.setIfInBounds i true = li) (hlj : listed.setIfInBounds j true = lj)
    (h1 : Ws P ro n ops oi (fun ρ' ds' w' => ∀ w'', Same w' w'' → (barOp ops i = false → S w'' ∧ Wa P ro n ops K0 S fuel li ρ' ds' w'') ∧ (barOp ops i = true → ∃ S', Wa P ro n ops K0 S' fuel li ρ' ds' w'')) ρ ds w)
    (h2 : Ws P ro n ops oj (fun ρ' ds' w' => ∀ w'', Same w' w'' → (barOp ops j = false → S w'' ∧ Wa P ro n ops K0 S fuel lj ρ' ds' w'') ∧ (barOp ops j = true → ∃ S', Wa P ro n ops K0 S' fuel lj ρ' ds' w'')) ρ ds w) : Wa P ro n ops K0 S (fuel + 1) listed ρ ds w := by
  subst hli hlj
  rw [Array.getElem?_toList] at hi hj
  refine ⟨fun h0 => (by rw [hr] at h0; cases h0), fun k hk ok hok => ?_⟩
  rw [hr] at hk
  rcases List.mem_cons.1 hk with rfl | hk
  · rw [hi] at hok; cases hok; exact h1
  · obtain rfl := List.mem_singleton.1 hk
    rw [hj] at hok; cases hok; exact h2
def WtS (P : Program) (ro : Option Nat) (n : Nat) (ops : Array Oper) (K0 : Env → List Deferred → World → Prop) (T : Nat → Prop) (w0 w1 : World) (fuel : Nat) (listed : Array Bool) (ρ : Env) (ds : List Deferred) : Prop :=
  ∀ w, Upd No w1 w → Wa P ro n ops K0 (Upd T w0) fuel listed ρ ds w
theorem Yk {T : Nat → Prop} {id : Nat} {Q : Post} {ρ : Env} {ds : List Deferred} {w : World} {l0 : Array Bool} (hm : P.follows .mixedOrders = true) (hl : Array.replicate ops.size false = l0)
    (h : WtS P ro n ops (fun ρ ds w => Q .normal ρ ds w) T w w ops.size l0 ρ ds) : W P ro n (.region id ops true) Q ρ ds w := by
  subst hl
  exact W_draw (S := Upd T w) hm fun w' hw => h w' hw.upd
theorem Yp {T : Nat → Prop} {w0 w1 : World} {i : Nat} {oi : Oper} {v : Value} {fuel : Nat} {listed listed' : Array Bool} {ρ : Env} {ds : List Deferred} (h01 : Upd T w0 w1) (hc : calm ops = true)
    (hi : ops.toList[i]? = some oi) (hf : Region.free .any ops listed i = true) (hr : (Region.ready .any ops listed).contains i = true) (hl : listed.setIfInBounds i true = listed') (hcl : closedB ops listed = true)
    (hy : YI P ro n ops (Upd T w0) oi v ρ) (h : WtS P ro n ops K0 T w0 w1 fuel listed' (put ρ oi.dst v) ds) : WtS P ro n ops K0 T w0 w1 (fuel + 1) listed ρ ds := fun _ hw =>
  Wa_take hc (fun _ _ h1 h2 => h1.Zb h2.upd) ((Array.getElem?_toList ..).symm.trans hi) hf hr hl hcl hy (h01.Zb hw) fun w' hw' => h w' (hw.Zb hw'.upd)
theorem Z8 {T : Nat → Prop} {w0 w1 : World} {fuel : Nat} {listed : Array Bool} {ρ : Env} {ds : List Deferred} (h : WtS P ro n ops K0 T w0 w1 fuel listed ρ ds) : Wa P ro n ops K0 (Upd T w0) fuel listed ρ ds w1 := h w1 (Upd.refl _ _)
theorem YS_v {T : Nat → Prop} {w0 : World} {o : Oper} {v : Value} {ρ : Env} (hg : Region.wanted o (grd n ρ ops) = true) (h : ∀ w, Upd T w0 w → (o.semAt ro (ev n ρ)).run P w = .ok (.value v) w) : YI P ro n ops (Upd T w0) o v ρ :=
  .inl ⟨hg, fun w hw => .inl (h w hw)⟩
end
end Go.Fw
namespace Go.Fw
theorem W_join {P : Program} {ro : Option Nat} {n : Nat} {Q : Post} {ρ : Env} {ds : List Deferred} {w : World} {c : Code} {K : Env → List Deferred → World → Prop} (G : Env → List Deferred → World → Prop)
    (h : W P ro n c (thn G Q) ρ ds w) (k : ∀ ρ ds w, G ρ ds w → K ρ ds w) : W P ro n c (thn K Q) ρ ds w :=
  W_mono h fun e ρ ds w hq => by cases e <;> first | exact k _ _ _ hq | exact hq
def Dual (A : Prop) (R1 R2 : Ending → World → Prop) : Ending → World → Prop := fun e w => (A ∧ R1 e w) ∨ (¬ A ∧ R2 e w)
section
variable {P : Program} {ro : Option Nat} {w : World} {t : TypeId} {p : String} {e : Array Edge} {ρ' : Operand → Value} {dd : Option Tmp} {g : Option (Nat × Bool)}
theorem r_eqi_n {ρ' : Operand → Value} {g : Option (Nat × Bool)} {x : Operand} {xt yt : TypeId} {ms : Array (String × TypeId)} {vv : Value} (hu : P.underlying xt = some (.interface ms)) (hx : ρ' x = .nilIface) (hy : ρ' (.const vv) = .nilIface) :
    (Oper.semAt ro ρ' ⟨dd, .binOp .eql xt x (.const vv) yt, t, p, e, g⟩).run P w = .ok (.value (.bool true)) w := by
  have h : ∀ d, (Op.equalIn (d + 1) xt .nilIface .nilIface).run P w = .ok true w := fun d => by simp [Op.equalIn, run_underlying hu]
  have h2 : (Op.equal xt .nilIface .nilIface).run P w = .ok true w := h 9999
  rw [ZT (by simp)]; simp [execOp, hx, hy, eqGuard, binOp, h2]
theorem r_eqi_s {ρ' : Operand → Value} {g : Option (Nat × Bool)} {x : Operand} {xt yt T : TypeId} {v : Value} {ms : Array (String × TypeId)} {vv : Value} (hu : P.underlying xt = some (.interface ms)) (hx : ρ' x = .iface T v) (hy : ρ' (.const vv) = .nilIface) :
    (Oper.semAt ro ρ' ⟨dd, .binOp .eql xt x (.const vv) yt, t, p, e, g⟩).run P w = .ok (.value (.bool false)) w := by
  have h : ∀ d, (Op.equalIn (d + 1) xt (.iface T v) .nilIface).run P w = .ok false w := fun d => by simp [Op.equalIn, run_underlying hu]
  have h2 : (Op.equal xt (.iface T v) .nilIface).run P w = .ok false w := h 9999
  rw [ZT (by simp)]; simp [execOp, hx, hy, eqGuard, binOp, h2]
end
section
variable {P : Program} {ro : Option Nat} {n : Nat} {Q : Post} {ρ : Env} {ds : List Deferred} {w : World} {ops : Array Oper} {rest : List Oper} {d : Nat} {t : TypeId} {p : String} {e : Array Edge}
end
end Go.Fw
namespace Go.Fw
open Go.ChangeShapes Go.WideShapes Go.ChangeAt Go.RowKit
section
variable {H : Type} {enc : TypeId × Value → H} {P : Program}
theorem trodAll_keep (hl : laidOutB P = true) {W W' : World} {sp : Nat → Bool} (hb : RowKit.Below W.heap.size W W') : ∀ {ts : List TypeId} {vs : List Value} {ds : List (DataW H)} {ps : List MemPlace},
    (ts.all fun t => P.readableRec t && decide (t < P.types.size)) = true → DataW.TrodAll enc P W 0 (fun _ => true) true ts vs ds ps → (∀ p ∈ ps, p.block < W.heap.size) → (∀ p ∈ ps, sp p.block = true) →
    DataW.TrodAll enc P W' 0 sp true ts vs ds ps
  | [], vs, ds, ps, _, h, _, _ => by
    obtain ⟨rfl, rfl, rfl⟩ := trodAll_nil h
    exact trodAll_mk0
  | t :: ts, vs, ds, ps, hr, h, hlt, hs => by
    obtain ⟨v, vs1, d, ds1, p, q, rfl, rfl, rfl, h1, h2⟩ := trodAll_cons h
    simp only [List.all_cons, Bool.and_eq_true, decide_eq_true_eq] at hr
    refine trodAll_cons_mk (WideElems.Trod_stays hl hr.1.1 hr.1.2 h1 (fun x hx => hb.same (hlt x (by simp [hx]))) (fun x hx => hs x (by simp [hx]))) ?_
    exact trodAll_keep hl hb (by simpa using hr.2) h2 (fun x hx => hlt x (by simp [hx])) (fun x hx => hs x (by simp [hx]))
theorem law_post {f : Func} {s : ChangeSpec} {apart fresh handsOn again : Bool} {W W' : World} {args : Array Value} {ds gs : List (DataW H)} {before : List MemPlace} {tb : TypeId}
    (hl : laidOutB P = true) (hr : (f.params.toList.all fun t => P.readableRec t && decide (t < P.types.size)) = true) (hrt : f.resultTypes = #[tb]) (htb : P.underlying tb = some .bool)
    (hv : s.vars = []) (hW : DataW.Whole enc P f.params.toList s.vars apart W args.toList ds gs before) (hs : s.fn H (ds ++ gs) = { results := [.lit (.bool true)], args := ds }) (hb : Upd No W W') :
    s.post enc P f apart fresh handsOn again W args (.bool true) W' := by
  have hB := hb.below
  have hlt : ∀ p ∈ before, p.block < W.heap.size := fun p hp => hW.lt p hp
  have hold : ∀ p ∈ before, (fun b => decide (b < W.heap.size)) p.block = true := fun p hp => by simpa using hlt p hp
  obtain ⟨p, q, hA, hV, rfl, hz, hn⟩ := id hW
  rw [hv] at hV
  obtain ⟨rfl, rfl⟩ := trodVars_none hV
  rw [List.append_nil] at hlt hold hz hn
  have hargs : ∀ sp : Nat → Bool, (∀ x ∈ p, sp x.block = true) → DataW.TrodAll enc P W' 0 sp true f.params.toList args.toList (s.fn H (ds ++ [])).args p := fun sp hsp => by
    rw [hs]; exact trodAll_keep hl hB hr hA hlt hsp
  have hres : ∀ (b : Nat) (sp : Nat → Bool) (hd : Bool), DataW.TrodAll enc P W' b sp hd f.resultTypes.toList ((Value.bool true).resultList f.resultTypes.size) (s.fn H (ds ++ [])).results [] := fun b sp hd => by
    rw [hs, hrt]; exact trodAll_cons_mk (shut_bool htb _) trodAll_mk0
  have hvars : ∀ sp : Nat → Bool, DataW.TrodVars enc P W' sp s.vars (s.fn H (ds ++ [])).vars [] := fun sp => by rw [hs, hv]; rfl
  refine ⟨ds, [], p ++ [], [], p, [], hW, hres _ _ _, hargs _ hold, hvars _, World.keptBut_mono (fun x hx => ⟨by simpa using hx, Or.inr (Or.inl hx)⟩) (hB.frame (· ∈ p)), fun _ => ?_⟩
  refine ⟨ok_one hrt rfl (okWide_bool_mk htb _), _, _, ([] ++ p) ++ [], ⟨[] ++ p, [], trodAll_append (hargs _ (fun _ _ => rfl)) (hres _ _ _), hvars _, rfl, ?_, ?_⟩, ?_⟩
  · intro b off hp
    have hin : MemPlace.cell b off ∈ p := by simpa using hp
    rw [hB.frozen (hlt _ hin)]
    exact hz b off hin
  · intro ha
    simpa using hn ha
  · intro x hx _
    simpa using hx
/-! ### arguments -/
theorem sl_of_trod {t e : TypeId} {k : IntKind} {r : Reach} {b0 : Nat} {W : World} {v : Value} {d : DataW H} {ps : List MemPlace} (ht : P.underlying t = some (.slice e)) (he : P.underlying e = some (.int k)) (hc : P.cellsOf e = 1)
    (hval : Value.okWide P W r b0 t v) (h : DataW.Trod enc P W 0 (fun _ => true) true t v d ps) :
    ∃ a n c xs, v = .slice a n c ∧ Sl W (fun g => g < W.heap.size) 1 (.slice a n c) n (ints k xs) ∧ (∀ x ∈ xs, (Lit.int k x).wf = true) ∧ (n = 0 ∨ ∃ el sp, d = .slice el sp ∧ el.length = n) := by
  obtain ⟨fuel, hf⟩ := h
  have hcell : v.cells = #[v] := by
    unfold Value.okWide at hval
    rw [ht] at hval
    unfold Cell.okWide Cell.ok at hval
    rw [ht] at hval
    cases v <;> first | rfl | simp at hval
  rw [hcell] at hf
  rcases open_ints ht he hc hf with ⟨hcs, _⟩ | ⟨a, len, cap, zs, hcs, _, hl, hm, hz, hx, hcl, hwz⟩
  · simp at hcs
    subst hcs
    exact ⟨none, 0, 0, [], rfl, Sl.nil _ _ _, by simp, .inl rfl⟩
  · simp at hcs
    subst hcs
    simp only [if_true] at hz
    simp only [Prod.mk.injEq] at hx
    refine ⟨some a, len, cap, zs.take len, rfl, ⟨by simp; omega, _, _, rfl, hl, hm, ?_⟩, fun x hx => hwz x (List.mem_of_mem_take hx), .inr ⟨_, _, hx.1, by simp [lits]; omega⟩⟩
    by_cases hn : len = 0
    · exact .inl hn
    · right
      obtain ⟨b, off, rfl, hc'⟩ := ints_at hcl (by omega)
      have h0 := hc' 0 (by omega)
      simp only [World.cell?, Option.isSome_none, Bool.false_eq_true, if_false, Nat.add_zero] at h0
      cases hb : W.heap[b]? with
      | none => rw [hb] at h0; simp at h0
      | some o =>
        rw [hb] at h0
        cases o with
        | cells c t' f =>
          refine ⟨b, off, c, t', f, rfl, (Array.getElem?_eq_some_iff.1 hb).1, hb, fun i hi => ?_⟩
          have h1 := hc' i (by omega)
          simp only [World.cell?, hb, Option.isSome_none, Bool.false_eq_true, if_false] at h1
          rw [h1, ints, List.getElem?_map, List.getElem?_take, if_pos (by omega), List.getD_eq_getElem?_getD, List.getElem?_eq_getElem (by omega)]
          simp
        | _ => simp at h0
theorem byt_of_wf {xs : List Int} (h : ∀ x ∈ xs, (Lit.int .u8 x).wf = true) : Byt xs := fun x hx => by
  have := h x hx
  simp [Lit.wf, IntKind.min, IntKind.max, IntKind.signed, IntKind.bits] at this
  omega
end
end Go.Fw
