/-
  Copies of rows into the call's own row; regions that draw their order and write one block before all is done.
-/
import Derived.Test.YtilegaokfamfnaaFp
import Derived.Test.YtilegaokfamfnaaFk
namespace Go.Fw
theorem rows_take {α : Type} {enc : α → List Value} {sz : Nat} (hs : ∀ x, (enc x).length = sz) : ∀ (l : List α) (i : Nat), (rows enc l).take (i * sz) = rows enc (l.take i)
  | [], i => by simp [rows]
  | x :: l, 0 => by simp [rows]
  | x :: l, i + 1 => by
    have := rows_take hs l i
    simp only [rows, List.flatMap_cons, List.take_succ_cons] at this ⊢
    rw [Nat.add_mul, Nat.one_mul, Nat.add_comm, List.take_append, List.take_of_length_le (by rw [hs]; omega), hs, Nat.add_sub_cancel_left, this]
theorem rows_drop {α : Type} {enc : α → List Value} {sz : Nat} (hs : ∀ x, (enc x).length = sz) : ∀ (l : List α) (i : Nat), (rows enc l).drop (i * sz) = rows enc (l.drop i)
  | [], i => by simp [rows]
  | x :: l, 0 => by simp [rows]
  | x :: l, i + 1 => by
    have := rows_drop hs l i
    simp only [rows, List.flatMap_cons, List.drop_succ_cons] at this ⊢
    rw [Nat.add_mul, Nat.one_mul, Nat.add_comm, List.drop_append, List.drop_of_length_le (by rw [hs]; omega), hs, Nat.add_sub_cancel_left, this, List.nil_append]
section
variable {P : Program} {ro : Option Nat} {n : Nat} {Q : Post} {ρ : Env} {ds : List Deferred} {w : World} {ops : Array Oper} {rest : List Oper} {d : Option Tmp} {t : TypeId} {p : String} {e : Array Edge}
theorem run_copy_rows (w : World) (dT sT ty elem : TypeId) (g o dLen dCap sz : Nat) (a : Addr) (sLen sCap : Nat) (cur : Array Value) (t : TypeId) (cs : List Value)
    (hu : P.underlying dT = some (.slice elem)) (hs : (P.info? elem).map (·.size) = some sz)
    (hg : w.heap[g]? = some (.cells cur t (0, 0))) (hn : cs.length = Nat.min sLen dLen * sz)
    (hsrc : ∀ j v, cs[j]? = some v → w.cell? (a.add j) = some v) (hfit : o + cs.length ≤ cur.size) (h1 : ∀ v ∈ cs, v.oneCell' = true) :
    (Builtin.copy_ #[dT, sT] ty #[.slice (some ⟨g, o, none⟩) dLen dCap, .slice (some a) sLen sCap]).run P w =
      .ok (goInt (Nat.min sLen dLen : Nat)) (w.setRow g (cur.toList.take o ++ cs ++ cur.toList.drop (o + cs.length)).toArray) := by
  have hl := run_loadCells_list (P := P) w a cs hsrc
  have hst := run_storeCells_at P g o t cs 0 cur w hg (by simpa using hfit) h1
  cases hq : P.info? elem with
  | none => simp [hq] at hs
  | some i =>
    have hi : i.size = sz := by simpa [hq] using hs
    rw [hn] at hl
    simp [Builtin.copy_, run_underlying hu, Builtin.lenOf, Builtin.firstCells, sizeOf, typeInfo, hq, hi, hl, hst]
/-- copy into the call's own row, at an element -/
theorem Wl_copyr {α : Type} {enc : α → List Value} {st su et : TypeId} {x y : Operand} {R R2 : Nat → Prop} {g o sz m dl dc k c : Nat} {v2 : Value} {xs ys : List α} (hs : ∀ x, (enc x).length = sz) (hpos : 0 < sz) (one : ∀ x, ∀ u ∈ enc x, u.oneCell' = true)
    (hu : P.underlying st = some (.slice et)) (hsz : (P.info? et).map (·.size) = some sz)
    (hx : ev n ρ x = .slice (some ⟨g, o * sz, none⟩) dl dc) (hy : ev n ρ y = v2) (ho : Own w R et sz (.slice (some ⟨g, 0, none⟩) m c) m (rows enc xs)) (hv : Sl w R2 sz v2 k (rows enc ys)) (hk : 0 < k) (hl : o + dl ≤ m)
    (h : ∀ w', Upd (Is g) w w' → w'.heap.size = w.heap.size → Own w' R et sz (.slice (some ⟨g, 0, none⟩) m c) m (rows enc (xs.take o ++ ys.take (min k dl) ++ xs.drop (o + min k dl))) → Wl P ro n ops Q rest (put ρ d (.int .i64 ((min k dl : Nat) : Int))) ds w') :
    Wl P ro n ops Q (⟨d, .call { callee := .builtin .copy, args := #[x, y], argTypes := #[st, su] }, t, p, e, none⟩ :: rest) ρ ds w := by
  have hxl := rlen hs hpos ho.sl
  have hyl := rlen hs hpos hv
  obtain ⟨hl2, a2, c2, rfl, hk1, hk2, hsl⟩ := hv
  obtain ⟨⟨h1, h2⟩, h3⟩ := ho
  rcases h2 with ⟨h4, h5⟩ | ⟨g', cap, cur, h5, hb, hg, hnc, hcm, hcur, ht⟩
  · cases h4
  · simp only [Value.slice.injEq, Option.some.injEq, Addr.mk.injEq, and_true, true_and] at h5
    obtain ⟨rfl, rfl⟩ := h5
    rcases hsl with h | ⟨b2, off2, cc, t2, f2, rfl, hR2, hb2, hcells⟩
    · omega
    have hj : min k dl ≤ k := Nat.min_le_left _ _
    have hj2 : min k dl ≤ dl := Nat.min_le_right _ _
    generalize hjj : min k dl = j at *
    have hlen : (rows enc (ys.take j)).length = j * sz := by rw [rows_len hs, List.length_take, hyl, Nat.min_eq_left hj]
    have hoj : (o + j) * sz ≤ m * sz := Nat.mul_le_mul_right _ (by omega)
    rw [Nat.add_mul] at hoj
    have hmc : m * sz ≤ cur.size := by rw [hcur]; exact Nat.mul_le_mul_right _ hnc
    have hr := run_copy_rows (P := P) w st su t et g (o * sz) dl dc sz ⟨b2, off2, none⟩ k c2 cur et (rows enc (ys.take j)) hu hsz hg (by rw [hlen]; congr 1; exact hjj.symm) (fun i v hi => by
      have hi1 : i < j * sz := by
        rcases Nat.lt_or_ge i (j * sz) with h1 | h1
        · exact h1
        · rw [List.getElem?_eq_none (by omega)] at hi; cases hi
      have hadd : (⟨b2, off2, none⟩ : Addr).add i = ⟨b2, off2 + i, none⟩ := by unfold Addr.add; split <;> simp_all
      have hjk : j * sz ≤ k * sz := Nat.mul_le_mul_right _ hj
      rw [hadd]
      simp only [World.cell?, hb2, Option.isSome_none, Bool.false_eq_true, if_false]
      rw [hcells i (by omega), ← hi, ← rows_take hs, List.getElem?_take, if_pos hi1]) (by omega) (rows_one one _)
    refine Wl_v (v := .int .i64 ((j : Nat) : Int)) (w' := w.setRow g (cur.toList.take (o * sz) ++ rows enc (ys.take j) ++ cur.toList.drop (o * sz + (rows enc (ys.take j)).length)).toArray) ?_ (h _ ?_ ?_ ?_)
    · rw [sem_op (by simp)]
      have : Nat.min k dl = j := hjj
      rw [this] at hr
      simp [execOp, resolve, invoke, builtin, hx, hy, hr, goInt]
    · exact ⟨rfl, rfl, rfl, by simp, fun z _ hz => setRow_other w g z _ (fun e => hz e)⟩
    · simp
    · refine ⟨⟨?_, .inr ⟨g, c, _, rfl, hb, setRow_heap w g cur _ et _ hg, hnc, hcm, ?_, ?_⟩⟩, h3⟩
      · rw [rows_len hs, List.length_append, List.length_append, List.length_take, List.length_take, List.length_drop, hxl, hyl]; congr 1; omega
      · simp only [List.size_toArray, List.length_append, List.length_take, List.length_drop, Array.length_toList, hlen]; omega
      · rw [rows_app, rows_app, ← rows_take hs xs o, ← rows_drop hs xs (o + j), ← ht, hlen, Nat.add_mul, List.drop_take, List.take_take, Nat.min_eq_left (by omega)]
        rw [List.take_append, List.take_of_length_le (by simp only [List.length_append, List.length_take, Array.length_toList, hlen]; omega)]
        congr 1
        congr 1
        simp only [List.length_append, List.length_take, Array.length_toList, hlen]
        omega
end
section
variable {P : Program} {ro : Option Nat} {w : World} {ρ : Operand → Value} {d : Option Tmp} {t : TypeId} {p : String} {e : Array Edge} {g : Option (Nat × Bool)}
/-- the rest of a slice that begins its block -/
theorem r_slicelt {st et : TypeId} {x y : Operand} {b m c sz : Nat} {k : IntKind} {l : Int} {l' : Nat} (hu : P.underlying st = some (.slice et)) (hsz : ∀ w, (sizeOf et).run P w = .ok sz w)
    (hx : ρ x = .slice (some ⟨b, 0, none⟩) m c) (hy : ρ y = .int k l) (hl : l = l') (h1 : l' ≤ m) (hne : l' ≠ c) :
    (Oper.semAt ro ρ ⟨d, .slice st x (some y) none none, t, p, e, g⟩).run P w = .ok (.value (.slice (some ⟨b, l' * sz, none⟩) (m - l') (c - l'))) w := by
  have := r_slicelen (ro := ro) (w := w) (d := d) (t := t) (p := p) (e := e) (g := g) hu hsz hx hy hl h1 rfl
  have hadd : (⟨b, 0, none⟩ : Addr).add (l' * sz) = ⟨b, l' * sz, none⟩ := by unfold Addr.add; split <;> simp_all
  rw [if_neg (fun e => hne e.symm), Option.map_some, hadd] at this
  exact this
end
section
variable {P : Program} {ro : Option Nat} {w : World} {ρ : Operand → Value} {d : Option Tmp} {t : TypeId} {p : String} {e : Array Edge} {g : Option (Nat × Bool)}
theorem r_builda {st et : TypeId} {len sz : Nat} {parts : Array (Nat × Operand)} {pv : List (Nat × Value)} {z : Value} {cs : Array Value} (hz : ∀ w, (zeroValue st).run P w = .ok z w) (hu : P.underlying st = some (.array len et)) (hsz : ∀ w, (sizeOf et).run P w = .ok sz w)
    (hp : (parts.map fun (i, x) => (i, ρ x)).toList = pv) (hf : Instr.fill (fun i => some (i * sz, sz)) z.cells pv = some cs) :
    (Oper.semAt ro ρ ⟨d, .build st parts, t, p, e, g⟩).run P w = .ok (.value (.agg cs)) w := by
  subst hp
  rw [sem_op (by simp)]; simp only [execOp, Instr.build, Sem.run_bind, hz, Result.andThen_ok, run_underlying hu, hsz, hf]; simp
end
theorem Upd.cellkT {T : Nat → Prop} {w0 w : World} (h : Upd T w0 w) {a : Addr} {v : Value} (hc : w0.cell? a = some v) (hT : ¬ T a.block) : w.cell? a = some v := by
  have hb := World.block_lt_of_cell? w0 a hc
  have := h.block a.block hb hT
  simp only [World.cell?, this] at hc ⊢
  exact hc
theorem Upd.cellsT {T : Nat → Prop} {w0 w : World} (h : Upd T w0 w) {b off sz : Nat} {cs : List Value} (hl : cs.length = sz) (hc : ∀ j, j < sz → w0.cell? ⟨b, off + j, none⟩ = cs[j]?) (hT : ¬ T b) : ∀ j, j < sz → w.cell? ⟨b, off + j, none⟩ = cs[j]? := fun j hj => by
  have h1 := hc j hj
  rw [List.getElem?_eq_getElem (by omega)] at h1 ⊢
  exact Upd.cellkT h h1 hT
/-- the one block of a slice that owns -/
theorem Own.one {w : World} {R : Nat → Prop} {e : TypeId} {sz n c : Nat} {a : Option Addr} {cs : List Value} (h : Own w R e sz (.slice a n c) n cs) (hn : 0 < n) : ∃ g, R g ∧ Own w (fun x => x = g) e sz (.slice a n c) n cs := by
  obtain ⟨⟨h1, h2⟩, h3⟩ := h
  rcases h2 with ⟨h4, h5⟩ | ⟨g, cap, cur, h5, r⟩
  · simp only [Value.slice.injEq] at h4; omega
  · have h6 := h5
    simp only [Value.slice.injEq] at h6
    obtain ⟨rfl, _, rfl⟩ := h6
    exact ⟨g, h3 g rfl, ⟨h1, .inr ⟨g, _, cur, rfl, r⟩⟩, fun k hk => by simp [Value.ownBlock] at hk; exact hk.symm⟩
/-- the head of a slice of rows -/
theorem Sl.rhd {α : Type} {enc : α → List Value} {w : World} {R : Nat → Prop} {sz m c k : Nat} {a : Option Addr} {xs : List α} (hs : ∀ x, (enc x).length = sz) (h : Sl w R sz (.slice a m c) m (rows enc xs)) (hk : k ≤ m) :
    Sl w R sz (.slice a k c) k (rows enc (xs.take k)) := by
  obtain ⟨h1, a', c', he, hn, hc, h2⟩ := h
  simp only [Value.slice.injEq, true_and] at he
  obtain ⟨rfl, rfl⟩ := he
  have hkm : k * sz ≤ m * sz := Nat.mul_le_mul_right _ hk
  refine ⟨by rw [← rows_take hs, List.length_take, h1]; omega, a, c, rfl, by omega, hc, ?_⟩
  rcases h2 with h | ⟨b, off, cc, t, f, r1, r2, r3, r4⟩
  · exact .inl (by omega)
  · refine .inr ⟨b, off, cc, t, f, r1, r2, r3, fun i hi => ?_⟩
    rw [r4 i (by omega), ← rows_take hs, List.getElem?_take, if_pos hi]
section
variable {P : Program} {ro : Option Nat} {n : Nat} {ops : Array Oper} {K0 : Env → List Deferred → World → Prop}
/-- either of two may come up -/
theorem Wa_two {S : World → Prop} {i j : Nat} {oi oj : Oper} {fuel : Nat} {listed li lj : Array Bool} {ρ : Env} {ds : List Deferred} {w : World} (hr : Region.ready .any ops listed = [i, j]) (hi : ops.toList[i]? = some oi) (hj : ops.toList[j]? = some oj) (hli : listed.setIfInBounds i true = li) (hlj : listed.setIfInBounds j true = lj)
    (h1 : Ws P ro n ops oi (fun ρ' ds' w' => ∀ w'', Same w' w'' → (barOp ops i = false → S w'' ∧ Wa P ro n ops K0 S fuel li ρ' ds' w'') ∧ (barOp ops i = true → ∃ S', Wa P ro n ops K0 S' fuel li ρ' ds' w'')) ρ ds w)
    (h2 : Ws P ro n ops oj (fun ρ' ds' w' => ∀ w'', Same w' w'' → (barOp ops j = false → S w'' ∧ Wa P ro n ops K0 S fuel lj ρ' ds' w'') ∧ (barOp ops j = true → ∃ S', Wa P ro n ops K0 S' fuel lj ρ' ds' w'')) ρ ds w) : Wa P ro n ops K0 S (fuel + 1) listed ρ ds w := by
  subst hli hlj
  rw [Array.getElem?_toList] at hi hj
  refine ⟨fun h0 => (by rw [hr] at h0; cases h0), fun k hk ok hok => ?_⟩
  rw [hr] at hk
  rcases List.mem_cons.1 hk with rfl | hk
  · rw [hi] at hok; cases hok; exact h1
  · obtain rfl := List.mem_singleton.1 hk
    rw [hj] at hok; cases hok; exact h2
def WtS (P : Program) (ro : Option Nat) (n : Nat) (ops : Array Oper) (K0 : Env → List Deferred → World → Prop) (T : Nat → Prop) (w0 w1 : World) (fuel : Nat) (listed : Array Bool) (ρ : Env) (ds : List Deferred) : Prop :=
  ∀ w, Upd No w1 w → Wa P ro n ops K0 (Upd T w0) fuel listed ρ ds w
theorem W_drawS {T : Nat → Prop} {id : Nat} {Q : Post} {ρ : Env} {ds : List Deferred} {w : World} {l0 : Array Bool} (hm : P.follows .mixedOrders = true) (hl : Array.replicate ops.size false = l0)
    (h : WtS P ro n ops (fun ρ ds w => Q .normal ρ ds w) T w w ops.size l0 ρ ds) : W P ro n (.region id ops true) Q ρ ds w := by
  subst hl
  exact W_draw (S := Upd T w) hm fun w' hw => h w' hw.upd
theorem WtS_take {T : Nat → Prop} {w0 w1 : World} {i : Nat} {oi : Oper} {v : Value} {fuel : Nat} {listed listed' : Array Bool} {ρ : Env} {ds : List Deferred} (h01 : Upd T w0 w1) (hc : calm ops = true)
    (hi : ops.toList[i]? = some oi) (hf : Region.free .any ops listed i = true) (hr : (Region.ready .any ops listed).contains i = true) (hl : listed.setIfInBounds i true = listed') (hcl : closedB ops listed = true)
    (hy : YI P ro n ops (Upd T w0) oi v ρ) (h : WtS P ro n ops K0 T w0 w1 fuel listed' (put ρ oi.dst v) ds) : WtS P ro n ops K0 T w0 w1 (fuel + 1) listed ρ ds := fun _ hw =>
  Wa_take hc (fun _ _ h1 h2 => h1.trans0 h2.upd) ((Array.getElem?_toList ..).symm.trans hi) hf hr hl hcl hy (h01.trans0 hw) fun w' hw' => h w' (hw.trans0 hw'.upd)
theorem WtS_base {T : Nat → Prop} {w0 w1 : World} {fuel : Nat} {listed : Array Bool} {ρ : Env} {ds : List Deferred} (h : WtS P ro n ops K0 T w0 w1 fuel listed ρ ds) : Wa P ro n ops K0 (Upd T w0) fuel listed ρ ds w1 := h w1 (Upd.refl _ _)
theorem YS_v {T : Nat → Prop} {w0 : World} {o : Oper} {v : Value} {ρ : Env} (hg : Region.wanted o (grd n ρ ops) = true) (h : ∀ w, Upd T w0 w → (o.semAt ro (ev n ρ)).run P w = .ok (.value v) w) : YI P ro n ops (Upd T w0) o v ρ :=
  .inl ⟨hg, fun w hw => .inl (h w hw)⟩
theorem YS_no {T : Nat → Prop} {w0 : World} {o : Oper} {ρ : Env} (hg : Region.wanted o (grd n ρ ops) = false) : YI P ro n ops (Upd T w0) o undef ρ := .inr ⟨hg, rfl⟩
end
end Go.Fw
