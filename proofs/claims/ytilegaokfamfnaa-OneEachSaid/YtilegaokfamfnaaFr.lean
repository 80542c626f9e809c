/-
  How a function is entered and left (deferred calls and the marks of loops over functions among them); loops over functions: the statement, a round.
-/
import Derived.Test.YtilegaokfamfnaaFo
namespace Go.Fw

/-! ## Entering and leaving -/
def Lv (P : Program) (fn : Func) (tmps : Array Value) (R : Ending → World → Prop) (ds : List Deferred) (u : FrameMode) (w : World) : Prop :=
  LeavesInM (Fo none) 0 P fn tmps R ds u w
/-- what the body of a function must achieve -/
def bQ (P : Program) (fn : Func) (n : Nat) (R : Ending → World → Prop) : Post
  | .normal, ρ, ds, w | .ret, ρ, ds, w => Lv P fn (tab n ρ) R ds .returning w
  | .panic chain, ρ, ds, w => Lv P fn (tab n ρ) R ds (.panicking chain) w
  | _, _, _, _ => False
theorem calls_of_W {P : Program} {f : FuncId} {fn : Func} {c : Code} {args : Array Value} {w : World} {R : Ending → World → Prop} {n : Nat}
    (hf : P.funcs[f]? = some fn) (hb : fn.body = some c) (hn : fn.ntmps = n) (ha : args.size ≤ n)
    (h : W P none n c (bQ P fn n R) (envOf args.toList 0) [] w) : Calls P f args w R := by
  subst hn
  have h1 : CallsIn (Fo none) 0 P f args w R := by
    refine callsIn_of_wp_marks hf hb trivial ?_ rfl
    rw [enter_tab args fn.ntmps ha]
    refine wpIn_mono h ?_
    rintro e ⟨t, d⟩ w' ⟨ρ, h1, h2⟩
    simp only at h1 h2
    subst h1
    cases e <;> first | exact h2 | exact h2.elim
  exact h1.calls (fo_room none)

section
variable {P : Program} {fn : Func} {n : Nat} {R : Ending → World → Prop} {ρ : Env} {ds : List Deferred} {w : World}
theorem lv_nil {tmps : Array Value} {v : Value} (hr : (results fn tmps).run P w = .ok v w) (h : R (.returned v) w) : Lv P fn tmps R [] .returning w := ⟨v, hr, h⟩
theorem lv_panic {tmps : Array Value} {chain : List PanicEntry} (h : R (.panicked chain) w) : Lv P fn tmps R [] (.panicking chain) w := h
/-- the mark of a loop over a function: its block is shut -/
theorem lv_mark {tmps : Array Value} {u : FrameMode} {D : Nat} (hu : u ≠ .run) (hD : w.heap[D]? = some (.deferred (some [])))
    (h : ∀ w', Upd (Is D) w w' → w'.heap.size = w.heap.size → Lv P fn tmps R ds u w') : Lv P fn tmps R ({ target := .collected D, args := #[] } :: ds) u w :=
  ⟨hu, .inl ⟨D, _, rfl, run_takeDeferred hD, h _ (upd_putObj w D _) (by simp)⟩⟩
/-- a deferred call's contract: the mode of the frame below goes in and comes out -/
def CD (P : Program) (f : FuncId) (as : Array Value) (u : FrameMode) (w : World) (R : Ending → FrameMode → World → Prop) : Prop := CallsDIn (Fo none) 0 P f as u w R
theorem CD.mono {f : FuncId} {as : Array Value} {u : FrameMode} {R R' : Ending → FrameMode → World → Prop} (h : CD P f as u w R) (hr : ∀ e u' w', R e u' w' → R' e u' w') : CD P f as u w R' := CallsDIn.mono h hr
/-- a deferred call of a function or a closure -/
theorem lv_call {tmps cap dargs as : Array Value} {u : FrameMode} {f : FuncId} (hu : u ≠ .run) (hf : ∀ as w, (callFunc f as).run P w = .ok (.enter f as) w) (ha : dargs ++ cap = as)
    {RR : Ending → FrameMode → World → Prop} (hc : CD P f as u w RR)
    (h : ∀ e u' w', RR e u' w' → match e with
      | .returned _ => Lv P fn tmps R ds (settle u') w'
      | .panicked chain => Lv P fn tmps R ds (raised u' chain) w'
      | .outgrown => False) : Lv P fn tmps R ({ target := .fn (.func f) cap, args := dargs } :: ds) u w := by
  subst ha
  refine ⟨hu, .inr ⟨fun h => by simp [Fo, Fence.wide] at h, .func f, cap, f, dargs ++ cap, rfl, by simp [invoke, hf], fun _ _ => trivial, hc.mono ?_⟩⟩
  intro e u' w' hR
  have := h e u' w' hR
  cases e with
  | outgrown => exact this.elim
  | returned v => exact this
  | panicked ch => exact this
/-- a function whose body neither defers nor recovers, as a deferred call -/
theorem CD_of_W {f : FuncId} {c : Code} {args : Array Value} {u : FrameMode} {RR : Ending → World → Prop}
    (hf : P.funcs[f]? = some fn) (hb : fn.body = some c) (hn : fn.ntmps = n) (ha : args.size ≤ n)
    (h : W P none n c (fun e ρ ds w => bodyPost P fn RR e ⟨tab n ρ, ds⟩ w) (envOf args.toList 0) [] w) : CD P f args u w fun e u' w' => u' = u ∧ RR e w' := by
  subst hn
  refine callsDIn_of_wp hf hb trivial ?_ rfl
  rw [enter_tab args fn.ntmps ha]
  refine wpIn_mono h ?_
  rintro e ⟨t, d⟩ w' ⟨ρ, h1, h2⟩
  simp only at h1 h2
  subst h1
  exact h2

/-! ## What a function hands back -/
def Ret (Φ : Value → World → Prop) : Ending → World → Prop := fun e w' => ∃ v, e = .returned v ∧ Φ v w'
theorem res0 {tmps : Array Value} (h : fn.results = #[]) : (results fn tmps).run P w = .ok (.tuple #[]) w := by simp [results, h]
theorem res1 {a : Tmp} {v : Value} (h : fn.results = #[.tmp a]) (h1 : ev n ρ (.tmp a) = v) : (results fn (tab n ρ)).run P w = .ok v w := by
  have e1 := (Array.getD_eq_getD_getElem? (xs := tab n ρ) (i := a) (d := undef)).symm.trans (tab_getD n ρ a)
  rw [h1] at e1
  simp only [results, h]
  simp
  exact e1
theorem res2 {a b : Tmp} {v1 v2 : Value} (h : fn.results = #[.tmp a, .tmp b]) (h1 : ev n ρ (.tmp a) = v1) (h2 : ev n ρ (.tmp b) = v2) :
    (results fn (tab n ρ)).run P w = .ok (.tuple #[v1, v2]) w := by
  have e1 := (Array.getD_eq_getD_getElem? (xs := tab n ρ) (i := a) (d := undef)).symm.trans (tab_getD n ρ a)
  have e2 := (Array.getD_eq_getD_getElem? (xs := tab n ρ) (i := b) (d := undef)).symm.trans (tab_getD n ρ b)
  rw [h1] at e1
  rw [h2] at e2
  simp only [results, h]
  simp
  exact ⟨e1, e2⟩
theorem res3 {a b c : Tmp} {v1 v2 v3 : Value} (h : fn.results = #[.tmp a, .tmp b, .tmp c]) (h1 : ev n ρ (.tmp a) = v1) (h2 : ev n ρ (.tmp b) = v2) (h3 : ev n ρ (.tmp c) = v3) :
    (results fn (tab n ρ)).run P w = .ok (.tuple #[v1, v2, v3]) w := by
  have e1 := (Array.getD_eq_getD_getElem? (xs := tab n ρ) (i := a) (d := undef)).symm.trans (tab_getD n ρ a)
  have e2 := (Array.getD_eq_getD_getElem? (xs := tab n ρ) (i := b) (d := undef)).symm.trans (tab_getD n ρ b)
  have e3 := (Array.getD_eq_getD_getElem? (xs := tab n ρ) (i := c) (d := undef)).symm.trans (tab_getD n ρ c)
  rw [h1] at e1
  rw [h2] at e2
  rw [h3] at e3
  simp only [results, h]
  simp
  exact ⟨e1, e2, e3⟩
theorem resc2 {a b : Tmp} {ta tb : TypeId} {b1 b2 : Nat} {v1 v2 : Value} (h : fn.results = #[.cell a ta, .cell b tb]) (h1 : ev n ρ (.tmp a) = .pointer (some ⟨b1, 0, none⟩)) (h2 : ev n ρ (.tmp b) = .pointer (some ⟨b2, 0, none⟩))
    (g1 : ∀ w, (isAgg ta).run P w = .ok false w) (g2 : ∀ w, (isAgg tb).run P w = .ok false w) (k1 : Blk w b1 [v1]) (k2 : Blk w b2 [v2]) : (results fn (tab n ρ)).run P w = .ok (.tuple #[v1, v2]) w := by
  have e1 := (Array.getD_eq_getD_getElem? (xs := tab n ρ) (i := a) (d := undef)).symm.trans (tab_getD n ρ a)
  have e2 := (Array.getD_eq_getD_getElem? (xs := tab n ρ) (i := b) (d := undef)).symm.trans (tab_getD n ρ b)
  rw [h1] at e1
  rw [h2] at e2
  have c1 : w.cell? ⟨b1, 0, none⟩ = some v1 := by rw [k1.cell]; rfl
  have c2 : w.cell? ⟨b2, 0, none⟩ = some v2 := by rw [k2.cell]; rfl
  simp only [results, h]
  simp [e1, e2, asAddr, loadVar, g1, g2, c1, c2]
theorem ret_ds {tmps : Array Value} (ht : tmps = tab n ρ) (h : Lv P fn tmps R ds .returning w) : bQ P fn n R .ret ρ ds w := by subst ht; exact h
theorem nrm_ds {tmps : Array Value} (ht : tmps = tab n ρ) (h : Lv P fn tmps R ds .returning w) : bQ P fn n R .normal ρ ds w := by subst ht; exact h
theorem pan_ds {tmps : Array Value} {c : List PanicEntry} (ht : tmps = tab n ρ) (h : Lv P fn tmps R ds (.panicking c) w) : bQ P fn n R (.panic c) ρ ds w := by subst ht; exact h
theorem cd_ret {RR : Ending → World → Prop} {v : Value} (hr : (results fn (tab n ρ)).run P w = .ok v w) (h : RR (.returned v) w) : bodyPost P fn RR .ret ⟨tab n ρ, []⟩ w := ⟨rfl, v, hr, h⟩
theorem cd_nrm {RR : Ending → World → Prop} {v : Value} (hr : (results fn (tab n ρ)).run P w = .ok v w) (h : RR (.returned v) w) : bodyPost P fn RR .normal ⟨tab n ρ, []⟩ w := ⟨rfl, v, hr, h⟩
/-- the end of a function that has no deferred calls: at a 'return', or behind its last statement -/
theorem ret_end {tmps : Array Value} {v : Value} (ht : tmps = tab n ρ) (hr : (results fn tmps).run P w = .ok v w) (h : R (.returned v) w) : bQ P fn n R .ret ρ [] w := by
  subst ht; exact ⟨v, hr, h⟩
theorem nrm_end {tmps : Array Value} {v : Value} (ht : tmps = tab n ρ) (hr : (results fn tmps).run P w = .ok v w) (h : R (.returned v) w) : bQ P fn n R .normal ρ [] w := by
  subst ht; exact ⟨v, hr, h⟩
end
end Go.Fw
