/-
  Loops over functions: the statement is entered; a round; the end.
-/
import Derived.Test.YtilegaokfamfnaaFd
namespace Go.Fw

/-- the record of loop l -/
def Rec (w : World) (l : Nat) (r : Loop) : Prop := w.heap[l]? = some (.loop r)
theorem Rec.upd {w w' : World} {l : Nat} {r : Loop} {S : Nat → Prop} (h : Rec w l r) (hu : Upd S w w') (hs : ¬ S l) : Rec w' l r := hu.keep h hs
theorem Rec.upd0 {w w' : World} {l : Nat} {r : Loop} (h : Rec w l r) (hu : Upd No w w') : Rec w' l r := hu.keep h (fun h => h)
theorem Rec.upd1 {w w' : World} {l x : Nat} {r : Loop} (h : Rec w l r) (hu : Upd (Is x) w w') (hx : l ≠ x) : Rec w' l r := hu.keep h (fun h => hx h)
theorem Rec.lt {w : World} {l : Nat} {r : Loop} (h : Rec w l r) : l < w.heap.size := (Array.getElem?_eq_some_iff.1 h).1
/-- the block for the rounds' deferred calls: none -/
def Dfr (w : World) (D : Nat) : Prop := w.heap[D]? = some (.deferred (some []))
theorem Dfr.upd {w w' : World} {D : Nat} {S : Nat → Prop} (h : Dfr w D) (hu : Upd S w w') (hs : ¬ S D) : Dfr w' D := hu.keep h hs
theorem Dfr.upd0 {w w' : World} {D : Nat} (h : Dfr w D) (hu : Upd No w w') : Dfr w' D := hu.keep h (fun h => h)
theorem Dfr.upd1 {w w' : World} {D x : Nat} (h : Dfr w D) (hu : Upd (Is x) w w') (hx : D ≠ x) : Dfr w' D := hu.keep h (fun h => hx h)
theorem Dfr.lt {w : World} {D : Nat} (h : Dfr w D) : D < w.heap.size := (Array.getElem?_eq_some_iff.1 h).1

section
variable {P : Program} {n : Nat} {Q : Post} {ρ : Env} {ds : List Deferred} {w : World}

/-- what is asked behind the iterator's call -/
def rangeQ (P : Program) (ro : Option Nat) (n : Nat) (l : Nat) (Q : Post) (ρ : Env) (ds : List Deferred) : Ending → World → Prop
  | .returned _, w => ∃ r, Rec w l r ∧ r.state ≠ .busy ∧ ∀ w', Upd (Is l) w w' → w'.heap.size = w.heap.size →
      (match r.pending with
       | none => Q .normal ρ ds w'
       | some c => W P ro n c Q ρ ds w')
  | .panicked chain, w => Q (.panic chain) ρ ds w
  | .outgrown, _ => False

/-- an outermost loop over a function: its record l = D + 1 and the block D are laid; the iterator is called -/
theorem W_range {g : Operand} {ps : Array Tmp} {assign body : Code} {gf : FuncId} {cap : Array Value} {ar : Value → Array Value}
    (hg : ev n ρ g = .func (.func gf) #[] cap) (hf : ∀ ar w, (callFunc gf ar).run P w = .ok (.enter gf ar) w) (hcap : ∀ y, #[y] ++ cap = ar y)
    (h : ∀ D fn w1, w.heap.size = D → Upd No w w1 → w1.heap.size = D + 2 → Dfr w1 D →
      Rec w1 (D + 1) { state := .ready, pending := none, fn, tmps := tab n ρ, params := ps, assign, body, defers := D } →
      Calls P gf (ar (.func (.yield (D + 1)) #[] #[])) w1 (rangeQ P none n (D + 1) Q ρ ({ target := .collected D, args := #[] } :: ds))) :
    W P none n (.rangeFunc g ps assign body) Q ρ ds w := by
  unfold W
  refine wpIn_rangeFunc fun fn _ => ?_
  have hc := h w.heap.size fn _ rfl ((upd_alloc w (.deferred (some []))).trans0 (upd_alloc _ (.loop { state := .ready, pending := none, fn, tmps := tab n ρ, params := ps, assign, body, defers := w.heap.size }))) (by simp)
    ((show Dfr (w.alloc (.deferred (some []))) w.heap.size from World.alloc_heap_new w _).upd0 (upd_alloc _ _))
    (by
      have := World.alloc_heap_new (w.alloc (.deferred (some []))) (.loop { state := .ready, pending := none, fn, tmps := tab n ρ, params := ps, assign, body, defers := w.heap.size })
      rw [World.size_alloc] at this
      exact this)
  have he := run_enterLoop_outer (P := P) (w := w) fn (tab n ρ) ps assign body
  generalize ((w.alloc (.deferred (some []))).alloc (.loop { state := .ready, pending := none, fn, tmps := tab n ρ, params := ps, assign := assign, body := body, defers := w.heap.size })) = w1 at he hc
  refine ⟨w.heap.size + 1, _, w1, { target := .fn (.func gf) cap, args := #[.func (.yield (w.heap.size + 1)) #[] #[]] }, w1, gf, _, w1, he, ?_, fun _ _ => trivial, ?_, fun h => by simp [Fo, Fence.wide] at h, callsIn_fo (hc.mono ?_)⟩
  · rw [act_eval]
    simp [resolve, hg, Deferred.ofValue]
    rfl
  · simp [invoke, hf]
    exact hcap _
  · intro e w' he
    cases e with
    | outgrown => exact he.elim
    | panicked ch => exact ⟨ρ, rfl, he⟩
    | returned v =>
      obtain ⟨r, hr, hb, hk⟩ := he
      have hk' := hk _ (upd_putObj w' _ (.loop { r with state := .exhausted })) (by simp)
      refine ⟨r.pending, _, run_endLoop hr hb, ?_⟩
      cases hp : r.pending with
      | none => rw [hp] at hk'; exact ⟨ρ, rfl, hk'⟩
      | some c => rw [hp] at hk'; exact hk'

/-- a call of the yield of loop l -/
def YieldC (P : Program) (l : Nat) (args : Array Value) (w : World) (R : Ending → World → Prop) : Prop :=
  ∃ f tmps assign body, (Instr.yield l args).run P w = .ok (.round l f tmps assign body) w ∧ RoundIn Fence.wide 0 P l f tmps assign body w R
theorem YieldC.mono {l : Nat} {args : Array Value} {R R' : Ending → World → Prop} (h : YieldC P l args w R) (hr : ∀ e w', R e w' → R' e w') : YieldC P l args w R' :=
  let ⟨f, t, a, b, h1, h2⟩ := h; ⟨f, t, a, b, h1, h2.mono hr⟩

/-- what a round's body must achieve: R b w: yield hands back b -/
def roundQ (l : Nat) (R : Bool → Option Code → World → Prop) : Post
  | .normal, _, ds, w => ds = [] ∧ ∃ r, Rec w l r ∧ ∀ w', Upd (Is l) w w' → w'.heap.size = w.heap.size → Rec w' l { r with state := .ready, pending := none } → R true none w'
  | .ret, _, ds, w => ds = [] ∧ ∃ r, Rec w l r ∧ ∀ w', Upd (Is l) w w' → w'.heap.size = w.heap.size → Rec w' l { r with state := .done, pending := some .ret } → R false (some .ret) w'
  | .exit id, _, ds, w => ds = [] ∧ ∃ r, Rec w l r ∧ ∀ w', Upd (Is l) w w' → w'.heap.size = w.heap.size → Rec w' l { r with state := .done, pending := some (.exit id) } → R false (some (.exit id)) w'
  | .goto t, _, ds, w => ds = [] ∧ ∃ r, Rec w l r ∧ ∀ w', Upd (Is l) w w' → w'.heap.size = w.heap.size → Rec w' l { r with state := .done, pending := some (.goto t) } → R false (some (.goto t)) w'
  | _, _, _, _ => False

theorem rec_put {l : Nat} {r r' : Loop} (h : Rec w l r) : Rec (w.putObj l (.loop r')) l r' := World.putObj_heap_same (Array.getElem?_eq_some_iff.1 h).1

/-- a round, out of the walks of the assignments to the loop's variables and of its body -/
theorem round_of_W {l : Nat} {f : FuncId} {assign body : Code} {ρ1 : Env} {R : Bool → Option Code → World → Prop}
    (h : W P (some l) n assign (fun e ρ ds w => match e with
      | .normal => ds = [] ∧ ∃ r, Rec w l r ∧ r.state = .ready ∧ ∀ w', Upd (Is l) w w' → w'.heap.size = w.heap.size → Rec w' l { r with state := .busy } → W P (some l) n body (roundQ l R) ρ [] w'
      | _ => False) ρ1 [] w) :
    RoundIn Fence.wide 0 P l f (tab n ρ1) assign body w (fun e w' => match e with
      | .returned v => ∃ b c, v = .bool b ∧ R b c w'
      | _ => False) := by
  refine ⟨trivial, fun c cs hr => ?_⟩
  let b : Frame := { (default : Frame) with fn := f, kind := .normal, roundOf := some l }
  have hb0 : Frame.round l f (tab n ρ1) assign body .normal = b.atR { tmps := tab n ρ1, defers := [] } [.code assign, .beginRound, .code body] := by
    simp [Frame.round, Frame.atR, b]
  obtain ⟨e, ⟨t1, d1⟩, w₁, ⟨ρ', h1, h2⟩, harr⟩ := h b [.beginRound, .code body] (c :: cs) rfl trivial (fo_room _ _)
  rw [← hb0] at harr
  have wide : ∀ m m', StepsIn (Machine.fenced P (Fo (some l))) P m m' → StepsIn (Machine.fenced P Fence.wide) P m m' := fun m m' hs => stepsIn_wide.2 hs.steps
  simp only at h1 h2
  subst h1
  cases e with
  | normal =>
    obtain ⟨rfl, r, hrec, hready, hbody⟩ := h2
    have hbody := hbody _ (upd_putObj w₁ l (.loop { r with state := .busy })) (by simp) (rec_put hrec)
    have s1 : StepsIn (Machine.fenced P (Fo (some l))) P (lone (b.atR ⟨tab n ρ', []⟩ [.beginRound, .code body]) (c :: cs) w₁) (lone (b.atR ⟨tab n ρ', []⟩ [.code body]) (c :: cs) _) :=
      .one (fenced_calm (n := 0) (fr := b.atR ⟨tab n ρ', []⟩ [.beginRound, .code body]) trivial (fo_room _ _) rfl) (stepR_beginRound rfl (run_beginRound hrec hready))
    obtain ⟨e₂, ⟨t2, d2⟩, w₃, ⟨ρ2, h3, h4⟩, harr₂⟩ := hbody b [] (c :: cs) rfl trivial (fo_room _ _)
    simp only at h3 h4
    subst h3
    have s0 := (StepsIn.trans harr s1)
    cases e₂ with
    | normal =>
      obtain ⟨rfl, r2, hr2, hk⟩ := h4
      have := hk _ (upd_putObj w₃ l (.loop { r2 with state := .ready, pending := none })) (by simp) (rec_put hr2)
      exact ⟨.returned (.bool true), _, ⟨true, none, rfl, this⟩, wide _ _ (s0.trans (StepsIn.trans harr₂ (.one (fenced_calm (n := 0) (fr := b.atR ⟨tab n ρ2, []⟩ []) trivial (fo_room _ _) rfl) (stepR_round_end rfl rfl (run_endRound none hr2)))))⟩
    | ret =>
      obtain ⟨rfl, r2, hr2, hk⟩ := h4
      have := hk _ (upd_putObj w₃ l (.loop { r2 with state := .done, pending := some .ret })) (by simp) (rec_put hr2)
      obtain ⟨k₁, hs⟩ := harr₂.2 rfl
      exact ⟨.returned (.bool false), _, ⟨false, _, rfl, this⟩, wide _ _ (s0.trans (StepsIn.trans hs (.one (fenced_calm (n := 0) (fr := b.atR ⟨tab n ρ2, []⟩ (.code .ret :: k₁)) trivial (fo_room _ _) rfl) (stepR_round_ret rfl rfl (run_endRound (some .ret) hr2)))))⟩
    | exit id =>
      obtain ⟨rfl, r2, hr2, hk⟩ := h4
      have := hk _ (upd_putObj w₃ l (.loop { r2 with state := .done, pending := some (.exit id) })) (by simp) (rec_put hr2)
      obtain ⟨k₁, hx, hs⟩ := harr₂.2 rfl rfl
      exact ⟨.returned (.bool false), _, ⟨false, _, rfl, this⟩, wide _ _ (s0.trans (StepsIn.trans hs (.one (fenced_calm (n := 0) (fr := b.atR ⟨tab n ρ2, []⟩ (.code (.exit id) :: k₁)) trivial (fo_room _ _) rfl) (stepR_round_exit rfl rfl hx (run_endRound (some (.exit id)) hr2)))))⟩
    | goto t =>
      obtain ⟨rfl, r2, hr2, hk⟩ := h4
      have := hk _ (upd_putObj w₃ l (.loop { r2 with state := .done, pending := some (.goto t) })) (by simp) (rec_put hr2)
      obtain ⟨k₁, hx, hs⟩ := harr₂.2 rfl rfl
      exact ⟨.returned (.bool false), _, ⟨false, _, rfl, this⟩, wide _ _ (s0.trans (StepsIn.trans hs (.one (fenced_calm (n := 0) (fr := b.atR ⟨tab n ρ2, []⟩ (.code (.goto t) :: k₁)) trivial (fo_room _ _) rfl) (stepR_round_goto rfl rfl hx (run_endRound (some (.goto t)) hr2)))))⟩
    | panic ch => exact h4.elim
    | outgrown => exact h4.elim
  | exit id => exact h2.elim
  | goto t => exact h2.elim
  | ret => exact h2.elim
  | panic chain => exact h2.elim
  | outgrown => exact h2.elim

/-- a call of yield: its round's walks -/
theorem yieldC_of_W {l : Nat} {r : Loop} {args : Array Value} {ρ1 : Env} {R : Bool → Option Code → World → Prop} {RR : Ending → World → Prop}
    (hl : Rec w l r) (hs : args.size = r.params.size) (ht : (r.params.zip args).foldl (fun tmps (t, a) => tmps.setIfInBounds t a) r.tmps = tab n ρ1)
    (h : W P (some l) n r.assign (fun e ρ ds w => match e with
      | .normal => ds = [] ∧ ∃ r', Rec w l r' ∧ r'.state = .ready ∧ ∀ w', Upd (Is l) w w' → w'.heap.size = w.heap.size → Rec w' l { r' with state := .busy } → W P (some l) n r.body (roundQ l R) ρ [] w'
      | _ => False) ρ1 [] w) (hR : ∀ b c w', R b c w' → RR (.returned (.bool b)) w') : YieldC P l args w RR := by
  refine ⟨r.fn, tab n ρ1, r.assign, r.body, ?_, (round_of_W h).mono ?_⟩
  · rw [run_yield hl hs, ht]
  · intro e w' he
    cases e with
    | returned v => obtain ⟨b, c, rfl, hr⟩ := he; exact hR b c w' hr
    | panicked ch => exact he.elim
    | outgrown => exact he.elim
theorem zip0 (n : Nat) (ρ : Env) : (((#[] : Array Tmp).zip #[]).foldl (fun tmps (t, a) => tmps.setIfInBounds t a) (tab n ρ)) = tab n ρ := by simp
theorem zip1 (n : Nat) (ρ : Env) (t : Tmp) (v : Value) : ((#[t].zip #[v]).foldl (fun tmps (t, a) => tmps.setIfInBounds t a) (tab n ρ)) = tab n (upd ρ t v) := by simp [tab_set]
theorem zip2 (n : Nat) (ρ : Env) (t u : Tmp) (v x : Value) : ((#[t, u].zip #[v, x]).foldl (fun tmps (t, a) => tmps.setIfInBounds t a) (tab n ρ)) = tab n (upd (upd ρ t v) u x) := by simp [tab_set]

/-- a call of a yield value, in a region -/
theorem Wl_yield1 {ro : Option Nat} {ops : Array Oper} {rest : List Oper} {d : Option Tmp} {t : TypeId} {p : String} {e : Array Edge} {y x : Operand} {ts : Array TypeId} {l : Nat} {v : Value} {A B : World → Prop}
    (hy : ev n ρ y = .func (.yield l) #[] #[]) (hx : ev n ρ x = v) (hc : YieldC P l #[v] w (fun e w' => (e = .returned (.bool true) ∧ A w') ∨ (e = .returned (.bool false) ∧ B w')))
    (ht : ∀ w', A w' → Wl P ro n ops Q rest (put ρ d (.bool true)) ds w') (hf : ∀ w', B w' → Wl P ro n ops Q rest (put ρ d (.bool false)) ds w') :
    Wl P ro n ops Q (⟨d, .call { callee := .value y, args := #[x], argTypes := ts }, t, p, e, none⟩ :: rest) ρ ds w := by
  obtain ⟨f, tm, as', bd, h1, h2⟩ := hc
  refine Wl_run rfl ?_
  have hr : (Oper.semAt ro (ev n ρ) ⟨d, .call { callee := .value y, args := #[x], argTypes := ts }, t, p, e, none⟩).run P w = .ok (.round l f tm as' bd) w := by
    rw [sem_call0]; simp [execOp, resolve, Deferred.ofValue, hy, hx, invoke, h1]
  rw [hr]
  refine h2.mono ?_
  rintro e w' (⟨rfl, ha⟩ | ⟨rfl, hb⟩)
  · exact ht w' ha
  · exact hf w' hb
theorem Wl_yield2 {ro : Option Nat} {ops : Array Oper} {rest : List Oper} {d : Option Tmp} {t : TypeId} {p : String} {e : Array Edge} {y x x2 : Operand} {ts : Array TypeId} {l : Nat} {v v2 : Value} {A B : World → Prop}
    (hy : ev n ρ y = .func (.yield l) #[] #[]) (hx : ev n ρ x = v) (hx2 : ev n ρ x2 = v2) (hc : YieldC P l #[v, v2] w (fun e w' => (e = .returned (.bool true) ∧ A w') ∨ (e = .returned (.bool false) ∧ B w')))
    (ht : ∀ w', A w' → Wl P ro n ops Q rest (put ρ d (.bool true)) ds w') (hf : ∀ w', B w' → Wl P ro n ops Q rest (put ρ d (.bool false)) ds w') :
    Wl P ro n ops Q (⟨d, .call { callee := .value y, args := #[x, x2], argTypes := ts }, t, p, e, none⟩ :: rest) ρ ds w := by
  obtain ⟨f, tm, as', bd, h1, h2⟩ := hc
  refine Wl_run rfl ?_
  have hr : (Oper.semAt ro (ev n ρ) ⟨d, .call { callee := .value y, args := #[x, x2], argTypes := ts }, t, p, e, none⟩).run P w = .ok (.round l f tm as' bd) w := by
    rw [sem_call0]; simp [execOp, resolve, Deferred.ofValue, hy, hx, hx2, invoke, h1]
  rw [hr]
  refine h2.mono ?_
  rintro e w' (⟨rfl, ha⟩ | ⟨rfl, hb⟩)
  · exact ht w' ha
  · exact hf w' hb
end
theorem ilen {w : World} {R : Nat → Prop} {n : Nat} {v : Value} {K : IntKind} {l : List Int} (h : Sl w R 1 v n (ints K l)) : l.length = n := by simpa [ints] using h.len
theorem vtup3 {a b c a' b' c' : Value} (h1 : a = a') (h2 : b = b') (h3 : c = c') : Value.tuple #[a, b, c] = .tuple #[a', b', c'] := by rw [h1, h2, h3]
theorem vtup2 {a b a' b' : Value} (h1 : a = a') (h2 : b = b') : Value.tuple #[a, b] = .tuple #[a', b'] := by rw [h1, h2]
end Go.Fw
