/-
  A program logic for this project's walks, over the kit's own laws: environments in the place of arrays of temporaries; code in a frame or in a round of a loop over a function; calls by contract. Generic in the program.
-/
import Derived.WalkKit
import Derived.RangeFuncIn
import Derived.RangeFuncRecord
import Derived.RangeFuncLeaves
import Derived.Recover
namespace Go.Fw

/-! ## Environments -/
abbrev Env := Nat → Value
def junk : Env := fun _ => undef
def upd (ρ : Env) (d : Nat) (v : Value) : Env := fun t => bif Nat.beq t d then v else ρ t
def put (ρ : Env) : Option Nat → Value → Env
  | some d, v => upd ρ d v
  | none, _ => ρ
def tab (n : Nat) (ρ : Env) : Array Value := (Array.range n).map ρ
def ev (n : Nat) (ρ : Env) : Operand → Value
  | .tmp t => bif Nat.blt t n then ρ t else undef
  | .const v => v
  | .global g => .pointer (some ⟨g, 0, none⟩)
  | .func f => .func (.func f) #[] #[]

theorem beq_f {t d : Nat} (h : ¬ t = d) : Nat.beq t d = false := by
  cases hb : Nat.beq t d with
  | true => exact absurd (Nat.eq_of_beq_eq_true hb) h
  | false => rfl
theorem blt_t {t n : Nat} (h : t < n) : Nat.blt t n = true := Nat.ble_eq_true_of_le h
theorem blt_f {t n : Nat} (h : ¬ t < n) : Nat.blt t n = false := by
  cases hb : Nat.blt t n with
  | true => exact absurd (Nat.le_of_ble_eq_true hb) h
  | false => rfl
theorem upd_same (ρ : Env) (d : Nat) (v : Value) : upd ρ d v d = v := by simp [upd]
theorem upd_other (ρ : Env) {d t : Nat} (v : Value) (h : t ≠ d) : upd ρ d v t = ρ t := by
  have : Nat.beq t d = false := beq_f h
  simp [upd, this]

@[simp] theorem tab_size (n : Nat) (ρ : Env) : (tab n ρ).size = n := by simp [tab]
theorem tab_get (n : Nat) (ρ : Env) (t : Nat) : (tab n ρ)[t]? = if t < n then some (ρ t) else none := by
  unfold tab
  by_cases h : t < n
  · simp [h]
  · simp [h]
theorem tab_getD (n : Nat) (ρ : Env) (t : Nat) : (tab n ρ).getD t undef = ev n ρ (.tmp t) := by
  rw [Array.getD_eq_getD_getElem?, tab_get]
  unfold ev
  by_cases h : t < n
  · have : Nat.blt t n = true := blt_t h
    simp [h, this]
  · have : Nat.blt t n = false := blt_f h
    simp [h, this]
theorem tab_set (n : Nat) (ρ : Env) (d : Nat) (v : Value) : (tab n ρ).setIfInBounds d v = tab n (upd ρ d v) := by
  apply Array.ext_getElem?
  intro t
  rw [tab_get, Array.getElem?_setIfInBounds, tab_get]
  by_cases h : t < n
  · by_cases e : d = t
    · subst e; simp [h, upd_same]
    · simp [h, e, upd_other _ _ (Ne.symm e)]
  · by_cases e : d = t
    · subst e; simp [h]
    · simp [h, e]
theorem act_put (n : Nat) (ρ : Env) (ds : List Deferred) (dst : Option Nat) (v : Value) :
    (⟨tab n ρ, ds⟩ : Act).put dst v = ⟨tab n (put ρ dst v), ds⟩ := by
  cases dst with
  | none => rfl
  | some d => simp [Act.put, put, tab_set]
theorem act_eval (n : Nat) (ρ : Env) (ds : List Deferred) : (⟨tab n ρ, ds⟩ : Act).eval = ev n ρ := by
  funext x
  cases x with
  | tmp t => exact tab_getD n ρ t
  | const v => rfl
  | global g => rfl
  | func f => rfl

/-- the guard's slot, read -/
def asB : Value → Option Bool
  | .bool b => some b
  | _ => none
def grd (n : Nat) (ρ : Env) (ops : Array Oper) (j : Nat) : Option Bool :=
  match (ops[j]?).bind (·.dst) with
  | some d => asB (ev n ρ (.tmp d))
  | none => none
theorem yielded_eq (n : Nat) (ρ : Env) (ops : Array Oper) (j : Nat) : yielded ops (tab n ρ) j = grd n ρ ops j := by
  unfold yielded grd
  cases (ops[j]?).bind (·.dst) with
  | none => rfl
  | some d =>
    simp only [Option.bind_some, tab_get]
    unfold ev
    by_cases h : d < n
    · have h' : Nat.blt d n = true := blt_t h
      simp only [h, if_true, h', cond_true]
      cases ρ d <;> rfl
    · have h' : Nat.blt d n = false := blt_f h
      simp only [h, if_false, h', cond_false]
      rfl

def envOf : List Value → Nat → Env
  | [], _ => junk
  | v :: l, i => upd (envOf l (i + 1)) i v
theorem envOf_lt : ∀ (l : List Value) (i t : Nat), t < i → envOf l i t = undef
  | [], _, _, _ => rfl
  | v :: l, i, t, h => by
    rw [envOf, upd_other _ _ (Nat.ne_of_lt h)]
    exact envOf_lt l (i + 1) t (by omega)
theorem envOf_get : ∀ (l : List Value) (i j : Nat), envOf l i (i + j) = (l[j]?).getD undef
  | [], i, j => by simp [envOf, junk]
  | v :: l, i, j => by
    cases j with
    | zero => simp [envOf, upd_same]
    | succ j =>
      rw [envOf, upd_other _ _ (by omega), show i + (j + 1) = i + 1 + j by omega, envOf_get l (i + 1) j]
      simp
theorem enter_tab (args : Array Value) (n : Nat) (h : args.size ≤ n) :
    args ++ Array.replicate (n - args.size) undef = tab n (envOf args.toList 0) := by
  apply Array.ext_getElem?
  intro t
  rw [tab_get]
  have hg := envOf_get args.toList 0 t
  rw [Nat.zero_add] at hg
  rw [hg]
  by_cases h1 : t < args.size
  · have h2 : t < n := by omega
    rw [Array.getElem?_append_left h1]
    simp [h1, h2]
  · rw [Array.getElem?_append_right (by omega)]
    by_cases h2 : t < n
    · simp only [h2, if_true]
      rw [Array.getElem?_replicate, if_pos (by omega)]
      simp [h1]
    · simp only [h2, if_false]
      rw [Array.getElem?_replicate, if_neg (by omega)]

/-- what a list of slots holds -/
def Liv (ρ : Env) : List (Nat × Value) → Prop
  | [] => True
  | (d, v) :: l => ρ d = v ∧ Liv ρ l
def upds (ρ : Env) : List (Nat × Value) → Env
  | [] => ρ
  | (d, v) :: l => upd (upds ρ l) d v
theorem upds_self {ρ : Env} : ∀ {l : List (Nat × Value)}, Liv ρ l → ρ = upds ρ l
  | [], _ => rfl
  | (d, v) :: l, h => by
    have ih := upds_self h.2
    funext t
    simp only [upds]
    by_cases e : t = d
    · subst e; rw [upd_same]; exact h.1
    · rw [upd_other _ _ e, ← ih]
theorem vint {k : IntKind} {a b : Int} (h : a = b) : Value.int k a = Value.int k b := by rw [h]

/-! ## Code -/
abbrev Post := Exit → Env → List Deferred → World → Prop
def Fo (ro : Option Nat) : Fence := { Fence.wide with round := ro }
def lift (n : Nat) (Q : Post) : Exit → Act → World → Prop := fun e a w => ∃ ρ, a.tmps = tab n ρ ∧ Q e ρ a.defers w
def W (P : Program) (ro : Option Nat) (n : Nat) (c : Code) (Q : Post) (ρ : Env) (ds : List Deferred) (w : World) : Prop :=
  c.wpIn (Fo ro) 0 P (lift n Q) ⟨tab n ρ, ds⟩ w
def thn (K : Env → List Deferred → World → Prop) (Q : Post) : Post
  | .normal, ρ, ds, w => K ρ ds w
  | e, ρ, ds, w => Q e ρ ds w
def inB (id : Nat) (Q : Post) : Post
  | .exit id', ρ, ds, w => bif Nat.beq id' id then Q .normal ρ ds w else Q (.exit id') ρ ds w
  | e, ρ, ds, w => Q e ρ ds w

theorem fo_fn (ro : Option Nat) (f : FuncId) : (Fo ro).fn f := trivial
theorem fo_depth (ro : Option Nat) : (Fo ro).depth = none := rfl
theorem fo_room (ro : Option Nat) (k : Nat) : (Fo ro).room k := fun _ h => by simp [Fo, Fence.wide] at h

section
variable {P : Program} {ro : Option Nat} {n : Nat} {Q : Post} {ρ : Env} {ds : List Deferred} {w : World}

theorem W_mono {c : Code} {Q' : Post} (h : W P ro n c Q ρ ds w) (hq : ∀ e ρ ds w, Q e ρ ds w → Q' e ρ ds w) : W P ro n c Q' ρ ds w :=
  wpIn_mono h fun _ _ _ ⟨ρ', h1, h2⟩ => ⟨ρ', h1, hq _ _ _ _ h2⟩
theorem W_skip (h : Q .normal ρ ds w) : W P ro n .skip Q ρ ds w := wpIn_skip ⟨ρ, rfl, h⟩
theorem W_label {l : Nat} (h : Q .normal ρ ds w) : W P ro n (.label l) Q ρ ds w := wpIn_label ⟨ρ, rfl, h⟩
theorem W_exit {id : Nat} (h : Q (.exit id) ρ ds w) : W P ro n (.exit id) Q ρ ds w := wpIn_exit ⟨ρ, rfl, h⟩
theorem W_goto {l : Nat} (h : Q (.goto l) ρ ds w) : W P ro n (.goto l) Q ρ ds w := wpIn_goto ⟨ρ, rfl, h⟩
theorem W_ret (h : Q .ret ρ ds w) : W P ro n .ret Q ρ ds w := wpIn_ret ⟨ρ, rfl, h⟩
theorem W_seq {x y : Code} (h : W P ro n x (thn (W P ro n y Q) Q) ρ ds w) : W P ro n (.seq x y) Q ρ ds w := by
  refine wpIn_seq (wpIn_mono h ?_)
  rintro e ⟨t, d⟩ w' ⟨ρ', h1, h2⟩
  simp only at h1 h2
  subst h1
  cases e <;> first | exact h2 | exact ⟨ρ', rfl, h2⟩
theorem W_cond {c : Operand} {x y : Code} {t : Bool} (hc : ev n ρ c = .bool t) (ht : t = true → W P ro n x Q ρ ds w) (hf : t = false → W P ro n y Q ρ ds w) :
    W P ro n (.cond c x y) Q ρ ds w := by
  have hc' : (⟨tab n ρ, ds⟩ : Act).eval c = .bool t := by rw [act_eval]; exact hc
  exact wpIn_cond_split hc' ht hf
theorem W_cond_t {c : Operand} {x y : Code} (hc : ev n ρ c = .bool true) (h : W P ro n x Q ρ ds w) : W P ro n (.cond c x y) Q ρ ds w :=
  W_cond hc (fun _ => h) (fun e => by cases e)
theorem W_cond_f {c : Operand} {x y : Code} (hc : ev n ρ c = .bool false) (h : W P ro n y Q ρ ds w) : W P ro n (.cond c x y) Q ρ ds w :=
  W_cond hc (fun e => by cases e) (fun _ => h)
/-- a test over a decidable proposition -/
theorem W_if {c : Operand} {x y : Code} {p : Prop} [Decidable p] (hc : ev n ρ c = .bool (decide p)) (ht : p → W P ro n x Q ρ ds w) (hf : ¬ p → W P ro n y Q ρ ds w) :
    W P ro n (.cond c x y) Q ρ ds w :=
  W_cond hc (fun h => ht (of_decide_eq_true h)) (fun h => hf (of_decide_eq_false h))
theorem W_block {id : Nat} {c : Code} (h : W P ro n c (inB id Q) ρ ds w) : W P ro n (.block id c) Q ρ ds w := by
  refine wpIn_block (wpIn_mono h ?_)
  rintro e ⟨t, d⟩ w' ⟨ρ', h1, h2⟩
  simp only at h1 h2
  subst h1
  cases e with
  | exit id' =>
    simp only [inB] at h2
    simp only [Exit.inBlock]
    by_cases hid : id' = id
    · subst hid; simp at h2; rw [if_pos rfl]; exact ⟨ρ', rfl, h2⟩
    · have hb : Nat.beq id' id = false := beq_f hid
      rw [hb] at h2
      rw [if_neg hid]; exact ⟨ρ', rfl, h2⟩
  | _ => exact ⟨ρ', rfl, h2⟩
/-- a loop: G m says that the round's measure is m -/
theorem W_loop {c : Code} (G : Nat → Env → List Deferred → World → Prop) (m0 : Nat) (h0 : G m0 ρ ds w)
    (step : ∀ m ρ ds w, G m ρ ds w → W P ro n c (thn (fun ρ' ds' w' => ∃ m', m' < m ∧ G m' ρ' ds' w') Q) ρ ds w) : W P ro n (.loop c) Q ρ ds w := by
  intro b k cs hro hb hr
  have key : ∀ m ρ ds w, G m ρ ds w →
      ∃ e a' w', lift n Q e a' w' ∧ ArrivesIn (Machine.fenced P (Fo ro)) P (lone (b.atR ⟨tab n ρ, ds⟩ (.code c :: .inLoop c :: k)) cs w) b k cs e a' w' := by
    intro m
    induction m using Nat.strongRecOn with
    | _ m ih =>
      intro ρ ds w hG
      obtain ⟨e, ⟨t, d⟩, w₁, ⟨ρ', h1, h2⟩, harr⟩ := step m ρ ds w hG b (.inLoop c :: k) cs hro hb hr
      simp only at h1 h2
      subst h1
      cases e with
      | normal =>
        obtain ⟨m', hlt, hG'⟩ := h2
        obtain ⟨e₂, a₂, w₂, hq₂, harr₂⟩ := ih m' hlt ρ' d w₁ hG'
        exact ⟨e₂, a₂, w₂, hq₂, .of_steps (StepsIn.trans harr (.one (fenced_calm hb hr rfl) stepR_inLoop)) harr₂⟩
      | exit id => exact ⟨_, ⟨tab n ρ', d⟩, w₁, ⟨ρ', rfl, h2⟩, .pass (x := .inLoop c) rfl (fun _ _ => .inl (by simp)) harr⟩
      | goto l => exact ⟨_, ⟨tab n ρ', d⟩, w₁, ⟨ρ', rfl, h2⟩, .pass (x := .inLoop c) rfl (fun _ _ => .inl (by simp)) harr⟩
      | ret => exact ⟨_, ⟨tab n ρ', d⟩, w₁, ⟨ρ', rfl, h2⟩, .pass (x := .inLoop c) rfl (fun _ _ => .inl (by simp)) harr⟩
      | panic ch => exact ⟨_, ⟨tab n ρ', d⟩, w₁, ⟨ρ', rfl, h2⟩, .pass (x := .inLoop c) rfl (fun _ _ => .inl (by simp)) harr⟩
      | outgrown => exact ⟨_, ⟨tab n ρ', d⟩, w₁, ⟨ρ', rfl, h2⟩, .pass (x := .inLoop c) rfl (fun _ _ => .inl (by simp)) harr⟩
  obtain ⟨e, a', w', hq, harr⟩ := key m0 ρ ds w h0
  exact ⟨e, a', w', hq, .of_steps (.one (fenced_calm hb hr rfl) stepR_loop) harr⟩
end

/-! ## Operations -/
/-- what is asked behind one operation's run -/
def upon (P : Program) (o : Oper) (K : Env → List Deferred → World → Prop) (Q : Post) (ρ : Env) (ds : List Deferred) : Result Next → Prop
  | .ok (.value v) w' => K (put ρ o.dst v) ds w'
  | .ok .skip w' => K (put ρ o.dst undef) ds w'
  | .ok (.defer d) w' => K (put ρ o.dst undef) (d :: ds) w'
  | .ok (.enter f args) w' => Calls P f args w' fun
      | .returned v, w'' => K (put ρ o.dst v) ds w''
      | .panicked chain, w'' => Q (.panic chain) ρ ds w''
      | .outgrown, _ => False
  | .ok (.round l f tmps assign body) w' => RoundIn Fence.wide 0 P l f tmps assign body w' fun
      | .returned v, w'' => K (put ρ o.dst v) ds w''
      | .panicked chain, w'' => Q (.panic chain) ρ ds w''
      | .outgrown, _ => False
  | .halt (.panic v) w' => Q (.panic [{ v, recovered := false }]) ρ ds w'
  | _ => False

/-- a region's operations, one behind the other ('ops': the whole region, for the guards) -/
def Wl (P : Program) (ro : Option Nat) (n : Nat) (ops : Array Oper) (Q : Post) : List Oper → Env → List Deferred → World → Prop
  | [], ρ, ds, w => Q .normal ρ ds w
  | o :: rest, ρ, ds, w =>
    if Region.wanted o (grd n ρ ops) then upon P o (Wl P ro n ops Q rest) Q ρ ds ((o.semAt ro (ev n ρ)).run P w)
    else Wl P ro n ops Q rest (put ρ o.dst undef) ds w

theorem roundIn_fo {ro : Option Nat} {P : Program} {l : Nat} {f : FuncId} {tmps : Array Value} {assign body : Code} {w : World} {R : Ending → World → Prop}
    (h : RoundIn Fence.wide 0 P l f tmps assign body w R) : RoundIn (Fo ro) 0 P l f tmps assign body w R :=
  ⟨trivial, fun c cs _ => h.2 c cs (room_wide _)⟩
theorem callsIn_fo {ro : Option Nat} {P : Program} {f : FuncId} {args : Array Value} {w : World} {R : Ending → World → Prop}
    (h : Calls P f args w R) : CallsIn (Fo ro) 0 P f args w R :=
  ⟨trivial, fun cs _ => (callsIn_wide (n := 0)).2 h |>.2 cs (room_wide _)⟩

theorem wpOpsIn_of_Wl {P : Program} {ro : Option Nat} {n : Nat} {ops : Array Oper} {Q : Post} : ∀ (l : List Nat) (os : List Oper),
    (l.map (fun i => ops[i]?) = os.map some) → ∀ (ρ : Env) (ds : List Deferred) (w : World), Wl P ro n ops Q os ρ ds w →
    wpOpsIn (Fo ro) 0 P ops (lift n Q) l ⟨tab n ρ, ds⟩ w
  | [], [], _, ρ, ds, w, h => ⟨ρ, rfl, h⟩
  | [], o :: os, hm, _, _, _, _ => by simp at hm
  | i :: l, [], hm, _, _, _, _ => by simp at hm
  | i :: l, o :: os, hm, ρ, ds, w, h => by
    simp only [List.map_cons, List.cons.injEq] at hm
    obtain ⟨hi, hl⟩ := hm
    have ih := wpOpsIn_of_Wl (P := P) (ro := ro) (n := n) (Q := Q) l os hl
    simp only [wpOpsIn, hi]
    simp only [Wl] at h
    have hy : (yielded ops (tab n ρ)) = grd n ρ ops := funext (yielded_eq n ρ ops)
    rw [hy]
    by_cases hw : Region.wanted o (grd n ρ ops) = true
    · simp only [hw, if_true] at h ⊢
      refine ⟨fun _ _ => trivial, ?_⟩
      rw [act_eval]
      change upon P o (Wl P ro n ops Q os) Q ρ ds ((o.semAt ro (ev n ρ)).run P w) at h
      change o.uponIn (Fo ro) 0 P ⟨tab n ρ, ds⟩ _ _ ((o.semAt ro (ev n ρ)).run P w)
      generalize (o.semAt ro (ev n ρ)).run P w = r at h ⊢
      cases r with
      | ok x w' =>
        cases x <;> simp only [upon] at h <;> first | exact h.elim | skip
        case value v => rw [Oper.uponIn_value, act_put]; exact ih _ _ _ h
        case skip => rw [Oper.uponIn_skip, act_put]; exact ih _ _ _ h
        case defer d =>
          rw [Oper.uponIn_defer]
          have := act_put n ρ (d :: ds) o.dst undef
          simp only at this ⊢
          rw [this]
          exact ih _ _ _ h
        case enter f args =>
          rw [Oper.uponIn_enter]
          refine ⟨fun h => by simp [Fo, Fence.wide] at h, callsIn_fo (h.mono ?_)⟩
          intro e w'' he
          cases e with
          | returned v => simp only at he ⊢; rw [act_put]; exact ih _ _ _ he
          | panicked ch => exact ⟨ρ, rfl, he⟩
          | outgrown => exact he.elim
        case round l' f tmps assign body =>
          rw [Oper.uponIn_round]
          refine ⟨fun h => by simp [Fo, Fence.wide] at h, roundIn_fo (h.mono ?_)⟩
          intro e w'' he
          cases e with
          | returned v => simp only at he ⊢; rw [act_put]; exact ih _ _ _ he
          | panicked ch => exact ⟨ρ, rfl, he⟩
          | outgrown => exact he.elim
      | halt x w' =>
        cases x <;> simp only [upon] at h <;> first | exact h.elim | skip
        case panic v => rw [Oper.uponIn_panic]; exact ⟨ρ, rfl, h⟩
    · have hw' : Region.wanted o (grd n ρ ops) = false := by simpa using hw
      simp only [hw', Bool.false_eq_true, if_false] at h ⊢
      rw [act_put]
      exact ⟨fun _ _ => trivial, ih _ _ _ h⟩

theorem range_map_get (ops : Array Oper) : (List.range ops.size).map (fun i => ops[i]?) = ops.toList.map some := by
  apply List.ext_getElem?
  intro i
  by_cases h : i < ops.size
  · simp [h]
  · simp [h]

section
variable {P : Program} {ro : Option Nat} {n : Nat} {Q : Post} {ρ : Env} {ds : List Deferred} {w : World} {ops : Array Oper}
theorem W_region {id : Nat} (h : Wl P ro n ops Q ops.toList ρ ds w) : W P ro n (.region id ops false) Q ρ ds w :=
  wpIn_region (wpOpsIn_of_Wl _ _ (range_map_get ops) ρ ds w h)
theorem Wl_nil (h : Q .normal ρ ds w) : Wl P ro n ops Q [] ρ ds w := h
/-- an operation whose guard (if any) says yes -/
theorem Wl_run {o : Oper} {rest : List Oper} (hg : Region.wanted o (grd n ρ ops) = true)
    (h : upon P o (Wl P ro n ops Q rest) Q ρ ds ((o.semAt ro (ev n ρ)).run P w)) : Wl P ro n ops Q (o :: rest) ρ ds w := by
  simp only [Wl, hg, if_true]; exact h
theorem Wl_skip {o : Oper} {rest : List Oper} (hg : Region.wanted o (grd n ρ ops) = false)
    (h : Wl P ro n ops Q rest (put ρ o.dst undef) ds w) : Wl P ro n ops Q (o :: rest) ρ ds w := by
  simp only [Wl, hg, Bool.false_eq_true, if_false]; exact h
/-- a guard on a slot that holds a Bool, decided -/
theorem Wl_guard_t {d : Option Tmp} {op : Op} {t : TypeId} {p : String} {e : Array Edge} {j : Nat} {want : Bool} {rest : List Oper}
    (hg : grd n ρ ops j = some want) (h : Wl P ro n ops Q (⟨d, op, t, p, e, none⟩ :: rest) ρ ds w) : Wl P ro n ops Q (⟨d, op, t, p, e, some (j, want)⟩ :: rest) ρ ds w := by
  have h1 : Region.wanted (⟨d, op, t, p, e, some (j, want)⟩ : Oper) (grd n ρ ops) = true := by simp [Region.wanted, hg]
  have h2 : Region.wanted (⟨d, op, t, p, e, none⟩ : Oper) (grd n ρ ops) = true := rfl
  simp only [Wl, h1, h2, if_true] at h ⊢
  exact h
theorem Wl_guard_f {d : Option Tmp} {op : Op} {t : TypeId} {p : String} {e : Array Edge} {j : Nat} {want : Bool} {rest : List Oper}
    (hg : grd n ρ ops j = some (!want)) (h : Wl P ro n ops Q rest (put ρ d undef) ds w) : Wl P ro n ops Q (⟨d, op, t, p, e, some (j, want)⟩ :: rest) ρ ds w :=
  Wl_skip (by simp [Region.wanted, hg]) h
/-- an operation that yields a value (its guard is none, it is no 'defer') -/
theorem Wl_v {d : Option Tmp} {op : Op} {t : TypeId} {p : String} {e : Array Edge} {rest : List Oper} {v : Value} {w' : World}
    (hr : (Oper.semAt ro (ev n ρ) ⟨d, op, t, p, e, none⟩).run P w = .ok (.value v) w') (h : Wl P ro n ops Q rest (put ρ d v) ds w') : Wl P ro n ops Q (⟨d, op, t, p, e, none⟩ :: rest) ρ ds w :=
  Wl_run rfl (by rw [hr]; exact h)
/-- an operation that yields nothing -/
theorem Wl_u {d : Option Tmp} {op : Op} {t : TypeId} {p : String} {e : Array Edge} {rest : List Oper} {w' : World}
    (hr : (Oper.semAt ro (ev n ρ) ⟨d, op, t, p, e, none⟩).run P w = .ok .skip w') (h : Wl P ro n ops Q rest (put ρ d undef) ds w') : Wl P ro n ops Q (⟨d, op, t, p, e, none⟩ :: rest) ρ ds w :=
  Wl_run rfl (by rw [hr]; exact h)
/-- a call that enters a function of the program -/
theorem Wl_call {d : Option Tmp} {c : Call} {t : TypeId} {p : String} {e : Array Edge} {rest : List Oper} {f : FuncId} {args : Array Value} {R : Value → World → Prop}
    (hr : (Oper.semAt ro (ev n ρ) ⟨d, .call c, t, p, e, none⟩).run P w = .ok (.enter f args) w)
    (hc : Calls P f args w (fun e w' => ∃ v, e = .returned v ∧ R v w'))
    (h : ∀ v w', R v w' → Wl P ro n ops Q rest (put ρ d v) ds w') : Wl P ro n ops Q (⟨d, .call c, t, p, e, none⟩ :: rest) ρ ds w := by
  refine Wl_run rfl ?_
  rw [hr]
  refine hc.mono ?_
  rintro e w' ⟨v, rfl, hR⟩
  exact h v w' hR
end
end Go.Fw
