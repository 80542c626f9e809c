/-
  Several texts of this project, put together.
-/
import Derived.WalkKit
import Derived.RangeFuncIn
import Derived.RangeFuncRecord
import Derived.RangeFuncLeaves
import Derived.Recover
import Derived.Orders
set_option maxRecDepth 100000
set_option maxHeartbeats 16000000
namespace Go.Fw
/-! ## Environments -/
abbrev Env := Nat → Value
def junk : Env := fun _ => undef
def upd (ρ : Env) (d : Nat) (v : Value) : Env := fun t => bif Nat.beq t d then v else ρ t
def put (ρ : Env) : Option Nat → Value → Env
  | some d, v => upd ρ d v
  | none, _ => ρ
def tab (n : Nat) (ρ : Env) : Array Value := (Array.range n).map ρ
def ev (n : Nat) (ρ : Env) : Operand → Value
  | .tmp t => bif Nat.blt t n then ρ t else undef
  | .const v => v
  | .global g => .pointer (some ⟨g, 0, none⟩)
  | .func f => .func (.func f) #[] #[]
theorem beq_f {t d : Nat} (h : ¬ t = d) : Nat.beq t d = false := by
  cases hb : Nat.beq t d with
  | true => exact absurd (Nat.eq_of_beq_eq_true hb) h
  | false => rfl
theorem blt_t {t n : Nat} (h : t < n) : Nat.blt t n = true := Nat.ble_eq_true_of_le h
theorem blt_f {t n : Nat} (h : ¬ t < n) : Nat.blt t n = false := by
  cases hb : Nat.blt t n with
  | true => exact absurd (Nat.le_of_ble_eq_true hb) h
  | false => rfl
theorem upd_same (ρ : Env) (d : Nat) (v : Value) : upd ρ d v d = v := by simp [upd]
theorem YQ (ρ : Env) {d t : Nat} (v : Value) (h : t ≠ d) : upd ρ d v t = ρ t := by
  have : Nat.beq t d = false := beq_f h
  simp [upd, this]
@[simp] theorem tab_size (n : Nat) (ρ : Env) : (tab n ρ).size = n := by simp [tab]
theorem tab_get (n : Nat) (ρ : Env) (t : Nat) : (tab n ρ)[t]? = if t < n then some (ρ t) else none := by
  unfold tab
  by_cases h : t < n
  · simp [h]
  · simp [h]
theorem YF (n : Nat) (ρ : Env) (t : Nat) : (tab n ρ).getD t undef = ev n ρ (.tmp t) := by
  rw [Array.getD_eq_getD_getElem?, tab_get]
  unfold ev
  by_cases h : t < n
  · have : Nat.blt t n = true := blt_t h
    simp [h, this]
  · have : Nat.blt t n = false := blt_f h
    simp [h, this]
theorem tab_set (n : Nat) (ρ : Env) (d : Nat) (v : Value) : (tab n ρ).setIfInBounds d v = tab n (upd ρ d v) := by
  apply Array.ext_getElem?
  intro t
  rw [tab_get, Array.getElem?_setIfInBounds, tab_get]
  by_cases h : t < n
  · by_cases e : d = t
    · subst e; simp [h, upd_same]
    · simp [h, e, YQ _ _ (Ne.symm e)]
  · by_cases e : d = t
    · subst e; simp [h]
    · simp [h, e]
theorem YV (n : Nat) (ρ : Env) (ds : List Deferred) (dst : Option Nat) (v : Value) :
    (⟨tab n ρ, ds⟩ : Act).put dst v = ⟨tab n (put ρ dst v), ds⟩ := by
  cases dst with
  | none => rfl
  | some d => simp [Act.put, put, tab_set]
theorem act_eval (n : Nat) (ρ : Env) (ds : List Deferred) : (⟨tab n ρ, ds⟩ : Act).eval = ev n ρ := by
  funext x
  cases x with
  | tmp t => exact YF n ρ t
  | const v => rfl
  | global g => rfl
  | func f => rfl
def asB : Value → Option Bool
  | .bool b => some b
  | _ => none
def grd (n : Nat) (ρ : Env) (ops : Array Oper) (j : Nat) : Option Bool :=
  match (ops[j]?).bind (·.dst) with
  | some d => asB (ev n ρ (.tmp d))
  | none => none
theorem yielded_eq (n : Nat) (ρ : Env) (ops : Array Oper) (j : Nat) : yielded ops (tab n ρ) j = grd n ρ ops j := by
  unfold yielded grd
  cases (ops[j]?).bind (·.dst) with
  | none => rfl
  | some d =>
    simp only [Option.bind_some, tab_get]
    unfold ev
    by_cases h : d < n
    · have h' : Nat.blt d n = true := blt_t h
      simp only [h, if_true, h', cond_true]
      cases ρ d <;> rfl
    · have h' : Nat.blt d n = false := blt_f h
      simp only [h, if_false, h', cond_false]
      rfl
def envOf : List Value → Nat → Env
  | [], _ => junk
  | v :: l, i => upd (envOf l (i + 1)) i v
theorem envOf_get : ∀ (l : List Value) (i j : Nat), envOf l i (i + j) = (l[j]?).getD undef
  | [], i, j => by simp [envOf, junk]
  | v :: l, i, j => by
    cases j with
    | zero => simp [envOf, upd_same]
    | succ j =>
      rw [envOf, YQ _ _ (by omega), show i + (j + 1) = i + 1 + j by omega, envOf_get l (i + 1) j]
      simp
theorem enter_tab (args : Array Value) (n : Nat) (h : args.size ≤ n) :
    args ++ Array.replicate (n - args.size) undef = tab n (envOf args.toList 0) := by
  apply Array.ext_getElem?
  intro t
  rw [tab_get]
  have hg := envOf_get args.toList 0 t
  rw [Nat.zero_add] at hg
  rw [hg]
  by_cases h1 : t < args.size
  · have h2 : t < n := by omega
    rw [Array.getElem?_append_left h1]
    simp [h1, h2]
  · rw [Array.getElem?_append_right (by omega)]
    by_cases h2 : t < n
    · simp only [h2, if_true]
      rw [Array.getElem?_replicate, if_pos (by omega)]
      simp [h1]
    · simp only [h2, if_false]
      rw [Array.getElem?_replicate, if_neg (by omega)]
def Liv (ρ : Env) : List (Nat × Value) → Prop
  | [] => True
  | (d, v) :: l => ρ d = v ∧ Liv ρ l
def upds (ρ : Env) : List (Nat × Value) → Env
  | [] => ρ
  | (d, v) :: l => upd (upds ρ l) d v
theorem ZD {ρ : Env} : ∀ {l : List (Nat × Value)}, Liv ρ l → ρ = upds ρ l
  | [], _ => rfl
  | (d, v) :: l, h => by
    have ih := ZD h.2
    funext t
    simp only [upds]
    by_cases e : t = d
    · subst e; rw [upd_same]; exact h.1
    · rw [YQ _ _ e, ← ih]
theorem Zt {k : IntKind} {a b : Int} (h : a = b := by omega) : Value.int k a = Value.int k b := by rw [h]
/-! ## Code -/
abbrev Post := Exit → Env → List Deferred → World → Prop
def Fo (ro : Option Nat) : Fence := { Fence.wide with round := ro }
def lift (n : Nat) (Q : Post) : Exit → Act → World → Prop := fun e a w => ∃ ρ, a.tmps = tab n ρ ∧ Q e ρ a.defers w
def W (P : Program) (ro : Option Nat) (n : Nat) (c : Code) (Q : Post) (ρ : Env) (ds : List Deferred) (w : World) : Prop :=
  c.wpIn (Fo ro) 0 P (lift n Q) ⟨tab n ρ, ds⟩ w
def thn (K : Env → List Deferred → World → Prop) (Q : Post) : Post
  | .normal, ρ, ds, w => K ρ ds w
  | e, ρ, ds, w => Q e ρ ds w
def inB (id : Nat) (Q : Post) : Post
  | .exit id', ρ, ds, w => bif Nat.beq id' id then Q .normal ρ ds w else Q (.exit id') ρ ds w
  | e, ρ, ds, w => Q e ρ ds w
theorem fo_room (ro : Option Nat) (k : Nat) : (Fo ro).room k := fun _ h => by simp [Fo, Fence.wide] at h
section
variable {P : Program} {ro : Option Nat} {n : Nat} {Q : Post} {ρ : Env} {ds : List Deferred} {w : World}
theorem W_mono {c : Code} {Q' : Post} (h : W P ro n c Q ρ ds w) (hq : ∀ e ρ ds w, Q e ρ ds w → Q' e ρ ds w) : W P ro n c Q' ρ ds w :=
  wpIn_mono h fun _ _ _ ⟨ρ', h1, h2⟩ => ⟨ρ', h1, hq _ _ _ _ h2⟩
theorem Zi (h : Q .normal ρ ds w) : W P ro n .skip Q ρ ds w := wpIn_skip ⟨ρ, rfl, h⟩
theorem W_label {l : Nat} (h : Q .normal ρ ds w) : W P ro n (.label l) Q ρ ds w := wpIn_label ⟨ρ, rfl, h⟩
theorem ZI {id : Nat} (h : Q (.exit id) ρ ds w) : W P ro n (.exit id) Q ρ ds w := wpIn_exit ⟨ρ, rfl, h⟩
theorem Zn (h : Q .ret ρ ds w) : W P ro n .ret Q ρ ds w := wpIn_ret ⟨ρ, rfl, h⟩
theorem Zz {x y : Code} (h : W P ro n x (thn (W P ro n y Q) Q) ρ ds w) : W P ro n (.seq x y) Q ρ ds w := by
  refine wpIn_seq (wpIn_mono h ?_)
  rintro e ⟨t, d⟩ w' ⟨ρ', h1, h2⟩
  simp only at h1 h2
  subst h1
  cases e <;> first | exact h2 | exact ⟨ρ', rfl, h2⟩
theorem W_cond {c : Operand} {x y : Code} {t : Bool} (hc : ev n ρ c = .bool t) (ht : t = true → W P ro n x Q ρ ds w) (hf : t = false → W P ro n y Q ρ ds w) :
    W P ro n (.cond c x y) Q ρ ds w := by
  have hc' : (⟨tab n ρ, ds⟩ : Act).eval c = .bool t := by rw [act_eval]; exact hc
  exact wpIn_cond_split hc' ht hf
theorem Zp {c : Operand} {x y : Code} (hc : ev n ρ c = .bool true) (h : W P ro n x Q ρ ds w) : W P ro n (.cond c x y) Q ρ ds w :=
  W_cond hc (fun _ => h) (fun e => by cases e)
theorem Zm {c : Operand} {x y : Code} (hc : ev n ρ c = .bool false) (h : W P ro n y Q ρ ds w) : W P ro n (.cond c x y) Q ρ ds w :=
  W_cond hc (fun e => by cases e) (fun _ => h)
theorem Zs {id : Nat} {c : Code} (h : W P ro n c (inB id Q) ρ ds w) : W P ro n (.block id c) Q ρ ds w := by
  refine wpIn_block (wpIn_mono h ?_)
  rintro e ⟨t, d⟩ w' ⟨ρ', h1, h2⟩
  simp only at h1 h2
  subst h1
  cases e with
  | exit id' =>
    simp only [inB] at h2
    simp only [Exit.inBlock]
    by_cases hid : id' = id
    · subst hid; simp at h2; rw [if_pos rfl]; exact ⟨ρ', rfl, h2⟩
    · have hb : Nat.beq id' id = false := beq_f hid
      rw [hb] at h2
      rw [if_neg hid]; exact ⟨ρ', rfl, h2⟩
  | _ => exact ⟨ρ', rfl, h2⟩
theorem ZS {c : Code} (G : Nat → Env → List Deferred → World → Prop) (m0 : Nat) (h0 : G m0 ρ ds w)
    (step : ∀ m ρ ds w, G m ρ ds w → W P ro n c (thn (fun ρ' ds' w' => ∃ m', m' < m ∧ G m' ρ' ds' w') Q) ρ ds w) : W P ro n (.loop c) Q ρ ds w := by
  intro b k cs hro hb hr
  have key : ∀ m ρ ds w, G m ρ ds w →
      ∃ e a' w', lift n Q e a' w' ∧ ArrivesIn (Machine.fenced P (Fo ro)) P (lone (b.atR ⟨tab n ρ, ds⟩ (.code c :: .inLoop c :: k)) cs w) b k cs e a' w' := by
    intro m
    induction m using Nat.strongRecOn with
    | _ m ih =>
      intro ρ ds w hG
      obtain ⟨e, ⟨t, d⟩, w₁, ⟨ρ', h1, h2⟩, harr⟩ := step m ρ ds w hG b (.inLoop c :: k) cs hro hb hr
      simp only at h1 h2
      subst h1
      cases e with
      | normal =>
        obtain ⟨m', hlt, hG'⟩ := h2
        obtain ⟨e₂, a₂, w₂, hq₂, harr₂⟩ := ih m' hlt ρ' d w₁ hG'
        exact ⟨e₂, a₂, w₂, hq₂, .of_steps (StepsIn.trans harr (.one (fenced_calm hb hr rfl) stepR_inLoop)) harr₂⟩
      | exit id => exact ⟨_, ⟨tab n ρ', d⟩, w₁, ⟨ρ', rfl, h2⟩, .pass (x := .inLoop c) rfl (fun _ _ => .inl (by simp)) harr⟩
      | goto l => exact ⟨_, ⟨tab n ρ', d⟩, w₁, ⟨ρ', rfl, h2⟩, .pass (x := .inLoop c) rfl (fun _ _ => .inl (by simp)) harr⟩
      | ret => exact ⟨_, ⟨tab n ρ', d⟩, w₁, ⟨ρ', rfl, h2⟩, .pass (x := .inLoop c) rfl (fun _ _ => .inl (by simp)) harr⟩
      | panic ch => exact ⟨_, ⟨tab n ρ', d⟩, w₁, ⟨ρ', rfl, h2⟩, .pass (x := .inLoop c) rfl (fun _ _ => .inl (by simp)) harr⟩
      | outgrown => exact ⟨_, ⟨tab n ρ', d⟩, w₁, ⟨ρ', rfl, h2⟩, .pass (x := .inLoop c) rfl (fun _ _ => .inl (by simp)) harr⟩
  obtain ⟨e, a', w', hq, harr⟩ := key m0 ρ ds w h0
  exact ⟨e, a', w', hq, .of_steps (.one (fenced_calm hb hr rfl) stepR_loop) harr⟩
end
/-! ## Operations -/
def upon (P : Program) (o : Oper) (K : Env → List Deferred → World → Prop) (Q : Post) (ρ : Env) (ds : List Deferred) : Result Next → Prop
  | .ok (.value v) w' => K (put ρ o.dst v) ds w'
  | .ok .skip w' => K (put ρ o.dst undef) ds w'
  | .ok (.defer d) w' => K (put ρ o.dst undef) (d :: ds) w'
  | .ok (.enter f args) w' => Calls P f args w' fun
      | .returned v, w'' => K (put ρ o.dst v) ds w''
      | .panicked chain, w'' => Q (.panic chain) ρ ds w''
      | .outgrown, _ => False
  | .ok (.round l f tmps assign body) w' => RoundIn Fence.wide 0 P l f tmps assign body w' fun
      | .returned v, w'' => K (put ρ o.dst v) ds w''
      | .panicked chain, w'' => Q (.panic chain) ρ ds w''
      | .outgrown, _ => False
  | .halt (.panic v) w' => Q (.panic [{ v, recovered := false }]) ρ ds w'
  | _ => False
def Wl (P : Program) (ro : Option Nat) (n : Nat) (ops : Array Oper) (Q : Post) : List Oper → Env → List Deferred → World → Prop
  | [], ρ, ds, w => Q .normal ρ ds w
  | o :: rest, ρ, ds, w =>
    if Region.wanted o (grd n ρ ops) then upon P o (Wl P ro n ops Q rest) Q ρ ds ((o.semAt ro (ev n ρ)).run P w)
    else Wl P ro n ops Q rest (put ρ o.dst undef) ds w
theorem roundIn_fo {ro : Option Nat} {P : Program} {l : Nat} {f : FuncId} {tmps : Array Value} {assign body : Code} {w : World} {R : Ending → World → Prop}
    (h : RoundIn Fence.wide 0 P l f tmps assign body w R) : RoundIn (Fo ro) 0 P l f tmps assign body w R :=
  ⟨trivial, fun c cs _ => h.2 c cs (room_wide _)⟩
theorem callsIn_fo {ro : Option Nat} {P : Program} {f : FuncId} {args : Array Value} {w : World} {R : Ending → World → Prop}
    (h : Calls P f args w R) : CallsIn (Fo ro) 0 P f args w R :=
  ⟨trivial, fun cs _ => (callsIn_wide (n := 0)).2 h |>.2 cs (room_wide _)⟩
theorem wpOpsIn_of_Wl {P : Program} {ro : Option Nat} {n : Nat} {ops : Array Oper} {Q : Post} : ∀ (l : List Nat) (os : List Oper),
    (l.map (fun i => ops[i]?) = os.map some) → ∀ (ρ : Env) (ds : List Deferred) (w : World), Wl P ro n ops Q os ρ ds w →
    wpOpsIn (Fo ro) 0 P ops (lift n Q) l ⟨tab n ρ, ds⟩ w
  | [], [], _, ρ, ds, w, h => ⟨ρ, rfl, h⟩
  | [], o :: os, hm, _, _, _, _ => by simp at hm
  | i :: l, [], hm, _, _, _, _ => by simp at hm
  | i :: l, o :: os, hm, ρ, ds, w, h => by
    simp only [List.map_cons, List.cons.injEq] at hm
    obtain ⟨hi, hl⟩ := hm
    have ih := wpOpsIn_of_Wl (P := P) (ro := ro) (n := n) (Q := Q) l os hl
    simp only [wpOpsIn, hi]
    simp only [Wl] at h
    have hy : (yielded ops (tab n ρ)) = grd n ρ ops := funext (yielded_eq n ρ ops)
    rw [hy]
    by_cases hw : Region.wanted o (grd n ρ ops) = true
    · simp only [hw, if_true] at h ⊢
      refine ⟨fun _ _ => trivial, ?_⟩
      rw [act_eval]
      change upon P o (Wl P ro n ops Q os) Q ρ ds ((o.semAt ro (ev n ρ)).run P w) at h
      change o.uponIn (Fo ro) 0 P ⟨tab n ρ, ds⟩ _ _ ((o.semAt ro (ev n ρ)).run P w)
      generalize (o.semAt ro (ev n ρ)).run P w = r at h ⊢
      cases r with
      | ok x w' =>
        cases x <;> simp only [upon] at h <;> first | exact h.elim | skip
        case value v => rw [Oper.uponIn_value, YV]; exact ih _ _ _ h
        case skip => rw [Oper.uponIn_skip, YV]; exact ih _ _ _ h
        case defer d =>
          rw [Oper.uponIn_defer]
          have := YV n ρ (d :: ds) o.dst undef
          simp only at this ⊢
          rw [this]
          exact ih _ _ _ h
        case enter f args =>
          rw [Oper.uponIn_enter]
          refine ⟨fun h => by simp [Fo, Fence.wide] at h, callsIn_fo (h.mono ?_)⟩
          intro e w'' he
          cases e with
          | returned v => simp only at he ⊢; rw [YV]; exact ih _ _ _ he
          | panicked ch => exact ⟨ρ, rfl, he⟩
          | outgrown => exact he.elim
        case round l' f tmps assign body =>
          rw [Oper.uponIn_round]
          refine ⟨fun h => by simp [Fo, Fence.wide] at h, roundIn_fo (h.mono ?_)⟩
          intro e w'' he
          cases e with
          | returned v => simp only at he ⊢; rw [YV]; exact ih _ _ _ he
          | panicked ch => exact ⟨ρ, rfl, he⟩
          | outgrown => exact he.elim
      | halt x w' =>
        cases x <;> simp only [upon] at h <;> first | exact h.elim | skip
        case panic v => rw [Oper.uponIn_panic]; exact ⟨ρ, rfl, h⟩
    · have hw' : Region.wanted o (grd n ρ ops) = false := by simpa using hw
      simp only [hw', Bool.false_eq_true, if_false] at h ⊢
      rw [YV]
      exact ⟨fun _ _ => trivial, ih _ _ _ h⟩
theorem range_map_get (ops : Array Oper) : (List.range ops.size).map (fun i => ops[i]?) = ops.toList.map some := by
  apply List.ext_getElem?
  intro i
  by_cases h : i < ops.size
  · simp [h]
  · simp [h]
section
variable {P : Program} {ro : Option Nat} {n : Nat} {Q : Post} {ρ : Env} {ds : List Deferred} {w : World} {ops : Array Oper}
theorem Zl {id : Nat} (h : Wl P ro n ops Q ops.toList ρ ds w) : W P ro n (.region id ops false) Q ρ ds w :=
  wpIn_region (wpOpsIn_of_Wl _ _ (range_map_get ops) ρ ds w h)
theorem Za (h : Q .normal ρ ds w) : Wl P ro n ops Q [] ρ ds w := h
theorem Wl_run {o : Oper} {rest : List Oper} (hg : Region.wanted o (grd n ρ ops) = true)
    (h : upon P o (Wl P ro n ops Q rest) Q ρ ds ((o.semAt ro (ev n ρ)).run P w)) : Wl P ro n ops Q (o :: rest) ρ ds w := by
  simp only [Wl, hg, if_true]; exact h
theorem Z6 {o : Oper} {rest : List Oper} (hg : Region.wanted o (grd n ρ ops) = false)
    (h : Wl P ro n ops Q rest (put ρ o.dst undef) ds w) : Wl P ro n ops Q (o :: rest) ρ ds w := by
  simp only [Wl, hg, Bool.false_eq_true, if_false]; exact h
theorem Zd {d : Option Tmp} {op : Op} {t : TypeId} {p : String} {e : Array Edge} {j : Nat} {want : Bool} {rest : List Oper}
    (hg : grd n ρ ops j = some want) (h : Wl P ro n ops Q (⟨d, op, t, p, e, none⟩ :: rest) ρ ds w) : Wl P ro n ops Q (⟨d, op, t, p, e, some (j, want)⟩ :: rest) ρ ds w := by
  have h1 : Region.wanted (⟨d, op, t, p, e, some (j, want)⟩ : Oper) (grd n ρ ops) = true := by simp [Region.wanted, hg]
  have h2 : Region.wanted (⟨d, op, t, p, e, none⟩ : Oper) (grd n ρ ops) = true := rfl
  simp only [Wl, h1, h2, if_true] at h ⊢
  exact h
theorem Ze {d : Option Tmp} {op : Op} {t : TypeId} {p : String} {e : Array Edge} {j : Nat} {want : Bool} {rest : List Oper}
    (hg : grd n ρ ops j = some (!want)) (h : Wl P ro n ops Q rest (put ρ d undef) ds w) : Wl P ro n ops Q (⟨d, op, t, p, e, some (j, want)⟩ :: rest) ρ ds w :=
  Z6 (by simp [Region.wanted, hg]) h
theorem Gt {d : Option Tmp} {op : Op} {t : TypeId} {p : String} {e : Array Edge} {j : Nat} {want : Bool} {rest : List Oper} (h : Wl P ro n ops Q (⟨d, op, t, p, e, none⟩ :: rest) ρ ds w) (hg : grd n ρ ops j = some want := by exact rfl) : Wl P ro n ops Q (⟨d, op, t, p, e, some (j, want)⟩ :: rest) ρ ds w := Zd hg h
theorem Gf {d : Option Tmp} {op : Op} {t : TypeId} {p : String} {e : Array Edge} {j : Nat} {want : Bool} {rest : List Oper} (h : Wl P ro n ops Q rest (put ρ d undef) ds w) (hg : grd n ρ ops j = some (!want) := by exact rfl) : Wl P ro n ops Q (⟨d, op, t, p, e, some (j, want)⟩ :: rest) ρ ds w := Ze hg h
theorem Ct {c : Operand} {x y : Code} (h : W P ro n x Q ρ ds w) (hc : ev n ρ c = .bool true := by exact rfl) : W P ro n (.cond c x y) Q ρ ds w := Zp hc h
theorem Cf {c : Operand} {x y : Code} (h : W P ro n y Q ρ ds w) (hc : ev n ρ c = .bool false := by exact rfl) : W P ro n (.cond c x y) Q ρ ds w := Zm hc h
theorem W_if {c : Operand} {x y : Code} {p : Prop} [Decidable p] (hc : ev n ρ c = .bool (decide p)) (ht : p → W P ro n x Q ρ ds w) (hf : ¬ p → W P ro n y Q ρ ds w) :
    W P ro n (.cond c x y) Q ρ ds w :=
  W_cond hc (fun h => ht (of_decide_eq_true h)) (fun h => hf (of_decide_eq_false h))
theorem Zf {d : Option Tmp} {op : Op} {t : TypeId} {p : String} {e : Array Edge} {rest : List Oper} {v : Value} {w' : World}
    (hr : (Oper.semAt ro (ev n ρ) ⟨d, op, t, p, e, none⟩).run P w = .ok (.value v) w') (h : Wl P ro n ops Q rest (put ρ d v) ds w') : Wl P ro n ops Q (⟨d, op, t, p, e, none⟩ :: rest) ρ ds w :=
  Wl_run rfl (by rw [hr]; exact h)
theorem Wl_u {d : Option Tmp} {op : Op} {t : TypeId} {p : String} {e : Array Edge} {rest : List Oper} {w' : World}
    (hr : (Oper.semAt ro (ev n ρ) ⟨d, op, t, p, e, none⟩).run P w = .ok .skip w') (h : Wl P ro n ops Q rest (put ρ d undef) ds w') : Wl P ro n ops Q (⟨d, op, t, p, e, none⟩ :: rest) ρ ds w :=
  Wl_run rfl (by rw [hr]; exact h)
theorem Zj {d : Option Tmp} {c : Call} {t : TypeId} {p : String} {e : Array Edge} {rest : List Oper} {f : FuncId} {args : Array Value} {R : Value → World → Prop}
    (hr : (Oper.semAt ro (ev n ρ) ⟨d, .call c, t, p, e, none⟩).run P w = .ok (.enter f args) w)
    (hc : Calls P f args w (fun e w' => ∃ v, e = .returned v ∧ R v w'))
    (h : ∀ v w', R v w' → Wl P ro n ops Q rest (put ρ d v) ds w') : Wl P ro n ops Q (⟨d, .call c, t, p, e, none⟩ :: rest) ρ ds w := by
  refine Wl_run rfl ?_
  rw [hr]
  refine hc.mono ?_
  rintro e w' ⟨v, rfl, hR⟩
  exact h v w' hR
end
end Go.Fw
namespace Go.Fw
structure Upd (S : Nat → Prop) (w w' : World) : Prop where
  os : w'.os = w.os
  tape : w'.tape = w.tape
  output : w'.output = w.output
  size : w.heap.size ≤ w'.heap.size
  block : ∀ b, b < w.heap.size → ¬ S b → w'.heap[b]? = w.heap[b]?
abbrev No : Nat → Prop := fun _ => False
abbrev Is (b : Nat) : Nat → Prop := fun x => x = b
theorem Upd.refl (S : Nat → Prop) (w : World) : Upd S w w := ⟨rfl, rfl, rfl, Nat.le_refl _, fun _ _ _ => rfl⟩
theorem Upd.trans {S T : Nat → Prop} {a b c : World} (h : Upd S a b) (k : Upd T b c) (hT : ∀ x, T x → S x ∨ a.heap.size ≤ x := by intro _ _; omega) : Upd S a c :=
  ⟨k.os.trans h.os, k.tape.trans h.tape, k.output.trans h.output, Nat.le_trans h.size k.size, fun i hi hs =>
    (k.block i (Nat.lt_of_lt_of_le hi h.size) (fun ht => (hT i ht).elim hs (fun hle => absurd hi (by omega)))).trans (h.block i hi hs)⟩
theorem Upd.Zb {S : Nat → Prop} {a b c : World} (h : Upd S a b) (k : Upd No b c) : Upd S a c := h.trans k fun _ h => h.elim
theorem Upd.Zr {S : Nat → Prop} {a b c : World} {x : Nat} (h : Upd S a b) (k : Upd (Is x) b c) (hx : S x ∨ a.heap.size ≤ x := by omega) : Upd S a c :=
  h.trans k fun y hy => by cases hy; exact hx
theorem Upd.Yo (w : World) : Upd No w w := Upd.refl No w
theorem Upd.t1 {a b c : World} {x : Nat} (h : Upd No a b) (k : Upd (Is x) b c) (hx : a.heap.size ≤ x := by omega) : Upd No a c := h.Zr k (.inr hx)
theorem Upd.mono {S T : Nat → Prop} {a b : World} (h : Upd S a b) (hT : ∀ x, S x → x < a.heap.size → T x) : Upd T a b :=
  ⟨h.os, h.tape, h.output, h.size, fun i hi ht => h.block i hi fun hs => ht (hT i hs hi)⟩
theorem Upd.below {w w' : World} (h : Upd No w w') : RowKit.Below w.heap.size w w' := ⟨h.os, h.tape, h.output, h.size, fun k hk => h.block k hk (fun h => h)⟩
theorem Y4 (w : World) (o : Obj) : Upd No w (w.alloc o) := ⟨rfl, rfl, rfl, by simp, fun k hk _ => RowKit.Below.heap_alloc w o k hk⟩
theorem upd_setCell (w : World) (a : Addr) (v : Value) : Upd (Is a.block) w (w.setCell a v) :=
  ⟨rfl, rfl, rfl, by simp, fun k _ hk => RowKit.Below.heap_setCell w a v k (fun e => hk e)⟩
theorem upd_putObj (w : World) (r : Nat) (o : Obj) : Upd (Is r) w (w.putObj r o) :=
  ⟨rfl, rfl, rfl, by simp, fun _ _ hk => World.putObj_heap_other (fun e => hk e)⟩
theorem Upd.keep {S : Nat → Prop} {w w' : World} (h : Upd S w w') {b : Nat} {o : Obj} (hb : w.heap[b]? = some o) (hs : ¬ S b) : w'.heap[b]? = some o := by
  rw [h.block b (Array.getElem?_eq_some_iff.1 hb).1 hs]; exact hb
def Blk (w : World) (b : Nat) (cs : List Value) : Prop := ∃ t, w.heap[b]? = some (.cells cs.toArray t (0, 0))
theorem Blk.upd {w w' : World} {b : Nat} {cs : List Value} {S : Nat → Prop} (h : Blk w b cs) (hu : Upd S w w') (hs : ¬ S b := by intro _; omega) : Blk w' b cs :=
  let ⟨t, ht⟩ := h; ⟨t, hu.keep ht hs⟩
theorem Blk.Zc {w w' : World} {b : Nat} {cs : List Value} (h : Blk w b cs) (hu : Upd No w w') : Blk w' b cs := h.upd hu fun h => h
theorem Blk.Zh {w w' : World} {b x : Nat} {cs : List Value} (h : Blk w b cs) (hu : Upd (Is x) w w') (hx : b ≠ x := by omega) : Blk w' b cs := h.upd hu fun h => hx h
theorem Blk.lt {w : World} {b : Nat} {cs : List Value} (h : Blk w b cs) : b < w.heap.size := let ⟨_, ht⟩ := h; (Array.getElem?_eq_some_iff.1 ht).1
theorem Blk.cell {w : World} {b : Nat} {cs : List Value} (h : Blk w b cs) (i : Nat) : w.cell? ⟨b, i, none⟩ = cs[i]? := by
  obtain ⟨t, ht⟩ := h
  simp [World.cell?, ht]
theorem Blk.frozen {w : World} {b : Nat} {cs : List Value} (h : Blk w b cs) (i : Nat) : w.frozen? ⟨b, i, none⟩ = false := by
  obtain ⟨t, ht⟩ := h
  simp [World.frozen?, ht]
theorem blk_alloc (w : World) (cs : List Value) (t : TypeId) : Blk (w.alloc (.cells cs.toArray t)) w.heap.size cs := ⟨t, World.alloc_heap_new w _⟩
theorem Blk.set {w : World} {b : Nat} {cs : List Value} (h : Blk w b cs) (i : Nat) (v : Value) : Blk (w.setCell ⟨b, i, none⟩ v) b (cs.set i v) := by
  obtain ⟨t, ht⟩ := h
  refine ⟨t, ?_⟩
  simp [World.setCell, Array.getElem?_modify, ht]
abbrev Ge (lo : Nat) : Nat → Prop := fun g => lo ≤ g
def Sl (w : World) (R : Nat → Prop) (sz : Nat) (v : Value) (n : Nat) (cs : List Value) : Prop :=
  cs.length = n * sz ∧ ∃ a cap, v = .slice a n cap ∧ n ≤ cap ∧ cap ≤ maxLen ∧
    (n = 0 ∨ ∃ b off c t f, a = some ⟨b, off, none⟩ ∧ R b ∧ w.heap[b]? = some (.cells c t f) ∧ ∀ i, i < n * sz → c[off + i]? = cs[i]?)
theorem Sl.upd {w w' : World} {R : Nat → Prop} {sz n : Nat} {v : Value} {cs : List Value} {S : Nat → Prop} (h : Sl w R sz v n cs) (hu : Upd S w w') (hs : ∀ x, R x → ¬ S x := by intro _ _; omega) :
    Sl w' R sz v n cs := by
  obtain ⟨h1, a, cap, h2, h3, h4, h5⟩ := h
  refine ⟨h1, a, cap, h2, h3, h4, h5.imp id ?_⟩
  rintro ⟨b, off, c, t, f, e1, e2, e4, e5⟩
  exact ⟨b, off, c, t, f, e1, e2, hu.keep e4 (hs b e2), e5⟩
theorem Sl.Zc {w w' : World} {R : Nat → Prop} {sz n : Nat} {v : Value} {cs : List Value} (h : Sl w R sz v n cs) (hu : Upd No w w') : Sl w' R sz v n cs := h.upd hu fun _ _ h => h
theorem Sl.Zh {w w' : World} {R : Nat → Prop} {sz n x : Nat} {v : Value} {cs : List Value} (h : Sl w R sz v n cs) (hu : Upd (Is x) w w') (hx : ¬ R x := by omega) : Sl w' R sz v n cs :=
  h.upd hu fun y h1 h3 => by cases h3; exact hx h1
theorem Sl.weak {w : World} {R R' : Nat → Prop} {sz n : Nat} {v : Value} {cs : List Value} (h : Sl w R sz v n cs) (hR : ∀ g, R g → R' g := by intro _ _; omega) : Sl w R' sz v n cs := by
  obtain ⟨e1, a, cap, e2, e3, e4, e5⟩ := h
  refine ⟨e1, a, cap, e2, e3, e4, e5.imp id ?_⟩
  rintro ⟨b, off, c, t, f, k1, k2, k4, k5⟩
  exact ⟨b, off, c, t, f, k1, hR b k2, k4, k5⟩
theorem Sl.tight {w : World} {R : Nat → Prop} {sz n : Nat} {v : Value} {cs : List Value} (h : Sl w R sz v n cs) : Sl w (fun g => R g ∧ g < w.heap.size) sz v n cs := by
  obtain ⟨e1, a, cap, e2, e3, e4, e5⟩ := h
  refine ⟨e1, a, cap, e2, e3, e4, e5.imp id ?_⟩
  rintro ⟨b, off, c, t, f, k1, k2, k4, k5⟩
  exact ⟨b, off, c, t, f, k1, ⟨k2, (Array.getElem?_eq_some_iff.1 k4).1⟩, k4, k5⟩
theorem Sl.any {w : World} {R : Nat → Prop} {sz n : Nat} {v : Value} {cs : List Value} (h : Sl w R sz v n cs) : Sl w (fun g => g < w.heap.size) sz v n cs := h.tight.weak fun _ h => h.2
theorem Sl.len {w : World} {R : Nat → Prop} {sz n : Nat} {v : Value} {cs : List Value} (h : Sl w R sz v n cs) : cs.length = n * sz := h.1
theorem Sl.cap {w : World} {R : Nat → Prop} {sz n c : Nat} {a : Option Addr} {cs : List Value} (h : Sl w R sz (.slice a n c) n cs) : n ≤ c ∧ c ≤ maxLen := by
  obtain ⟨_, a', cap, h2, h3, h4, _⟩ := h
  simp only [Value.slice.injEq] at h2
  obtain ⟨_, _, rfl⟩ := h2
  exact ⟨h3, h4⟩
theorem Sl.nil (w : World) (R : Nat → Prop) (sz : Nat) : Sl w R sz (.slice none 0 0) 0 [] := ⟨by simp, none, 0, rfl, Nat.le_refl _, Nat.zero_le _, .inl rfl⟩
theorem Sl.at {w : World} {R : Nat → Prop} {sz n : Nat} {a : Option Addr} {c : Nat} {cs : List Value} (h : Sl w R sz (.slice a n c) n cs) {i : Nat} (hi : i < n) :
    ∃ b off, a = some ⟨b, off, none⟩ ∧ ∀ j, j < sz → w.cell? ⟨b, off + i * sz + j, none⟩ = cs[i * sz + j]? := by
  obtain ⟨_, a', cap, h2, h3, _, h5⟩ := h
  simp only [Value.slice.injEq] at h2
  obtain ⟨rfl, _, rfl⟩ := h2
  rcases h5 with h5 | ⟨b, off, c, t, f, rfl, _, hb, hc⟩
  · omega
  · refine ⟨b, off, rfl, fun j hj => ?_⟩
    have hlt : i * sz + j < n * sz := by
      have : (i + 1) * sz ≤ n * sz := Nat.mul_le_mul_right _ hi
      rw [Nat.add_mul] at this
      omega
    have := hc (i * sz + j) hlt
    simp only [World.cell?, hb, Option.isSome_none, Bool.false_eq_true, if_false]
    rw [← this, Nat.add_assoc]
def Own (w : World) (R : Nat → Prop) (e : TypeId) (sz : Nat) (v : Value) (n : Nat) (cs : List Value) : Prop :=
  w.ownsRow 0 e sz v n cs ∧ ∀ k, v.ownBlock = some k → R k
theorem Own.upd {w w' : World} {R : Nat → Prop} {sz n : Nat} {e : TypeId} {v : Value} {cs : List Value} {S : Nat → Prop} (h : Own w R e sz v n cs) (hu : Upd S w w') (hs : ∀ x, R x → ¬ S x := by intro _ _; omega) :
    Own w' R e sz v n cs := by
  obtain ⟨⟨h1, h2⟩, h3⟩ := h
  refine ⟨⟨h1, h2.imp id ?_⟩, h3⟩
  rintro ⟨g, cap, cur, rfl, hb, hg, r⟩
  exact ⟨g, cap, cur, rfl, hb, hu.keep hg (hs g (h3 g rfl)), r⟩
theorem Own.Zc {w w' : World} {R : Nat → Prop} {sz n : Nat} {e : TypeId} {v : Value} {cs : List Value} (h : Own w R e sz v n cs) (hu : Upd No w w') : Own w' R e sz v n cs := h.upd hu fun _ _ h => h
theorem Own.Zh {w w' : World} {R : Nat → Prop} {sz n x : Nat} {e : TypeId} {v : Value} {cs : List Value} (h : Own w R e sz v n cs) (hu : Upd (Is x) w w') (hx : ¬ R x := by omega) : Own w' R e sz v n cs :=
  h.upd hu fun y h1 h3 => by cases h3; exact hx h1
theorem Own.nil (w : World) (R : Nat → Prop) (e : TypeId) (sz : Nat) : Own w R e sz (.slice none 0 0) 0 [] := ⟨World.ownsRow_nil w 0 e sz, fun k h => by simp [Value.ownBlock] at h⟩
theorem Own.weak {w : World} {R R' : Nat → Prop} {sz n : Nat} {e : TypeId} {v : Value} {cs : List Value} (h : Own w R e sz v n cs) (hR : ∀ g, R g → R' g := by intro _ _; omega) : Own w R' e sz v n cs :=
  ⟨h.1, fun k hk => hR k (h.2 k hk)⟩
theorem Own.tight {w : World} {R : Nat → Prop} {sz n : Nat} {e : TypeId} {v : Value} {cs : List Value} (h : Own w R e sz v n cs) : Own w (fun g => R g ∧ g < w.heap.size) e sz v n cs :=
  ⟨h.1, fun k hk => ⟨h.2 k hk, (h.1.lt k hk).2⟩⟩
theorem Own.len {w : World} {R : Nat → Prop} {sz n : Nat} {e : TypeId} {v : Value} {cs : List Value} (h : Own w R e sz v n cs) : cs.length = n * sz := h.1.1
theorem Own.sl {w : World} {R : Nat → Prop} {sz n : Nat} {e : TypeId} {v : Value} {cs : List Value} (h : Own w R e sz v n cs) : Sl w R sz v n cs := by
  obtain ⟨⟨h1, h2⟩, h3⟩ := h
  refine ⟨h1, ?_⟩
  rcases h2 with ⟨rfl, rfl⟩ | ⟨g, cap, cur, rfl, hb, hg, hnc, hcm, hcs, htake⟩
  · exact ⟨none, 0, rfl, Nat.le_refl _, Nat.zero_le _, .inl rfl⟩
  · refine ⟨_, cap, rfl, hnc, hcm, .inr ⟨g, 0, cur, e, (0, 0), rfl, h3 g rfl, hg, fun i hi => ?_⟩⟩
    rw [← htake, Nat.zero_add, List.getElem?_take, if_pos hi]
    simp
abbrev ints (k : IntKind) (l : List Int) : List Value := l.map (Value.int k)
theorem one_ints {k : IntKind} {l : List Int} : ∀ u ∈ ints k l, u.oneCell' = true := by
  intro u hu
  obtain ⟨n, _, rfl⟩ := List.mem_map.1 hu
  rfl
def Byt (l : List Int) : Prop := ∀ x ∈ l, 0 ≤ x ∧ x < 256
theorem byt_inj : ∀ {xs ys : List Int}, Byt xs → Byt ys → (xs.map fun n => UInt8.ofNat n.toNat) = (ys.map fun n => UInt8.ofNat n.toNat) → xs = ys
  | [], [], _, _, _ => rfl
  | [], _ :: _, _, _, h => by simp at h
  | _ :: _, [], _, _, h => by simp at h
  | x :: xs, y :: ys, hx, hy, h => by
    simp only [List.map_cons, List.cons.injEq] at h
    have h1 := hx x (by simp)
    have h2 := hy y (by simp)
    have e := congrArg UInt8.toNat h.1
    simp only [UInt8.toNat_ofNat'] at e
    have : x = y := by omega
    rw [this, byt_inj (fun z hz => hx z (List.mem_cons_of_mem _ hz)) (fun z hz => hy z (List.mem_cons_of_mem _ hz)) h.2]
theorem str_eq {xs ys : List Int} (hx : Byt xs) (hy : Byt ys) : ((strOfNums xs).toList == (strOfNums ys).toList) = decide (xs = ys) := by
  rw [ByteArray.toList_eq, ByteArray.toList_eq, strOfNums_data, strOfNums_data]
  by_cases h : xs = ys
  · subst h; simp
  · rw [decide_eq_false h]
    cases hb : (xs.map fun n => UInt8.ofNat n.toNat) == (ys.map fun n => UInt8.ofNat n.toNat) with
    | false => rfl
    | true => exact absurd (byt_inj hx hy (eq_of_beq hb)) h
theorem Byt.append {xs ys : List Int} (h : Byt xs) (k : Byt ys) : Byt (xs ++ ys) := fun x hx => (List.mem_append.1 hx).elim (h x) (k x)
theorem Byt.drop {xs : List Int} (h : Byt xs) (n : Nat) : Byt (xs.drop n) := fun x hx => h x (List.mem_of_mem_drop hx)
theorem Byt.take {xs : List Int} (h : Byt xs) (n : Nat) : Byt (xs.take n) := fun x hx => h x (List.mem_of_mem_take hx)
theorem Byt.getD {xs : List Int} (h : Byt xs) (i : Nat) : 0 ≤ xs.getD i 0 ∧ xs.getD i 0 < 256 := by
  by_cases hi : i < xs.length
  · have := h (xs.getD i 0) (by rw [List.getD_eq_getElem?_getD, List.getElem?_eq_getElem hi]; simp)
    exact this
  · rw [List.getD_eq_getElem?_getD, List.getElem?_eq_none (by omega)]; simp
theorem Sl.none_len {w : World} {R : Nat → Prop} {sz n c : Nat} {cs : List Value} (h : Sl w R sz (.slice none n c) n cs) : n = 0 ∧ cs = [] := by
  obtain ⟨h1, a, cap, h2, _, _, h5⟩ := h
  simp only [Value.slice.injEq] at h2
  obtain ⟨rfl, _, rfl⟩ := h2
  have hn : n = 0 := by
    rcases h5 with h5 | ⟨b, off, c, t, f, h6, _⟩
    · exact h5
    · cases h6
  subst hn
  exact ⟨rfl, List.eq_nil_of_length_eq_zero (by simpa using h1)⟩
theorem Sl.atR {w : World} {R : Nat → Prop} {sz n : Nat} {a : Option Addr} {c : Nat} {cs : List Value} (h : Sl w R sz (.slice a n c) n cs) {i : Nat} (hi : i < n) :
    ∃ b off, a = some ⟨b, off, none⟩ ∧ R b ∧ ∀ j, j < sz → w.cell? ⟨b, off + i * sz + j, none⟩ = cs[i * sz + j]? := by
  obtain ⟨_, a', cap, h2, h3, _, h5⟩ := h
  simp only [Value.slice.injEq] at h2
  obtain ⟨rfl, _, rfl⟩ := h2
  rcases h5 with h5 | ⟨b, off, c, t, f, rfl, hR, hb, hc⟩
  · omega
  · refine ⟨b, off, rfl, hR, fun j hj => ?_⟩
    have hlt : i * sz + j < n * sz := by
      have : (i + 1) * sz ≤ n * sz := Nat.mul_le_mul_right _ hi
      rw [Nat.add_mul] at this
      omega
    have := hc (i * sz + j) hlt
    simp only [World.cell?, hb, Option.isSome_none, Bool.false_eq_true, if_false]
    rw [← this, Nat.add_assoc]
theorem Sl.iat {w : World} {R : Nat → Prop} {n : Nat} {a : Option Addr} {c : Nat} {K : IntKind} {l : List Int} (h : Sl w R 1 (.slice a n c) n (ints K l)) {i : Nat} (hi : i < n) :
    ∃ b off, a = some ⟨b, off, none⟩ ∧ R b ∧ w.cell? ⟨b, off + i, none⟩ = some (.int K (l.getD i 0)) := by
  obtain ⟨b, off, ha, hR, hc⟩ := h.atR hi
  refine ⟨b, off, ha, hR, ?_⟩
  have hl : l.length = n := by simpa [ints] using h.1
  have := hc 0 (by omega)
  rw [Nat.mul_one, Nat.add_zero, Nat.add_zero] at this
  rw [this, ints, List.getElem?_map, List.getD_eq_getElem?_getD, List.getElem?_eq_getElem (by omega)]; rfl
theorem Sl.cur {w : World} {R : Nat → Prop} {sz n : Nat} {v : Value} {cs : List Value} {pb : Nat} (h : Sl w R sz v n cs) (hR : ¬ R pb) : Sl w (fun g => g < w.heap.size ∧ g ≠ pb) sz v n cs :=
  h.tight.weak fun _ hg => ⟨hg.2, fun e => hR (e ▸ hg.1)⟩
end Go.Fw
namespace Go.Fw
section wraps
theorem ZY {x : Int} (h1 : -9223372036854775808 ≤ x := by omega) (h2 : x ≤ 9223372036854775807 := by omega) : IntKind.i64.wrap x = x := by
  have e1 : (2 ^ IntKind.i64.bits : Int) = 18446744073709551616 := by decide
  have e2 : (2 ^ (IntKind.i64.bits - 1) : Int) = 9223372036854775808 := by decide
  simp only [IntKind.wrap, e1, e2, IntKind.signed, Bool.true_and, decide_eq_true_eq]
  split <;> omega
theorem mu8 (x : Int) : IntKind.u8.wrap x = x % 256 := by
  have e1 : (2 ^ IntKind.u8.bits : Int) = 256 := by decide
  simp [IntKind.wrap, e1, IntKind.signed]
theorem mu32 (x : Int) : IntKind.u32.wrap x = x % 4294967296 := by
  have e1 : (2 ^ IntKind.u32.bits : Int) = 4294967296 := by decide
  simp [IntKind.wrap, e1, IntKind.signed]
theorem mu64 (x : Int) : IntKind.u64.wrap x = x % 18446744073709551616 := by
  have e1 : (2 ^ IntKind.u64.bits : Int) = 18446744073709551616 := by decide
  simp [IntKind.wrap, e1, IntKind.signed]
theorem wu8 {x : Int} (h1 : 0 ≤ x) (h2 : x < 256) : IntKind.u8.wrap x = x := by rw [mu8]; omega
theorem wu32 {x : Int} (h1 : 0 ≤ x) (h2 : x < 4294967296) : IntKind.u32.wrap x = x := by rw [mu32]; omega
theorem wu64 {x : Int} (h1 : 0 ≤ x) (h2 : x < 18446744073709551616) : IntKind.u64.wrap x = x := by rw [mu64]; omega
theorem tq {k : IntKind} {a b : Int} (h0 : 0 ≤ a) (hw : k.wrap (a / b) = a / b) : k.wrap (a.tdiv b) = a / b := by rw [Int.tdiv_eq_ediv_of_nonneg h0]; exact hw
theorem tr {a b : Int} (h0 : 0 ≤ a) : a.tmod b = a % b := Int.tmod_eq_emod_of_nonneg h0
end wraps
section vals
variable {P : Program} {ro : Option Nat} {w : World} {ρ : Operand → Value} {d : Option Tmp} {t : TypeId} {p : String} {e : Array Edge} {g : Option (Nat × Bool)}
theorem ZT {op : Op} (h : ∀ c, op ≠ .defer c) : Oper.semAt ro ρ ⟨d, op, t, p, e, g⟩ = execOp ρ ⟨d, op, t, p, e, g⟩ := Oper.semAt_eq ro ρ _ h
theorem r_mv {x : Operand} {v : Value} (h : ρ x = v) : (Oper.semAt ro ρ ⟨d, .move x, t, p, e, g⟩).run P w = .ok (.value v) w := by
  rw [ZT (by simp)]; simp [execOp, h]
theorem r_as {x : Operand} {v : Value} (h : ρ x = v) : (Oper.semAt ro ρ ⟨d, .assign x, t, p, e, g⟩).run P w = .ok (.value v) w := by
  rw [ZT (by simp)]; simp [execOp, h]
theorem Zx {c a b : Operand} {v : Value} (hc : ρ c = .bool true) (h : ρ a = v) : (Oper.semAt ro ρ ⟨d, .pick c a b, t, p, e, g⟩).run P w = .ok (.value v) w := by
  rw [ZT (by simp)]; simp [execOp, hc, asBool, h]
theorem Zw {c a b : Operand} {v : Value} (hc : ρ c = .bool false) (h : ρ b = v) : (Oper.semAt ro ρ ⟨d, .pick c a b, t, p, e, g⟩).run P w = .ok (.value v) w := by
  rw [ZT (by simp)]; simp [execOp, hc, asBool, h]
theorem r_ext {x : Operand} {i : Nat} {vs : Array Value} {v : Value} (h : ρ x = .tuple vs) (hv : vs[i]? = some v) :
    (Oper.semAt ro ρ ⟨d, .extract x i, t, p, e, g⟩).run P w = .ok (.value v) w := by
  rw [ZT (by simp)]; simp [execOp, Instr.extract, h, hv]
theorem Ys {op : BinOp} {xt : TypeId} {x y : Operand} {k k' : IntKind} {a b : Int} : (eqGuard op xt x y (.int k a) (.int k' b)).run P w = .ok () w := by
  unfold eqGuard; split <;> rfl
theorem Yf {xt yt : TypeId} {x y : Operand} {k : IntKind} {a b c : Int} (hx : ρ x = .int k a) (hy : ρ y = .int k b) (hc : k.wrap (a + b) = c) :
    (Oper.semAt ro ρ ⟨d, .binOp .add xt x y yt, t, p, e, g⟩).run P w = .ok (.value (.int k c)) w := by
  rw [ZT (by simp)]; simp [execOp, hx, hy, Ys, binOp, Op.intArith, hc]
theorem Y7 {xt yt : TypeId} {x y : Operand} {k : IntKind} {a b c : Int} (hx : ρ x = .int k a) (hy : ρ y = .int k b) (hc : k.wrap (a - b) = c) :
    (Oper.semAt ro ρ ⟨d, .binOp .sub xt x y yt, t, p, e, g⟩).run P w = .ok (.value (.int k c)) w := by
  rw [ZT (by simp)]; simp [execOp, hx, hy, Ys, binOp, Op.intArith, hc]
theorem YM {xt yt : TypeId} {x y : Operand} {k : IntKind} {a b c : Int} (hx : ρ x = .int k a) (hy : ρ y = .int k b) (hc : k.wrap (a * b) = c) :
    (Oper.semAt ro ρ ⟨d, .binOp .mul xt x y yt, t, p, e, g⟩).run P w = .ok (.value (.int k c)) w := by
  rw [ZT (by simp)]; simp [execOp, hx, hy, Ys, binOp, Op.intArith, hc]
theorem YT {xt yt : TypeId} {x y : Operand} {k : IntKind} {a b c : Int} (hx : ρ x = .int k a) (hy : ρ y = .int k b) (hb : b ≠ 0) (hc : k.wrap (a.tdiv b) = c) :
    (Oper.semAt ro ρ ⟨d, .binOp .quo xt x y yt, t, p, e, g⟩).run P w = .ok (.value (.int k c)) w := by
  rw [ZT (by simp)]; simp [execOp, hx, hy, Ys, binOp, Op.intDiv, hb, hc]
theorem YW {xt yt : TypeId} {x y : Operand} {k : IntKind} {a b c : Int} (hx : ρ x = .int k a) (hy : ρ y = .int k b) (hb : b ≠ 0) (hc : a.tmod b = c) :
    (Oper.semAt ro ρ ⟨d, .binOp .rem xt x y yt, t, p, e, g⟩).run P w = .ok (.value (.int k c)) w := by
  rw [ZT (by simp)]; simp [execOp, hx, hy, Ys, binOp, Op.intDiv, hb, hc]
theorem r_and {xt yt : TypeId} {x y : Operand} {k : IntKind} {a b c : Int} (hx : ρ x = .int k a) (hy : ρ y = .int k b) (hc : k.wrap (((a % 2 ^ k.bits).toNat &&& (b % 2 ^ k.bits).toNat : Nat) : Int) = c) :
    (Oper.semAt ro ρ ⟨d, .binOp .and xt x y yt, t, p, e, g⟩).run P w = .ok (.value (.int k c)) w := by
  rw [ZT (by simp)]; simp [execOp, hx, hy, Ys, binOp, Op.intBits, hc]
theorem r_or {xt yt : TypeId} {x y : Operand} {k : IntKind} {a b c : Int} (hx : ρ x = .int k a) (hy : ρ y = .int k b) (hc : k.wrap (((a % 2 ^ k.bits).toNat ||| (b % 2 ^ k.bits).toNat : Nat) : Int) = c) :
    (Oper.semAt ro ρ ⟨d, .binOp .or xt x y yt, t, p, e, g⟩).run P w = .ok (.value (.int k c)) w := by
  rw [ZT (by simp)]; simp [execOp, hx, hy, Ys, binOp, Op.intBits, hc]
theorem r_xor {xt yt : TypeId} {x y : Operand} {k : IntKind} {a b c : Int} (hx : ρ x = .int k a) (hy : ρ y = .int k b) (hc : k.wrap (((a % 2 ^ k.bits).toNat ^^^ (b % 2 ^ k.bits).toNat : Nat) : Int) = c) :
    (Oper.semAt ro ρ ⟨d, .binOp .xor xt x y yt, t, p, e, g⟩).run P w = .ok (.value (.int k c)) w := by
  rw [ZT (by simp)]; simp [execOp, hx, hy, Ys, binOp, Op.intBits, hc]
theorem r_shl {xt yt : TypeId} {x y : Operand} {k k' : IntKind} {a b c : Int} (hx : ρ x = .int k a) (hy : ρ y = .int k' b) (hb : 0 ≤ b) (hc : k.wrap (a * 2 ^ (min b.toNat k.bits)) = c) :
    (Oper.semAt ro ρ ⟨d, .binOp .shl xt x y yt, t, p, e, g⟩).run P w = .ok (.value (.int k c)) w := by
  have hb' : ¬ b < 0 := by omega
  rw [ZT (by simp)]; simp [execOp, hx, hy, Ys, binOp, Op.shift, hb', hc]
theorem r_shr {xt yt : TypeId} {x y : Operand} {k k' : IntKind} {a b c : Int} (hx : ρ x = .int k a) (hy : ρ y = .int k' b) (hb : 0 ≤ b) (hc : a / 2 ^ (min b.toNat k.bits) = c) :
    (Oper.semAt ro ρ ⟨d, .binOp .shr xt x y yt, t, p, e, g⟩).run P w = .ok (.value (.int k c)) w := by
  have hb' : ¬ b < 0 := by omega
  have : a.fdiv (2 ^ (min b.toNat k.bits)) = c := by rw [← hc]; exact Int.fdiv_eq_ediv_of_nonneg _ (Int.le_of_lt (Int.pow_pos (by decide)))
  rw [ZT (by simp)]; simp [execOp, hx, hy, Ys, binOp, Op.shift, hb', this]
theorem YK {xt yt : TypeId} {x y : Operand} {k : IntKind} {a b : Int} (hx : ρ x = .int k a) (hy : ρ y = .int k b) :
    (Oper.semAt ro ρ ⟨d, .binOp .eql xt x y yt, t, p, e, g⟩).run P w = .ok (.value (.bool (decide (a = b)))) w := by
  rw [ZT (by simp)]; simp [execOp, hx, hy, Ys, binOp, Op.intCmp]; rfl
theorem Yh {xt yt : TypeId} {x y : Operand} {k : IntKind} {a b : Int} (hx : ρ x = .int k a) (hy : ρ y = .int k b) :
    (Oper.semAt ro ρ ⟨d, .binOp .neq xt x y yt, t, p, e, g⟩).run P w = .ok (.value (.bool (decide (a ≠ b)))) w := by
  rw [ZT (by simp)]; simp [execOp, hx, hy, Ys, binOp, Op.intCmp, bne]; rfl
theorem YL {xt yt : TypeId} {x y : Operand} {k : IntKind} {a b : Int} (hx : ρ x = .int k a) (hy : ρ y = .int k b) :
    (Oper.semAt ro ρ ⟨d, .binOp .lss xt x y yt, t, p, e, g⟩).run P w = .ok (.value (.bool (decide (a < b)))) w := by
  rw [ZT (by simp)]; simp [execOp, hx, hy, Ys, binOp, Op.intCmp]
theorem r_le {xt yt : TypeId} {x y : Operand} {k : IntKind} {a b : Int} (hx : ρ x = .int k a) (hy : ρ y = .int k b) :
    (Oper.semAt ro ρ ⟨d, .binOp .leq xt x y yt, t, p, e, g⟩).run P w = .ok (.value (.bool (decide (a ≤ b)))) w := by
  rw [ZT (by simp)]; simp [execOp, hx, hy, Ys, binOp, Op.intCmp]
theorem r_gt {xt yt : TypeId} {x y : Operand} {k : IntKind} {a b : Int} (hx : ρ x = .int k a) (hy : ρ y = .int k b) :
    (Oper.semAt ro ρ ⟨d, .binOp .gtr xt x y yt, t, p, e, g⟩).run P w = .ok (.value (.bool (decide (b < a)))) w := by
  rw [ZT (by simp)]; simp [execOp, hx, hy, Ys, binOp, Op.intCmp]
theorem r_ge {xt yt : TypeId} {x y : Operand} {k : IntKind} {a b : Int} (hx : ρ x = .int k a) (hy : ρ y = .int k b) :
    (Oper.semAt ro ρ ⟨d, .binOp .geq xt x y yt, t, p, e, g⟩).run P w = .ok (.value (.bool (decide (b ≤ a)))) w := by
  rw [ZT (by simp)]; simp [execOp, hx, hy, Ys, binOp, Op.intCmp]
theorem YX {xt : TypeId} {x : Operand} {b : Bool} (hx : ρ x = .bool b) : (Oper.semAt ro ρ ⟨d, .unOp .not xt x, t, p, e, g⟩).run P w = .ok (.value (.bool (!b))) w := by
  rw [ZT (by simp)]; simp [execOp, hx, Op.unary]
theorem ZZ {src dst : TypeId} {x : Operand} {us : TypeDesc} {k k' : IntKind} {a c : Int} (hs : P.underlying src = some us) (hd : P.underlying dst = some (.int k)) (hx : ρ x = .int k' a) (hc : k.wrap a = c) :
    (Oper.semAt ro ρ ⟨d, .convert src dst x, t, p, e, g⟩).run P w = .ok (.value (.int k c)) w := by
  rw [ZT (by simp)]; simp [execOp, hx, convert, run_underlying hs, run_underlying hd, Conv.intToInt, hc]
theorem Yj {x : Operand} {a : Addr} (hx : ρ x = .pointer (some a)) : (Oper.semAt ro ρ ⟨d, .nilCheck x, t, p, e, g⟩).run P w = .ok (.value (.pointer (some a))) w := by
  rw [ZT (by simp)]; simp [execOp, hx]
theorem Zo {st : TypeId} {x : Operand} {i : Nat} {b o o' : Nat} {fs : Array Field} {f : Field} {k : Nat} (hu : P.underlying st = some (.struct fs)) (hf : fs[i]? = some f)
    (hz : ∀ w, (sizeOf f.type).run P w = .ok (k + 1) w) (hx : ρ x = .pointer (some ⟨b, o, none⟩)) (ho : o + f.offset = o') :
    (Oper.semAt ro ρ ⟨d, .fieldAddr st x i, t, p, e, g⟩).run P w = .ok (.value (.pointer (some ⟨b, o', none⟩))) w := by
  subst ho
  rw [ZT (by simp)]
  have hadd : (⟨b, o, none⟩ : Addr).add f.offset = ⟨b, o + f.offset, none⟩ := by unfold Addr.add; split <;> simp_all
  simp [execOp, hx, Instr.fieldAt, run_underlying hu, hf, Instr.sureAddr, fieldPlace, hz, hadd]
theorem r_mki {xt : TypeId} {x : Operand} {v : Value} (hc : P.concrete xt = true) (hx : ρ x = v) :
    (Oper.semAt ro ρ ⟨d, .makeInterface xt x, t, p, e, g⟩).run P w = .ok (.value (.iface xt v)) w := by
  rw [ZT (by simp)]; simp [execOp, hx, run_makeInterface _ _ _ hc]
theorem ZM {st : TypeId} {x : Operand} {et : TypeId} {a : Option Addr} {n c : Nat} (hu : P.underlying st = some (.slice et)) (hx : ρ x = .slice a n c) :
    (Oper.semAt ro ρ ⟨d, .call { callee := .builtin .len, args := #[x], argTypes := #[st] }, t, p, e, g⟩).run P w = .ok (.value (.int .i64 n)) w := by
  rw [ZT (by simp)]; simp [execOp, resolve, invoke, builtin, hx, Builtin.len_, run_underlying hu, goInt]
theorem r_max {xt yt : TypeId} {x y : Operand} {k : IntKind} {a b : Int} (hx : ρ x = .int k a) (hy : ρ y = .int k b) :
    (Oper.semAt ro ρ ⟨d, .call { callee := .builtin .max, args := #[x, y], argTypes := #[xt, yt] }, t, p, e, g⟩).run P w = .ok (.value (.int k (max a b))) w := by
  have : (if b > a then b else a) = max a b := by omega
  rw [ZT (by simp)]; simp [execOp, resolve, invoke, builtin, hx, hy, Builtin.max_, Builtin.max2]; omega
theorem r_min {xt yt : TypeId} {x y : Operand} {k : IntKind} {a b : Int} (hx : ρ x = .int k a) (hy : ρ y = .int k b) :
    (Oper.semAt ro ρ ⟨d, .call { callee := .builtin .min, args := #[x, y], argTypes := #[xt, yt] }, t, p, e, g⟩).run P w = .ok (.value (.int k (min a b))) w := by
  rw [ZT (by simp)]; simp [execOp, resolve, invoke, builtin, hx, hy, Builtin.min_, Builtin.min2]; omega
theorem run_eqsn {xt et : TypeId} {a : Option Addr} {n c : Nat} (hu : P.underlying xt = some (.slice et)) : (Op.equal xt (.slice a n c) (.slice none 0 0)).run P w = .ok (decide (a = none)) w := by
  have h : ∀ d, (Op.equalIn (d + 1) xt (.slice a n c) (.slice none 0 0)).run P w = .ok (decide (a = none)) w := fun d => by
    cases a <;> simp [Op.equalIn, run_underlying hu]
  exact h 9999
theorem run_eqpn {xt et : TypeId} {a : Option Addr} (hu : P.underlying xt = some (.pointer et)) : (Op.equal xt (.pointer a) (.pointer none)).run P w = .ok (decide (a = none)) w := by
  have h : ∀ d, (Op.equalIn (d + 1) xt (.pointer a) (.pointer none)).run P w = .ok (decide (a = none)) w := fun d => by
    cases a <;> simp [Op.equalIn, run_underlying hu]
  exact h 9999
theorem run_eqb {xt : TypeId} {a b : Bool} (hu : P.underlying xt = some .bool) : (Op.equal xt (.bool a) (.bool b)).run P w = .ok (a == b) w := by
  have h : ∀ d, (Op.equalIn (d + 1) xt (.bool a) (.bool b)).run P w = .ok (a == b) w := fun d => by
    simp [Op.equalIn, run_underlying hu]
  exact h 9999
theorem r_eqsn {xt yt et : TypeId} {x y : Operand} {a : Option Addr} {n c : Nat} (hu : P.underlying xt = some (.slice et)) (hx : ρ x = .slice a n c) (hy : ρ y = .slice none 0 0) :
    (Oper.semAt ro ρ ⟨d, .binOp .eql xt x y yt, t, p, e, g⟩).run P w = .ok (.value (.bool (decide (a = none)))) w := by
  rw [ZT (by simp)]; simp [execOp, hx, hy, eqGuard, binOp, run_eqsn hu]
theorem r_eqpn_n {xt yt : TypeId} {x y : Operand} {et : TypeId} (hu : P.underlying xt = some (.pointer et)) (hx : ρ x = .pointer none) (hy : ρ y = .pointer none) :
    (Oper.semAt ro ρ ⟨d, .binOp .eql xt x y yt, t, p, e, g⟩).run P w = .ok (.value (.bool true)) w := by
  rw [ZT (by simp)]; simp [execOp, hx, hy, eqGuard, binOp, run_eqpn hu]
theorem YZ {xt yt : TypeId} {x y : Operand} {et : TypeId} {q : Addr} (hu : P.underlying xt = some (.pointer et)) (hx : ρ x = .pointer (some q)) (hy : ρ y = .pointer none) :
    (Oper.semAt ro ρ ⟨d, .binOp .eql xt x y yt, t, p, e, g⟩).run P w = .ok (.value (.bool false)) w := by
  rw [ZT (by simp)]; simp [execOp, hx, hy, eqGuard, binOp, run_eqpn hu]
theorem r_nepn_n {xt yt : TypeId} {x y : Operand} {et : TypeId} (hu : P.underlying xt = some (.pointer et)) (hx : ρ x = .pointer none) (hy : ρ y = .pointer none) :
    (Oper.semAt ro ρ ⟨d, .binOp .neq xt x y yt, t, p, e, g⟩).run P w = .ok (.value (.bool false)) w := by
  rw [ZT (by simp)]; simp [execOp, hx, hy, eqGuard, binOp, run_eqpn hu]
theorem r_neb {xt yt : TypeId} {x y : Operand} {a b : Bool} (hu : P.underlying xt = some .bool) (hx : ρ x = .bool a) (hy : ρ y = .bool b) :
    (Oper.semAt ro ρ ⟨d, .binOp .neq xt x y yt, t, p, e, g⟩).run P w = .ok (.value (.bool (!(a == b)))) w := by
  rw [ZT (by simp)]; simp [execOp, hx, hy, eqGuard, binOp, run_eqb hu]
theorem r_eqstr {xt yt : TypeId} {x y : Operand} {xs ys : List Int} (bx : Byt xs) (by' : Byt ys) (hx : ρ x = .string (strOfNums xs)) (hy : ρ y = .string (strOfNums ys)) :
    (Oper.semAt ro ρ ⟨d, .binOp .eql xt x y yt, t, p, e, g⟩).run P w = .ok (.value (.bool (decide (xs = ys)))) w := by
  rw [ZT (by simp)]; simp only [execOp, hx, hy, eqGuard, binOp, Op.stringOp, str_eq bx by']; simp
theorem ZF {st : TypeId} {fs : Array Field} {parts : Array (Nat × Operand)} {pv : List (Nat × Value)} {z : Value} {pl : Array (Nat × Nat)} {cs : Array Value} (hz : ∀ w, (zeroValue st).run P w = .ok z w) (hu : P.underlying st = some (.struct fs))
    (hm : ∀ w, (fs.mapM (m := Sem) fun f => do pure (f.offset, ← sizeOf f.type)).run P w = .ok pl w) (hp : (parts.map fun (i, x) => (i, ρ x)).toList = pv := by simp only [List.map_toArray, List.map_cons, List.map_nil] <;> rfl) (hf : Instr.fill (pl[·]?) z.cells pv = some cs := by kernel_rfl) :
    (Oper.semAt ro ρ ⟨d, .build st parts, t, p, e, g⟩).run P w = .ok (.value (.agg cs)) w := by
  subst hp
  rw [ZT (by simp)]; simp only [execOp, Instr.build, Sem.run_bind, hz, Result.andThen_ok, run_underlying hu, hm, hf]; simp
theorem YO {c : Call} : Oper.semAt ro ρ ⟨d, .call c, t, p, e, g⟩ = execOp ρ ⟨d, .call c, t, p, e, g⟩ := ZT (by simp)
theorem r_call0 {f : FuncId} {ts : Array TypeId} (hF : ρ (.func f) = .func (.func f) #[] #[]) (hf : ∀ as w, (callFunc f as).run P w = .ok (.enter f as) w)  :
    (Oper.semAt ro ρ ⟨d, .call { callee := .value (.func f), args := #[], argTypes := ts }, t, p, e, g⟩).run P w = .ok (.enter f #[]) w := by
  rw [YO]; simp [execOp, resolve, Deferred.ofValue, invoke,  hf, hF]
theorem Yz {f : FuncId} {ts : Array TypeId} {y : Operand} {cap as : Array Value} (hf : ∀ as w, (callFunc f as).run P w = .ok (.enter f as) w) (hy : ρ y = .func (.func f) #[] cap)  (ha : #[] ++ cap = as) :
    (Oper.semAt ro ρ ⟨d, .call { callee := .value y, args := #[], argTypes := ts }, t, p, e, g⟩).run P w = .ok (.enter f as) w := by
  subst ha; rw [YO]; simp [execOp, resolve, Deferred.ofValue, invoke, hy,  hf]
theorem Zv {f : FuncId} {ts : Array TypeId} {x0 : Operand} {v0 : Value} (hF : ρ (.func f) = .func (.func f) #[] #[]) (hf : ∀ as w, (callFunc f as).run P w = .ok (.enter f as) w) (h0 : ρ x0 = v0) :
    (Oper.semAt ro ρ ⟨d, .call { callee := .value (.func f), args := #[x0], argTypes := ts }, t, p, e, g⟩).run P w = .ok (.enter f #[v0]) w := by
  rw [YO]; simp [execOp, resolve, Deferred.ofValue, invoke, h0,  hf, hF]
theorem r_clos1 {f : FuncId} {ts : Array TypeId} {y : Operand} {cap as : Array Value} {x0 : Operand} {v0 : Value} (hf : ∀ as w, (callFunc f as).run P w = .ok (.enter f as) w) (hy : ρ y = .func (.func f) #[] cap) (h0 : ρ x0 = v0) (ha : #[v0] ++ cap = as) :
    (Oper.semAt ro ρ ⟨d, .call { callee := .value y, args := #[x0], argTypes := ts }, t, p, e, g⟩).run P w = .ok (.enter f as) w := by
  subst ha; rw [YO]; simp [execOp, resolve, Deferred.ofValue, invoke, hy, h0,  hf]
theorem r_mkf1 {fn : Fn} {x0 : Operand} {v0 : Value} (h0 : ρ x0 = v0) :
    (Oper.semAt ro ρ ⟨d, .makeFunc fn #[] #[x0], t, p, e, g⟩).run P w = .ok (.value (.func fn #[] #[v0])) w := by
  rw [ZT (by simp)]; simp [execOp, Instr.makeFunc, h0]
theorem Zy {f : FuncId} {ts : Array TypeId} {x0 x1 : Operand} {v0 v1 : Value} (hF : ρ (.func f) = .func (.func f) #[] #[]) (hf : ∀ as w, (callFunc f as).run P w = .ok (.enter f as) w) (h0 : ρ x0 = v0) (h1 : ρ x1 = v1) :
    (Oper.semAt ro ρ ⟨d, .call { callee := .value (.func f), args := #[x0, x1], argTypes := ts }, t, p, e, g⟩).run P w = .ok (.enter f #[v0, v1]) w := by
  rw [YO]; simp [execOp, resolve, Deferred.ofValue, invoke, h0, h1,  hf, hF]
theorem r_mkf2 {fn : Fn} {x0 x1 : Operand} {v0 v1 : Value} (h0 : ρ x0 = v0) (h1 : ρ x1 = v1) :
    (Oper.semAt ro ρ ⟨d, .makeFunc fn #[] #[x0, x1], t, p, e, g⟩).run P w = .ok (.value (.func fn #[] #[v0, v1])) w := by
  rw [ZT (by simp)]; simp [execOp, Instr.makeFunc, h0, h1]
theorem Z5 {f : FuncId} {ts : Array TypeId} {x0 x1 x2 : Operand} {v0 v1 v2 : Value} (hF : ρ (.func f) = .func (.func f) #[] #[]) (hf : ∀ as w, (callFunc f as).run P w = .ok (.enter f as) w) (h0 : ρ x0 = v0) (h1 : ρ x1 = v1) (h2 : ρ x2 = v2) :
    (Oper.semAt ro ρ ⟨d, .call { callee := .value (.func f), args := #[x0, x1, x2], argTypes := ts }, t, p, e, g⟩).run P w = .ok (.enter f #[v0, v1, v2]) w := by
  rw [YO]; simp [execOp, resolve, Deferred.ofValue, invoke, h0, h1, h2,  hf, hF]
theorem r_mkf3 {fn : Fn} {x0 x1 x2 : Operand} {v0 v1 v2 : Value} (h0 : ρ x0 = v0) (h1 : ρ x1 = v1) (h2 : ρ x2 = v2) :
    (Oper.semAt ro ρ ⟨d, .makeFunc fn #[] #[x0, x1, x2], t, p, e, g⟩).run P w = .ok (.value (.func fn #[] #[v0, v1, v2])) w := by
  rw [ZT (by simp)]; simp [execOp, Instr.makeFunc, h0, h1, h2]
theorem r_call4 {f : FuncId} {ts : Array TypeId} {x0 x1 x2 x3 : Operand} {v0 v1 v2 v3 : Value} (hF : ρ (.func f) = .func (.func f) #[] #[]) (hf : ∀ as w, (callFunc f as).run P w = .ok (.enter f as) w) (h0 : ρ x0 = v0) (h1 : ρ x1 = v1) (h2 : ρ x2 = v2) (h3 : ρ x3 = v3) :
    (Oper.semAt ro ρ ⟨d, .call { callee := .value (.func f), args := #[x0, x1, x2, x3], argTypes := ts }, t, p, e, g⟩).run P w = .ok (.enter f #[v0, v1, v2, v3]) w := by
  rw [YO]; simp [execOp, resolve, Deferred.ofValue, invoke, h0, h1, h2, h3,  hf, hF]
theorem r_mkf4 {fn : Fn} {x0 x1 x2 x3 : Operand} {v0 v1 v2 v3 : Value} (h0 : ρ x0 = v0) (h1 : ρ x1 = v1) (h2 : ρ x2 = v2) (h3 : ρ x3 = v3) :
    (Oper.semAt ro ρ ⟨d, .makeFunc fn #[] #[x0, x1, x2, x3], t, p, e, g⟩).run P w = .ok (.value (.func fn #[] #[v0, v1, v2, v3])) w := by
  rw [ZT (by simp)]; simp [execOp, Instr.makeFunc, h0, h1, h2, h3]
theorem r_call5 {f : FuncId} {ts : Array TypeId} {x0 x1 x2 x3 x4 : Operand} {v0 v1 v2 v3 v4 : Value} (hF : ρ (.func f) = .func (.func f) #[] #[]) (hf : ∀ as w, (callFunc f as).run P w = .ok (.enter f as) w) (h0 : ρ x0 = v0) (h1 : ρ x1 = v1) (h2 : ρ x2 = v2) (h3 : ρ x3 = v3) (h4 : ρ x4 = v4) :
    (Oper.semAt ro ρ ⟨d, .call { callee := .value (.func f), args := #[x0, x1, x2, x3, x4], argTypes := ts }, t, p, e, g⟩).run P w = .ok (.enter f #[v0, v1, v2, v3, v4]) w := by
  rw [YO]; simp [execOp, resolve, Deferred.ofValue, invoke, h0, h1, h2, h3, h4,  hf, hF]
theorem r_call6 {f : FuncId} {ts : Array TypeId} {x0 x1 x2 x3 x4 x5 : Operand} {v0 v1 v2 v3 v4 v5 : Value} (hF : ρ (.func f) = .func (.func f) #[] #[]) (hf : ∀ as w, (callFunc f as).run P w = .ok (.enter f as) w) (h0 : ρ x0 = v0) (h1 : ρ x1 = v1) (h2 : ρ x2 = v2) (h3 : ρ x3 = v3) (h4 : ρ x4 = v4) (h5 : ρ x5 = v5) :
    (Oper.semAt ro ρ ⟨d, .call { callee := .value (.func f), args := #[x0, x1, x2, x3, x4, x5], argTypes := ts }, t, p, e, g⟩).run P w = .ok (.enter f #[v0, v1, v2, v3, v4, v5]) w := by
  rw [YO]; simp [execOp, resolve, Deferred.ofValue, invoke, h0, h1, h2, h3, h4, h5,  hf, hF]
end vals
section mem
variable {P : Program} {ro : Option Nat} {n : Nat} {Q : Post} {ρ : Env} {ds : List Deferred} {w : World} {ops : Array Oper} {rest : List Oper} {d : Nat} {t : TypeId} {p : String} {e : Array Edge}
theorem Wl_box {et : TypeId} {x : Operand} {v : Value} {cs : List Value} (hx : ev n ρ x = v) (hv : v.cells = cs.toArray)
    (h : ∀ b w', w.heap.size = b → Upd No w w' → w'.heap.size = b + 1 → Blk w' b cs → Wl P ro n ops Q rest (upd ρ d (.pointer (some ⟨b, 0, none⟩))) ds w') :
    Wl P ro n ops Q (⟨some d, .box et x, t, p, e, none⟩ :: rest) ρ ds w := by
  refine Zf (v := .pointer (some ⟨w.heap.size, 0, none⟩)) (w' := w.alloc (.cells cs.toArray et)) ?_ (h _ _ rfl (Y4 _ _) (by simp) (blk_alloc w cs et))
  rw [ZT (by simp)]; simp [execOp, hx, Instr.box, newVar, newRow, hv]
theorem ZB {et : TypeId} {z : Value} {cs : List Value} (hz : ∀ w, (zeroValue et).run P w = .ok z w) (hc : z.cells = cs.toArray)
    (h : ∀ b w', w.heap.size = b → Upd No w w' → w'.heap.size = b + 1 → Blk w' b cs → Wl P ro n ops Q rest (upd ρ d (.pointer (some ⟨b, 0, none⟩))) ds w') :
    Wl P ro n ops Q (⟨some d, .alloc et, t, p, e, none⟩ :: rest) ρ ds w := by
  refine Zf (v := .pointer (some ⟨w.heap.size, 0, none⟩)) (w' := w.alloc (.cells cs.toArray et)) ?_ (h _ _ rfl (Y4 _ _) (by simp) (blk_alloc w cs et))
  rw [ZT (by simp)]; simp [execOp, Instr.alloc, newVar, newRow, hz, hc]
theorem Zk {lt : TypeId} {x : Operand} {b i : Nat} {cs : List Value} {v : Value} (hag : ∀ w, (isAgg lt).run P w = .ok false w) (hx : ev n ρ x = .pointer (some ⟨b, i, none⟩)) (hb : Blk w b cs)
    (hv : cs[i]? = some v) (h : Wl P ro n ops Q rest (upd ρ d v) ds w) : Wl P ro n ops Q (⟨some d, .load lt x, t, p, e, none⟩ :: rest) ρ ds w := by
  refine Zf (w' := w) ?_ h
  have hc : w.cell? ⟨b, i, none⟩ = some v := by rw [hb.cell]; exact hv
  rw [ZT (by simp)]; simp [execOp, hx, Instr.loadAt, Instr.sureAddr, loadVar, hag, hc]
theorem ZH {lt : TypeId} {x : Operand} {a : Addr} {v : Value} (hag : ∀ w, (isAgg lt).run P w = .ok false w) (hx : ev n ρ x = .pointer (some a)) (hc : w.cell? a = some v)
    (h : Wl P ro n ops Q rest (upd ρ d v) ds w) : Wl P ro n ops Q (⟨some d, .load lt x, t, p, e, none⟩ :: rest) ρ ds w := by
  refine Zf (w' := w) ?_ h
  rw [ZT (by simp)]; simp [execOp, hx, Instr.loadAt, Instr.sureAddr, loadVar, hag, hc]
theorem Wl_store {st : TypeId} {x y : Operand} {b i : Nat} {cs cs' : List Value} {u v : Value} {dd : Option Nat} (hsz : ∀ w, (sizeOf st).run P w = .ok 1 w) (hx : ev n ρ x = .pointer (some ⟨b, i, none⟩)) (hy : ev n ρ y = v)
    (hv : v.cells = #[v]) (h1 : v.oneCell' = true) (hb : Blk w b cs) (hi : cs[i]? = some u) (hcs : cs.set i v = cs')
    (h : ∀ w', Upd (Is b) w w' → w'.heap.size = w.heap.size → Blk w' b cs' → Wl P ro n ops Q rest (put ρ dd undef) ds w') :
    Wl P ro n ops Q (⟨dd, .store st x y, t, p, e, none⟩ :: rest) ρ ds w := by
  subst hcs
  refine Wl_u (w' := w.setCell ⟨b, i, none⟩ v) ?_ (h _ (upd_setCell w ⟨b, i, none⟩ v) (by simp) (hb.set i v))
  have hc : w.cell? ⟨b, i, none⟩ = some u := by rw [hb.cell]; exact hi
  have hf : w.frozen? ⟨b, i, none⟩ = false := hb.frozen i
  have hadd : (⟨b, i, none⟩ : Addr).add 0 = ⟨b, i, none⟩ := rfl
  rw [ZT (by simp)]; simp [execOp, hx, hy, Instr.storeAt, Instr.sureAddr, storeVar, hsz, hv, storeCells, hadd, run_store P w _ v _ h1, hc, hf]
theorem Wl_idx {st et : TypeId} {x y : Operand} {R : Nat → Prop} {sz m : Nat} {a : Option Addr} {c : Nat} {cs : List Value} {k : IntKind} {i : Int} (hu : P.underlying st = some (.slice et)) (hsz : ∀ w, (sizeOf et).run P w = .ok sz w)
    (hx : ev n ρ x = .slice a m c) (hy : ev n ρ y = .int k i) (hs : Sl w R sz (.slice a m c) m cs) (h0 : 0 ≤ i) (h1 : i < m)
    (h : ∀ b off, (∀ j, j < sz → w.cell? ⟨b, off + j, none⟩ = cs[i.toNat * sz + j]?) → Wl P ro n ops Q rest (upd ρ d (.pointer (some ⟨b, off, none⟩))) ds w) :
    Wl P ro n ops Q (⟨some d, .indexAddr st x y, t, p, e, none⟩ :: rest) ρ ds w := by
  obtain ⟨b, off, rfl, hc⟩ := hs.at (i := i.toNat) (by omega)
  refine Zf (v := .pointer (some ⟨b, off + i.toNat * sz, none⟩)) (w' := w) ?_ (h b (off + i.toNat * sz) hc)
  have hadd : (⟨b, off, none⟩ : Addr).add (i.toNat * sz) = ⟨b, off + i.toNat * sz, none⟩ := by unfold Addr.add; split <;> simp_all
  rw [ZT (by simp)]; simp [execOp, hx, hy, Instr.indexAt, asIntOf, run_underlying hu, hsz, h0, h1, hadd]
theorem run_app {st et ty : TypeId} {ti : TypeInfo} {z : Value} {sz by' : Nat} (hu : P.underlying st = some (.slice et)) (hi : P.info? et = some ti) (hz : ti.zero = some z) (hsz : ti.size = sz) (hby : ti.bytes = by') (hzc : z.cells.size = sz) (hpos : 0 < sz)
    {R R2 : Nat → Prop} {v v2 : Value} {m k : Nat} {cs cs2 : List Value} (ho : Own w R et sz v m cs) (hs : Sl w R2 sz v2 k cs2) (one : ∀ u ∈ cs2, u.oneCell' = true)
    (h63 : m + k ≤ maxLen) (hb : (m + k) * by' ≤ 140737488355328) :
    ∃ a c w', (Builtin.append_ #[st, st] ty #[v, v2]).run P w = .ok (.slice a (m + k) c) w' ∧ Upd R w w' ∧ w'.heap.size ≤ w.heap.size + 1 ∧ Own w' (fun g => R g ∨ g = w.heap.size) et sz (.slice a (m + k) c) (m + k) (cs ++ cs2) := by
  subst hsz
  subst hby
  obtain ⟨⟨hl1, h2⟩, h3⟩ := ho
  obtain ⟨hl2, a2, c2, rfl, hk1, hk2, hsl⟩ := hs
  have hsmall : m + k ≤ 9223372036854775807 := by simp only [maxLen] at h63; omega
  have hlen : (cs ++ cs2).length = (m + k) * ti.size := by rw [List.length_append, hl1, hl2, Nat.add_mul]
  have grown : ∀ (old : Nat),
      Own (w.drew.alloc (.cells (cs.toArray ++ cs2.toArray ++ Builtin.zeroCells z.cells (grownCap w (m + k) old et - (m + k))) et)) (fun g => R g ∨ g = w.heap.size) et ti.size
        (.slice (some ⟨w.heap.size, 0, none⟩) (m + k) (grownCap w (m + k) old et)) (m + k) (cs ++ cs2) ∧
      Upd R w (w.drew.alloc (.cells (cs.toArray ++ cs2.toArray ++ Builtin.zeroCells z.cells (grownCap w (m + k) old et - (m + k))) et)) ∧
      (w.drew.alloc (.cells (cs.toArray ++ cs2.toArray ++ Builtin.zeroCells z.cells (grownCap w (m + k) old et - (m + k))) et)).heap.size ≤ w.heap.size + 1 := by
    intro old
    have hge := grownCap_ge w (m + k) old et
    have hcm : grownCap w (m + k) old et ≤ maxLen := grownCap_le_maxLen w (m + k) old et h63
    refine ⟨⟨⟨hlen, .inr ⟨w.heap.size, _, _, rfl, Nat.zero_le _, heap_alloc_new w.drew _, hge, hcm, ?_, ?_⟩⟩, ?_⟩, ⟨rfl, rfl, rfl, by simp, fun b hb _ => heap_alloc_old w.drew _ hb⟩, by simp⟩
    · simp only [Array.size_append, List.size_toArray, size_zeroCells, hzc, hl1, hl2, ← Nat.add_mul]
      congr 1
      omega
    · simp only [Array.toList_append, List.append_assoc]
      rw [← List.append_assoc, ← hlen]
      exact List.take_left
    · intro g hg
      simp [Value.ownBlock] at hg
      exact .inr hg.symm
  by_cases hk0 : k = 0
  · subst hk0
    have hc2 : cs2 = [] := List.eq_nil_of_length_eq_zero (by simpa using hl2)
    subst hc2
    rcases h2 with ⟨rfl, rfl⟩ | ⟨g, cap, cur, rfl, hbg, hg, hnc, hcm, hcs, htake⟩
    · have hc1 : cs = [] := List.eq_nil_of_length_eq_zero (by simpa using hl1)
      subst hc1
      refine ⟨none, 0, w, ?_, Upd.refl _ _, by omega, Own.nil _ _ _ _⟩
      cases a2 <;> simp [Builtin.append_, run_underlying hu, sizeOf, typeInfo, hi, Builtin.lenOf, Builtin.firstCells, loadCells, loadCellsFrom]
    · refine ⟨some ⟨g, 0, none⟩, cap, w, ?_, Upd.refl _ _, by omega, ⟨by simpa using hl1, .inr ⟨g, cap, cur, rfl, hbg, hg, by simpa using hnc, hcm, hcs, by simpa using htake⟩⟩, fun x hx => .inl (h3 x hx)⟩
      cases a2 <;> simp [Builtin.append_, run_underlying hu, sizeOf, typeInfo, hi, Builtin.lenOf, Builtin.firstCells, loadCells, loadCellsFrom, hnc, storeCells]
  · rcases hsl with hsl | ⟨b2, off2, cc, t2, f2, rfl, hR2, hb2, hcells⟩
    · exact absurd hsl hk0
    · have hnews : ∀ j u, cs2[j]? = some u → w.cell? ((⟨b2, off2, none⟩ : Addr).add j) = some u := by
        intro j u hu
        have hj : j < cs2.length := by
          rcases Nat.lt_or_ge j cs2.length with h | h
          · exact h
          · simp [List.getElem?_eq_none h] at hu
        have hadd : (⟨b2, off2, none⟩ : Addr).add j = ⟨b2, off2 + j, none⟩ := by unfold Addr.add; split <;> simp_all
        rw [hadd]
        simp only [World.cell?, hb2, Option.isSome_none, Bool.false_eq_true, if_false]
        rw [hcells j (hl2 ▸ hj)]; exact hu
      rcases h2 with ⟨rfl, rfl⟩ | ⟨g, cap, cur, rfl, hbg, hg, hnc, hcm, hcs, htake⟩
      · have hc1 : cs = [] := List.eq_nil_of_length_eq_zero (by simpa using hl1)
        subst hc1
        have hr := run_append_nil (P := P) w st ty et ti z hu hi hz ⟨b2, off2, none⟩ k c2 cs2 hl2 hnews (by omega) (by omega) (by have h := hb; simp only [Nat.zero_add] at h; omega)
        obtain ⟨g1, g2, g3⟩ := grown 0
        simp only [Nat.zero_add, List.nil_append, Array.empty_append] at g1 g2 g3 ⊢
        exact ⟨_, _, _, hr, g2, g3, g1⟩
      · by_cases hroom : m + k ≤ cap
        · have hfit : m * ti.size + cs2.length ≤ cur.size := by rw [hl2, hcs, ← Nat.add_mul]; exact Nat.mul_le_mul_right _ hroom
          have hr := run_append_room (P := P) w st ty et ti hu hi g m cap cur hg ⟨b2, off2, none⟩ k c2 cs2 hl2 hnews one hroom hfit
          refine ⟨_, _, _, hr, ⟨rfl, rfl, rfl, by simp, fun x _ hx => setRow_other w g x _ (fun e => hx (e ▸ h3 g rfl))⟩, by simp, ⟨hlen, .inr ⟨g, cap, _, rfl, hbg, setRow_heap w g cur _ et _ hg, hroom, hcm, ?_, ?_⟩⟩, fun x hx => .inl (h3 x hx)⟩
          · simp only [List.size_toArray, List.length_append, List.length_take, List.length_drop, Array.length_toList]
            omega
          · rw [htake, ← hlen]
            exact List.take_left
        · have hown : w.ownsRow 0 et ti.size (.slice (some ⟨g, 0, none⟩) m cap) m cs := ⟨hl1, .inr ⟨g, cap, cur, rfl, hbg, hg, hnc, hcm, hcs, htake⟩⟩
          have holds : ∀ j u, cs[j]? = some u → w.cell? ((⟨g, 0, none⟩ : Addr).add j) = some u := hown.cells (g := g) rfl
          have hr := run_append_grow (P := P) w st ty et ti z hu hi hz ⟨g, 0, none⟩ m cap cs hl1 holds ⟨b2, off2, none⟩ k c2 cs2 hl2 hnews (by omega) (by omega) (growslice_fits (by omega) hb)
          obtain ⟨g1, g2, g3⟩ := grown cap
          exact ⟨_, _, _, hr, g2, g3, g1⟩
theorem Wl_append {st et : TypeId} {ti : TypeInfo} {z : Value} {sz by' : Nat} (hu : P.underlying st = some (.slice et)) (hi : P.info? et = some ti) (hz : ti.zero = some z) (hsz : ti.size = sz) (hby : ti.bytes = by') (hzc : z.cells.size = sz) (hpos : 0 < sz)
    {x y : Operand} {R R2 : Nat → Prop} {v v2 : Value} {m k : Nat} {cs cs2 : List Value} (hx : ev n ρ x = v) (ho : Own w R et sz v m cs) (hy : ev n ρ y = v2) (hs : Sl w R2 sz v2 k cs2) (one : ∀ u ∈ cs2, u.oneCell' = true)
    (h63 : m + k ≤ maxLen) (hb : (m + k) * by' ≤ 140737488355328)
    (h : ∀ a c w', Upd R w w' → w'.heap.size ≤ w.heap.size + 1 → Own w' (fun g => R g ∨ g = w.heap.size) et sz (.slice a (m + k) c) (m + k) (cs ++ cs2) → Wl P ro n ops Q rest (upd ρ d (.slice a (m + k) c)) ds w') :
    Wl P ro n ops Q (⟨some d, .call { callee := .builtin .append, args := #[x, y], argTypes := #[st, st] }, t, p, e, none⟩ :: rest) ρ ds w := by
  obtain ⟨a, c, w', hr, h1, h2, h3⟩ := run_app (ty := t) hu hi hz hsz hby hzc hpos ho hs one h63 hb
  refine Zf (v := .slice a (m + k) c) (w' := w') ?_ (h a c w' h1 h2 h3)
  rw [YO]; simp [execOp, resolve, invoke, builtin, hx, hy, hr]
theorem Z3 {st et : TypeId} {len sz : Nat} {parts : Array (Nat × Operand)} {pv : List (Nat × Value)} {zv : Value} {cs : List Value} (hu : P.underlying st = some (.slice et)) (hsz : ∀ w, (sizeOf et).run P w = .ok sz w)
    (hz : ∀ w, (zeroValue et).run P w = .ok zv w) (hlen : ¬ len * sz > 2 ^ 24) (hpos : len * sz ≠ 0) (hp : (parts.map fun (i, x) => (i, ev n ρ x)).toList = pv)
    (hf : Instr.fill (fun i => some (i * sz, sz)) ((Array.range (len * sz)).map (zv.cells[· % zv.cells.size]!)) pv = some cs.toArray) (hl : cs.length = len * sz) (hcap : len ≤ maxLen)
    (h : ∀ b w', w.heap.size = b → Upd No w w' → w'.heap.size = b + 1 → Own w' (Is b) et sz (.slice (some ⟨b, 0, none⟩) len len) len cs → Wl P ro n ops Q rest (upd ρ d (.slice (some ⟨b, 0, none⟩) len len)) ds w') :
    Wl P ro n ops Q (⟨some d, .buildSlice st len parts, t, p, e, none⟩ :: rest) ρ ds w := by
  refine Zf (v := .slice (some ⟨w.heap.size, 0, none⟩) len len) (w' := w.alloc (.cells cs.toArray et)) ?_ (h _ _ rfl (Y4 _ _) (by simp) ⟨⟨hl, .inr ⟨w.heap.size, len, cs.toArray, rfl, Nat.zero_le _, World.alloc_heap_new w _, Nat.le_refl _, hcap, by simpa using hl, by simp [← hl]⟩⟩, fun k hk => by simp [Value.ownBlock] at hk; exact hk.symm⟩)
  rw [ZT (by simp)]
  subst hp
  simp only [execOp, Instr.buildSlice, Sem.run_bind, run_underlying hu, Result.andThen_ok, hsz]
  rw [if_neg hlen]
  simp only [if_neg hpos, Sem.run_bind, hz, Result.andThen_ok, Sem.run_pure]
  rw [hf]
  simp [newRow]
theorem Xz (cs : List Value) {st et : TypeId} {len sz : Nat} {parts : Array (Nat × Operand)} {zv : Value} (hu : P.underlying st = some (.slice et)) (hsz : ∀ w, (sizeOf et).run P w = .ok sz w) (hz : ∀ w, (zeroValue et).run P w = .ok zv w)
    (h : ∀ b w', w.heap.size = b → Upd No w w' → w'.heap.size = b + 1 → Own w' (Is b) et sz (.slice (some ⟨b, 0, none⟩) len len) len cs → Wl P ro n ops Q rest (upd ρ d (.slice (some ⟨b, 0, none⟩) len len)) ds w')
    (hlen : ¬ len * sz > 2 ^ 24 := by decide) (hpos : len * sz ≠ 0 := by decide)
    (hf : Instr.fill (fun i => some (i * sz, sz)) ((Array.range (len * sz)).map (zv.cells[· % zv.cells.size]!)) (parts.map fun (i, x) => (i, ev n ρ x)).toList = some cs.toArray := by kernel_rfl) (hl : cs.length = len * sz := by exact rfl) (hcap : len ≤ maxLen := by decide) :
    Wl P ro n ops Q (⟨some d, .buildSlice st len parts, t, p, e, none⟩ :: rest) ρ ds w := Z3 hu hsz hz hlen hpos rfl hf hl hcap h
theorem Wl_lit0 {st et : TypeId} {sz : Nat} (hu : P.underlying st = some (.slice et)) (hsz : ∀ w, (sizeOf et).run P w = .ok sz w)
    (h : ∀ b w', w.heap.size = b → Upd No w w' → w'.heap.size = b + 1 → Own w' (Is b) et sz (.slice (some ⟨b, 0, none⟩) 0 0) 0 [] → Wl P ro n ops Q rest (upd ρ d (.slice (some ⟨b, 0, none⟩) 0 0)) ds w') :
    Wl P ro n ops Q (⟨some d, .buildSlice st 0 #[], t, p, e, none⟩ :: rest) ρ ds w := by
  refine Zf (v := .slice (some ⟨w.heap.size, 0, none⟩) 0 0) (w' := w.alloc (.cells #[] et)) ?_ (h _ _ rfl (Y4 _ _) (by simp) ⟨⟨by simp, .inr ⟨w.heap.size, 0, #[], rfl, Nat.zero_le _, World.alloc_heap_new w _, Nat.le_refl _, Nat.zero_le _, by simp, by simp⟩⟩, fun k hk => by simp [Value.ownBlock] at hk; exact hk.symm⟩)
  rw [ZT (by simp)]
  simp [execOp, Instr.buildSlice, run_underlying hu, hsz, Instr.fill, newRow]
  rw [show Array.range 0 = #[] from Array.eq_empty_of_size_eq_zero (by simp), Array.map_empty]
theorem Z7 {st et : TypeId} {x y : Operand} {R : Nat → Prop} {m : Nat} {a : Option Addr} {c : Nat} {l : List Int} {k k' : IntKind} {i : Int} (hu : P.underlying st = some (.slice et)) (hsz : ∀ w, (sizeOf et).run P w = .ok 1 w)
    (hx : ev n ρ x = .slice a m c) (hy : ev n ρ y = .int k' i) (hs : Sl w R 1 (.slice a m c) m (ints k l)) (h0 : 0 ≤ i) (h1 : i < m)
    (h : ∀ b off, w.cell? ⟨b, off, none⟩ = some (.int k (l.getD i.toNat 0)) → Wl P ro n ops Q rest (upd ρ d (.pointer (some ⟨b, off, none⟩))) ds w) :
    Wl P ro n ops Q (⟨some d, .indexAddr st x y, t, p, e, none⟩ :: rest) ρ ds w := by
  refine Wl_idx hu hsz hx hy hs h0 h1 fun b off hc => h b off ?_
  have h2 := hc 0 (by decide)
  have hl := hs.len
  simp only [List.length_map, Nat.mul_one] at hl
  rw [Nat.add_zero, Nat.mul_one, Nat.add_zero] at h2
  rw [h2, List.getElem?_map, List.getElem?_eq_getElem (show i.toNat < l.length by omega), List.getD_eq_getElem?_getD, List.getElem?_eq_getElem (show i.toNat < l.length by omega)]
  simp
theorem Wl_bstr {src dst et : TypeId} {x : Operand} {R : Nat → Prop} {m : Nat} {a : Option Addr} {c : Nat} {l : List Int} (hu : P.underlying src = some (.slice et)) (he : P.underlying et = some (.int .u8)) (hd : P.underlying dst = some .string)
    (hx : ev n ρ x = .slice a m c) (hs : Sl w R 1 (.slice a m c) m (ints .u8 l)) (h : Wl P ro n ops Q rest (upd ρ d (.string (strOfNums l))) ds w) :
    Wl P ro n ops Q (⟨some d, .convert src dst x, t, p, e, none⟩ :: rest) ρ ds w := by
  refine Zf (v := .string (strOfNums l)) (w' := w) ?_ h
  rw [ZT (by simp)]
  have hl := hs.len
  simp only [List.length_map, Nat.mul_one] at hl
  have hr : (convert src dst (.slice a m c)).run P w = .ok (.string (strOfNums l)) w := by
    by_cases hm : m = 0
    · subst hm
      have : l = [] := List.eq_nil_of_length_eq_zero hl
      subst this
      cases a with
      | none => exact run_convert_bytes_nil w src et hu he 0 c dst hd
      | some ad =>
        rw [run_convert_bytes_string w src dst et _ 0 c hu he hd, run_bytesToString w ad 0 c [] (by simp [loadCells, loadCellsFrom])]
        rfl
    · obtain ⟨b, off, rfl, hc⟩ := hs.at (i := 0) (by omega)
      refine run_convert_bytes_arg w src et hu he b off m c l hl (fun i hi => ?_) dst hd
      obtain ⟨b', off', e1, hc'⟩ := hs.at (i := i) hi
      simp only [Option.some.injEq, Addr.mk.injEq, and_true] at e1
      obtain ⟨rfl, rfl⟩ := e1
      have := hc' 0 (by decide)
      rw [Nat.mul_one, Nat.add_zero, Nat.add_zero] at this
      rw [this, List.getElem?_map, List.getElem?_eq_getElem (show i < l.length by omega), List.getD_eq_getElem?_getD, List.getElem?_eq_getElem (show i < l.length by omega)]
      simp
  simp only [execOp, hx, Sem.run_bind, hr, Result.andThen_ok, Sem.run_pure]
theorem Wl_defer {y : Operand} {f : FuncId} {cap : Array Value} {ts : Array TypeId} {dd : Option Nat} (hy : ev n ρ y = .func (.func f) #[] cap)
    (h : Wl P none n ops Q rest (put ρ dd undef) ({ target := .fn (.func f) cap, args := #[] } :: ds) w) :
    Wl P none n ops Q (⟨dd, .defer { callee := .value y, args := #[], argTypes := ts }, t, p, e, none⟩ :: rest) ρ ds w := by
  refine Wl_run rfl ?_
  have : (Oper.semAt none (ev n ρ) ⟨dd, .defer { callee := .value y, args := #[], argTypes := ts }, t, p, e, none⟩).run P w = .ok (.defer { target := .fn (.func f) cap, args := #[] }) w := by
    rw [Oper.semAt_none]; simp [execOp, resolve, Deferred.ofValue, hy]
  rw [this]
  exact h
end mem
section
variable {P : Program} {ro : Option Nat} {n : Nat} {Q : Post} {ρ : Env} {ds : List Deferred} {w : World} {ops : Array Oper} {rest : List Oper} {t : TypeId} {p : String} {e : Array Edge}
theorem Wmv {dd : Option Tmp} {x : Operand} (v : Value) (h : Wl P ro n ops Q rest (put ρ dd v) ds w) (hx : ev n ρ x = v := by exact rfl) : Wl P ro n ops Q (⟨dd, .move x, t, p, e, none⟩ :: rest) ρ ds w := Zf (r_mv hx) h
theorem Was {dd : Option Tmp} {x : Operand} (v : Value) (h : Wl P ro n ops Q rest (put ρ dd v) ds w) (hx : ev n ρ x = v := by exact rfl) : Wl P ro n ops Q (⟨dd, .assign x, t, p, e, none⟩ :: rest) ρ ds w := Zf (r_as hx) h
end
end Go.Fw
namespace Go.Fw
/-! ## Entering and leaving -/
def Lv (P : Program) (fn : Func) (tmps : Array Value) (R : Ending → World → Prop) (ds : List Deferred) (u : FrameMode) (w : World) : Prop :=
  LeavesInM (Fo none) 0 P fn tmps R ds u w
def bQ (P : Program) (fn : Func) (n : Nat) (R : Ending → World → Prop) : Post
  | .normal, ρ, ds, w | .ret, ρ, ds, w => Lv P fn (tab n ρ) R ds .returning w
  | .panic chain, ρ, ds, w => Lv P fn (tab n ρ) R ds (.panicking chain) w
  | _, _, _, _ => False
theorem Zq {P : Program} {f : FuncId} {fn : Func} {c : Code} {args : Array Value} {w : World} {R : Ending → World → Prop} {n : Nat}
    (hf : P.funcs[f]? = some fn) (hb : fn.body = some c) (hn : fn.ntmps = n) (ha : args.size ≤ n)
    (h : W P none n c (bQ P fn n R) (envOf args.toList 0) [] w) : Calls P f args w R := by
  subst hn
  have h1 : CallsIn (Fo none) 0 P f args w R := by
    refine callsIn_of_wp_marks hf hb trivial ?_ rfl
    rw [enter_tab args fn.ntmps ha]
    refine wpIn_mono h ?_
    rintro e ⟨t, d⟩ w' ⟨ρ, h1, h2⟩
    simp only at h1 h2
    subst h1
    cases e <;> first | exact h2 | exact h2.elim
  exact h1.calls (fo_room none)
section
variable {P : Program} {fn : Func} {n : Nat} {R : Ending → World → Prop} {ρ : Env} {ds : List Deferred} {w : World}
theorem lv_nil {tmps : Array Value} {v : Value} (hr : (results fn tmps).run P w = .ok v w) (h : R (.returned v) w) : Lv P fn tmps R [] .returning w := ⟨v, hr, h⟩
theorem YG {tmps : Array Value} {chain : List PanicEntry} (h : R (.panicked chain) w) : Lv P fn tmps R [] (.panicking chain) w := h
theorem lv_mark {tmps : Array Value} {u : FrameMode} {D : Nat} (hu : u ≠ .run) (hD : w.heap[D]? = some (.deferred (some [])))
    (h : ∀ w', Upd (Is D) w w' → w'.heap.size = w.heap.size → Lv P fn tmps R ds u w') : Lv P fn tmps R ({ target := .collected D, args := #[] } :: ds) u w :=
  ⟨hu, .inl ⟨D, _, rfl, run_takeDeferred hD, h _ (upd_putObj w D _) (by simp)⟩⟩
def CD (P : Program) (f : FuncId) (as : Array Value) (u : FrameMode) (w : World) (R : Ending → FrameMode → World → Prop) : Prop := CallsDIn (Fo none) 0 P f as u w R
theorem CD.mono {f : FuncId} {as : Array Value} {u : FrameMode} {R R' : Ending → FrameMode → World → Prop} (h : CD P f as u w R) (hr : ∀ e u' w', R e u' w' → R' e u' w') : CD P f as u w R' := CallsDIn.mono h hr
theorem lv_call {tmps cap dargs as : Array Value} {u : FrameMode} {f : FuncId} (hu : u ≠ .run) (hf : ∀ as w, (callFunc f as).run P w = .ok (.enter f as) w) (ha : dargs ++ cap = as)
    {RR : Ending → FrameMode → World → Prop} (hc : CD P f as u w RR)
    (h : ∀ e u' w', RR e u' w' → match e with
      | .returned _ => Lv P fn tmps R ds (settle u') w'
      | .panicked chain => Lv P fn tmps R ds (raised u' chain) w'
      | .outgrown => False) : Lv P fn tmps R ({ target := .fn (.func f) cap, args := dargs } :: ds) u w := by
  subst ha
  refine ⟨hu, .inr ⟨fun h => by simp [Fo, Fence.wide] at h, .func f, cap, f, dargs ++ cap, rfl, by simp [invoke, hf], fun _ _ => trivial, hc.mono ?_⟩⟩
  intro e u' w' hR
  have := h e u' w' hR
  cases e with
  | outgrown => exact this.elim
  | returned v => exact this
  | panicked ch => exact this
theorem CD_of_W {f : FuncId} {c : Code} {args : Array Value} {u : FrameMode} {RR : Ending → World → Prop}
    (hf : P.funcs[f]? = some fn) (hb : fn.body = some c) (hn : fn.ntmps = n) (ha : args.size ≤ n)
    (h : W P none n c (fun e ρ ds w => bodyPost P fn RR e ⟨tab n ρ, ds⟩ w) (envOf args.toList 0) [] w) : CD P f args u w fun e u' w' => u' = u ∧ RR e w' := by
  subst hn
  refine callsDIn_of_wp hf hb trivial ?_ rfl
  rw [enter_tab args fn.ntmps ha]
  refine wpIn_mono h ?_
  rintro e ⟨t, d⟩ w' ⟨ρ, h1, h2⟩
  simp only at h1 h2
  subst h1
  exact h2
/-! ## What a function hands back -/
def Ret (Φ : Value → World → Prop) : Ending → World → Prop := fun e w' => ∃ v, e = .returned v ∧ Φ v w'
theorem res0 {tmps : Array Value} (h : fn.results = #[]) : (results fn tmps).run P w = .ok (.tuple #[]) w := by simp [results, h]
theorem Z9 {a : Tmp} {v : Value} (h : fn.results = #[.tmp a]) (h1 : ev n ρ (.tmp a) = v) : (results fn (tab n ρ)).run P w = .ok v w := by
  have e1 := (Array.getD_eq_getD_getElem? (xs := tab n ρ) (i := a) (d := undef)).symm.trans (YF n ρ a)
  rw [h1] at e1
  simp only [results, h]
  simp
  exact e1
theorem Z2 {a b : Tmp} {v1 v2 : Value} (h : fn.results = #[.tmp a, .tmp b]) (h1 : ev n ρ (.tmp a) = v1) (h2 : ev n ρ (.tmp b) = v2) :
    (results fn (tab n ρ)).run P w = .ok (.tuple #[v1, v2]) w := by
  have e1 := (Array.getD_eq_getD_getElem? (xs := tab n ρ) (i := a) (d := undef)).symm.trans (YF n ρ a)
  have e2 := (Array.getD_eq_getD_getElem? (xs := tab n ρ) (i := b) (d := undef)).symm.trans (YF n ρ b)
  rw [h1] at e1
  rw [h2] at e2
  simp only [results, h]
  simp
  exact ⟨e1, e2⟩
theorem Yr {a b c : Tmp} {v1 v2 v3 : Value} (h : fn.results = #[.tmp a, .tmp b, .tmp c]) (h1 : ev n ρ (.tmp a) = v1) (h2 : ev n ρ (.tmp b) = v2) (h3 : ev n ρ (.tmp c) = v3) :
    (results fn (tab n ρ)).run P w = .ok (.tuple #[v1, v2, v3]) w := by
  have e1 := (Array.getD_eq_getD_getElem? (xs := tab n ρ) (i := a) (d := undef)).symm.trans (YF n ρ a)
  have e2 := (Array.getD_eq_getD_getElem? (xs := tab n ρ) (i := b) (d := undef)).symm.trans (YF n ρ b)
  have e3 := (Array.getD_eq_getD_getElem? (xs := tab n ρ) (i := c) (d := undef)).symm.trans (YF n ρ c)
  rw [h1] at e1
  rw [h2] at e2
  rw [h3] at e3
  simp only [results, h]
  simp
  exact ⟨e1, e2, e3⟩
theorem resc2 {a b : Tmp} {ta tb : TypeId} {b1 b2 : Nat} {v1 v2 : Value} (h : fn.results = #[.cell a ta, .cell b tb]) (h1 : ev n ρ (.tmp a) = .pointer (some ⟨b1, 0, none⟩)) (h2 : ev n ρ (.tmp b) = .pointer (some ⟨b2, 0, none⟩))
    (g1 : ∀ w, (isAgg ta).run P w = .ok false w) (g2 : ∀ w, (isAgg tb).run P w = .ok false w) (k1 : Blk w b1 [v1]) (k2 : Blk w b2 [v2]) : (results fn (tab n ρ)).run P w = .ok (.tuple #[v1, v2]) w := by
  have e1 := (Array.getD_eq_getD_getElem? (xs := tab n ρ) (i := a) (d := undef)).symm.trans (YF n ρ a)
  have e2 := (Array.getD_eq_getD_getElem? (xs := tab n ρ) (i := b) (d := undef)).symm.trans (YF n ρ b)
  rw [h1] at e1
  rw [h2] at e2
  have c1 : w.cell? ⟨b1, 0, none⟩ = some v1 := by rw [k1.cell]; rfl
  have c2 : w.cell? ⟨b2, 0, none⟩ = some v2 := by rw [k2.cell]; rfl
  simp only [results, h]
  simp [e1, e2, asAddr, loadVar, g1, g2, c1, c2]
theorem ret_ds {tmps : Array Value} (ht : tmps = tab n ρ) (h : Lv P fn tmps R ds .returning w) : bQ P fn n R .ret ρ ds w := by subst ht; exact h
theorem pan_ds {tmps : Array Value} {c : List PanicEntry} (ht : tmps = tab n ρ) (h : Lv P fn tmps R ds (.panicking c) w) : bQ P fn n R (.panic c) ρ ds w := by subst ht; exact h
theorem cd_ret {RR : Ending → World → Prop} {v : Value} (hr : (results fn (tab n ρ)).run P w = .ok v w) (h : RR (.returned v) w) : bodyPost P fn RR .ret ⟨tab n ρ, []⟩ w := ⟨rfl, v, hr, h⟩
theorem cd_nrm {RR : Ending → World → Prop} {v : Value} (hr : (results fn (tab n ρ)).run P w = .ok v w) (h : RR (.returned v) w) : bodyPost P fn RR .normal ⟨tab n ρ, []⟩ w := ⟨rfl, v, hr, h⟩
theorem Zg {tmps : Array Value} {v : Value} (ht : tmps = tab n ρ) (hr : (results fn tmps).run P w = .ok v w) (h : R (.returned v) w) : bQ P fn n R .ret ρ [] w := by
  subst ht; exact ⟨v, hr, h⟩
theorem nrm_end {tmps : Array Value} {v : Value} (ht : tmps = tab n ρ) (hr : (results fn tmps).run P w = .ok v w) (h : R (.returned v) w) : bQ P fn n R .normal ρ [] w := by
  subst ht; exact ⟨v, hr, h⟩
end
end Go.Fw
namespace Go.Fw
def Same (w w' : World) : Prop := Upd No w w'
theorem Same.refl (w : World) : Same w w := Upd.refl _ _
theorem Same.trans {a b c : World} (h : Same a b) (k : Same b c) : Same a c := Upd.Zb h k
theorem Same.upd {a b : World} (h : Same a b) : Upd No a b := h
theorem same_drew (w : World) : Same w { w with drawn := w.drawn + 1 } := ⟨rfl, rfl, rfl, Nat.le_refl _, fun _ _ _ => rfl⟩
def npan : Post := fun _ _ _ _ => False
def Ws (P : Program) (ro : Option Nat) (n : Nat) (ops : Array Oper) (o : Oper) (K : Env → List Deferred → World → Prop) (ρ : Env) (ds : List Deferred) (w : World) : Prop :=
  if Region.wanted o (grd n ρ ops) then upon P o K npan ρ ds ((o.semAt ro (ev n ρ)).run P w) else K (put ρ o.dst undef) ds w
theorem upon_mono {P : Program} {o : Oper} {K K' : Env → List Deferred → World → Prop} {Q Q' : Post} {ρ : Env} {ds : List Deferred} {r : Result Next}
    (hk : ∀ ρ ds w, K ρ ds w → K' ρ ds w) (hq : ∀ c ρ ds w, Q (.panic c) ρ ds w → Q' (.panic c) ρ ds w) (h : upon P o K Q ρ ds r) : upon P o K' Q' ρ ds r := by
  cases r with
  | ok x w' =>
    cases x <;> simp only [upon] at h ⊢ <;> first | exact h.elim | exact hk _ _ _ h | skip
    case enter f args => exact h.mono fun e w'' he => by cases e <;> first | exact hk _ _ _ he | exact hq _ _ _ _ he | exact he
    case round l f tmps assign body => exact h.mono fun e w'' he => by cases e <;> first | exact hk _ _ _ he | exact hq _ _ _ _ he | exact he
  | halt x w' =>
    cases x <;> simp only [upon] at h ⊢ <;> first | exact h.elim | exact hq _ _ _ _ h
theorem Ws_mono {P : Program} {ro : Option Nat} {n : Nat} {ops : Array Oper} {o : Oper} {K K' : Env → List Deferred → World → Prop} {ρ : Env} {ds : List Deferred} {w : World}
    (hk : ∀ ρ ds w, K ρ ds w → K' ρ ds w) (h : Ws P ro n ops o K ρ ds w) : Ws P ro n ops o K' ρ ds w := by
  unfold Ws at *
  split
  · rename_i hw; rw [if_pos hw] at h; exact upon_mono hk (fun _ _ _ _ h => h) h
  · rename_i hw; rw [if_neg hw] at h; exact hk _ _ _ h
section
variable {P : Program} {ro : Option Nat} {n : Nat} {ops : Array Oper} {K0 : Env → List Deferred → World → Prop} {S : World → Prop}
def Wix (P : Program) (ro : Option Nat) (n : Nat) (ops : Array Oper) (K0 : Env → List Deferred → World → Prop) : List Nat → Env → List Deferred → World → Prop
  | [], ρ, ds, w => K0 ρ ds w
  | i :: rest, ρ, ds, w =>
    match ops[i]? with
    | none => Wix P ro n ops K0 rest ρ ds w
    | some o => Ws P ro n ops o (Wix P ro n ops K0 rest) ρ ds w
theorem wpOpsIn_of_Wix {Q : Post} (hQ : ∀ ρ ds w, K0 ρ ds w → Q .normal ρ ds w) : ∀ (l : List Nat) (ρ : Env) (ds : List Deferred) (w : World), Wix P ro n ops K0 l ρ ds w →
    wpOpsIn (Fo ro) 0 P ops (lift n Q) l ⟨tab n ρ, ds⟩ w
  | [], ρ, ds, w, h => ⟨ρ, rfl, hQ _ _ _ h⟩
  | i :: l, ρ, ds, w, h => by
    have ih := wpOpsIn_of_Wix hQ l
    simp only [wpOpsIn]
    simp only [Wix] at h
    cases hi : ops[i]? with
    | none => simp only [hi] at h ⊢; exact ih _ _ _ h
    | some o =>
      simp only [hi] at h ⊢
      have hy : (yielded ops (tab n ρ)) = grd n ρ ops := funext (yielded_eq n ρ ops)
      rw [hy]
      unfold Ws at h
      by_cases hw : Region.wanted o (grd n ρ ops) = true
      · simp only [hw, if_true] at h ⊢
        refine ⟨fun _ _ => trivial, ?_⟩
        rw [act_eval]
        change o.uponIn (Fo ro) 0 P ⟨tab n ρ, ds⟩ _ _ ((o.semAt ro (ev n ρ)).run P w)
        generalize (o.semAt ro (ev n ρ)).run P w = r at h ⊢
        cases r with
        | ok x w' =>
          cases x <;> simp only [upon] at h <;> first | exact h.elim | skip
          case value v => rw [Oper.uponIn_value, YV]; exact ih _ _ _ h
          case skip => rw [Oper.uponIn_skip, YV]; exact ih _ _ _ h
          case defer d =>
            rw [Oper.uponIn_defer]
            have := YV n ρ (d :: ds) o.dst undef
            simp only at this ⊢
            rw [this]
            exact ih _ _ _ h
          case enter f args =>
            rw [Oper.uponIn_enter]
            refine ⟨fun h => by simp [Fo, Fence.wide] at h, callsIn_fo (h.mono ?_)⟩
            intro e w'' he
            cases e with
            | returned v => simp only at he ⊢; rw [YV]; exact ih _ _ _ he
            | panicked ch => exact he.elim
            | outgrown => exact he.elim
          case round l' f tmps assign body =>
            rw [Oper.uponIn_round]
            refine ⟨fun h => by simp [Fo, Fence.wide] at h, roundIn_fo (h.mono ?_)⟩
            intro e w'' he
            cases e with
            | returned v => simp only at he ⊢; rw [YV]; exact ih _ _ _ he
            | panicked ch => exact he.elim
            | outgrown => exact he.elim
        | halt x w' =>
          cases x <;> simp only [upon] at h <;> exact h.elim
      · have hw' : Region.wanted o (grd n ρ ops) = false := by simpa using hw
        simp only [hw', Bool.false_eq_true, if_false] at h ⊢
        rw [YV]
        exact ⟨fun _ _ => trivial, ih _ _ _ h⟩
def dep (ops : Array Oper) (i j : Nat) : Bool := ((ops[i]?).map fun o => o.after.any fun e => e.on == j && Region.binds .any e).getD false
def reachB (ops : Array Oper) (i : Nat) : List Nat := (List.range ops.size).foldl (fun m k => if k == i || m.any (fun j => dep ops k j) then k :: m else m) []
inductive Rch (ops : Array Oper) : Nat → Nat → Prop
  | one {i j : Nat} : dep ops i j = true → Rch ops i j
  | more {i j k : Nat} : dep ops i j = true → Rch ops j k → Rch ops i k
theorem reachB_spec {ops : Array Oper} {i : Nat} : ∀ j ∈ reachB ops i, j = i ∨ Rch ops j i := by
  unfold reachB
  have key : ∀ (l m : List Nat), (∀ j ∈ m, j = i ∨ Rch ops j i) → ∀ j ∈ l.foldl (fun m k => if k == i || m.any (fun j => dep ops k j) then k :: m else m) m, j = i ∨ Rch ops j i := by
    intro l
    induction l with
    | nil => intro m h j hj; exact h j hj
    | cons k l ih =>
      intro m h
      simp only [List.foldl_cons]
      refine ih _ ?_
      split
      · rename_i hk
        intro j hj
        rcases List.mem_cons.1 hj with rfl | hj
        · simp only [Bool.or_eq_true, beq_iff_eq] at hk
          rcases hk with hk | hk
          · exact .inl hk
          · obtain ⟨x, hx, hd⟩ := List.any_eq_true.1 hk
            rcases h x hx with rfl | hr
            · exact .inr (.one hd)
            · exact .inr (.more hd hr)
        · exact h j hj
      · exact h
  exact key _ _ (fun j hj => by cases hj)
def barOp (ops : Array Oper) (i : Nat) : Bool := (List.range ops.size).all fun j => j == i || (reachB ops i).contains j || (reachB ops j).contains i
def Closed (ops : Array Oper) (listed : Array Bool) : Prop := ∀ k j, listed.getD k false = true → dep ops k j = true → listed.getD j false = true
def closedB (ops : Array Oper) (listed : Array Bool) : Bool := (List.range listed.size).all fun k => !(listed.getD k false) || ((ops[k]?).map fun o => o.after.all fun e => !(Region.binds .any e) || listed.getD e.on false).getD true
theorem dep_spec {ops : Array Oper} {i j : Nat} (h : dep ops i j = true) : ∃ o, ops[i]? = some o ∧ ∃ e ∈ o.after, e.on = j ∧ Region.binds .any e = true := by
  unfold dep at h
  cases ho : ops[i]? with
  | none => rw [ho] at h; simp at h
  | some o =>
    rw [ho] at h
    simp only [Option.map_some, Option.getD_some, Array.any_eq_true', Bool.and_eq_true, beq_iff_eq] at h
    obtain ⟨e, he, h1, h2⟩ := h
    exact ⟨o, rfl, e, he, h1, h2⟩
theorem closedB_spec {ops : Array Oper} {listed : Array Bool} (h : closedB ops listed = true) : Closed ops listed := by
  unfold closedB at h
  intro k j hk hd
  have hlt : k < listed.size := by
    rcases Nat.lt_or_ge k listed.size with h' | h'
    · exact h'
    · simp [Array.getElem?_eq_none h'] at hk
  obtain ⟨o, ho, e, he, rfl, hb⟩ := dep_spec hd
  have := List.all_eq_true.1 h k (List.mem_range.2 hlt)
  rw [ho, hk] at this
  simp only [Bool.not_true, Bool.false_or, Option.map_some, Option.getD_some] at this
  have := (Array.all_eq_true_iff_forall_mem).1 this e he
  rw [hb] at this
  simpa using this
theorem rch_spec {ops : Array Oper} {listed : Array Bool} (hc : Closed ops listed) {i j : Nat} (h : ∀ k, dep ops i k = true → listed.getD k false = true) (hr : Rch ops i j) : listed.getD j false = true := by
  induction hr with
  | one hd => exact h _ hd
  | more hd _ ih => exact ih fun m hm => hc _ m (h _ hd) hm
theorem Closed.set {ops : Array Oper} {listed : Array Bool} {i : Nat} (hc : Closed ops listed) (h : ∀ k, dep ops i k = true → listed.getD k false = true) : Closed ops (listed.setIfInBounds i true) := by
  intro k j hk hd
  have up : listed.getD j false = true → (listed.setIfInBounds i true).getD j false = true := by
    intro h1
    by_cases hij : i = j
    · subst hij
      rcases Nat.lt_or_ge i listed.size with h' | h'
      · simp [h']
      · simp [Array.getElem?_eq_none h'] at h1
    · rw [getD_set_ne false hij]; exact h1
  by_cases hik : i = k
  · subst hik; exact up (h j hd)
  · rw [getD_set_ne false hik] at hk
    exact up (hc k j hk hd)
theorem barOp_spec {ops : Array Oper} {i j : Nat} (h : barOp ops i = true) (hj : j < ops.size) (hne : j ≠ i) : Rch ops j i ∨ Rch ops i j := by
  have := List.all_eq_true.1 h j (List.mem_range.2 hj)
  simp only [Bool.or_eq_true, beq_iff_eq, hne, false_or, List.contains_iff_mem] at this
  rcases this with h1 | h1
  · exact .inl ((reachB_spec j h1).resolve_left hne)
  · exact .inr ((reachB_spec i h1).resolve_left (Ne.symm hne))
def Wa (P : Program) (ro : Option Nat) (n : Nat) (ops : Array Oper) (K0 : Env → List Deferred → World → Prop) (S : World → Prop) : Nat → Array Bool → Env → List Deferred → World → Prop
  | 0, listed, ρ, ds, w => Region.ready .any ops listed = [] ∧ K0 ρ ds w
  | fuel + 1, listed, ρ, ds, w => (Region.ready .any ops listed = [] → K0 ρ ds w) ∧
    ∀ i ∈ Region.ready .any ops listed, ∀ o, ops[i]? = some o → Ws P ro n ops o (fun ρ' ds' w' => ∀ w'', Same w' w'' →
      (barOp ops i = false → S w'' ∧ Wa P ro n ops K0 S fuel (listed.setIfInBounds i true) ρ' ds' w'') ∧ (barOp ops i = true → ∃ S', Wa P ro n ops K0 S' fuel (listed.setIfInBounds i true) ρ' ds' w'')) ρ ds w
theorem Wa_sound : ∀ (fuel t : Nat) (S : World → Prop) (listed : Array Bool) (ρ : Env) (ds : List Deferred) (w : World), Wa P ro n ops K0 S fuel listed ρ ds w →
    Wix P ro n ops K0 (Region.linearise.go .any ops fuel t listed []) ρ ds w := by
  intro fuel
  induction fuel with
  | zero => intro t S listed ρ ds w h; simpa [Region.linearise.go, Wix] using h.2
  | succ fuel ih =>
    intro t S listed ρ ds w h
    obtain ⟨h₀, h₁⟩ := h
    simp only [Region.linearise.go]
    change Wix P ro n ops K0 (match (Region.ready .any ops listed)[t % (Region.ready .any ops listed).length]? with
      | some i => Region.linearise.go .any ops fuel (t / (Region.ready .any ops listed).length) (listed.setIfInBounds i true) [i]
      | none => [].reverse) ρ ds w
    cases hi : (Region.ready .any ops listed)[t % (Region.ready .any ops listed).length]? with
    | none =>
      have hnil : Region.ready .any ops listed = [] := by
        cases hr : Region.ready .any ops listed with
        | nil => rfl
        | cons x xs =>
          rw [hr] at hi
          have hlt : t % (x :: xs).length < (x :: xs).length := Nat.mod_lt _ (by simp)
          simp at hi
          simp at hlt
          omega
      simpa [Wix] using h₀ hnil
    | some i =>
      simp only []
      rw [linearise_go_acc, List.reverse_singleton, List.singleton_append]
      have hm := List.mem_of_getElem? hi
      obtain ⟨_, o, ho, _⟩ := mem_ready.1 hm
      simp only [Wix, ho]
      refine Ws_mono (fun ρ ds w hh => ?_) (h₁ i hm o ho)
      have hh := hh w (Same.refl w)
      cases hb : barOp ops i with
      | false => exact ih _ _ _ _ _ _ (hh.1 hb).2
      | true => obtain ⟨S', hw⟩ := hh.2 hb; exact ih _ _ _ _ _ _ hw
theorem W_draw {id : Nat} {Q : Post} {ρ : Env} {ds : List Deferred} {w : World} (hm : P.follows .mixedOrders = true)
    (h : ∀ w', Same w w' → Wa P ro n ops (fun ρ ds w => Q .normal ρ ds w) S ops.size (Array.replicate ops.size false) ρ ds w') : W P ro n (.region id ops true) Q ρ ds w := by
  refine wpIn_region_draw fun t => (wpOpsIn_of_Wix (K0 := fun ρ ds w => Q .normal ρ ds w) (fun _ _ _ h => h) _ ρ ds _ ?_)
  simp only [Region.schedule, hm, Bool.true_or, if_true]
  exact Wa_sound _ _ _ _ _ _ _ (h _ (same_drew w))
/-! ### taking a quiet operation first -/
def YI (P : Program) (ro : Option Nat) (n : Nat) (ops : Array Oper) (S : World → Prop) (o : Oper) (v : Value) (ρ : Env) : Prop :=
  (Region.wanted o (grd n ρ ops) = true ∧ ∀ w, S w → (o.semAt ro (ev n ρ)).run P w = .ok (.value v) w ∨
    ∃ f args, (o.semAt ro (ev n ρ)).run P w = .ok (.enter f args) w ∧ Calls P f args w (fun e w' => e = .returned v ∧ Same w w')) ∨
  (Region.wanted o (grd n ρ ops) = false ∧ v = undef)
theorem YI.ws {o : Oper} {v : Value} {ρ : Env} {ds : List Deferred} {w : World} {K : Env → List Deferred → World → Prop} (hy : YI P ro n ops S o v ρ) (hS : S w)
    (h : ∀ w', Same w w' → K (put ρ o.dst v) ds w') : Ws P ro n ops o K ρ ds w := by
  unfold Ws
  rcases hy with ⟨hw, hv⟩ | ⟨hw, rfl⟩
  · rw [if_pos hw]
    rcases hv w hS with hr | ⟨f, args, hr, hc⟩
    · rw [hr]; exact h w (Same.refl w)
    · rw [hr]
      refine hc.mono ?_
      rintro e w' ⟨rfl, hs⟩
      exact h w' hs
  · rw [if_neg (by simp [hw])]; exact h w (Same.refl w)
theorem put_comm {ρ : Env} {x y : Option Tmp} (v u : Value) (h : ∀ d, x = some d → y ≠ some d) : put (put ρ x v) y u = put (put ρ y u) x v := by
  cases x with
  | none => rfl
  | some d =>
    cases y with
    | none => rfl
    | some e =>
      have hne : d ≠ e := fun he => h d rfl (he ▸ rfl)
      funext t
      simp only [put]
      by_cases h1 : t = d
      · subst h1; rw [YQ _ _ hne, upd_same, upd_same]
      · by_cases h2 : t = e
        · subst h2; rw [upd_same, YQ _ _ h1, upd_same]
        · rw [YQ _ _ h2, YQ _ _ h1, YQ _ _ h1, YQ _ _ h2]
theorem ev_put {ρ : Env} {dst : Option Tmp} {v : Value} {x : Operand} (h : ∀ d, dst = some d → x ≠ .tmp d) : ev n (put ρ dst v) x = ev n ρ x := by
  cases dst with
  | none => rfl
  | some d =>
    cases x with
    | tmp t =>
      have hne : t ≠ d := fun e => h d rfl (e ▸ rfl)
      simp only [ev, put, YQ _ _ hne]
    | _ => rfl
theorem sem_put (o : Oper) (hs : ∀ cs b, o.op ≠ .select cs b) (hd : ∀ c, o.op ≠ .defer c) (ρ : Env) (dst : Option Tmp) (v : Value) (h : ∀ d, dst = some d → d ∉ o.looksAt ops) :
    o.semAt ro (ev n (put ρ dst v)) = o.semAt ro (ev n ρ) := by
  rw [Oper.semAt_eq ro _ o hd, Oper.semAt_eq ro _ o hd]
  exact execOp_congr o hs fun x hx => ev_put fun d hd' hxd => h d hd' (by
    subst hxd
    exact List.mem_append_left _ (List.mem_filterMap.2 ⟨.tmp d, by simpa using hx, rfl⟩))
theorem wanted_put' (o : Oper) (ρ : Env) (dst : Option Tmp) (v : Value) (h : ∀ d, dst = some d → d ∉ o.looksAt ops) :
    Region.wanted o (grd n (put ρ dst v) ops) = Region.wanted o (grd n ρ ops) := by
  cases dst with
  | none => rfl
  | some d =>
    unfold Region.wanted
    cases hg : o.guard with
    | none => rfl
    | some gw =>
      obtain ⟨g, want⟩ := gw
      have hy : grd n (put ρ (some d) v) ops g = grd n ρ ops g := by
        unfold grd
        cases ht : (ops[g]?).bind (·.dst) with
        | none => rfl
        | some t =>
          have hne : d ≠ t := fun e => h d rfl (by subst e; simp [Oper.looksAt, hg, ht])
          simp only
          rw [ev_put fun d' hd' he => by cases hd'; cases he; exact hne rfl]
      simp only [hy]
def calm (ops : Array Oper) : Bool := ops.all fun o => match o.op with | .select .. | .defer _ => false | _ => true
theorem calm_spec (h : calm ops = true) {j : Nat} {o : Oper} (hj : ops[j]? = some o) : (∀ cs b, o.op ≠ .select cs b) ∧ (∀ c, o.op ≠ .defer c) := by
  have hm : o ∈ ops := Array.mem_of_getElem? hj
  have := Array.all_eq_true'.1 h o hm
  constructor
  · intro cs b e; rw [e] at this; simp at this
  · intro c e; rw [e] at this; simp at this
theorem YI.of_same {o : Oper} {v : Value} {ρ ρ' : Env} (hy : YI P ro n ops S o v ρ) (he : o.semAt ro (ev n ρ') = o.semAt ro (ev n ρ))
    (hw : Region.wanted o (grd n ρ' ops) = Region.wanted o (grd n ρ ops)) : YI P ro n ops S o v ρ' := by
  unfold YI at *
  rw [he, hw]
  exact hy
theorem Ws_put {oi oj : Oper} {v : Value} (hap : oi.apart ops oj = true) (hsi : ∀ cs b, oi.op ≠ .select cs b) (hdi : ∀ c, oi.op ≠ .defer c) (hsj : ∀ cs b, oj.op ≠ .select cs b) (hdj : ∀ c, oj.op ≠ .defer c)
    {K : Env → List Deferred → World → Prop} {ρ : Env} {ds : List Deferred} {w : World} (hy : YI P ro n ops S oi v ρ) (h : Ws P ro n ops oj K (put ρ oi.dst v) ds w) :
    Ws P ro n ops oj (fun ρ' ds' w' => YI P ro n ops S oi v ρ' ∧ K (put ρ' oi.dst v) ds' w') ρ ds w := by
  obtain ⟨h1, h2, h3⟩ := Oper.apart_spec hap
  have keep : ∀ u, YI P ro n ops S oi v (put ρ oj.dst u) := fun u =>
    hy.of_same (sem_put oi hsi hdi ρ oj.dst u h3) (wanted_put' oi ρ oj.dst u h3)
  have pc : ∀ u, put (put ρ oj.dst u) oi.dst v = put (put ρ oi.dst v) oj.dst u := fun u => (put_comm v u h2).symm
  unfold Ws at *
  rw [wanted_put' oj ρ oi.dst v h1] at h
  split
  · rename_i hw
    rw [if_pos hw] at h
    rw [sem_put oj hsj hdj ρ oi.dst v h1] at h
    generalize (oj.semAt ro (ev n ρ)).run P w = r at *
    cases r with
    | ok x w' =>
      cases x <;> simp only [upon] at h ⊢ <;> first | exact h.elim | skip
      case value u => exact ⟨keep u, by rw [pc]; exact h⟩
      case skip => exact ⟨keep _, by rw [pc]; exact h⟩
      case defer d => exact ⟨keep _, by rw [pc]; exact h⟩
      case enter f args =>
        refine h.mono fun e w'' he => ?_
        cases e with
        | returned u => exact ⟨keep u, by rw [pc]; exact he⟩
        | panicked c => exact he
        | outgrown => exact he
      case round l f tmps assign body =>
        refine h.mono fun e w'' he => ?_
        cases e with
        | returned u => exact ⟨keep u, by rw [pc]; exact he⟩
        | panicked c => exact he
        | outgrown => exact he
    | halt x w' => cases x <;> simp only [upon] at h ⊢ <;> first | exact h.elim | exact h
  · rename_i hw
    rw [if_neg hw] at h
    exact ⟨keep _, by rw [pc]; exact h⟩
theorem Wa_first (hc : calm ops = true) (hSS : ∀ w w', S w → Same w w' → S w') {i : Nat} {oi : Oper} {v : Value} (hi : ops[i]? = some oi) :
    ∀ (fuel : Nat) (listed : Array Bool) (ρ : Env) (ds : List Deferred) (w : World),
      Closed ops listed → (∀ j oj, ops[j]? = some oj → j ≠ i → listed.getD j true = false → (∀ e ∈ oj.after, Region.binds .any e = true → e.on ≠ i) → oi.apart ops oj = true) →
      i ∈ Region.ready .any ops listed → YI P ro n ops S oi v ρ → S w →
      (∀ w', Same w w' → Wa P ro n ops K0 S fuel (listed.setIfInBounds i true) (put ρ oi.dst v) ds w') → Wa P ro n ops K0 S (fuel + 1) listed ρ ds w := by
  obtain ⟨hsi, hdi⟩ := calm_spec hc hi
  intro fuel
  induction fuel with
  | zero =>
    intro listed ρ ds w _ _ hr hy hS H
    refine ⟨fun h => (by rw [h] at hr; cases hr), fun j hj oj hoj => ?_⟩
    by_cases hji : j = i
    · subst hji
      rw [hi] at hoj
      cases hoj
      exact hy.ws hS fun w' hw' w'' hw'' => ⟨fun _ => ⟨hSS _ _ (hSS _ _ hS hw') hw'', H w'' (hw'.trans hw'')⟩, fun _ => ⟨S, H w'' (hw'.trans hw'')⟩⟩
    · have := ready_mono hj hji
      rw [(H w (Same.refl w)).1] at this
      cases this
  | succ fuel ih =>
    intro listed ρ ds w hcl hfree hr hy hS H
    refine ⟨fun h => (by rw [h] at hr; cases hr), fun j hj oj hoj => ?_⟩
    by_cases hji : j = i
    · subst hji
      rw [hi] at hoj
      cases hoj
      exact hy.ws hS fun w' hw' w'' hw'' => ⟨fun _ => ⟨hSS _ _ (hSS _ _ hS hw') hw'', H w'' (hw'.trans hw'')⟩, fun _ => ⟨S, H w'' (hw'.trans hw'')⟩⟩
    · obtain ⟨hsj, hdj⟩ := calm_spec hc hoj
      have h1 := (H w (Same.refl w)).2 j (ready_mono hj hji) oj hoj
      obtain ⟨hjun, oj', hoj', hall⟩ := mem_ready.1 hj
      rw [hoj] at hoj'
      cases hoj'
      have hdj' : ∀ k, dep ops j k = true → listed.getD k false = true := fun k hk => by
        obtain ⟨o2, ho2, e, he, rfl, hb⟩ := dep_spec hk
        rw [hoj] at ho2
        cases ho2
        exact hall e he hb
      have hnot : ∀ e ∈ oj.after, Region.binds .any e = true → e.on ≠ i := fun e he hb heq => by
        have h1 := hall e he hb
        have h0 := (mem_ready.1 hr).1
        rw [heq] at h1
        rcases Nat.lt_or_ge i listed.size with h' | h'
        · simp [h'] at h0 h1; rw [h0] at h1; cases h1
        · simp [Array.getElem?_eq_none h'] at h1
      have h2 := Ws_put (hfree j oj hoj hji hjun hnot) hsi hdi hsj hdj hy h1
      have hfree' : ∀ k ok, ops[k]? = some ok → k ≠ i → (listed.setIfInBounds j true).getD k true = false →
          (∀ e ∈ ok.after, Region.binds .any e = true → e.on ≠ i) → oi.apart ops ok = true := fun k ok hk hki hun hno => by
        refine hfree k ok hk hki ?_ hno
        by_cases hjk : j = k
        · subst hjk; exact hjun
        · rw [getD_set_ne true hjk] at hun; exact hun
      have hri : i ∈ Region.ready .any ops (listed.setIfInBounds j true) := ready_mono hr (Ne.symm hji)
      refine Ws_mono ?_ h2
      rintro ρ' ds' w' ⟨hy', hK⟩ w'' hw''
      have hcom : (listed.setIfInBounds i true).setIfInBounds j true = (listed.setIfInBounds j true).setIfInBounds i true := Array.setIfInBounds_comm _ _ (Ne.symm hji)
      have ht : barOp ops j = false := by
        cases hb : barOp ops j with
        | false => rfl
        | true =>
          have hun : ∀ {x : Nat}, (listed.getD x true = false) → listed.getD x false = true → False := fun {x} h0 h1 => by
            rcases Nat.lt_or_ge x listed.size with h' | h'
            · simp [h'] at h0 h1; rw [h0] at h1; cases h1
            · simp [Array.getElem?_eq_none h'] at h1
          obtain ⟨hiun, oi', hoi', halli⟩ := mem_ready.1 hr
          have hdi' : ∀ k, dep ops i k = true → listed.getD k false = true := fun k hk => by
            obtain ⟨o2, ho2, e, he, rfl, hb2⟩ := dep_spec hk
            rw [hoi'] at ho2
            cases ho2
            exact halli e he hb2
          rcases barOp_spec hb (Array.getElem?_eq_some_iff.1 hi).1 (Ne.symm hji) with h3 | h3
          · exact (hun hjun (rch_spec hcl hdi' h3)).elim
          · exact (hun hiun (rch_spec hcl hdj' h3)).elim
      have hS'' : S w'' := ((hK w'' hw'').1 ht).1
      refine ⟨fun _ => ⟨hS'', ih (listed.setIfInBounds j true) ρ' ds' w'' (hcl.set hdj') hfree' hri hy' hS'' fun w3 hw3 => ?_⟩, fun h => absurd h (by rw [ht]; simp)⟩
      rw [← hcom]
      exact ((hK w3 (hw''.trans hw3)).1 ht).2
/-! ### the moves of a walk -/
theorem Wa_take (hc : calm ops = true) (hSS : ∀ w w', S w → Same w w' → S w') {i : Nat} {oi : Oper} {v : Value} {fuel : Nat} {listed listed' : Array Bool} {ρ : Env} {ds : List Deferred} {w : World}
    (hi : ops[i]? = some oi) (hf : Region.free .any ops listed i = true) (hr : (Region.ready .any ops listed).contains i = true) (hl : listed.setIfInBounds i true = listed') (hcl : closedB ops listed = true)
    (hy : YI P ro n ops S oi v ρ) (hS : S w) (h : ∀ w', Same w w' → Wa P ro n ops K0 S fuel listed' (put ρ oi.dst v) ds w') : Wa P ro n ops K0 S (fuel + 1) listed ρ ds w := by
  subst hl
  exact Wa_first hc hSS hi fuel listed ρ ds w (closedB_spec hcl) (Region.free_spec hi hf) (by simpa using hr) hy hS h
theorem Wa_one {i : Nat} {o : Oper} {fuel : Nat} {listed listed' : Array Bool} {ρ : Env} {ds : List Deferred} {w : World} (hr : Region.ready .any ops listed = [i]) (hi : ops.toList[i]? = some o) (hl : listed.setIfInBounds i true = listed')
    (h : Ws P ro n ops o (fun ρ' ds' w' => ∀ w'', Same w' w'' → (barOp ops i = false → S w'' ∧ Wa P ro n ops K0 S fuel listed' ρ' ds' w'') ∧ (barOp ops i = true → ∃ S', Wa P ro n ops K0 S' fuel listed' ρ' ds' w'')) ρ ds w) : Wa P ro n ops K0 S (fuel + 1) listed ρ ds w := by
  subst hl
  rw [Array.getElem?_toList] at hi
  refine ⟨fun h0 => (by rw [hr] at h0; cases h0), fun j hj oj hoj => ?_⟩
  rw [hr] at hj
  obtain rfl := List.mem_singleton.1 hj
  rw [hi] at hoj
  cases hoj
  exact h
theorem Wa_done {listed : Array Bool} {ρ : Env} {ds : List Deferred} {w : World} (hr : Region.ready .any ops listed = []) (h : K0 ρ ds w) : Wa P ro n ops K0 S 0 listed ρ ds w := ⟨hr, h⟩
theorem Ws_of_Wl {o : Oper} {K : Env → List Deferred → World → Prop} {ρ : Env} {ds : List Deferred} {w : World}
    (h : Wl P ro n ops (fun e ρ ds w => match e with | .normal => K ρ ds w | _ => False) [o] ρ ds w) : Ws P ro n ops o K ρ ds w := by
  unfold Ws
  simp only [Wl] at h
  split
  · rename_i hw
    rw [if_pos hw] at h
    exact upon_mono (fun _ _ _ h => h) (fun _ _ _ _ h => h.elim) h
  · rename_i hw
    rw [if_neg hw] at h
    exact h
theorem Wa_weak {S' : World → Prop} (hs : ∀ w, S' w → S w) : ∀ (fuel : Nat) (listed : Array Bool) (ρ : Env) (ds : List Deferred) (w : World), Wa P ro n ops K0 S' fuel listed ρ ds w → Wa P ro n ops K0 S fuel listed ρ ds w
  | 0, _, _, _, _, h => h
  | fuel + 1, _, _, _, _, h => ⟨h.1, fun i hi o ho => Ws_mono (fun _ _ _ hh w'' hw => ⟨fun ht => ⟨hs _ ((hh w'' hw).1 ht).1, Wa_weak hs fuel _ _ _ _ ((hh w'' hw).1 ht).2⟩, (hh w'' hw).2⟩) (h.2 i hi o ho)⟩
def Wt (P : Program) (ro : Option Nat) (n : Nat) (ops : Array Oper) (K0 : Env → List Deferred → World → Prop) (w0 : World) (fuel : Nat) (listed : Array Bool) (ρ : Env) (ds : List Deferred) : Prop :=
  ∀ w, Upd No w0 w → Wa P ro n ops K0 (Upd No w0) fuel listed ρ ds w
theorem ZJ {id : Nat} {Q : Post} {ρ : Env} {ds : List Deferred} {w : World} {l0 : Array Bool} (hm : P.follows .mixedOrders = true) (hl : Array.replicate ops.size false = l0)
    (h : Wt P ro n ops (fun ρ ds w => Q .normal ρ ds w) w ops.size l0 ρ ds) : W P ro n (.region id ops true) Q ρ ds w := by
  subst hl
  exact W_draw (S := Upd No w) hm fun w' hw => h w' hw.upd
theorem Wt_take {w0 : World} {i : Nat} {oi : Oper} {v : Value} {fuel : Nat} {listed listed' : Array Bool} {ρ : Env} {ds : List Deferred} (hc : calm ops = true)
    (hi : ops.toList[i]? = some oi) (hf : Region.free .any ops listed i = true) (hr : (Region.ready .any ops listed).contains i = true) (hl : listed.setIfInBounds i true = listed') (hcl : closedB ops listed = true)
    (hy : YI P ro n ops (Upd No w0) oi v ρ) (h : Wt P ro n ops K0 w0 fuel listed' (put ρ oi.dst v) ds) : Wt P ro n ops K0 w0 (fuel + 1) listed ρ ds := fun _ hw =>
  Wa_take hc (fun _ _ h1 h2 => h1.Zb h2.upd) ((Array.getElem?_toList ..).symm.trans hi) hf hr hl hcl hy hw fun w' hw' => h w' (hw.Zb hw'.upd)
def tf (k n : Nat) : Array Bool := ⟨List.replicate k true ++ List.replicate (n - k) false⟩
theorem Tk {w0 : World} (i : Nat) (listed' : Array Bool) {oi : Oper} {v : Value} {fuel : Nat} {listed : Array Bool} {ρ : Env} {ds : List Deferred} (hi : ops.toList[i]? = some oi)
    (hy : YI P ro n ops (Upd No w0) oi v ρ) (h : Wt P ro n ops K0 w0 fuel listed' (put ρ oi.dst v) ds) (hc : calm ops = true := by kernel_rfl) (hf : Region.free .any ops listed i = true := by kernel_rfl) (hr : (Region.ready .any ops listed).contains i = true := by kernel_rfl)
    (hl : listed.setIfInBounds i true = listed' := by kernel_rfl) (hcl : closedB ops listed = true := by kernel_rfl) : Wt P ro n ops K0 w0 (fuel + 1) listed ρ ds :=
  Wt_take hc hi hf hr hl hcl hy h
theorem ZQ {w0 w1 : World} {fuel : Nat} {listed : Array Bool} {ρ : Env} {ds : List Deferred} (hu : Upd No w0 w1) (h : Wt P ro n ops K0 w1 fuel listed ρ ds) : Wa P ro n ops K0 (Upd No w0) fuel listed ρ ds w1 :=
  Wa_weak (fun _ h => hu.Zb h) _ _ _ _ _ (h w1 (Upd.refl _ _))
theorem YI_v {w0 : World} {o : Oper} {v : Value} {ρ : Env} (hg : Region.wanted o (grd n ρ ops) = true) (h : ∀ w, Upd No w0 w → (o.semAt ro (ev n ρ)).run P w = .ok (.value v) w) : YI P ro n ops (Upd No w0) o v ρ :=
  .inl ⟨hg, fun w hw => .inl (h w hw)⟩
theorem YI_c {w0 : World} {o : Oper} {v : Value} {ρ : Env} {f : FuncId} {as : Array Value} (hg : Region.wanted o (grd n ρ ops) = true) (hr : ∀ w, (o.semAt ro (ev n ρ)).run P w = .ok (.enter f as) w)
    (h : ∀ w, Upd No w0 w → Calls P f as w (Ret fun v' w' => v' = v ∧ Upd No w w')) : YI P ro n ops (Upd No w0) o v ρ :=
  .inl ⟨hg, fun w hw => .inr ⟨f, as, hr w, (h w hw).mono fun e w' ⟨v', he, hv, hs⟩ => ⟨by rw [he, hv], hs⟩⟩⟩
theorem YI_no {w0 : World} {o : Oper} {ρ : Env} (hg : Region.wanted o (grd n ρ ops) = false) : YI P ro n ops (Upd No w0) o undef ρ := .inr ⟨hg, rfl⟩
end
theorem Upd.Y8 {w0 w : World} (h : Upd No w0 w) {a : Addr} {v : Value} (hc : w0.cell? a = some v) : w.cell? a = some v := by
  have hb := World.block_lt_of_cell? w0 a hc
  have := h.block a.block hb (fun h => h)
  simp only [World.cell?, this] at hc ⊢
  exact hc
theorem ZG {w0 w : World} (h : Upd No w0 w) {a : Addr} {v : Value} (hc : w0.cell? a = some v) : w.cell? a = some v := h.Y8 hc
theorem cell_upd1 {w0 w : World} {x : Nat} (h : Upd (Is x) w0 w) {a : Addr} {v : Value} (hc : w0.cell? a = some v) (hx : a.block ≠ x) : w.cell? a = some v := by
  have hb := World.block_lt_of_cell? w0 a hc
  have := h.block a.block hb hx
  simp only [World.cell?, this] at hc ⊢
  exact hc
section
variable {P : Program} {ro : Option Nat} {w : World} {ρ : Operand → Value} {d : Option Tmp} {t : TypeId} {p : String} {e : Array Edge} {g : Option (Nat × Bool)}
theorem Yd {lt : TypeId} {x : Operand} {a : Addr} {v : Value} (hag : ∀ w, (isAgg lt).run P w = .ok false w) (hx : ρ x = .pointer (some a)) (hc : w.cell? a = some v) :
    (Oper.semAt ro ρ ⟨d, .load lt x, t, p, e, g⟩).run P w = .ok (.value v) w := by
  rw [ZT (by simp)]; simp [execOp, hx, Instr.loadAt, Instr.sureAddr, loadVar, hag, hc]
theorem Yl {st et : TypeId} {x y : Operand} {sz m b off o' : Nat} {c : Nat} {k : IntKind} {i : Int} (hu : P.underlying st = some (.slice et)) (hsz : ∀ w, (sizeOf et).run P w = .ok sz w)
    (hx : ρ x = .slice (some ⟨b, off, none⟩) m c) (hy : ρ y = .int k i) (h0 : 0 ≤ i) (h1 : i < m) (ho : off + i.toNat * sz = o') :
    (Oper.semAt ro ρ ⟨d, .indexAddr st x y, t, p, e, g⟩).run P w = .ok (.value (.pointer (some ⟨b, o', none⟩))) w := by
  subst ho
  have hadd : (⟨b, off, none⟩ : Addr).add (i.toNat * sz) = ⟨b, off + i.toNat * sz, none⟩ := by unfold Addr.add; split <;> simp_all
  rw [ZT (by simp)]; simp [execOp, hx, hy, Instr.indexAt, asIntOf, run_underlying hu, hsz, h0, h1, hadd]
theorem r_slice {st et : TypeId} {x y z : Operand} {sz m c : Nat} {a : Option Addr} {k k' : IntKind} {l h : Int} (hu : P.underlying st = some (.slice et)) (hsz : ∀ w, (sizeOf et).run P w = .ok sz w)
    (hx : ρ x = .slice a m c) (hy : ρ y = .int k l) (hz : ρ z = .int k' h) (h0 : 0 ≤ l) (h1 : l ≤ h) (h2 : h ≤ c) :
    (Oper.semAt ro ρ ⟨d, .slice st x (some y) (some z) none, t, p, e, g⟩).run P w = .ok (.value (.slice (if c = l.toNat then a else a.map (·.add (l.toNat * sz))) (h.toNat - l.toNat) (c - l.toNat))) w := by
  have eh : (h.toNat : Int) = h := Int.toNat_of_nonneg (by omega)
  have f1 : (Instr.sliceBound (.int k' h) c .sliceAcap).run P w = .ok h.toNat w := run_sliceBound w k' h c _ (by omega) h2
  have f2 : (Instr.sliceBound (.int k l) h.toNat .sliceB).run P w = .ok l.toNat w := run_sliceBound w k l _ _ h0 (by omega)
  rw [ZT (by simp)]; simp [execOp, hx, hy, hz, Instr.sliceAt, Instr.slice, Instr.sliceBounds, run_underlying hu, hsz, f1, f2]
theorem YY {st et : TypeId} {x y z : Operand} {sz m c : Nat} {a : Option Addr} {k k' : IntKind} {l h : Int} {l' h' n' : Nat} (hu : P.underlying st = some (.slice et)) (hsz : ∀ w, (sizeOf et).run P w = .ok sz w)
    (hx : ρ x = .slice a m c) (hy : ρ y = .int k l) (hz : ρ z = .int k' h) (hl : l = l') (hh : h = h') (h1 : l' ≤ h') (h2 : h' ≤ c) (hn : h' - l' = n') :
    (Oper.semAt ro ρ ⟨d, .slice st x (some y) (some z) none, t, p, e, g⟩).run P w = .ok (.value (.slice (if c = l' then a else a.map (·.add (l' * sz))) n' (c - l'))) w := by
  subst hl hh hn
  exact r_slice hu hsz hx hy hz (by omega) (by omega) (by omega)
theorem Y5 {st et : TypeId} {x z : Operand} {sz m c : Nat} {a : Option Addr} {k' : IntKind} {h : Int} {h' : Nat} (hu : P.underlying st = some (.slice et)) (hsz : ∀ w, (sizeOf et).run P w = .ok sz w)
    (hx : ρ x = .slice a m c) (hz : ρ z = .int k' h) (hh : h = h') (h2 : h' ≤ c) :
    (Oper.semAt ro ρ ⟨d, .slice st x none (some z) none, t, p, e, g⟩).run P w = .ok (.value (.slice a h' c)) w := by
  subst hh
  have e1 : ¬ c < h' := by omega
  have e3 : a.map (fun x => x.add 0) = a := by cases a <;> rfl
  rw [ZT (by simp)]; simp [execOp, hx, hz, Instr.sliceAt, Instr.slice, Instr.sliceBounds, Instr.sliceBound, asIntOf, run_underlying hu, hsz, e1, e3]
theorem r_slicel {st et : TypeId} {x y : Operand} {sz m c : Nat} {a : Option Addr} {k : IntKind} {l : Int} (hu : P.underlying st = some (.slice et)) (hsz : ∀ w, (sizeOf et).run P w = .ok sz w)
    (hx : ρ x = .slice a m c) (hy : ρ y = .int k l) (h0 : 0 ≤ l) (h1 : l ≤ m) :
    (Oper.semAt ro ρ ⟨d, .slice st x (some y) none none, t, p, e, g⟩).run P w = .ok (.value (.slice (if c = l.toNat then a else a.map (·.add (l.toNat * sz))) (m - l.toNat) (c - l.toNat))) w := by
  have e2 : (0 ≤ l ∧ l ≤ (m : Int)) := ⟨h0, h1⟩
  rw [ZT (by simp)]; simp [execOp, hx, hy, Instr.sliceAt, Instr.slice, Instr.sliceBounds, Instr.sliceBound, asIntOf, run_underlying hu, hsz, e2]
theorem Ym {st et : TypeId} {x y : Operand} {sz m c : Nat} {a : Option Addr} {k : IntKind} {l : Int} {l' n' : Nat} (hu : P.underlying st = some (.slice et)) (hsz : ∀ w, (sizeOf et).run P w = .ok sz w)
    (hx : ρ x = .slice a m c) (hy : ρ y = .int k l) (hl : l = l') (h1 : l' ≤ m) (hn : m - l' = n') :
    (Oper.semAt ro ρ ⟨d, .slice st x (some y) none none, t, p, e, g⟩).run P w = .ok (.value (.slice (if c = l' then a else a.map (·.add (l' * sz))) n' (c - l'))) w := by
  subst hl hn
  exact r_slicel hu hsz hx hy (by omega) (by omega)
end
theorem Sl.cut {w : World} {R : Nat → Prop} {sz m c : Nat} {a : Option Addr} {cs : List Value} (h : Sl w R sz (.slice a m c) m cs) {l k : Nat} (h1 : l ≤ k) (h2 : k ≤ m) :
    Sl w R sz (.slice (if c = l then a else a.map (·.add (l * sz))) (k - l) (c - l)) (k - l) ((cs.drop (l * sz)).take ((k - l) * sz)) := by
  obtain ⟨e1, a', cap, e2, e3, e4, e5⟩ := h
  simp only [Value.slice.injEq] at e2
  obtain ⟨rfl, _, rfl⟩ := e2
  have hle : (k - l) * sz ≤ cs.length - l * sz := by
    rw [e1, ← Nat.sub_mul]
    exact Nat.mul_le_mul_right _ (by omega)
  refine ⟨by rw [List.length_take, List.length_drop]; omega, _, _, rfl, by omega, by omega, ?_⟩
  by_cases hkl : k - l = 0
  · exact .inl hkl
  · right
    rcases e5 with e5 | ⟨b, off, cc, t, f, rfl, hR, hb, hc⟩
    · omega
    · have hcl : c ≠ l := by omega
      refine ⟨b, off + l * sz, cc, t, f, ?_, hR, hb, fun i hi => ?_⟩
      · rw [if_neg hcl]
        simp only [Option.map_some, Option.some.injEq]
        unfold Addr.add
        split <;> simp_all
      · rw [List.getElem?_take, if_pos hi, List.getElem?_drop, Nat.add_assoc]
        apply hc
        have : l * sz + i < k * sz := by
          rw [Nat.sub_mul] at hi
          have : l * sz ≤ k * sz := Nat.mul_le_mul_right _ h1
          omega
        exact Nat.lt_of_lt_of_le this (Nat.mul_le_mul_right _ h2)
theorem Sl.cutn {w : World} {R : Nat → Prop} {m c : Nat} {a : Option Addr} {K : IntKind} {li : List Int} (h : Sl w R 1 (.slice a m c) m (ints K li)) {l n : Nat} (h2 : l + n ≤ m) :
    Sl w R 1 (.slice (if c = l then a else a.map (·.add (l * 1))) n (c - l)) n (ints K ((li.drop l).take n)) := by
  have := h.cut (l := l) (k := l + n) (by omega) h2
  have e : l + n - l = n := by omega
  rw [e] at this
  simpa [ints, List.map_drop, List.map_take] using this
end Go.Fw
namespace Go.Fw
def Rec (w : World) (l : Nat) (r : Loop) : Prop := w.heap[l]? = some (.loop r)
theorem Rec.upd {w w' : World} {l : Nat} {r : Loop} {S : Nat → Prop} (h : Rec w l r) (hu : Upd S w w') (hs : ¬ S l := by intro _; omega) : Rec w' l r := hu.keep h hs
theorem Rec.Zc {w w' : World} {l : Nat} {r : Loop} (h : Rec w l r) (hu : Upd No w w') : Rec w' l r := hu.keep h (fun h => h)
theorem Rec.Zh {w w' : World} {l x : Nat} {r : Loop} (h : Rec w l r) (hu : Upd (Is x) w w') (hx : l ≠ x := by omega) : Rec w' l r := hu.keep h (fun h => hx h)
theorem Rec.lt {w : World} {l : Nat} {r : Loop} (h : Rec w l r) : l < w.heap.size := (Array.getElem?_eq_some_iff.1 h).1
def Dfr (w : World) (D : Nat) : Prop := w.heap[D]? = some (.deferred (some []))
theorem Dfr.upd {w w' : World} {D : Nat} {S : Nat → Prop} (h : Dfr w D) (hu : Upd S w w') (hs : ¬ S D := by intro _; omega) : Dfr w' D := hu.keep h hs
theorem Dfr.Zc {w w' : World} {D : Nat} (h : Dfr w D) (hu : Upd No w w') : Dfr w' D := hu.keep h (fun h => h)
theorem Dfr.Zh {w w' : World} {D x : Nat} (h : Dfr w D) (hu : Upd (Is x) w w') (hx : D ≠ x := by omega) : Dfr w' D := hu.keep h (fun h => hx h)
theorem Dfr.lt {w : World} {D : Nat} (h : Dfr w D) : D < w.heap.size := (Array.getElem?_eq_some_iff.1 h).1
section
variable {P : Program} {n : Nat} {Q : Post} {ρ : Env} {ds : List Deferred} {w : World}
def rangeQ (P : Program) (ro : Option Nat) (n : Nat) (l : Nat) (Q : Post) (ρ : Env) (ds : List Deferred) : Ending → World → Prop
  | .returned _, w => ∃ r, Rec w l r ∧ r.state ≠ .busy ∧ ∀ w', Upd (Is l) w w' → w'.heap.size = w.heap.size →
      (match r.pending with
       | none => Q .normal ρ ds w'
       | some c => W P ro n c Q ρ ds w')
  | .panicked chain, w => Q (.panic chain) ρ ds w
  | .outgrown, _ => False
theorem W_range {g : Operand} {ps : Array Tmp} {assign body : Code} {gf : FuncId} {cap : Array Value} {ar : Value → Array Value}
    (hg : ev n ρ g = .func (.func gf) #[] cap) (hf : ∀ ar w, (callFunc gf ar).run P w = .ok (.enter gf ar) w) (hcap : ∀ y, #[y] ++ cap = ar y)
    (h : ∀ D fn w1, w.heap.size = D → Upd No w w1 → w1.heap.size = D + 2 → Dfr w1 D →
      Rec w1 (D + 1) { state := .ready, pending := none, fn, tmps := tab n ρ, params := ps, assign, body, defers := D } →
      Calls P gf (ar (.func (.yield (D + 1)) #[] #[])) w1 (rangeQ P none n (D + 1) Q ρ ({ target := .collected D, args := #[] } :: ds))) :
    W P none n (.rangeFunc g ps assign body) Q ρ ds w := by
  unfold W
  refine wpIn_rangeFunc fun fn _ => ?_
  have hc := h w.heap.size fn _ rfl ((Y4 w (.deferred (some []))).Zb (Y4 _ (.loop { state := .ready, pending := none, fn, tmps := tab n ρ, params := ps, assign, body, defers := w.heap.size }))) (by simp)
    ((show Dfr (w.alloc (.deferred (some []))) w.heap.size from World.alloc_heap_new w _).Zc (Y4 _ _))
    (by
      have := World.alloc_heap_new (w.alloc (.deferred (some []))) (.loop { state := .ready, pending := none, fn, tmps := tab n ρ, params := ps, assign, body, defers := w.heap.size })
      rw [World.size_alloc] at this
      exact this)
  have he := run_enterLoop_outer (P := P) (w := w) fn (tab n ρ) ps assign body
  generalize ((w.alloc (.deferred (some []))).alloc (.loop { state := .ready, pending := none, fn, tmps := tab n ρ, params := ps, assign := assign, body := body, defers := w.heap.size })) = w1 at he hc
  refine ⟨w.heap.size + 1, _, w1, { target := .fn (.func gf) cap, args := #[.func (.yield (w.heap.size + 1)) #[] #[]] }, w1, gf, _, w1, he, ?_, fun _ _ => trivial, ?_, fun h => by simp [Fo, Fence.wide] at h, callsIn_fo (hc.mono ?_)⟩
  · rw [act_eval]
    simp [resolve, hg, Deferred.ofValue]
    rfl
  · simp [invoke, hf]
    exact hcap _
  · intro e w' he
    cases e with
    | outgrown => exact he.elim
    | panicked ch => exact ⟨ρ, rfl, he⟩
    | returned v =>
      obtain ⟨r, hr, hb, hk⟩ := he
      have hk' := hk _ (upd_putObj w' _ (.loop { r with state := .exhausted })) (by simp)
      refine ⟨r.pending, _, run_endLoop hr hb, ?_⟩
      cases hp : r.pending with
      | none => rw [hp] at hk'; exact ⟨ρ, rfl, hk'⟩
      | some c => rw [hp] at hk'; exact hk'
def YieldC (P : Program) (l : Nat) (args : Array Value) (w : World) (R : Ending → World → Prop) : Prop :=
  ∃ f tmps assign body, (Instr.yield l args).run P w = .ok (.round l f tmps assign body) w ∧ RoundIn Fence.wide 0 P l f tmps assign body w R
theorem YieldC.mono {l : Nat} {args : Array Value} {R R' : Ending → World → Prop} (h : YieldC P l args w R) (hr : ∀ e w', R e w' → R' e w') : YieldC P l args w R' :=
  let ⟨f, t, a, b, h1, h2⟩ := h; ⟨f, t, a, b, h1, h2.mono hr⟩
def roundQ (l : Nat) (R : Bool → Option Code → World → Prop) : Post
  | .normal, _, ds, w => ds = [] ∧ ∃ r, Rec w l r ∧ ∀ w', Upd (Is l) w w' → w'.heap.size = w.heap.size → Rec w' l { r with state := .ready, pending := none } → R true none w'
  | .ret, _, ds, w => ds = [] ∧ ∃ r, Rec w l r ∧ ∀ w', Upd (Is l) w w' → w'.heap.size = w.heap.size → Rec w' l { r with state := .done, pending := some .ret } → R false (some .ret) w'
  | .exit id, _, ds, w => ds = [] ∧ ∃ r, Rec w l r ∧ ∀ w', Upd (Is l) w w' → w'.heap.size = w.heap.size → Rec w' l { r with state := .done, pending := some (.exit id) } → R false (some (.exit id)) w'
  | .goto t, _, ds, w => ds = [] ∧ ∃ r, Rec w l r ∧ ∀ w', Upd (Is l) w w' → w'.heap.size = w.heap.size → Rec w' l { r with state := .done, pending := some (.goto t) } → R false (some (.goto t)) w'
  | _, _, _, _ => False
theorem rec_put {l : Nat} {r r' : Loop} (h : Rec w l r) : Rec (w.putObj l (.loop r')) l r' := World.putObj_heap_same (Array.getElem?_eq_some_iff.1 h).1
theorem round_of_W {l : Nat} {f : FuncId} {assign body : Code} {ρ1 : Env} {R : Bool → Option Code → World → Prop}
    (h : W P (some l) n assign (fun e ρ ds w => match e with
      | .normal => ds = [] ∧ ∃ r, Rec w l r ∧ r.state = .ready ∧ ∀ w', Upd (Is l) w w' → w'.heap.size = w.heap.size → Rec w' l { r with state := .busy } → W P (some l) n body (roundQ l R) ρ [] w'
      | _ => False) ρ1 [] w) :
    RoundIn Fence.wide 0 P l f (tab n ρ1) assign body w (fun e w' => match e with
      | .returned v => ∃ b c, v = .bool b ∧ R b c w'
      | _ => False) := by
  refine ⟨trivial, fun c cs hr => ?_⟩
  let b : Frame := { (default : Frame) with fn := f, kind := .normal, roundOf := some l }
  have hb0 : Frame.round l f (tab n ρ1) assign body .normal = b.atR { tmps := tab n ρ1, defers := [] } [.code assign, .beginRound, .code body] := by
    simp [Frame.round, Frame.atR, b]
  obtain ⟨e, ⟨t1, d1⟩, w₁, ⟨ρ', h1, h2⟩, harr⟩ := h b [.beginRound, .code body] (c :: cs) rfl trivial (fo_room _ _)
  rw [← hb0] at harr
  have wide : ∀ m m', StepsIn (Machine.fenced P (Fo (some l))) P m m' → StepsIn (Machine.fenced P Fence.wide) P m m' := fun m m' hs => stepsIn_wide.2 hs.steps
  simp only at h1 h2
  subst h1
  cases e with
  | normal =>
    obtain ⟨rfl, r, hrec, hready, hbody⟩ := h2
    have hbody := hbody _ (upd_putObj w₁ l (.loop { r with state := .busy })) (by simp) (rec_put hrec)
    have s1 : StepsIn (Machine.fenced P (Fo (some l))) P (lone (b.atR ⟨tab n ρ', []⟩ [.beginRound, .code body]) (c :: cs) w₁) (lone (b.atR ⟨tab n ρ', []⟩ [.code body]) (c :: cs) _) :=
      .one (fenced_calm (n := 0) (fr := b.atR ⟨tab n ρ', []⟩ [.beginRound, .code body]) trivial (fo_room _ _) rfl) (stepR_beginRound rfl (run_beginRound hrec hready))
    obtain ⟨e₂, ⟨t2, d2⟩, w₃, ⟨ρ2, h3, h4⟩, harr₂⟩ := hbody b [] (c :: cs) rfl trivial (fo_room _ _)
    simp only at h3 h4
    subst h3
    have s0 := (StepsIn.trans harr s1)
    cases e₂ with
    | normal =>
      obtain ⟨rfl, r2, hr2, hk⟩ := h4
      have := hk _ (upd_putObj w₃ l (.loop { r2 with state := .ready, pending := none })) (by simp) (rec_put hr2)
      exact ⟨.returned (.bool true), _, ⟨true, none, rfl, this⟩, wide _ _ (s0.trans (StepsIn.trans harr₂ (.one (fenced_calm (n := 0) (fr := b.atR ⟨tab n ρ2, []⟩ []) trivial (fo_room _ _) rfl) (stepR_round_end rfl rfl (run_endRound none hr2)))))⟩
    | ret =>
      obtain ⟨rfl, r2, hr2, hk⟩ := h4
      have := hk _ (upd_putObj w₃ l (.loop { r2 with state := .done, pending := some .ret })) (by simp) (rec_put hr2)
      obtain ⟨k₁, hs⟩ := harr₂.2 rfl
      exact ⟨.returned (.bool false), _, ⟨false, _, rfl, this⟩, wide _ _ (s0.trans (StepsIn.trans hs (.one (fenced_calm (n := 0) (fr := b.atR ⟨tab n ρ2, []⟩ (.code .ret :: k₁)) trivial (fo_room _ _) rfl) (stepR_round_ret rfl rfl (run_endRound (some .ret) hr2)))))⟩
    | exit id =>
      obtain ⟨rfl, r2, hr2, hk⟩ := h4
      have := hk _ (upd_putObj w₃ l (.loop { r2 with state := .done, pending := some (.exit id) })) (by simp) (rec_put hr2)
      obtain ⟨k₁, hx, hs⟩ := harr₂.2 rfl rfl
      exact ⟨.returned (.bool false), _, ⟨false, _, rfl, this⟩, wide _ _ (s0.trans (StepsIn.trans hs (.one (fenced_calm (n := 0) (fr := b.atR ⟨tab n ρ2, []⟩ (.code (.exit id) :: k₁)) trivial (fo_room _ _) rfl) (stepR_round_exit rfl rfl hx (run_endRound (some (.exit id)) hr2)))))⟩
    | goto t =>
      obtain ⟨rfl, r2, hr2, hk⟩ := h4
      have := hk _ (upd_putObj w₃ l (.loop { r2 with state := .done, pending := some (.goto t) })) (by simp) (rec_put hr2)
      obtain ⟨k₁, hx, hs⟩ := harr₂.2 rfl rfl
      exact ⟨.returned (.bool false), _, ⟨false, _, rfl, this⟩, wide _ _ (s0.trans (StepsIn.trans hs (.one (fenced_calm (n := 0) (fr := b.atR ⟨tab n ρ2, []⟩ (.code (.goto t) :: k₁)) trivial (fo_room _ _) rfl) (stepR_round_goto rfl rfl hx (run_endRound (some (.goto t)) hr2)))))⟩
    | panic ch => exact h4.elim
    | outgrown => exact h4.elim
  | exit id => exact h2.elim
  | goto t => exact h2.elim
  | ret => exact h2.elim
  | panic chain => exact h2.elim
  | outgrown => exact h2.elim
theorem yieldC_of_W {l : Nat} {r : Loop} {args : Array Value} {ρ1 : Env} {R : Bool → Option Code → World → Prop} {RR : Ending → World → Prop}
    (hl : Rec w l r) (hs : args.size = r.params.size) (ht : (r.params.zip args).foldl (fun tmps (t, a) => tmps.setIfInBounds t a) r.tmps = tab n ρ1)
    (h : W P (some l) n r.assign (fun e ρ ds w => match e with
      | .normal => ds = [] ∧ ∃ r', Rec w l r' ∧ r'.state = .ready ∧ ∀ w', Upd (Is l) w w' → w'.heap.size = w.heap.size → Rec w' l { r' with state := .busy } → W P (some l) n r.body (roundQ l R) ρ [] w'
      | _ => False) ρ1 [] w) (hR : ∀ b c w', R b c w' → RR (.returned (.bool b)) w') : YieldC P l args w RR := by
  refine ⟨r.fn, tab n ρ1, r.assign, r.body, ?_, (round_of_W h).mono ?_⟩
  · rw [run_yield hl hs, ht]
  · intro e w' he
    cases e with
    | returned v => obtain ⟨b, c, rfl, hr⟩ := he; exact hR b c w' hr
    | panicked ch => exact he.elim
    | outgrown => exact he.elim
theorem zip2 (n : Nat) (ρ : Env) (t u : Tmp) (v x : Value) : ((#[t, u].zip #[v, x]).foldl (fun tmps (t, a) => tmps.setIfInBounds t a) (tab n ρ)) = tab n (upd (upd ρ t v) u x) := by simp [tab_set]
theorem Wl_yield2 {ro : Option Nat} {ops : Array Oper} {rest : List Oper} {d : Option Tmp} {t : TypeId} {p : String} {e : Array Edge} {y x x2 : Operand} {ts : Array TypeId} {l : Nat} {v v2 : Value} {A B : World → Prop}
    (hy : ev n ρ y = .func (.yield l) #[] #[]) (hx : ev n ρ x = v) (hx2 : ev n ρ x2 = v2) (hc : YieldC P l #[v, v2] w (fun e w' => (e = .returned (.bool true) ∧ A w') ∨ (e = .returned (.bool false) ∧ B w')))
    (ht : ∀ w', A w' → Wl P ro n ops Q rest (put ρ d (.bool true)) ds w') (hf : ∀ w', B w' → Wl P ro n ops Q rest (put ρ d (.bool false)) ds w') :
    Wl P ro n ops Q (⟨d, .call { callee := .value y, args := #[x, x2], argTypes := ts }, t, p, e, none⟩ :: rest) ρ ds w := by
  obtain ⟨f, tm, as', bd, h1, h2⟩ := hc
  refine Wl_run rfl ?_
  have hr : (Oper.semAt ro (ev n ρ) ⟨d, .call { callee := .value y, args := #[x, x2], argTypes := ts }, t, p, e, none⟩).run P w = .ok (.round l f tm as' bd) w := by
    rw [YO]; simp [execOp, resolve, Deferred.ofValue, hy, hx, hx2, invoke, h1]
  rw [hr]
  refine h2.mono ?_
  rintro e w' (⟨rfl, ha⟩ | ⟨rfl, hb⟩)
  · exact ht w' ha
  · exact hf w' hb
end
theorem ZC {w : World} {R : Nat → Prop} {n : Nat} {v : Value} {K : IntKind} {l : List Int} (h : Sl w R 1 v n (ints K l)) : l.length = n := by simpa [ints] using h.len
theorem Y6 {a b c a' b' c' : Value} (h1 : a = a') (h2 : b = b') (h3 : c = c') : Value.tuple #[a, b, c] = .tuple #[a', b', c'] := by rw [h1, h2, h3]
theorem Yx {a b a' b' : Value} (h1 : a = a') (h2 : b = b') : Value.tuple #[a, b] = .tuple #[a', b'] := by rw [h1, h2]
end Go.Fw
namespace Go.Fw
theorem vbool {p q : Prop} [Decidable p] [Decidable q] (h : p ↔ q) : Value.bool (decide p) = Value.bool (decide q) := by
  by_cases hq : q <;> simp [h, hq]
theorem ZO : Byt [] := fun x hx => by simp at hx
theorem Sl.cuth {w : World} {R : Nat → Prop} {m c : Nat} {a : Option Addr} {K : IntKind} {li : List Int} (h : Sl w R 1 (.slice a m c) m (ints K li)) {n : Nat} (h2 : n ≤ m) : Sl w R 1 (.slice a n c) n (ints K (li.take n)) := by
  obtain ⟨e1, a', cap, e2, e3, e4, e5⟩ := h
  simp only [Value.slice.injEq] at e2
  obtain ⟨rfl, _, rfl⟩ := e2
  simp only [ints, List.length_map, Nat.mul_one] at e1
  refine ⟨by simp [ints]; omega, _, _, rfl, by omega, e4, ?_⟩
  rcases e5 with e5 | ⟨b, off, cc, t, f, rfl, hR, hb, hc⟩
  · exact .inl (by omega)
  · refine .inr ⟨b, off, cc, t, f, rfl, hR, hb, fun i hi => ?_⟩
    rw [hc i (by omega), ints, ints, List.map_take, List.getElem?_take, if_pos (by omega)]
theorem Sl.cutl {w : World} {R : Nat → Prop} {m c : Nat} {a : Option Addr} {K : IntKind} {li : List Int} (h : Sl w R 1 (.slice a m c) m (ints K li)) {l n : Nat} (h2 : l ≤ m) (hn : m - l = n) :
    Sl w R 1 (.slice (if c = l then a else a.map (·.add (l * 1))) n (c - l)) n (ints K (li.drop l)) := by
  have := h.cutn (l := l) (n := n) (by omega)
  have e1 := h.len
  simp only [ints, List.length_map, Nat.mul_one] at e1
  rwa [List.take_of_length_le (by simp; omega)] at this
section
variable {P : Program} {ro : Option Nat} {n : Nat} {Q : Post} {ρ : Env} {ds : List Deferred} {w : World} {ops : Array Oper} {rest : List Oper} {d : Nat} {t : TypeId} {p : String} {e : Array Edge}
theorem Ye {st et : TypeId} {ti : TypeInfo} {z : Value} {sz by' tot : Nat} {cs cs2 cs3 : List Value} (hcs : cs ++ cs2 = cs3) (hu : P.underlying st = some (.slice et)) (hi : P.info? et = some ti) (hz : ti.zero = some z) (hsz : ti.size = sz) (hby : ti.bytes = by') (hzc : z.cells.size = sz) (hpos : 0 < sz)
    {x y : Operand} {R R2 : Nat → Prop} {v v2 : Value} {m k : Nat} (hx : ev n ρ x = v) (ho : Own w R et sz v m cs) (hy : ev n ρ y = v2) (hs : Sl w R2 sz v2 k cs2) (one : ∀ u ∈ cs2, u.oneCell' = true) (htot : m + k = tot)
    (h63 : m + k ≤ maxLen) (hb : (m + k) * by' ≤ 140737488355328)
    (h : ∀ a c w', Upd R w w' → w'.heap.size ≤ w.heap.size + 1 → Own w' (fun g => R g ∨ g = w.heap.size) et sz (.slice a tot c) tot cs3 → Wl P ro n ops Q rest (upd ρ d (.slice a tot c)) ds w') :
    Wl P ro n ops Q (⟨some d, .call { callee := .builtin .append, args := #[x, y], argTypes := #[st, st] }, t, p, e, none⟩ :: rest) ρ ds w := by
  subst htot hcs
  exact Wl_append hu hi hz hsz hby hzc hpos hx ho hy hs one h63 hb h
theorem Z1 {st et : TypeId} {ti : TypeInfo} {z : Value} {sz by' tot : Nat} {k' : IntKind} {xs ys zs : List Int} (hcs : xs ++ ys = zs) (hu : P.underlying st = some (.slice et)) (hi : P.info? et = some ti) (hz : ti.zero = some z) (hsz : ti.size = sz) (hby : ti.bytes = by') (hzc : z.cells.size = sz) (hpos : 0 < sz)
    {x y : Operand} {R R2 : Nat → Prop} {v v2 : Value} {m k : Nat} (hx : ev n ρ x = v) (ho : Own w R et sz v m (ints k' xs)) (hy : ev n ρ y = v2) (hs : Sl w R2 sz v2 k (ints k' ys)) (htot : m + k = tot)
    (h63 : m + k ≤ maxLen) (hb : (m + k) * by' ≤ 140737488355328)
    (h : ∀ a c w', Upd R w w' → w'.heap.size ≤ w.heap.size + 1 → Own w' (fun g => R g ∨ g = w.heap.size) et sz (.slice a tot c) tot (ints k' zs) → Wl P ro n ops Q rest (upd ρ d (.slice a tot c)) ds w') :
    Wl P ro n ops Q (⟨some d, .call { callee := .builtin .append, args := #[x, y], argTypes := #[st, st] }, t, p, e, none⟩ :: rest) ρ ds w := by
  subst htot hcs
  refine Wl_append hu hi hz hsz hby hzc hpos hx ho hy hs one_ints h63 hb fun a c w' h1 h2 h3 => h a c w' h1 h2 ?_
  rw [ints, List.map_append]
  exact h3
end
theorem res4 {fn : Func} {w : World} {P : Program} {n : Nat} {ρ : Env} {a b c d : Tmp} {v1 v2 v3 v4 : Value} (h : fn.results = #[.tmp a, .tmp b, .tmp c, .tmp d]) (h1 : ev n ρ (.tmp a) = v1) (h2 : ev n ρ (.tmp b) = v2) (h3 : ev n ρ (.tmp c) = v3) (h4 : ev n ρ (.tmp d) = v4) :
    (results fn (tab n ρ)).run P w = .ok (.tuple #[v1, v2, v3, v4]) w := by
  have e1 := (Array.getD_eq_getD_getElem? (xs := tab n ρ) (i := a) (d := undef)).symm.trans (YF n ρ a)
  rw [h1] at e1
  have e2 := (Array.getD_eq_getD_getElem? (xs := tab n ρ) (i := b) (d := undef)).symm.trans (YF n ρ b)
  rw [h2] at e2
  have e3 := (Array.getD_eq_getD_getElem? (xs := tab n ρ) (i := c) (d := undef)).symm.trans (YF n ρ c)
  rw [h3] at e3
  have e4 := (Array.getD_eq_getD_getElem? (xs := tab n ρ) (i := d) (d := undef)).symm.trans (YF n ρ d)
  rw [h4] at e4
  simp only [results, h]
  simp
  exact ⟨e1, e2, e3, e4⟩
theorem vtup4 {a b c d a' b' c' d' : Value} (h1 : a = a') (h2 : b = b') (h3 : c = c') (h4 : d = d') : Value.tuple #[a, b, c, d] = .tuple #[a', b', c', d'] := by rw [h1, h2, h3, h4]
end Go.Fw
namespace Go.Fw
def rows {α : Type} (enc : α → List Value) (l : List α) : List Value := l.flatMap enc
theorem rows_len {α : Type} {enc : α → List Value} {sz : Nat} (hs : ∀ x, (enc x).length = sz) : ∀ l : List α, (rows enc l).length = l.length * sz
  | [] => by simp [rows]
  | x :: l => by
    have := rows_len hs l
    simp only [rows, List.flatMap_cons, List.length_append, List.length_cons, hs, Nat.add_mul] at this ⊢
    omega
theorem rows_get {α : Type} {enc : α → List Value} {sz : Nat} (hs : ∀ x, (enc x).length = sz) (dflt : α) : ∀ (l : List α) (i j : Nat), i < l.length → j < sz → (rows enc l)[i * sz + j]? = (enc (l.getD i dflt))[j]?
  | [], _, _, h, _ => by simp at h
  | x :: l, 0, j, _, hj => by
    simp only [rows, List.flatMap_cons, Nat.zero_mul, Nat.zero_add]
    rw [List.getElem?_append_left (by rw [hs]; exact hj)]; rfl
  | x :: l, i + 1, j, h, hj => by
    simp only [List.length_cons] at h
    have := rows_get hs dflt l i j (by omega) hj
    simp only [rows, List.flatMap_cons] at this ⊢
    rw [List.getElem?_append_right (by rw [hs, Nat.add_mul]; omega), hs, show (i + 1) * sz + j - sz = i * sz + j from by rw [Nat.add_mul]; omega, this]
    rfl
theorem ZR {α : Type} {enc : α → List Value} (l m : List α) : rows enc (l ++ m) = rows enc l ++ rows enc m := by simp [rows]
theorem Ya {α : Type} {enc : α → List Value} {sz : Nat} (hs : ∀ x, (enc x).length = sz) (hp : 0 < sz) {w : World} {R : Nat → Prop} {n : Nat} {v : Value} {l : List α} (h : Sl w R sz v n (rows enc l)) : l.length = n := by
  have h1 := h.len
  rw [rows_len hs] at h1
  exact Nat.eq_of_mul_eq_mul_right hp h1
theorem Own.addr {w : World} {R : Nat → Prop} {sz n c : Nat} {e : TypeId} {a : Option Addr} {cs : List Value} (h : Own w R e sz (.slice a n c) n cs) (hn : 0 < n) : ∃ g, a = some ⟨g, 0, none⟩ ∧ R g := by
  obtain ⟨⟨h1, h2⟩, h3⟩ := h
  rcases h2 with ⟨h4, rfl⟩ | ⟨g, cap, cur, h5, _⟩
  · omega
  · simp only [Value.slice.injEq] at h5
    obtain ⟨rfl, _, rfl⟩ := h5
    exact ⟨g, rfl, h3 g rfl⟩
theorem Own.cellAt {w : World} {R : Nat → Prop} {n c g : Nat} {e : TypeId} {k : IntKind} {l : List Int} (h : Own w R e 1 (.slice (some ⟨g, 0, none⟩) n c) n (ints k l)) {i : Nat} (hi : i < n) : w.cell? ⟨g, i, none⟩ = some (.int k (l.getD i 0)) := by
  obtain ⟨b, off, ha, _, hc⟩ := h.sl.iat hi
  simp only [Option.some.injEq, Addr.mk.injEq, and_true] at ha
  obtain ⟨rfl, rfl⟩ := ha
  rw [Nat.zero_add] at hc
  exact hc
theorem Own.setAt {w : World} {R : Nat → Prop} {n c g : Nat} {e : TypeId} {k : IntKind} {l : List Int} (h : Own w R e 1 (.slice (some ⟨g, 0, none⟩) n c) n (ints k l)) {i : Nat} (hi : i < n) (x : Int) :
    Own (w.setCell ⟨g, i, none⟩ (.int k x)) R e 1 (.slice (some ⟨g, 0, none⟩) n c) n (ints k (l.set i x)) ∧ w.frozen? ⟨g, i, none⟩ = false := by
  obtain ⟨⟨h1, h2⟩, h3⟩ := h
  rcases h2 with ⟨h4, rfl⟩ | ⟨g', cap, cur, h5, hb, hg, hnc, hcm, hcs, ht⟩
  · omega
  · simp only [Value.slice.injEq, Option.some.injEq, Addr.mk.injEq, and_true, true_and] at h5
    obtain ⟨rfl, rfl⟩ := h5
    refine ⟨⟨⟨by simpa [ints] using h1, .inr ⟨g, c, cur.setIfInBounds i (.int k x), rfl, hb, ?_, hnc, hcm, by simpa using hcs, ?_⟩⟩, h3⟩, ?_⟩
    · simp [World.setCell, Array.getElem?_modify, hg]
    · rw [Array.toList_setIfInBounds, List.take_set, ht, ints, ints, List.map_set]
    · simp [World.frozen?, hg]
section
variable {P : Program} {ro : Option Nat} {n : Nat} {Q : Post} {ρ : Env} {ds : List Deferred} {w : World} {ops : Array Oper} {rest : List Oper} {d : Nat} {t : TypeId} {p : String} {e : Array Edge}
theorem Yg {α : Type} {enc : α → List Value} {st et : TypeId} {x y : Operand} {R : Nat → Prop} {sz m : Nat} {a : Option Addr} {c : Nat} {l : List α} {k' : IntKind} {i : Int} (dflt : α) (hs : ∀ x, (enc x).length = sz) (hpos : 0 < sz) (hu : P.underlying st = some (.slice et)) (hsz : ∀ w, (sizeOf et).run P w = .ok sz w)
    (hx : ev n ρ x = .slice a m c) (hy : ev n ρ y = .int k' i) (hsl : Sl w R sz (.slice a m c) m (rows enc l)) (h0 : 0 ≤ i) (h1 : i < m)
    (h : ∀ b off, (∀ j, j < sz → w.cell? ⟨b, off + j, none⟩ = (enc (l.getD i.toNat dflt))[j]?) → Wl P ro n ops Q rest (upd ρ d (.pointer (some ⟨b, off, none⟩))) ds w) :
    Wl P ro n ops Q (⟨some d, .indexAddr st x y, t, p, e, none⟩ :: rest) ρ ds w := by
  have hl := Ya hs hpos hsl
  refine Wl_idx hu hsz hx hy hsl h0 h1 fun b off hc => h b off fun j hj => ?_
  rw [hc j hj, rows_get hs dflt _ _ _ (by omega) hj]
theorem load_cells {b off sz : Nat} {cs : List Value} (hl : cs.length = sz) (hc : ∀ j, j < sz → w.cell? ⟨b, off + j, none⟩ = cs[j]?) : (loadCells (⟨b, off, none⟩ : Addr) sz).run P w = .ok cs.toArray w := by
  subst hl
  refine run_loadCells_list w ⟨b, off, none⟩ cs fun j u hu => ?_
  have hj : j < cs.length := by
    rcases Nat.lt_or_ge j cs.length with h | h
    · exact h
    · simp [List.getElem?_eq_none h] at hu
  have hadd : (⟨b, off, none⟩ : Addr).add j = ⟨b, off + j, none⟩ := by unfold Addr.add; split <;> simp_all
  rw [hadd, hc j (by omega)]; exact hu
theorem YE {dd : Option Tmp} {g : Option (Nat × Bool)} {ρ' : Operand → Value} {lt : TypeId} {x : Operand} {b off sz : Nat} {cs : List Value} (hag : ∀ w, (isAgg lt).run P w = .ok true w) (hsz : ∀ w, (sizeOf lt).run P w = .ok sz w) (hx : ρ' x = .pointer (some ⟨b, off, none⟩)) (hl : cs.length = sz)
    (hc : ∀ j, j < sz → w.cell? ⟨b, off + j, none⟩ = cs[j]?) : (Oper.semAt ro ρ' ⟨dd, .load lt x, t, p, e, g⟩).run P w = .ok (.value (.agg cs.toArray)) w := by
  rw [ZT (by simp)]; simp [execOp, hx, Instr.loadAt, Instr.sureAddr, loadVar, hag, hsz, load_cells hl hc]
theorem Wl_idxo {st et : TypeId} {x y : Operand} {R : Nat → Prop} {m g : Nat} {c : Nat} {l : List Int} {k k' : IntKind} {i : Int} {i' : Nat} (hu : P.underlying st = some (.slice et)) (hsz : ∀ w, (sizeOf et).run P w = .ok 1 w)
    (hx : ev n ρ x = .slice (some ⟨g, 0, none⟩) m c) (hy : ev n ρ y = .int k' i) (ho : Own w R et 1 (.slice (some ⟨g, 0, none⟩) m c) m (ints k l)) (hi : i = i') (h1 : i' < m)
    (h : w.cell? ⟨g, i', none⟩ = some (.int k (l.getD i' 0)) → Wl P ro n ops Q rest (upd ρ d (.pointer (some ⟨g, i', none⟩))) ds w) :
    Wl P ro n ops Q (⟨some d, .indexAddr st x y, t, p, e, none⟩ :: rest) ρ ds w := by
  subst hi
  refine Zf (v := .pointer (some ⟨g, i', none⟩)) (w' := w) ?_ (h (ho.cellAt h1))
  have h2 : (i' : Int) < m := by omega
  rw [ZT (by simp)]; simp [execOp, hx, hy, Instr.indexAt, asIntOf, run_underlying hu, hsz, h1, h2, Addr.add]
  exact fun h => h.symm
theorem Wl_storeo {st et : TypeId} {x y : Operand} {R : Nat → Prop} {m g i : Nat} {c : Nat} {l : List Int} {k : IntKind} {v : Int} {dd : Option Nat} (hsz : ∀ w, (sizeOf st).run P w = .ok 1 w) (hx : ev n ρ x = .pointer (some ⟨g, i, none⟩)) (hy : ev n ρ y = .int k v)
    (ho : Own w R et 1 (.slice (some ⟨g, 0, none⟩) m c) m (ints k l)) (hi : i < m)
    (h : ∀ w', Upd (Is g) w w' → w'.heap.size = w.heap.size → Own w' R et 1 (.slice (some ⟨g, 0, none⟩) m c) m (ints k (l.set i v)) → Wl P ro n ops Q rest (put ρ dd undef) ds w') :
    Wl P ro n ops Q (⟨dd, .store st x y, t, p, e, none⟩ :: rest) ρ ds w := by
  have hs := ho.setAt hi v
  refine Wl_u (w' := w.setCell ⟨g, i, none⟩ (.int k v)) ?_ (h _ (upd_setCell w ⟨g, i, none⟩ _) (by simp) hs.1)
  have hc := ho.cellAt hi
  have hadd : (⟨g, i, none⟩ : Addr).add 0 = ⟨g, i, none⟩ := rfl
  rw [ZT (by simp)]; simp [execOp, hx, hy, Instr.storeAt, Instr.sureAddr, storeVar, hsz, Value.cells, storeCells, hadd, run_store P w _ (.int k v) _ rfl, hc, hs.2]
end
end Go.Fw
