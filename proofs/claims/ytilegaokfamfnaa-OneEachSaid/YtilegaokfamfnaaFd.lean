/-
  Regions that draw their order: quiet operations (they read, or call what only reads) may be taken first, in the text's order.
-/
import Derived.Test.YtilegaokfamfnaaFr
import Derived.Orders
namespace Go.Fw

/-- the world has grown at the most -/
def Same (w w' : World) : Prop := Upd No w w'
theorem Same.refl (w : World) : Same w w := Upd.refl _ _
theorem Same.trans {a b c : World} (h : Same a b) (k : Same b c) : Same a c := Upd.trans0 h k
theorem Same.upd {a b : World} (h : Same a b) : Upd No a b := h
theorem same_drew (w : World) : Same w { w with drawn := w.drawn + 1 } := ⟨rfl, rfl, rfl, Nat.le_refl _, fun _ _ _ => rfl⟩

def npan : Post := fun _ _ _ _ => False
def Ws (P : Program) (ro : Option Nat) (n : Nat) (ops : Array Oper) (o : Oper) (K : Env → List Deferred → World → Prop) (ρ : Env) (ds : List Deferred) (w : World) : Prop :=
  if Region.wanted o (grd n ρ ops) then upon P o K npan ρ ds ((o.semAt ro (ev n ρ)).run P w) else K (put ρ o.dst undef) ds w

theorem upon_mono {P : Program} {o : Oper} {K K' : Env → List Deferred → World → Prop} {Q Q' : Post} {ρ : Env} {ds : List Deferred} {r : Result Next}
    (hk : ∀ ρ ds w, K ρ ds w → K' ρ ds w) (hq : ∀ c ρ ds w, Q (.panic c) ρ ds w → Q' (.panic c) ρ ds w) (h : upon P o K Q ρ ds r) : upon P o K' Q' ρ ds r := by
  cases r with
  | ok x w' =>
    cases x <;> simp only [upon] at h ⊢ <;> first | exact h.elim | exact hk _ _ _ h | skip
    case enter f args => exact h.mono fun e w'' he => by cases e <;> first | exact hk _ _ _ he | exact hq _ _ _ _ he | exact he
    case round l f tmps assign body => exact h.mono fun e w'' he => by cases e <;> first | exact hk _ _ _ he | exact hq _ _ _ _ he | exact he
  | halt x w' =>
    cases x <;> simp only [upon] at h ⊢ <;> first | exact h.elim | exact hq _ _ _ _ h
theorem Ws_mono {P : Program} {ro : Option Nat} {n : Nat} {ops : Array Oper} {o : Oper} {K K' : Env → List Deferred → World → Prop} {ρ : Env} {ds : List Deferred} {w : World}
    (hk : ∀ ρ ds w, K ρ ds w → K' ρ ds w) (h : Ws P ro n ops o K ρ ds w) : Ws P ro n ops o K' ρ ds w := by
  unfold Ws at *
  split
  · rename_i hw; rw [if_pos hw] at h; exact upon_mono hk (fun _ _ _ _ h => h) h
  · rename_i hw; rw [if_neg hw] at h; exact hk _ _ _ h

section
variable {P : Program} {ro : Option Nat} {n : Nat} {ops : Array Oper} {K0 : Env → List Deferred → World → Prop} {S : World → Prop}

def Wix (P : Program) (ro : Option Nat) (n : Nat) (ops : Array Oper) (K0 : Env → List Deferred → World → Prop) : List Nat → Env → List Deferred → World → Prop
  | [], ρ, ds, w => K0 ρ ds w
  | i :: rest, ρ, ds, w =>
    match ops[i]? with
    | none => Wix P ro n ops K0 rest ρ ds w
    | some o => Ws P ro n ops o (Wix P ro n ops K0 rest) ρ ds w

theorem wpOpsIn_of_Wix {Q : Post} (hQ : ∀ ρ ds w, K0 ρ ds w → Q .normal ρ ds w) : ∀ (l : List Nat) (ρ : Env) (ds : List Deferred) (w : World), Wix P ro n ops K0 l ρ ds w →
    wpOpsIn (Fo ro) 0 P ops (lift n Q) l ⟨tab n ρ, ds⟩ w
  | [], ρ, ds, w, h => ⟨ρ, rfl, hQ _ _ _ h⟩
  | i :: l, ρ, ds, w, h => by
    have ih := wpOpsIn_of_Wix hQ l
    simp only [wpOpsIn]
    simp only [Wix] at h
    cases hi : ops[i]? with
    | none => simp only [hi] at h ⊢; exact ih _ _ _ h
    | some o =>
      simp only [hi] at h ⊢
      have hy : (yielded ops (tab n ρ)) = grd n ρ ops := funext (yielded_eq n ρ ops)
      rw [hy]
      unfold Ws at h
      by_cases hw : Region.wanted o (grd n ρ ops) = true
      · simp only [hw, if_true] at h ⊢
        refine ⟨fun _ _ => trivial, ?_⟩
        rw [act_eval]
        change o.uponIn (Fo ro) 0 P ⟨tab n ρ, ds⟩ _ _ ((o.semAt ro (ev n ρ)).run P w)
        generalize (o.semAt ro (ev n ρ)).run P w = r at h ⊢
        cases r with
        | ok x w' =>
          cases x <;> simp only [upon] at h <;> first | exact h.elim | skip
          case value v => rw [Oper.uponIn_value, act_put]; exact ih _ _ _ h
          case skip => rw [Oper.uponIn_skip, act_put]; exact ih _ _ _ h
          case defer d =>
            rw [Oper.uponIn_defer]
            have := act_put n ρ (d :: ds) o.dst undef
            simp only at this ⊢
            rw [this]
            exact ih _ _ _ h
          case enter f args =>
            rw [Oper.uponIn_enter]
            refine ⟨fun h => by simp [Fo, Fence.wide] at h, callsIn_fo (h.mono ?_)⟩
            intro e w'' he
            cases e with
            | returned v => simp only at he ⊢; rw [act_put]; exact ih _ _ _ he
            | panicked ch => exact he.elim
            | outgrown => exact he.elim
          case round l' f tmps assign body =>
            rw [Oper.uponIn_round]
            refine ⟨fun h => by simp [Fo, Fence.wide] at h, roundIn_fo (h.mono ?_)⟩
            intro e w'' he
            cases e with
            | returned v => simp only at he ⊢; rw [act_put]; exact ih _ _ _ he
            | panicked ch => exact he.elim
            | outgrown => exact he.elim
        | halt x w' =>
          cases x <;> simp only [upon] at h <;> exact h.elim
      · have hw' : Region.wanted o (grd n ρ ops) = false := by simpa using hw
        simp only [hw', Bool.false_eq_true, if_false] at h ⊢
        rw [act_put]
        exact ⟨fun _ _ => trivial, ih _ _ _ h⟩

/-- operation i waits for operation j -/
def dep (ops : Array Oper) (i j : Nat) : Bool := ((ops[i]?).map fun o => o.after.any fun e => e.on == j && Region.binds .any e).getD false
/-- which operations wait for operation i, or are it -/
def reachB (ops : Array Oper) (i : Nat) : List Nat := (List.range ops.size).foldl (fun m k => if k == i || m.any (fun j => dep ops k j) then k :: m else m) []
inductive Rch (ops : Array Oper) : Nat → Nat → Prop
  | one {i j : Nat} : dep ops i j = true → Rch ops i j
  | more {i j k : Nat} : dep ops i j = true → Rch ops j k → Rch ops i k
theorem reachB_spec {ops : Array Oper} {i : Nat} : ∀ j ∈ reachB ops i, j = i ∨ Rch ops j i := by
  unfold reachB
  have key : ∀ (l m : List Nat), (∀ j ∈ m, j = i ∨ Rch ops j i) → ∀ j ∈ l.foldl (fun m k => if k == i || m.any (fun j => dep ops k j) then k :: m else m) m, j = i ∨ Rch ops j i := by
    intro l
    induction l with
    | nil => intro m h j hj; exact h j hj
    | cons k l ih =>
      intro m h
      simp only [List.foldl_cons]
      refine ih _ ?_
      split
      · rename_i hk
        intro j hj
        rcases List.mem_cons.1 hj with rfl | hj
        · simp only [Bool.or_eq_true, beq_iff_eq] at hk
          rcases hk with hk | hk
          · exact .inl hk
          · obtain ⟨x, hx, hd⟩ := List.any_eq_true.1 hk
            rcases h x hx with rfl | hr
            · exact .inr (.one hd)
            · exact .inr (.more hd hr)
        · exact h j hj
      · exact h
  exact key _ _ (fun j hj => by cases hj)
/-- an operation that every other one of its region waits for, or is waited for by it -/
def barOp (ops : Array Oper) (i : Nat) : Bool := (List.range ops.size).all fun j => j == i || (reachB ops i).contains j || (reachB ops j).contains i
/-- what is listed, with all that it waited for -/
def Closed (ops : Array Oper) (listed : Array Bool) : Prop := ∀ k j, listed.getD k false = true → dep ops k j = true → listed.getD j false = true
def closedB (ops : Array Oper) (listed : Array Bool) : Bool := (List.range listed.size).all fun k => !(listed.getD k false) || ((ops[k]?).map fun o => o.after.all fun e => !(Region.binds .any e) || listed.getD e.on false).getD true
theorem dep_spec {ops : Array Oper} {i j : Nat} (h : dep ops i j = true) : ∃ o, ops[i]? = some o ∧ ∃ e ∈ o.after, e.on = j ∧ Region.binds .any e = true := by
  unfold dep at h
  cases ho : ops[i]? with
  | none => rw [ho] at h; simp at h
  | some o =>
    rw [ho] at h
    simp only [Option.map_some, Option.getD_some, Array.any_eq_true', Bool.and_eq_true, beq_iff_eq] at h
    obtain ⟨e, he, h1, h2⟩ := h
    exact ⟨o, rfl, e, he, h1, h2⟩
theorem closedB_spec {ops : Array Oper} {listed : Array Bool} (h : closedB ops listed = true) : Closed ops listed := by
  unfold closedB at h
  intro k j hk hd
  have hlt : k < listed.size := by
    rcases Nat.lt_or_ge k listed.size with h' | h'
    · exact h'
    · simp [Array.getElem?_eq_none h'] at hk
  obtain ⟨o, ho, e, he, rfl, hb⟩ := dep_spec hd
  have := List.all_eq_true.1 h k (List.mem_range.2 hlt)
  rw [ho, hk] at this
  simp only [Bool.not_true, Bool.false_or, Option.map_some, Option.getD_some] at this
  have := (Array.all_eq_true_iff_forall_mem).1 this e he
  rw [hb] at this
  simpa using this
theorem rch_spec {ops : Array Oper} {listed : Array Bool} (hc : Closed ops listed) {i j : Nat} (h : ∀ k, dep ops i k = true → listed.getD k false = true) (hr : Rch ops i j) : listed.getD j false = true := by
  induction hr with
  | one hd => exact h _ hd
  | more hd _ ih => exact ih fun m hm => hc _ m (h _ hd) hm
theorem Closed.set {ops : Array Oper} {listed : Array Bool} {i : Nat} (hc : Closed ops listed) (h : ∀ k, dep ops i k = true → listed.getD k false = true) : Closed ops (listed.setIfInBounds i true) := by
  intro k j hk hd
  have up : listed.getD j false = true → (listed.setIfInBounds i true).getD j false = true := by
    intro h1
    by_cases hij : i = j
    · subst hij
      rcases Nat.lt_or_ge i listed.size with h' | h'
      · simp [h']
      · simp [Array.getElem?_eq_none h'] at h1
    · rw [getD_set_ne false hij]; exact h1
  by_cases hik : i = k
  · subst hik; exact up (h j hd)
  · rw [getD_set_ne false hik] at hk
    exact up (hc k j hk hd)
theorem barOp_spec {ops : Array Oper} {i j : Nat} (h : barOp ops i = true) (hj : j < ops.size) (hne : j ≠ i) : Rch ops j i ∨ Rch ops i j := by
  have := List.all_eq_true.1 h j (List.mem_range.2 hj)
  simp only [Bool.or_eq_true, beq_iff_eq, hne, false_or, List.contains_iff_mem] at this
  rcases this with h1 | h1
  · exact .inl ((reachB_spec j h1).resolve_left hne)
  · exact .inr ((reachB_spec i h1).resolve_left (Ne.symm hne))
/-- whatever order is picked from here on; S holds behind every operation but one that parts the region in two -/
def Wa (P : Program) (ro : Option Nat) (n : Nat) (ops : Array Oper) (K0 : Env → List Deferred → World → Prop) (S : World → Prop) : Nat → Array Bool → Env → List Deferred → World → Prop
  | 0, listed, ρ, ds, w => Region.ready .any ops listed = [] ∧ K0 ρ ds w
  | fuel + 1, listed, ρ, ds, w => (Region.ready .any ops listed = [] → K0 ρ ds w) ∧
    ∀ i ∈ Region.ready .any ops listed, ∀ o, ops[i]? = some o → Ws P ro n ops o (fun ρ' ds' w' => ∀ w'', Same w' w'' →
      (barOp ops i = false → S w'' ∧ Wa P ro n ops K0 S fuel (listed.setIfInBounds i true) ρ' ds' w'') ∧ (barOp ops i = true → ∃ S', Wa P ro n ops K0 S' fuel (listed.setIfInBounds i true) ρ' ds' w'')) ρ ds w

theorem Wa_sound : ∀ (fuel t : Nat) (S : World → Prop) (listed : Array Bool) (ρ : Env) (ds : List Deferred) (w : World), Wa P ro n ops K0 S fuel listed ρ ds w →
    Wix P ro n ops K0 (Region.linearise.go .any ops fuel t listed []) ρ ds w := by
  intro fuel
  induction fuel with
  | zero => intro t S listed ρ ds w h; simpa [Region.linearise.go, Wix] using h.2
  | succ fuel ih =>
    intro t S listed ρ ds w h
    obtain ⟨h₀, h₁⟩ := h
    simp only [Region.linearise.go]
    change Wix P ro n ops K0 (match (Region.ready .any ops listed)[t % (Region.ready .any ops listed).length]? with
      | some i => Region.linearise.go .any ops fuel (t / (Region.ready .any ops listed).length) (listed.setIfInBounds i true) [i]
      | none => [].reverse) ρ ds w
    cases hi : (Region.ready .any ops listed)[t % (Region.ready .any ops listed).length]? with
    | none =>
      have hnil : Region.ready .any ops listed = [] := by
        cases hr : Region.ready .any ops listed with
        | nil => rfl
        | cons x xs =>
          rw [hr] at hi
          have hlt : t % (x :: xs).length < (x :: xs).length := Nat.mod_lt _ (by simp)
          simp at hi
          simp at hlt
          omega
      simpa [Wix] using h₀ hnil
    | some i =>
      simp only []
      rw [linearise_go_acc, List.reverse_singleton, List.singleton_append]
      have hm := List.mem_of_getElem? hi
      obtain ⟨_, o, ho, _⟩ := mem_ready.1 hm
      simp only [Wix, ho]
      refine Ws_mono (fun ρ ds w hh => ?_) (h₁ i hm o ho)
      have hh := hh w (Same.refl w)
      cases hb : barOp ops i with
      | false => exact ih _ _ _ _ _ _ (hh.1 hb).2
      | true => obtain ⟨S', hw⟩ := hh.2 hb; exact ih _ _ _ _ _ _ hw

theorem W_draw {id : Nat} {Q : Post} {ρ : Env} {ds : List Deferred} {w : World} (hm : P.follows .mixedOrders = true)
    (h : ∀ w', Same w w' → Wa P ro n ops (fun ρ ds w => Q .normal ρ ds w) S ops.size (Array.replicate ops.size false) ρ ds w') : W P ro n (.region id ops true) Q ρ ds w := by
  refine wpIn_region_draw fun t => ?_
  refine wpOpsIn_of_Wix (K0 := fun ρ ds w => Q .normal ρ ds w) (fun _ _ _ h => h) _ ρ ds _ ?_
  simp only [Region.schedule, hm, Bool.true_or, if_true]
  exact Wa_sound _ _ _ _ _ _ _ (h _ (same_drew w))

/-! ### taking a quiet operation first -/
def YI (P : Program) (ro : Option Nat) (n : Nat) (ops : Array Oper) (S : World → Prop) (o : Oper) (v : Value) (ρ : Env) : Prop :=
  (Region.wanted o (grd n ρ ops) = true ∧ ∀ w, S w → (o.semAt ro (ev n ρ)).run P w = .ok (.value v) w ∨
    ∃ f args, (o.semAt ro (ev n ρ)).run P w = .ok (.enter f args) w ∧ Calls P f args w (fun e w' => e = .returned v ∧ Same w w')) ∨
  (Region.wanted o (grd n ρ ops) = false ∧ v = undef)

theorem YI.ws {o : Oper} {v : Value} {ρ : Env} {ds : List Deferred} {w : World} {K : Env → List Deferred → World → Prop} (hy : YI P ro n ops S o v ρ) (hS : S w)
    (h : ∀ w', Same w w' → K (put ρ o.dst v) ds w') : Ws P ro n ops o K ρ ds w := by
  unfold Ws
  rcases hy with ⟨hw, hv⟩ | ⟨hw, rfl⟩
  · rw [if_pos hw]
    rcases hv w hS with hr | ⟨f, args, hr, hc⟩
    · rw [hr]; exact h w (Same.refl w)
    · rw [hr]
      refine hc.mono ?_
      rintro e w' ⟨rfl, hs⟩
      exact h w' hs
  · rw [if_neg (by simp [hw])]; exact h w (Same.refl w)

theorem put_comm {ρ : Env} {x y : Option Tmp} (v u : Value) (h : ∀ d, x = some d → y ≠ some d) : put (put ρ x v) y u = put (put ρ y u) x v := by
  cases x with
  | none => rfl
  | some d =>
    cases y with
    | none => rfl
    | some e =>
      have hne : d ≠ e := fun he => h d rfl (he ▸ rfl)
      funext t
      simp only [put]
      by_cases h1 : t = d
      · subst h1; rw [upd_other _ _ hne, upd_same, upd_same]
      · by_cases h2 : t = e
        · subst h2; rw [upd_same, upd_other _ _ h1, upd_same]
        · rw [upd_other _ _ h2, upd_other _ _ h1, upd_other _ _ h1, upd_other _ _ h2]
theorem ev_put {ρ : Env} {dst : Option Tmp} {v : Value} {x : Operand} (h : ∀ d, dst = some d → x ≠ .tmp d) : ev n (put ρ dst v) x = ev n ρ x := by
  cases dst with
  | none => rfl
  | some d =>
    cases x with
    | tmp t =>
      have hne : t ≠ d := fun e => h d rfl (e ▸ rfl)
      simp only [ev, put, upd_other _ _ hne]
    | _ => rfl
theorem sem_put (o : Oper) (hs : ∀ cs b, o.op ≠ .select cs b) (hd : ∀ c, o.op ≠ .defer c) (ρ : Env) (dst : Option Tmp) (v : Value) (h : ∀ d, dst = some d → d ∉ o.looksAt ops) :
    o.semAt ro (ev n (put ρ dst v)) = o.semAt ro (ev n ρ) := by
  rw [Oper.semAt_eq ro _ o hd, Oper.semAt_eq ro _ o hd]
  exact execOp_congr o hs fun x hx => ev_put fun d hd' hxd => h d hd' (by
    subst hxd
    exact List.mem_append_left _ (List.mem_filterMap.2 ⟨.tmp d, by simpa using hx, rfl⟩))
theorem wanted_put' (o : Oper) (ρ : Env) (dst : Option Tmp) (v : Value) (h : ∀ d, dst = some d → d ∉ o.looksAt ops) :
    Region.wanted o (grd n (put ρ dst v) ops) = Region.wanted o (grd n ρ ops) := by
  cases dst with
  | none => rfl
  | some d =>
    unfold Region.wanted
    cases hg : o.guard with
    | none => rfl
    | some gw =>
      obtain ⟨g, want⟩ := gw
      have hy : grd n (put ρ (some d) v) ops g = grd n ρ ops g := by
        unfold grd
        cases ht : (ops[g]?).bind (·.dst) with
        | none => rfl
        | some t =>
          have hne : d ≠ t := fun e => h d rfl (by subst e; simp [Oper.looksAt, hg, ht])
          simp only
          rw [ev_put fun d' hd' he => by cases hd'; cases he; exact hne rfl]
      simp only [hy]

def calm (ops : Array Oper) : Bool := ops.all fun o => match o.op with | .select .. | .defer _ => false | _ => true
theorem calm_spec (h : calm ops = true) {j : Nat} {o : Oper} (hj : ops[j]? = some o) : (∀ cs b, o.op ≠ .select cs b) ∧ (∀ c, o.op ≠ .defer c) := by
  have hm : o ∈ ops := Array.mem_of_getElem? hj
  have := Array.all_eq_true'.1 h o hm
  constructor
  · intro cs b e; rw [e] at this; simp at this
  · intro c e; rw [e] at this; simp at this

theorem YI.of_same {o : Oper} {v : Value} {ρ ρ' : Env} (hy : YI P ro n ops S o v ρ) (he : o.semAt ro (ev n ρ') = o.semAt ro (ev n ρ))
    (hw : Region.wanted o (grd n ρ' ops) = Region.wanted o (grd n ρ ops)) : YI P ro n ops S o v ρ' := by
  unfold YI at *
  rw [he, hw]
  exact hy

theorem Ws_put {oi oj : Oper} {v : Value} (hap : oi.apart ops oj = true) (hsi : ∀ cs b, oi.op ≠ .select cs b) (hdi : ∀ c, oi.op ≠ .defer c) (hsj : ∀ cs b, oj.op ≠ .select cs b) (hdj : ∀ c, oj.op ≠ .defer c)
    {K : Env → List Deferred → World → Prop} {ρ : Env} {ds : List Deferred} {w : World} (hy : YI P ro n ops S oi v ρ) (h : Ws P ro n ops oj K (put ρ oi.dst v) ds w) :
    Ws P ro n ops oj (fun ρ' ds' w' => YI P ro n ops S oi v ρ' ∧ K (put ρ' oi.dst v) ds' w') ρ ds w := by
  obtain ⟨h1, h2, h3⟩ := Oper.apart_spec hap
  have keep : ∀ u, YI P ro n ops S oi v (put ρ oj.dst u) := fun u =>
    hy.of_same (sem_put oi hsi hdi ρ oj.dst u h3) (wanted_put' oi ρ oj.dst u h3)
  have pc : ∀ u, put (put ρ oj.dst u) oi.dst v = put (put ρ oi.dst v) oj.dst u := fun u => (put_comm v u h2).symm
  unfold Ws at *
  rw [wanted_put' oj ρ oi.dst v h1] at h
  split
  · rename_i hw
    rw [if_pos hw] at h
    rw [sem_put oj hsj hdj ρ oi.dst v h1] at h
    generalize (oj.semAt ro (ev n ρ)).run P w = r at *
    cases r with
    | ok x w' =>
      cases x <;> simp only [upon] at h ⊢ <;> first | exact h.elim | skip
      case value u => exact ⟨keep u, by rw [pc]; exact h⟩
      case skip => exact ⟨keep _, by rw [pc]; exact h⟩
      case defer d => exact ⟨keep _, by rw [pc]; exact h⟩
      case enter f args =>
        refine h.mono fun e w'' he => ?_
        cases e with
        | returned u => exact ⟨keep u, by rw [pc]; exact he⟩
        | panicked c => exact he
        | outgrown => exact he
      case round l f tmps assign body =>
        refine h.mono fun e w'' he => ?_
        cases e with
        | returned u => exact ⟨keep u, by rw [pc]; exact he⟩
        | panicked c => exact he
        | outgrown => exact he
    | halt x w' => cases x <;> simp only [upon] at h ⊢ <;> first | exact h.elim | exact h
  · rename_i hw
    rw [if_neg hw] at h
    exact ⟨keep _, by rw [pc]; exact h⟩

theorem Wa_first (hc : calm ops = true) (hSS : ∀ w w', S w → Same w w' → S w') {i : Nat} {oi : Oper} {v : Value} (hi : ops[i]? = some oi) :
    ∀ (fuel : Nat) (listed : Array Bool) (ρ : Env) (ds : List Deferred) (w : World),
      Closed ops listed → (∀ j oj, ops[j]? = some oj → j ≠ i → listed.getD j true = false → (∀ e ∈ oj.after, Region.binds .any e = true → e.on ≠ i) → oi.apart ops oj = true) →
      i ∈ Region.ready .any ops listed → YI P ro n ops S oi v ρ → S w →
      (∀ w', Same w w' → Wa P ro n ops K0 S fuel (listed.setIfInBounds i true) (put ρ oi.dst v) ds w') → Wa P ro n ops K0 S (fuel + 1) listed ρ ds w := by
  obtain ⟨hsi, hdi⟩ := calm_spec hc hi
  intro fuel
  induction fuel with
  | zero =>
    intro listed ρ ds w _ _ hr hy hS H
    refine ⟨fun h => (by rw [h] at hr; cases hr), fun j hj oj hoj => ?_⟩
    by_cases hji : j = i
    · subst hji
      rw [hi] at hoj
      cases hoj
      exact hy.ws hS fun w' hw' w'' hw'' => ⟨fun _ => ⟨hSS _ _ (hSS _ _ hS hw') hw'', H w'' (hw'.trans hw'')⟩, fun _ => ⟨S, H w'' (hw'.trans hw'')⟩⟩
    · have := ready_mono hj hji
      rw [(H w (Same.refl w)).1] at this
      cases this
  | succ fuel ih =>
    intro listed ρ ds w hcl hfree hr hy hS H
    refine ⟨fun h => (by rw [h] at hr; cases hr), fun j hj oj hoj => ?_⟩
    by_cases hji : j = i
    · subst hji
      rw [hi] at hoj
      cases hoj
      exact hy.ws hS fun w' hw' w'' hw'' => ⟨fun _ => ⟨hSS _ _ (hSS _ _ hS hw') hw'', H w'' (hw'.trans hw'')⟩, fun _ => ⟨S, H w'' (hw'.trans hw'')⟩⟩
    · obtain ⟨hsj, hdj⟩ := calm_spec hc hoj
      have h1 := (H w (Same.refl w)).2 j (ready_mono hj hji) oj hoj
      obtain ⟨hjun, oj', hoj', hall⟩ := mem_ready.1 hj
      rw [hoj] at hoj'
      cases hoj'
      have hdj' : ∀ k, dep ops j k = true → listed.getD k false = true := fun k hk => by
        obtain ⟨o2, ho2, e, he, rfl, hb⟩ := dep_spec hk
        rw [hoj] at ho2
        cases ho2
        exact hall e he hb
      have hnot : ∀ e ∈ oj.after, Region.binds .any e = true → e.on ≠ i := fun e he hb heq => by
        have h1 := hall e he hb
        have h0 := (mem_ready.1 hr).1
        rw [heq] at h1
        rcases Nat.lt_or_ge i listed.size with h' | h'
        · simp [h'] at h0 h1; rw [h0] at h1; cases h1
        · simp [Array.getElem?_eq_none h'] at h1
      have h2 := Ws_put (hfree j oj hoj hji hjun hnot) hsi hdi hsj hdj hy h1
      have hfree' : ∀ k ok, ops[k]? = some ok → k ≠ i → (listed.setIfInBounds j true).getD k true = false →
          (∀ e ∈ ok.after, Region.binds .any e = true → e.on ≠ i) → oi.apart ops ok = true := fun k ok hk hki hun hno => by
        refine hfree k ok hk hki ?_ hno
        by_cases hjk : j = k
        · subst hjk; exact hjun
        · rw [getD_set_ne true hjk] at hun; exact hun
      have hri : i ∈ Region.ready .any ops (listed.setIfInBounds j true) := ready_mono hr (Ne.symm hji)
      refine Ws_mono ?_ h2
      rintro ρ' ds' w' ⟨hy', hK⟩ w'' hw''
      have hcom : (listed.setIfInBounds i true).setIfInBounds j true = (listed.setIfInBounds j true).setIfInBounds i true := Array.setIfInBounds_comm _ _ (Ne.symm hji)
      have ht : barOp ops j = false := by
        cases hb : barOp ops j with
        | false => rfl
        | true =>
          have hun : ∀ {x : Nat}, (listed.getD x true = false) → listed.getD x false = true → False := fun {x} h0 h1 => by
            rcases Nat.lt_or_ge x listed.size with h' | h'
            · simp [h'] at h0 h1; rw [h0] at h1; cases h1
            · simp [Array.getElem?_eq_none h'] at h1
          obtain ⟨hiun, oi', hoi', halli⟩ := mem_ready.1 hr
          have hdi' : ∀ k, dep ops i k = true → listed.getD k false = true := fun k hk => by
            obtain ⟨o2, ho2, e, he, rfl, hb2⟩ := dep_spec hk
            rw [hoi'] at ho2
            cases ho2
            exact halli e he hb2
          rcases barOp_spec hb (Array.getElem?_eq_some_iff.1 hi).1 (Ne.symm hji) with h3 | h3
          · exact (hun hjun (rch_spec hcl hdi' h3)).elim
          · exact (hun hiun (rch_spec hcl hdj' h3)).elim
      have hS'' : S w'' := ((hK w'' hw'').1 ht).1
      refine ⟨fun _ => ⟨hS'', ih (listed.setIfInBounds j true) ρ' ds' w'' (hcl.set hdj') hfree' hri hy' hS'' fun w3 hw3 => ?_⟩, fun h => absurd h (by rw [ht]; simp)⟩
      rw [← hcom]
      exact ((hK w3 (hw''.trans hw3)).1 ht).2

/-! ### the moves of a walk -/
theorem Wa_take (hc : calm ops = true) (hSS : ∀ w w', S w → Same w w' → S w') {i : Nat} {oi : Oper} {v : Value} {fuel : Nat} {listed listed' : Array Bool} {ρ : Env} {ds : List Deferred} {w : World}
    (hi : ops[i]? = some oi) (hf : Region.free .any ops listed i = true) (hr : (Region.ready .any ops listed).contains i = true) (hl : listed.setIfInBounds i true = listed') (hcl : closedB ops listed = true)
    (hy : YI P ro n ops S oi v ρ) (hS : S w) (h : ∀ w', Same w w' → Wa P ro n ops K0 S fuel listed' (put ρ oi.dst v) ds w') : Wa P ro n ops K0 S (fuel + 1) listed ρ ds w := by
  subst hl
  exact Wa_first hc hSS hi fuel listed ρ ds w (closedB_spec hcl) (Region.free_spec hi hf) (by simpa using hr) hy hS h
/-- the one that may come up comes up -/
theorem Wa_one {i : Nat} {o : Oper} {fuel : Nat} {listed listed' : Array Bool} {ρ : Env} {ds : List Deferred} {w : World} (hr : Region.ready .any ops listed = [i]) (hi : ops.toList[i]? = some o) (hl : listed.setIfInBounds i true = listed')
    (h : Ws P ro n ops o (fun ρ' ds' w' => ∀ w'', Same w' w'' → (barOp ops i = false → S w'' ∧ Wa P ro n ops K0 S fuel listed' ρ' ds' w'') ∧ (barOp ops i = true → ∃ S', Wa P ro n ops K0 S' fuel listed' ρ' ds' w'')) ρ ds w) : Wa P ro n ops K0 S (fuel + 1) listed ρ ds w := by
  subst hl
  rw [Array.getElem?_toList] at hi
  refine ⟨fun h0 => (by rw [hr] at h0; cases h0), fun j hj oj hoj => ?_⟩
  rw [hr] at hj
  obtain rfl := List.mem_singleton.1 hj
  rw [hi] at hoj
  cases hoj
  exact h
theorem Wa_done {listed : Array Bool} {ρ : Env} {ds : List Deferred} {w : World} (hr : Region.ready .any ops listed = []) (h : K0 ρ ds w) : Wa P ro n ops K0 S 0 listed ρ ds w := ⟨hr, h⟩
/-- an operation of a plain walk, as one of a drawn region: 'rest' stands for what follows -/
theorem Ws_of_Wl {o : Oper} {K : Env → List Deferred → World → Prop} {ρ : Env} {ds : List Deferred} {w : World}
    (h : Wl P ro n ops (fun e ρ ds w => match e with | .normal => K ρ ds w | _ => False) [o] ρ ds w) : Ws P ro n ops o K ρ ds w := by
  unfold Ws
  simp only [Wl] at h
  split
  · rename_i hw
    rw [if_pos hw] at h
    exact upon_mono (fun _ _ _ h => h) (fun _ _ _ _ h => h.elim) h
  · rename_i hw
    rw [if_neg hw] at h
    exact h
theorem Wa_weak {S' : World → Prop} (hs : ∀ w, S' w → S w) : ∀ (fuel : Nat) (listed : Array Bool) (ρ : Env) (ds : List Deferred) (w : World), Wa P ro n ops K0 S' fuel listed ρ ds w → Wa P ro n ops K0 S fuel listed ρ ds w
  | 0, _, _, _, _, h => h
  | fuel + 1, _, _, _, _, h => ⟨h.1, fun i hi o ho => Ws_mono (fun _ _ _ hh w'' hw => ⟨fun ht => ⟨hs _ ((hh w'' hw).1 ht).1, Wa_weak hs fuel _ _ _ _ ((hh w'' hw).1 ht).2⟩, (hh w'' hw).2⟩) (h.2 i hi o ho)⟩
/-- in every world that has grown out of w0 -/
def Wt (P : Program) (ro : Option Nat) (n : Nat) (ops : Array Oper) (K0 : Env → List Deferred → World → Prop) (w0 : World) (fuel : Nat) (listed : Array Bool) (ρ : Env) (ds : List Deferred) : Prop :=
  ∀ w, Upd No w0 w → Wa P ro n ops K0 (Upd No w0) fuel listed ρ ds w
theorem W_drawt {id : Nat} {Q : Post} {ρ : Env} {ds : List Deferred} {w : World} {l0 : Array Bool} (hm : P.follows .mixedOrders = true) (hl : Array.replicate ops.size false = l0)
    (h : Wt P ro n ops (fun ρ ds w => Q .normal ρ ds w) w ops.size l0 ρ ds) : W P ro n (.region id ops true) Q ρ ds w := by
  subst hl
  exact W_draw (S := Upd No w) hm fun w' hw => h w' hw.upd
theorem Wt_take {w0 : World} {i : Nat} {oi : Oper} {v : Value} {fuel : Nat} {listed listed' : Array Bool} {ρ : Env} {ds : List Deferred} (hc : calm ops = true)
    (hi : ops.toList[i]? = some oi) (hf : Region.free .any ops listed i = true) (hr : (Region.ready .any ops listed).contains i = true) (hl : listed.setIfInBounds i true = listed') (hcl : closedB ops listed = true)
    (hy : YI P ro n ops (Upd No w0) oi v ρ) (h : Wt P ro n ops K0 w0 fuel listed' (put ρ oi.dst v) ds) : Wt P ro n ops K0 w0 (fuel + 1) listed ρ ds := fun _ hw =>
  Wa_take hc (fun _ _ h1 h2 => h1.trans0 h2.upd) ((Array.getElem?_toList ..).symm.trans hi) hf hr hl hcl hy hw fun w' hw' => h w' (hw.trans0 hw'.upd)
/-- k times true, then false, n in all -/
def tf (k n : Nat) : Array Bool := ⟨List.replicate k true ++ List.replicate (n - k) false⟩
theorem Tk {w0 : World} (i : Nat) (listed' : Array Bool) {oi : Oper} {v : Value} {fuel : Nat} {listed : Array Bool} {ρ : Env} {ds : List Deferred} (hi : ops.toList[i]? = some oi)
    (hy : YI P ro n ops (Upd No w0) oi v ρ) (h : Wt P ro n ops K0 w0 fuel listed' (put ρ oi.dst v) ds) (hc : calm ops = true := by kernel_rfl) (hf : Region.free .any ops listed i = true := by kernel_rfl) (hr : (Region.ready .any ops listed).contains i = true := by kernel_rfl)
    (hl : listed.setIfInBounds i true = listed' := by kernel_rfl) (hcl : closedB ops listed = true := by kernel_rfl) : Wt P ro n ops K0 w0 (fuel + 1) listed ρ ds :=
  Wt_take hc hi hf hr hl hcl hy h
theorem Wt_base {w0 w1 : World} {fuel : Nat} {listed : Array Bool} {ρ : Env} {ds : List Deferred} (hu : Upd No w0 w1) (h : Wt P ro n ops K0 w1 fuel listed ρ ds) : Wa P ro n ops K0 (Upd No w0) fuel listed ρ ds w1 :=
  Wa_weak (fun _ h => hu.trans0 h) _ _ _ _ _ (h w1 (Upd.refl _ _))
theorem YI_v {w0 : World} {o : Oper} {v : Value} {ρ : Env} (hg : Region.wanted o (grd n ρ ops) = true) (h : ∀ w, Upd No w0 w → (o.semAt ro (ev n ρ)).run P w = .ok (.value v) w) : YI P ro n ops (Upd No w0) o v ρ :=
  .inl ⟨hg, fun w hw => .inl (h w hw)⟩
theorem YI_c {w0 : World} {o : Oper} {v : Value} {ρ : Env} {f : FuncId} {as : Array Value} (hg : Region.wanted o (grd n ρ ops) = true) (hr : ∀ w, (o.semAt ro (ev n ρ)).run P w = .ok (.enter f as) w)
    (h : ∀ w, Upd No w0 w → Calls P f as w (Ret fun v' w' => v' = v ∧ Upd No w w')) : YI P ro n ops (Upd No w0) o v ρ :=
  .inl ⟨hg, fun w hw => .inr ⟨f, as, hr w, (h w hw).mono fun e w' ⟨v', he, hv, hs⟩ => ⟨by rw [he, hv], hs⟩⟩⟩
theorem YI_no {w0 : World} {o : Oper} {ρ : Env} (hg : Region.wanted o (grd n ρ ops) = false) : YI P ro n ops (Upd No w0) o undef ρ := .inr ⟨hg, rfl⟩
end
theorem Upd.cellk {w0 w : World} (h : Upd No w0 w) {a : Addr} {v : Value} (hc : w0.cell? a = some v) : w.cell? a = some v := by
  have hb := World.block_lt_of_cell? w0 a hc
  have := h.block a.block hb (fun h => h)
  simp only [World.cell?, this] at hc ⊢
  exact hc
theorem cell_upd0 {w0 w : World} (h : Upd No w0 w) {a : Addr} {v : Value} (hc : w0.cell? a = some v) : w.cell? a = some v := h.cellk hc
theorem cell_upd1 {w0 w : World} {x : Nat} (h : Upd (Is x) w0 w) {a : Addr} {v : Value} (hc : w0.cell? a = some v) (hx : a.block ≠ x) : w.cell? a = some v := by
  have hb := World.block_lt_of_cell? w0 a hc
  have := h.block a.block hb hx
  simp only [World.cell?, this] at hc ⊢
  exact hc
section
variable {P : Program} {ro : Option Nat} {w : World} {ρ : Operand → Value} {d : Option Tmp} {t : TypeId} {p : String} {e : Array Edge} {g : Option (Nat × Bool)}
theorem r_load {lt : TypeId} {x : Operand} {a : Addr} {v : Value} (hag : ∀ w, (isAgg lt).run P w = .ok false w) (hx : ρ x = .pointer (some a)) (hc : w.cell? a = some v) :
    (Oper.semAt ro ρ ⟨d, .load lt x, t, p, e, g⟩).run P w = .ok (.value v) w := by
  rw [sem_op (by simp)]; simp [execOp, hx, Instr.loadAt, Instr.sureAddr, loadVar, hag, hc]
theorem r_idx {st et : TypeId} {x y : Operand} {sz m b off o' : Nat} {c : Nat} {k : IntKind} {i : Int} (hu : P.underlying st = some (.slice et)) (hsz : ∀ w, (sizeOf et).run P w = .ok sz w)
    (hx : ρ x = .slice (some ⟨b, off, none⟩) m c) (hy : ρ y = .int k i) (h0 : 0 ≤ i) (h1 : i < m) (ho : off + i.toNat * sz = o') :
    (Oper.semAt ro ρ ⟨d, .indexAddr st x y, t, p, e, g⟩).run P w = .ok (.value (.pointer (some ⟨b, o', none⟩))) w := by
  subst ho
  have hadd : (⟨b, off, none⟩ : Addr).add (i.toNat * sz) = ⟨b, off + i.toNat * sz, none⟩ := by unfold Addr.add; split <;> simp_all
  rw [sem_op (by simp)]; simp [execOp, hx, hy, Instr.indexAt, asIntOf, run_underlying hu, hsz, h0, h1, hadd]
/-- 's[l:h]' -/
theorem r_slice {st et : TypeId} {x y z : Operand} {sz m c : Nat} {a : Option Addr} {k k' : IntKind} {l h : Int} (hu : P.underlying st = some (.slice et)) (hsz : ∀ w, (sizeOf et).run P w = .ok sz w)
    (hx : ρ x = .slice a m c) (hy : ρ y = .int k l) (hz : ρ z = .int k' h) (h0 : 0 ≤ l) (h1 : l ≤ h) (h2 : h ≤ c) :
    (Oper.semAt ro ρ ⟨d, .slice st x (some y) (some z) none, t, p, e, g⟩).run P w = .ok (.value (.slice (if c = l.toNat then a else a.map (·.add (l.toNat * sz))) (h.toNat - l.toNat) (c - l.toNat))) w := by
  have eh : (h.toNat : Int) = h := Int.toNat_of_nonneg (by omega)
  have f1 : (Instr.sliceBound (.int k' h) c .sliceAcap).run P w = .ok h.toNat w := run_sliceBound w k' h c _ (by omega) h2
  have f2 : (Instr.sliceBound (.int k l) h.toNat .sliceB).run P w = .ok l.toNat w := run_sliceBound w k l _ _ h0 (by omega)
  rw [sem_op (by simp)]; simp [execOp, hx, hy, hz, Instr.sliceAt, Instr.slice, Instr.sliceBounds, run_underlying hu, hsz, f1, f2]
theorem r_slicen {st et : TypeId} {x y z : Operand} {sz m c : Nat} {a : Option Addr} {k k' : IntKind} {l h : Int} {l' h' n' : Nat} (hu : P.underlying st = some (.slice et)) (hsz : ∀ w, (sizeOf et).run P w = .ok sz w)
    (hx : ρ x = .slice a m c) (hy : ρ y = .int k l) (hz : ρ z = .int k' h) (hl : l = l') (hh : h = h') (h1 : l' ≤ h') (h2 : h' ≤ c) (hn : h' - l' = n') :
    (Oper.semAt ro ρ ⟨d, .slice st x (some y) (some z) none, t, p, e, g⟩).run P w = .ok (.value (.slice (if c = l' then a else a.map (·.add (l' * sz))) n' (c - l'))) w := by
  subst hl hh hn
  exact r_slice hu hsz hx hy hz (by omega) (by omega) (by omega)
/-- 's[l:]' -/
theorem r_slicehn {st et : TypeId} {x z : Operand} {sz m c : Nat} {a : Option Addr} {k' : IntKind} {h : Int} {h' : Nat} (hu : P.underlying st = some (.slice et)) (hsz : ∀ w, (sizeOf et).run P w = .ok sz w)
    (hx : ρ x = .slice a m c) (hz : ρ z = .int k' h) (hh : h = h') (h2 : h' ≤ c) :
    (Oper.semAt ro ρ ⟨d, .slice st x none (some z) none, t, p, e, g⟩).run P w = .ok (.value (.slice a h' c)) w := by
  subst hh
  have e1 : ¬ c < h' := by omega
  have e3 : a.map (fun x => x.add 0) = a := by cases a <;> rfl
  rw [sem_op (by simp)]; simp [execOp, hx, hz, Instr.sliceAt, Instr.slice, Instr.sliceBounds, Instr.sliceBound, asIntOf, run_underlying hu, hsz, e1, e3]
theorem r_slicel {st et : TypeId} {x y : Operand} {sz m c : Nat} {a : Option Addr} {k : IntKind} {l : Int} (hu : P.underlying st = some (.slice et)) (hsz : ∀ w, (sizeOf et).run P w = .ok sz w)
    (hx : ρ x = .slice a m c) (hy : ρ y = .int k l) (h0 : 0 ≤ l) (h1 : l ≤ m) :
    (Oper.semAt ro ρ ⟨d, .slice st x (some y) none none, t, p, e, g⟩).run P w = .ok (.value (.slice (if c = l.toNat then a else a.map (·.add (l.toNat * sz))) (m - l.toNat) (c - l.toNat))) w := by
  have e2 : (0 ≤ l ∧ l ≤ (m : Int)) := ⟨h0, h1⟩
  rw [sem_op (by simp)]; simp [execOp, hx, hy, Instr.sliceAt, Instr.slice, Instr.sliceBounds, Instr.sliceBound, asIntOf, run_underlying hu, hsz, e2]
theorem r_slicelen {st et : TypeId} {x y : Operand} {sz m c : Nat} {a : Option Addr} {k : IntKind} {l : Int} {l' n' : Nat} (hu : P.underlying st = some (.slice et)) (hsz : ∀ w, (sizeOf et).run P w = .ok sz w)
    (hx : ρ x = .slice a m c) (hy : ρ y = .int k l) (hl : l = l') (h1 : l' ≤ m) (hn : m - l' = n') :
    (Oper.semAt ro ρ ⟨d, .slice st x (some y) none none, t, p, e, g⟩).run P w = .ok (.value (.slice (if c = l' then a else a.map (·.add (l' * sz))) n' (c - l'))) w := by
  subst hl hn
  exact r_slicel hu hsz hx hy (by omega) (by omega)
/-- 's[:h]' -/
theorem r_sliceh {st et : TypeId} {x z : Operand} {sz m c : Nat} {a : Option Addr} {k' : IntKind} {h : Int} (hu : P.underlying st = some (.slice et)) (hsz : ∀ w, (sizeOf et).run P w = .ok sz w)
    (hx : ρ x = .slice a m c) (hz : ρ z = .int k' h) (h1 : 0 ≤ h) (h2 : h ≤ c) :
    (Oper.semAt ro ρ ⟨d, .slice st x none (some z) none, t, p, e, g⟩).run P w = .ok (.value (.slice a h.toNat c)) w := by
  have e1 : (0 ≤ h ∧ h ≤ (c : Int)) := ⟨h1, h2⟩
  have e3 : a.map (fun x => x.add 0) = a := by cases a <;> rfl
  rw [sem_op (by simp)]; simp [execOp, hx, hz, Instr.sliceAt, Instr.slice, Instr.sliceBounds, Instr.sliceBound, asIntOf, run_underlying hu, hsz, e1, e3]
end
/-- a piece of a slice that is read -/
theorem Sl.cut {w : World} {R : Nat → Prop} {sz m c : Nat} {a : Option Addr} {cs : List Value} (h : Sl w R sz (.slice a m c) m cs) {l k : Nat} (h1 : l ≤ k) (h2 : k ≤ m) :
    Sl w R sz (.slice (if c = l then a else a.map (·.add (l * sz))) (k - l) (c - l)) (k - l) ((cs.drop (l * sz)).take ((k - l) * sz)) := by
  obtain ⟨e1, a', cap, e2, e3, e4, e5⟩ := h
  simp only [Value.slice.injEq] at e2
  obtain ⟨rfl, _, rfl⟩ := e2
  have hle : (k - l) * sz ≤ cs.length - l * sz := by
    rw [e1, ← Nat.sub_mul]
    exact Nat.mul_le_mul_right _ (by omega)
  refine ⟨by rw [List.length_take, List.length_drop]; omega, _, _, rfl, by omega, by omega, ?_⟩
  by_cases hkl : k - l = 0
  · exact .inl hkl
  · right
    rcases e5 with e5 | ⟨b, off, cc, t, f, rfl, hR, hb, hc⟩
    · omega
    · have hcl : c ≠ l := by omega
      refine ⟨b, off + l * sz, cc, t, f, ?_, hR, hb, fun i hi => ?_⟩
      · rw [if_neg hcl]
        simp only [Option.map_some, Option.some.injEq]
        unfold Addr.add
        split <;> simp_all
      · rw [List.getElem?_take, if_pos hi, List.getElem?_drop, Nat.add_assoc]
        apply hc
        have : l * sz + i < k * sz := by
          rw [Nat.sub_mul] at hi
          have : l * sz ≤ k * sz := Nat.mul_le_mul_right _ h1
          omega
        exact Nat.lt_of_lt_of_le this (Nat.mul_le_mul_right _ h2)
theorem Sl.cutn {w : World} {R : Nat → Prop} {m c : Nat} {a : Option Addr} {K : IntKind} {li : List Int} (h : Sl w R 1 (.slice a m c) m (ints K li)) {l n : Nat} (h2 : l + n ≤ m) :
    Sl w R 1 (.slice (if c = l then a else a.map (·.add (l * 1))) n (c - l)) n (ints K ((li.drop l).take n)) := by
  have := h.cut (l := l) (k := l + n) (by omega) h2
  have e : l + n - l = n := by omega
  rw [e] at this
  simpa [ints, List.map_drop, List.map_take] using this
end Go.Fw
