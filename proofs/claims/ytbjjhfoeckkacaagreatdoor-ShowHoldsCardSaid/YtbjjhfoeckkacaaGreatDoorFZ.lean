import Derived.Test.YtbjjhfoeckkacaaGreatDoorFB
set_option linter.unusedVariables false
namespace Go.Fw
def force {α : Type} (v : Value) (k : Value → α) : α :=
  match v with
  | .int i a => k (.int i a)
  | .bool b => k (.bool b)
  | .slice a n c => k (.slice a n c)
  | .pointer p => k (.pointer p)
  | .tuple l => k (.tuple l)
  | .agg l => k (.agg l)
  | v => k v
theorem force_eq {α : Type} (v : Value) (k : Value → α) : force v k = k v := by cases v <;> rfl
def cmpd (o : BinOp) (a b : Int) : Option Value :=
  match o with
  | .eql => some (.bool (decide (a = b)))
  | .neq => some (.bool (decide (a ≠ b)))
  | .lss => some (.bool (decide (a < b)))
  | .leq => some (.bool (decide (a ≤ b)))
  | .gtr => some (.bool (decide (b < a)))
  | .geq => some (.bool (decide (b ≤ a)))
  | _ => none
def qv (n : Nat) (ρ : Env) (op : Op) : Option Value :=
  match op with
  | .move x => some (ev n ρ x)
  | .assign x => some (ev n ρ x)
  | .extract x i => match ev n ρ x with | .tuple vs => vs.toList[i]? | _ => none
  | .nilCheck x => match ev n ρ x with | .pointer (some a) => some (.pointer (some a)) | _ => none
  | .pick c a b => match ev n ρ c with | .bool true => some (ev n ρ a) | .bool false => some (ev n ρ b) | _ => none
  | .binOp o _ x y _ => match ev n ρ x, ev n ρ y with | .int ka a, .int kb b => if ka = kb then cmpd o a b else none | _, _ => none
  | _ => none
theorem qv_run {P : Program} {ro : Option Nat} {n : Nat} {ρ : Env} {w : World} {d : Option Tmp} {op : Op} {t : TypeId} {p : String} {e : Array Edge} {g : Option (Nat × Bool)} {v : Value} (h : qv n ρ op = some v) :
    (Oper.semAt ro (ev n ρ) ⟨d, op, t, p, e, g⟩).run P w = .ok (.value v) w := by
  unfold qv at h
  split at h
  · cases h; exact r_mv rfl
  · cases h; exact r_as rfl
  · split at h
    · rename_i vs hx; exact r_ext hx (by rw [← h, Array.getElem?_toList])
    · cases h
  · split at h
    · rename_i a hx; cases h; exact Yj hx
    · cases h
  · split at h
    · rename_i hc; cases h; exact Zx hc rfl
    · rename_i hc; cases h; exact Zw hc rfl
    · cases h
  · rename_i o xt x y yt
    split at h
    · rename_i ka a kb b hx hy
      split at h
      · rename_i hk; subst hk
        cases o <;> simp only [cmpd, Option.some.injEq, reduceCtorEq] at h <;> subst h
        · exact YK hx hy
        · exact Yh hx hy
        · exact YL hx hy
        · exact r_le hx hy
        · exact r_gt hx hy
        · exact r_ge hx hy
      · cases h
    · cases h
  · cases h
def qk (n : Nat) : Nat → List Oper → Env → Option (List Oper × Env)
  | 0, l, ρ => some (l, ρ)
  | k + 1, ⟨d, op, _, _, _, none⟩ :: l, ρ =>
    match qv n ρ op with
    | some v => force v fun v => qk n k l (put ρ d v)
    | none => none
  | _ + 1, _, _ => none
section
variable {P : Program} {ro : Option Nat} {n : Nat} {ops : Array Oper} {Q : Post} {ρ : Env} {ds : List Deferred} {w : World}
theorem Qs (k : Nat) {rest l' : List Oper} {ρ' : Env} (h0 : qk n k rest ρ = some (l', ρ')) (h : Wl P ro n ops Q l' ρ' ds w) : Wl P ro n ops Q rest ρ ds w := by
  induction k generalizing rest ρ with
  | zero => simp only [qk, Option.some.injEq, Prod.mk.injEq] at h0; obtain ⟨rfl, rfl⟩ := h0; exact h
  | succ k ih =>
    match rest, h0 with
    | ⟨d, op, t, p, e, none⟩ :: l, h0 =>
      unfold qk at h0
      split at h0
      · rename_i v hv
        rw [force_eq] at h0
        exact Zf (qv_run hv) (ih h0)
      · cases h0
    | ⟨d, op, t, p, e, some g⟩ :: l, h0 => simp [qk] at h0
    | [], h0 => simp [qk] at h0
variable {x y z : Code} {id : Nat} {o2 : Array Oper} {K K0 : Env → List Deferred → World → Prop}
theorem Sn (h : Wl P ro n o2 (thn (W P ro n y Q) Q) o2.toList ρ ds w) : W P ro n (.seq (.region id o2 false) y) Q ρ ds w := Zz (Zl h)
theorem Sm (h : Wl P ro n o2 (thn (W P ro n y (thn (W P ro n z Q) Q)) (thn (W P ro n z Q) Q)) o2.toList ρ ds w) : W P ro n (.seq (.seq (.region id o2 false) y) z) Q ρ ds w := Zz (Zz (Zl h))
def okT (ops : Array Oper) (i m : Nat) : Bool := calm ops && Region.free .any ops (tf i m) i && (Region.ready .any ops (tf i m)).contains i && closedB ops (tf i m) && Nat.blt i m
theorem tf_set {i m : Nat} (h : i < m) : (tf i m).setIfInBounds i true = tf (i + 1) m := by
  apply Array.ext'
  simp only [tf, List.setIfInBounds_toArray, List.replicate_succ']
  obtain ⟨q, rfl⟩ : ∃ q, m = i + 1 + q := ⟨m - (i + 1), by omega⟩
  rw [show i + 1 + q - i = q + 1 from by omega, show i + 1 + q - (i + 1) = q from by omega, List.replicate_succ]
  rw [List.set_append_right _ _ (by simp), List.length_replicate, Nat.sub_self, List.set_cons_zero, List.append_assoc]
  rfl
theorem okT_spec {i m : Nat} (h : okT ops i m = true) : calm ops = true ∧ Region.free .any ops (tf i m) i = true ∧ (Region.ready .any ops (tf i m)).contains i = true ∧ closedB ops (tf i m) = true ∧ (tf i m).setIfInBounds i true = tf (i + 1) m := by
  simp only [okT, Bool.and_eq_true] at h
  exact ⟨h.1.1.1.1, h.1.1.1.2, h.1.1.2, h.1.2, tf_set (Nat.le_of_ble_eq_true h.2)⟩
def tq1 (n : Nat) (ops : Array Oper) (i : Nat) (ρ : Env) : Option Env :=
  match ops.toList[i]? with
  | some o =>
    match Region.wanted o (grd n ρ ops) with
    | true => match qv n ρ o.op with | some v => force v fun v => some (put ρ o.dst v) | none => none
    | false => some (put ρ o.dst undef)
  | none => none
theorem tq1_spec {i : Nat} {ρ' : Env} (h : tq1 n ops i ρ = some ρ') : ∃ o v, ops.toList[i]? = some o ∧ ρ' = put ρ o.dst v ∧ ∀ S, YI P ro n ops S o v ρ := by
  unfold tq1 at h
  split at h
  · rename_i o ho
    split at h
    · rename_i hw
      split at h
      · rename_i v hv
        rw [force_eq] at h; cases h
        exact ⟨o, v, ho, rfl, fun S => .inl ⟨hw, fun w _ => .inl (qv_run hv)⟩⟩
      · cases h
    · rename_i hw; cases h; exact ⟨o, undef, ho, rfl, fun S => .inr ⟨hw, rfl⟩⟩
  · cases h
theorem Tq {w0 : World} {i m fuel : Nat} {ρ' : Env} (h0 : tq1 n ops i ρ = some ρ') (h : Wt P ro n ops K0 w0 fuel (tf (i + 1) m) ρ' ds) (hk : okT ops i m = true := by kernel_rfl) : Wt P ro n ops K0 w0 (fuel + 1) (tf i m) ρ ds := by
  obtain ⟨o, v, ho, rfl, hy⟩ := tq1_spec (P := P) (ro := ro) h0
  obtain ⟨h1, h2, h3, h4, h5⟩ := okT_spec hk
  exact Wt_take h1 ho h2 h3 h5 h4 (hy _) h
theorem Tv {w0 : World} {i m fuel : Nat} {o : Oper} {v : Value} (ho : ops.toList[i]? = some o) (hr : ∀ w, Upd No w0 w → (o.semAt ro (ev n ρ)).run P w = .ok (.value v) w) (h : Wt P ro n ops K0 w0 fuel (tf (i + 1) m) (put ρ o.dst v) ds)
    (hg : Region.wanted o (grd n ρ ops) = true := by exact rfl) (hk : okT ops i m = true := by kernel_rfl) : Wt P ro n ops K0 w0 (fuel + 1) (tf i m) ρ ds := by
  obtain ⟨h1, h2, h3, h4, h5⟩ := okT_spec hk
  exact Wt_take h1 ho h2 h3 h5 h4 (YI_v hg hr) h
theorem Tl {w0 : World} {i m fuel : Nat} {d : Option Tmp} {lt t : TypeId} {x : Operand} {p : String} {e : Array Edge} {g : Option (Nat × Bool)} {b j : Nat} {cs : List Value} {v : Value} (ho : ops.toList[i]? = some ⟨d, .load lt x, t, p, e, g⟩)
    (hag : ∀ w, (isAgg lt).run P w = .ok false w) (hx : ev n ρ x = .pointer (some ⟨b, j, none⟩)) (hb : Blk w0 b cs) (hv : cs[j]? = some v) (h : Wt P ro n ops K0 w0 fuel (tf (i + 1) m) (put ρ d v) ds)
    (hg : Region.wanted ⟨d, .load lt x, t, p, e, g⟩ (grd n ρ ops) = true := by exact rfl) (hk : okT ops i m = true := by kernel_rfl) : Wt P ro n ops K0 w0 (fuel + 1) (tf i m) ρ ds :=
  Tv ho (fun w' hw' => Yd hag hx (by rw [(hb.Zc hw').cell]; exact hv)) h hg hk
theorem Sq {T : Nat → Prop} {w0 w1 : World} {i m fuel : Nat} {ρ' : Env} (h01 : Upd T w0 w1) (h0 : tq1 n ops i ρ = some ρ') (h : WtS P ro n ops K0 T w0 w1 fuel (tf (i + 1) m) ρ' ds) (hk : okT ops i m = true := by kernel_rfl) : WtS P ro n ops K0 T w0 w1 (fuel + 1) (tf i m) ρ ds := by
  obtain ⟨o, v, ho, rfl, hy⟩ := tq1_spec (P := P) (ro := ro) h0
  obtain ⟨h1, h2, h3, h4, h5⟩ := okT_spec hk
  exact Yp h01 h1 ho h2 h3 h5 h4 (hy _) h
theorem Sv {T : Nat → Prop} {w0 w1 : World} {i m fuel : Nat} {o : Oper} {v : Value} (h01 : Upd T w0 w1) (ho : ops.toList[i]? = some o) (hr : ∀ w, Upd T w0 w → (o.semAt ro (ev n ρ)).run P w = .ok (.value v) w) (h : WtS P ro n ops K0 T w0 w1 fuel (tf (i + 1) m) (put ρ o.dst v) ds)
    (hg : Region.wanted o (grd n ρ ops) = true := by exact rfl) (hk : okT ops i m = true := by kernel_rfl) : WtS P ro n ops K0 T w0 w1 (fuel + 1) (tf i m) ρ ds := by
  obtain ⟨h1, h2, h3, h4, h5⟩ := okT_spec hk
  exact Yp h01 h1 ho h2 h3 h5 h4 (YS_v hg hr) h
theorem Wo {S : World → Prop} (i : Nat) (l' : Array Bool) {o : Oper} {fuel : Nat} {listed : Array Bool} (hi : ops.toList[i]? = some o)
    (h : Wl P ro n ops (fun e ρ' ds' w' => match e with | .normal => (∀ w'', Same w' w'' → (barOp ops i = false → S w'' ∧ Wa P ro n ops K0 S fuel l' ρ' ds' w'') ∧ (barOp ops i = true → ∃ S', Wa P ro n ops K0 S' fuel l' ρ' ds' w'')) | _ => False) [o] ρ ds w)
    (hr : Region.ready .any ops listed = [i] := by kernel_rfl) (hl : listed.setIfInBounds i true = l' := by kernel_rfl) : Wa P ro n ops K0 S (fuel + 1) listed ρ ds w :=
  Wa_one hr hi hl (Ws_of_Wl h)
theorem bT {S : World → Prop} {i fuel : Nat} {l : Array Bool} {w'' : World} (S' : World → Prop) (h : Wa P ro n ops K0 S' fuel l ρ ds w'') (hb : barOp ops i = true := by kernel_rfl) :
    (barOp ops i = false → S w'' ∧ Wa P ro n ops K0 S fuel l ρ ds w'') ∧ (barOp ops i = true → ∃ S', Wa P ro n ops K0 S' fuel l ρ ds w'') := ⟨fun h2 => (by rw [hb] at h2; cases h2), fun _ => ⟨S', h⟩⟩
theorem bF {S : World → Prop} {i fuel : Nat} {l : Array Bool} {w'' : World} (hX : S w'') (h : Wa P ro n ops K0 S fuel l ρ ds w'') (hb : barOp ops i = false := by kernel_rfl) :
    (barOp ops i = false → S w'' ∧ Wa P ro n ops K0 S fuel l ρ ds w'') ∧ (barOp ops i = true → ∃ S', Wa P ro n ops K0 S' fuel l ρ ds w'') := ⟨fun _ => ⟨hX, h⟩, fun h2 => (by rw [hb] at h2; cases h2)⟩
theorem Wd {S : World → Prop} {listed : Array Bool} (h : K0 ρ ds w) (hr : Region.ready .any ops listed = [] := by kernel_rfl) : Wa P ro n ops K0 S 0 listed ρ ds w := Wa_done hr h
variable {rest : List Oper} {t : TypeId} {p : String} {e : Array Edge}
theorem Xb {d : Nat} {et : TypeId} {x : Operand} {cs : List Value} (hx : ev n ρ x = .agg cs.toArray)
    (h : ∀ b w', w.heap.size = b → Upd No w w' → w'.heap.size = b + 1 → Blk w' b cs → Wl P ro n ops Q rest (upd ρ d (.pointer (some ⟨b, 0, none⟩))) ds w') : Wl P ro n ops Q (⟨some d, .box et x, t, p, e, none⟩ :: rest) ρ ds w :=
  Wl_box hx rfl h
theorem Xa {st : TypeId} {x y : Operand} {b sz : Nat} {cs vs : List Value} {dd : Option Nat} (hsz : ∀ w, (sizeOf st).run P w = .ok sz w) (hx : ev n ρ x = .pointer (some ⟨b, 0, none⟩)) (hy : ev n ρ y = .agg vs.toArray)
    (hv : vs.length = sz) (h1 : (vs.all fun u => u.oneCell') = true) (hb : Blk w b cs) (hl : cs.length = vs.length)
    (h : ∀ w', Upd (Is b) w w' → w'.heap.size = w.heap.size → Blk w' b vs → Wl P ro n ops Q rest (put ρ dd undef) ds w') : Wl P ro n ops Q (⟨dd, .store st x y, t, p, e, none⟩ :: rest) ρ ds w :=
  Wl_storea (off := 0) (cs' := vs) hsz hx hy hv (fun u hu => List.all_eq_true.1 h1 u hu) hb (by omega) (by simp [hl]) h
theorem Xp (cs' : List Value) {st : TypeId} {x y : Operand} {b off sz : Nat} {cs vs : List Value} {dd : Option Nat} (hsz : ∀ w, (sizeOf st).run P w = .ok sz w) (hx : ev n ρ x = .pointer (some ⟨b, off, none⟩)) (hy : ev n ρ y = .agg vs.toArray)
    (hv : vs.length = sz) (h1 : (vs.all fun u => u.oneCell') = true) (hb : Blk w b cs) (hl : Nat.ble (off + vs.length) cs.length = true) (hcs : cs.take off ++ vs ++ cs.drop (off + vs.length) = cs')
    (h : ∀ w', Upd (Is b) w w' → w'.heap.size = w.heap.size → Blk w' b cs' → Wl P ro n ops Q rest (put ρ dd undef) ds w') : Wl P ro n ops Q (⟨dd, .store st x y, t, p, e, none⟩ :: rest) ρ ds w :=
  Wl_storea hsz hx hy hv (fun u hu => List.all_eq_true.1 h1 u hu) hb (Nat.le_of_ble_eq_true hl) hcs h
theorem Xc (cs' : List Value) {st : TypeId} {x y : Operand} {b i : Nat} {cs : List Value} {u v : Value} {dd : Option Nat} (hsz : ∀ w, (sizeOf st).run P w = .ok 1 w) (hx : ev n ρ x = .pointer (some ⟨b, i, none⟩)) (hb : Blk w b cs) (hi : cs[i]? = some u) (hcs : cs.set i v = cs') (hy : ev n ρ y = v)
    (hv : v.cells = #[v]) (h1 : v.oneCell' = true)
    (h : ∀ w', Upd (Is b) w w' → w'.heap.size = w.heap.size → Blk w' b cs' → Wl P ro n ops Q rest (put ρ dd undef) ds w') : Wl P ro n ops Q (⟨dd, .store st x y, t, p, e, none⟩ :: rest) ρ ds w :=
  Wl_store hsz hx hy hv h1 hb hi hcs h
theorem Xl {d : Option Tmp} {lt : TypeId} {x : Operand} {b sz : Nat} {cs : List Value} (hag : ∀ w, (isAgg lt).run P w = .ok true w) (hsz : ∀ w, (sizeOf lt).run P w = .ok sz w) (hx : ev n ρ x = .pointer (some ⟨b, 0, none⟩)) (hb : Blk w b cs) (hl : cs.length = sz)
    (h : Wl P ro n ops Q rest (put ρ d (.agg cs.toArray)) ds w) : Wl P ro n ops Q (⟨d, .load lt x, t, p, e, none⟩ :: rest) ρ ds w :=
  Zf (YE hag hsz hx hl (fun j _ => by rw [hb.cell, Nat.zero_add])) h
theorem Xq (cs : List Value) {d : Option Tmp} {lt : TypeId} {x : Operand} {b off sz : Nat} {cs0 : List Value} (hag : ∀ w, (isAgg lt).run P w = .ok true w) (hsz : ∀ w, (sizeOf lt).run P w = .ok sz w) (hx : ev n ρ x = .pointer (some ⟨b, off, none⟩)) (hb : Blk w b cs0) (hl : cs.length = sz)
    (hc : (cs0.drop off).take sz = cs) (h : Wl P ro n ops Q rest (put ρ d (.agg cs.toArray)) ds w) : Wl P ro n ops Q (⟨d, .load lt x, t, p, e, none⟩ :: rest) ρ ds w :=
  Zf (YE hag hsz hx hl (fun j hj => by rw [hb.cell, ← hc, List.getElem?_take, if_pos hj, List.getElem?_drop])) h
theorem Xt {d : Option Tmp} {g : Option (Nat × Bool)} {lt : TypeId} {x : Operand} {b off sz : Nat} {cs cs0 : List Value} {w' : World} (hag : ∀ w, (isAgg lt).run P w = .ok true w) (hsz : ∀ w, (sizeOf lt).run P w = .ok sz w) (hx : ev n ρ x = .pointer (some ⟨b, off, none⟩)) (hb : Blk w' b cs0) (hl : cs.length = sz)
    (hc : (cs0.drop off).take sz = cs) : (Oper.semAt ro (ev n ρ) ⟨d, .load lt x, t, p, e, g⟩).run P w' = .ok (.value (.agg cs.toArray)) w' :=
  YE hag hsz hx hl (fun j hj => by rw [hb.cell, ← hc, List.getElem?_take, if_pos hj, List.getElem?_drop])
theorem Xd {d : Option Tmp} {xt yt : TypeId} {x y : Operand} {a b : Int} (hx : ev n ρ x = .int .i64 a) (hy : ev n ρ y = .int .i64 b) (h : Wl P ro n ops Q rest (put ρ d (.int .i64 (a + b))) ds w) (h1 : -9223372036854775808 ≤ a + b := by omega) (h2 : a + b ≤ 9223372036854775807 := by omega) :
    Wl P ro n ops Q (⟨d, .binOp .add xt x y yt, t, p, e, none⟩ :: rest) ρ ds w := Zf (Yf hx hy (ZY h1 h2)) h
theorem Xs {d : Option Tmp} {xt yt : TypeId} {x y : Operand} {a b : Int} (hx : ev n ρ x = .int .i64 a) (hy : ev n ρ y = .int .i64 b) (h : Wl P ro n ops Q rest (put ρ d (.int .i64 (a - b))) ds w) (h1 : -9223372036854775808 ≤ a - b := by omega) (h2 : a - b ≤ 9223372036854775807 := by omega) :
    Wl P ro n ops Q (⟨d, .binOp .sub xt x y yt, t, p, e, none⟩ :: rest) ρ ds w := Zf (Y7 hx hy (ZY h1 h2)) h
end
theorem ge1 {a b c : Nat} (h : a ≤ b) : ∀ g, (b ≤ g ∧ g < c) → a ≤ g := fun _ hg => Nat.le_trans h hg.1
theorem ge2 {a b : Nat} (h : a ≤ b) : ∀ g, b ≤ g → a ≤ g := fun _ hg => Nat.le_trans h hg
theorem ge3 {a b c d e : Nat} (h : a ≤ b) (h2 : a ≤ d) : ∀ g, (((b ≤ g ∧ g < c) ∨ g = d) ∧ g < e) → a ≤ g := fun _ hg => by omega
theorem ge4 {a b c : Nat} (h : a ≤ b) : ∀ g, (g = b ∧ g < c) → a ≤ g := fun _ hg => by omega
end Go.Fw
