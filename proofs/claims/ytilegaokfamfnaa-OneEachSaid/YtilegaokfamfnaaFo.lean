/-
  The operations, one law each, in the form in which the walks use them.
-/
import Derived.Test.YtilegaokfamfnaaFm
namespace Go.Fw

section wraps
theorem wi64 {x : Int} (h1 : -9223372036854775808 ≤ x) (h2 : x ≤ 9223372036854775807) : IntKind.i64.wrap x = x := by
  have e1 : (2 ^ IntKind.i64.bits : Int) = 18446744073709551616 := by decide
  have e2 : (2 ^ (IntKind.i64.bits - 1) : Int) = 9223372036854775808 := by decide
  simp only [IntKind.wrap, e1, e2, IntKind.signed, Bool.true_and, decide_eq_true_eq]
  split <;> omega
theorem mu8 (x : Int) : IntKind.u8.wrap x = x % 256 := by
  have e1 : (2 ^ IntKind.u8.bits : Int) = 256 := by decide
  simp [IntKind.wrap, e1, IntKind.signed]
theorem mu16 (x : Int) : IntKind.u16.wrap x = x % 65536 := by
  have e1 : (2 ^ IntKind.u16.bits : Int) = 65536 := by decide
  simp [IntKind.wrap, e1, IntKind.signed]
theorem mu32 (x : Int) : IntKind.u32.wrap x = x % 4294967296 := by
  have e1 : (2 ^ IntKind.u32.bits : Int) = 4294967296 := by decide
  simp [IntKind.wrap, e1, IntKind.signed]
theorem mu64 (x : Int) : IntKind.u64.wrap x = x % 18446744073709551616 := by
  have e1 : (2 ^ IntKind.u64.bits : Int) = 18446744073709551616 := by decide
  simp [IntKind.wrap, e1, IntKind.signed]
theorem wu8 {x : Int} (h1 : 0 ≤ x) (h2 : x < 256) : IntKind.u8.wrap x = x := by rw [mu8]; omega
theorem wu16 {x : Int} (h1 : 0 ≤ x) (h2 : x < 65536) : IntKind.u16.wrap x = x := by rw [mu16]; omega
theorem wu32 {x : Int} (h1 : 0 ≤ x) (h2 : x < 4294967296) : IntKind.u32.wrap x = x := by rw [mu32]; omega
theorem wu64 {x : Int} (h1 : 0 ≤ x) (h2 : x < 18446744073709551616) : IntKind.u64.wrap x = x := by rw [mu64]; omega
/-- division and remainder of what is not negative -/
theorem tq {k : IntKind} {a b : Int} (h0 : 0 ≤ a) (hw : k.wrap (a / b) = a / b) : k.wrap (a.tdiv b) = a / b := by rw [Int.tdiv_eq_ediv_of_nonneg h0]; exact hw
theorem tr {a b : Int} (h0 : 0 ≤ a) : a.tmod b = a % b := Int.tmod_eq_emod_of_nonneg h0
end wraps

section vals
variable {P : Program} {ro : Option Nat} {w : World} {ρ : Operand → Value} {d : Option Tmp} {t : TypeId} {p : String} {e : Array Edge} {g : Option (Nat × Bool)}

theorem sem_op {op : Op} (h : ∀ c, op ≠ .defer c) : Oper.semAt ro ρ ⟨d, op, t, p, e, g⟩ = execOp ρ ⟨d, op, t, p, e, g⟩ := Oper.semAt_eq ro ρ _ h

theorem r_mv {x : Operand} {v : Value} (h : ρ x = v) : (Oper.semAt ro ρ ⟨d, .move x, t, p, e, g⟩).run P w = .ok (.value v) w := by
  rw [sem_op (by simp)]; simp [execOp, h]
theorem r_as {x : Operand} {v : Value} (h : ρ x = v) : (Oper.semAt ro ρ ⟨d, .assign x, t, p, e, g⟩).run P w = .ok (.value v) w := by
  rw [sem_op (by simp)]; simp [execOp, h]
theorem r_pick_t {c a b : Operand} {v : Value} (hc : ρ c = .bool true) (h : ρ a = v) : (Oper.semAt ro ρ ⟨d, .pick c a b, t, p, e, g⟩).run P w = .ok (.value v) w := by
  rw [sem_op (by simp)]; simp [execOp, hc, asBool, h]
theorem r_pick_f {c a b : Operand} {v : Value} (hc : ρ c = .bool false) (h : ρ b = v) : (Oper.semAt ro ρ ⟨d, .pick c a b, t, p, e, g⟩).run P w = .ok (.value v) w := by
  rw [sem_op (by simp)]; simp [execOp, hc, asBool, h]
theorem r_ext {x : Operand} {i : Nat} {vs : Array Value} {v : Value} (h : ρ x = .tuple vs) (hv : vs[i]? = some v) :
    (Oper.semAt ro ρ ⟨d, .extract x i, t, p, e, g⟩).run P w = .ok (.value v) w := by
  rw [sem_op (by simp)]; simp [execOp, Instr.extract, h, hv]

theorem guard_int {op : BinOp} {xt : TypeId} {x y : Operand} {k k' : IntKind} {a b : Int} : (eqGuard op xt x y (.int k a) (.int k' b)).run P w = .ok () w := by
  unfold eqGuard; split <;> rfl

theorem r_add {xt yt : TypeId} {x y : Operand} {k : IntKind} {a b c : Int} (hx : ρ x = .int k a) (hy : ρ y = .int k b) (hc : k.wrap (a + b) = c) :
    (Oper.semAt ro ρ ⟨d, .binOp .add xt x y yt, t, p, e, g⟩).run P w = .ok (.value (.int k c)) w := by
  rw [sem_op (by simp)]; simp [execOp, hx, hy, guard_int, binOp, Op.intArith, hc]
theorem r_sub {xt yt : TypeId} {x y : Operand} {k : IntKind} {a b c : Int} (hx : ρ x = .int k a) (hy : ρ y = .int k b) (hc : k.wrap (a - b) = c) :
    (Oper.semAt ro ρ ⟨d, .binOp .sub xt x y yt, t, p, e, g⟩).run P w = .ok (.value (.int k c)) w := by
  rw [sem_op (by simp)]; simp [execOp, hx, hy, guard_int, binOp, Op.intArith, hc]
theorem r_mul {xt yt : TypeId} {x y : Operand} {k : IntKind} {a b c : Int} (hx : ρ x = .int k a) (hy : ρ y = .int k b) (hc : k.wrap (a * b) = c) :
    (Oper.semAt ro ρ ⟨d, .binOp .mul xt x y yt, t, p, e, g⟩).run P w = .ok (.value (.int k c)) w := by
  rw [sem_op (by simp)]; simp [execOp, hx, hy, guard_int, binOp, Op.intArith, hc]
theorem r_quo {xt yt : TypeId} {x y : Operand} {k : IntKind} {a b c : Int} (hx : ρ x = .int k a) (hy : ρ y = .int k b) (hb : b ≠ 0) (hc : k.wrap (a.tdiv b) = c) :
    (Oper.semAt ro ρ ⟨d, .binOp .quo xt x y yt, t, p, e, g⟩).run P w = .ok (.value (.int k c)) w := by
  rw [sem_op (by simp)]; simp [execOp, hx, hy, guard_int, binOp, Op.intDiv, hb, hc]
theorem r_rem {xt yt : TypeId} {x y : Operand} {k : IntKind} {a b c : Int} (hx : ρ x = .int k a) (hy : ρ y = .int k b) (hb : b ≠ 0) (hc : a.tmod b = c) :
    (Oper.semAt ro ρ ⟨d, .binOp .rem xt x y yt, t, p, e, g⟩).run P w = .ok (.value (.int k c)) w := by
  rw [sem_op (by simp)]; simp [execOp, hx, hy, guard_int, binOp, Op.intDiv, hb, hc]
theorem r_and {xt yt : TypeId} {x y : Operand} {k : IntKind} {a b c : Int} (hx : ρ x = .int k a) (hy : ρ y = .int k b) (hc : k.wrap (((a % 2 ^ k.bits).toNat &&& (b % 2 ^ k.bits).toNat : Nat) : Int) = c) :
    (Oper.semAt ro ρ ⟨d, .binOp .and xt x y yt, t, p, e, g⟩).run P w = .ok (.value (.int k c)) w := by
  rw [sem_op (by simp)]; simp [execOp, hx, hy, guard_int, binOp, Op.intBits, hc]
theorem r_or {xt yt : TypeId} {x y : Operand} {k : IntKind} {a b c : Int} (hx : ρ x = .int k a) (hy : ρ y = .int k b) (hc : k.wrap (((a % 2 ^ k.bits).toNat ||| (b % 2 ^ k.bits).toNat : Nat) : Int) = c) :
    (Oper.semAt ro ρ ⟨d, .binOp .or xt x y yt, t, p, e, g⟩).run P w = .ok (.value (.int k c)) w := by
  rw [sem_op (by simp)]; simp [execOp, hx, hy, guard_int, binOp, Op.intBits, hc]
theorem r_xor {xt yt : TypeId} {x y : Operand} {k : IntKind} {a b c : Int} (hx : ρ x = .int k a) (hy : ρ y = .int k b) (hc : k.wrap (((a % 2 ^ k.bits).toNat ^^^ (b % 2 ^ k.bits).toNat : Nat) : Int) = c) :
    (Oper.semAt ro ρ ⟨d, .binOp .xor xt x y yt, t, p, e, g⟩).run P w = .ok (.value (.int k c)) w := by
  rw [sem_op (by simp)]; simp [execOp, hx, hy, guard_int, binOp, Op.intBits, hc]
theorem r_shl {xt yt : TypeId} {x y : Operand} {k k' : IntKind} {a b c : Int} (hx : ρ x = .int k a) (hy : ρ y = .int k' b) (hb : 0 ≤ b) (hc : k.wrap (a * 2 ^ (min b.toNat k.bits)) = c) :
    (Oper.semAt ro ρ ⟨d, .binOp .shl xt x y yt, t, p, e, g⟩).run P w = .ok (.value (.int k c)) w := by
  have hb' : ¬ b < 0 := by omega
  rw [sem_op (by simp)]; simp [execOp, hx, hy, guard_int, binOp, Op.shift, hb', hc]
theorem r_shr {xt yt : TypeId} {x y : Operand} {k k' : IntKind} {a b c : Int} (hx : ρ x = .int k a) (hy : ρ y = .int k' b) (hb : 0 ≤ b) (hc : a / 2 ^ (min b.toNat k.bits) = c) :
    (Oper.semAt ro ρ ⟨d, .binOp .shr xt x y yt, t, p, e, g⟩).run P w = .ok (.value (.int k c)) w := by
  have hb' : ¬ b < 0 := by omega
  have : a.fdiv (2 ^ (min b.toNat k.bits)) = c := by rw [← hc]; exact Int.fdiv_eq_ediv_of_nonneg _ (Int.le_of_lt (Int.pow_pos (by decide)))
  rw [sem_op (by simp)]; simp [execOp, hx, hy, guard_int, binOp, Op.shift, hb', this]
theorem r_eq {xt yt : TypeId} {x y : Operand} {k : IntKind} {a b : Int} (hx : ρ x = .int k a) (hy : ρ y = .int k b) :
    (Oper.semAt ro ρ ⟨d, .binOp .eql xt x y yt, t, p, e, g⟩).run P w = .ok (.value (.bool (decide (a = b)))) w := by
  rw [sem_op (by simp)]; simp [execOp, hx, hy, guard_int, binOp, Op.intCmp]; rfl
theorem r_ne {xt yt : TypeId} {x y : Operand} {k : IntKind} {a b : Int} (hx : ρ x = .int k a) (hy : ρ y = .int k b) :
    (Oper.semAt ro ρ ⟨d, .binOp .neq xt x y yt, t, p, e, g⟩).run P w = .ok (.value (.bool (decide (a ≠ b)))) w := by
  rw [sem_op (by simp)]; simp [execOp, hx, hy, guard_int, binOp, Op.intCmp, bne]; rfl
theorem r_lt {xt yt : TypeId} {x y : Operand} {k : IntKind} {a b : Int} (hx : ρ x = .int k a) (hy : ρ y = .int k b) :
    (Oper.semAt ro ρ ⟨d, .binOp .lss xt x y yt, t, p, e, g⟩).run P w = .ok (.value (.bool (decide (a < b)))) w := by
  rw [sem_op (by simp)]; simp [execOp, hx, hy, guard_int, binOp, Op.intCmp]
theorem r_le {xt yt : TypeId} {x y : Operand} {k : IntKind} {a b : Int} (hx : ρ x = .int k a) (hy : ρ y = .int k b) :
    (Oper.semAt ro ρ ⟨d, .binOp .leq xt x y yt, t, p, e, g⟩).run P w = .ok (.value (.bool (decide (a ≤ b)))) w := by
  rw [sem_op (by simp)]; simp [execOp, hx, hy, guard_int, binOp, Op.intCmp]
theorem r_gt {xt yt : TypeId} {x y : Operand} {k : IntKind} {a b : Int} (hx : ρ x = .int k a) (hy : ρ y = .int k b) :
    (Oper.semAt ro ρ ⟨d, .binOp .gtr xt x y yt, t, p, e, g⟩).run P w = .ok (.value (.bool (decide (b < a)))) w := by
  rw [sem_op (by simp)]; simp [execOp, hx, hy, guard_int, binOp, Op.intCmp]
theorem r_ge {xt yt : TypeId} {x y : Operand} {k : IntKind} {a b : Int} (hx : ρ x = .int k a) (hy : ρ y = .int k b) :
    (Oper.semAt ro ρ ⟨d, .binOp .geq xt x y yt, t, p, e, g⟩).run P w = .ok (.value (.bool (decide (b ≤ a)))) w := by
  rw [sem_op (by simp)]; simp [execOp, hx, hy, guard_int, binOp, Op.intCmp]
theorem r_not {xt : TypeId} {x : Operand} {b : Bool} (hx : ρ x = .bool b) : (Oper.semAt ro ρ ⟨d, .unOp .not xt x, t, p, e, g⟩).run P w = .ok (.value (.bool (!b))) w := by
  rw [sem_op (by simp)]; simp [execOp, hx, Op.unary]
theorem r_neg {xt : TypeId} {x : Operand} {k : IntKind} {a c : Int} (hx : ρ x = .int k a) (hc : k.wrap (0 - a) = c) : (Oper.semAt ro ρ ⟨d, .unOp .neg xt x, t, p, e, g⟩).run P w = .ok (.value (.int k c)) w := by
  rw [sem_op (by simp)]; simp [execOp, hx, Op.unary, Op.intArith] ; simpa using hc
theorem r_cvt {src dst : TypeId} {x : Operand} {us : TypeDesc} {k k' : IntKind} {a c : Int} (hs : P.underlying src = some us) (hd : P.underlying dst = some (.int k)) (hx : ρ x = .int k' a) (hc : k.wrap a = c) :
    (Oper.semAt ro ρ ⟨d, .convert src dst x, t, p, e, g⟩).run P w = .ok (.value (.int k c)) w := by
  rw [sem_op (by simp)]; simp [execOp, hx, convert, run_underlying hs, run_underlying hd, Conv.intToInt, hc]
theorem r_nil {x : Operand} {a : Addr} (hx : ρ x = .pointer (some a)) : (Oper.semAt ro ρ ⟨d, .nilCheck x, t, p, e, g⟩).run P w = .ok (.value (.pointer (some a))) w := by
  rw [sem_op (by simp)]; simp [execOp, hx]
theorem r_fld {st : TypeId} {x : Operand} {i : Nat} {b o o' : Nat} {fs : Array Field} {f : Field} {k : Nat} (hu : P.underlying st = some (.struct fs)) (hf : fs[i]? = some f)
    (hz : ∀ w, (sizeOf f.type).run P w = .ok (k + 1) w) (hx : ρ x = .pointer (some ⟨b, o, none⟩)) (ho : o + f.offset = o') :
    (Oper.semAt ro ρ ⟨d, .fieldAddr st x i, t, p, e, g⟩).run P w = .ok (.value (.pointer (some ⟨b, o', none⟩))) w := by
  subst ho
  rw [sem_op (by simp)]
  have hadd : (⟨b, o, none⟩ : Addr).add f.offset = ⟨b, o + f.offset, none⟩ := by unfold Addr.add; split <;> simp_all
  simp [execOp, hx, Instr.fieldAt, run_underlying hu, hf, Instr.sureAddr, fieldPlace, hz, hadd]
theorem r_mki {xt : TypeId} {x : Operand} {v : Value} (hc : P.concrete xt = true) (hx : ρ x = v) :
    (Oper.semAt ro ρ ⟨d, .makeInterface xt x, t, p, e, g⟩).run P w = .ok (.value (.iface xt v)) w := by
  rw [sem_op (by simp)]; simp [execOp, hx, run_makeInterface _ _ _ hc]
theorem r_len {st : TypeId} {x : Operand} {et : TypeId} {a : Option Addr} {n c : Nat} (hu : P.underlying st = some (.slice et)) (hx : ρ x = .slice a n c) :
    (Oper.semAt ro ρ ⟨d, .call { callee := .builtin .len, args := #[x], argTypes := #[st] }, t, p, e, g⟩).run P w = .ok (.value (.int .i64 n)) w := by
  rw [sem_op (by simp)]; simp [execOp, resolve, invoke, builtin, hx, Builtin.len_, run_underlying hu, goInt]
theorem r_max {xt yt : TypeId} {x y : Operand} {k : IntKind} {a b : Int} (hx : ρ x = .int k a) (hy : ρ y = .int k b) :
    (Oper.semAt ro ρ ⟨d, .call { callee := .builtin .max, args := #[x, y], argTypes := #[xt, yt] }, t, p, e, g⟩).run P w = .ok (.value (.int k (max a b))) w := by
  have : (if b > a then b else a) = max a b := by omega
  rw [sem_op (by simp)]; simp [execOp, resolve, invoke, builtin, hx, hy, Builtin.max_, Builtin.max2]; omega
theorem r_min {xt yt : TypeId} {x y : Operand} {k : IntKind} {a b : Int} (hx : ρ x = .int k a) (hy : ρ y = .int k b) :
    (Oper.semAt ro ρ ⟨d, .call { callee := .builtin .min, args := #[x, y], argTypes := #[xt, yt] }, t, p, e, g⟩).run P w = .ok (.value (.int k (min a b))) w := by
  rw [sem_op (by simp)]; simp [execOp, resolve, invoke, builtin, hx, hy, Builtin.min_, Builtin.min2]; omega
theorem run_eqsn {xt et : TypeId} {a : Option Addr} {n c : Nat} (hu : P.underlying xt = some (.slice et)) : (Op.equal xt (.slice a n c) (.slice none 0 0)).run P w = .ok (decide (a = none)) w := by
  have h : ∀ d, (Op.equalIn (d + 1) xt (.slice a n c) (.slice none 0 0)).run P w = .ok (decide (a = none)) w := fun d => by
    cases a <;> simp [Op.equalIn, run_underlying hu]
  exact h 9999
theorem run_eqpn {xt et : TypeId} {a : Option Addr} (hu : P.underlying xt = some (.pointer et)) : (Op.equal xt (.pointer a) (.pointer none)).run P w = .ok (decide (a = none)) w := by
  have h : ∀ d, (Op.equalIn (d + 1) xt (.pointer a) (.pointer none)).run P w = .ok (decide (a = none)) w := fun d => by
    cases a <;> simp [Op.equalIn, run_underlying hu]
  exact h 9999
theorem run_eqb {xt : TypeId} {a b : Bool} (hu : P.underlying xt = some .bool) : (Op.equal xt (.bool a) (.bool b)).run P w = .ok (a == b) w := by
  have h : ∀ d, (Op.equalIn (d + 1) xt (.bool a) (.bool b)).run P w = .ok (a == b) w := fun d => by
    simp [Op.equalIn, run_underlying hu]
  exact h 9999
theorem r_eqsn {xt yt et : TypeId} {x y : Operand} {a : Option Addr} {n c : Nat} (hu : P.underlying xt = some (.slice et)) (hx : ρ x = .slice a n c) (hy : ρ y = .slice none 0 0) :
    (Oper.semAt ro ρ ⟨d, .binOp .eql xt x y yt, t, p, e, g⟩).run P w = .ok (.value (.bool (decide (a = none)))) w := by
  rw [sem_op (by simp)]; simp [execOp, hx, hy, eqGuard, binOp, run_eqsn hu]
theorem r_nesn {xt yt et : TypeId} {x y : Operand} {a : Option Addr} {n c : Nat} (hu : P.underlying xt = some (.slice et)) (hx : ρ x = .slice a n c) (hy : ρ y = .slice none 0 0) :
    (Oper.semAt ro ρ ⟨d, .binOp .neq xt x y yt, t, p, e, g⟩).run P w = .ok (.value (.bool (!decide (a = none)))) w := by
  rw [sem_op (by simp)]; simp [execOp, hx, hy, eqGuard, binOp, run_eqsn hu]
theorem r_eqpn {xt yt et : TypeId} {x y : Operand} {a : Option Addr} (hu : P.underlying xt = some (.pointer et)) (hx : ρ x = .pointer a) (hy : ρ y = .pointer none) :
    (Oper.semAt ro ρ ⟨d, .binOp .eql xt x y yt, t, p, e, g⟩).run P w = .ok (.value (.bool (decide (a = none)))) w := by
  rw [sem_op (by simp)]; simp [execOp, hx, hy, eqGuard, binOp, run_eqpn hu]
theorem r_nepn {xt yt et : TypeId} {x y : Operand} {a : Option Addr} (hu : P.underlying xt = some (.pointer et)) (hx : ρ x = .pointer a) (hy : ρ y = .pointer none) :
    (Oper.semAt ro ρ ⟨d, .binOp .neq xt x y yt, t, p, e, g⟩).run P w = .ok (.value (.bool (!decide (a = none)))) w := by
  rw [sem_op (by simp)]; simp [execOp, hx, hy, eqGuard, binOp, run_eqpn hu]
theorem r_eqsn_n {xt yt : TypeId} {x y : Operand} {et : TypeId} {n c : Nat} (hu : P.underlying xt = some (.slice et)) (hx : ρ x = .slice none n c) (hy : ρ y = .slice none 0 0) :
    (Oper.semAt ro ρ ⟨d, .binOp .eql xt x y yt, t, p, e, g⟩).run P w = .ok (.value (.bool true)) w := by
  rw [sem_op (by simp)]; simp [execOp, hx, hy, eqGuard, binOp, run_eqsn hu]
theorem r_eqsn_s {xt yt : TypeId} {x y : Operand} {et : TypeId} {n c : Nat} {q : Addr} (hu : P.underlying xt = some (.slice et)) (hx : ρ x = .slice (some q) n c) (hy : ρ y = .slice none 0 0) :
    (Oper.semAt ro ρ ⟨d, .binOp .eql xt x y yt, t, p, e, g⟩).run P w = .ok (.value (.bool false)) w := by
  rw [sem_op (by simp)]; simp [execOp, hx, hy, eqGuard, binOp, run_eqsn hu]
theorem r_nesn_n {xt yt : TypeId} {x y : Operand} {et : TypeId} {n c : Nat} (hu : P.underlying xt = some (.slice et)) (hx : ρ x = .slice none n c) (hy : ρ y = .slice none 0 0) :
    (Oper.semAt ro ρ ⟨d, .binOp .neq xt x y yt, t, p, e, g⟩).run P w = .ok (.value (.bool false)) w := by
  rw [sem_op (by simp)]; simp [execOp, hx, hy, eqGuard, binOp, run_eqsn hu]
theorem r_nesn_s {xt yt : TypeId} {x y : Operand} {et : TypeId} {n c : Nat} {q : Addr} (hu : P.underlying xt = some (.slice et)) (hx : ρ x = .slice (some q) n c) (hy : ρ y = .slice none 0 0) :
    (Oper.semAt ro ρ ⟨d, .binOp .neq xt x y yt, t, p, e, g⟩).run P w = .ok (.value (.bool true)) w := by
  rw [sem_op (by simp)]; simp [execOp, hx, hy, eqGuard, binOp, run_eqsn hu]
theorem r_eqpn_n {xt yt : TypeId} {x y : Operand} {et : TypeId} (hu : P.underlying xt = some (.pointer et)) (hx : ρ x = .pointer none) (hy : ρ y = .pointer none) :
    (Oper.semAt ro ρ ⟨d, .binOp .eql xt x y yt, t, p, e, g⟩).run P w = .ok (.value (.bool true)) w := by
  rw [sem_op (by simp)]; simp [execOp, hx, hy, eqGuard, binOp, run_eqpn hu]
theorem r_eqpn_s {xt yt : TypeId} {x y : Operand} {et : TypeId} {q : Addr} (hu : P.underlying xt = some (.pointer et)) (hx : ρ x = .pointer (some q)) (hy : ρ y = .pointer none) :
    (Oper.semAt ro ρ ⟨d, .binOp .eql xt x y yt, t, p, e, g⟩).run P w = .ok (.value (.bool false)) w := by
  rw [sem_op (by simp)]; simp [execOp, hx, hy, eqGuard, binOp, run_eqpn hu]
theorem r_nepn_n {xt yt : TypeId} {x y : Operand} {et : TypeId} (hu : P.underlying xt = some (.pointer et)) (hx : ρ x = .pointer none) (hy : ρ y = .pointer none) :
    (Oper.semAt ro ρ ⟨d, .binOp .neq xt x y yt, t, p, e, g⟩).run P w = .ok (.value (.bool false)) w := by
  rw [sem_op (by simp)]; simp [execOp, hx, hy, eqGuard, binOp, run_eqpn hu]
theorem r_nepn_s {xt yt : TypeId} {x y : Operand} {et : TypeId} {q : Addr} (hu : P.underlying xt = some (.pointer et)) (hx : ρ x = .pointer (some q)) (hy : ρ y = .pointer none) :
    (Oper.semAt ro ρ ⟨d, .binOp .neq xt x y yt, t, p, e, g⟩).run P w = .ok (.value (.bool true)) w := by
  rw [sem_op (by simp)]; simp [execOp, hx, hy, eqGuard, binOp, run_eqpn hu]
theorem r_eqb {xt yt : TypeId} {x y : Operand} {a b : Bool} (hu : P.underlying xt = some .bool) (hx : ρ x = .bool a) (hy : ρ y = .bool b) :
    (Oper.semAt ro ρ ⟨d, .binOp .eql xt x y yt, t, p, e, g⟩).run P w = .ok (.value (.bool (a == b))) w := by
  rw [sem_op (by simp)]; simp [execOp, hx, hy, eqGuard, binOp, run_eqb hu]
theorem r_neb {xt yt : TypeId} {x y : Operand} {a b : Bool} (hu : P.underlying xt = some .bool) (hx : ρ x = .bool a) (hy : ρ y = .bool b) :
    (Oper.semAt ro ρ ⟨d, .binOp .neq xt x y yt, t, p, e, g⟩).run P w = .ok (.value (.bool (!(a == b)))) w := by
  rw [sem_op (by simp)]; simp [execOp, hx, hy, eqGuard, binOp, run_eqb hu]
theorem r_eqstr {xt yt : TypeId} {x y : Operand} {xs ys : List Int} (bx : Byt xs) (by' : Byt ys) (hx : ρ x = .string (strOfNums xs)) (hy : ρ y = .string (strOfNums ys)) :
    (Oper.semAt ro ρ ⟨d, .binOp .eql xt x y yt, t, p, e, g⟩).run P w = .ok (.value (.bool (decide (xs = ys)))) w := by
  rw [sem_op (by simp)]; simp only [execOp, hx, hy, eqGuard, binOp, Op.stringOp, str_eq bx by']; simp
theorem r_build {st : TypeId} {fs : Array Field} {parts : Array (Nat × Operand)} {pv : List (Nat × Value)} {z : Value} {pl : Array (Nat × Nat)} {cs : Array Value} (hz : ∀ w, (zeroValue st).run P w = .ok z w) (hu : P.underlying st = some (.struct fs))
    (hm : ∀ w, (fs.mapM (m := Sem) fun f => do pure (f.offset, ← sizeOf f.type)).run P w = .ok pl w) (hp : (parts.map fun (i, x) => (i, ρ x)).toList = pv) (hf : Instr.fill (pl[·]?) z.cells pv = some cs) :
    (Oper.semAt ro ρ ⟨d, .build st parts, t, p, e, g⟩).run P w = .ok (.value (.agg cs)) w := by
  subst hp
  rw [sem_op (by simp)]; simp only [execOp, Instr.build, Sem.run_bind, hz, Result.andThen_ok, run_underlying hu, hm, hf]; simp
theorem sem_call0 {c : Call} : Oper.semAt ro ρ ⟨d, .call c, t, p, e, g⟩ = execOp ρ ⟨d, .call c, t, p, e, g⟩ := sem_op (by simp)
theorem r_call0 {f : FuncId} {ts : Array TypeId} (hF : ρ (.func f) = .func (.func f) #[] #[]) (hf : ∀ as w, (callFunc f as).run P w = .ok (.enter f as) w)  :
    (Oper.semAt ro ρ ⟨d, .call { callee := .value (.func f), args := #[], argTypes := ts }, t, p, e, g⟩).run P w = .ok (.enter f #[]) w := by
  rw [sem_call0]; simp [execOp, resolve, Deferred.ofValue, invoke,  hf, hF]
theorem r_clos0 {f : FuncId} {ts : Array TypeId} {y : Operand} {cap as : Array Value} (hf : ∀ as w, (callFunc f as).run P w = .ok (.enter f as) w) (hy : ρ y = .func (.func f) #[] cap)  (ha : #[] ++ cap = as) :
    (Oper.semAt ro ρ ⟨d, .call { callee := .value y, args := #[], argTypes := ts }, t, p, e, g⟩).run P w = .ok (.enter f as) w := by
  subst ha; rw [sem_call0]; simp [execOp, resolve, Deferred.ofValue, invoke, hy,  hf]
theorem r_mkf0 {fn : Fn}  :
    (Oper.semAt ro ρ ⟨d, .makeFunc fn #[] #[], t, p, e, g⟩).run P w = .ok (.value (.func fn #[] #[])) w := by
  rw [sem_op (by simp)]; simp [execOp, Instr.makeFunc, ]
theorem r_call1 {f : FuncId} {ts : Array TypeId} {x0 : Operand} {v0 : Value} (hF : ρ (.func f) = .func (.func f) #[] #[]) (hf : ∀ as w, (callFunc f as).run P w = .ok (.enter f as) w) (h0 : ρ x0 = v0) :
    (Oper.semAt ro ρ ⟨d, .call { callee := .value (.func f), args := #[x0], argTypes := ts }, t, p, e, g⟩).run P w = .ok (.enter f #[v0]) w := by
  rw [sem_call0]; simp [execOp, resolve, Deferred.ofValue, invoke, h0,  hf, hF]
theorem r_clos1 {f : FuncId} {ts : Array TypeId} {y : Operand} {cap as : Array Value} {x0 : Operand} {v0 : Value} (hf : ∀ as w, (callFunc f as).run P w = .ok (.enter f as) w) (hy : ρ y = .func (.func f) #[] cap) (h0 : ρ x0 = v0) (ha : #[v0] ++ cap = as) :
    (Oper.semAt ro ρ ⟨d, .call { callee := .value y, args := #[x0], argTypes := ts }, t, p, e, g⟩).run P w = .ok (.enter f as) w := by
  subst ha; rw [sem_call0]; simp [execOp, resolve, Deferred.ofValue, invoke, hy, h0,  hf]
theorem r_mkf1 {fn : Fn} {x0 : Operand} {v0 : Value} (h0 : ρ x0 = v0) :
    (Oper.semAt ro ρ ⟨d, .makeFunc fn #[] #[x0], t, p, e, g⟩).run P w = .ok (.value (.func fn #[] #[v0])) w := by
  rw [sem_op (by simp)]; simp [execOp, Instr.makeFunc, h0]
theorem r_call2 {f : FuncId} {ts : Array TypeId} {x0 x1 : Operand} {v0 v1 : Value} (hF : ρ (.func f) = .func (.func f) #[] #[]) (hf : ∀ as w, (callFunc f as).run P w = .ok (.enter f as) w) (h0 : ρ x0 = v0) (h1 : ρ x1 = v1) :
    (Oper.semAt ro ρ ⟨d, .call { callee := .value (.func f), args := #[x0, x1], argTypes := ts }, t, p, e, g⟩).run P w = .ok (.enter f #[v0, v1]) w := by
  rw [sem_call0]; simp [execOp, resolve, Deferred.ofValue, invoke, h0, h1,  hf, hF]
theorem r_clos2 {f : FuncId} {ts : Array TypeId} {y : Operand} {cap as : Array Value} {x0 x1 : Operand} {v0 v1 : Value} (hf : ∀ as w, (callFunc f as).run P w = .ok (.enter f as) w) (hy : ρ y = .func (.func f) #[] cap) (h0 : ρ x0 = v0) (h1 : ρ x1 = v1) (ha : #[v0, v1] ++ cap = as) :
    (Oper.semAt ro ρ ⟨d, .call { callee := .value y, args := #[x0, x1], argTypes := ts }, t, p, e, g⟩).run P w = .ok (.enter f as) w := by
  subst ha; rw [sem_call0]; simp [execOp, resolve, Deferred.ofValue, invoke, hy, h0, h1,  hf]
theorem r_mkf2 {fn : Fn} {x0 x1 : Operand} {v0 v1 : Value} (h0 : ρ x0 = v0) (h1 : ρ x1 = v1) :
    (Oper.semAt ro ρ ⟨d, .makeFunc fn #[] #[x0, x1], t, p, e, g⟩).run P w = .ok (.value (.func fn #[] #[v0, v1])) w := by
  rw [sem_op (by simp)]; simp [execOp, Instr.makeFunc, h0, h1]
theorem r_call3 {f : FuncId} {ts : Array TypeId} {x0 x1 x2 : Operand} {v0 v1 v2 : Value} (hF : ρ (.func f) = .func (.func f) #[] #[]) (hf : ∀ as w, (callFunc f as).run P w = .ok (.enter f as) w) (h0 : ρ x0 = v0) (h1 : ρ x1 = v1) (h2 : ρ x2 = v2) :
    (Oper.semAt ro ρ ⟨d, .call { callee := .value (.func f), args := #[x0, x1, x2], argTypes := ts }, t, p, e, g⟩).run P w = .ok (.enter f #[v0, v1, v2]) w := by
  rw [sem_call0]; simp [execOp, resolve, Deferred.ofValue, invoke, h0, h1, h2,  hf, hF]
theorem r_clos3 {f : FuncId} {ts : Array TypeId} {y : Operand} {cap as : Array Value} {x0 x1 x2 : Operand} {v0 v1 v2 : Value} (hf : ∀ as w, (callFunc f as).run P w = .ok (.enter f as) w) (hy : ρ y = .func (.func f) #[] cap) (h0 : ρ x0 = v0) (h1 : ρ x1 = v1) (h2 : ρ x2 = v2) (ha : #[v0, v1, v2] ++ cap = as) :
    (Oper.semAt ro ρ ⟨d, .call { callee := .value y, args := #[x0, x1, x2], argTypes := ts }, t, p, e, g⟩).run P w = .ok (.enter f as) w := by
  subst ha; rw [sem_call0]; simp [execOp, resolve, Deferred.ofValue, invoke, hy, h0, h1, h2,  hf]
theorem r_mkf3 {fn : Fn} {x0 x1 x2 : Operand} {v0 v1 v2 : Value} (h0 : ρ x0 = v0) (h1 : ρ x1 = v1) (h2 : ρ x2 = v2) :
    (Oper.semAt ro ρ ⟨d, .makeFunc fn #[] #[x0, x1, x2], t, p, e, g⟩).run P w = .ok (.value (.func fn #[] #[v0, v1, v2])) w := by
  rw [sem_op (by simp)]; simp [execOp, Instr.makeFunc, h0, h1, h2]
theorem r_call4 {f : FuncId} {ts : Array TypeId} {x0 x1 x2 x3 : Operand} {v0 v1 v2 v3 : Value} (hF : ρ (.func f) = .func (.func f) #[] #[]) (hf : ∀ as w, (callFunc f as).run P w = .ok (.enter f as) w) (h0 : ρ x0 = v0) (h1 : ρ x1 = v1) (h2 : ρ x2 = v2) (h3 : ρ x3 = v3) :
    (Oper.semAt ro ρ ⟨d, .call { callee := .value (.func f), args := #[x0, x1, x2, x3], argTypes := ts }, t, p, e, g⟩).run P w = .ok (.enter f #[v0, v1, v2, v3]) w := by
  rw [sem_call0]; simp [execOp, resolve, Deferred.ofValue, invoke, h0, h1, h2, h3,  hf, hF]
theorem r_clos4 {f : FuncId} {ts : Array TypeId} {y : Operand} {cap as : Array Value} {x0 x1 x2 x3 : Operand} {v0 v1 v2 v3 : Value} (hf : ∀ as w, (callFunc f as).run P w = .ok (.enter f as) w) (hy : ρ y = .func (.func f) #[] cap) (h0 : ρ x0 = v0) (h1 : ρ x1 = v1) (h2 : ρ x2 = v2) (h3 : ρ x3 = v3) (ha : #[v0, v1, v2, v3] ++ cap = as) :
    (Oper.semAt ro ρ ⟨d, .call { callee := .value y, args := #[x0, x1, x2, x3], argTypes := ts }, t, p, e, g⟩).run P w = .ok (.enter f as) w := by
  subst ha; rw [sem_call0]; simp [execOp, resolve, Deferred.ofValue, invoke, hy, h0, h1, h2, h3,  hf]
theorem r_mkf4 {fn : Fn} {x0 x1 x2 x3 : Operand} {v0 v1 v2 v3 : Value} (h0 : ρ x0 = v0) (h1 : ρ x1 = v1) (h2 : ρ x2 = v2) (h3 : ρ x3 = v3) :
    (Oper.semAt ro ρ ⟨d, .makeFunc fn #[] #[x0, x1, x2, x3], t, p, e, g⟩).run P w = .ok (.value (.func fn #[] #[v0, v1, v2, v3])) w := by
  rw [sem_op (by simp)]; simp [execOp, Instr.makeFunc, h0, h1, h2, h3]
theorem r_call5 {f : FuncId} {ts : Array TypeId} {x0 x1 x2 x3 x4 : Operand} {v0 v1 v2 v3 v4 : Value} (hF : ρ (.func f) = .func (.func f) #[] #[]) (hf : ∀ as w, (callFunc f as).run P w = .ok (.enter f as) w) (h0 : ρ x0 = v0) (h1 : ρ x1 = v1) (h2 : ρ x2 = v2) (h3 : ρ x3 = v3) (h4 : ρ x4 = v4) :
    (Oper.semAt ro ρ ⟨d, .call { callee := .value (.func f), args := #[x0, x1, x2, x3, x4], argTypes := ts }, t, p, e, g⟩).run P w = .ok (.enter f #[v0, v1, v2, v3, v4]) w := by
  rw [sem_call0]; simp [execOp, resolve, Deferred.ofValue, invoke, h0, h1, h2, h3, h4,  hf, hF]
theorem r_clos5 {f : FuncId} {ts : Array TypeId} {y : Operand} {cap as : Array Value} {x0 x1 x2 x3 x4 : Operand} {v0 v1 v2 v3 v4 : Value} (hf : ∀ as w, (callFunc f as).run P w = .ok (.enter f as) w) (hy : ρ y = .func (.func f) #[] cap) (h0 : ρ x0 = v0) (h1 : ρ x1 = v1) (h2 : ρ x2 = v2) (h3 : ρ x3 = v3) (h4 : ρ x4 = v4) (ha : #[v0, v1, v2, v3, v4] ++ cap = as) :
    (Oper.semAt ro ρ ⟨d, .call { callee := .value y, args := #[x0, x1, x2, x3, x4], argTypes := ts }, t, p, e, g⟩).run P w = .ok (.enter f as) w := by
  subst ha; rw [sem_call0]; simp [execOp, resolve, Deferred.ofValue, invoke, hy, h0, h1, h2, h3, h4,  hf]
theorem r_mkf5 {fn : Fn} {x0 x1 x2 x3 x4 : Operand} {v0 v1 v2 v3 v4 : Value} (h0 : ρ x0 = v0) (h1 : ρ x1 = v1) (h2 : ρ x2 = v2) (h3 : ρ x3 = v3) (h4 : ρ x4 = v4) :
    (Oper.semAt ro ρ ⟨d, .makeFunc fn #[] #[x0, x1, x2, x3, x4], t, p, e, g⟩).run P w = .ok (.value (.func fn #[] #[v0, v1, v2, v3, v4])) w := by
  rw [sem_op (by simp)]; simp [execOp, Instr.makeFunc, h0, h1, h2, h3, h4]
theorem r_call6 {f : FuncId} {ts : Array TypeId} {x0 x1 x2 x3 x4 x5 : Operand} {v0 v1 v2 v3 v4 v5 : Value} (hF : ρ (.func f) = .func (.func f) #[] #[]) (hf : ∀ as w, (callFunc f as).run P w = .ok (.enter f as) w) (h0 : ρ x0 = v0) (h1 : ρ x1 = v1) (h2 : ρ x2 = v2) (h3 : ρ x3 = v3) (h4 : ρ x4 = v4) (h5 : ρ x5 = v5) :
    (Oper.semAt ro ρ ⟨d, .call { callee := .value (.func f), args := #[x0, x1, x2, x3, x4, x5], argTypes := ts }, t, p, e, g⟩).run P w = .ok (.enter f #[v0, v1, v2, v3, v4, v5]) w := by
  rw [sem_call0]; simp [execOp, resolve, Deferred.ofValue, invoke, h0, h1, h2, h3, h4, h5,  hf, hF]
theorem r_clos6 {f : FuncId} {ts : Array TypeId} {y : Operand} {cap as : Array Value} {x0 x1 x2 x3 x4 x5 : Operand} {v0 v1 v2 v3 v4 v5 : Value} (hf : ∀ as w, (callFunc f as).run P w = .ok (.enter f as) w) (hy : ρ y = .func (.func f) #[] cap) (h0 : ρ x0 = v0) (h1 : ρ x1 = v1) (h2 : ρ x2 = v2) (h3 : ρ x3 = v3) (h4 : ρ x4 = v4) (h5 : ρ x5 = v5) (ha : #[v0, v1, v2, v3, v4, v5] ++ cap = as) :
    (Oper.semAt ro ρ ⟨d, .call { callee := .value y, args := #[x0, x1, x2, x3, x4, x5], argTypes := ts }, t, p, e, g⟩).run P w = .ok (.enter f as) w := by
  subst ha; rw [sem_call0]; simp [execOp, resolve, Deferred.ofValue, invoke, hy, h0, h1, h2, h3, h4, h5,  hf]
theorem r_mkf6 {fn : Fn} {x0 x1 x2 x3 x4 x5 : Operand} {v0 v1 v2 v3 v4 v5 : Value} (h0 : ρ x0 = v0) (h1 : ρ x1 = v1) (h2 : ρ x2 = v2) (h3 : ρ x3 = v3) (h4 : ρ x4 = v4) (h5 : ρ x5 = v5) :
    (Oper.semAt ro ρ ⟨d, .makeFunc fn #[] #[x0, x1, x2, x3, x4, x5], t, p, e, g⟩).run P w = .ok (.value (.func fn #[] #[v0, v1, v2, v3, v4, v5])) w := by
  rw [sem_op (by simp)]; simp [execOp, Instr.makeFunc, h0, h1, h2, h3, h4, h5]
theorem r_call7 {f : FuncId} {ts : Array TypeId} {x0 x1 x2 x3 x4 x5 x6 : Operand} {v0 v1 v2 v3 v4 v5 v6 : Value} (hF : ρ (.func f) = .func (.func f) #[] #[]) (hf : ∀ as w, (callFunc f as).run P w = .ok (.enter f as) w) (h0 : ρ x0 = v0) (h1 : ρ x1 = v1) (h2 : ρ x2 = v2) (h3 : ρ x3 = v3) (h4 : ρ x4 = v4) (h5 : ρ x5 = v5) (h6 : ρ x6 = v6) :
    (Oper.semAt ro ρ ⟨d, .call { callee := .value (.func f), args := #[x0, x1, x2, x3, x4, x5, x6], argTypes := ts }, t, p, e, g⟩).run P w = .ok (.enter f #[v0, v1, v2, v3, v4, v5, v6]) w := by
  rw [sem_call0]; simp [execOp, resolve, Deferred.ofValue, invoke, h0, h1, h2, h3, h4, h5, h6,  hf, hF]
theorem r_clos7 {f : FuncId} {ts : Array TypeId} {y : Operand} {cap as : Array Value} {x0 x1 x2 x3 x4 x5 x6 : Operand} {v0 v1 v2 v3 v4 v5 v6 : Value} (hf : ∀ as w, (callFunc f as).run P w = .ok (.enter f as) w) (hy : ρ y = .func (.func f) #[] cap) (h0 : ρ x0 = v0) (h1 : ρ x1 = v1) (h2 : ρ x2 = v2) (h3 : ρ x3 = v3) (h4 : ρ x4 = v4) (h5 : ρ x5 = v5) (h6 : ρ x6 = v6) (ha : #[v0, v1, v2, v3, v4, v5, v6] ++ cap = as) :
    (Oper.semAt ro ρ ⟨d, .call { callee := .value y, args := #[x0, x1, x2, x3, x4, x5, x6], argTypes := ts }, t, p, e, g⟩).run P w = .ok (.enter f as) w := by
  subst ha; rw [sem_call0]; simp [execOp, resolve, Deferred.ofValue, invoke, hy, h0, h1, h2, h3, h4, h5, h6,  hf]
theorem r_mkf7 {fn : Fn} {x0 x1 x2 x3 x4 x5 x6 : Operand} {v0 v1 v2 v3 v4 v5 v6 : Value} (h0 : ρ x0 = v0) (h1 : ρ x1 = v1) (h2 : ρ x2 = v2) (h3 : ρ x3 = v3) (h4 : ρ x4 = v4) (h5 : ρ x5 = v5) (h6 : ρ x6 = v6) :
    (Oper.semAt ro ρ ⟨d, .makeFunc fn #[] #[x0, x1, x2, x3, x4, x5, x6], t, p, e, g⟩).run P w = .ok (.value (.func fn #[] #[v0, v1, v2, v3, v4, v5, v6])) w := by
  rw [sem_op (by simp)]; simp [execOp, Instr.makeFunc, h0, h1, h2, h3, h4, h5, h6]
theorem r_call8 {f : FuncId} {ts : Array TypeId} {x0 x1 x2 x3 x4 x5 x6 x7 : Operand} {v0 v1 v2 v3 v4 v5 v6 v7 : Value} (hF : ρ (.func f) = .func (.func f) #[] #[]) (hf : ∀ as w, (callFunc f as).run P w = .ok (.enter f as) w) (h0 : ρ x0 = v0) (h1 : ρ x1 = v1) (h2 : ρ x2 = v2) (h3 : ρ x3 = v3) (h4 : ρ x4 = v4) (h5 : ρ x5 = v5) (h6 : ρ x6 = v6) (h7 : ρ x7 = v7) :
    (Oper.semAt ro ρ ⟨d, .call { callee := .value (.func f), args := #[x0, x1, x2, x3, x4, x5, x6, x7], argTypes := ts }, t, p, e, g⟩).run P w = .ok (.enter f #[v0, v1, v2, v3, v4, v5, v6, v7]) w := by
  rw [sem_call0]; simp [execOp, resolve, Deferred.ofValue, invoke, h0, h1, h2, h3, h4, h5, h6, h7,  hf, hF]
theorem r_clos8 {f : FuncId} {ts : Array TypeId} {y : Operand} {cap as : Array Value} {x0 x1 x2 x3 x4 x5 x6 x7 : Operand} {v0 v1 v2 v3 v4 v5 v6 v7 : Value} (hf : ∀ as w, (callFunc f as).run P w = .ok (.enter f as) w) (hy : ρ y = .func (.func f) #[] cap) (h0 : ρ x0 = v0) (h1 : ρ x1 = v1) (h2 : ρ x2 = v2) (h3 : ρ x3 = v3) (h4 : ρ x4 = v4) (h5 : ρ x5 = v5) (h6 : ρ x6 = v6) (h7 : ρ x7 = v7) (ha : #[v0, v1, v2, v3, v4, v5, v6, v7] ++ cap = as) :
    (Oper.semAt ro ρ ⟨d, .call { callee := .value y, args := #[x0, x1, x2, x3, x4, x5, x6, x7], argTypes := ts }, t, p, e, g⟩).run P w = .ok (.enter f as) w := by
  subst ha; rw [sem_call0]; simp [execOp, resolve, Deferred.ofValue, invoke, hy, h0, h1, h2, h3, h4, h5, h6, h7,  hf]
theorem r_mkf8 {fn : Fn} {x0 x1 x2 x3 x4 x5 x6 x7 : Operand} {v0 v1 v2 v3 v4 v5 v6 v7 : Value} (h0 : ρ x0 = v0) (h1 : ρ x1 = v1) (h2 : ρ x2 = v2) (h3 : ρ x3 = v3) (h4 : ρ x4 = v4) (h5 : ρ x5 = v5) (h6 : ρ x6 = v6) (h7 : ρ x7 = v7) :
    (Oper.semAt ro ρ ⟨d, .makeFunc fn #[] #[x0, x1, x2, x3, x4, x5, x6, x7], t, p, e, g⟩).run P w = .ok (.value (.func fn #[] #[v0, v1, v2, v3, v4, v5, v6, v7])) w := by
  rw [sem_op (by simp)]; simp [execOp, Instr.makeFunc, h0, h1, h2, h3, h4, h5, h6, h7]
end vals

section mem
variable {P : Program} {ro : Option Nat} {n : Nat} {Q : Post} {ρ : Env} {ds : List Deferred} {w : World} {ops : Array Oper} {rest : List Oper} {d : Nat} {t : TypeId} {p : String} {e : Array Edge}

theorem Wl_box {et : TypeId} {x : Operand} {v : Value} {cs : List Value} (hx : ev n ρ x = v) (hv : v.cells = cs.toArray)
    (h : ∀ b w', w.heap.size = b → Upd No w w' → w'.heap.size = b + 1 → Blk w' b cs → Wl P ro n ops Q rest (upd ρ d (.pointer (some ⟨b, 0, none⟩))) ds w') :
    Wl P ro n ops Q (⟨some d, .box et x, t, p, e, none⟩ :: rest) ρ ds w := by
  refine Wl_v (v := .pointer (some ⟨w.heap.size, 0, none⟩)) (w' := w.alloc (.cells cs.toArray et)) ?_ (h _ _ rfl (upd_alloc _ _) (by simp) (blk_alloc w cs et))
  rw [sem_op (by simp)]; simp [execOp, hx, Instr.box, newVar, newRow, hv]
theorem Wl_alloc {et : TypeId} {z : Value} {cs : List Value} (hz : ∀ w, (zeroValue et).run P w = .ok z w) (hc : z.cells = cs.toArray)
    (h : ∀ b w', w.heap.size = b → Upd No w w' → w'.heap.size = b + 1 → Blk w' b cs → Wl P ro n ops Q rest (upd ρ d (.pointer (some ⟨b, 0, none⟩))) ds w') :
    Wl P ro n ops Q (⟨some d, .alloc et, t, p, e, none⟩ :: rest) ρ ds w := by
  refine Wl_v (v := .pointer (some ⟨w.heap.size, 0, none⟩)) (w' := w.alloc (.cells cs.toArray et)) ?_ (h _ _ rfl (upd_alloc _ _) (by simp) (blk_alloc w cs et))
  rw [sem_op (by simp)]; simp [execOp, Instr.alloc, newVar, newRow, hz, hc]
theorem Wl_load {lt : TypeId} {x : Operand} {b i : Nat} {cs : List Value} {v : Value} (hag : ∀ w, (isAgg lt).run P w = .ok false w) (hx : ev n ρ x = .pointer (some ⟨b, i, none⟩)) (hb : Blk w b cs)
    (hv : cs[i]? = some v) (h : Wl P ro n ops Q rest (upd ρ d v) ds w) : Wl P ro n ops Q (⟨some d, .load lt x, t, p, e, none⟩ :: rest) ρ ds w := by
  refine Wl_v (w' := w) ?_ h
  have hc : w.cell? ⟨b, i, none⟩ = some v := by rw [hb.cell]; exact hv
  rw [sem_op (by simp)]; simp [execOp, hx, Instr.loadAt, Instr.sureAddr, loadVar, hag, hc]
/-- a cell that is known by its address -/
theorem Wl_loadc {lt : TypeId} {x : Operand} {a : Addr} {v : Value} (hag : ∀ w, (isAgg lt).run P w = .ok false w) (hx : ev n ρ x = .pointer (some a)) (hc : w.cell? a = some v)
    (h : Wl P ro n ops Q rest (upd ρ d v) ds w) : Wl P ro n ops Q (⟨some d, .load lt x, t, p, e, none⟩ :: rest) ρ ds w := by
  refine Wl_v (w' := w) ?_ h
  rw [sem_op (by simp)]; simp [execOp, hx, Instr.loadAt, Instr.sureAddr, loadVar, hag, hc]
theorem Wl_store {st : TypeId} {x y : Operand} {b i : Nat} {cs cs' : List Value} {u v : Value} {dd : Option Nat} (hsz : ∀ w, (sizeOf st).run P w = .ok 1 w) (hx : ev n ρ x = .pointer (some ⟨b, i, none⟩)) (hy : ev n ρ y = v)
    (hv : v.cells = #[v]) (h1 : v.oneCell' = true) (hb : Blk w b cs) (hi : cs[i]? = some u) (hcs : cs.set i v = cs')
    (h : ∀ w', Upd (Is b) w w' → w'.heap.size = w.heap.size → Blk w' b cs' → Wl P ro n ops Q rest (put ρ dd undef) ds w') :
    Wl P ro n ops Q (⟨dd, .store st x y, t, p, e, none⟩ :: rest) ρ ds w := by
  subst hcs
  refine Wl_u (w' := w.setCell ⟨b, i, none⟩ v) ?_ (h _ (upd_setCell w ⟨b, i, none⟩ v) (by simp) (hb.set i v))
  have hc : w.cell? ⟨b, i, none⟩ = some u := by rw [hb.cell]; exact hi
  have hf : w.frozen? ⟨b, i, none⟩ = false := hb.frozen i
  have hadd : (⟨b, i, none⟩ : Addr).add 0 = ⟨b, i, none⟩ := rfl
  rw [sem_op (by simp)]; simp [execOp, hx, hy, Instr.storeAt, Instr.sureAddr, storeVar, hsz, hv, storeCells, hadd, run_store P w _ v _ h1, hc, hf]
/-- an index into a slice that is read -/
theorem Wl_idx {st et : TypeId} {x y : Operand} {R : Nat → Prop} {sz m : Nat} {a : Option Addr} {c : Nat} {cs : List Value} {k : IntKind} {i : Int} (hu : P.underlying st = some (.slice et)) (hsz : ∀ w, (sizeOf et).run P w = .ok sz w)
    (hx : ev n ρ x = .slice a m c) (hy : ev n ρ y = .int k i) (hs : Sl w R sz (.slice a m c) m cs) (h0 : 0 ≤ i) (h1 : i < m)
    (h : ∀ b off, (∀ j, j < sz → w.cell? ⟨b, off + j, none⟩ = cs[i.toNat * sz + j]?) → Wl P ro n ops Q rest (upd ρ d (.pointer (some ⟨b, off, none⟩))) ds w) :
    Wl P ro n ops Q (⟨some d, .indexAddr st x y, t, p, e, none⟩ :: rest) ρ ds w := by
  obtain ⟨b, off, rfl, hc⟩ := hs.at (i := i.toNat) (by omega)
  refine Wl_v (v := .pointer (some ⟨b, off + i.toNat * sz, none⟩)) (w' := w) ?_ (h b (off + i.toNat * sz) hc)
  have hadd : (⟨b, off, none⟩ : Addr).add (i.toNat * sz) = ⟨b, off + i.toNat * sz, none⟩ := by unfold Addr.add; split <;> simp_all
  rw [sem_op (by simp)]; simp [execOp, hx, hy, Instr.indexAt, asIntOf, run_underlying hu, hsz, h0, h1, hadd]
theorem run_app {st et ty : TypeId} {ti : TypeInfo} {z : Value} {sz by' : Nat} (hu : P.underlying st = some (.slice et)) (hi : P.info? et = some ti) (hz : ti.zero = some z) (hsz : ti.size = sz) (hby : ti.bytes = by') (hzc : z.cells.size = sz) (hpos : 0 < sz)
    {R R2 : Nat → Prop} {v v2 : Value} {m k : Nat} {cs cs2 : List Value} (ho : Own w R et sz v m cs) (hs : Sl w R2 sz v2 k cs2) (one : ∀ u ∈ cs2, u.oneCell' = true)
    (h63 : m + k ≤ maxLen) (hb : (m + k) * by' ≤ 140737488355328) :
    ∃ a c w', (Builtin.append_ #[st, st] ty #[v, v2]).run P w = .ok (.slice a (m + k) c) w' ∧ Upd R w w' ∧ w'.heap.size ≤ w.heap.size + 1 ∧ Own w' (fun g => R g ∨ g = w.heap.size) et sz (.slice a (m + k) c) (m + k) (cs ++ cs2) := by
  subst hsz
  subst hby
  obtain ⟨⟨hl1, h2⟩, h3⟩ := ho
  obtain ⟨hl2, a2, c2, rfl, hk1, hk2, hsl⟩ := hs
  have hsmall : m + k ≤ 9223372036854775807 := by simp only [maxLen] at h63; omega
  have hlen : (cs ++ cs2).length = (m + k) * ti.size := by rw [List.length_append, hl1, hl2, Nat.add_mul]
  have grown : ∀ (old : Nat),
      Own (w.drew.alloc (.cells (cs.toArray ++ cs2.toArray ++ Builtin.zeroCells z.cells (grownCap w (m + k) old et - (m + k))) et)) (fun g => R g ∨ g = w.heap.size) et ti.size
        (.slice (some ⟨w.heap.size, 0, none⟩) (m + k) (grownCap w (m + k) old et)) (m + k) (cs ++ cs2) ∧
      Upd R w (w.drew.alloc (.cells (cs.toArray ++ cs2.toArray ++ Builtin.zeroCells z.cells (grownCap w (m + k) old et - (m + k))) et)) ∧
      (w.drew.alloc (.cells (cs.toArray ++ cs2.toArray ++ Builtin.zeroCells z.cells (grownCap w (m + k) old et - (m + k))) et)).heap.size ≤ w.heap.size + 1 := by
    intro old
    have hge := grownCap_ge w (m + k) old et
    have hcm : grownCap w (m + k) old et ≤ maxLen := grownCap_le_maxLen w (m + k) old et h63
    refine ⟨⟨⟨hlen, .inr ⟨w.heap.size, _, _, rfl, Nat.zero_le _, heap_alloc_new w.drew _, hge, hcm, ?_, ?_⟩⟩, ?_⟩, ⟨rfl, rfl, rfl, by simp, fun b hb _ => heap_alloc_old w.drew _ hb⟩, by simp⟩
    · simp only [Array.size_append, List.size_toArray, size_zeroCells, hzc, hl1, hl2, ← Nat.add_mul]
      congr 1
      omega
    · simp only [Array.toList_append, List.append_assoc]
      rw [← List.append_assoc, ← hlen]
      exact List.take_left
    · intro g hg
      simp [Value.ownBlock] at hg
      exact .inr hg.symm
  by_cases hk0 : k = 0
  · subst hk0
    have hc2 : cs2 = [] := List.eq_nil_of_length_eq_zero (by simpa using hl2)
    subst hc2
    rcases h2 with ⟨rfl, rfl⟩ | ⟨g, cap, cur, rfl, hbg, hg, hnc, hcm, hcs, htake⟩
    · have hc1 : cs = [] := List.eq_nil_of_length_eq_zero (by simpa using hl1)
      subst hc1
      refine ⟨none, 0, w, ?_, Upd.refl _ _, by omega, Own.nil _ _ _ _⟩
      cases a2 <;> simp [Builtin.append_, run_underlying hu, sizeOf, typeInfo, hi, Builtin.lenOf, Builtin.firstCells, loadCells, loadCellsFrom]
    · refine ⟨some ⟨g, 0, none⟩, cap, w, ?_, Upd.refl _ _, by omega, ⟨by simpa using hl1, .inr ⟨g, cap, cur, rfl, hbg, hg, by simpa using hnc, hcm, hcs, by simpa using htake⟩⟩, fun x hx => .inl (h3 x hx)⟩
      cases a2 <;> simp [Builtin.append_, run_underlying hu, sizeOf, typeInfo, hi, Builtin.lenOf, Builtin.firstCells, loadCells, loadCellsFrom, hnc, storeCells]
  · rcases hsl with hsl | ⟨b2, off2, cc, t2, f2, rfl, hR2, hb2, hcells⟩
    · exact absurd hsl hk0
    · have hnews : ∀ j u, cs2[j]? = some u → w.cell? ((⟨b2, off2, none⟩ : Addr).add j) = some u := by
        intro j u hu
        have hj : j < cs2.length := by
          rcases Nat.lt_or_ge j cs2.length with h | h
          · exact h
          · simp [List.getElem?_eq_none h] at hu
        have hadd : (⟨b2, off2, none⟩ : Addr).add j = ⟨b2, off2 + j, none⟩ := by unfold Addr.add; split <;> simp_all
        rw [hadd]
        simp only [World.cell?, hb2, Option.isSome_none, Bool.false_eq_true, if_false]
        rw [hcells j (hl2 ▸ hj)]; exact hu
      rcases h2 with ⟨rfl, rfl⟩ | ⟨g, cap, cur, rfl, hbg, hg, hnc, hcm, hcs, htake⟩
      · have hc1 : cs = [] := List.eq_nil_of_length_eq_zero (by simpa using hl1)
        subst hc1
        have hr := run_append_nil (P := P) w st ty et ti z hu hi hz ⟨b2, off2, none⟩ k c2 cs2 hl2 hnews (by omega) (by omega) (by have h := hb; simp only [Nat.zero_add] at h; omega)
        obtain ⟨g1, g2, g3⟩ := grown 0
        simp only [Nat.zero_add, List.nil_append, Array.empty_append] at g1 g2 g3 ⊢
        exact ⟨_, _, _, hr, g2, g3, g1⟩
      · by_cases hroom : m + k ≤ cap
        · have hfit : m * ti.size + cs2.length ≤ cur.size := by rw [hl2, hcs, ← Nat.add_mul]; exact Nat.mul_le_mul_right _ hroom
          have hr := run_append_room (P := P) w st ty et ti hu hi g m cap cur hg ⟨b2, off2, none⟩ k c2 cs2 hl2 hnews one hroom hfit
          refine ⟨_, _, _, hr, ⟨rfl, rfl, rfl, by simp, fun x _ hx => setRow_other w g x _ (fun e => hx (e ▸ h3 g rfl))⟩, by simp, ⟨hlen, .inr ⟨g, cap, _, rfl, hbg, setRow_heap w g cur _ et _ hg, hroom, hcm, ?_, ?_⟩⟩, fun x hx => .inl (h3 x hx)⟩
          · simp only [List.size_toArray, List.length_append, List.length_take, List.length_drop, Array.length_toList]
            omega
          · rw [htake, ← hlen]
            exact List.take_left
        · have hown : w.ownsRow 0 et ti.size (.slice (some ⟨g, 0, none⟩) m cap) m cs := ⟨hl1, .inr ⟨g, cap, cur, rfl, hbg, hg, hnc, hcm, hcs, htake⟩⟩
          have holds : ∀ j u, cs[j]? = some u → w.cell? ((⟨g, 0, none⟩ : Addr).add j) = some u := hown.cells (g := g) rfl
          have hr := run_append_grow (P := P) w st ty et ti z hu hi hz ⟨g, 0, none⟩ m cap cs hl1 holds ⟨b2, off2, none⟩ k c2 cs2 hl2 hnews (by omega) (by omega) (growslice_fits (by omega) hb)
          obtain ⟨g1, g2, g3⟩ := grown cap
          exact ⟨_, _, _, hr, g2, g3, g1⟩
/-- append of a slice that is read to a slice of the call's own -/
theorem Wl_append {st et : TypeId} {ti : TypeInfo} {z : Value} {sz by' : Nat} (hu : P.underlying st = some (.slice et)) (hi : P.info? et = some ti) (hz : ti.zero = some z) (hsz : ti.size = sz) (hby : ti.bytes = by') (hzc : z.cells.size = sz) (hpos : 0 < sz)
    {x y : Operand} {R R2 : Nat → Prop} {v v2 : Value} {m k : Nat} {cs cs2 : List Value} (hx : ev n ρ x = v) (ho : Own w R et sz v m cs) (hy : ev n ρ y = v2) (hs : Sl w R2 sz v2 k cs2) (one : ∀ u ∈ cs2, u.oneCell' = true)
    (h63 : m + k ≤ maxLen) (hb : (m + k) * by' ≤ 140737488355328)
    (h : ∀ a c w', Upd R w w' → w'.heap.size ≤ w.heap.size + 1 → Own w' (fun g => R g ∨ g = w.heap.size) et sz (.slice a (m + k) c) (m + k) (cs ++ cs2) → Wl P ro n ops Q rest (upd ρ d (.slice a (m + k) c)) ds w') :
    Wl P ro n ops Q (⟨some d, .call { callee := .builtin .append, args := #[x, y], argTypes := #[st, st] }, t, p, e, none⟩ :: rest) ρ ds w := by
  obtain ⟨a, c, w', hr, h1, h2, h3⟩ := run_app (ty := t) hu hi hz hsz hby hzc hpos ho hs one h63 hb
  refine Wl_v (v := .slice a (m + k) c) (w' := w') ?_ (h a c w' h1 h2 h3)
  rw [sem_call0]; simp [execOp, resolve, invoke, builtin, hx, hy, hr]
/-- a literal slice: its cells -/
theorem Wl_lit {st et : TypeId} {len sz : Nat} {parts : Array (Nat × Operand)} {pv : List (Nat × Value)} {zv : Value} {cs : List Value} (hu : P.underlying st = some (.slice et)) (hsz : ∀ w, (sizeOf et).run P w = .ok sz w)
    (hz : ∀ w, (zeroValue et).run P w = .ok zv w) (hlen : ¬ len * sz > 2 ^ 24) (hpos : len * sz ≠ 0) (hp : (parts.map fun (i, x) => (i, ev n ρ x)).toList = pv)
    (hf : Instr.fill (fun i => some (i * sz, sz)) ((Array.range (len * sz)).map (zv.cells[· % zv.cells.size]!)) pv = some cs.toArray) (hl : cs.length = len * sz) (hcap : len ≤ maxLen)
    (h : ∀ b w', w.heap.size = b → Upd No w w' → w'.heap.size = b + 1 → Own w' (Is b) et sz (.slice (some ⟨b, 0, none⟩) len len) len cs → Wl P ro n ops Q rest (upd ρ d (.slice (some ⟨b, 0, none⟩) len len)) ds w') :
    Wl P ro n ops Q (⟨some d, .buildSlice st len parts, t, p, e, none⟩ :: rest) ρ ds w := by
  refine Wl_v (v := .slice (some ⟨w.heap.size, 0, none⟩) len len) (w' := w.alloc (.cells cs.toArray et)) ?_ (h _ _ rfl (upd_alloc _ _) (by simp) ⟨⟨hl, .inr ⟨w.heap.size, len, cs.toArray, rfl, Nat.zero_le _, World.alloc_heap_new w _, Nat.le_refl _, hcap, by simpa using hl, by simp [← hl]⟩⟩, fun k hk => by simp [Value.ownBlock] at hk; exact hk.symm⟩)
  rw [sem_op (by simp)]
  subst hp
  simp only [execOp, Instr.buildSlice, Sem.run_bind, run_underlying hu, Result.andThen_ok, hsz]
  rw [if_neg hlen]
  simp only [if_neg hpos, Sem.run_bind, hz, Result.andThen_ok, Sem.run_pure]
  rw [hf]
  simp [newRow]
theorem Wl_lit0 {st et : TypeId} {sz : Nat} (hu : P.underlying st = some (.slice et)) (hsz : ∀ w, (sizeOf et).run P w = .ok sz w)
    (h : ∀ b w', w.heap.size = b → Upd No w w' → w'.heap.size = b + 1 → Own w' (Is b) et sz (.slice (some ⟨b, 0, none⟩) 0 0) 0 [] → Wl P ro n ops Q rest (upd ρ d (.slice (some ⟨b, 0, none⟩) 0 0)) ds w') :
    Wl P ro n ops Q (⟨some d, .buildSlice st 0 #[], t, p, e, none⟩ :: rest) ρ ds w := by
  refine Wl_v (v := .slice (some ⟨w.heap.size, 0, none⟩) 0 0) (w' := w.alloc (.cells #[] et)) ?_ (h _ _ rfl (upd_alloc _ _) (by simp) ⟨⟨by simp, .inr ⟨w.heap.size, 0, #[], rfl, Nat.zero_le _, World.alloc_heap_new w _, Nat.le_refl _, Nat.zero_le _, by simp, by simp⟩⟩, fun k hk => by simp [Value.ownBlock] at hk; exact hk.symm⟩)
  rw [sem_op (by simp)]
  simp [execOp, Instr.buildSlice, run_underlying hu, hsz, Instr.fill, newRow]
  rw [show Array.range 0 = #[] from Array.eq_empty_of_size_eq_zero (by simp), Array.map_empty]
/-- an index into a slice of integers -/
theorem Wl_idxi {st et : TypeId} {x y : Operand} {R : Nat → Prop} {m : Nat} {a : Option Addr} {c : Nat} {l : List Int} {k k' : IntKind} {i : Int} (hu : P.underlying st = some (.slice et)) (hsz : ∀ w, (sizeOf et).run P w = .ok 1 w)
    (hx : ev n ρ x = .slice a m c) (hy : ev n ρ y = .int k' i) (hs : Sl w R 1 (.slice a m c) m (ints k l)) (h0 : 0 ≤ i) (h1 : i < m)
    (h : ∀ b off, w.cell? ⟨b, off, none⟩ = some (.int k (l.getD i.toNat 0)) → Wl P ro n ops Q rest (upd ρ d (.pointer (some ⟨b, off, none⟩))) ds w) :
    Wl P ro n ops Q (⟨some d, .indexAddr st x y, t, p, e, none⟩ :: rest) ρ ds w := by
  refine Wl_idx hu hsz hx hy hs h0 h1 fun b off hc => h b off ?_
  have h2 := hc 0 (by decide)
  have hl := hs.len
  simp only [List.length_map, Nat.mul_one] at hl
  rw [Nat.add_zero, Nat.mul_one, Nat.add_zero] at h2
  rw [h2, List.getElem?_map, List.getElem?_eq_getElem (show i.toNat < l.length by omega), List.getD_eq_getElem?_getD, List.getElem?_eq_getElem (show i.toNat < l.length by omega)]
  simp
/-- bytes to a string -/
theorem Wl_bstr {src dst et : TypeId} {x : Operand} {R : Nat → Prop} {m : Nat} {a : Option Addr} {c : Nat} {l : List Int} (hu : P.underlying src = some (.slice et)) (he : P.underlying et = some (.int .u8)) (hd : P.underlying dst = some .string)
    (hx : ev n ρ x = .slice a m c) (hs : Sl w R 1 (.slice a m c) m (ints .u8 l)) (h : Wl P ro n ops Q rest (upd ρ d (.string (strOfNums l))) ds w) :
    Wl P ro n ops Q (⟨some d, .convert src dst x, t, p, e, none⟩ :: rest) ρ ds w := by
  refine Wl_v (v := .string (strOfNums l)) (w' := w) ?_ h
  rw [sem_op (by simp)]
  have hl := hs.len
  simp only [List.length_map, Nat.mul_one] at hl
  have hr : (convert src dst (.slice a m c)).run P w = .ok (.string (strOfNums l)) w := by
    by_cases hm : m = 0
    · subst hm
      have : l = [] := List.eq_nil_of_length_eq_zero hl
      subst this
      cases a with
      | none => exact run_convert_bytes_nil w src et hu he 0 c dst hd
      | some ad =>
        rw [run_convert_bytes_string w src dst et _ 0 c hu he hd, run_bytesToString w ad 0 c [] (by simp [loadCells, loadCellsFrom])]
        rfl
    · obtain ⟨b, off, rfl, hc⟩ := hs.at (i := 0) (by omega)
      refine run_convert_bytes_arg w src et hu he b off m c l hl (fun i hi => ?_) dst hd
      obtain ⟨b', off', e1, hc'⟩ := hs.at (i := i) hi
      simp only [Option.some.injEq, Addr.mk.injEq, and_true] at e1
      obtain ⟨rfl, rfl⟩ := e1
      have := hc' 0 (by decide)
      rw [Nat.mul_one, Nat.add_zero, Nat.add_zero] at this
      rw [this, List.getElem?_map, List.getElem?_eq_getElem (show i < l.length by omega), List.getD_eq_getElem?_getD, List.getElem?_eq_getElem (show i < l.length by omega)]
      simp
  simp only [execOp, hx, Sem.run_bind, hr, Result.andThen_ok, Sem.run_pure]
theorem Wl_defer {y : Operand} {f : FuncId} {cap : Array Value} {ts : Array TypeId} {dd : Option Nat} (hy : ev n ρ y = .func (.func f) #[] cap)
    (h : Wl P none n ops Q rest (put ρ dd undef) ({ target := .fn (.func f) cap, args := #[] } :: ds) w) :
    Wl P none n ops Q (⟨dd, .defer { callee := .value y, args := #[], argTypes := ts }, t, p, e, none⟩ :: rest) ρ ds w := by
  refine Wl_run rfl ?_
  have : (Oper.semAt none (ev n ρ) ⟨dd, .defer { callee := .value y, args := #[], argTypes := ts }, t, p, e, none⟩).run P w = .ok (.defer { target := .fn (.func f) cap, args := #[] }) w := by
    rw [Oper.semAt_none]; simp [execOp, resolve, Deferred.ofValue, hy]
  rw [this]
  exact h
end mem
end Go.Fw
