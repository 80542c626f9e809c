/-
  An index into a string.
-/
import Derived.Test.YtilegaokfamfnaaFo
namespace Go.Fw
section
variable {P : Program} {ro : Option Nat} {w : World} {ρ : Operand → Value} {d : Option Tmp} {t : TypeId} {p : String} {e : Array Edge} {g : Option (Nat × Bool)}
theorem r_indexs {xt : TypeId} {x y : Operand} {s : ByteArray} {k : IntKind} {i c : Int} (hu : P.underlying xt = some .string) (hx : ρ x = .string s) (hy : ρ y = .int k i) (h0 : 0 ≤ i) (hc : (s[i.toNat]?).map (fun b => ((b.toNat : Nat) : Int)) = some c) :
    (Oper.semAt ro ρ ⟨d, .index xt x y, t, p, e, g⟩).run P w = .ok (.value (.int .u8 c)) w := by
  rw [sem_op (by simp)]
  cases hs : s[i.toNat]? with
  | none => rw [hs] at hc; simp at hc
  | some b =>
    rw [hs] at hc
    simp only [Option.map_some, Option.some.injEq] at hc
    simp [execOp, hx, hy, Instr.index, asIntOf, run_underlying hu, h0, hs, hc]
end
end Go.Fw
