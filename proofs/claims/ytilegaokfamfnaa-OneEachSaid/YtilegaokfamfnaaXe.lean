/-
 Walks, printed by a small program of this project (gen.py).
-/
import Derived.Test.YtilegaokfamfnaaXd
set_option linter.unusedVariables false
set_option linter.unusedSimpArgs false
namespace Go.Proofs.Ytilegaokfamfnaa
open Go.Fw

theorem fidx_nil {α : Type} (q : α → Bool) : fidx q ([] : List α) = -1 := rfl

theorem Wl_same {P : Program} {ro : Option Nat} {n : Nat} {ops : Array Oper} {Q : Post} {rest : List Oper} {ρ : Env} {ds : List Deferred} {w : World} {t : TypeId} {p : String} {e : Array Edge}
  {st : TypeId} {x y : Operand} {b i : Nat} {cs : List Value} {v : Value} {dd : Option Nat} (hsz : ∀ w, (sizeOf st).run P w = .ok 1 w) (hx : ev n ρ x = .pointer (some ⟨b, i, none⟩)) (hy : ev n ρ y = v)
  (hv : v.cells = #[v]) (h1 : v.oneCell' = true) (hb : Blk w b cs) (hi : cs[i]? = some v)
  (h : ∀ w', Upd No w w' → Wl P ro n ops Q rest (put ρ dd undef) ds w') :
  Wl P ro n ops Q (⟨dd, .store st x y, t, p, e, none⟩ :: rest) ρ ds w := by
 refine Wl_u (w' := w.setCell ⟨b, i, none⟩ v) ?_ (h _ ?_)
 ·have hc : w.cell? ⟨b, i, none⟩ = some v := by rw [hb.cell]; exact hi
  have hf : w.frozen? ⟨b, i, none⟩ = false := hb.frozen i
  have hadd : (⟨b, i, none⟩ : Addr).add 0 = ⟨b, i, none⟩ := rfl
  rw [sem_op (by simp)]; simp [execOp, hx, hy, Instr.storeAt, Instr.sureAddr, storeVar, hsz, hv, storeCells, hadd, run_store P w _ v _ h1, hc, hf]
 ·obtain ⟨tt, ht⟩ := hb
  refine ⟨rfl, rfl, rfl, by simp, fun g _ _ => ?_⟩
  by_cases hg : g = b
  ·subst hg
   have e1 : cs.set i v = cs := by
    apply List.ext_getElem?
    intro j
    rw [List.getElem?_set]
    split
    ·rename_i hij; subst hij; rw [hi]; simp [(List.getElem?_eq_some_iff.1 hi).1]
    ·rfl
   simp [World.setCell, Array.getElem?_modify, ht, e1]
  ·exact RowKit.Below.heap_setCell w _ v g hg
theorem cds_bd {l : List Int} (h : Rt l) (i : Nat) : 0 ≤ ((cds l).getD i (0, 0)).2 ∧ ((cds l).getD i (0, 0)).2 < 4294967296 := by
 rcases Nat.lt_or_ge i (cds l).length with h1 | h1
 ·rw [cds_len] at h1
  rw [cds_get h1]
  by_cases h2 : 0 < l.getD i 0
  ·have := cd_bd h h1 h2; omega
  ·rw [cd_zero h2]; simp
 ·rw [List.getD_eq_getElem?_getD, List.getElem?_eq_none h1]; simp
theorem fidx_lt {α : Type} (d : α) (q : α → Bool) (l : List α) : fidx q l < l.length ∧ -1 ≤ fidx q l := by
 rcases fidx_cases q l d with ⟨h, _⟩ | ⟨k, h, h2, _⟩ <;> rw [h] <;> omega

end Go.Proofs.Ytilegaokfamfnaa
