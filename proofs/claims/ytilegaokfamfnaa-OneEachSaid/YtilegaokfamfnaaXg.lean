/-
 Walks, printed by a small program of this project (gen.py).
-/
import Derived.Test.YtilegaokfamfnaaXf
set_option linter.unusedVariables false
set_option linter.unusedSimpArgs false
namespace Go.Proofs.Ytilegaokfamfnaa
open Go.Fw

theorem qbad_z {x : Int × Int} (h : x.1 = 0 ∧ x.2 = 0) : ¬ qbad x = true := by
 unfold qbad; rw [decide_eq_true_iff]; exact fun f => f.1 (Prod.ext h.1 h.2)
theorem qbad_nv {x : Int × Int} (h : ¬ (x.1 = 0 ∧ x.2 = 0)) : ¬ Vc x ↔ qbad x = true := by
 unfold qbad; rw [decide_eq_true_iff]; exact ⟨fun f => ⟨fun e => h ⟨congrArg Prod.fst e, congrArg Prod.snd e⟩, f⟩, fun f => f.2⟩

end Go.Proofs.Ytilegaokfamfnaa
