/-
 Walks, printed by a small program of this project (gen.py).
-/
import Derived.Test.YtilegaokfamfnaaZi
set_option linter.unusedVariables false
set_option linter.unusedSimpArgs false
namespace Go.Proofs.Ytilegaokfamfnaa
open Go.Fw

set_option maxRecDepth 100000 in
theorem rclose_spec {a : Option Addr} {L c V : Nat} (w : World) (hs : Sl w (fun g => g < w.heap.size) 1 (.slice a L c) L (rows encB (bl V L))) (hn : L ≤ 1900000) (hV : V < 2 ^ L) :
  Calls Try.prog 42 #[.slice a L c] w (Ret fun v w' => ∃ (a' : Option Addr) (c' : Nat), v = .slice a' (L / 8 + 1) c' ∧ Own w' (fun g => w.heap.size ≤ g) 5 1 (.slice a' (L / 8 + 1) c') (L / 8 + 1) (ints .u8 (ub (V + 2 ^ L) (L / 8 + 1))) ∧ Upd No w w') := by
 have HU : Upd (fun b => False) w w := Upd.refl _ _
 have hl_hs := rlen encB_len (by decide) hs
 have hc_hs := hs.cap.1
 refine calls_of_W Try.func42 rfl Try.ntmps42 (by simp) ?_
 refine W_seq ?_
 refine W_region ?_
 refine Wl_v (r_as (v := .slice none 0 0) rfl) ?_
 refine Wl_nil ?_
 refine W_seq ?_
 refine W_region ?_
 refine Wl_v (r_mv (v := .slice a L c) rfl) ?_
 refine Wl_appendc (cs3 := rows encB (bl V L)) (tot := L) (by first | rfl | exact (rows_app _ _).symm | simp) Try.underlying72 (ti := Try.t4) (z := .bool false) (sz := 1) (by' := 1) rfl rfl rfl rfl rfl (by decide) rfl (Own.nil _ No _ _) rfl hs (rows_one encB_one _) (by omega) (by simp only [maxLen]; omega) (by omega) ?_
 intro a1 c1 w1 hU1 hzz1 hO1
 have hzw1 := hU1.size
 replace HU := HU.trans0 hU1
 replace hO1 := hO1.weak (R' := fun g => g = w.heap.size) (fun g h => h.elim (fun x => x.elim) id)
 replace hO1 := hO1.tight
 have hl_hO1 := rlen encB_len (by decide) hO1.sl
 have hc_hO1 := hO1.sl.cap.1
 refine Wl_lit (pv := [(0, .bool true)]) (cs := [.bool true]) Try.underlying72 Try.sizeOf4 Try.zeroValue4 (by decide) (by decide) (by simp only [List.map_toArray, List.map_cons, List.map_nil] <;> rfl) (by kernel_rfl) rfl (by decide) ?_
 intro B2 w2 hB2 hU2 hzz2 hs2
 have hzw2 := hU2.size
 replace HU := HU.trans0 hU2
 replace hO1 := hO1.upd0 hU2
 replace hs2 : Own w2 (Is B2) 4 1 (.slice (some ⟨B2, 0, none⟩) 1 1) 1 (rows encB [true]) := hs2
 refine Wl_appendc (cs3 := rows encB ((bl V L) ++ [true])) (tot := L + 1) (by first | rfl | exact (rows_app _ _).symm | simp) Try.underlying72 (ti := Try.t4) (z := .bool false) (sz := 1) (by' := 1) rfl rfl rfl rfl rfl (by decide) rfl hO1 rfl hs2.sl (rows_one encB_one _) (by omega) (by simp only [maxLen]; omega) (by omega) ?_
 intro a3 c3 w3 hU3 hzz3 hO3
 clear hO1
 have hzw3 := hU3.size
 replace HU := HU.trans hU3 (by intro x hx; have hx2 : ((x = w.heap.size) ∧ x < w1.heap.size) := hx; show (False) ∨ w.heap.size ≤ x; omega)
 replace hO3 := hO3.tight
 have hl_hO3 := rlen encB_len (by decide) hO3.sl
 have hc_hO3 := hO3.sl.cap.1
 replace hO3 := hO3.rcong (bl_close hV)
 refine Wl_call (r_call1 rfl Try.call70 rfl) (rbytes_spec _ hO3.sl.any (by omega)) ?_
 rintro v w4 ⟨a4, c4, rfl, hO4, hU4⟩
 have hzw4 := hU4.size
 replace HU := HU.trans0 hU4
 replace hO4 := hO4.tight
 have hl_hO4 := ilen hO4.sl
 have hc_hO4 := hO4.sl.cap.1
 refine Wl_v (r_as (v := .slice a4 (((L + 1) + 7) / 8) c4) rfl) ?_
 refine Wl_nil ?_
 refine W_ret ?_
 refine ret_end (v := .slice a4 (((L + 1) + 7) / 8) c4) rfl (res1 Try.results42 rfl) ?_
 have hee : (L + 1 + 7) / 8 = L / 8 + 1 := by omega
 have hmm : (V + 2 ^ L) % 2 ^ (L + 1) = V + 2 ^ L := Nat.mod_eq_of_lt (by rw [Nat.pow_succ]; omega)
 exact ⟨_, rfl, a4, c4, (by rw [← hee]), (by rw [← hee]; exact (hO4.weak (by intro g hg; have h3 : ((w3.heap.size ≤ g) ∧ g < w4.heap.size) := hg; show w.heap.size ≤ g; omega)).icong (by rw [hmm])), HU⟩

end Go.Proofs.Ytilegaokfamfnaa
