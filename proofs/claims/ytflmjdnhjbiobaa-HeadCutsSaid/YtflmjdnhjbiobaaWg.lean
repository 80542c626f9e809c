/-
  Walks, printed by a small program of this project (gen.py).
-/
import Derived.Test.YtflmjdnhjbiobaaWf
set_option linter.unusedVariables false
set_option linter.unusedSimpArgs false
namespace Go.Proofs.Ytflmjdnhjbiobaa
open Go.Fw

set_option maxRecDepth 100000 in
theorem backward1_spec {l B m c : Nat} {a : Option Addr} {xs : List Int} {J : Nat → World → Prop} {Jx : World → Prop} {Sb R : Nat → Prop} (w : World) (hB : Blk w B [.slice a m c]) (hs : Sl w R 1 (.slice a m c) m (ints .u8 xs)) (hm : m ≤ 140737488355328) (hSB : ¬ Sb B) (hSR : ∀ g, R g → ¬ Sb g) (hJ0 : J 0 w) (hy : ∀ j w, j < m → J j w → YieldC Try.prog l #[.int .i64 (((m : Nat) : Int) - 1 - ((j : Nat) : Int)), .int .u8 (xs.getD (m - 1 - j) 0)] w (fun e w' => (e = .returned (.bool true) ∧ (Upd Sb w w' ∧ J (j + 1) w')) ∨ (e = .returned (.bool false) ∧ Jx w'))) :
    Calls Try.prog 69 #[.func (.yield l) #[] #[], .pointer (some ⟨B, 0, none⟩)] w (Ret fun v w' => J m w' ∨ Jx w') := by
  have HU : Upd (fun b => False) w w := Upd.refl _ _
  refine calls_of_W Try.func69 rfl Try.ntmps69 (by simp) ?_
  refine W_seq ?_
  refine W_region ?_
  refine Wl_load (v := .slice a m c) Try.isAgg35 rfl hB rfl ?_
  refine Wl_v (r_len Try.underlying35 rfl) ?_
  refine Wl_v (r_sub rfl rfl (wi64 (by omega) (by omega))) ?_
  refine Wl_v (r_as (v := .int .i64 (((m : Nat) : Int) - 1)) rfl) ?_
  refine Wl_nil ?_
  refine W_block ?_
  refine W_loop (fun mu ρ ds w' => ∃ (j : Nat), m - j = mu ∧ ds = [] ∧ Liv ρ [(0, .func (.yield l) #[] #[]), (1, .pointer (some ⟨B, 0, none⟩)), (3, .int .i64 (((m : Nat) : Int) - 1 - ((j : Nat) : Int)))] ∧ j ≤ m ∧ Blk w' B [.slice a m c] ∧ Sl w' R 1 (.slice a m c) m (ints .u8 xs) ∧ J j w') _ ⟨0, rfl, rfl, ⟨rfl, rfl, (Eq.trans (b := .int .i64 (((m : Nat) : Int) - 1)) rfl (vint (by omega))), trivial⟩, (by omega), hB, hs, hJ0⟩ ?_
  rintro m1 ρ1 ds1 w1 ⟨j, rfl, rfl, hl1, hj, hB, hs, hJ0⟩
  obtain ⟨ρ1x, rfl⟩ : ∃ ρx, ρ1 = upds ρx [(0, .func (.yield l) #[] #[]), (1, .pointer (some ⟨B, 0, none⟩)), (3, .int .i64 (((m : Nat) : Int) - 1 - ((j : Nat) : Int)))] := ⟨_, upds_self hl1⟩
  clear hl1
  refine W_seq ?_
  refine W_seq ?_
  refine W_region ?_
  refine Wl_v (r_mv (v := .int .i64 (((m : Nat) : Int) - 1 - ((j : Nat) : Int))) rfl) ?_
  refine Wl_v (r_ge rfl rfl) ?_
  refine Wl_nil ?_
  by_cases q1 : 0 ≤ (((m : Nat) : Int) - 1 - ((j : Nat) : Int))
  · rw [decide_eq_true q1]
    refine W_cond_t rfl ?_
    refine W_skip ?_
    refine W_seq ?_
    refine W_block ?_
    refine W_seq ?_
    refine W_region ?_
    refine Wl_v (r_mv (v := .func (.yield l) #[] #[]) rfl) ?_
    refine Wl_v (r_mv (v := .int .i64 (((m : Nat) : Int) - 1 - ((j : Nat) : Int))) rfl) ?_
    refine Wl_load (v := .slice a m c) Try.isAgg35 rfl hB rfl ?_
    refine Wl_v (r_mv (v := .int .i64 (((m : Nat) : Int) - 1 - ((j : Nat) : Int))) rfl) ?_
    refine Wl_idxi Try.underlying35 Try.sizeOf5 rfl rfl hs (by omega) (by omega) ?_
    intro ib2 io2 hc2
    rw [show (((m : Nat) : Int) - 1 - ((j : Nat) : Int)).toNat = m - 1 - j from by omega] at hc2
    refine Wl_loadc Try.isAgg5 rfl hc2 ?_
    refine Wl_yield2 rfl rfl rfl (hy j _ (by omega) hJ0) ?_ ?_
    · rintro w3 ⟨hU3, hJn⟩
      replace hB := hB.upd hU3 hSB
      replace hs := hs.upd hU3 hSR
      replace hJ0 := hJn
      refine Wl_v (r_not (b := true) rfl) ?_
      refine Wl_nil ?_
      refine W_cond_f rfl ?_
      refine W_skip ?_
      refine W_region ?_
      refine Wl_v (r_mv (v := .int .i64 (((m : Nat) : Int) - 1 - ((j : Nat) : Int))) rfl) ?_
      refine Wl_v (r_sub rfl rfl (wi64 (by omega) (by omega))) ?_
      refine Wl_v (r_as (v := .int .i64 ((((m : Nat) : Int) - 1 - ((j : Nat) : Int)) - 1)) rfl) ?_
      refine Wl_nil ?_
      refine ⟨_, ?_, (j + 1), rfl, rfl, ⟨rfl, rfl, (Eq.trans (b := .int .i64 ((((m : Nat) : Int) - 1 - ((j : Nat) : Int)) - 1)) rfl (vint (by omega))), trivial⟩, (by omega), hB, hs, hJ0⟩
      omega
    · rintro w4 hJx
      refine Wl_v (r_not (b := false) rfl) ?_
      refine Wl_nil ?_
      refine W_cond_t rfl ?_
      refine W_ret ?_
      refine ret_end (v := .tuple #[]) rfl (res0 Try.results69) ?_
      exact ⟨_, rfl, Or.inr hJx⟩
  · rw [decide_eq_false q1]
    refine W_cond_f rfl ?_
    refine W_exit ?_
    refine nrm_end (v := .tuple #[]) rfl (res0 Try.results69) ?_
    obtain hjm : j = m := by omega
    exact ⟨_, rfl, Or.inl (by rw [← hjm]; exact hJ0)⟩

set_option maxRecDepth 100000 in
theorem backward_spec {a : Option Addr} {m c : Nat} (w : World)  :
    Calls Try.prog 62 #[.slice a m c] w (Ret fun v w' => ∃ B, v = .func (.func 69) #[] #[.pointer (some ⟨B, 0, none⟩)] ∧ Blk w' B [.slice a m c] ∧ w.heap.size ≤ B ∧ Upd No w w') := by
  have HU : Upd (fun b => False) w w := Upd.refl _ _
  refine calls_of_W Try.func62 rfl Try.ntmps62 (by simp) ?_
  refine W_seq ?_
  refine W_region ?_
  refine Wl_box (v := .slice a m c) (cs := [.slice a m c]) rfl rfl ?_
  intro B1 w1 hB1 hU1 hzz1 hb1
  have hzw1 := hU1.size
  replace HU := HU.trans0 hU1
  refine Wl_v (r_as (v := .nilFunc) rfl) ?_
  refine Wl_nil ?_
  refine W_seq ?_
  refine W_region ?_
  refine Wl_v (r_mkf1 (v0 := .pointer (some ⟨B1, 0, none⟩)) rfl) ?_
  refine Wl_v (r_as (v := .func (.func 69) #[] #[.pointer (some ⟨B1, 0, none⟩)]) rfl) ?_
  refine Wl_nil ?_
  refine W_ret ?_
  refine ret_end (v := .func (.func 69) #[] #[.pointer (some ⟨B1, 0, none⟩)]) rfl (res1 Try.results62 rfl) ?_
  exact ⟨_, rfl, B1, rfl, hb1, by omega, HU⟩

end Go.Proofs.Ytflmjdnhjbiobaa
