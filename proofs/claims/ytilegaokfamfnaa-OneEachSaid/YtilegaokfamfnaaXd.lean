/-
 Walks, printed by a small program of this project (gen.py).
-/
import Derived.Test.YtilegaokfamfnaaXc
import Derived.Test.YtilegaokfamfnaaCb
set_option linter.unusedVariables false
set_option linter.unusedSimpArgs false
namespace Go.Proofs.Ytilegaokfamfnaa
open Go.Fw

set_option maxRecDepth 100000 in
theorem max_spec {a : Option Addr} {n c : Nat} {l : List Int} {R : Nat → Prop} (w : World) (hs : Sl w R 1 (.slice a n c) n (ints .i64 l)) (hn : n ≤ 17592186044415) (hB : Bd l) (hp : 0 < n) :
  Calls Try.prog 104 #[.slice a n c] w (Ret fun v w' => v = .int .i64 (mx l) ∧ Upd No w w') := by
 have HU : Upd (fun b => False) w w := Upd.refl _ _
 have hl_hs := ilen hs
 have hc_hs := hs.cap.1
 replace hs := hs.tight
 refine calls_of_W Try.func104 rfl Try.ntmps104 (by simp) ?_
 refine W_seq ?_
 refine W_region ?_
 refine Wl_v (r_as (v := .int .i64 0) rfl) ?_
 refine Wl_nil ?_
 refine W_seq ?_
 refine W_seq ?_
 refine W_region ?_
 refine Wl_v (r_mv (v := .slice a n c) rfl) ?_
 refine Wl_v (r_len Try.underlying122 rfl) ?_
 refine Wl_v (r_lt rfl rfl) ?_
 refine Wl_nil ?_
 have q1 : ¬ (((n : Nat) : Int) < 1) := (by omega)
 rw [decide_eq_false q1]
 refine W_cond_f rfl ?_
 refine W_skip ?_
 refine W_seq ?_
 refine W_region ?_
 refine Wl_v (r_mv (v := .slice a n c) rfl) ?_
 refine Wl_idxi Try.underlying122 Try.sizeOf3 rfl rfl hs (by omega) (by omega) ?_
 intro ib1 io1 hc1
 rw [show (0 : Int).toNat = 0 from rfl] at hc1
 refine Wl_loadc Try.isAgg3 rfl hc1 ?_
 refine Wl_v (r_as (v := .int .i64 (l.getD 0 0)) rfl) ?_
 refine Wl_nil ?_
 refine W_seq ?_
 refine W_seq ?_
 refine W_region ?_
 refine Wl_v (r_as (v := .int .i64 1) rfl) ?_
 refine Wl_nil ?_
 refine W_block ?_
 refine W_loop (fun mu ρ ds w' => ∃ (k : Nat), n - k = mu ∧ ds = [] ∧ Liv ρ [(0, .slice a n c), (3, .int .i64 (mx (l.take k))), (4, .int .i64 ((k : Nat) : Int))] ∧ 1 ≤ k ∧ k ≤ n ∧ Upd No w w') _ ⟨1, rfl, rfl, ⟨rfl, (Eq.trans (b := .int .i64 (l.getD 0 0)) rfl (vint (by rw [show (1 : Nat) = 0 + 1 from rfl, mx_take hB (by omega)]; have := hB.gd 0; simp only [List.take_zero, mx]; omega))), (by first | rfl | exact vint (by omega) | exact vint (by simp)), trivial⟩, (by omega), (by omega), Upd.refl _ _⟩ ?_
 rintro m2 ρ2 ds2 w2 ⟨k, rfl, rfl, hl2, hk1, hk, hU2⟩
 obtain ⟨ρ2x, rfl⟩ : ∃ ρx, ρ2 = upds ρx [(0, .slice a n c), (3, .int .i64 (mx (l.take k))), (4, .int .i64 ((k : Nat) : Int))] := ⟨_, upds_self hl2⟩
 clear hl2
 have hzw2 := hU2.size
 replace hs := hs.upd0 hU2
 replace HU := HU.trans0 hU2
 have HL2 := hU2
 refine W_seq ?_
 refine W_seq ?_
 refine W_region ?_
 refine Wl_v (r_mv (v := .int .i64 ((k : Nat) : Int)) rfl) ?_
 refine Wl_v (r_mv (v := .slice a n c) rfl) ?_
 refine Wl_v (r_len Try.underlying122 rfl) ?_
 refine Wl_v (r_lt rfl rfl) ?_
 refine Wl_nil ?_
 by_cases q2 : ((k : Nat) : Int) < ((n : Nat) : Int)
 ·rw [decide_eq_true q2]
  refine W_cond_t rfl ?_
  refine W_skip ?_
  refine W_seq ?_
  refine W_block ?_
  refine W_region ?_
  refine Wl_v (r_mv (v := .int .i64 (mx (l.take k))) rfl) ?_
  refine Wl_v (r_mv (v := .slice a n c) rfl) ?_
  refine Wl_v (r_mv (v := .int .i64 ((k : Nat) : Int)) rfl) ?_
  refine Wl_idxi Try.underlying122 Try.sizeOf3 rfl rfl hs (by omega) (by omega) ?_
  intro ib3 io3 hc3
  rw [Int.toNat_natCast] at hc3
  refine Wl_loadc Try.isAgg3 rfl hc3 ?_
  refine Wl_v (r_max rfl rfl) ?_
  refine Wl_v (r_as (v := .int .i64 (max (mx (l.take k)) (l.getD k 0))) rfl) ?_
  refine Wl_nil ?_
  refine W_region ?_
  refine Wl_v (r_mv (v := .int .i64 ((k : Nat) : Int)) rfl) ?_
  refine Wl_v (r_add rfl rfl (wi64 (by omega) (by omega))) ?_
  refine Wl_v (r_as (v := .int .i64 (((k : Nat) : Int) + 1)) rfl) ?_
  refine Wl_nil ?_
  refine ⟨_, ?_, (k + 1), rfl, rfl, ⟨rfl, (Eq.trans (b := .int .i64 (max (mx (l.take k)) (l.getD k 0))) rfl (vint (mx_take hB (by omega)).symm)), (Eq.trans (b := .int .i64 (((k : Nat) : Int) + 1)) rfl (vint (by omega))), trivial⟩, (by omega), (by omega), HL2⟩
  omega
 ·rw [decide_eq_false q2]
  refine W_cond_f rfl ?_
  refine W_exit ?_
  refine W_seq ?_
  refine W_region ?_
  refine Wl_v (r_mv (v := .int .i64 (mx (l.take k))) rfl) ?_
  refine Wl_v (r_as (v := .int .i64 (mx (l.take k))) rfl) ?_
  refine Wl_nil ?_
  refine W_ret ?_
  refine ret_end (v := .int .i64 (mx (l.take k))) rfl (res1 Try.results104 rfl) ?_
  exact ⟨_, rfl, (vint (by rw [show l.take k = l from List.take_of_length_le (by omega)])), HU⟩

set_option maxRecDepth 100000 in
theorem mlen_clr {b0 : Nat} {xb0 : Value} (w : World) (hbb0 : Blk w b0 [xb0]) :
  Calls Try.prog 103 #[.pointer (some ⟨b0, 0, none⟩)] w (Ret fun v w' => v = .tuple #[] ∧ Blk w' b0 [.int .i64 0] ∧ Upd (fun g => g = b0) w w') := by
 have HU : Upd (fun b => b = b0) w w := Upd.refl _ _
 have hlb0 := hbb0.lt
 refine calls_of_W Try.func103 rfl Try.ntmps103 (by simp) ?_
 refine W_region ?_
 refine Wl_store (v := .int .i64 0) (cs' := [.int .i64 0]) Try.sizeOf3 rfl rfl rfl rfl hbb0 rfl rfl ?_
 intro w1 hU1 hzz1 hbb0n
 replace hbb0 := hbb0n; clear hbb0n
 have hzw1 := hU1.size
 replace HU := HU.trans1 hU1 (by show (b0 = b0) ∨ w.heap.size ≤ b0; omega)
 refine Wl_nil ?_
 refine nrm_end (v := .tuple #[]) rfl (res0 Try.results103) ?_
 exact ⟨_, rfl, rfl, hbb0, HU⟩

set_option maxRecDepth 100000 in
theorem mlen_ok {a : Option Addr} {n c : Nat} {l : List Int} {R : Nat → Prop} (w : World) (hs : Sl w R 1 (.slice a n c) n (ints .i64 l)) (hn : n ≤ 17592186044415) (hr : Rt l) :
  Calls Try.prog 94 #[.slice a n c] w (Ret fun v w' => v = .tuple #[.int .i64 (mx l), .int .i64 0] ∧ Upd No w w') := by
 have HU : Upd (fun b => False) w w := Upd.refl _ _
 have hl_hs := ilen hs
 have hc_hs := hs.cap.1
 replace hs := hs.tight
 have h256 := hr.2.1
 refine calls_of_W Try.func94 rfl Try.ntmps94 (by simp) ?_
 refine W_seq ?_
 refine W_region ?_
 refine Wl_alloc (cs := [.int .i64 0]) Try.zeroValue3 rfl ?_
 intro B1 w1 hB1 hU1 hzz1 hb1
 have hzw1 := hU1.size
 replace hs := hs.upd0 hU1
 replace HU := HU.trans0 hU1
 refine Wl_alloc (cs := [.int .i64 0]) Try.zeroValue25 rfl ?_
 intro B2 w2 hB2 hU2 hzz2 hb2
 have hzw2 := hU2.size
 replace hs := hs.upd0 hU2
 replace HU := HU.trans0 hU2
 replace hb1 := hb1.upd0 hU2
 refine Wl_nil ?_
 refine W_seq ?_
 refine W_region ?_
 refine Wl_v (r_mkf1 (v0 := .pointer (some ⟨B1, 0, none⟩)) rfl) ?_
 refine Wl_defer2 rfl rfl ?_
 refine Wl_nil ?_
 refine W_seq ?_
 refine W_region ?_
 refine Wl_v (r_mv (v := .slice a n c) rfl) ?_
 refine Wl_call (r_call1 rfl Try.call81 rfl) (of_ok _ hs (by omega) (by omega)) ?_
 rintro v w3 ⟨rfl, hS3, hU3⟩
 have hzw3 := hU3.size
 replace HU := HU.trans0 hU3
 replace hb1 := hb1.upd0 hU3
 replace hb2 := hb2.upd0 hU3
 have hl_hS3 := ilen hS3
 have hc_hS3 := hS3.cap.1
 refine Wl_v (r_field Try.underlying124 rfl Try.isAgg122 rfl rfl) ?_
 refine Wl_call (r_call1 rfl Try.call104 rfl) (max_spec _ hS3 (by omega) hr.1 (by have := hr.pos; omega)) ?_
 rintro v w4 ⟨rfl, hU4⟩
 have hzw4 := hU4.size
 replace HU := HU.trans0 hU4
 replace hb1 := hb1.upd0 hU4
 replace hb2 := hb2.upd0 hU4
 refine Wl_store (v := .int .i64 (mx l)) (cs' := [.int .i64 (mx l)]) Try.sizeOf3 rfl rfl rfl rfl hb1 rfl rfl ?_
 intro w5 hU5 hzz5 hb1n
 replace hb1 := hb1n; clear hb1n
 have hzw5 := hU5.size
 replace HU := HU.trans1 hU5 (by show (False) ∨ w.heap.size ≤ B1; omega)
 replace hb2 := hb2.upd1 hU5 (by omega)
 refine Wl_store (v := .int .i64 0) (cs' := [.int .i64 0]) Try.sizeOf25 rfl rfl rfl rfl hb2 rfl rfl ?_
 intro w6 hU6 hzz6 hb2n
 replace hb2 := hb2n; clear hb2n
 have hzw6 := hU6.size
 replace HU := HU.trans1 hU6 (by show (False) ∨ w.heap.size ≤ B2; omega)
 replace hb1 := hb1.upd1 hU6 (by omega)
 refine Wl_nil ?_
 refine W_ret ?_
 refine ret_ds rfl ?_
 refine lv_call (by simp) Try.call79 rfl (caught_ret _) ?_
 rintro e1 u1 w7 ⟨rfl, v1, rfl, rfl, hU7⟩
 have hzw7 := hU7.size
 replace HU := HU.trans0 hU7
 replace hb1 := hb1.upd0 hU7
 replace hb2 := hb2.upd0 hU7
 refine lv_nil (v := .tuple #[.int .i64 (mx l), .int .i64 0]) (rc2 Try.results94 rfl rfl (cellIs Try.isAgg3 hb1) (cellIs Try.isAgg25 hb2)) ?_
 exact ⟨_, rfl, rfl, HU⟩

set_option maxRecDepth 100000 in
theorem mlen_no {a : Option Addr} {n c : Nat} {l : List Int} {R : Nat → Prop} (w : World) (hs : Sl w R 1 (.slice a n c) n (ints .i64 l)) (hn : n ≤ 17592186044415) (hr : ¬ Rt l) :
  Calls Try.prog 94 #[.slice a n c] w (Ret fun v w' => v = .tuple #[.int .i64 0, .int .i64 12] ∧ Upd No w w') := by
 have HU : Upd (fun b => False) w w := Upd.refl _ _
 have hl_hs := ilen hs
 have hc_hs := hs.cap.1
 replace hs := hs.tight
 refine calls_of_W Try.func94 rfl Try.ntmps94 (by simp) ?_
 refine W_seq ?_
 refine W_region ?_
 refine Wl_alloc (cs := [.int .i64 0]) Try.zeroValue3 rfl ?_
 intro B1 w1 hB1 hU1 hzz1 hb1
 have hzw1 := hU1.size
 replace hs := hs.upd0 hU1
 replace HU := HU.trans0 hU1
 refine Wl_alloc (cs := [.int .i64 0]) Try.zeroValue25 rfl ?_
 intro B2 w2 hB2 hU2 hzz2 hb2
 have hzw2 := hU2.size
 replace hs := hs.upd0 hU2
 replace HU := HU.trans0 hU2
 replace hb1 := hb1.upd0 hU2
 refine Wl_nil ?_
 refine W_seq ?_
 refine W_region ?_
 refine Wl_v (r_mkf1 (v0 := .pointer (some ⟨B1, 0, none⟩)) rfl) ?_
 refine Wl_defer2 rfl rfl ?_
 refine Wl_nil ?_
 refine W_seq ?_
 refine W_region ?_
 refine Wl_v (r_mv (v := .slice a n c) rfl) ?_
 refine Wl_callp (r_call1 rfl Try.call81 rfl) (of_no _ hs (by omega) (by omega)) ?_
 intro w3 hU3
 have hzw3 := hU3.size
 replace HU := HU.trans0 hU3
 replace hb1 := hb1.upd0 hU3
 replace hb2 := hb2.upd0 hU3
 refine pan_ds rfl ?_
 refine lv_call (by simp) Try.call79 rfl (caught_pan (S := fun g => g = B1) (Φ := fun w' => Blk w' B1 [.int .i64 0]) _ hb2 Try.call103 (by show ¬ (B2 = B1); first | omega | exact fun h => h) (mlen_clr _ hb1)) ?_
 rintro e1 u1 w4 ⟨rfl, v1, rfl, rfl, wq4, hz4_0, hUa4, hUb4, hbe4⟩
 have hzwq4 := hUa4.size
 replace HU := HU.trans hUa4 (by intro x hx; have hx2 : x = B1 := hx; show (False) ∨ w.heap.size ≤ x; omega)
 have hzw4 := hUb4.size
 replace HU := HU.trans1 hUb4 (by show (False) ∨ w.heap.size ≤ B2; omega)
 replace hz4_0 := hz4_0.upd1 hUb4 (by omega)
 refine lv_nil (v := .tuple #[.int .i64 0, .int .i64 12]) (rc2 Try.results94 rfl rfl (cellIs Try.isAgg3 hz4_0) (cellIs Try.isAgg25 hbe4)) ?_
 exact ⟨_, rfl, rfl, HU⟩

end Go.Proofs.Ytilegaokfamfnaa
