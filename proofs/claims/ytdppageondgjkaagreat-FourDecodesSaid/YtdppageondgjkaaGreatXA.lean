/-
  Several texts of this project, put together.
-/
import Derived.Test.YtdppageondgjkaaGreatRows
import Derived.Test.YtdppageondgjkaaGreatCA
import Derived.Test.YtdppageondgjkaaGreatFB
set_option linter.unusedVariables false
set_option linter.unusedSimpArgs false
set_option maxRecDepth 100000
namespace Go.Proofs.YtdppageondgjkaaGreat
open Go.Fw _root_.Go.Proofs.Tryz
theorem caught_ret {be : Nat} {cl : Value} (w : World) :
  CD Tryz.prog 85 #[.pointer (some ⟨be, 0, none⟩), cl] (.returning) w (fun e u' w' => u' = .returning ∧ (Ret fun v w' => v = .tuple #[] ∧ Upd No w w') e w') := by
 have HU := Upd.rno w
 refine CD_recover (v := .nilIface) (u' := .returning) func85 rfl ntmps85 (by simp) rfl (fun ρ w => by simp [execOp, resolve, invoke, builtin]) rfl rfl (fun ρ w => by simp [execOp]) rfl rfl (by decide) (fun c₀ cs h => .inr ⟨rec_none c₀ cs h, rfl, rfl⟩) ?_
 refine W_seq (W_region ?_)
 refine Wmv (.nilIface) ?_
 refine Wl_v (r_nei_n underlying20 rfl rfl) ?_
 refine Wl_nil ?_
 refine W_cond_f rfl ?_
 refine W_skip ?_
 refine cd_nrm (v := .tuple #[]) (res0 results85) ?_
 exact ⟨_, rfl, rfl, HU⟩
theorem caught_pan {be : Nat} {er0 er : Int} {gf : FuncId} {caps : Array Value} {S : Nat → Prop} {Φ : World → Prop} (w : World) (hb : Blk w be [.int .i64 er0]) (hgf : ∀ ar w, (callFunc gf ar).run Tryz.prog w = .ok (.enter gf ar) w) (hS : ¬ S be) (hc : Calls Tryz.prog gf caps w (Ret fun v w1 => v = .tuple #[] ∧ Φ w1 ∧ Upd S w w1)) :
  CD Tryz.prog 85 #[.pointer (some ⟨be, 0, none⟩), .func (.func gf) #[] caps] (.panicking (pan (.iface 23 (.int .i64 er)))) w (fun e u' w' => u' = .panicking [{ v := .iface 23 (.int .i64 er), recovered := true }] ∧ (Ret fun v w' => v = .tuple #[] ∧ ∃ wq, Φ wq ∧ Upd S w wq ∧ Upd (Is be) wq w' ∧ Blk w' be [.int .i64 er]) e w') := by
 have HU := Upd.rno w
 refine CD_recover (v := .iface 23 (.int .i64 er)) (u' := .panicking [{ v := .iface 23 (.int .i64 er), recovered := true }]) func85 rfl ntmps85 (by simp) rfl (fun ρ w => by simp [execOp, resolve, invoke, builtin]) rfl rfl (fun ρ w => by simp [execOp]) rfl rfl (by decide) (fun c₀ cs h => .inl (rec_some c₀ cs h)) ?_
 refine W_seq (W_region ?_)
 refine Wmv (.iface 23 (.int .i64 er)) ?_
 refine Wl_v (r_nei_s underlying20 rfl rfl) ?_
 refine Wl_nil ?_
 refine W_cond_t rfl ?_
 refine W_seq (W_region ?_)
 refine Wmv (.iface 23 (.int .i64 er)) ?_
 refine Wl_v (r_ta underlying23 (fun m h => by cases h) rfl) ?_
 refine Wmv (.tuple #[.int .i64 er, .bool true]) ?_
 refine Wl_v (r_ext (v := .int .i64 er) rfl rfl) ?_
 refine Wl_v (r_ext (v := .bool true) rfl rfl) ?_
 refine Was (.int .i64 er) ?_
 refine Was (.bool true) ?_
 refine Wl_nil (W_seq (W_seq (W_region ?_)))
 refine Wmv (.bool true) ?_
 refine Wl_v (r_not (b := true) rfl) ?_
 refine Wl_nil ?_
 refine W_cond_f rfl ?_
 refine W_skip (W_seq (W_region ?_))
 refine Wmv (.func (.func gf) #[] caps) ?_
 refine Wl_call (r_clos0 hgf rfl (by simp)) hc ?_
 rintro v wq ⟨rfl, hΦ, hUq⟩
 replace hb := hb.upd hUq hS
 refine Wl_nil (W_region ?_)
 refine Wmv (.pointer (some ⟨be, 0, none⟩)) ?_
 refine Wmv (.int .i64 er) ?_
 refine Wl_v (r_nil rfl) ?_
 refine Wl_store (v := .int .i64 er) (cs' := [.int .i64 er]) sizeOf23 rfl rfl rfl rfl hb rfl rfl ?_
 intro w1 hU1 hzz1 hbn
 replace hb := hbn; clear hbn
 have hzw1 := hU1.size
 refine Wl_nil ?_
 refine cd_nrm (v := .tuple #[]) (res0 results85) ?_
 exact ⟨_, rfl, rfl, wq, hΦ, hUq, hU1, hb⟩
def qF (b : Bool) : Bool := !b
theorem bindex_spec {a : Option Addr} {n c : Nat} {l : List Bool} {R : Nat → Prop} (w : World) (hs : Sl w R 1 (.slice a n c) n (rows encB l)) (hn : n ≤ 1000000) :
  Calls Tryz.prog 136 #[.slice a n c, .bool false] w (Ret fun v w' => v = .int .i64 (fidx qF l) ∧ Upd No w w') := by
 have HU := Upd.rno w
 have hl_hs := rlen encB_len (by decide) hs
 have hc_hs := hs.cap.1
 replace hs := hs.tight
 refine calls_of_W func136 rfl ntmps136 (by simp) ?_
 refine W_seq (W_region ?_)
 refine Was (.int .i64 0) ?_
 refine Wl_nil (W_seq (W_seq (W_region ?_)))
 refine Wmv (.slice a n c) ?_
 refine Wl_v (r_len underlying117 rfl) ?_
 refine Wmv (.int .i64 0) ?_
 refine Wl_nil (W_block ?_)
 refine W_loop (fun mu ρ ds w' => ∃ (k : Nat), n - k = mu ∧ ds = [] ∧ Liv ρ [(0, .slice a n c), (1, .bool false), (7, .int .i64 ((n : Nat) : Int)), (8, .int .i64 ((k : Nat) : Int))] ∧ k ≤ n ∧ (∀ i, i < k → qF (l.getD i false) = false) ∧ Upd No w w') _ ⟨0, rfl, rfl, ⟨rfl, rfl, rfl, (by first | rfl | exact vint (by omega) | exact vint (by simp)), trivial⟩, (by omega), (fun i hi => absurd hi (by omega)), Upd.refl _ _⟩ ?_
 rintro m1 ρ1 ds1 w1 ⟨k, rfl, rfl, hl1, hk, hall, hU1⟩
 obtain ⟨ρ1x, rfl⟩ : ∃ ρx, ρ1 = upds ρx [(0, .slice a n c), (1, .bool false), (7, .int .i64 ((n : Nat) : Int)), (8, .int .i64 ((k : Nat) : Int))] := ⟨_, upds_self hl1⟩
 clear hl1
 have hzw1 := hU1.size
 replace hs := hs.upd0 hU1
 replace HU := HU.trans0 hU1
 have HL1 := hU1
 refine W_seq (W_region ?_)
 refine Wl_v (r_lt rfl rfl) ?_
 refine Wl_nil (W_seq ?_)
 by_cases q1 : ((k : Nat) : Int) < ((n : Nat) : Int)
 ·rw [decide_eq_true q1]
  refine W_cond_t rfl ?_
  refine W_skip (W_seq (W_block (W_seq (W_region ?_))))
  refine Wmv (.int .i64 ((k : Nat) : Int)) ?_
  refine Was (.int .i64 ((k : Nat) : Int)) ?_
  refine Wl_nil (W_seq (W_region ?_))
  refine Wmv (.bool false) ?_
  refine Wmv (.slice a n c) ?_
  refine Wmv (.int .i64 ((k : Nat) : Int)) ?_
  refine Wl_idxr false encB_len (by decide) underlying117 sizeOf4 rfl rfl hs (by omega) (by omega) ?_
  intro ib2 io2 hc2
  try rw [Int.toNat_natCast] at hc2
  refine Wl_loadc (v := .bool (decide ((l.getD k false) = true))) isAgg4 rfl (hc2 0 (by decide)) ?_
  by_cases q2 : (l.getD k false) = true
  ·have hqk : qF (l.getD k false) = false := by unfold qF; rw [q2]; rfl
   rw [decide_eq_true q2]
   refine Wl_v (v := .bool false) (r_eqb (a := false) (b := true) underlying4 rfl rfl) ?_
   refine Wl_nil ?_
   refine W_cond_f rfl ?_
   refine W_skip (W_region ?_)
   refine Wl_v (r_add rfl rfl (wi64 (by omega) (by omega))) ?_
   refine Wmv (.int .i64 (((k : Nat) : Int) + 1)) ?_
   refine Wl_nil ?_
   refine ⟨_, ?_, (k + 1), rfl, rfl, ⟨rfl, rfl, rfl, (by first | rfl | exact vint (by omega) | exact vint (by simp)), trivial⟩, (by omega), (fun i hi => by rcases Nat.lt_or_ge i k with h | h; exact hall i h; rw [show i = k from by omega]; exact hqk), HL1⟩
   omega
  have hqk : qF (l.getD k false) = true := by unfold qF; rw [Bool.eq_false_iff.2 q2]; rfl
  rw [decide_eq_false q2]
  refine Wl_v (v := .bool true) (r_eqb (a := false) (b := false) underlying4 rfl rfl) ?_
  refine Wl_nil ?_
  refine W_cond_t rfl ?_
  refine W_seq (W_region ?_)
  refine Wmv (.int .i64 ((k : Nat) : Int)) ?_
  refine Was (.int .i64 ((k : Nat) : Int)) ?_
  refine Wl_nil ?_
  refine W_ret ?_
  refine ret_end (v := .int .i64 ((k : Nat) : Int)) rfl (res1 results136 rfl) ?_
  exact ⟨_, rfl, (vint (fidx_at false (k := k) (by omega) hall hqk).symm), HU⟩
 rw [decide_eq_false q1]
 refine W_cond_f rfl ?_
 refine W_exit ?_
 refine W_seq (W_region ?_)
 refine Was (.int .i64 (-1)) ?_
 refine Wl_nil ?_
 refine W_ret ?_
 refine ret_end (v := .int .i64 (-1)) rfl (res1 results136 rfl) ?_
 exact ⟨_, rfl, (vint (fidx_none false (fun i hi => hall i (by omega))).symm), HU⟩
theorem fq_all {l : List Bool} (h : l.all id = true) : fidx qF l = -1 := fidx_none false fun i hi => by
 have := List.all_eq_true.1 h _ (List.getElem_mem hi)
 rw [List.getD_eq_getElem?_getD, List.getElem?_eq_getElem hi]
 simpa [qF] using this
theorem fq_no {l : List Bool} (h : l.all id = false) : 0 ≤ fidx qF l := by
 rcases fidx_cases qF l false with ⟨_, h2⟩ | ⟨k, h2, _⟩
 ·have : l.all id = true := List.all_eq_true.2 fun x hx => by
   obtain ⟨i, hi, rfl⟩ := List.mem_iff_getElem.1 hx
   have := h2 i hi
   rw [List.getD_eq_getElem?_getD, List.getElem?_eq_getElem hi] at this
   simpa [qF] using this
  rw [this] at h; cases h
 rw [h2]; omega
theorem bcont_all {a : Option Addr} {n c : Nat} {l : List Bool} {R : Nat → Prop} (w : World) (hs : Sl w R 1 (.slice a n c) n (rows encB l)) (hn : n ≤ 1000000) (hl : l.all id = true) :
  Calls Tryz.prog 124 #[.slice a n c, .bool false] w (Ret fun v w' => v = .bool false ∧ Upd No w w') := by
 have HU := Upd.rno w
 have hl_hs := rlen encB_len (by decide) hs
 have hc_hs := hs.cap.1
 replace hs := hs.tight
 refine calls_of_W func124 rfl ntmps124 (by simp) ?_
 refine W_seq (W_region ?_)
 refine Was (.bool false) ?_
 refine Wl_nil (W_seq (W_region ?_))
 refine Wmv (.slice a n c) ?_
 refine Wmv (.bool false) ?_
 refine Wl_call (r_call2 rfl call136 rfl rfl) (bindex_spec _ hs (by omega)) ?_
 rintro v w1 ⟨rfl, hU1⟩
 have hzw1 := hU1.size
 replace HU := HU.trans0 hU1
 refine Wl_v (r_ge rfl rfl) ?_
 refine Was (.bool (decide (0 ≤ (fidx qF l)))) ?_
 refine Wl_nil ?_
 refine W_ret ?_
 refine ret_end (v := .bool (decide (0 ≤ (fidx qF l)))) rfl (res1 results124 rfl) ?_
 exact ⟨_, rfl, (by rw [decide_eq_false (by have := fq_all hl; omega)]), HU⟩
theorem bcont_no {a : Option Addr} {n c : Nat} {l : List Bool} {R : Nat → Prop} (w : World) (hs : Sl w R 1 (.slice a n c) n (rows encB l)) (hn : n ≤ 1000000) (hl : l.all id = false) :
  Calls Tryz.prog 124 #[.slice a n c, .bool false] w (Ret fun v w' => v = .bool true ∧ Upd No w w') := by
 have HU := Upd.rno w
 have hl_hs := rlen encB_len (by decide) hs
 have hc_hs := hs.cap.1
 replace hs := hs.tight
 refine calls_of_W func124 rfl ntmps124 (by simp) ?_
 refine W_seq (W_region ?_)
 refine Was (.bool false) ?_
 refine Wl_nil (W_seq (W_region ?_))
 refine Wmv (.slice a n c) ?_
 refine Wmv (.bool false) ?_
 refine Wl_call (r_call2 rfl call136 rfl rfl) (bindex_spec _ hs (by omega)) ?_
 rintro v w1 ⟨rfl, hU1⟩
 have hzw1 := hU1.size
 replace HU := HU.trans0 hU1
 refine Wl_v (r_ge rfl rfl) ?_
 refine Was (.bool (decide (0 ≤ (fidx qF l)))) ?_
 refine Wl_nil ?_
 refine W_ret ?_
 refine ret_end (v := .bool (decide (0 ≤ (fidx qF l)))) rfl (res1 results124 rfl) ?_
 exact ⟨_, rfl, (by rw [decide_eq_true (by have := fq_no hl; omega)]), HU⟩
theorem must_ok {er : Int} {a : Option Addr} {n c : Nat} {l : List Bool} {R : Nat → Prop} (w : World) (hs : Sl w R 1 (.slice a n c) n (rows encB l)) (hn : n ≤ 1000000) (hl : l.all id = true) :
  Calls Tryz.prog 109 #[.int .i64 er, .slice a n c] w (Ret fun v w' => v = .tuple #[] ∧ Upd No w w') := by
 have HU := Upd.rno w
 have hl_hs := rlen encB_len (by decide) hs
 have hc_hs := hs.cap.1
 replace hs := hs.tight
 refine calls_of_W func109 rfl ntmps109 (by simp) ?_
 refine W_seq (W_region ?_)
 refine Wmv (.slice a n c) ?_
 refine Wl_call (r_call2 rfl call124 rfl rfl) (bcont_all _ hs (by omega) hl) ?_
 rintro v w1 ⟨rfl, hU1⟩
 have hzw1 := hU1.size
 replace HU := HU.trans0 hU1
 refine Wl_nil ?_
 refine W_cond_f rfl ?_
 refine W_skip ?_
 refine nrm_end (v := .tuple #[]) rfl (res0 results109) ?_
 exact ⟨_, rfl, rfl, HU⟩
theorem must_no {er : Int} {a : Option Addr} {n c : Nat} {l : List Bool} {R : Nat → Prop} (w : World) (hs : Sl w R 1 (.slice a n c) n (rows encB l)) (hn : n ≤ 1000000) (hl : l.all id = false) :
  Calls Tryz.prog 109 #[.int .i64 er, .slice a n c] w (Pan (.iface 23 (.int .i64 er)) fun w' => Upd No w w') := by
 have HU := Upd.rno w
 have hl_hs := rlen encB_len (by decide) hs
 have hc_hs := hs.cap.1
 replace hs := hs.tight
 refine calls_of_W func109 rfl ntmps109 (by simp) ?_
 refine W_seq (W_region ?_)
 refine Wmv (.slice a n c) ?_
 refine Wl_call (r_call2 rfl call124 rfl rfl) (bcont_no _ hs (by omega) hl) ?_
 rintro v w1 ⟨rfl, hU1⟩
 have hzw1 := hU1.size
 replace HU := HU.trans0 hU1
 refine Wl_nil ?_
 refine W_cond_t rfl ?_
 refine W_region ?_
 refine Wmv (.int .i64 er) ?_
 refine Wl_v (r_mki (by kernel_rfl) rfl) ?_
 refine Wl_panic rfl ?_
 refine pan_ds rfl ?_
 refine lv_panic ?_
 exact ⟨rfl, HU⟩
theorem shlone {v : Int} (h0 : 0 ≤ v) (h1 : v < 2147483648) : IntKind.u32.wrap (v * 2 ^ (min (1 : Int).toNat IntKind.u32.bits)) = 2 * v := by
 have e : (2 : Int) ^ (min (1 : Int).toNat IntKind.u32.bits) = 2 := by decide
 rw [e, wu32 (by omega) (by omega), Int.mul_comm]
theorem rt_iff {l : List Int} {k : Nat} (hB : Bd l) (h : l.take k = l) : Rt l ↔ (l.length ≤ 256 ∧ 1 < mc (l.take k) ∧ ks (l.take k) = 2048) := by
 rw [h]; exact ⟨fun x => x.2, fun x => ⟨hB, x⟩⟩
theorem right_spec {a : Option Addr} {n c : Nat} {l : List Int} {R : Nat → Prop} (w : World) (hs : Sl w R 1 (.slice a n c) n (ints .i64 l)) (hn : n ≤ 17592186044415) :
  Calls Tryz.prog 110 #[.slice a n c] w (Ret fun v w' => v = .bool (decide (Rt l)) ∧ Upd No w w') := by
 have HU := Upd.rno w
 have hl_hs := ilen hs
 have hc_hs := hs.cap.1
 replace hs := hs.tight
 refine calls_of_W func110 rfl ntmps110 (by simp) ?_
 refine W_seq (W_region ?_)
 refine Was (.bool false) ?_
 refine Wl_nil (W_seq (W_region ?_))
 refine Was (.int .i64 0) ?_
 refine Was (.int .i64 0) ?_
 refine Wl_nil (W_seq (W_seq (W_region ?_)))
 refine Wmv (.slice a n c) ?_
 refine Wl_v (r_len underlying127 rfl) ?_
 refine Wmv (.int .i64 0) ?_
 refine Wl_nil (W_block ?_)
 refine W_loop (fun mu ρ ds w' => ∃ (k : Nat), n - k = mu ∧ ds = [] ∧ Liv ρ [(0, .slice a n c), (3, .int .i64 (ks (l.take k))), (4, .int .i64 (mc (l.take k))), (7, .slice a n c), (8, .int .i64 ((n : Nat) : Int)), (9, .int .i64 ((k : Nat) : Int))] ∧ k ≤ n ∧ Bd (l.take k) ∧ Upd No w w') _ ⟨0, rfl, rfl, ⟨rfl, (Eq.trans (b := .int .i64 0) rfl (vint (by simp [ks]))), (Eq.trans (b := .int .i64 0) rfl (vint (by simp [mc]))), rfl, rfl, (by first | rfl | exact vint (by omega) | exact vint (by simp)), trivial⟩, (by omega), (by simpa using Bd.nil), Upd.refl _ _⟩ ?_
 rintro m1 ρ1 ds1 w1 ⟨k, rfl, rfl, hl1, hk, hbk, hU1⟩
 obtain ⟨ρ1x, rfl⟩ : ∃ ρx, ρ1 = upds ρx [(0, .slice a n c), (3, .int .i64 (ks (l.take k))), (4, .int .i64 (mc (l.take k))), (7, .slice a n c), (8, .int .i64 ((n : Nat) : Int)), (9, .int .i64 ((k : Nat) : Int))] := ⟨_, upds_self hl1⟩
 clear hl1
 have hzw1 := hU1.size
 replace hs := hs.upd0 hU1
 replace HU := HU.trans0 hU1
 have HL1 := hU1
 refine W_seq (W_region ?_)
 refine Wl_v (r_lt rfl rfl) ?_
 refine Wl_nil (W_seq ?_)
 by_cases q1 : ((k : Nat) : Int) < ((n : Nat) : Int)
 ·have hks := ks_take (l := l) (k := k) (by omega)
  have hmc := mc_take (l := l) (k := k) (by omega)
  have hkb := ks_bd hbk
  have hmb := mc_bd (l.take k)
  rw [List.length_take] at hkb hmb
  rw [decide_eq_true q1]
  refine W_cond_t rfl ?_
  refine W_skip (W_seq (W_block (W_seq (W_region ?_))))
  refine Wl_idxi underlying127 sizeOf3 rfl rfl hs (by omega) (by omega) ?_
  intro ib2 io2 hc2
  rw [Int.toNat_natCast] at hc2
  refine Wl_loadc isAgg3 rfl hc2 ?_
  refine Was (.int .i64 (l.getD k 0)) ?_
  refine Wl_nil (W_seq (W_seq (W_region ?_)))
  refine Wmv (.int .i64 (l.getD k 0)) ?_
  refine Wl_v (r_lt rfl rfl) ?_
  refine Wmv (.bool (decide ((l.getD k 0) < 0))) ?_
  by_cases q2 : (l.getD k 0) < 0
  ·rw [decide_eq_true q2]
   refine Wl_guard_f rfl (Wl_guard_f rfl ?_)
   refine Wl_v (r_pick_t (v := .bool true) rfl rfl) ?_
   refine Wl_nil ?_
   refine W_cond_t rfl ?_
   refine W_seq (W_region ?_)
   refine Was (.bool false) ?_
   refine Wl_nil ?_
   refine W_ret ?_
   refine ret_end (v := .bool false) rfl (res1 results110 rfl) ?_
   exact ⟨_, rfl, (vboolf (not_Rt_of (k := k) (by omega) (by omega))), HU⟩
  rw [decide_eq_false q2]
  refine Wl_guard_t rfl ?_
  refine Wmv (.int .i64 (l.getD k 0)) ?_
  refine Wl_guard_t rfl ?_
  refine Wl_v (r_gt rfl rfl) ?_
  refine Wl_v (r_pick_f (v := .bool (decide (11 < (l.getD k 0)))) rfl rfl) ?_
  refine Wl_nil ?_
  by_cases q3 : 11 < (l.getD k 0)
  ·rw [decide_eq_true q3]
   refine W_cond_t rfl ?_
   refine W_seq (W_region ?_)
   refine Was (.bool false) ?_
   refine Wl_nil ?_
   refine W_ret ?_
   refine ret_end (v := .bool false) rfl (res1 results110 rfl) ?_
   exact ⟨_, rfl, (vboolf (not_Rt_of (k := k) (by omega) (by omega))), HU⟩
  rw [decide_eq_false q3]
  refine W_cond_f rfl ?_
  refine W_skip (W_seq (W_region ?_))
  refine Wmv (.int .i64 (l.getD k 0)) ?_
  refine Wl_v (r_gt rfl rfl) ?_
  refine Wl_nil ?_
  by_cases q4 : 0 < (l.getD k 0)
  ·have hkt := kw_tab q4 (by omega)
   rw [if_pos q4] at hmc
   rw [decide_eq_true q4]
   refine W_cond_t rfl ?_
   refine W_region ?_
   refine Wmv (.int .i64 (ks (l.take k))) ?_
   refine Wmv (.int .i64 (l.getD k 0)) ?_
   refine Wl_v (r_sub rfl rfl (wi64 (by omega) (by omega))) ?_
   refine Wl_v (r_shl rfl rfl (by omega) (shl1 (by omega) (by omega))) ?_
   refine Wl_v (r_add rfl rfl (wi64 (by omega) (by omega))) ?_
   refine Wmv (.int .i64 (mc (l.take k))) ?_
   refine Wl_v (r_add rfl rfl (wi64 (by omega) (by omega))) ?_
   refine Was (.int .i64 ((ks (l.take k)) + (kw (l.getD k 0)))) ?_
   refine Was (.int .i64 ((mc (l.take k)) + 1)) ?_
   refine Wl_nil (W_region ?_)
   refine Wl_v (r_add rfl rfl (wi64 (by omega) (by omega))) ?_
   refine Wmv (.int .i64 (((k : Nat) : Int) + 1)) ?_
   refine Wl_nil ?_
   refine ⟨_, ?_, (k + 1), rfl, rfl, ⟨rfl, (Eq.trans (b := .int .i64 ((ks (l.take k)) + (kw (l.getD k 0)))) rfl (vint (by omega))), (Eq.trans (b := .int .i64 ((mc (l.take k)) + 1)) rfl (vint (by omega))), rfl, rfl, (Eq.trans (b := .int .i64 (((k : Nat) : Int) + 1)) rfl (vint (by omega))), trivial⟩, (by omega), (hbk.take_step (by omega) (by omega)), HL1⟩
   omega
  have hkw : kw (l.getD k 0) = 0 := by rw [kw, if_neg q4]
  rw [if_neg q4] at hmc
  rw [decide_eq_false q4]
  refine W_cond_f rfl ?_
  refine W_skip (W_region ?_)
  refine Wl_v (r_add rfl rfl (wi64 (by omega) (by omega))) ?_
  refine Wmv (.int .i64 (((k : Nat) : Int) + 1)) ?_
  refine Wl_nil ?_
  refine ⟨_, ?_, (k + 1), rfl, rfl, ⟨rfl, (Eq.trans (b := .int .i64 (ks (l.take k))) rfl (vint (by omega))), (Eq.trans (b := .int .i64 (mc (l.take k))) rfl (vint (by omega))), rfl, rfl, (Eq.trans (b := .int .i64 (((k : Nat) : Int) + 1)) rfl (vint (by omega))), trivial⟩, (by omega), (hbk.take_step (by omega) (by omega)), HL1⟩
  omega
 have htk : l.take k = l := List.take_of_length_le (by omega)
 have hB : Bd l := by rw [htk] at hbk; exact hbk
 rw [decide_eq_false q1]
 refine W_cond_f rfl ?_
 refine W_exit ?_
 refine W_seq (W_region ?_)
 refine Wmv (.slice a n c) ?_
 refine Wl_v (r_len underlying127 rfl) ?_
 refine Wl_v (r_le rfl rfl) ?_
 refine Wmv (.bool (decide (((n : Nat) : Int) ≤ 256))) ?_
 by_cases q5 : ((n : Nat) : Int) ≤ 256
 ·rw [decide_eq_true q5]
  refine Wl_guard_t rfl ?_
  refine Wmv (.int .i64 (mc (l.take k))) ?_
  refine Wl_guard_t rfl ?_
  refine Wl_v (r_gt rfl rfl) ?_
  refine Wl_v (r_pick_t (v := .bool (decide (1 < (mc (l.take k))))) rfl rfl) ?_
  refine Wmv (.bool (decide (1 < (mc (l.take k))))) ?_
  by_cases q6 : 1 < (mc (l.take k))
  ·rw [decide_eq_true q6]
   refine Wl_guard_t rfl ?_
   refine Wmv (.int .i64 (ks (l.take k))) ?_
   refine Wl_guard_t rfl ?_
   refine Wl_v (r_eq rfl rfl) ?_
   refine Wl_v (r_pick_t (v := .bool (decide ((ks (l.take k)) = 2048))) rfl rfl) ?_
   refine Was (.bool (decide ((ks (l.take k)) = 2048))) ?_
   refine Wl_nil ?_
   refine W_ret ?_
   refine ret_end (v := .bool (decide ((ks (l.take k)) = 2048))) rfl (res1 results110 rfl) ?_
   exact ⟨_, rfl, (by first | exact vboolf (fun h => by have := (rt_iff hB htk).1 h; omega) | exact vbool (by rw [rt_iff hB htk]; omega)), HU⟩
  rw [decide_eq_false q6]
  refine Wl_guard_f rfl (Wl_guard_f rfl ?_)
  refine Wl_v (r_pick_f (v := .bool false) rfl rfl) ?_
  refine Was (.bool false) ?_
  refine Wl_nil ?_
  refine W_ret ?_
  refine ret_end (v := .bool false) rfl (res1 results110 rfl) ?_
  exact ⟨_, rfl, (by first | exact vboolf (fun h => by have := (rt_iff hB htk).1 h; omega) | exact vbool (by rw [rt_iff hB htk]; omega)), HU⟩
 rw [decide_eq_false q5]
 refine Wl_guard_f rfl (Wl_guard_f rfl ?_)
 refine Wl_v (r_pick_f (v := .bool false) rfl rfl) ?_
 refine Wmv (.bool false) ?_
 refine Wl_guard_f rfl (Wl_guard_f rfl ?_)
 refine Wl_v (r_pick_f (v := .bool false) rfl rfl) ?_
 refine Was (.bool false) ?_
 refine Wl_nil ?_
 refine W_ret ?_
 refine ret_end (v := .bool false) rfl (res1 results110 rfl) ?_
 exact ⟨_, rfl, (by first | exact vboolf (fun h => by have := (rt_iff hB htk).1 h; omega) | exact vbool (by rw [rt_iff hB htk]; omega)), HU⟩
theorem rright_spec {a : Option Addr} {n c : Nat} {l : List Int} {R : Nat → Prop} (w : World) (hs : Sl w R 1 (.slice a n c) n (ints .i64 l)) (hn : n ≤ 17592186044415) :
  Calls Tryz.prog 28 #[.slice a n c] w (Ret fun v w' => v = .bool (decide (Rt l)) ∧ Upd No w w') := by
 have HU := Upd.rno w
 have hl_hs := ilen hs
 have hc_hs := hs.cap.1
 replace hs := hs.tight
 refine calls_of_W func28 rfl ntmps28 (by simp) ?_
 refine W_seq (W_region ?_)
 refine Was (.bool false) ?_
 refine Wl_nil (W_seq (W_seq (W_region ?_)))
 refine Wmv (.slice a n c) ?_
 refine Wl_v (r_len underlying22 rfl) ?_
 refine Wl_v (r_gt rfl rfl) ?_
 refine Wl_nil ?_
 by_cases q1 : 256 < ((n : Nat) : Int)
 ·rw [decide_eq_true q1]
  refine W_cond_t rfl ?_
  refine W_seq (W_region ?_)
  refine Was (.bool false) ?_
  refine Wl_nil ?_
  refine W_ret ?_
  refine ret_end (v := .bool false) rfl (res1 results28 rfl) ?_
  exact ⟨_, rfl, (vboolf (fun h => by have := h.2.1; omega)), HU⟩
 rw [decide_eq_false q1]
 refine W_cond_f rfl ?_
 refine W_skip (W_seq (W_region ?_))
 refine Was (.int .i64 0) ?_
 refine Was (.int .i64 0) ?_
 refine Wl_nil (W_seq (W_seq (W_region ?_)))
 refine Was (.int .i64 0) ?_
 refine Wl_nil (W_block ?_)
 refine W_loop (fun mu ρ ds w' => ∃ (k : Nat), n - k = mu ∧ ds = [] ∧ Liv ρ [(0, .slice a n c), (3, .int .i64 (ks (l.take k))), (4, .int .i64 (mc (l.take k))), (5, .int .i64 ((k : Nat) : Int))] ∧ k ≤ n ∧ Bd (l.take k) ∧ Upd No w w') _ ⟨0, rfl, rfl, ⟨rfl, (Eq.trans (b := .int .i64 0) rfl (vint (by simp [ks]))), (Eq.trans (b := .int .i64 0) rfl (vint (by simp [mc]))), (by first | rfl | exact vint (by omega) | exact vint (by simp)), trivial⟩, (by omega), (by simpa using Bd.nil), Upd.refl _ _⟩ ?_
 rintro m1 ρ1 ds1 w1 ⟨k, rfl, rfl, hl1, hk, hbk, hU1⟩
 obtain ⟨ρ1x, rfl⟩ : ∃ ρx, ρ1 = upds ρx [(0, .slice a n c), (3, .int .i64 (ks (l.take k))), (4, .int .i64 (mc (l.take k))), (5, .int .i64 ((k : Nat) : Int))] := ⟨_, upds_self hl1⟩
 clear hl1
 have hzw1 := hU1.size
 replace hs := hs.upd0 hU1
 replace HU := HU.trans0 hU1
 have HL1 := hU1
 refine W_seq (W_seq (W_region ?_))
 refine Wmv (.int .i64 ((k : Nat) : Int)) ?_
 refine Wmv (.slice a n c) ?_
 refine Wl_v (r_len underlying22 rfl) ?_
 refine Wl_v (r_lt rfl rfl) ?_
 refine Wl_nil ?_
 by_cases q2 : ((k : Nat) : Int) < ((n : Nat) : Int)
 ·have hks := ks_take (l := l) (k := k) (by omega)
  have hmc := mc_take (l := l) (k := k) (by omega)
  have hkb := ks_bd hbk
  have hmb := mc_bd (l.take k)
  rw [List.length_take] at hkb hmb
  rw [decide_eq_true q2]
  refine W_cond_t rfl ?_
  refine W_skip (W_seq (W_block (W_seq (W_seq (W_region ?_)))))
  refine Wmv (.slice a n c) ?_
  refine Wmv (.int .i64 ((k : Nat) : Int)) ?_
  refine Wl_idxi underlying22 sizeOf3 rfl rfl hs (by omega) (by omega) ?_
  intro ib2 io2 hc2
  rw [Int.toNat_natCast] at hc2
  refine Wl_loadc isAgg3 rfl hc2 ?_
  refine Wl_v (r_lt rfl rfl) ?_
  refine Wmv (.bool (decide ((l.getD k 0) < 0))) ?_
  by_cases q3 : (l.getD k 0) < 0
  ·rw [decide_eq_true q3]
   refine Wl_guard_f rfl (Wl_guard_f rfl (Wl_guard_f rfl (Wl_guard_f rfl (Wl_guard_f rfl ?_))))
   refine Wl_v (r_pick_t (v := .bool true) rfl rfl) ?_
   refine Wl_nil ?_
   refine W_cond_t rfl ?_
   refine W_seq (W_region ?_)
   refine Was (.bool false) ?_
   refine Wl_nil ?_
   refine W_ret ?_
   refine ret_end (v := .bool false) rfl (res1 results28 rfl) ?_
   exact ⟨_, rfl, (vboolf (not_Rt_of (k := k) (by omega) (by omega))), HU⟩
  rw [decide_eq_false q3]
  refine Wl_guard_t rfl ?_
  refine Wmv (.slice a n c) ?_
  refine Wl_guard_t rfl ?_
  refine Wmv (.int .i64 ((k : Nat) : Int)) ?_
  refine Wl_guard_t rfl ?_
  refine Wl_idxi underlying22 sizeOf3 rfl rfl hs (by omega) (by omega) ?_
  intro ib3 io3 hc3
  rw [Int.toNat_natCast] at hc3
  refine Wl_guard_t rfl ?_
  refine Wl_loadc isAgg3 rfl hc3 ?_
  refine Wl_guard_t rfl ?_
  refine Wl_v (r_gt rfl rfl) ?_
  refine Wl_v (r_pick_f (v := .bool (decide (11 < (l.getD k 0)))) rfl rfl) ?_
  refine Wl_nil ?_
  by_cases q4 : 11 < (l.getD k 0)
  ·rw [decide_eq_true q4]
   refine W_cond_t rfl ?_
   refine W_seq (W_region ?_)
   refine Was (.bool false) ?_
   refine Wl_nil ?_
   refine W_ret ?_
   refine ret_end (v := .bool false) rfl (res1 results28 rfl) ?_
   exact ⟨_, rfl, (vboolf (not_Rt_of (k := k) (by omega) (by omega))), HU⟩
  rw [decide_eq_false q4]
  refine W_cond_f rfl ?_
  refine W_skip (W_seq (W_region ?_))
  refine Wmv (.slice a n c) ?_
  refine Wmv (.int .i64 ((k : Nat) : Int)) ?_
  refine Wl_idxi underlying22 sizeOf3 rfl rfl hs (by omega) (by omega) ?_
  intro ib4 io4 hc4
  rw [Int.toNat_natCast] at hc4
  refine Wl_loadc isAgg3 rfl hc4 ?_
  refine Wl_v (r_gt rfl rfl) ?_
  refine Wl_nil ?_
  by_cases q5 : 0 < (l.getD k 0)
  ·have hkt := kw_tab q5 (by omega)
   rw [if_pos q5] at hmc
   rw [decide_eq_true q5]
   refine W_cond_t rfl ?_
   refine W_seq (W_region ?_)
   refine Wmv (.int .i64 (ks (l.take k))) ?_
   refine Wmv (.slice a n c) ?_
   refine Wmv (.int .i64 ((k : Nat) : Int)) ?_
   refine Wl_idxi underlying22 sizeOf3 rfl rfl hs (by omega) (by omega) ?_
   intro ib5 io5 hc5
   rw [Int.toNat_natCast] at hc5
   refine Wl_loadc isAgg3 rfl hc5 ?_
   refine Wl_v (r_shr rfl rfl (by omega) (shr2048 (by omega) (by omega))) ?_
   refine Wl_v (r_add rfl rfl (wi64 (by omega) (by omega))) ?_
   refine Was (.int .i64 ((ks (l.take k)) + (kw (l.getD k 0)))) ?_
   refine Wl_nil (W_region ?_)
   refine Wmv (.int .i64 (mc (l.take k))) ?_
   refine Wl_v (r_add rfl rfl (wi64 (by omega) (by omega))) ?_
   refine Was (.int .i64 ((mc (l.take k)) + 1)) ?_
   refine Wl_nil (W_region ?_)
   refine Wmv (.int .i64 ((k : Nat) : Int)) ?_
   refine Wl_v (r_add rfl rfl (wi64 (by omega) (by omega))) ?_
   refine Was (.int .i64 (((k : Nat) : Int) + 1)) ?_
   refine Wl_nil ?_
   refine ⟨_, ?_, (k + 1), rfl, rfl, ⟨rfl, (Eq.trans (b := .int .i64 ((ks (l.take k)) + (kw (l.getD k 0)))) rfl (vint (by omega))), (Eq.trans (b := .int .i64 ((mc (l.take k)) + 1)) rfl (vint (by omega))), (Eq.trans (b := .int .i64 (((k : Nat) : Int) + 1)) rfl (vint (by omega))), trivial⟩, (by omega), (hbk.take_step (by omega) (by omega)), HL1⟩
   omega
  have hkw : kw (l.getD k 0) = 0 := by rw [kw, if_neg q5]
  rw [if_neg q5] at hmc
  rw [decide_eq_false q5]
  refine W_cond_f rfl ?_
  refine W_skip (W_region ?_)
  refine Wmv (.int .i64 ((k : Nat) : Int)) ?_
  refine Wl_v (r_add rfl rfl (wi64 (by omega) (by omega))) ?_
  refine Was (.int .i64 (((k : Nat) : Int) + 1)) ?_
  refine Wl_nil ?_
  refine ⟨_, ?_, (k + 1), rfl, rfl, ⟨rfl, (Eq.trans (b := .int .i64 (ks (l.take k))) rfl (vint (by omega))), (Eq.trans (b := .int .i64 (mc (l.take k))) rfl (vint (by omega))), (Eq.trans (b := .int .i64 (((k : Nat) : Int) + 1)) rfl (vint (by omega))), trivial⟩, (by omega), (hbk.take_step (by omega) (by omega)), HL1⟩
  omega
 have htk : l.take k = l := List.take_of_length_le (by omega)
 have hB : Bd l := by rw [htk] at hbk; exact hbk
 rw [decide_eq_false q2]
 refine W_cond_f rfl ?_
 refine W_exit ?_
 refine W_seq (W_region ?_)
 refine Wmv (.int .i64 (mc (l.take k))) ?_
 refine Wl_v (r_ge rfl rfl) ?_
 refine Wmv (.bool (decide (2 ≤ (mc (l.take k))))) ?_
 by_cases q6 : 2 ≤ (mc (l.take k))
 ·rw [decide_eq_true q6]
  refine Wl_guard_t rfl ?_
  refine Wmv (.int .i64 (ks (l.take k))) ?_
  refine Wl_guard_t rfl ?_
  refine Wl_v (r_eq rfl rfl) ?_
  refine Wl_v (r_pick_t (v := .bool (decide ((ks (l.take k)) = 2048))) rfl rfl) ?_
  refine Was (.bool (decide ((ks (l.take k)) = 2048))) ?_
  refine Wl_nil ?_
  refine W_ret ?_
  refine ret_end (v := .bool (decide ((ks (l.take k)) = 2048))) rfl (res1 results28 rfl) ?_
  exact ⟨_, rfl, (by first | exact vboolf (fun h => by have := (rt_iff hB htk).1 h; omega) | exact vbool (by rw [rt_iff hB htk]; omega)), HU⟩
 rw [decide_eq_false q6]
 refine Wl_guard_f rfl (Wl_guard_f rfl ?_)
 refine Wl_v (r_pick_f (v := .bool false) rfl rfl) ?_
 refine Was (.bool false) ?_
 refine Wl_nil ?_
 refine W_ret ?_
 refine ret_end (v := .bool false) rfl (res1 results28 rfl) ?_
 exact ⟨_, rfl, (by first | exact vboolf (fun h => by have := (rt_iff hB htk).1 h; omega) | exact vbool (by rw [rt_iff hB htk]; omega)), HU⟩
theorem many_spec {a : Option Addr} {n c : Nat} {l : List Int} {R : Nat → Prop} (w : World) (hs : Sl w R 1 (.slice a n c) n (ints .i64 l)) (hn : n ≤ 17592186044415) (hr : Rt l) :
  Calls Tryz.prog 137 #[.slice a n c] w (Ret fun v w' => v = .agg (ints .u32 (tab12 (cn l))).toArray ∧ Upd No w w') := by
 have HU := Upd.rno w
 have hl_hs := ilen hs
 have hc_hs := hs.cap.1
 replace hs := hs.tight
 have h256 := hr.2.1
 refine calls_of_W func137 rfl ntmps137 (by simp) ?_
 refine W_seq (W_region ?_)
 refine Wl_alloc (cs := [.int .u32 0, .int .u32 0, .int .u32 0, .int .u32 0, .int .u32 0, .int .u32 0, .int .u32 0, .int .u32 0, .int .u32 0, .int .u32 0, .int .u32 0, .int .u32 0]) zeroValue175 rfl ?_
 intro B1 w1 hB1 hU1 hzz1 hb1
 have hzw1 := hU1.size
 replace hs := hs.upd0 hU1
 replace HU := HU.trans0 hU1
 replace hb1 : Blk w1 B1 (ints .u32 (tab12 (fun _ => 0))) := hb1
 refine Wl_nil (W_seq (W_seq (W_region ?_)))
 refine Wmv (.slice a n c) ?_
 refine Wl_v (r_len underlying127 rfl) ?_
 refine Wmv (.int .i64 0) ?_
 refine Wl_nil (W_block ?_)
 refine W_loop (fun mu ρ ds w' => ∃ (k : Nat), n - k = mu ∧ ds = [] ∧ Liv ρ [(2, .pointer (some ⟨B1, 0, none⟩)), (5, .slice a n c), (6, .int .i64 ((n : Nat) : Int)), (7, .int .i64 ((k : Nat) : Int))] ∧ k ≤ n ∧ Blk w' B1 (ints .u32 (tab12 (cn (l.take k)))) ∧ Upd (Is B1) w1 w') _ ⟨0, rfl, rfl, ⟨rfl, rfl, rfl, (by first | rfl | exact vint (by omega) | exact vint (by simp)), trivial⟩, (by omega), (hb1.icong (tab12_congr fun x hx => by simp [cn])), Upd.refl _ _⟩ ?_
 rintro m2 ρ2 ds2 w2 ⟨k, rfl, rfl, hl2, hk, hb1, hU2⟩
 obtain ⟨ρ2x, rfl⟩ : ∃ ρx, ρ2 = upds ρx [(2, .pointer (some ⟨B1, 0, none⟩)), (5, .slice a n c), (6, .int .i64 ((n : Nat) : Int)), (7, .int .i64 ((k : Nat) : Int))] := ⟨_, upds_self hl2⟩
 clear hl2
 have hzw2 := hU2.size
 replace hs := hs.upd1 hU2 (show ¬ (((R B1) ∧ B1 < w.heap.size)) by omega)
 replace HU := HU.t1 hU2 (by omega)
 have HL2 := hU2
 refine W_seq (W_region ?_)
 refine Wl_v (r_lt rfl rfl) ?_
 refine Wl_nil (W_seq ?_)
 by_cases q1 : ((k : Nat) : Int) < ((n : Nat) : Int)
 ·have hgd := hr.1.gd k
  have hcl := cn_le (l.take k) (l.getD k 0).toNat
  have hcn := cn_nonneg (l.take k) (l.getD k 0).toNat
  have h256 := hr.2.1
  rw [List.length_take] at hcl
  rw [decide_eq_true q1]
  refine W_cond_t rfl ?_
  refine W_skip (W_seq (W_block (W_seq (W_region ?_))))
  refine Wl_idxi underlying127 sizeOf3 rfl rfl hs (by omega) (by omega) ?_
  intro ib3 io3 hc3
  rw [Int.toNat_natCast] at hc3
  refine Wl_loadc isAgg3 rfl hc3 ?_
  refine Was (.int .i64 (l.getD k 0)) ?_
  refine Wl_nil (W_seq (W_region ?_))
  refine Wmv (.int .i64 (l.getD k 0)) ?_
  refine Wl_v (r_gt rfl rfl) ?_
  refine Wl_nil ?_
  by_cases q2 : 0 < (l.getD k 0)
  ·rw [decide_eq_true q2]
   refine W_cond_t rfl ?_
   refine W_region ?_
   refine Wmv (.int .i64 (l.getD k 0)) ?_
   refine Wl_v (r_idxa (len := 12) (i' := (l.getD k 0).toNat) (o' := (l.getD k 0).toNat) underlying175 sizeOf104 rfl rfl (by omega) (by omega) (by omega)) ?_
   refine Wl_loadc (v := .int .u32 (cn (l.take k) ((l.getD k 0).toNat))) isAgg104 rfl (by rw [hb1.icell (by rw [tab12_len]; omega), tab12_get _ (by omega)]) ?_
   refine Wl_v (r_add rfl rfl (wu32 (by omega) (by omega))) ?_
   refine Wl_v (r_idxa (len := 12) (i' := (l.getD k 0).toNat) (o' := (l.getD k 0).toNat) underlying175 sizeOf104 rfl rfl (by omega) (by omega) (by omega)) ?_
   refine Wl_storei (i := (l.getD k 0).toNat) (l' := tab12 (fun x => if x = (l.getD k 0).toNat then (cn (l.take k) ((l.getD k 0).toNat)) + 1 else cn (l.take k) x)) sizeOf104 rfl rfl hb1 (by rw [tab12_len]; omega) (tab12_set _ (by omega) _ _ (fun j hj => rfl)) ?_
   intro w4 hU4 hzz4 hb1n
   replace hb1 := hb1n; clear hb1n
   have hzw4 := hU4.size
   replace HL2 := HL2.trans1 hU4 (by show (B1 = B1) ∨ w1.heap.size ≤ B1; omega)
   refine Wl_nil (W_region ?_)
   refine Wl_v (r_add rfl rfl (wi64 (by omega) (by omega))) ?_
   refine Wmv (.int .i64 (((k : Nat) : Int) + 1)) ?_
   refine Wl_nil ?_
   refine ⟨_, ?_, (k + 1), rfl, rfl, ⟨rfl, rfl, rfl, (Eq.trans (b := .int .i64 (((k : Nat) : Int) + 1)) rfl (vint (by omega))), trivial⟩, (by omega), (hb1.icong (tab12_congr fun x hx => by rw [cn_take (by omega)]; by_cases hxx : x = (l.getD k 0).toNat; rw [if_pos hxx, if_pos ⟨by omega, by omega⟩, hxx]; rw [if_neg hxx, if_neg (by omega)]; omega)), HL2⟩
   omega
  rw [decide_eq_false q2]
  refine W_cond_f rfl ?_
  refine W_skip (W_region ?_)
  refine Wl_v (r_add rfl rfl (wi64 (by omega) (by omega))) ?_
  refine Wmv (.int .i64 (((k : Nat) : Int) + 1)) ?_
  refine Wl_nil ?_
  refine ⟨_, ?_, (k + 1), rfl, rfl, ⟨rfl, rfl, rfl, (Eq.trans (b := .int .i64 (((k : Nat) : Int) + 1)) rfl (vint (by omega))), trivial⟩, (by omega), (hb1.icong (tab12_congr fun x hx => by rw [cn_take (by omega), if_neg (by omega)]; omega)), HL2⟩
  omega
 rw [decide_eq_false q1]
 refine W_cond_f rfl ?_
 refine W_exit ?_
 refine W_seq (W_region ?_)
 refine Wl_v (r_loada (b := B1) (off := 0) (cs := ints .u32 (tab12 (cn (l.take k)))) isAgg175 sizeOf175 rfl (by simp only [ints, List.length_map]; exact tab12_len _) (fun j hj => by rw [hb1.cell, Nat.zero_add])) ?_
 refine Wl_storea (off := 0) (vs := ints .u32 (tab12 (cn (l.take k)))) (cs' := ints .u32 (tab12 (cn (l.take k)))) sizeOf175 rfl rfl (by simp only [ints, List.length_map]; exact tab12_len _) one_ints hb1 (by have h1 : (tab12 (cn (l.take k))).length = 12 := tab12_len _; have h2 : (tab12 (cn (l.take k))).length = 12 := tab12_len _; simp only [ints, List.length_map]; omega) (take0_drop ((tab12_len _ : (tab12 (cn (l.take k))).length = 12).trans (tab12_len _ : (tab12 (cn (l.take k))).length = 12).symm)) ?_
 intro w5 hU5 hzz5 hb1n
 replace hb1 := hb1n; clear hb1n
 have hzw5 := hU5.size
 replace HU := HU.t1 hU5 (by omega)
 refine Wl_nil ?_
 refine W_ret ?_
 refine ret_end (v := .agg (ints .u32 (tab12 (cn (l.take k)))).toArray) rfl (rc1 results137 rfl (cellAgg isAgg175 sizeOf175 (by simp only [ints, List.length_map]; exact tab12_len _) hb1)) ?_
 exact ⟨_, rfl, (by rw [show l.take k = l from List.take_of_length_le (by omega)]), HU⟩
theorem first_spec {a : Option Addr} {n c : Nat} {l : List Int} {R : Nat → Prop} (w : World) (hs : Sl w R 1 (.slice a n c) n (ints .i64 l)) (hn : n ≤ 17592186044415) (hr : Rt l) :
  Calls Tryz.prog 125 #[.slice a n c] w (Ret fun v w' => v = .agg (ints .u32 (tab12 (F l))).toArray ∧ Upd No w w') := by
 have HU := Upd.rno w
 have hl_hs := ilen hs
 have hc_hs := hs.cap.1
 replace hs := hs.tight
 refine calls_of_W func125 rfl ntmps125 (by simp) ?_
 refine W_seq (W_region ?_)
 refine Wl_alloc (cs := [.int .u32 0, .int .u32 0, .int .u32 0, .int .u32 0, .int .u32 0, .int .u32 0, .int .u32 0, .int .u32 0, .int .u32 0, .int .u32 0, .int .u32 0, .int .u32 0]) zeroValue175 rfl ?_
 intro B1 w1 hB1 hU1 hzz1 hb1
 have hzw1 := hU1.size
 replace hs := hs.upd0 hU1
 replace HU := HU.trans0 hU1
 replace hb1 : Blk w1 B1 (ints .u32 (tab12 (fun _ => 0))) := hb1
 refine Wl_nil (W_seq (W_region ?_))
 refine Wmv (.slice a n c) ?_
 refine Wl_call (r_call1 rfl call137 rfl) (many_spec _ hs (by omega) (by omega)) ?_
 rintro v w2 ⟨rfl, hU2⟩
 have hzw2 := hU2.size
 replace HU := HU.trans0 hU2
 replace hb1 := hb1.upd0 hU2
 refine Wl_alloc (cs := [.int .u32 0, .int .u32 0, .int .u32 0, .int .u32 0, .int .u32 0, .int .u32 0, .int .u32 0, .int .u32 0, .int .u32 0, .int .u32 0, .int .u32 0, .int .u32 0]) zeroValue175 rfl ?_
 intro B3 w3 hB3 hU3 hzz3 hb3
 have hzw3 := hU3.size
 replace HU := HU.trans0 hU3
 replace hb1 := hb1.upd0 hU3
 replace hb3 : Blk w3 B3 (ints .u32 (tab12 (fun _ => 0))) := hb3
 refine Wl_storea (off := 0) (vs := ints .u32 (tab12 (cn l))) (cs' := ints .u32 (tab12 (cn l))) sizeOf175 rfl rfl (by simp only [ints, List.length_map]; exact tab12_len _) one_ints hb3 (by have h1 : (tab12 (cn l)).length = 12 := tab12_len _; have h2 : (tab12 (fun _ => 0)).length = 12 := tab12_len _; simp only [ints, List.length_map]; omega) (take0_drop ((tab12_len _ : (tab12 (fun _ => 0)).length = 12).trans (tab12_len _ : (tab12 (cn l)).length = 12).symm)) ?_
 intro w4 hU4 hzz4 hb3n
 replace hb3 := hb3n; clear hb3n
 have hzw4 := hU4.size
 replace HU := HU.t1 hU4 (by omega)
 replace hb1 := hb1.upd1 hU4 (by omega)
 refine Wl_nil (W_seq (W_seq (W_region ?_)))
 refine Was (.int .i64 1) ?_
 refine Wl_nil (W_block ?_)
 refine W_loop (fun mu ρ ds w' => ∃ (k : Nat), 12 - k = mu ∧ ds = [] ∧ Liv ρ [(2, .pointer (some ⟨B1, 0, none⟩)), (3, .pointer (some ⟨B3, 0, none⟩)), (4, .int .i64 ((k : Nat) : Int))] ∧ 1 ≤ k ∧ k ≤ 12 ∧ Blk w' B1 (ints .u32 (tab12 (fun j => if j < k then F l j else 0))) ∧ Upd (Is B1) w4 w') _ ⟨1, rfl, rfl, ⟨rfl, rfl, (by first | rfl | exact vint (by omega) | exact vint (by simp)), trivial⟩, (by omega), (by omega), (hb1.icong (tab12_congr fun x hx => by by_cases h1 : x < 1; rw [if_pos h1, show x = 0 from by omega]; rfl; rw [if_neg h1])), Upd.refl _ _⟩ ?_
 rintro m5 ρ5 ds5 w5 ⟨k, rfl, rfl, hl5, hk1, hk, hb1, hU5⟩
 obtain ⟨ρ5x, rfl⟩ : ∃ ρx, ρ5 = upds ρx [(2, .pointer (some ⟨B1, 0, none⟩)), (3, .pointer (some ⟨B3, 0, none⟩)), (4, .int .i64 ((k : Nat) : Int))] := ⟨_, upds_self hl5⟩
 clear hl5
 have hzw5 := hU5.size
 replace HU := HU.t1 hU5 (by omega)
 replace hb3 := hb3.upd1 hU5 (by omega)
 have HL5 := hU5
 refine W_seq (W_seq (W_region ?_))
 refine Wmv (.int .i64 ((k : Nat) : Int)) ?_
 refine Wl_v (r_lt rfl rfl) ?_
 refine Wl_nil ?_
 by_cases q1 : ((k : Nat) : Int) < 12
 ·have hF : F l k = 2 * (F l (k - 1) + cn l (k - 1)) := by
   conv => lhs; rw [show k = (k - 1) + 1 from by omega]
   rfl
  have hFl := F_le' hr (n := k - 1) (by omega)
  rw [decide_eq_true q1]
  refine W_cond_t rfl ?_
  refine W_skip (W_seq (W_block ?_))
  refine W_drawt rfl (l0 := tf 0 13) (by kernel_rfl) ?_
  refine Tk 0 (tf 1 13) rfl (YI_v (v := .int .i64 ((k : Nat) : Int)) rfl (fun w' hw' => r_mv (v := .int .i64 ((k : Nat) : Int)) rfl)) ?_
  refine Tk 1 (tf 2 13) rfl (YI_v (v := .int .i64 ((k : Nat) : Int)) rfl (fun w' hw' => r_mv (v := .int .i64 ((k : Nat) : Int)) rfl)) ?_
  refine Tk 2 (tf 3 13) rfl (YI_v (v := .int .i64 (((k : Nat) : Int) - 1)) rfl (fun w' hw' => r_sub rfl rfl (wi64 (by omega) (by omega)))) ?_
  refine Tk 3 (tf 4 13) rfl (YI_v (v := .pointer (some ⟨B1, (k - 1), none⟩)) rfl (fun w' hw' => r_idxa (len := 12) (i' := (k - 1)) (o' := (k - 1)) underlying175 sizeOf104 rfl rfl (by omega) (by omega) (by omega))) ?_
  refine Tk 4 (tf 5 13) rfl (YI_v (v := .int .u32 (if (k - 1) < k then F l (k - 1) else 0)) rfl (fun w' hw' => r_load isAgg104 rfl (by rw [(hb1.upd0 hw').icell (by rw [tab12_len]; omega), tab12_get _ (by omega)]))) ?_
  refine Tk 5 (tf 6 13) rfl (YI_v (v := .int .i64 ((k : Nat) : Int)) rfl (fun w' hw' => r_mv (v := .int .i64 ((k : Nat) : Int)) rfl)) ?_
  refine Tk 6 (tf 7 13) rfl (YI_v (v := .int .i64 (((k : Nat) : Int) - 1)) rfl (fun w' hw' => r_sub rfl rfl (wi64 (by omega) (by omega)))) ?_
  refine Tk 7 (tf 8 13) rfl (YI_v (v := .pointer (some ⟨B3, (k - 1), none⟩)) rfl (fun w' hw' => r_idxa (len := 12) (i' := (k - 1)) (o' := (k - 1)) underlying175 sizeOf104 rfl rfl (by omega) (by omega) (by omega))) ?_
  refine Tk 8 (tf 9 13) rfl (YI_v (v := .int .u32 (cn l (k - 1))) rfl (fun w' hw' => r_load isAgg104 rfl (by rw [(hb3.upd0 hw').icell (by rw [tab12_len]; omega), tab12_get _ (by omega)]))) ?_
  have hif : (if k - 1 < k then F l (k - 1) else 0) = F l (k - 1) := if_pos (by omega)
  refine Tk 9 (tf 10 13) rfl (YI_v (v := .int .u32 (F l (k - 1) + cn l (k - 1))) rfl (fun w' hw' => r_add rfl rfl (by rw [hif]; exact wu32 (by omega) (by omega)))) ?_
  refine Tk 10 (tf 11 13) rfl (YI_v (v := .int .u32 (2 * (F l (k - 1) + cn l (k - 1)))) rfl (fun w' hw' => r_shl rfl rfl (by omega) (shlone (by omega) (by omega)))) ?_
  refine Tk 11 (tf 12 13) rfl (YI_v (v := .pointer (some ⟨B1, k, none⟩)) rfl (fun w' hw' => r_idxa (len := 12) (i' := k) (o' := k) underlying175 sizeOf104 rfl rfl (by omega) (by omega) (by omega))) ?_
  intro w6 hU6
  have hzw6 := hU6.size
  replace hb1 := hb1.upd0 hU6
  replace HL5 := HL5.trans0 hU6
  refine Wa_one (i := 12) (listed' := tf 13 13) (by kernel_rfl) rfl (by kernel_rfl) ?_
  refine Ws_of_Wl ?_
  have hW : Upd No w5 w6 := hU6
  refine Wl_storei (i := k) (l' := tab12 (fun x => if x = k then 2 * (F l (k - 1) + cn l (k - 1)) else if x < k then F l x else 0)) sizeOf104 rfl rfl hb1 (by rw [tab12_len]; omega) (tab12_set _ (by omega) _ _ (fun j hj => rfl)) ?_
  intro w7 hU7 hzz7 hb1n
  replace hb1 := hb1n; clear hb1n
  have hzw7 := hU7.size
  replace HL5 := HL5.trans1 hU7 (by show (B1 = B1) ∨ w4.heap.size ≤ B1; omega)
  refine Wl_nil ?_
  intro w8 hS8
  refine ⟨fun h => absurd h (by rw [show barOp _ 12 = true from by kernel_rfl]; simp), fun _ => ⟨Upd No w8, ?_⟩⟩
  have hU8 := hS8.upd
  have hzw8 := hU8.size
  replace hb1 := hb1.upd0 hU8
  replace HL5 := HL5.trans0 hU8
  try replace hW := hW.trans0 hU8
  refine Wa_done (by kernel_rfl) ?_
  refine W_region ?_
  refine Wmv (.int .i64 ((k : Nat) : Int)) ?_
  refine Wl_v (r_add rfl rfl (wi64 (by omega) (by omega))) ?_
  refine Was (.int .i64 (((k : Nat) : Int) + 1)) ?_
  refine Wl_nil ?_
  refine ⟨_, ?_, (k + 1), rfl, rfl, ⟨rfl, rfl, (Eq.trans (b := .int .i64 (((k : Nat) : Int) + 1)) rfl (vint (by omega))), trivial⟩, (by omega), (by omega), (hb1.icong (tab12_congr fun x hx => by by_cases h1 : x = k; rw [if_pos h1, if_pos (by omega), h1, hF]; rw [if_neg h1]; by_cases h2 : x < k; rw [if_pos h2, if_pos (by omega)]; rw [if_neg h2, if_neg (by omega)])), HL5⟩
  omega
 rw [decide_eq_false q1]
 refine W_cond_f rfl ?_
 refine W_exit ?_
 refine W_seq (W_region ?_)
 refine Wl_v (r_loada (b := B1) (off := 0) (cs := ints .u32 (tab12 (fun j => if j < k then F l j else 0))) isAgg175 sizeOf175 rfl (by simp only [ints, List.length_map]; exact tab12_len _) (fun j hj => by rw [hb1.cell, Nat.zero_add])) ?_
 refine Wl_storea (off := 0) (vs := ints .u32 (tab12 (fun j => if j < k then F l j else 0))) (cs' := ints .u32 (tab12 (fun j => if j < k then F l j else 0))) sizeOf175 rfl rfl (by simp only [ints, List.length_map]; exact tab12_len _) one_ints hb1 (by have h1 : (tab12 (fun j => if j < k then F l j else 0)).length = 12 := tab12_len _; have h2 : (tab12 (fun j => if j < k then F l j else 0)).length = 12 := tab12_len _; simp only [ints, List.length_map]; omega) (take0_drop ((tab12_len _ : (tab12 (fun j => if j < k then F l j else 0)).length = 12).trans (tab12_len _ : (tab12 (fun j => if j < k then F l j else 0)).length = 12).symm)) ?_
 intro w9 hU9 hzz9 hb1n
 replace hb1 := hb1n; clear hb1n
 have hzw9 := hU9.size
 replace HU := HU.t1 hU9 (by omega)
 refine Wl_nil ?_
 refine W_ret ?_
 refine ret_end (v := .agg (ints .u32 (tab12 (fun j => if j < k then F l j else 0))).toArray) rfl (rc1 results125 rfl (cellAgg isAgg175 sizeOf175 (by simp only [ints, List.length_map]; exact tab12_len _) hb1)) ?_
 exact ⟨_, rfl, (by rw [tab12_congr (f := fun j => if j < k then F l j else 0) (g := F l) (fun x hx => if_pos (by omega))]), HU⟩
theorem codes_spec {a : Option Addr} {n c : Nat} {l : List Int} {R : Nat → Prop} (w : World) (hs : Sl w R 1 (.slice a n c) n (ints .i64 l)) (hn : n ≤ 17592186044415) (hr : Rt l) :
  Calls Tryz.prog 112 #[.agg #[.slice a n c]] w (Ret fun v w' => ∃ (a' : Option Addr) (c' : Nat), v = .slice a' n c' ∧ Own w' (fun g => w.heap.size ≤ g) 106 2 (.slice a' n c') n (rows encC (cds l)) ∧ Upd No w w') := by
 have HU := Upd.rno w
 have hl_hs := ilen hs
 have hc_hs := hs.cap.1
 replace hs := hs.tight
 have h256 := hr.2.1
 refine calls_of_W func112 rfl ntmps112 (by simp) ?_
 refine W_seq (W_region ?_)
 refine Wl_box (v := .agg #[.slice a n c]) (cs := [.slice a n c]) rfl rfl ?_
 intro B1 w1 hB1 hU1 hzz1 hb1
 have hzw1 := hU1.size
 replace hs := hs.upd0 hU1
 replace HU := HU.trans0 hU1
 refine Was (.slice none 0 0) ?_
 refine Wl_nil (W_seq (W_region ?_))
 refine Wl_v (r_fld underlying129 rfl sizeOf127 rfl rfl) ?_
 refine Wl_load (v := .slice a n c) isAgg127 rfl hb1 rfl ?_
 refine Wl_call (r_call1 rfl call125 rfl) (first_spec _ hs (by omega) (by omega)) ?_
 rintro v w2 ⟨rfl, hU2⟩
 have hzw2 := hU2.size
 replace hs := hs.upd0 hU2
 replace HU := HU.trans0 hU2
 replace hb1 := hb1.upd0 hU2
 refine Wl_alloc (cs := [.int .u32 0, .int .u32 0, .int .u32 0, .int .u32 0, .int .u32 0, .int .u32 0, .int .u32 0, .int .u32 0, .int .u32 0, .int .u32 0, .int .u32 0, .int .u32 0]) zeroValue175 rfl ?_
 intro B3 w3 hB3 hU3 hzz3 hb3
 have hzw3 := hU3.size
 replace hs := hs.upd0 hU3
 replace HU := HU.trans0 hU3
 replace hb1 := hb1.upd0 hU3
 replace hb3 : Blk w3 B3 (ints .u32 (tab12 (fun _ => 0))) := hb3
 refine Wl_storea (off := 0) (vs := ints .u32 (tab12 (F l))) (cs' := ints .u32 (tab12 (F l))) sizeOf175 rfl rfl (by simp only [ints, List.length_map]; exact tab12_len _) one_ints hb3 (by have h1 : (tab12 (F l)).length = 12 := tab12_len _; have h2 : (tab12 (fun _ => 0)).length = 12 := tab12_len _; simp only [ints, List.length_map]; omega) (take0_drop ((tab12_len _ : (tab12 (fun _ => 0)).length = 12).trans (tab12_len _ : (tab12 (F l)).length = 12).symm)) ?_
 intro w4 hU4 hzz4 hb3n
 replace hb3 := hb3n; clear hb3n
 have hzw4 := hU4.size
 replace hs := hs.upd1 hU4 (show ¬ (((R B3) ∧ B3 < w.heap.size)) by omega)
 replace HU := HU.t1 hU4 (by omega)
 replace hb1 := hb1.upd1 hU4 (by omega)
 refine Wl_nil (W_seq (W_region ?_))
 refine Wl_v (r_fld underlying129 rfl sizeOf127 rfl rfl) ?_
 refine Wl_load (v := .slice a n c) isAgg127 rfl hb1 rfl ?_
 refine Wl_v (r_len underlying127 rfl) ?_
 refine Wl_makeo (c' := n) (zc := [.int .i64 0, .int .u32 0]) (cs := rows encC (List.replicate n (0, 0))) (sz := 2) underlying92 (ti := Tryz.t106) (z := .agg #[.int .i64 0, .int .u32 0]) rfl rfl rfl rfl (by decide) rfl rfl (by omega) (by omega) (by show 16 * _ ≤ _; omega) (by simp only [maxLen]; omega) (rows_rep (enc := encC) (0, 0) _) rfl ?_
 intro B5 w5 hB5 hU5 hzz5 hO5
 have hzw5 := hU5.size
 replace hs := hs.upd0 hU5
 replace HU := HU.trans0 hU5
 replace hb1 := hb1.upd0 hU5
 replace hb3 := hb3.upd0 hU5
 have hl_hO5 := rlen encC_len (by decide) hO5.sl
 have hc_hO5 := hO5.sl.cap.1
 refine Was (.slice (some ⟨B5, 0, none⟩) n n) ?_
 refine Wl_nil (W_seq (W_seq (W_region ?_)))
 refine Wl_v (r_fld underlying129 rfl sizeOf127 rfl rfl) ?_
 refine Wl_load (v := .slice a n c) isAgg127 rfl hb1 rfl ?_
 refine Wl_v (r_len underlying127 rfl) ?_
 refine Wmv (.int .i64 0) ?_
 refine Wl_nil (W_block ?_)
 refine W_loop (fun mu ρ ds w' => ∃ (k : Nat), n - k = mu ∧ ds = [] ∧ Liv ρ [(3, .pointer (some ⟨B3, 0, none⟩)), (4, .slice (some ⟨B5, 0, none⟩) n n), (15, .slice a n c), (16, .int .i64 ((n : Nat) : Int)), (17, .int .i64 ((k : Nat) : Int))] ∧ k ≤ n ∧ Blk w' B3 (ints .u32 (tab12 (fun j => F l j + cn (l.take k) j))) ∧ Own w' (fun g => g = B5) 106 2 (.slice (some ⟨B5, 0, none⟩) n n) n (rows encC (tabn n (fun i => if i < k then cd l i else (0, 0)))) ∧ Upd (fun g => g = B3 ∨ (g = B5)) w5 w') _ ⟨0, rfl, rfl, ⟨rfl, rfl, rfl, rfl, (by first | rfl | exact vint (by omega) | exact vint (by simp)), trivial⟩, (by omega), (hb3.icong (tab12_congr fun x hx => by simp [cn])), (hO5.rcong (by rw [tabn_rep]; exact tabn_congr fun j hj => by rw [if_neg (by omega)])), Upd.refl _ _⟩ ?_
 rintro m6 ρ6 ds6 w6 ⟨k, rfl, rfl, hl6, hk, hb3, hO5, hU6⟩
 obtain ⟨ρ6x, rfl⟩ : ∃ ρx, ρ6 = upds ρx [(3, .pointer (some ⟨B3, 0, none⟩)), (4, .slice (some ⟨B5, 0, none⟩) n n), (15, .slice a n c), (16, .int .i64 ((n : Nat) : Int)), (17, .int .i64 ((k : Nat) : Int))] := ⟨_, upds_self hl6⟩
 clear hl6
 have hzw6 := hU6.size
 replace hs := hs.upd hU6 (by intro x h1 h2; have h3 : ((R x) ∧ x < w.heap.size) := h1; have h4 : x = B3 ∨ (x = B5) := h2; omega)
 replace HU := HU.trans hU6 (by intro x hx; have hx2 : x = B3 ∨ (x = B5) := hx; show (False) ∨ w.heap.size ≤ x; omega)
 have HL6 := hU6
 refine W_seq (W_region ?_)
 refine Wl_v (r_lt rfl rfl) ?_
 refine Wl_nil (W_seq ?_)
 by_cases q1 : ((k : Nat) : Int) < ((n : Nat) : Int)
 ·have hgd := hr.1.gd k
  rw [decide_eq_true q1]
  refine W_cond_t rfl ?_
  refine W_skip (W_seq (W_block (W_seq (W_region ?_))))
  refine Wmv (.int .i64 ((k : Nat) : Int)) ?_
  refine Wl_idxi underlying127 sizeOf3 rfl rfl hs (by omega) (by omega) ?_
  intro ib7 io7 hc7
  rw [Int.toNat_natCast] at hc7
  refine Wl_loadc isAgg3 rfl hc7 ?_
  refine Was (.int .i64 ((k : Nat) : Int)) ?_
  refine Was (.int .i64 (l.getD k 0)) ?_
  refine Wl_nil (W_seq (W_region ?_))
  refine Wmv (.int .i64 (l.getD k 0)) ?_
  refine Wl_v (r_gt rfl rfl) ?_
  refine Wl_nil ?_
  by_cases q2 : 0 < (l.getD k 0)
  ·have hrk := rank_lt hr.1 (i := k) (by omega) q2
   have hfl := F_le' hr (n := (l.getD k 0).toNat) (by omega)
   have hcn := cn_nonneg (l.take k) (l.getD k 0).toNat
   rw [decide_eq_true q2]
   refine W_cond_t rfl ?_
   refine W_seq (W_region ?_)
   refine Wmv (.slice (some ⟨B5, 0, none⟩) n n) ?_
   refine Wmv (.int .i64 ((k : Nat) : Int)) ?_
   refine Wmv (.int .i64 (l.getD k 0)) ?_
   refine Wmv (.int .i64 (l.getD k 0)) ?_
   refine Wl_v (r_idxa (len := 12) (i' := (l.getD k 0).toNat) (o' := (l.getD k 0).toNat) underlying175 sizeOf104 rfl rfl (by omega) (by omega) (by omega)) ?_
   refine Wl_loadc (v := .int .u32 (F l ((l.getD k 0).toNat) + cn (l.take k) ((l.getD k 0).toNat))) isAgg104 rfl (by rw [hb3.icell (by rw [tab12_len]; omega), tab12_get _ (by omega)]) ?_
   refine Wl_v (r_build (pl := #[(0, 1), (1, 1)]) (pv := [(0, .int .i64 (l.getD k 0)), (1, .int .u32 (F l ((l.getD k 0).toNat) + cn (l.take k) ((l.getD k 0).toNat)))]) (cs := #[.int .i64 (l.getD k 0), .int .u32 (F l ((l.getD k 0).toNat) + cn (l.take k) ((l.getD k 0).toNat))]) zeroValue106 underlying106 (fun w => by kernel_rfl) (by simp only [List.map_toArray, List.map_cons, List.map_nil] <;> rfl) (by kernel_rfl)) ?_
   refine Wl_v (r_idxor (i' := k) (o' := k * 2) underlying92 sizeOf106 rfl rfl (by omega) (by omega) rfl) ?_
   refine Wl_storer (i := k) (l.getD k 0, F l ((l.getD k 0).toNat) + cn (l.take k) ((l.getD k 0).toNat)) encC_len (by decide) (encC_one _) sizeOf106 rfl rfl rfl hO5 (by omega) ?_
   intro w8 hU8 hzz8 hO8
   clear hO5
   have hzw8 := hU8.size
   replace hb3 := hb3.upd1 hU8 (by omega)
   replace HL6 := HL6.trans1 hU8 (by show (B5 = B3 ∨ (B5 = B5)) ∨ w5.heap.size ≤ B5; omega)
   have hl_hO8 := rlen encC_len (by decide) hO8.sl
   have hc_hO8 := hO8.sl.cap.1
   refine Wl_nil (W_region ?_)
   refine Wmv (.int .i64 (l.getD k 0)) ?_
   refine Wl_v (r_idxa (len := 12) (i' := (l.getD k 0).toNat) (o' := (l.getD k 0).toNat) underlying175 sizeOf104 rfl rfl (by omega) (by omega) (by omega)) ?_
   refine Wl_loadc (v := .int .u32 (F l ((l.getD k 0).toNat) + cn (l.take k) ((l.getD k 0).toNat))) isAgg104 rfl (by rw [hb3.icell (by rw [tab12_len]; omega), tab12_get _ (by omega)]) ?_
   refine Wl_v (r_add rfl rfl (wu32 (by omega) (by omega))) ?_
   refine Wl_v (r_idxa (len := 12) (i' := (l.getD k 0).toNat) (o' := (l.getD k 0).toNat) underlying175 sizeOf104 rfl rfl (by omega) (by omega) (by omega)) ?_
   refine Wl_storei (i := (l.getD k 0).toNat) (l' := tab12 (fun x => if x = (l.getD k 0).toNat then (F l ((l.getD k 0).toNat) + cn (l.take k) ((l.getD k 0).toNat)) + 1 else F l x + cn (l.take k) x)) sizeOf104 rfl rfl hb3 (by rw [tab12_len]; omega) (tab12_set _ (by omega) _ _ (fun j hj => rfl)) ?_
   intro w9 hU9 hzz9 hb3n
   replace hb3 := hb3n; clear hb3n
   have hzw9 := hU9.size
   replace HL6 := HL6.trans1 hU9 (by show (B3 = B3 ∨ (B3 = B5)) ∨ w5.heap.size ≤ B3; omega)
   replace hO8 := hO8.upd1 hU9 (by intro h1; have h3 : B3 = B5 := h1; omega)
   refine Wl_nil (W_region ?_)
   refine Wl_v (r_add rfl rfl (wi64 (by omega) (by omega))) ?_
   refine Wmv (.int .i64 (((k : Nat) : Int) + 1)) ?_
   refine Wl_nil ?_
   refine ⟨_, ?_, (k + 1), rfl, rfl, ⟨rfl, rfl, rfl, rfl, (Eq.trans (b := .int .i64 (((k : Nat) : Int) + 1)) rfl (vint (by omega))), trivial⟩, (by omega), (hb3.icong (tab12_congr fun x hx => by rw [cn_take (by omega)]; by_cases hxx : x = (l.getD k 0).toNat; rw [if_pos hxx, if_pos ⟨by omega, by omega⟩, hxx]; omega; rw [if_neg hxx, if_neg (by omega)]; omega)), (hO8.rcong (tabn_set _ _ (by omega) _ (fun j hj => by by_cases h1 : j = k; rw [if_pos h1, if_pos (by omega), h1, cd, if_pos (by omega)]; rw [if_neg h1]; by_cases h2 : j < k; rw [if_pos h2, if_pos (by omega)]; rw [if_neg h2, if_neg (by omega)]))), HL6⟩
   omega
  rw [decide_eq_false q2]
  refine W_cond_f rfl ?_
  refine W_skip (W_region ?_)
  refine Wl_v (r_add rfl rfl (wi64 (by omega) (by omega))) ?_
  refine Wmv (.int .i64 (((k : Nat) : Int) + 1)) ?_
  refine Wl_nil ?_
  refine ⟨_, ?_, (k + 1), rfl, rfl, ⟨rfl, rfl, rfl, rfl, (Eq.trans (b := .int .i64 (((k : Nat) : Int) + 1)) rfl (vint (by omega))), trivial⟩, (by omega), (hb3.icong (tab12_congr fun x hx => by rw [cn_take (by omega), if_neg (by omega)]; omega)), (hO5.rcong (tabn_congr fun j hj => by by_cases h2 : j < k; rw [if_pos h2, if_pos (by omega)]; rw [if_neg h2]; by_cases h1 : j = k; rw [if_pos (by omega), h1, cd_zero (by omega)]; rw [if_neg (by omega)])), HL6⟩
  omega
 rw [decide_eq_false q1]
 refine W_cond_f rfl ?_
 refine W_exit ?_
 refine W_seq (W_region ?_)
 refine Wmv (.slice (some ⟨B5, 0, none⟩) n n) ?_
 refine Was (.slice (some ⟨B5, 0, none⟩) n n) ?_
 refine Wl_nil ?_
 refine W_ret ?_
 refine ret_end (v := .slice (some ⟨B5, 0, none⟩) n n) rfl (res1 results112 rfl) ?_
 exact ⟨_, rfl, (some ⟨B5, 0, none⟩), n, rfl, ((hO5.weak (by intro g hg; have h3 : g = B5 := hg; show w.heap.size ≤ g; omega)).rcong (by unfold cds; rw [show l.length = n from by omega]; exact tabn_congr fun j hj => if_pos (by omega))), HU⟩
theorem of_ok {a : Option Addr} {n c : Nat} {l : List Int} {R : Nat → Prop} (w : World) (hs : Sl w R 1 (.slice a n c) n (ints .i64 l)) (hn : n ≤ 17592186044415) (hr : Rt l) :
  Calls Tryz.prog 87 #[.slice a n c] w (Ret fun v w' => v = .agg #[.slice a n n] ∧ Sl w' R 1 (.slice a n n) n (ints .i64 l) ∧ Upd No w w') := by
 have HU := Upd.rno w
 have hl_hs := ilen hs
 have hc_hs := hs.cap.1
 replace hs := hs.tight
 have h256 := hr.2.1
 refine calls_of_W func87 rfl ntmps87 (by simp) ?_
 refine W_seq (W_region ?_)
 refine Wl_alloc (cs := [.slice none 0 0]) zeroValue129 rfl ?_
 intro B1 w1 hB1 hU1 hzz1 hb1
 have hzw1 := hU1.size
 replace hs := hs.upd0 hU1
 replace HU := HU.trans0 hU1
 refine Wl_nil (W_seq (W_region ?_))
 refine Wmv (.slice a n c) ?_
 refine Wl_call (r_call1 rfl call110 rfl) (right_spec _ hs (by omega)) ?_
 rintro v w2 ⟨rfl, hU2⟩
 have hzw2 := hU2.size
 replace hs := hs.upd0 hU2
 replace HU := HU.trans0 hU2
 replace hb1 := hb1.upd0 hU2
 have q1 : Rt l := hr
 rw [decide_eq_true q1]
 refine Wl_lit (pv := [(0, .bool true)]) (cs := [.bool true]) underlying117 sizeOf4 zeroValue4 (by decide) (by decide) (by simp only [List.map_toArray, List.map_cons, List.map_nil] <;> rfl) (by kernel_rfl) rfl (by decide) ?_
 intro B3 w3 hB3 hU3 hzz3 hs3
 have hzw3 := hU3.size
 replace hs := hs.upd0 hU3
 replace HU := HU.trans0 hU3
 replace hb1 := hb1.upd0 hU3
 replace hs3 : Own w3 (Is B3) 4 1 (.slice (some ⟨B3, 0, none⟩) 1 1) 1 (rows encB [true]) := hs3
 refine Wl_call (r_call2 rfl call109 rfl rfl) (must_ok _ hs3.sl (by omega) (by rfl)) ?_
 rintro v w4 ⟨rfl, hU4⟩
 have hzw4 := hU4.size
 replace hs := hs.upd0 hU4
 replace HU := HU.trans0 hU4
 replace hb1 := hb1.upd0 hU4
 refine Wl_nil (W_seq (W_region ?_))
 refine Wmv (.slice a n c) ?_
 refine Wmv (.slice a n c) ?_
 refine Wl_v (r_len underlying22 rfl) ?_
 refine Wmv (.slice a n c) ?_
 refine Wl_v (r_len underlying22 rfl) ?_
 refine Wl_v (r_slice3 (h' := n) (q' := n) underlying22 sizeOf3 rfl rfl rfl (by omega) (by omega) (by omega) (by omega)) ?_
 have hT5 := Sl.recap (q := n) hs (by omega) (by simp only [maxLen]; omega)
 have hl_hT5 := ilen hT5
 have hc_hT5 := hT5.cap.1
 refine Wl_v (r_build (pl := #[(0, 1)]) (pv := [(0, .slice a n n)]) (cs := #[.slice a n n]) zeroValue129 underlying129 (fun w => by kernel_rfl) (by simp only [List.map_toArray, List.map_cons, List.map_nil] <;> rfl) (by kernel_rfl)) ?_
 refine Wl_storea (off := 0) (vs := [.slice a n n]) (cs' := [.slice a n n]) sizeOf129 rfl rfl rfl (by simp only [List.mem_cons, List.not_mem_nil, or_false, forall_eq_or_imp, forall_eq]; exact rfl) hb1 (by simp) rfl ?_
 intro w6 hU6 hzz6 hb1n
 replace hb1 := hb1n; clear hb1n
 have hzw6 := hU6.size
 replace HU := HU.t1 hU6 (by omega)
 replace hT5 := hT5.upd1 hU6 (show ¬ (((R B1) ∧ B1 < w.heap.size)) by omega)
 refine Wl_nil ?_
 refine W_ret ?_
 refine ret_end (v := .agg #[.slice a n n]) rfl (rc1 results87 rfl (cellAgg isAgg129 sizeOf129 rfl hb1)) ?_
 exact ⟨_, rfl, rfl, (hT5.weak (by intro g hg; have h3 : ((R g) ∧ g < w.heap.size) := hg; exact h3.1)), HU⟩
theorem of_no {a : Option Addr} {n c : Nat} {l : List Int} {R : Nat → Prop} (w : World) (hs : Sl w R 1 (.slice a n c) n (ints .i64 l)) (hn : n ≤ 17592186044415) (hr : ¬ Rt l) :
  Calls Tryz.prog 87 #[.slice a n c] w (Pan (.iface 23 (.int .i64 12)) fun w' => Upd No w w') := by
 have HU := Upd.rno w
 have hl_hs := ilen hs
 have hc_hs := hs.cap.1
 replace hs := hs.tight
 refine calls_of_W func87 rfl ntmps87 (by simp) ?_
 refine W_seq (W_region ?_)
 refine Wl_alloc (cs := [.slice none 0 0]) zeroValue129 rfl ?_
 intro B1 w1 hB1 hU1 hzz1 hb1
 have hzw1 := hU1.size
 replace hs := hs.upd0 hU1
 replace HU := HU.trans0 hU1
 refine Wl_nil (W_seq (W_region ?_))
 refine Wmv (.slice a n c) ?_
 refine Wl_call (r_call1 rfl call110 rfl) (right_spec _ hs (by omega)) ?_
 rintro v w2 ⟨rfl, hU2⟩
 have hzw2 := hU2.size
 replace HU := HU.trans0 hU2
 have q1 : ¬ (Rt l) := hr
 rw [decide_eq_false q1]
 refine Wl_lit (pv := [(0, .bool false)]) (cs := [.bool false]) underlying117 sizeOf4 zeroValue4 (by decide) (by decide) (by simp only [List.map_toArray, List.map_cons, List.map_nil] <;> rfl) (by kernel_rfl) rfl (by decide) ?_
 intro B3 w3 hB3 hU3 hzz3 hs3
 have hzw3 := hU3.size
 replace HU := HU.trans0 hU3
 replace hs3 : Own w3 (Is B3) 4 1 (.slice (some ⟨B3, 0, none⟩) 1 1) 1 (rows encB [false]) := hs3
 refine Wl_callp (r_call2 rfl call109 rfl rfl) (must_no _ hs3.sl (by omega) (by rfl)) ?_
 intro w4 hU4
 have hzw4 := hU4.size
 replace HU := HU.trans0 hU4
 refine pan_ds rfl ?_
 refine lv_panic ?_
 exact ⟨rfl, HU⟩
theorem check_clr (w : World) : Calls Tryz.prog 86 #[] w (Ret fun v w1 => v = .tuple #[] ∧ True ∧ Upd (fun g => False) w w1) := by
 refine calls_of_W func86 rfl ntmps86 (by simp) ?_
 refine W_skip ?_
 refine nrm_end (v := .tuple #[]) rfl (res0 results86) ?_
 exact ⟨_, rfl, rfl, trivial, Upd.refl _ _⟩
theorem check_ok {a : Option Addr} {n c : Nat} {l : List Int} {R : Nat → Prop} (w : World) (hs : Sl w R 1 (.slice a n c) n (ints .i64 l)) (hn : n ≤ 17592186044415) (hr : Rt l) :
  Calls Tryz.prog 56 #[.slice a n c] w (Ret fun v w' => v = .int .i64 0 ∧ Upd No w w') := by
 have HU := Upd.rno w
 have hl_hs := ilen hs
 have hc_hs := hs.cap.1
 replace hs := hs.tight
 have h256 := hr.2.1
 refine calls_of_W func56 rfl ntmps56 (by simp) ?_
 refine W_seq (W_region ?_)
 refine Wl_alloc (cs := [.int .i64 0]) zeroValue23 rfl ?_
 intro B1 w1 hB1 hU1 hzz1 hb1
 have hzw1 := hU1.size
 replace hs := hs.upd0 hU1
 replace HU := HU.trans0 hU1
 refine Wl_nil (W_seq (W_region ?_))
 refine Wl_defer2 rfl rfl ?_
 refine Wl_nil (W_seq (W_region ?_))
 refine Wmv (.slice a n c) ?_
 refine Wl_call (r_call1 rfl call87 rfl) (of_ok _ hs (by omega) (by omega)) ?_
 rintro v w2 ⟨rfl, hS2, hU2⟩
 have hzw2 := hU2.size
 replace HU := HU.trans0 hU2
 replace hb1 := hb1.upd0 hU2
 have hl_hS2 := ilen hS2
 have hc_hS2 := hS2.cap.1
 refine Wl_nil (W_seq (W_region ?_))
 refine Wl_store (v := .int .i64 0) (cs' := [.int .i64 0]) sizeOf23 rfl rfl rfl rfl hb1 rfl rfl ?_
 intro w3 hU3 hzz3 hb1n
 replace hb1 := hb1n; clear hb1n
 have hzw3 := hU3.size
 replace HU := HU.t1 hU3 (by omega)
 refine Wl_nil ?_
 refine W_ret ?_
 refine ret_ds rfl ?_
 refine lv_call (by simp) call85 rfl (caught_ret _) ?_
 rintro e1 u1 w4 ⟨rfl, v1, rfl, rfl, hU4⟩
 have hzw4 := hU4.size
 replace HU := HU.trans0 hU4
 replace hb1 := hb1.upd0 hU4
 refine lv_nil (v := .int .i64 0) (rc1 results56 rfl (cellIs isAgg23 hb1)) ?_
 exact ⟨_, rfl, rfl, HU⟩
theorem check_no {a : Option Addr} {n c : Nat} {l : List Int} {R : Nat → Prop} (w : World) (hs : Sl w R 1 (.slice a n c) n (ints .i64 l)) (hn : n ≤ 17592186044415) (hr : ¬ Rt l) :
  Calls Tryz.prog 56 #[.slice a n c] w (Ret fun v w' => v = .int .i64 12 ∧ Upd No w w') := by
 have HU := Upd.rno w
 have hl_hs := ilen hs
 have hc_hs := hs.cap.1
 replace hs := hs.tight
 refine calls_of_W func56 rfl ntmps56 (by simp) ?_
 refine W_seq (W_region ?_)
 refine Wl_alloc (cs := [.int .i64 0]) zeroValue23 rfl ?_
 intro B1 w1 hB1 hU1 hzz1 hb1
 have hzw1 := hU1.size
 replace hs := hs.upd0 hU1
 replace HU := HU.trans0 hU1
 refine Wl_nil (W_seq (W_region ?_))
 refine Wl_defer2 rfl rfl ?_
 refine Wl_nil (W_seq (W_region ?_))
 refine Wmv (.slice a n c) ?_
 refine Wl_callp (r_call1 rfl call87 rfl) (of_no _ hs (by omega) (by omega)) ?_
 intro w2 hU2
 have hzw2 := hU2.size
 replace HU := HU.trans0 hU2
 replace hb1 := hb1.upd0 hU2
 refine pan_ds rfl ?_
 refine lv_call (by simp) call85 rfl (caught_pan (S := fun g => False) (Φ := fun w' => True) _ hb1 call86 (by show ¬ (False); first | omega | exact fun h => h) (check_clr _)) ?_
 rintro e1 u1 w3 ⟨rfl, v1, rfl, rfl, wq3, _, hUa3, hUb3, hbe3⟩
 have hzwq3 := hUa3.size
 replace HU := HU.trans0 hUa3
 have hzw3 := hUb3.size
 replace HU := HU.t1 hUb3 (by omega)
 refine lv_nil (v := .int .i64 12) (rc1 results56 rfl (cellIs isAgg23 hbe3)) ?_
 exact ⟨_, rfl, rfl, HU⟩
theorem codes_clr {b0 : Nat} {xb0 : Value} (w : World) (hbb0 : Blk w b0 [xb0]) :
  Calls Tryz.prog 111 #[.pointer (some ⟨b0, 0, none⟩)] w (Ret fun v w' => v = .tuple #[] ∧ Blk w' b0 [.slice none 0 0] ∧ Upd (fun g => g = b0) w w') := by
 have HU : Upd (fun b => b = b0) w w := Upd.refl _ _
 have hlb0 := hbb0.lt
 refine calls_of_W func111 rfl ntmps111 (by simp) ?_
 refine W_region ?_
 refine Wl_store (v := .slice none 0 0) (cs' := [.slice none 0 0]) sizeOf92 rfl rfl rfl rfl hbb0 rfl rfl ?_
 intro w1 hU1 hzz1 hbb0n
 replace hbb0 := hbb0n; clear hbb0n
 have hzw1 := hU1.size
 replace HU := HU.trans1 hU1 (by show (b0 = b0) ∨ w.heap.size ≤ b0; omega)
 refine Wl_nil ?_
 refine nrm_end (v := .tuple #[]) rfl (res0 results111) ?_
 exact ⟨_, rfl, rfl, hbb0, HU⟩
theorem codes_ok {a : Option Addr} {n c : Nat} {l : List Int} {R : Nat → Prop} (w : World) (hs : Sl w R 1 (.slice a n c) n (ints .i64 l)) (hn : n ≤ 17592186044415) (hr : Rt l) :
  Calls Tryz.prog 88 #[.slice a n c] w (Ret fun v w' => ∃ (a' : Option Addr) (c' : Nat), v = .tuple #[.slice a' n c', .int .i64 0] ∧ Own w' (fun g => w.heap.size ≤ g) 106 2 (.slice a' n c') n (rows encC (cds l)) ∧ Upd No w w') := by
 have HU := Upd.rno w
 have hl_hs := ilen hs
 have hc_hs := hs.cap.1
 replace hs := hs.tight
 have h256 := hr.2.1
 refine calls_of_W func88 rfl ntmps88 (by simp) ?_
 refine W_seq (W_region ?_)
 refine Wl_alloc (cs := [.slice none 0 0]) zeroValue92 rfl ?_
 intro B1 w1 hB1 hU1 hzz1 hb1
 have hzw1 := hU1.size
 replace hs := hs.upd0 hU1
 replace HU := HU.trans0 hU1
 refine Wl_alloc (cs := [.int .i64 0]) zeroValue23 rfl ?_
 intro B2 w2 hB2 hU2 hzz2 hb2
 have hzw2 := hU2.size
 replace hs := hs.upd0 hU2
 replace HU := HU.trans0 hU2
 replace hb1 := hb1.upd0 hU2
 refine Wl_nil (W_seq (W_region ?_))
 refine Wl_v (r_mkf1 (v0 := .pointer (some ⟨B1, 0, none⟩)) rfl) ?_
 refine Wl_defer2 rfl rfl ?_
 refine Wl_nil (W_seq (W_region ?_))
 refine Wmv (.slice a n c) ?_
 refine Wl_call (r_call1 rfl call87 rfl) (of_ok _ hs (by omega) (by omega)) ?_
 rintro v w3 ⟨rfl, hS3, hU3⟩
 have hzw3 := hU3.size
 replace HU := HU.trans0 hU3
 replace hb1 := hb1.upd0 hU3
 replace hb2 := hb2.upd0 hU3
 have hl_hS3 := ilen hS3
 have hc_hS3 := hS3.cap.1
 refine Wl_call (r_call1 rfl call112 rfl) (codes_spec _ hS3 (by omega) (by omega)) ?_
 rintro v w4 ⟨a4, c4, rfl, hO4, hU4⟩
 have hzw4 := hU4.size
 replace HU := HU.trans0 hU4
 replace hb1 := hb1.upd0 hU4
 replace hb2 := hb2.upd0 hU4
 replace hO4 := hO4.tight
 have hl_hO4 := rlen encC_len (by decide) hO4.sl
 have hc_hO4 := hO4.sl.cap.1
 refine Wl_store (v := .slice a4 n c4) (cs' := [.slice a4 n c4]) sizeOf92 rfl rfl rfl rfl hb1 rfl rfl ?_
 intro w5 hU5 hzz5 hb1n
 replace hb1 := hb1n; clear hb1n
 have hzw5 := hU5.size
 replace HU := HU.t1 hU5 (by omega)
 replace hb2 := hb2.upd1 hU5 (by omega)
 replace hO4 := hO4.upd1 hU5 (show ¬ (((w3.heap.size ≤ B1) ∧ B1 < w4.heap.size)) by omega)
 refine Wl_store (v := .int .i64 0) (cs' := [.int .i64 0]) sizeOf23 rfl rfl rfl rfl hb2 rfl rfl ?_
 intro w6 hU6 hzz6 hb2n
 replace hb2 := hb2n; clear hb2n
 have hzw6 := hU6.size
 replace HU := HU.t1 hU6 (by omega)
 replace hb1 := hb1.upd1 hU6 (by omega)
 replace hO4 := hO4.upd1 hU6 (show ¬ (((w3.heap.size ≤ B2) ∧ B2 < w4.heap.size)) by omega)
 refine Wl_nil ?_
 refine W_ret ?_
 refine ret_ds rfl ?_
 refine lv_call (by simp) call85 rfl (caught_ret _) ?_
 rintro e1 u1 w7 ⟨rfl, v1, rfl, rfl, hU7⟩
 have hzw7 := hU7.size
 replace HU := HU.trans0 hU7
 replace hb1 := hb1.upd0 hU7
 replace hb2 := hb2.upd0 hU7
 replace hO4 := hO4.upd0 hU7
 refine lv_nil (v := .tuple #[.slice a4 n c4, .int .i64 0]) (rc2 results88 rfl rfl (cellIs isAgg92 hb1) (cellIs isAgg23 hb2)) ?_
 exact ⟨_, rfl, a4, c4, rfl, (hO4.weak (by intro g hg; have h3 : ((w3.heap.size ≤ g) ∧ g < w4.heap.size) := hg; show w.heap.size ≤ g; omega)), HU⟩
theorem codes_no {a : Option Addr} {n c : Nat} {l : List Int} {R : Nat → Prop} (w : World) (hs : Sl w R 1 (.slice a n c) n (ints .i64 l)) (hn : n ≤ 17592186044415) (hr : ¬ Rt l) :
  Calls Tryz.prog 88 #[.slice a n c] w (Ret fun v w' => v = .tuple #[.slice none 0 0, .int .i64 12] ∧ Upd No w w') := by
 have HU := Upd.rno w
 have hl_hs := ilen hs
 have hc_hs := hs.cap.1
 replace hs := hs.tight
 refine calls_of_W func88 rfl ntmps88 (by simp) ?_
 refine W_seq (W_region ?_)
 refine Wl_alloc (cs := [.slice none 0 0]) zeroValue92 rfl ?_
 intro B1 w1 hB1 hU1 hzz1 hb1
 have hzw1 := hU1.size
 replace hs := hs.upd0 hU1
 replace HU := HU.trans0 hU1
 refine Wl_alloc (cs := [.int .i64 0]) zeroValue23 rfl ?_
 intro B2 w2 hB2 hU2 hzz2 hb2
 have hzw2 := hU2.size
 replace hs := hs.upd0 hU2
 replace HU := HU.trans0 hU2
 replace hb1 := hb1.upd0 hU2
 refine Wl_nil (W_seq (W_region ?_))
 refine Wl_v (r_mkf1 (v0 := .pointer (some ⟨B1, 0, none⟩)) rfl) ?_
 refine Wl_defer2 rfl rfl ?_
 refine Wl_nil (W_seq (W_region ?_))
 refine Wmv (.slice a n c) ?_
 refine Wl_callp (r_call1 rfl call87 rfl) (of_no _ hs (by omega) (by omega)) ?_
 intro w3 hU3
 have hzw3 := hU3.size
 replace HU := HU.trans0 hU3
 replace hb1 := hb1.upd0 hU3
 replace hb2 := hb2.upd0 hU3
 refine pan_ds rfl ?_
 refine lv_call (by simp) call85 rfl (caught_pan (S := fun g => g = B1) (Φ := fun w' => Blk w' B1 [.slice none 0 0]) _ hb2 call111 (by show ¬ (B2 = B1); first | omega | exact fun h => h) (codes_clr _ hb1)) ?_
 rintro e1 u1 w4 ⟨rfl, v1, rfl, rfl, wq4, hz4_0, hUa4, hUb4, hbe4⟩
 have hzwq4 := hUa4.size
 replace HU := HU.trans hUa4 (by intro x hx; have hx2 : x = B1 := hx; show (False) ∨ w.heap.size ≤ x; omega)
 have hzw4 := hUb4.size
 replace HU := HU.t1 hUb4 (by omega)
 replace hz4_0 := hz4_0.upd1 hUb4 (by omega)
 refine lv_nil (v := .tuple #[.slice none 0 0, .int .i64 12]) (rc2 results88 rfl rfl (cellIs isAgg92 hz4_0) (cellIs isAgg23 hbe4)) ?_
 exact ⟨_, rfl, rfl, HU⟩
theorem max_spec {a : Option Addr} {n c : Nat} {l : List Int} {R : Nat → Prop} (w : World) (hs : Sl w R 1 (.slice a n c) n (ints .i64 l)) (hn : n ≤ 17592186044415) (hB : Bd l) (hp : 0 < n) :
  Calls Tryz.prog 152 #[.slice a n c] w (Ret fun v w' => v = .int .i64 (mx l) ∧ Upd No w w') := by
 have HU := Upd.rno w
 have hl_hs := ilen hs
 have hc_hs := hs.cap.1
 replace hs := hs.tight
 refine calls_of_W func152 rfl ntmps152 (by simp) ?_
 refine W_seq (W_region ?_)
 refine Was (.int .i64 0) ?_
 refine Wl_nil (W_seq (W_seq (W_region ?_)))
 refine Wmv (.slice a n c) ?_
 refine Wl_v (r_len underlying127 rfl) ?_
 refine Wl_v (r_lt rfl rfl) ?_
 refine Wl_nil ?_
 have q1 : ¬ (((n : Nat) : Int) < 1) := (by omega)
 rw [decide_eq_false q1]
 refine W_cond_f rfl ?_
 refine W_skip (W_seq (W_region ?_))
 refine Wmv (.slice a n c) ?_
 refine Wl_idxi underlying127 sizeOf3 rfl rfl hs (by omega) (by omega) ?_
 intro ib1 io1 hc1
 rw [show (0 : Int).toNat = 0 from rfl] at hc1
 refine Wl_loadc isAgg3 rfl hc1 ?_
 refine Was (.int .i64 (l.getD 0 0)) ?_
 refine Wl_nil (W_seq (W_seq (W_region ?_)))
 refine Was (.int .i64 1) ?_
 refine Wl_nil (W_block ?_)
 refine W_loop (fun mu ρ ds w' => ∃ (k : Nat), n - k = mu ∧ ds = [] ∧ Liv ρ [(0, .slice a n c), (3, .int .i64 (mx (l.take k))), (4, .int .i64 ((k : Nat) : Int))] ∧ 1 ≤ k ∧ k ≤ n ∧ Upd No w w') _ ⟨1, rfl, rfl, ⟨rfl, (Eq.trans (b := .int .i64 (l.getD 0 0)) rfl (vint (by rw [show (1 : Nat) = 0 + 1 from rfl, mx_take hB (by omega)]; have := hB.gd 0; simp only [List.take_zero, mx]; omega))), (by first | rfl | exact vint (by omega) | exact vint (by simp)), trivial⟩, (by omega), (by omega), Upd.refl _ _⟩ ?_
 rintro m2 ρ2 ds2 w2 ⟨k, rfl, rfl, hl2, hk1, hk, hU2⟩
 obtain ⟨ρ2x, rfl⟩ : ∃ ρx, ρ2 = upds ρx [(0, .slice a n c), (3, .int .i64 (mx (l.take k))), (4, .int .i64 ((k : Nat) : Int))] := ⟨_, upds_self hl2⟩
 clear hl2
 have hzw2 := hU2.size
 replace hs := hs.upd0 hU2
 replace HU := HU.trans0 hU2
 have HL2 := hU2
 refine W_seq (W_seq (W_region ?_))
 refine Wmv (.int .i64 ((k : Nat) : Int)) ?_
 refine Wmv (.slice a n c) ?_
 refine Wl_v (r_len underlying127 rfl) ?_
 refine Wl_v (r_lt rfl rfl) ?_
 refine Wl_nil ?_
 by_cases q2 : ((k : Nat) : Int) < ((n : Nat) : Int)
 ·rw [decide_eq_true q2]
  refine W_cond_t rfl ?_
  refine W_skip (W_seq (W_block (W_region ?_)))
  refine Wmv (.int .i64 (mx (l.take k))) ?_
  refine Wmv (.slice a n c) ?_
  refine Wmv (.int .i64 ((k : Nat) : Int)) ?_
  refine Wl_idxi underlying127 sizeOf3 rfl rfl hs (by omega) (by omega) ?_
  intro ib3 io3 hc3
  rw [Int.toNat_natCast] at hc3
  refine Wl_loadc isAgg3 rfl hc3 ?_
  refine Wl_v (r_max rfl rfl) ?_
  refine Was (.int .i64 (max (mx (l.take k)) (l.getD k 0))) ?_
  refine Wl_nil (W_region ?_)
  refine Wmv (.int .i64 ((k : Nat) : Int)) ?_
  refine Wl_v (r_add rfl rfl (wi64 (by omega) (by omega))) ?_
  refine Was (.int .i64 (((k : Nat) : Int) + 1)) ?_
  refine Wl_nil ?_
  refine ⟨_, ?_, (k + 1), rfl, rfl, ⟨rfl, (Eq.trans (b := .int .i64 (max (mx (l.take k)) (l.getD k 0))) rfl (vint (mx_take hB (by omega)).symm)), (Eq.trans (b := .int .i64 (((k : Nat) : Int) + 1)) rfl (vint (by omega))), trivial⟩, (by omega), (by omega), HL2⟩
  omega
 rw [decide_eq_false q2]
 refine W_cond_f rfl ?_
 refine W_exit ?_
 refine W_seq (W_region ?_)
 refine Wmv (.int .i64 (mx (l.take k))) ?_
 refine Was (.int .i64 (mx (l.take k))) ?_
 refine Wl_nil ?_
 refine W_ret ?_
 refine ret_end (v := .int .i64 (mx (l.take k))) rfl (res1 results152 rfl) ?_
 exact ⟨_, rfl, (vint (by rw [show l.take k = l from List.take_of_length_le (by omega)])), HU⟩
theorem mlen_ok {a : Option Addr} {n c : Nat} {l : List Int} {R : Nat → Prop} (w : World) (hs : Sl w R 1 (.slice a n c) n (ints .i64 l)) (hn : n ≤ 17592186044415) (hr : Rt l) :
  Calls Tryz.prog 139 #[.slice a n c] w (Ret fun v w' => v = .tuple #[.int .i64 (mx l), .int .i64 0] ∧ Upd No w w') := by
 have HU := Upd.rno w
 have hl_hs := ilen hs
 have hc_hs := hs.cap.1
 replace hs := hs.tight
 have h256 := hr.2.1
 refine calls_of_W func139 rfl ntmps139 (by simp) ?_
 refine W_seq (W_region ?_)
 refine Wl_alloc (cs := [.int .i64 0]) zeroValue3 rfl ?_
 intro B1 w1 hB1 hU1 hzz1 hb1
 have hzw1 := hU1.size
 replace hs := hs.upd0 hU1
 replace HU := HU.trans0 hU1
 refine Wl_alloc (cs := [.int .i64 0]) zeroValue23 rfl ?_
 intro B2 w2 hB2 hU2 hzz2 hb2
 have hzw2 := hU2.size
 replace hs := hs.upd0 hU2
 replace HU := HU.trans0 hU2
 replace hb1 := hb1.upd0 hU2
 refine Wl_nil (W_seq (W_region ?_))
 refine Wl_v (r_mkf1 (v0 := .pointer (some ⟨B1, 0, none⟩)) rfl) ?_
 refine Wl_defer2 rfl rfl ?_
 refine Wl_nil (W_seq (W_region ?_))
 refine Wmv (.slice a n c) ?_
 refine Wl_call (r_call1 rfl call87 rfl) (of_ok _ hs (by omega) (by omega)) ?_
 rintro v w3 ⟨rfl, hS3, hU3⟩
 have hzw3 := hU3.size
 replace HU := HU.trans0 hU3
 replace hb1 := hb1.upd0 hU3
 replace hb2 := hb2.upd0 hU3
 have hl_hS3 := ilen hS3
 have hc_hS3 := hS3.cap.1
 refine Wl_v (r_field underlying129 rfl isAgg127 rfl rfl) ?_
 refine Wl_call (r_call1 rfl call152 rfl) (max_spec _ hS3 (by omega) hr.1 (by have := hr.pos; omega)) ?_
 rintro v w4 ⟨rfl, hU4⟩
 have hzw4 := hU4.size
 replace HU := HU.trans0 hU4
 replace hb1 := hb1.upd0 hU4
 replace hb2 := hb2.upd0 hU4
 refine Wl_store (v := .int .i64 (mx l)) (cs' := [.int .i64 (mx l)]) sizeOf3 rfl rfl rfl rfl hb1 rfl rfl ?_
 intro w5 hU5 hzz5 hb1n
 replace hb1 := hb1n; clear hb1n
 have hzw5 := hU5.size
 replace HU := HU.t1 hU5 (by omega)
 replace hb2 := hb2.upd1 hU5 (by omega)
 refine Wl_store (v := .int .i64 0) (cs' := [.int .i64 0]) sizeOf23 rfl rfl rfl rfl hb2 rfl rfl ?_
 intro w6 hU6 hzz6 hb2n
 replace hb2 := hb2n; clear hb2n
 have hzw6 := hU6.size
 replace HU := HU.t1 hU6 (by omega)
 replace hb1 := hb1.upd1 hU6 (by omega)
 refine Wl_nil ?_
 refine W_ret ?_
 refine ret_ds rfl ?_
 refine lv_call (by simp) call85 rfl (caught_ret _) ?_
 rintro e1 u1 w7 ⟨rfl, v1, rfl, rfl, hU7⟩
 have hzw7 := hU7.size
 replace HU := HU.trans0 hU7
 replace hb1 := hb1.upd0 hU7
 replace hb2 := hb2.upd0 hU7
 refine lv_nil (v := .tuple #[.int .i64 (mx l), .int .i64 0]) (rc2 results139 rfl rfl (cellIs isAgg3 hb1) (cellIs isAgg23 hb2)) ?_
 exact ⟨_, rfl, rfl, HU⟩
theorem cds_bd {l : List Int} (h : Rt l) (i : Nat) : 0 ≤ ((cds l).getD i (0, 0)).2 ∧ ((cds l).getD i (0, 0)).2 < 4294967296 := by
 rcases Nat.lt_or_ge i (cds l).length with h1 | h1
 ·rw [cds_len] at h1
  rw [cds_get h1]
  by_cases h2 : 0 < l.getD i 0
  ·have := cd_bd h h1 h2; omega
  rw [cd_zero h2]; simp
 rw [List.getD_eq_getElem?_getD, List.getElem?_eq_none h1]; simp
theorem order_spec {a : Option Addr} {n c : Nat} {l : List Int} {R : Nat → Prop} (w : World) (hs : Sl w R 1 (.slice a n c) n (ints .i64 l)) (hn : n ≤ 400) :
  Calls Tryz.prog 98 #[.slice a n c] w (Ret fun v w' => ∃ (a' : Option Addr) (m' : Nat) (c' : Nat), v = .slice a' m' c' ∧ Own w' (fun g => w.heap.size ≤ g) 3 1 (.slice a' m' c') m' (ints .i64 (ord l)) ∧ Upd No w w') := by
 have HU := Upd.rno w
 have hl_hs := ilen hs
 have hc_hs := hs.cap.1
 replace hs := hs.tight
 refine calls_of_W func98 rfl ntmps98 (by simp) ?_
 refine W_seq (W_region ?_)
 refine Was (.slice none 0 0) ?_
 refine Wl_nil (W_seq (W_region ?_))
 refine Was (.slice none 0 0) ?_
 refine Wl_nil (W_seq (W_seq (W_region ?_)))
 refine Was (.int .i64 1) ?_
 refine Wl_nil (W_block ?_)
 refine W_loop (fun mu ρ ds w' => ∃ (q : Nat) (a2 : Option Addr) (m c2 : Nat), 11 - q = mu ∧ ds = [] ∧ Liv ρ [(0, .slice a n c), (3, .slice a2 m c2), (4, .int .i64 ((q + 1 : Nat) : Int))] ∧ q ≤ 11 ∧ Own w' (fun g => w.heap.size ≤ g) 3 1 (.slice a2 m c2) m (ints .i64 (ordU l q)) ∧ Upd (fun g => w.heap.size ≤ g) w w') _ ⟨0, none, 0, 0, rfl, rfl, ⟨rfl, (by first | rfl | exact vint (by omega) | exact vint (by simp)), (by first | rfl | exact vint (by omega) | exact vint (by simp)), trivial⟩, (by omega), (Own.nil _ _ _ _), Upd.refl _ _⟩ ?_
 rintro m1 ρ1 ds1 w1 ⟨q, a2, m, c2, rfl, rfl, hl1, hq, hO, hU1⟩
 obtain ⟨ρ1x, rfl⟩ : ∃ ρx, ρ1 = upds ρx [(0, .slice a n c), (3, .slice a2 m c2), (4, .int .i64 ((q + 1 : Nat) : Int))] := ⟨_, upds_self hl1⟩
 clear hl1
 have hzw1 := hU1.size
 replace hs := hs.upd hU1 (by intro x h1 h2; have h3 : ((R x) ∧ x < w.heap.size) := h1; have h4 : w.heap.size ≤ x := h2; omega)
 replace HU := HU.trans hU1 (by intro x hx; have hx2 : w.heap.size ≤ x := hx; show (False) ∨ w.heap.size ≤ x; omega)
 have HL1 := hU1
 refine W_seq (W_seq (W_region ?_))
 refine Wmv (.int .i64 ((q + 1 : Nat) : Int)) ?_
 refine Wl_v (r_le rfl rfl) ?_
 refine Wl_nil ?_
 by_cases q1 : ((q + 1 : Nat) : Int) ≤ 11
 ·rw [decide_eq_true q1]
  refine W_cond_t rfl ?_
  refine W_skip (W_seq (W_block (W_seq (W_region ?_))))
  refine Was (.int .i64 0) ?_
  refine Wl_nil (W_block ?_)
  have hou := ordU_len l q (by omega)
  refine W_loop (fun mu ρ ds w' => ∃ (k : Nat) (a3 : Option Addr) (m3 c3 : Nat), n - k = mu ∧ ds = [] ∧ Liv ρ [(0, .slice a n c), (3, .slice a3 m3 c3), (4, .int .i64 ((q + 1 : Nat) : Int)), (5, .int .i64 ((k : Nat) : Int))] ∧ k ≤ n ∧ Own w' (fun g => w.heap.size ≤ g) 3 1 (.slice a3 m3 c3) m3 (ints .i64 (ordU l q ++ blk l (q + 1) k)) ∧ Upd (fun g => w.heap.size ≤ g) w1 w') _ ⟨0, a2, m, c2, rfl, rfl, ⟨rfl, (by first | rfl | exact vint (by omega) | exact vint (by simp)), rfl, (by first | rfl | exact vint (by omega) | exact vint (by simp)), trivial⟩, (by omega), (hO.icong (by simp [blk])), Upd.refl _ _⟩ ?_
  rintro m2 ρ2 ds2 w2 ⟨k, a3, m3, c3, rfl, rfl, hl2, hk, hO3, hU2⟩
  obtain ⟨ρ2x, rfl⟩ : ∃ ρx, ρ2 = upds ρx [(0, .slice a n c), (3, .slice a3 m3 c3), (4, .int .i64 ((q + 1 : Nat) : Int)), (5, .int .i64 ((k : Nat) : Int))] := ⟨_, upds_self hl2⟩
  clear hl2
  have hzw2 := hU2.size
  replace hs := hs.upd hU2 (by intro x h1 h2; have h3 : ((R x) ∧ x < w.heap.size) := h1; have h4 : w.heap.size ≤ x := h2; omega)
  replace HL1 := HL1.trans hU2 (by intro x hx; have hx2 : w.heap.size ≤ x := hx; show (w.heap.size ≤ x) ∨ w.heap.size ≤ x; omega)
  have HL2 := hU2
  refine W_seq (W_seq (W_region ?_))
  refine Wmv (.int .i64 ((k : Nat) : Int)) ?_
  refine Wmv (.slice a n c) ?_
  refine Wl_v (r_len underlying22 rfl) ?_
  refine Wl_v (r_lt rfl rfl) ?_
  refine Wl_nil ?_
  by_cases q2 : ((k : Nat) : Int) < ((n : Nat) : Int)
  ·replace hO3 := hO3.tight
   have hbl := blk_len (l := l) (n := q + 1) (by omega) (i := k) (by omega)
   have hcl := cn_le (l.take k) (q + 1)
   rw [List.length_take] at hcl
   have hl3 := ilen hO3.sl
   rw [List.length_append] at hl3
   have hqq : q * l.length ≤ 11 * l.length := Nat.mul_le_mul_right _ (by omega)
   rw [decide_eq_true q2]
   refine W_cond_t rfl ?_
   refine W_skip (W_seq (W_block (W_seq (W_region ?_))))
   refine Wmv (.slice a n c) ?_
   refine Wmv (.int .i64 ((k : Nat) : Int)) ?_
   refine Wl_idxi underlying22 sizeOf3 rfl rfl hs (by omega) (by omega) ?_
   intro ib3 io3 hc3
   rw [Int.toNat_natCast] at hc3
   refine Wl_loadc isAgg3 rfl hc3 ?_
   refine Wmv (.int .i64 ((q + 1 : Nat) : Int)) ?_
   refine Wl_v (r_eq rfl rfl) ?_
   refine Wl_nil ?_
   by_cases q3 : (l.getD k 0) = ((q + 1 : Nat) : Int)
   ·rw [decide_eq_true q3]
    refine W_cond_t rfl ?_
    refine W_region ?_
    refine Wmv (.slice a3 m3 c3) ?_
    refine Wmv (.int .i64 ((k : Nat) : Int)) ?_
    refine Wl_lit (pv := [(0, .int .i64 ((k : Nat) : Int))]) (cs := [.int .i64 ((k : Nat) : Int)]) underlying22 sizeOf3 zeroValue3 (by decide) (by decide) (by simp only [List.map_toArray, List.map_cons, List.map_nil] <;> rfl) (by kernel_rfl) rfl (by decide) ?_
    intro B4 w4 hB4 hU4 hzz4 hs4
    have hzw4 := hU4.size
    replace hO3 := hO3.upd0 hU4
    replace HL2 := HL2.trans0 hU4
    replace hs4 : Own w4 (Is B4) 3 1 (.slice (some ⟨B4, 0, none⟩) 1 1) 1 (ints .i64 [((k : Nat) : Int)]) := hs4
    refine Wl_appendi (xs := ordU l q ++ blk l (q + 1) k) (ys := [((k : Nat) : Int)]) (zs := ordU l q ++ blk l (q + 1) k ++ [((k : Nat) : Int)]) (k' := .i64) (tot := m3 + 1) (by first | rfl | exact (rows_app _ _).symm | simp) underlying22 (ti := Tryz.t3) (z := .int .i64 0) (sz := 1) (by' := 8) rfl rfl rfl rfl rfl (by decide) rfl hO3 rfl hs4.sl  (by omega) (by simp only [maxLen]; omega) (by omega) ?_
    intro a5 c5 w5 hU5 hzz5 hO5
    clear hO3
    have hzw5 := hU5.size
    replace HL2 := HL2.trans hU5 (by intro x hx; have hx2 : ((w.heap.size ≤ x) ∧ x < w2.heap.size) := hx; show (w.heap.size ≤ x) ∨ w1.heap.size ≤ x; omega)
    replace hO5 := hO5.tight
    have hl_hO5 := ilen hO5.sl
    have hc_hO5 := hO5.sl.cap.1
    refine Was (.slice a5 (m3 + 1) c5) ?_
    refine Wl_nil (W_region ?_)
    refine Wmv (.int .i64 ((k : Nat) : Int)) ?_
    refine Wl_v (r_add rfl rfl (wi64 (by omega) (by omega))) ?_
    refine Was (.int .i64 (((k : Nat) : Int) + 1)) ?_
    refine Wl_nil ?_
    refine ⟨_, ?_, (k + 1), a5, m3 + 1, c5, rfl, rfl, ⟨rfl, (by first | rfl | exact vint (by omega) | exact vint (by simp)), rfl, (Eq.trans (b := .int .i64 (((k : Nat) : Int) + 1)) rfl (vint (by omega))), trivial⟩, (by omega), ((hO5.weak (by intro g hg; have h3 : ((((((w.heap.size ≤ g) ∧ g < w2.heap.size)) ∨ g = w4.heap.size)) ∧ g < w5.heap.size) := hg; show _ ≤ _; omega)).icong (by rw [blk, if_pos q3, List.append_assoc])), HL2⟩
    omega
   rw [decide_eq_false q3]
   refine W_cond_f rfl ?_
   refine W_skip (W_region ?_)
   refine Wmv (.int .i64 ((k : Nat) : Int)) ?_
   refine Wl_v (r_add rfl rfl (wi64 (by omega) (by omega))) ?_
   refine Was (.int .i64 (((k : Nat) : Int) + 1)) ?_
   refine Wl_nil ?_
   refine ⟨_, ?_, (k + 1), a3, m3, c3, rfl, rfl, ⟨rfl, (by first | rfl | exact vint (by omega) | exact vint (by simp)), rfl, (Eq.trans (b := .int .i64 (((k : Nat) : Int) + 1)) rfl (vint (by omega))), trivial⟩, (by omega), ((hO3.weak (by intro g hg; have h3 : ((w.heap.size ≤ g) ∧ g < w2.heap.size) := hg; show _ ≤ _; omega)).icong (by rw [blk, if_neg q3, List.append_nil])), HL2⟩
   omega
  rw [decide_eq_false q2]
  refine W_cond_f rfl ?_
  refine W_exit ?_
  refine W_region ?_
  refine Wmv (.int .i64 ((q + 1 : Nat) : Int)) ?_
  refine Wl_v (r_add rfl rfl (wi64 (by omega) (by omega))) ?_
  refine Was (.int .i64 (((q + 1 : Nat) : Int) + 1)) ?_
  refine Wl_nil ?_
  refine ⟨_, ?_, (q + 1), a3, m3, c3, rfl, rfl, ⟨rfl, (by first | rfl | exact vint (by omega) | exact vint (by simp)), (Eq.trans (b := .int .i64 (((q + 1 : Nat) : Int) + 1)) rfl (vint (by omega))), trivial⟩, (by omega), ((hO3.weak (by intro g hg; have h3 : w.heap.size ≤ g := hg; show _ ≤ _; omega)).icong (by rw [ordU, show k = l.length from by omega])), HL1⟩
  omega
 have hq11 : q = 11 := by omega
 rw [decide_eq_false q1]
 refine W_cond_f rfl ?_
 refine W_exit ?_
 refine W_seq (W_region ?_)
 refine Wmv (.slice a2 m c2) ?_
 refine Was (.slice a2 m c2) ?_
 refine Wl_nil ?_
 refine W_ret ?_
 refine ret_end (v := .slice a2 m c2) rfl (res1 results98 rfl) ?_
 exact ⟨_, rfl, a2, m, c2, rfl, (hO.icong (by rw [hq11]; rfl)), HU⟩
theorem rcodes_ok {a : Option Addr} {n c : Nat} {l : List Int} {R : Nat → Prop} (w : World) (hs : Sl w R 1 (.slice a n c) n (ints .i64 l)) (hn : n ≤ 17592186044415) (hr : Rt l) :
  Calls Tryz.prog 75 #[.slice a n c] w (Ret fun v w' => ∃ (a' : Option Addr) (c' : Nat), v = .tuple #[.slice a' n c', .int .i64 0] ∧ Own w' (fun g => w.heap.size ≤ g) 106 2 (.slice a' n c') n (rows encC (cds l)) ∧ Upd No w w') := by
 have HU := Upd.rno w
 have hl_hs := ilen hs
 have hc_hs := hs.cap.1
 replace hs := hs.tight
 have h256 := hr.2.1
 refine calls_of_W func75 rfl ntmps75 (by simp) ?_
 refine W_seq (W_region ?_)
 refine Was (.slice none 0 0) ?_
 refine Was (.int .i64 0) ?_
 refine Wl_nil (W_seq (W_seq (W_region ?_)))
 refine Wmv (.slice a n c) ?_
 refine Wl_call (r_call1 rfl call28 rfl) (rright_spec _ hs (by omega)) ?_
 rintro v w1 ⟨rfl, hU1⟩
 have hzw1 := hU1.size
 replace hs := hs.upd0 hU1
 replace HU := HU.trans0 hU1
 refine Wl_v (r_not rfl) ?_
 refine Wl_nil ?_
 have q1 : Rt l := hr
 rw [decide_eq_true q1]
 simp only [Bool.not_true, Bool.not_false]
 refine W_cond_f rfl ?_
 refine W_skip (W_seq (W_region ?_))
 refine Wmv (.slice a n c) ?_
 refine Wl_v (r_len underlying22 rfl) ?_
 refine Wl_makeo (c' := n) (zc := [.int .i64 0, .int .u32 0]) (cs := rows encC (List.replicate n (0, 0))) (sz := 2) underlying92 (ti := Tryz.t106) (z := .agg #[.int .i64 0, .int .u32 0]) rfl rfl rfl rfl (by decide) rfl rfl (by omega) (by omega) (by show 16 * _ ≤ _; omega) (by simp only [maxLen]; omega) (rows_rep (enc := encC) (0, 0) _) rfl ?_
 intro B2 w2 hB2 hU2 hzz2 hO2
 have hzw2 := hU2.size
 replace hs := hs.upd0 hU2
 replace HU := HU.trans0 hU2
 have hl_hO2 := rlen encC_len (by decide) hO2.sl
 have hc_hO2 := hO2.sl.cap.1
 refine Was (.slice (some ⟨B2, 0, none⟩) n n) ?_
 refine Wl_nil (W_seq (W_region ?_))
 refine Wmv (.slice a n c) ?_
 refine Wl_call (r_call1 rfl call98 rfl) (order_spec _ hs (by omega)) ?_
 rintro v w3 ⟨a3, m3, c3, rfl, hO3, hU3⟩
 have hzw3 := hU3.size
 replace hs := hs.upd0 hU3
 replace HU := HU.trans0 hU3
 replace hO2 := hO2.upd0 hU3
 replace hO3 := hO3.tight
 have hl_hO3 := ilen hO3.sl
 have hc_hO3 := hO3.sl.cap.1
 have hop := ord_pos hr
 have hol := ord_len l
 obtain ⟨j0, hj0, hj0n, hj0p, hj0b⟩ := ord_at hop
 obtain ⟨hst0, hF0, _⟩ := st_first hop hj0
 refine Was (.slice a3 m3 c3) ?_
 refine Wl_nil (W_seq ?_)
 refine W_drawt rfl (l0 := tf 0 8) (by kernel_rfl) ?_
 refine Tk 0 (tf 1 8) rfl (YI_v (v := .slice a n c) rfl (fun w' hw' => r_mv (v := .slice a n c) rfl)) ?_
 refine Tk 1 (tf 2 8) rfl (YI_v (v := .slice a3 m3 c3) rfl (fun w' hw' => r_mv (v := .slice a3 m3 c3) rfl)) ?_
 obtain ⟨ib4, io4, ha4, hib4, hc4⟩ := (hO3.sl).iat (i := 0) (by omega)
 replace hib4 : ((w2.heap.size ≤ ib4) ∧ ib4 < w3.heap.size) := hib4
 refine Tk 2 (tf 3 8) rfl (YI_v (v := .pointer (some ⟨ib4, io4 + 0, none⟩)) rfl (fun w' hw' => r_idx (b := ib4) (off := io4) (m := m3) (c := c3) (o' := io4 + 0) underlying22 sizeOf3 (by rw [← ha4]; rfl) rfl (by omega) (by omega) (by omega))) ?_
 refine Tk 3 (tf 4 8) rfl (YI_v (v := .int .i64 ((ord l).getD 0 0)) rfl (fun w' hw' => r_load isAgg3 rfl (hw'.cellk hc4))) ?_
 obtain ⟨ib5, io5, ha5, hib5, hc5⟩ := (hs).iat (i := ((ord l).getD 0 0).toNat) (by omega)
 replace hib5 : ((R ib5) ∧ ib5 < w.heap.size) := hib5
 refine Tk 4 (tf 5 8) rfl (YI_v (v := .pointer (some ⟨ib5, io5 + ((ord l).getD 0 0).toNat, none⟩)) rfl (fun w' hw' => r_idx (b := ib5) (off := io5) (m := n) (c := c) (o' := io5 + ((ord l).getD 0 0).toNat) underlying22 sizeOf3 (by rw [← ha5]; rfl) rfl (by omega) (by omega) (by omega))) ?_
 refine Tk 5 (tf 6 8) rfl (YI_v (v := .int .i64 (l.getD ((ord l).getD 0 0).toNat 0)) rfl (fun w' hw' => r_load isAgg3 rfl (hw'.cellk hc5))) ?_
 refine Tk 6 (tf 7 8) rfl (YI_v (v := .int .u32 0) rfl (fun w' hw' => r_as (v := .int .u32 0) rfl)) ?_
 refine Tk 7 (tf 8 8) rfl (YI_v (v := .int .i64 (l.getD ((ord l).getD 0 0).toNat 0)) rfl (fun w' hw' => r_as (v := .int .i64 (l.getD ((ord l).getD 0 0).toNat 0)) rfl)) ?_
 intro w6 hU6
 have hzw6 := hU6.size
 replace hs := hs.upd0 hU6
 replace HU := HU.trans0 hU6
 replace hO2 := hO2.upd0 hU6
 replace hO3 := hO3.upd0 hU6
 replace hc4 := cell_upd0 hU6 hc4
 replace hc5 := cell_upd0 hU6 hc5
 refine Wa_done (by kernel_rfl) ?_
 refine W_seq (W_seq (W_region ?_))
 refine Was (.int .i64 0) ?_
 refine Wl_nil (W_block ?_)
 refine W_loop (fun mu ρ ds w' => ∃ (k nn r : Nat), m3 - k = mu ∧ ds = [] ∧ Liv ρ [(0, .slice a n c), (4, .slice (some ⟨B2, 0, none⟩) n n), (5, .slice a3 m3 c3), (6, .int .u32 (F l nn + ((r : Nat) : Int))), (7, .int .i64 ((nn : Nat) : Int)), (8, .int .i64 ((k : Nat) : Int))] ∧ k ≤ m3 ∧ St l k nn r ∧ Own w' (fun g => g = B2) 106 2 (.slice (some ⟨B2, 0, none⟩) n n) n (rows encC (tabn n (outS l k))) ∧ Upd (fun g => g = B2) w6 w') _ ⟨0, (l.getD j0 0).toNat, 0, rfl, rfl, ⟨rfl, rfl, rfl, (Eq.trans (b := .int .u32 0) rfl (vint (by rw [hF0]; rfl))), (Eq.trans (b := .int .i64 (l.getD ((ord l).getD 0 0).toNat 0)) rfl (vint (by rw [show ((ord l).getD 0 0).toNat = j0 from by omega]; omega))), (by first | rfl | exact vint (by omega) | exact vint (by simp)), trivial⟩, (by omega), hst0, (hO2.rcong (by rw [tabn_rep]; exact tabn_congr fun j hj => (outS_zero l j).symm)), Upd.refl _ _⟩ ?_
 rintro m7 ρ7 ds7 w7 ⟨k, nn, r, rfl, rfl, hl7, hk, hst, hO2, hU7⟩
 obtain ⟨ρ7x, rfl⟩ : ∃ ρx, ρ7 = upds ρx [(0, .slice a n c), (4, .slice (some ⟨B2, 0, none⟩) n n), (5, .slice a3 m3 c3), (6, .int .u32 (F l nn + ((r : Nat) : Int))), (7, .int .i64 ((nn : Nat) : Int)), (8, .int .i64 ((k : Nat) : Int))] := ⟨_, upds_self hl7⟩
 clear hl7
 have hzw7 := hU7.size
 replace hs := hs.upd hU7 (by intro x h1 h2; have h3 : ((R x) ∧ x < w.heap.size) := h1; have h4 : x = B2 := h2; omega)
 replace HU := HU.trans hU7 (by intro x hx; have hx2 : x = B2 := hx; show (False) ∨ w.heap.size ≤ x; omega)
 replace hO3 := hO3.upd hU7 (by intro x h1 h2; have h3 : ((w2.heap.size ≤ x) ∧ x < w3.heap.size) := h1; have h4 : x = B2 := h2; omega)
 have HL7 := hU7
 refine W_seq (W_seq (W_region ?_))
 refine Wmv (.int .i64 ((k : Nat) : Int)) ?_
 refine Wmv (.slice a3 m3 c3) ?_
 refine Wl_v (r_len underlying22 rfl) ?_
 refine Wl_v (r_lt rfl rfl) ?_
 refine Wl_nil ?_
 by_cases q2 : ((k : Nat) : Int) < ((m3 : Nat) : Int)
 ·obtain ⟨j, hj, hjn, hjge, hjle⟩ := hst.head (by omega)
  rw [decide_eq_true q2]
  refine W_cond_t rfl ?_
  refine W_skip (W_seq (W_block (W_seq (W_region ?_))))
  refine Wmv (.slice a3 m3 c3) ?_
  refine Wmv (.int .i64 ((k : Nat) : Int)) ?_
  refine Wl_idxi underlying22 sizeOf3 rfl rfl hO3.sl (by omega) (by omega) ?_
  intro ib8 io8 hc8
  rw [Int.toNat_natCast] at hc8
  refine Wl_loadc isAgg3 rfl hc8 ?_
  refine Was (.int .i64 ((ord l).getD k 0)) ?_
  refine Wl_nil (W_seq (W_block ?_))
  refine W_loop (fun mu ρ ds w' => ∃ (n2 r2 : Nat), 12 - n2 = mu ∧ ds = [] ∧ Liv ρ [(0, .slice a n c), (4, .slice (some ⟨B2, 0, none⟩) n n), (5, .slice a3 m3 c3), (6, .int .u32 (F l n2 + ((r2 : Nat) : Int))), (7, .int .i64 ((n2 : Nat) : Int)), (8, .int .i64 ((k : Nat) : Int)), (9, .int .i64 ((ord l).getD k 0))] ∧ St l k n2 r2 ∧ Upd No w7 w') _ ⟨nn, r, rfl, rfl, ⟨rfl, rfl, rfl, (by first | rfl | exact vint (by omega) | exact vint (by simp)), (by first | rfl | exact vint (by omega) | exact vint (by simp)), rfl, rfl, trivial⟩, hst, Upd.refl _ _⟩ ?_
  rintro m9 ρ9 ds9 w9 ⟨n2, r2, rfl, rfl, hl9, hst2, hU9⟩
  obtain ⟨ρ9x, rfl⟩ : ∃ ρx, ρ9 = upds ρx [(0, .slice a n c), (4, .slice (some ⟨B2, 0, none⟩) n n), (5, .slice a3 m3 c3), (6, .int .u32 (F l n2 + ((r2 : Nat) : Int))), (7, .int .i64 ((n2 : Nat) : Int)), (8, .int .i64 ((k : Nat) : Int)), (9, .int .i64 ((ord l).getD k 0))] := ⟨_, upds_self hl9⟩
  clear hl9
  have hzw9 := hU9.size
  replace hs := hs.upd0 hU9
  replace hO2 := hO2.upd0 hU9
  replace HL7 := HL7.trans0 hU9
  have HL9 := hU9
  refine W_seq (W_seq (W_region ?_))
  refine Wmv (.int .i64 ((n2 : Nat) : Int)) ?_
  refine Wmv (.slice a n c) ?_
  refine Wmv (.int .i64 ((ord l).getD k 0)) ?_
  refine Wl_idxi underlying22 sizeOf3 rfl rfl hs (by omega) (by omega) ?_
  intro ib10 io10 hc10
  rw [show ((ord l).getD k 0).toNat = j from by omega] at hc10
  refine Wl_loadc isAgg3 rfl hc10 ?_
  refine Wl_v (r_lt rfl rfl) ?_
  refine Wl_nil ?_
  by_cases q3 : ((n2 : Nat) : Int) < (l.getD j 0)
  ·have hst3 := hst2.next (by omega) hj q3
   have hfl := F_le' hr (n := n2) (by have := hst2.h2; omega)
   rw [decide_eq_true q3]
   refine W_cond_t rfl ?_
   refine W_skip (W_block (W_seq (W_region ?_)))
   refine Wmv (.int .u32 (F l n2 + ((r2 : Nat) : Int))) ?_
   refine Wl_v (r_mul rfl rfl (wu32 (by omega) (by omega))) ?_
   refine Was (.int .u32 (2 * (F l n2 + ((r2 : Nat) : Int)))) ?_
   refine Wl_nil (W_region ?_)
   refine Wmv (.int .i64 ((n2 : Nat) : Int)) ?_
   refine Wl_v (r_add rfl rfl (wi64 (by omega) (by omega))) ?_
   refine Was (.int .i64 (((n2 : Nat) : Int) + 1)) ?_
   refine Wl_nil ?_
   have hle12 := hst2.h2
   have hle13 := hst3.1.h2
   refine ⟨_, ?_, (n2 + 1), 0, rfl, rfl, ⟨rfl, rfl, rfl, (Eq.trans (b := .int .u32 (2 * (F l n2 + ((r2 : Nat) : Int)))) rfl (vint (by rw [F]; omega))), (Eq.trans (b := .int .i64 (((n2 : Nat) : Int) + 1)) rfl (vint (by omega))), rfl, rfl, trivial⟩, hst3.1, HL9⟩
   omega
  have hst3 := hst2.take (by omega) hj q3
  have hcd := hst2.cd (by omega) hj q3
  have hfl := F_le' hr (n := n2) (by have := hst2.h2; omega)
  have hcl := cn_take_le l j n2
  have hbl := blk_all (l := l) (n := n2) (by have := hst2.h1; omega)
  have hbr := hst3.1.hr
  rw [decide_eq_false q3]
  refine W_cond_f rfl ?_
  refine W_exit ?_
  refine W_seq (W_region ?_)
  refine Wmv (.slice (some ⟨B2, 0, none⟩) n n) ?_
  refine Wmv (.int .i64 ((ord l).getD k 0)) ?_
  refine Wmv (.int .i64 ((n2 : Nat) : Int)) ?_
  refine Wmv (.int .u32 (F l n2 + ((r2 : Nat) : Int))) ?_
  refine Wl_v (r_build (pl := #[(0, 1), (1, 1)]) (pv := [(0, .int .i64 ((n2 : Nat) : Int)), (1, .int .u32 (F l n2 + ((r2 : Nat) : Int)))]) (cs := #[.int .i64 ((n2 : Nat) : Int), .int .u32 (F l n2 + ((r2 : Nat) : Int))]) zeroValue106 underlying106 (fun w => by kernel_rfl) (by simp only [List.map_toArray, List.map_cons, List.map_nil] <;> rfl) (by kernel_rfl)) ?_
  refine Wl_v (r_idxor (i' := ((ord l).getD k 0).toNat) (o' := (((ord l).getD k 0).toNat) * 2) underlying92 sizeOf106 rfl rfl (by omega) (by omega) rfl) ?_
  refine Wl_storer (i := ((ord l).getD k 0).toNat) (((n2 : Nat) : Int), F l n2 + ((r2 : Nat) : Int)) encC_len (by decide) (encC_one _) sizeOf106 rfl rfl rfl hO2 (by omega) ?_
  intro w11 hU11 hzz11 hO11
  clear hO2
  have hzw11 := hU11.size
  replace HL7 := HL7.trans1 hU11 (by show (B2 = B2) ∨ w6.heap.size ≤ B2; omega)
  have hl_hO11 := rlen encC_len (by decide) hO11.sl
  have hc_hO11 := hO11.sl.cap.1
  refine Wl_nil (W_region ?_)
  refine Wmv (.int .u32 (F l n2 + ((r2 : Nat) : Int))) ?_
  refine Wl_v (r_add rfl rfl (wu32 (by omega) (by omega))) ?_
  refine Was (.int .u32 ((F l n2 + ((r2 : Nat) : Int)) + 1)) ?_
  refine Wl_nil (W_region ?_)
  refine Wmv (.int .i64 ((k : Nat) : Int)) ?_
  refine Wl_v (r_add rfl rfl (wi64 (by omega) (by omega))) ?_
  refine Was (.int .i64 (((k : Nat) : Int) + 1)) ?_
  refine Wl_nil ?_
  refine ⟨_, ?_, (k + 1), n2, (r2 + 1), rfl, rfl, ⟨rfl, rfl, rfl, (Eq.trans (b := .int .u32 ((F l n2 + ((r2 : Nat) : Int)) + 1)) rfl (vint (by omega))), (by first | rfl | exact vint (by omega) | exact vint (by simp)), (Eq.trans (b := .int .i64 (((k : Nat) : Int) + 1)) rfl (vint (by omega))), trivial⟩, (by omega), hst3.1, (hO11.rcong (tabn_set _ _ (by omega) _ (fun i hi => by rw [show ((ord l).getD k 0).toNat = j from by omega]; exact outS_step (by omega) hj hcd i))), HL7⟩
  omega
 rw [decide_eq_false q2]
 refine W_cond_f rfl ?_
 refine W_exit ?_
 refine W_seq (W_region ?_)
 refine Wmv (.slice (some ⟨B2, 0, none⟩) n n) ?_
 refine Was (.slice (some ⟨B2, 0, none⟩) n n) ?_
 refine Was (.int .i64 0) ?_
 refine Wl_nil ?_
 refine W_ret ?_
 refine ret_end (v := .tuple #[.slice (some ⟨B2, 0, none⟩) n n, .int .i64 0]) rfl (res2 results75 rfl rfl) ?_
 exact ⟨_, rfl, (some ⟨B2, 0, none⟩), n, rfl, ((hO2.weak (by intro g hg; have h3 : g = B2 := hg; show w.heap.size ≤ g; omega)).rcong (by unfold cds; rw [show l.length = n from by omega]; exact tabn_congr fun j hj => outS_all hr.1 (by omega) (by omega))), HU⟩
theorem rcodes_no {a : Option Addr} {n c : Nat} {l : List Int} {R : Nat → Prop} (w : World) (hs : Sl w R 1 (.slice a n c) n (ints .i64 l)) (hn : n ≤ 17592186044415) (hr : ¬ Rt l) :
  Calls Tryz.prog 75 #[.slice a n c] w (Ret fun v w' => v = .tuple #[.slice none 0 0, .int .i64 12] ∧ Upd No w w') := by
 have HU := Upd.rno w
 have hl_hs := ilen hs
 have hc_hs := hs.cap.1
 replace hs := hs.tight
 refine calls_of_W func75 rfl ntmps75 (by simp) ?_
 refine W_seq (W_region ?_)
 refine Was (.slice none 0 0) ?_
 refine Was (.int .i64 0) ?_
 refine Wl_nil (W_seq (W_seq (W_region ?_)))
 refine Wmv (.slice a n c) ?_
 refine Wl_call (r_call1 rfl call28 rfl) (rright_spec _ hs (by omega)) ?_
 rintro v w1 ⟨rfl, hU1⟩
 have hzw1 := hU1.size
 replace HU := HU.trans0 hU1
 refine Wl_v (r_not rfl) ?_
 refine Wl_nil ?_
 have q1 : ¬ (Rt l) := hr
 rw [decide_eq_false q1]
 simp only [Bool.not_true, Bool.not_false]
 refine W_cond_t rfl ?_
 refine W_seq (W_region ?_)
 refine Was (.slice none 0 0) ?_
 refine Was (.int .i64 12) ?_
 refine Wl_nil ?_
 refine W_ret ?_
 refine ret_end (v := .tuple #[.slice none 0 0, .int .i64 12]) rfl (res2 results75 rfl rfl) ?_
 exact ⟨_, rfl, rfl, HU⟩
theorem pdiv0 (b m : Int) (h : 0 ≤ b) : 0 ≤ b / 2 ^ (min m.toNat IntKind.u64.bits) := Int.ediv_nonneg h (Int.le_of_lt (Int.pow_pos (by decide)))
theorem read_spec {a : Option Addr} {n c : Nat} {l : List Int} {bits m : Int} {R : Nat → Prop} (w : World) (hs : Sl w R 1 (.slice a n c) n (ints .i64 l)) (hn : n ≤ 17592186044415) (hbits : 0 ≤ bits ∧ bits < 18446744073709551616) (hm : -9223372036854775808 ≤ m ∧ m ≤ 9223372036854775807) :
  Calls Tryz.prog 114 #[.slice a n c, .int .u64 bits, .int .i64 m] w (Ret fun v w' => v = .tuple #[.int .i64 ((dec l bits m).1), .int .i64 ((dec l bits m).2.1), .int .i64 ((dec l bits m).2.2)] ∧ Upd No w w') := by
 have HU := Upd.rno w
 have hl_hs := ilen hs
 have hc_hs := hs.cap.1
 replace hs := hs.tight
 refine calls_of_W func114 rfl ntmps114 (by simp) ?_
 refine W_seq (W_region ?_)
 refine Was (.int .i64 0) ?_
 refine Was (.int .i64 0) ?_
 refine Was (.int .i64 0) ?_
 refine Wl_nil (W_seq (W_region ?_))
 refine Wmv (.slice a n c) ?_
 by_cases q1 : Rt l
 ·refine Wl_call (r_call1 rfl call75 rfl) (rcodes_ok _ hs (by omega) q1) ?_
  rintro v w1 ⟨a1, c1, rfl, hO1, hU1⟩
  have hzw1 := hU1.size
  replace HU := HU.trans0 hU1
  replace hO1 := hO1.tight
  have hl_hO1 := rlen encC_len (by decide) hO1.sl
  have hc_hO1 := hO1.sl.cap.1
  have hr := q1
  have h256 := hr.2.1
  refine Wmv (.tuple #[.slice a1 n c1, .int .i64 0]) ?_
  refine Wl_v (r_ext (v := .slice a1 n c1) rfl rfl) ?_
  refine Wl_v (r_ext (v := .int .i64 0) rfl rfl) ?_
  refine Was (.slice a1 n c1) ?_
  refine Was (.int .i64 0) ?_
  refine Wl_nil (W_seq (W_seq (W_region ?_)))
  refine Wmv (.int .i64 0) ?_
  refine Wl_v (v := .bool false) (r_ne (a := 0) (b := 0) rfl rfl) ?_
  refine Wl_nil ?_
  refine W_cond_f rfl ?_
  refine W_skip (W_seq (W_seq (W_region ?_)))
  refine Wmv (.int .i64 m) ?_
  refine Wl_v (r_lt rfl rfl) ?_
  refine Wmv (.bool (decide (m < 0))) ?_
  by_cases q2 : m < 0
  ·rw [decide_eq_true q2]
   refine Wl_guard_f rfl (Wl_guard_f rfl ?_)
   refine Wl_v (r_pick_t (v := .bool true) rfl rfl) ?_
   refine Wmv (.bool true) ?_
   refine Wl_guard_f rfl (Wl_guard_f rfl (Wl_guard_f rfl ?_))
   refine Wl_skip rfl ?_
   refine Wl_skip rfl ?_
   refine Wl_skip rfl ?_
   refine Wl_skip rfl ?_
   refine Wl_guard_f rfl ?_
   refine Wl_v (r_pick_t (v := .bool true) rfl rfl) ?_
   refine Wl_nil ?_
   refine W_cond_t rfl ?_
   refine W_seq (W_region ?_)
   refine Was (.int .i64 0) ?_
   refine Was (.int .i64 0) ?_
   refine Was (.int .i64 2) ?_
   refine Wl_nil ?_
   refine W_ret ?_
   refine ret_end (v := .tuple #[.int .i64 0, .int .i64 0, .int .i64 2]) rfl (res3 results114 rfl rfl rfl) ?_
   rw [dec_arg q1 (fun h => by unfold Va at h; omega)]
   exact ⟨_, rfl, (vtup3 (by first | rfl | exact vint (by omega)) (by first | rfl | exact vint (by omega)) (by first | rfl | exact vint (by omega))), HU⟩
  rw [decide_eq_false q2]
  refine Wl_guard_t rfl ?_
  refine Wmv (.int .i64 m) ?_
  refine Wl_guard_t rfl ?_
  refine Wl_v (r_gt rfl rfl) ?_
  refine Wl_v (r_pick_f (v := .bool (decide (64 < m))) rfl rfl) ?_
  refine Wmv (.bool (decide (64 < m))) ?_
  by_cases q3 : 64 < m
  ·rw [decide_eq_true q3]
   refine Wl_guard_f rfl (Wl_guard_f rfl (Wl_guard_f rfl ?_))
   refine Wl_skip rfl ?_
   refine Wl_skip rfl ?_
   refine Wl_skip rfl ?_
   refine Wl_skip rfl ?_
   refine Wl_guard_f rfl ?_
   refine Wl_v (r_pick_t (v := .bool true) rfl rfl) ?_
   refine Wl_nil ?_
   refine W_cond_t rfl ?_
   refine W_seq (W_region ?_)
   refine Was (.int .i64 0) ?_
   refine Was (.int .i64 0) ?_
   refine Was (.int .i64 2) ?_
   refine Wl_nil ?_
   refine W_ret ?_
   refine ret_end (v := .tuple #[.int .i64 0, .int .i64 0, .int .i64 2]) rfl (res3 results114 rfl rfl rfl) ?_
   rw [dec_arg q1 (fun h => by unfold Va at h; omega)]
   exact ⟨_, rfl, (vtup3 (by first | rfl | exact vint (by omega)) (by first | rfl | exact vint (by omega)) (by first | rfl | exact vint (by omega))), HU⟩
  rw [decide_eq_false q3]
  refine Wl_guard_t rfl ?_
  refine Wmv (.int .i64 m) ?_
  refine Wl_guard_t rfl ?_
  refine Wl_v (r_lt rfl rfl) ?_
  refine Wl_guard_t rfl ?_
  refine Wmv (.bool (decide (m < 64))) ?_
  by_cases q4 : m < 64
  ·rw [decide_eq_true q4]
   refine Wl_guard_t rfl ?_
   refine Wmv (.int .u64 bits) ?_
   refine Wl_guard_t rfl ?_
   refine Wmv (.int .i64 m) ?_
   refine Wl_guard_t rfl ?_
   refine Wl_v (r_shr rfl rfl (by omega) rfl) ?_
   refine Wl_guard_t rfl ?_
   refine Wl_v (r_gt rfl rfl) ?_
   refine Wl_guard_t rfl ?_
   refine Wl_v (r_pick_t (v := .bool (decide (0 < (bits / 2 ^ (min (m).toNat IntKind.u64.bits))))) rfl rfl) ?_
   refine Wl_v (r_pick_f (v := .bool (decide (0 < (bits / 2 ^ (min (m).toNat IntKind.u64.bits))))) rfl rfl) ?_
   refine Wl_nil ?_
   by_cases q5 : 0 < (bits / 2 ^ (min (m).toNat IntKind.u64.bits))
   ·rw [decide_eq_true q5]
    refine W_cond_t rfl ?_
    refine W_seq (W_region ?_)
    refine Was (.int .i64 0) ?_
    refine Was (.int .i64 0) ?_
    refine Was (.int .i64 2) ?_
    refine Wl_nil ?_
    refine W_ret ?_
    refine ret_end (v := .tuple #[.int .i64 0, .int .i64 0, .int .i64 2]) rfl (res3 results114 rfl rfl rfl) ?_
    rw [dec_arg q1 (fun h => by unfold Va at h; omega)]
    exact ⟨_, rfl, (vtup3 (by first | rfl | exact vint (by omega)) (by first | rfl | exact vint (by omega)) (by first | rfl | exact vint (by omega))), HU⟩
   rw [decide_eq_false q5]
   refine W_cond_f rfl ?_
   refine W_skip (W_seq (W_seq (W_region ?_)))
   refine Was (.int .i64 0) ?_
   refine Wl_nil (W_block ?_)
   refine W_loop (fun mu ρ ds w' => ∃ (k : Nat), n - k = mu ∧ ds = [] ∧ Liv ρ [(1, .int .u64 bits), (2, .int .i64 m), (9, .slice a1 n c1), (11, .int .i64 ((k : Nat) : Int))] ∧ k ≤ n ∧ (∀ i, i < k → qrd bits m ((cds l).getD i (0, 0)) = false) ∧ Upd No w1 w') _ ⟨0, rfl, rfl, ⟨rfl, rfl, rfl, (by first | rfl | exact vint (by omega) | exact vint (by simp)), trivial⟩, (by omega), (fun i hi => absurd hi (by omega)), Upd.refl _ _⟩ ?_
   rintro m2 ρ2 ds2 w2 ⟨k, rfl, rfl, hl2, hk, hall, hU2⟩
   obtain ⟨ρ2x, rfl⟩ : ∃ ρx, ρ2 = upds ρx [(1, .int .u64 bits), (2, .int .i64 m), (9, .slice a1 n c1), (11, .int .i64 ((k : Nat) : Int))] := ⟨_, upds_self hl2⟩
   clear hl2
   have hzw2 := hU2.size
   replace HU := HU.trans0 hU2
   replace hO1 := hO1.upd0 hU2
   have HL2 := hU2
   refine W_seq (W_seq (W_region ?_))
   refine Wmv (.int .i64 ((k : Nat) : Int)) ?_
   refine Wmv (.slice a1 n c1) ?_
   refine Wl_v (r_len underlying92 rfl) ?_
   refine Wl_v (r_lt rfl rfl) ?_
   refine Wl_nil ?_
   by_cases q6 : ((k : Nat) : Int) < ((n : Nat) : Int)
   ·rw [decide_eq_true q6]
    refine W_cond_t rfl ?_
    refine W_skip (W_seq (W_block (W_seq (W_region ?_))))
    refine Wmv (.slice a1 n c1) ?_
    refine Wmv (.int .i64 ((k : Nat) : Int)) ?_
    refine Wl_idxr (0, 0) encC_len (by decide) underlying92 sizeOf106 rfl rfl hO1.sl (by omega) (by omega) ?_
    intro ib3 io3 hc3
    try rw [Int.toNat_natCast] at hc3
    refine Wl_v (r_fld underlying106 rfl sizeOf3 rfl rfl) ?_
    refine Wl_loadc (v := .int .i64 (((cds l).getD k (0, 0)).1)) isAgg3 rfl (hc3 0 (by decide)) ?_
    refine Was (.int .i64 (((cds l).getD k (0, 0)).1)) ?_
    refine Wl_nil (W_seq ?_)
    refine W_drawt rfl (l0 := tf 0 21) (by kernel_rfl) ?_
    refine Tk 0 (tf 1 21) rfl (YI_v (v := .int .i64 (((cds l).getD k (0, 0)).1)) rfl (fun w' hw' => r_mv (v := .int .i64 (((cds l).getD k (0, 0)).1)) rfl)) ?_
    refine Tk 1 (tf 2 21) rfl (YI_v (v := .bool (decide (0 < (((cds l).getD k (0, 0)).1)))) rfl (fun w' hw' => r_gt rfl rfl)) ?_
    refine Tk 2 (tf 3 21) rfl (YI_v (v := .bool (decide (0 < (((cds l).getD k (0, 0)).1)))) rfl (fun w' hw' => r_mv (v := .bool (decide (0 < (((cds l).getD k (0, 0)).1)))) rfl)) ?_
    by_cases q7 : 0 < (((cds l).getD k (0, 0)).1)
    ·have hcb := cds_bd hr k
     rw [decide_eq_true q7]
     refine Tk 3 (tf 4 21) rfl (YI_v (v := .int .i64 (((cds l).getD k (0, 0)).1)) rfl (fun w' hw' => r_mv (v := .int .i64 (((cds l).getD k (0, 0)).1)) rfl)) ?_
     refine Tk 4 (tf 5 21) rfl (YI_v (v := .int .i64 m) rfl (fun w' hw' => r_mv (v := .int .i64 m) rfl)) ?_
     refine Tk 5 (tf 6 21) rfl (YI_v (v := .bool (decide ((((cds l).getD k (0, 0)).1) ≤ m))) rfl (fun w' hw' => r_le rfl rfl)) ?_
     refine Tk 6 (tf 7 21) rfl (YI_v rfl (fun w' hw' => r_pick_t (v := .bool (decide ((((cds l).getD k (0, 0)).1) ≤ m))) rfl rfl)) ?_
     refine Tk 7 (tf 8 21) rfl (YI_v (v := .bool (decide ((((cds l).getD k (0, 0)).1) ≤ m))) rfl (fun w' hw' => r_mv (v := .bool (decide ((((cds l).getD k (0, 0)).1) ≤ m))) rfl)) ?_
     by_cases q8 : (((cds l).getD k (0, 0)).1) ≤ m
     ·have hcb := cds_bd hr k
      rw [decide_eq_true q8]
      refine Tk 8 (tf 9 21) rfl (YI_v (v := .int .u64 bits) rfl (fun w' hw' => r_mv (v := .int .u64 bits) rfl)) ?_
      refine Tk 9 (tf 10 21) rfl (YI_v (v := .int .i64 m) rfl (fun w' hw' => r_mv (v := .int .i64 m) rfl)) ?_
      refine Tk 10 (tf 11 21) rfl (YI_v (v := .int .i64 (((cds l).getD k (0, 0)).1)) rfl (fun w' hw' => r_mv (v := .int .i64 (((cds l).getD k (0, 0)).1)) rfl)) ?_
      refine Tk 11 (tf 12 21) rfl (YI_v (v := .int .i64 (m - (((cds l).getD k (0, 0)).1))) rfl (fun w' hw' => r_sub rfl rfl (wi64 (by omega) (by omega)))) ?_
      refine Tk 12 (tf 13 21) rfl (YI_v (v := .int .u64 (bits / 2 ^ (min (m - (((cds l).getD k (0, 0)).1)).toNat IntKind.u64.bits))) rfl (fun w' hw' => r_shr rfl rfl (by omega) rfl)) ?_
      refine Tk 13 (tf 14 21) rfl (YI_v (v := .slice a1 n c1) rfl (fun w' hw' => r_mv (v := .slice a1 n c1) rfl)) ?_
      refine Tk 14 (tf 15 21) rfl (YI_v (v := .int .i64 ((k : Nat) : Int)) rfl (fun w' hw' => r_mv (v := .int .i64 ((k : Nat) : Int)) rfl)) ?_
      obtain ⟨ib4, io4, ha4, hib4, hc4⟩ := Sl.rat (0, 0) encC_len (by decide) (hO1.sl) (i := k) (by omega)
      refine Tk 15 (tf 16 21) rfl (YI_v (v := .pointer (some ⟨ib4, io4 + k * 2, none⟩)) rfl (fun w' hw' => r_idx (b := ib4) (off := io4) (m := n) (c := c1) (o' := io4 + k * 2) underlying92 sizeOf106 (by rw [← ha4]; rfl) rfl (by omega) (by omega) (by omega))) ?_
      refine Tk 16 (tf 17 21) rfl (YI_v (v := .pointer (some ⟨ib4, io4 + k * 2 + 1, none⟩)) rfl (fun w' hw' => r_fld underlying106 rfl sizeOf104 rfl rfl)) ?_
      refine Tk 17 (tf 18 21) rfl (YI_v (v := .int .u32 (((cds l).getD k (0, 0)).2)) rfl (fun w' hw' => r_load (v := .int .u32 (((cds l).getD k (0, 0)).2)) isAgg104 rfl (hw'.cellk (hc4 1 (by decide))))) ?_
      refine Tk 18 (tf 19 21) rfl (YI_v (v := .int .u64 (((cds l).getD k (0, 0)).2)) rfl (fun w' hw' => r_cvt underlying104 underlying76 rfl (wu64 (by omega) (by omega)))) ?_
      refine Tk 19 (tf 20 21) rfl (YI_v (v := .bool (decide ((bits / 2 ^ (min (m - (((cds l).getD k (0, 0)).1)).toNat IntKind.u64.bits)) = (((cds l).getD k (0, 0)).2)))) rfl (fun w' hw' => r_eq rfl rfl)) ?_
      refine Tk 20 (tf 21 21) rfl (YI_v rfl (fun w' hw' => r_pick_t (v := .bool (decide ((bits / 2 ^ (min (m - (((cds l).getD k (0, 0)).1)).toNat IntKind.u64.bits)) = (((cds l).getD k (0, 0)).2)))) rfl rfl)) ?_
      intro w5 hU5
      have hzw5 := hU5.size
      replace HU := HU.trans0 hU5
      replace HL2 := HL2.trans0 hU5
      refine Wa_done (by kernel_rfl) ?_
      by_cases q9 : (bits / 2 ^ (min (m - (((cds l).getD k (0, 0)).1)).toNat IntKind.u64.bits)) = (((cds l).getD k (0, 0)).2)
      ·have hcb := cds_bd hr k
       rw [decide_eq_true q9]
       refine W_cond_t rfl ?_
       refine W_seq (W_region ?_)
       refine Wmv (.int .i64 ((k : Nat) : Int)) ?_
       refine Wmv (.int .i64 (((cds l).getD k (0, 0)).1)) ?_
       refine Was (.int .i64 ((k : Nat) : Int)) ?_
       refine Was (.int .i64 (((cds l).getD k (0, 0)).1)) ?_
       refine Was (.int .i64 0) ?_
       refine Wl_nil ?_
       refine W_ret ?_
       refine ret_end (v := .tuple #[.int .i64 ((k : Nat) : Int), .int .i64 (((cds l).getD k (0, 0)).1), .int .i64 0]) rfl (res3 results114 rfl rfl rfl) ?_
       have hfx := fidx_at (0, 0) (q := qrd bits m) (l := cds l) (k := k) (by rw [cds_len]; omega) hall (show qrd bits m ((cds l).getD k (0, 0)) = true by unfold qrd; rw [decide_eq_true_iff]; exact ⟨by omega, by omega, q9⟩)
       rw [dec_ok q1 (show Va bits m from ⟨by omega, by have hp0 := pdiv0 bits m (by omega); omega⟩) (by omega), hfx]
       exact ⟨_, rfl, (vtup3 (by first | rfl | exact vint (by omega)) (by first | rfl | exact vint (by omega)) (by first | rfl | exact vint (by omega))), HU⟩
      have hcb := cds_bd hr k
      rw [decide_eq_false q9]
      refine W_cond_f rfl ?_
      refine W_skip (W_region ?_)
      refine Wmv (.int .i64 ((k : Nat) : Int)) ?_
      refine Wl_v (r_add rfl rfl (wi64 (by omega) (by omega))) ?_
      refine Was (.int .i64 (((k : Nat) : Int) + 1)) ?_
      refine Wl_nil ?_
      refine ⟨_, ?_, (k + 1), rfl, rfl, ⟨rfl, rfl, rfl, (by first | rfl | exact vint (by omega) | exact vint (by simp)), trivial⟩, (by omega), (fun i hi => by rcases Nat.lt_or_ge i k with h | h; exact hall i h; rw [show i = k from by omega]; exact (show qrd bits m ((cds l).getD k (0, 0)) = false by unfold qrd; rw [decide_eq_false_iff_not]; exact fun h => q9 h.2.2)), HL2⟩
      omega
     have hcb := cds_bd hr k
     rw [decide_eq_false q8]
     refine Tk 8 (tf 9 21) rfl (YI_no rfl) ?_
     refine Tk 9 (tf 10 21) rfl (YI_no rfl) ?_
     refine Tk 10 (tf 11 21) rfl (YI_no rfl) ?_
     refine Tk 11 (tf 12 21) rfl (YI_no rfl) ?_
     refine Tk 12 (tf 13 21) rfl (YI_no rfl) ?_
     refine Tk 13 (tf 14 21) rfl (YI_no rfl) ?_
     refine Tk 14 (tf 15 21) rfl (YI_no rfl) ?_
     refine Tk 15 (tf 16 21) rfl (YI_no rfl) ?_
     refine Tk 16 (tf 17 21) rfl (YI_no rfl) ?_
     refine Tk 17 (tf 18 21) rfl (YI_no rfl) ?_
     refine Tk 18 (tf 19 21) rfl (YI_no rfl) ?_
     refine Tk 19 (tf 20 21) rfl (YI_no rfl) ?_
     refine Tk 20 (tf 21 21) rfl (YI_v rfl (fun w' hw' => r_pick_f (v := .bool false) rfl rfl)) ?_
     intro w6 hU6
     have hzw6 := hU6.size
     replace HL2 := HL2.trans0 hU6
     refine Wa_done (by kernel_rfl) ?_
     refine W_cond_f rfl ?_
     refine W_skip (W_region ?_)
     refine Wmv (.int .i64 ((k : Nat) : Int)) ?_
     refine Wl_v (r_add rfl rfl (wi64 (by omega) (by omega))) ?_
     refine Was (.int .i64 (((k : Nat) : Int) + 1)) ?_
     refine Wl_nil ?_
     refine ⟨_, ?_, (k + 1), rfl, rfl, ⟨rfl, rfl, rfl, (by first | rfl | exact vint (by omega) | exact vint (by simp)), trivial⟩, (by omega), (fun i hi => by rcases Nat.lt_or_ge i k with h | h; exact hall i h; rw [show i = k from by omega]; exact (show qrd bits m ((cds l).getD k (0, 0)) = false by unfold qrd; rw [decide_eq_false_iff_not]; exact fun h => by omega)), HL2⟩
     omega
    have hcb := cds_bd hr k
    rw [decide_eq_false q7]
    refine Tk 3 (tf 4 21) rfl (YI_no rfl) ?_
    refine Tk 4 (tf 5 21) rfl (YI_no rfl) ?_
    refine Tk 5 (tf 6 21) rfl (YI_no rfl) ?_
    refine Tk 6 (tf 7 21) rfl (YI_v rfl (fun w' hw' => r_pick_f (v := .bool false) rfl rfl)) ?_
    refine Tk 7 (tf 8 21) rfl (YI_v (v := .bool false) rfl (fun w' hw' => r_mv (v := .bool false) rfl)) ?_
    refine Tk 8 (tf 9 21) rfl (YI_no rfl) ?_
    refine Tk 9 (tf 10 21) rfl (YI_no rfl) ?_
    refine Tk 10 (tf 11 21) rfl (YI_no rfl) ?_
    refine Tk 11 (tf 12 21) rfl (YI_no rfl) ?_
    refine Tk 12 (tf 13 21) rfl (YI_no rfl) ?_
    refine Tk 13 (tf 14 21) rfl (YI_no rfl) ?_
    refine Tk 14 (tf 15 21) rfl (YI_no rfl) ?_
    refine Tk 15 (tf 16 21) rfl (YI_no rfl) ?_
    refine Tk 16 (tf 17 21) rfl (YI_no rfl) ?_
    refine Tk 17 (tf 18 21) rfl (YI_no rfl) ?_
    refine Tk 18 (tf 19 21) rfl (YI_no rfl) ?_
    refine Tk 19 (tf 20 21) rfl (YI_no rfl) ?_
    refine Tk 20 (tf 21 21) rfl (YI_v rfl (fun w' hw' => r_pick_f (v := .bool false) rfl rfl)) ?_
    intro w7 hU7
    have hzw7 := hU7.size
    replace HL2 := HL2.trans0 hU7
    refine Wa_done (by kernel_rfl) ?_
    refine W_cond_f rfl ?_
    refine W_skip (W_region ?_)
    refine Wmv (.int .i64 ((k : Nat) : Int)) ?_
    refine Wl_v (r_add rfl rfl (wi64 (by omega) (by omega))) ?_
    refine Was (.int .i64 (((k : Nat) : Int) + 1)) ?_
    refine Wl_nil ?_
    refine ⟨_, ?_, (k + 1), rfl, rfl, ⟨rfl, rfl, rfl, (by first | rfl | exact vint (by omega) | exact vint (by simp)), trivial⟩, (by omega), (fun i hi => by rcases Nat.lt_or_ge i k with h | h; exact hall i h; rw [show i = k from by omega]; exact (show qrd bits m ((cds l).getD k (0, 0)) = false by unfold qrd; rw [decide_eq_false_iff_not]; exact fun h => by omega)), HL2⟩
    omega
   rw [decide_eq_false q6]
   refine W_cond_f rfl ?_
   refine W_exit ?_
   refine W_seq (W_region ?_)
   refine Was (.int .i64 0) ?_
   refine Was (.int .i64 0) ?_
   refine Was (.int .i64 3) ?_
   refine Wl_nil ?_
   refine W_ret ?_
   refine ret_end (v := .tuple #[.int .i64 0, .int .i64 0, .int .i64 3]) rfl (res3 results114 rfl rfl rfl) ?_
   have hfx := fidx_none (0, 0) (q := qrd bits m) (l := cds l) (fun i hi => hall i (by rw [cds_len] at hi; omega))
   rw [dec_short q1 (show Va bits m from ⟨by omega, by have hp0 := pdiv0 bits m (by omega); omega⟩) (by omega)]
   exact ⟨_, rfl, (vtup3 (by first | rfl | exact vint (by omega)) (by first | rfl | exact vint (by omega)) (by first | rfl | exact vint (by omega))), HU⟩
  rw [decide_eq_false q4]
  refine Wl_guard_f rfl (Wl_guard_f rfl (Wl_guard_f rfl (Wl_guard_f rfl (Wl_guard_t rfl ?_))))
  refine Wl_v (r_pick_f (v := .bool false) rfl rfl) ?_
  refine Wl_v (r_pick_f (v := .bool false) rfl rfl) ?_
  refine Wl_nil ?_
  refine W_cond_f rfl ?_
  refine W_skip (W_seq (W_seq (W_region ?_)))
  refine Was (.int .i64 0) ?_
  refine Wl_nil (W_block ?_)
  refine W_loop (fun mu ρ ds w' => ∃ (k : Nat), n - k = mu ∧ ds = [] ∧ Liv ρ [(1, .int .u64 bits), (2, .int .i64 m), (9, .slice a1 n c1), (11, .int .i64 ((k : Nat) : Int))] ∧ k ≤ n ∧ (∀ i, i < k → qrd bits m ((cds l).getD i (0, 0)) = false) ∧ Upd No w1 w') _ ⟨0, rfl, rfl, ⟨rfl, rfl, rfl, (by first | rfl | exact vint (by omega) | exact vint (by simp)), trivial⟩, (by omega), (fun i hi => absurd hi (by omega)), Upd.refl _ _⟩ ?_
  rintro m8 ρ8 ds8 w8 ⟨k, rfl, rfl, hl8, hk, hall, hU8⟩
  obtain ⟨ρ8x, rfl⟩ : ∃ ρx, ρ8 = upds ρx [(1, .int .u64 bits), (2, .int .i64 m), (9, .slice a1 n c1), (11, .int .i64 ((k : Nat) : Int))] := ⟨_, upds_self hl8⟩
  clear hl8
  have hzw8 := hU8.size
  replace HU := HU.trans0 hU8
  replace hO1 := hO1.upd0 hU8
  have HL8 := hU8
  refine W_seq (W_seq (W_region ?_))
  refine Wmv (.int .i64 ((k : Nat) : Int)) ?_
  refine Wmv (.slice a1 n c1) ?_
  refine Wl_v (r_len underlying92 rfl) ?_
  refine Wl_v (r_lt rfl rfl) ?_
  refine Wl_nil ?_
  by_cases q10 : ((k : Nat) : Int) < ((n : Nat) : Int)
  ·rw [decide_eq_true q10]
   refine W_cond_t rfl ?_
   refine W_skip (W_seq (W_block (W_seq (W_region ?_))))
   refine Wmv (.slice a1 n c1) ?_
   refine Wmv (.int .i64 ((k : Nat) : Int)) ?_
   refine Wl_idxr (0, 0) encC_len (by decide) underlying92 sizeOf106 rfl rfl hO1.sl (by omega) (by omega) ?_
   intro ib9 io9 hc9
   try rw [Int.toNat_natCast] at hc9
   refine Wl_v (r_fld underlying106 rfl sizeOf3 rfl rfl) ?_
   refine Wl_loadc (v := .int .i64 (((cds l).getD k (0, 0)).1)) isAgg3 rfl (hc9 0 (by decide)) ?_
   refine Was (.int .i64 (((cds l).getD k (0, 0)).1)) ?_
   refine Wl_nil (W_seq ?_)
   refine W_drawt rfl (l0 := tf 0 21) (by kernel_rfl) ?_
   refine Tk 0 (tf 1 21) rfl (YI_v (v := .int .i64 (((cds l).getD k (0, 0)).1)) rfl (fun w' hw' => r_mv (v := .int .i64 (((cds l).getD k (0, 0)).1)) rfl)) ?_
   refine Tk 1 (tf 2 21) rfl (YI_v (v := .bool (decide (0 < (((cds l).getD k (0, 0)).1)))) rfl (fun w' hw' => r_gt rfl rfl)) ?_
   refine Tk 2 (tf 3 21) rfl (YI_v (v := .bool (decide (0 < (((cds l).getD k (0, 0)).1)))) rfl (fun w' hw' => r_mv (v := .bool (decide (0 < (((cds l).getD k (0, 0)).1)))) rfl)) ?_
   by_cases q11 : 0 < (((cds l).getD k (0, 0)).1)
   ·have hcb := cds_bd hr k
    rw [decide_eq_true q11]
    refine Tk 3 (tf 4 21) rfl (YI_v (v := .int .i64 (((cds l).getD k (0, 0)).1)) rfl (fun w' hw' => r_mv (v := .int .i64 (((cds l).getD k (0, 0)).1)) rfl)) ?_
    refine Tk 4 (tf 5 21) rfl (YI_v (v := .int .i64 m) rfl (fun w' hw' => r_mv (v := .int .i64 m) rfl)) ?_
    refine Tk 5 (tf 6 21) rfl (YI_v (v := .bool (decide ((((cds l).getD k (0, 0)).1) ≤ m))) rfl (fun w' hw' => r_le rfl rfl)) ?_
    refine Tk 6 (tf 7 21) rfl (YI_v rfl (fun w' hw' => r_pick_t (v := .bool (decide ((((cds l).getD k (0, 0)).1) ≤ m))) rfl rfl)) ?_
    refine Tk 7 (tf 8 21) rfl (YI_v (v := .bool (decide ((((cds l).getD k (0, 0)).1) ≤ m))) rfl (fun w' hw' => r_mv (v := .bool (decide ((((cds l).getD k (0, 0)).1) ≤ m))) rfl)) ?_
    by_cases q12 : (((cds l).getD k (0, 0)).1) ≤ m
    ·have hcb := cds_bd hr k
     rw [decide_eq_true q12]
     refine Tk 8 (tf 9 21) rfl (YI_v (v := .int .u64 bits) rfl (fun w' hw' => r_mv (v := .int .u64 bits) rfl)) ?_
     refine Tk 9 (tf 10 21) rfl (YI_v (v := .int .i64 m) rfl (fun w' hw' => r_mv (v := .int .i64 m) rfl)) ?_
     refine Tk 10 (tf 11 21) rfl (YI_v (v := .int .i64 (((cds l).getD k (0, 0)).1)) rfl (fun w' hw' => r_mv (v := .int .i64 (((cds l).getD k (0, 0)).1)) rfl)) ?_
     refine Tk 11 (tf 12 21) rfl (YI_v (v := .int .i64 (m - (((cds l).getD k (0, 0)).1))) rfl (fun w' hw' => r_sub rfl rfl (wi64 (by omega) (by omega)))) ?_
     refine Tk 12 (tf 13 21) rfl (YI_v (v := .int .u64 (bits / 2 ^ (min (m - (((cds l).getD k (0, 0)).1)).toNat IntKind.u64.bits))) rfl (fun w' hw' => r_shr rfl rfl (by omega) rfl)) ?_
     refine Tk 13 (tf 14 21) rfl (YI_v (v := .slice a1 n c1) rfl (fun w' hw' => r_mv (v := .slice a1 n c1) rfl)) ?_
     refine Tk 14 (tf 15 21) rfl (YI_v (v := .int .i64 ((k : Nat) : Int)) rfl (fun w' hw' => r_mv (v := .int .i64 ((k : Nat) : Int)) rfl)) ?_
     obtain ⟨ib10, io10, ha10, hib10, hc10⟩ := Sl.rat (0, 0) encC_len (by decide) (hO1.sl) (i := k) (by omega)
     refine Tk 15 (tf 16 21) rfl (YI_v (v := .pointer (some ⟨ib10, io10 + k * 2, none⟩)) rfl (fun w' hw' => r_idx (b := ib10) (off := io10) (m := n) (c := c1) (o' := io10 + k * 2) underlying92 sizeOf106 (by rw [← ha10]; rfl) rfl (by omega) (by omega) (by omega))) ?_
     refine Tk 16 (tf 17 21) rfl (YI_v (v := .pointer (some ⟨ib10, io10 + k * 2 + 1, none⟩)) rfl (fun w' hw' => r_fld underlying106 rfl sizeOf104 rfl rfl)) ?_
     refine Tk 17 (tf 18 21) rfl (YI_v (v := .int .u32 (((cds l).getD k (0, 0)).2)) rfl (fun w' hw' => r_load (v := .int .u32 (((cds l).getD k (0, 0)).2)) isAgg104 rfl (hw'.cellk (hc10 1 (by decide))))) ?_
     refine Tk 18 (tf 19 21) rfl (YI_v (v := .int .u64 (((cds l).getD k (0, 0)).2)) rfl (fun w' hw' => r_cvt underlying104 underlying76 rfl (wu64 (by omega) (by omega)))) ?_
     refine Tk 19 (tf 20 21) rfl (YI_v (v := .bool (decide ((bits / 2 ^ (min (m - (((cds l).getD k (0, 0)).1)).toNat IntKind.u64.bits)) = (((cds l).getD k (0, 0)).2)))) rfl (fun w' hw' => r_eq rfl rfl)) ?_
     refine Tk 20 (tf 21 21) rfl (YI_v rfl (fun w' hw' => r_pick_t (v := .bool (decide ((bits / 2 ^ (min (m - (((cds l).getD k (0, 0)).1)).toNat IntKind.u64.bits)) = (((cds l).getD k (0, 0)).2)))) rfl rfl)) ?_
     intro w11 hU11
     have hzw11 := hU11.size
     replace HU := HU.trans0 hU11
     replace HL8 := HL8.trans0 hU11
     refine Wa_done (by kernel_rfl) ?_
     by_cases q13 : (bits / 2 ^ (min (m - (((cds l).getD k (0, 0)).1)).toNat IntKind.u64.bits)) = (((cds l).getD k (0, 0)).2)
     ·have hcb := cds_bd hr k
      rw [decide_eq_true q13]
      refine W_cond_t rfl ?_
      refine W_seq (W_region ?_)
      refine Wmv (.int .i64 ((k : Nat) : Int)) ?_
      refine Wmv (.int .i64 (((cds l).getD k (0, 0)).1)) ?_
      refine Was (.int .i64 ((k : Nat) : Int)) ?_
      refine Was (.int .i64 (((cds l).getD k (0, 0)).1)) ?_
      refine Was (.int .i64 0) ?_
      refine Wl_nil ?_
      refine W_ret ?_
      refine ret_end (v := .tuple #[.int .i64 ((k : Nat) : Int), .int .i64 (((cds l).getD k (0, 0)).1), .int .i64 0]) rfl (res3 results114 rfl rfl rfl) ?_
      have hfx := fidx_at (0, 0) (q := qrd bits m) (l := cds l) (k := k) (by rw [cds_len]; omega) hall (show qrd bits m ((cds l).getD k (0, 0)) = true by unfold qrd; rw [decide_eq_true_iff]; exact ⟨by omega, by omega, q13⟩)
      rw [dec_ok q1 (show Va bits m from ⟨by omega, by have hp0 := pdiv0 bits m (by omega); omega⟩) (by omega), hfx]
      exact ⟨_, rfl, (vtup3 (by first | rfl | exact vint (by omega)) (by first | rfl | exact vint (by omega)) (by first | rfl | exact vint (by omega))), HU⟩
     have hcb := cds_bd hr k
     rw [decide_eq_false q13]
     refine W_cond_f rfl ?_
     refine W_skip (W_region ?_)
     refine Wmv (.int .i64 ((k : Nat) : Int)) ?_
     refine Wl_v (r_add rfl rfl (wi64 (by omega) (by omega))) ?_
     refine Was (.int .i64 (((k : Nat) : Int) + 1)) ?_
     refine Wl_nil ?_
     refine ⟨_, ?_, (k + 1), rfl, rfl, ⟨rfl, rfl, rfl, (by first | rfl | exact vint (by omega) | exact vint (by simp)), trivial⟩, (by omega), (fun i hi => by rcases Nat.lt_or_ge i k with h | h; exact hall i h; rw [show i = k from by omega]; exact (show qrd bits m ((cds l).getD k (0, 0)) = false by unfold qrd; rw [decide_eq_false_iff_not]; exact fun h => q13 h.2.2)), HL8⟩
     omega
    have hcb := cds_bd hr k
    rw [decide_eq_false q12]
    refine Tk 8 (tf 9 21) rfl (YI_no rfl) ?_
    refine Tk 9 (tf 10 21) rfl (YI_no rfl) ?_
    refine Tk 10 (tf 11 21) rfl (YI_no rfl) ?_
    refine Tk 11 (tf 12 21) rfl (YI_no rfl) ?_
    refine Tk 12 (tf 13 21) rfl (YI_no rfl) ?_
    refine Tk 13 (tf 14 21) rfl (YI_no rfl) ?_
    refine Tk 14 (tf 15 21) rfl (YI_no rfl) ?_
    refine Tk 15 (tf 16 21) rfl (YI_no rfl) ?_
    refine Tk 16 (tf 17 21) rfl (YI_no rfl) ?_
    refine Tk 17 (tf 18 21) rfl (YI_no rfl) ?_
    refine Tk 18 (tf 19 21) rfl (YI_no rfl) ?_
    refine Tk 19 (tf 20 21) rfl (YI_no rfl) ?_
    refine Tk 20 (tf 21 21) rfl (YI_v rfl (fun w' hw' => r_pick_f (v := .bool false) rfl rfl)) ?_
    intro w12 hU12
    have hzw12 := hU12.size
    replace HL8 := HL8.trans0 hU12
    refine Wa_done (by kernel_rfl) ?_
    refine W_cond_f rfl ?_
    refine W_skip (W_region ?_)
    refine Wmv (.int .i64 ((k : Nat) : Int)) ?_
    refine Wl_v (r_add rfl rfl (wi64 (by omega) (by omega))) ?_
    refine Was (.int .i64 (((k : Nat) : Int) + 1)) ?_
    refine Wl_nil ?_
    refine ⟨_, ?_, (k + 1), rfl, rfl, ⟨rfl, rfl, rfl, (by first | rfl | exact vint (by omega) | exact vint (by simp)), trivial⟩, (by omega), (fun i hi => by rcases Nat.lt_or_ge i k with h | h; exact hall i h; rw [show i = k from by omega]; exact (show qrd bits m ((cds l).getD k (0, 0)) = false by unfold qrd; rw [decide_eq_false_iff_not]; exact fun h => by omega)), HL8⟩
    omega
   have hcb := cds_bd hr k
   rw [decide_eq_false q11]
   refine Tk 3 (tf 4 21) rfl (YI_no rfl) ?_
   refine Tk 4 (tf 5 21) rfl (YI_no rfl) ?_
   refine Tk 5 (tf 6 21) rfl (YI_no rfl) ?_
   refine Tk 6 (tf 7 21) rfl (YI_v rfl (fun w' hw' => r_pick_f (v := .bool false) rfl rfl)) ?_
   refine Tk 7 (tf 8 21) rfl (YI_v (v := .bool false) rfl (fun w' hw' => r_mv (v := .bool false) rfl)) ?_
   refine Tk 8 (tf 9 21) rfl (YI_no rfl) ?_
   refine Tk 9 (tf 10 21) rfl (YI_no rfl) ?_
   refine Tk 10 (tf 11 21) rfl (YI_no rfl) ?_
   refine Tk 11 (tf 12 21) rfl (YI_no rfl) ?_
   refine Tk 12 (tf 13 21) rfl (YI_no rfl) ?_
   refine Tk 13 (tf 14 21) rfl (YI_no rfl) ?_
   refine Tk 14 (tf 15 21) rfl (YI_no rfl) ?_
   refine Tk 15 (tf 16 21) rfl (YI_no rfl) ?_
   refine Tk 16 (tf 17 21) rfl (YI_no rfl) ?_
   refine Tk 17 (tf 18 21) rfl (YI_no rfl) ?_
   refine Tk 18 (tf 19 21) rfl (YI_no rfl) ?_
   refine Tk 19 (tf 20 21) rfl (YI_no rfl) ?_
   refine Tk 20 (tf 21 21) rfl (YI_v rfl (fun w' hw' => r_pick_f (v := .bool false) rfl rfl)) ?_
   intro w13 hU13
   have hzw13 := hU13.size
   replace HL8 := HL8.trans0 hU13
   refine Wa_done (by kernel_rfl) ?_
   refine W_cond_f rfl ?_
   refine W_skip (W_region ?_)
   refine Wmv (.int .i64 ((k : Nat) : Int)) ?_
   refine Wl_v (r_add rfl rfl (wi64 (by omega) (by omega))) ?_
   refine Was (.int .i64 (((k : Nat) : Int) + 1)) ?_
   refine Wl_nil ?_
   refine ⟨_, ?_, (k + 1), rfl, rfl, ⟨rfl, rfl, rfl, (by first | rfl | exact vint (by omega) | exact vint (by simp)), trivial⟩, (by omega), (fun i hi => by rcases Nat.lt_or_ge i k with h | h; exact hall i h; rw [show i = k from by omega]; exact (show qrd bits m ((cds l).getD k (0, 0)) = false by unfold qrd; rw [decide_eq_false_iff_not]; exact fun h => by omega)), HL8⟩
   omega
  rw [decide_eq_false q10]
  refine W_cond_f rfl ?_
  refine W_exit ?_
  refine W_seq (W_region ?_)
  refine Was (.int .i64 0) ?_
  refine Was (.int .i64 0) ?_
  refine Was (.int .i64 3) ?_
  refine Wl_nil ?_
  refine W_ret ?_
  refine ret_end (v := .tuple #[.int .i64 0, .int .i64 0, .int .i64 3]) rfl (res3 results114 rfl rfl rfl) ?_
  have hfx := fidx_none (0, 0) (q := qrd bits m) (l := cds l) (fun i hi => hall i (by rw [cds_len] at hi; omega))
  rw [dec_short q1 (show Va bits m from ⟨by omega, by have hp0 := pdiv0 bits m (by omega); omega⟩) (by omega)]
  exact ⟨_, rfl, (vtup3 (by first | rfl | exact vint (by omega)) (by first | rfl | exact vint (by omega)) (by first | rfl | exact vint (by omega))), HU⟩
 refine Wl_call (r_call1 rfl call75 rfl) (rcodes_no _ hs (by omega) q1) ?_
 rintro v w14 ⟨rfl, hU14⟩
 have hzw14 := hU14.size
 replace HU := HU.trans0 hU14
 refine Wmv (.tuple #[.slice none 0 0, .int .i64 12]) ?_
 refine Wl_v (r_ext (v := .slice none 0 0) rfl rfl) ?_
 refine Wl_v (r_ext (v := .int .i64 12) rfl rfl) ?_
 refine Was (.slice none 0 0) ?_
 refine Was (.int .i64 12) ?_
 refine Wl_nil (W_seq (W_seq (W_region ?_)))
 refine Wmv (.int .i64 12) ?_
 refine Wl_v (v := .bool true) (r_ne (a := 12) (b := 0) rfl rfl) ?_
 refine Wl_nil ?_
 refine W_cond_t rfl ?_
 refine W_seq (W_region ?_)
 refine Wmv (.int .i64 12) ?_
 refine Was (.int .i64 0) ?_
 refine Was (.int .i64 0) ?_
 refine Was (.int .i64 12) ?_
 refine Wl_nil ?_
 refine W_ret ?_
 refine ret_end (v := .tuple #[.int .i64 0, .int .i64 0, .int .i64 12]) rfl (res3 results114 rfl rfl rfl) ?_
 rw [dec_no q1]
 exact ⟨_, rfl, (vtup3 (by first | rfl | exact vint (by omega)) (by first | rfl | exact vint (by omega)) (by first | rfl | exact vint (by omega))), HU⟩
def cdsR (l : List Int) : List (Int × Int) := if Rt l then cds l else []
def ordR (l : List Int) : List Int := if Rt l then ord l else []
theorem ord_nil : ord [] = [] := by decide
theorem all_spec {a : Option Addr} {n c : Nat} {l : List Int} {R : Nat → Prop} (w : World) (hs : Sl w R 1 (.slice a n c) n (ints .i64 l)) (hn : n ≤ 17592186044415) :
  Calls Tryz.prog 148 #[.slice a n c] w (Ret fun v w' => ∃ (Bo : Nat) (Bc : Nat) (a' : Option Addr) (m' : Nat) (c' : Nat) (b' : Option Addr) (n' : Nat) (d' : Nat), v = .func (.func 155) #[] #[.pointer (some ⟨Bo, 0, none⟩), .pointer (some ⟨Bc, 0, none⟩)] ∧ Blk w' Bo [.slice a' m' c'] ∧ Blk w' Bc [.slice b' n' d'] ∧ Own w' (fun g => w.heap.size ≤ g) 3 1 (.slice a' m' c') m' (ints .i64 (ordR l)) ∧ Own w' (fun g => w.heap.size ≤ g) 106 2 (.slice b' n' d') n' (rows encC (cdsR l)) ∧ w.heap.size ≤ Bo ∧ w.heap.size ≤ Bc ∧ Upd No w w') := by
 have HU := Upd.rno w
 have hl_hs := ilen hs
 have hc_hs := hs.cap.1
 replace hs := hs.tight
 refine calls_of_W func148 rfl ntmps148 (by simp) ?_
 refine W_seq (W_region ?_)
 refine Was (.nilFunc) ?_
 refine Wl_nil (W_seq (W_region ?_))
 refine Wmv (.slice a n c) ?_
 by_cases q1 : Rt l
 ·refine Wl_call (r_call1 rfl call88 rfl) (codes_ok _ hs (by omega) q1) ?_
  rintro v w1 ⟨a1, c1, rfl, hO1, hU1⟩
  have hzw1 := hU1.size
  replace HU := HU.trans0 hU1
  replace hO1 := hO1.tight
  have hl_hO1 := rlen encC_len (by decide) hO1.sl
  have hc_hO1 := hO1.sl.cap.1
  have hr := q1
  have h256 := hr.2.1
  refine Wmv (.tuple #[.slice a1 n c1, .int .i64 0]) ?_
  refine Wl_v (r_ext (v := .slice a1 n c1) rfl rfl) ?_
  refine Wl_v (r_ext (v := .int .i64 0) rfl rfl) ?_
  refine Wl_alloc (cs := [.slice none 0 0]) zeroValue92 rfl ?_
  intro B2 w2 hB2 hU2 hzz2 hb2
  have hzw2 := hU2.size
  replace HU := HU.trans0 hU2
  replace hO1 := hO1.upd0 hU2
  refine Wl_store (v := .slice a1 n c1) (cs' := [.slice a1 n c1]) sizeOf92 rfl rfl rfl rfl hb2 rfl rfl ?_
  intro w3 hU3 hzz3 hb2n
  replace hb2 := hb2n; clear hb2n
  have hzw3 := hU3.size
  replace HU := HU.t1 hU3 (by omega)
  replace hO1 := hO1.upd1 hU3 (show ¬ (((w.heap.size ≤ B2) ∧ B2 < w1.heap.size)) by omega)
  refine Was (.int .i64 0) ?_
  refine Wl_nil (W_seq (W_region ?_))
  refine Wl_alloc (cs := [.slice none 0 0]) zeroValue22 rfl ?_
  intro B4 w4 hB4 hU4 hzz4 hb4
  have hzw4 := hU4.size
  replace HU := HU.trans0 hU4
  replace hO1 := hO1.upd0 hU4
  replace hb2 := hb2.upd0 hU4
  refine Wl_nil (W_seq (W_seq (W_region ?_)))
  refine Was (.int .i64 1) ?_
  refine Wl_nil (W_block ?_)
  have hBlt := hb4.lt
  refine W_loop (fun mu ρ ds w' => ∃ (q : Nat) (a2 : Option Addr) (m c2 : Nat), 11 - q = mu ∧ ds = [] ∧ Liv ρ [(3, .pointer (some ⟨B2, 0, none⟩)), (5, .pointer (some ⟨B4, 0, none⟩)), (6, .int .i64 ((q + 1 : Nat) : Int))] ∧ q ≤ 11 ∧ Blk w' B4 [.slice a2 m c2] ∧ Own w' (fun g => w4.heap.size ≤ g) 3 1 (.slice a2 m c2) m (ints .i64 (ordU l q)) ∧ Upd (fun g => g = B4 ∨ w4.heap.size ≤ g) w4 w') _ ⟨0, none, 0, 0, rfl, rfl, ⟨rfl, rfl, (by first | rfl | exact vint (by omega) | exact vint (by simp)), trivial⟩, (by omega), hb4, (Own.nil _ _ _ _), Upd.refl _ _⟩ ?_
  rintro m5 ρ5 ds5 w5 ⟨q, a2, m, c2, rfl, rfl, hl5, hq, hb4, hO, hU5⟩
  obtain ⟨ρ5x, rfl⟩ : ∃ ρx, ρ5 = upds ρx [(3, .pointer (some ⟨B2, 0, none⟩)), (5, .pointer (some ⟨B4, 0, none⟩)), (6, .int .i64 ((q + 1 : Nat) : Int))] := ⟨_, upds_self hl5⟩
  clear hl5
  have hzw5 := hU5.size
  replace HU := HU.trans hU5 (by intro x hx; have hx2 : x = B4 ∨ w4.heap.size ≤ x := hx; show (False) ∨ w.heap.size ≤ x; omega)
  replace hO1 := hO1.upd hU5 (by intro x h1 h2; have h3 : ((w.heap.size ≤ x) ∧ x < w1.heap.size) := h1; have h4 : x = B4 ∨ w4.heap.size ≤ x := h2; omega)
  replace hb2 := hb2.upd hU5 (by intro hx; have hx2 : B2 = B4 ∨ w4.heap.size ≤ B2 := hx; omega)
  have HL5 := hU5
  refine W_seq (W_seq (W_region ?_))
  refine Wmv (.int .i64 ((q + 1 : Nat) : Int)) ?_
  refine Wl_v (r_le rfl rfl) ?_
  refine Wl_nil ?_
  by_cases q2 : ((q + 1 : Nat) : Int) ≤ 11
  ·rw [decide_eq_true q2]
   refine W_cond_t rfl ?_
   refine W_skip (W_seq (W_block (W_seq (W_region ?_))))
   refine Wl_load (v := .slice a1 n c1) isAgg92 rfl hb2 rfl ?_
   refine Wl_v (r_len underlying92 rfl) ?_
   refine Wmv (.int .i64 0) ?_
   refine Wl_nil (W_block ?_)
   refine W_loop (fun mu ρ ds w' => ∃ (k : Nat) (a3 : Option Addr) (m3 c3 : Nat), n - k = mu ∧ ds = [] ∧ Liv ρ [(3, .pointer (some ⟨B2, 0, none⟩)), (5, .pointer (some ⟨B4, 0, none⟩)), (6, .int .i64 ((q + 1 : Nat) : Int)), (18, .slice a1 n c1), (19, .int .i64 ((n : Nat) : Int)), (20, .int .i64 ((k : Nat) : Int))] ∧ k ≤ n ∧ Blk w' B4 [.slice a3 m3 c3] ∧ Own w' (fun g => w4.heap.size ≤ g) 3 1 (.slice a3 m3 c3) m3 (ints .i64 (ordU l q ++ blk l (q + 1) k)) ∧ Upd (fun g => g = B4 ∨ w4.heap.size ≤ g) w5 w') _ ⟨0, a2, m, c2, rfl, rfl, ⟨rfl, rfl, rfl, rfl, rfl, (by first | rfl | exact vint (by omega) | exact vint (by simp)), trivial⟩, (by omega), hb4, (hO.icong (by simp [blk])), Upd.refl _ _⟩ ?_
   rintro m6 ρ6 ds6 w6 ⟨k, a3, m3, c3, rfl, rfl, hl6, hk, hb4, hO3, hU6⟩
   obtain ⟨ρ6x, rfl⟩ : ∃ ρx, ρ6 = upds ρx [(3, .pointer (some ⟨B2, 0, none⟩)), (5, .pointer (some ⟨B4, 0, none⟩)), (6, .int .i64 ((q + 1 : Nat) : Int)), (18, .slice a1 n c1), (19, .int .i64 ((n : Nat) : Int)), (20, .int .i64 ((k : Nat) : Int))] := ⟨_, upds_self hl6⟩
   clear hl6
   have hzw6 := hU6.size
   replace hO1 := hO1.upd hU6 (by intro x h1 h2; have h3 : ((w.heap.size ≤ x) ∧ x < w1.heap.size) := h1; have h4 : x = B4 ∨ w4.heap.size ≤ x := h2; omega)
   replace HL5 := HL5.trans hU6 (by intro x hx; have hx2 : x = B4 ∨ w4.heap.size ≤ x := hx; show (x = B4 ∨ w4.heap.size ≤ x) ∨ w4.heap.size ≤ x; omega)
   have HL6 := hU6
   refine W_seq (W_region ?_)
   refine Wl_v (r_lt rfl rfl) ?_
   refine Wl_nil (W_seq ?_)
   by_cases q3 : ((k : Nat) : Int) < ((n : Nat) : Int)
   ·replace hO3 := hO3.tight
    have hcf : ((cds l).getD k (0, 0)).1 = l.getD k 0 := by rw [cds_get (by omega), cd_fst hr.1]
    have hou := ordU_len l q (by omega)
    have hbl := blk_len (l := l) (n := q + 1) (by omega) (i := k) (by omega)
    have hcl := cn_le (l.take k) (q + 1)
    rw [List.length_take] at hcl
    have hl3 := ilen hO3.sl
    rw [List.length_append] at hl3
    have hqq : q * l.length ≤ 11 * l.length := Nat.mul_le_mul_right _ (by omega)
    rw [decide_eq_true q3]
    refine W_cond_t rfl ?_
    refine W_skip (W_seq (W_block (W_seq (W_region ?_))))
    refine Wmv (.int .i64 ((k : Nat) : Int)) ?_
    refine Wl_idxr (0, 0) encC_len (by decide) underlying92 sizeOf106 rfl rfl hO1.sl (by omega) (by omega) ?_
    intro ib7 io7 hc7
    try rw [Int.toNat_natCast] at hc7
    refine Wl_v (r_loada (cs := [.int .i64 (((cds l).getD k (0, 0)).1), .int .u32 (((cds l).getD k (0, 0)).2)]) isAgg106 sizeOf106 rfl rfl hc7) ?_
    refine Wl_alloc (cs := [.int .i64 0, .int .u32 0]) zeroValue106 rfl ?_
    intro B8 w8 hB8 hU8 hzz8 hb8
    have hzw8 := hU8.size
    replace hb4 := hb4.upd0 hU8
    replace hO3 := hO3.upd0 hU8
    replace HL6 := HL6.trans0 hU8
    refine Was (.int .i64 ((k : Nat) : Int)) ?_
    refine Wl_storea (off := 0) (vs := [.int .i64 (((cds l).getD k (0, 0)).1), .int .u32 (((cds l).getD k (0, 0)).2)]) (cs' := [.int .i64 (((cds l).getD k (0, 0)).1), .int .u32 (((cds l).getD k (0, 0)).2)]) sizeOf106 rfl rfl rfl (by simp only [List.mem_cons, List.not_mem_nil, or_false, forall_eq_or_imp, forall_eq]; exact ⟨rfl, rfl⟩) hb8 (by simp) rfl ?_
    intro w9 hU9 hzz9 hb8n
    replace hb8 := hb8n; clear hb8n
    have hzw9 := hU9.size
    replace hb4 := hb4.upd1 hU9 (by omega)
    replace hO3 := hO3.upd1 hU9 (show ¬ (((w4.heap.size ≤ B8) ∧ B8 < w6.heap.size)) by omega)
    replace HL6 := HL6.trans1 hU9 (by show (B8 = B4 ∨ w4.heap.size ≤ B8) ∨ w5.heap.size ≤ B8; omega)
    refine Wl_nil (W_seq (W_region ?_))
    refine Wl_v (r_fld underlying106 rfl sizeOf3 rfl rfl) ?_
    refine Wl_load (v := .int .i64 (((cds l).getD k (0, 0)).1)) isAgg3 rfl hb8 rfl ?_
    refine Wmv (.int .i64 ((q + 1 : Nat) : Int)) ?_
    refine Wl_v (r_eq rfl rfl) ?_
    refine Wl_nil ?_
    by_cases q4 : (((cds l).getD k (0, 0)).1) = ((q + 1 : Nat) : Int)
    ·rw [decide_eq_true q4]
     refine W_cond_t rfl ?_
     refine W_region ?_
     refine Wl_load (v := .slice a3 m3 c3) isAgg22 rfl hb4 rfl ?_
     refine Wmv (.int .i64 ((k : Nat) : Int)) ?_
     refine Wl_lit (pv := [(0, .int .i64 ((k : Nat) : Int))]) (cs := [.int .i64 ((k : Nat) : Int)]) underlying22 sizeOf3 zeroValue3 (by decide) (by decide) (by simp only [List.map_toArray, List.map_cons, List.map_nil] <;> rfl) (by kernel_rfl) rfl (by decide) ?_
     intro B10 w10 hB10 hU10 hzz10 hs10
     have hzw10 := hU10.size
     replace hb4 := hb4.upd0 hU10
     replace hO3 := hO3.upd0 hU10
     replace HL6 := HL6.trans0 hU10
     replace hs10 : Own w10 (Is B10) 3 1 (.slice (some ⟨B10, 0, none⟩) 1 1) 1 (ints .i64 [((k : Nat) : Int)]) := hs10
     refine Wl_appendi (xs := ordU l q ++ blk l (q + 1) k) (ys := [((k : Nat) : Int)]) (zs := ordU l q ++ blk l (q + 1) k ++ [((k : Nat) : Int)]) (k' := .i64) (tot := m3 + 1) (by first | rfl | exact (rows_app _ _).symm | simp) underlying22 (ti := Tryz.t3) (z := .int .i64 0) (sz := 1) (by' := 8) rfl rfl rfl rfl rfl (by decide) rfl hO3 rfl hs10.sl  (by omega) (by simp only [maxLen]; omega) (by omega) ?_
     intro a11 c11 w11 hU11 hzz11 hO11
     clear hO3
     have hzw11 := hU11.size
     replace hb4 := hb4.upd hU11 (by intro hx; have hx2 : ((w4.heap.size ≤ B4) ∧ B4 < w6.heap.size) := hx; omega)
     replace HL6 := HL6.trans hU11 (by intro x hx; have hx2 : ((w4.heap.size ≤ x) ∧ x < w6.heap.size) := hx; show (x = B4 ∨ w4.heap.size ≤ x) ∨ w5.heap.size ≤ x; omega)
     replace hO11 := hO11.tight
     have hl_hO11 := ilen hO11.sl
     have hc_hO11 := hO11.sl.cap.1
     refine Wl_store (v := .slice a11 (m3 + 1) c11) (cs' := [.slice a11 (m3 + 1) c11]) sizeOf22 rfl rfl rfl rfl hb4 rfl rfl ?_
     intro w12 hU12 hzz12 hb4n
     replace hb4 := hb4n; clear hb4n
     have hzw12 := hU12.size
     replace HL6 := HL6.trans1 hU12 (by show (B4 = B4 ∨ w4.heap.size ≤ B4) ∨ w5.heap.size ≤ B4; omega)
     replace hO11 := hO11.upd1 hU12 (by intro h1; have h3 : ((((((w4.heap.size ≤ B4) ∧ B4 < w6.heap.size)) ∨ B4 = w10.heap.size)) ∧ B4 < w11.heap.size) := h1; omega)
     refine Wl_nil (W_region ?_)
     refine Wl_v (r_add rfl rfl (wi64 (by omega) (by omega))) ?_
     refine Wmv (.int .i64 (((k : Nat) : Int) + 1)) ?_
     refine Wl_nil ?_
     refine ⟨_, ?_, (k + 1), a11, m3 + 1, c11, rfl, rfl, ⟨rfl, rfl, rfl, rfl, rfl, (Eq.trans (b := .int .i64 (((k : Nat) : Int) + 1)) rfl (vint (by omega))), trivial⟩, (by omega), hb4, ((hO11.weak (by intro g hg; have h3 : ((((((w4.heap.size ≤ g) ∧ g < w6.heap.size)) ∨ g = w10.heap.size)) ∧ g < w11.heap.size) := hg; show _ ≤ _; omega)).icong (by rw [blk, if_pos (by omega), List.append_assoc])), HL6⟩
     omega
    rw [decide_eq_false q4]
    refine W_cond_f rfl ?_
    refine W_skip (W_region ?_)
    refine Wl_v (r_add rfl rfl (wi64 (by omega) (by omega))) ?_
    refine Wmv (.int .i64 (((k : Nat) : Int) + 1)) ?_
    refine Wl_nil ?_
    refine ⟨_, ?_, (k + 1), a3, m3, c3, rfl, rfl, ⟨rfl, rfl, rfl, rfl, rfl, (Eq.trans (b := .int .i64 (((k : Nat) : Int) + 1)) rfl (vint (by omega))), trivial⟩, (by omega), hb4, ((hO3.weak (by intro g hg; have h3 : ((w4.heap.size ≤ g) ∧ g < w6.heap.size) := hg; show _ ≤ _; omega)).icong (by rw [blk, if_neg (by omega), List.append_nil])), HL6⟩
    omega
   rw [decide_eq_false q3]
   refine W_cond_f rfl ?_
   refine W_exit ?_
   refine W_region ?_
   refine Wmv (.int .i64 ((q + 1 : Nat) : Int)) ?_
   refine Wl_v (r_add rfl rfl (wi64 (by omega) (by omega))) ?_
   refine Was (.int .i64 (((q + 1 : Nat) : Int) + 1)) ?_
   refine Wl_nil ?_
   refine ⟨_, ?_, (q + 1), a3, m3, c3, rfl, rfl, ⟨rfl, rfl, (Eq.trans (b := .int .i64 (((q + 1 : Nat) : Int) + 1)) rfl (vint (by omega))), trivial⟩, (by omega), hb4, ((hO3.weak (by intro g hg; have h3 : w4.heap.size ≤ g := hg; show _ ≤ _; omega)).icong (by rw [ordU, show k = l.length from by omega])), HL5⟩
   omega
  have hq11 : q = 11 := by omega
  rw [decide_eq_false q2]
  refine W_cond_f rfl ?_
  refine W_exit ?_
  refine W_seq (W_region ?_)
  refine Wl_v (r_mkf2 (v0 := .pointer (some ⟨B4, 0, none⟩)) (v1 := .pointer (some ⟨B2, 0, none⟩)) rfl rfl) ?_
  refine Was (.func (.func 155) #[] #[.pointer (some ⟨B4, 0, none⟩), .pointer (some ⟨B2, 0, none⟩)]) ?_
  refine Wl_nil ?_
  refine W_ret ?_
  refine ret_end (v := .func (.func 155) #[] #[.pointer (some ⟨B4, 0, none⟩), .pointer (some ⟨B2, 0, none⟩)]) rfl (res1 results148 rfl) ?_
  rw [show cdsR l = cds l from if_pos q1, show ordR l = ord l from if_pos q1]
  exact ⟨_, rfl, B4, B2, a2, m, c2, a1, n, c1, rfl, hb4, hb2, ((hO.weak (by intro g hg; have h3 : w4.heap.size ≤ g := hg; show w.heap.size ≤ g; omega)).icong (by rw [hq11]; first | rfl | exact ord_nil)), (by first | exact hO1.weak (by intro g hg; have h3 : ((w.heap.size ≤ g) ∧ g < w1.heap.size) := hg; show w.heap.size ≤ g; omega) | simpa using hO1.weak (by intro g hg; have h3 : ((w.heap.size ≤ g) ∧ g < w1.heap.size) := hg; show w.heap.size ≤ g; omega)), (by omega), (by omega), HU⟩
 refine Wl_call (r_call1 rfl call88 rfl) (codes_no _ hs (by omega) q1) ?_
 rintro v w13 ⟨rfl, hU13⟩
 have hzw13 := hU13.size
 replace HU := HU.trans0 hU13
 refine Wmv (.tuple #[.slice none 0 0, .int .i64 12]) ?_
 refine Wl_v (r_ext (v := .slice none 0 0) rfl rfl) ?_
 refine Wl_v (r_ext (v := .int .i64 12) rfl rfl) ?_
 refine Wl_alloc (cs := [.slice none 0 0]) zeroValue92 rfl ?_
 intro B14 w14 hB14 hU14 hzz14 hb14
 have hzw14 := hU14.size
 replace HU := HU.trans0 hU14
 refine Wl_store (v := .slice none 0 0) (cs' := [.slice none 0 0]) sizeOf92 rfl rfl rfl rfl hb14 rfl rfl ?_
 intro w15 hU15 hzz15 hb14n
 replace hb14 := hb14n; clear hb14n
 have hzw15 := hU15.size
 replace HU := HU.t1 hU15 (by omega)
 refine Was (.int .i64 12) ?_
 refine Wl_nil (W_seq (W_region ?_))
 refine Wl_alloc (cs := [.slice none 0 0]) zeroValue22 rfl ?_
 intro B16 w16 hB16 hU16 hzz16 hb16
 have hzw16 := hU16.size
 replace HU := HU.trans0 hU16
 replace hb14 := hb14.upd0 hU16
 refine Wl_nil (W_seq (W_seq (W_region ?_)))
 refine Was (.int .i64 1) ?_
 refine Wl_nil (W_block ?_)
 have hBlt := hb16.lt
 refine W_loop (fun mu ρ ds w' => ∃ (q : Nat) (a2 : Option Addr) (m c2 : Nat), 11 - q = mu ∧ ds = [] ∧ Liv ρ [(3, .pointer (some ⟨B14, 0, none⟩)), (5, .pointer (some ⟨B16, 0, none⟩)), (6, .int .i64 ((q + 1 : Nat) : Int))] ∧ q ≤ 11 ∧ Blk w' B16 [.slice a2 m c2] ∧ Own w' (fun g => w16.heap.size ≤ g) 3 1 (.slice a2 m c2) m (ints .i64 (ordU ([] : List Int) q)) ∧ Upd (fun g => g = B16 ∨ w16.heap.size ≤ g) w16 w') _ ⟨0, none, 0, 0, rfl, rfl, ⟨rfl, rfl, (by first | rfl | exact vint (by omega) | exact vint (by simp)), trivial⟩, (by omega), hb16, (Own.nil _ _ _ _), Upd.refl _ _⟩ ?_
 rintro m17 ρ17 ds17 w17 ⟨q, a2, m, c2, rfl, rfl, hl17, hq, hb16, hO, hU17⟩
 obtain ⟨ρ17x, rfl⟩ : ∃ ρx, ρ17 = upds ρx [(3, .pointer (some ⟨B14, 0, none⟩)), (5, .pointer (some ⟨B16, 0, none⟩)), (6, .int .i64 ((q + 1 : Nat) : Int))] := ⟨_, upds_self hl17⟩
 clear hl17
 have hzw17 := hU17.size
 replace HU := HU.trans hU17 (by intro x hx; have hx2 : x = B16 ∨ w16.heap.size ≤ x := hx; show (False) ∨ w.heap.size ≤ x; omega)
 replace hb14 := hb14.upd hU17 (by intro hx; have hx2 : B14 = B16 ∨ w16.heap.size ≤ B14 := hx; omega)
 have HL17 := hU17
 refine W_seq (W_seq (W_region ?_))
 refine Wmv (.int .i64 ((q + 1 : Nat) : Int)) ?_
 refine Wl_v (r_le rfl rfl) ?_
 refine Wl_nil ?_
 by_cases q5 : ((q + 1 : Nat) : Int) ≤ 11
 ·rw [decide_eq_true q5]
  refine W_cond_t rfl ?_
  refine W_skip (W_seq (W_block (W_seq (W_region ?_))))
  refine Wl_load (v := .slice none 0 0) isAgg92 rfl hb14 rfl ?_
  refine Wl_v (r_len underlying92 rfl) ?_
  refine Wmv (.int .i64 0) ?_
  refine Wl_nil (W_block ?_)
  refine W_loop (fun mu ρ ds w' => ∃ (k : Nat) (a3 : Option Addr) (m3 c3 : Nat), 0 - k = mu ∧ ds = [] ∧ Liv ρ [(3, .pointer (some ⟨B14, 0, none⟩)), (5, .pointer (some ⟨B16, 0, none⟩)), (6, .int .i64 ((q + 1 : Nat) : Int)), (18, .slice none 0 0), (19, .int .i64 ((0 : Nat) : Int)), (20, .int .i64 ((k : Nat) : Int))] ∧ k ≤ 0 ∧ Blk w' B16 [.slice a3 m3 c3] ∧ Own w' (fun g => w16.heap.size ≤ g) 3 1 (.slice a3 m3 c3) m3 (ints .i64 (ordU ([] : List Int) q ++ blk ([] : List Int) (q + 1) k)) ∧ Upd (fun g => g = B16 ∨ w16.heap.size ≤ g) w17 w') _ ⟨0, a2, m, c2, rfl, rfl, ⟨rfl, rfl, rfl, rfl, rfl, (by first | rfl | exact vint (by omega) | exact vint (by simp)), trivial⟩, (by omega), hb16, (hO.icong (by simp [blk])), Upd.refl _ _⟩ ?_
  rintro m18 ρ18 ds18 w18 ⟨k, a3, m3, c3, rfl, rfl, hl18, hk, hb16, hO3, hU18⟩
  obtain ⟨ρ18x, rfl⟩ : ∃ ρx, ρ18 = upds ρx [(3, .pointer (some ⟨B14, 0, none⟩)), (5, .pointer (some ⟨B16, 0, none⟩)), (6, .int .i64 ((q + 1 : Nat) : Int)), (18, .slice none 0 0), (19, .int .i64 ((0 : Nat) : Int)), (20, .int .i64 ((k : Nat) : Int))] := ⟨_, upds_self hl18⟩
  clear hl18
  have hzw18 := hU18.size
  replace HL17 := HL17.trans hU18 (by intro x hx; have hx2 : x = B16 ∨ w16.heap.size ≤ x := hx; show (x = B16 ∨ w16.heap.size ≤ x) ∨ w16.heap.size ≤ x; omega)
  have HL18 := hU18
  refine W_seq (W_region ?_)
  refine Wl_v (r_lt rfl rfl) ?_
  refine Wl_nil (W_seq ?_)
  have q6 : ¬ (((k : Nat) : Int) < ((0 : Nat) : Int)) := (by omega)
  rw [decide_eq_false q6]
  refine W_cond_f rfl ?_
  refine W_exit ?_
  refine W_region ?_
  refine Wmv (.int .i64 ((q + 1 : Nat) : Int)) ?_
  refine Wl_v (r_add rfl rfl (wi64 (by omega) (by omega))) ?_
  refine Was (.int .i64 (((q + 1 : Nat) : Int) + 1)) ?_
  refine Wl_nil ?_
  refine ⟨_, ?_, (q + 1), a3, m3, c3, rfl, rfl, ⟨rfl, rfl, (Eq.trans (b := .int .i64 (((q + 1 : Nat) : Int) + 1)) rfl (vint (by omega))), trivial⟩, (by omega), hb16, ((hO3.weak (by intro g hg; have h3 : w16.heap.size ≤ g := hg; show _ ≤ _; omega)).icong (by rw [ordU, show k = ([] : List Int).length from by simp; omega])), HL17⟩
  omega
 have hq11 : q = 11 := by omega
 rw [decide_eq_false q5]
 refine W_cond_f rfl ?_
 refine W_exit ?_
 refine W_seq (W_region ?_)
 refine Wl_v (r_mkf2 (v0 := .pointer (some ⟨B16, 0, none⟩)) (v1 := .pointer (some ⟨B14, 0, none⟩)) rfl rfl) ?_
 refine Was (.func (.func 155) #[] #[.pointer (some ⟨B16, 0, none⟩), .pointer (some ⟨B14, 0, none⟩)]) ?_
 refine Wl_nil ?_
 refine W_ret ?_
 refine ret_end (v := .func (.func 155) #[] #[.pointer (some ⟨B16, 0, none⟩), .pointer (some ⟨B14, 0, none⟩)]) rfl (res1 results148 rfl) ?_
 rw [show cdsR l = [] from if_neg q1, show ordR l = [] from if_neg q1]
 exact ⟨_, rfl, B16, B14, a2, m, c2, none, 0, 0, rfl, hb16, hb14, ((hO.weak (by intro g hg; have h3 : w16.heap.size ≤ g := hg; show w.heap.size ≤ g; omega)).icong (by rw [hq11]; first | rfl | exact ord_nil)), (by first | exact Own.nil _ _ 106 2 | simpa using Own.nil _ _ 106 2), (by omega), (by omega), HU⟩
theorem all1_spec {ly Bo Bc n c m d : Nat} {a b : Option Addr} {xs : List Int} {cl : List (Int × Int)} {J : Nat → World → Prop} {Jx : World → Prop} {Sb R T : Nat → Prop} (w : World) (hB : Blk w Bo [.slice a n c]) (hs : Sl w R 1 (.slice a n c) n (ints .i64 xs)) (hB3 : Blk w Bc [.slice b m d]) (hs3 : Sl w T 2 (.slice b m d) m (rows encC cl)) (hn : n ≤ 17592186044415) (hm : m ≤ 17592186044415) (hx : ∀ i, i < n → 0 ≤ xs.getD i 0 ∧ xs.getD i 0 < m) (hSR : ∀ g, R g → ¬ Sb g) (hSB : ¬ Sb Bc) (hST : ∀ g, T g → ¬ Sb g) (hJ0 : J 0 w) (hy : ∀ j w, j < n → J j w → YieldC Tryz.prog ly #[.int .i64 (xs.getD j 0), .agg #[.int .i64 (cl.getD (xs.getD j 0).toNat (0, 0)).1, .int .u32 (cl.getD (xs.getD j 0).toNat (0, 0)).2]] w (fun e w' => (e = .returned (.bool true) ∧ (Upd Sb w w' ∧ J (j + 1) w')) ∨ (e = .returned (.bool false) ∧ Jx w'))) :
  Calls Tryz.prog 155 #[.func (.yield ly) #[] #[], .pointer (some ⟨Bo, 0, none⟩), .pointer (some ⟨Bc, 0, none⟩)] w (Ret fun v w' => J n w' ∨ Jx w') := by
 have HU := Upd.rno w
 have hl_hs := ilen hs
 have hl_hs3 := rlen encC_len (by decide) hs3
 have hc_hs := hs.cap.1
 have hc_hs3 := hs3.cap.1
 refine calls_of_W func155 rfl ntmps155 (by simp) ?_
 refine W_scope ?_
 refine W_seq ?_
 refine W_label ?_
 refine W_seq (W_region ?_)
 refine Wl_load (v := .slice a n c) isAgg22 rfl hB rfl ?_
 refine Wl_v (r_len underlying22 rfl) ?_
 refine Wmv (.int .i64 0) ?_
 refine Wl_nil (W_block ?_)
 refine W_loop (fun mu ρ ds w' => ∃ (j : Nat), n - j = mu ∧ ds = [] ∧ Liv ρ [(0, .func (.yield ly) #[] #[]), (1, .pointer (some ⟨Bo, 0, none⟩)), (2, .pointer (some ⟨Bc, 0, none⟩)), (6, .slice a n c), (7, .int .i64 ((n : Nat) : Int)), (8, .int .i64 ((j : Nat) : Int))] ∧ j ≤ n ∧ Sl w' R 1 (.slice a n c) n (ints .i64 xs) ∧ Blk w' Bc [.slice b m d] ∧ Sl w' T 2 (.slice b m d) m (rows encC cl) ∧ J j w') _ ⟨0, rfl, rfl, ⟨rfl, rfl, rfl, rfl, rfl, (by first | rfl | exact vint (by omega) | exact vint (by simp)), trivial⟩, (by omega), hs, hB3, hs3, hJ0⟩ ?_
 rintro m1 ρ1 ds1 w1 ⟨j, rfl, rfl, hl1, hj, hs, hB3, hs3, hJ0⟩
 obtain ⟨ρ1x, rfl⟩ : ∃ ρx, ρ1 = upds ρx [(0, .func (.yield ly) #[] #[]), (1, .pointer (some ⟨Bo, 0, none⟩)), (2, .pointer (some ⟨Bc, 0, none⟩)), (6, .slice a n c), (7, .int .i64 ((n : Nat) : Int)), (8, .int .i64 ((j : Nat) : Int))] := ⟨_, upds_self hl1⟩
 clear hl1
 refine W_seq (W_region ?_)
 refine Wl_v (r_lt rfl rfl) ?_
 refine Wl_nil (W_seq ?_)
 by_cases q1 : ((j : Nat) : Int) < ((n : Nat) : Int)
 ·have hxj := hx j (by omega)
  rw [decide_eq_true q1]
  refine W_cond_t rfl ?_
  refine W_skip (W_seq (W_block (W_seq (W_region ?_))))
  refine Wl_idxi underlying22 sizeOf3 rfl rfl hs (by omega) (by omega) ?_
  intro ib2 io2 hc2
  rw [Int.toNat_natCast] at hc2
  refine Wl_loadc isAgg3 rfl hc2 ?_
  refine Was (.int .i64 (xs.getD j 0)) ?_
  refine Wl_nil (W_seq (W_region ?_))
  refine Wmv (.func (.yield ly) #[] #[]) ?_
  refine Wmv (.int .i64 (xs.getD j 0)) ?_
  refine Wl_load (v := .slice b m d) isAgg92 rfl hB3 rfl ?_
  refine Wmv (.int .i64 (xs.getD j 0)) ?_
  refine Wl_idxr (0, 0) encC_len (by decide) underlying92 sizeOf106 rfl rfl hs3 (by omega) (by omega) ?_
  intro ib3 io3 hc3
  refine Wl_v (r_loada (cs := [.int .i64 ((cl.getD (xs.getD j 0).toNat (0, 0)).1), .int .u32 ((cl.getD (xs.getD j 0).toNat (0, 0)).2)]) isAgg106 sizeOf106 rfl rfl hc3) ?_
  refine Wl_yield2 rfl rfl rfl (hy j _ (by omega) hJ0) ?_ ?_
  ·rintro w4 ⟨hU4, hJn⟩
   replace hs := hs.upd hU4 hSR
   replace hB3 := hB3.upd hU4 hSB
   replace hs3 := hs3.upd hU4 hST
   replace hJ0 := hJn
   refine Wl_v (r_not (b := true) rfl) ?_
   refine Wl_nil ?_
   refine W_cond_f rfl ?_
   refine W_skip (W_region ?_)
   refine Wl_v (r_add rfl rfl (wi64 (by omega) (by omega))) ?_
   refine Wmv (.int .i64 (((j : Nat) : Int) + 1)) ?_
   refine Wl_nil ?_
   refine ⟨_, ?_, (j + 1), rfl, rfl, ⟨rfl, rfl, rfl, rfl, rfl, (Eq.trans (b := .int .i64 (((j : Nat) : Int) + 1)) rfl (vint (by omega))), trivial⟩, (by omega), hs, hB3, hs3, hJ0⟩
   omega
  rintro w5 hJx
  refine Wl_v (r_not (b := false) rfl) ?_
  refine Wl_nil ?_
  refine W_cond_t rfl ?_
  refine W_exit ?_
  refine nrm_end (v := .tuple #[]) rfl (res0 results155) ?_
  exact ⟨_, rfl, Or.inr hJx⟩
 rw [decide_eq_false q1]
 refine W_cond_f rfl ?_
 refine W_exit ?_
 refine nrm_end (v := .tuple #[]) rfl (res0 results155) ?_
 obtain hjm : j = n := by omega
 exact ⟨_, rfl, Or.inl (by rw [← hjm]; exact hJ0)⟩
def bg (s k : Nat) : Int := if s < k then 1 else 0
end Go.Proofs.YtdppageondgjkaaGreat
