/-
 Walks, printed by a small program of this project (gen.py).
-/
import Derived.Test.YtilegaokfamfnaaRows
import Derived.Test.YtilegaokfamfnaaCa
set_option linter.unusedVariables false
set_option linter.unusedSimpArgs false
namespace Go.Proofs.Ytilegaokfamfnaa
open Go.Fw

set_option maxRecDepth 100000 in
theorem caught_ret {be : Nat} {cl : Value} (w : World) :
  CD Try.prog 79 #[.pointer (some ⟨be, 0, none⟩), cl] (.returning) w (fun e u' w' => u' = .returning ∧ (Ret fun v w' => v = .tuple #[] ∧ Upd No w w') e w') := by
 have HU : Upd (fun b => False) w w := Upd.refl _ _
 refine CD_recover (v := .nilIface) (u' := .returning) Try.func79 rfl Try.ntmps79 (by simp) rfl (fun ρ w => by simp [execOp, resolve, invoke, builtin]) rfl rfl (fun ρ w => by simp [execOp]) rfl rfl (by decide) (fun c₀ cs h => .inr ⟨rec_none c₀ cs h, rfl, rfl⟩) ?_
 refine W_seq ?_
 refine W_region ?_
 refine Wl_v (r_mv (v := .nilIface) rfl) ?_
 refine Wl_v (r_nei_n Try.underlying20 rfl rfl) ?_
 refine Wl_nil ?_
 refine W_cond_f rfl ?_
 refine W_skip ?_
 refine cd_nrm (v := .tuple #[]) (res0 Try.results79) ?_
 exact ⟨_, rfl, rfl, HU⟩

set_option maxRecDepth 100000 in
theorem caught_pan {be : Nat} {er0 er : Int} {gf : FuncId} {caps : Array Value} {S : Nat → Prop} {Φ : World → Prop} (w : World) (hb : Blk w be [.int .i64 er0]) (hgf : ∀ ar w, (callFunc gf ar).run Try.prog w = .ok (.enter gf ar) w) (hS : ¬ S be) (hc : Calls Try.prog gf caps w (Ret fun v w1 => v = .tuple #[] ∧ Φ w1 ∧ Upd S w w1)) :
  CD Try.prog 79 #[.pointer (some ⟨be, 0, none⟩), .func (.func gf) #[] caps] (.panicking (pan (.iface 25 (.int .i64 er)))) w (fun e u' w' => u' = .panicking [{ v := .iface 25 (.int .i64 er), recovered := true }] ∧ (Ret fun v w' => v = .tuple #[] ∧ ∃ wq, Φ wq ∧ Upd S w wq ∧ Upd (Is be) wq w' ∧ Blk w' be [.int .i64 er]) e w') := by
 have HU : Upd (fun b => False) w w := Upd.refl _ _
 refine CD_recover (v := .iface 25 (.int .i64 er)) (u' := .panicking [{ v := .iface 25 (.int .i64 er), recovered := true }]) Try.func79 rfl Try.ntmps79 (by simp) rfl (fun ρ w => by simp [execOp, resolve, invoke, builtin]) rfl rfl (fun ρ w => by simp [execOp]) rfl rfl (by decide) (fun c₀ cs h => .inl (rec_some c₀ cs h)) ?_
 refine W_seq ?_
 refine W_region ?_
 refine Wl_v (r_mv (v := .iface 25 (.int .i64 er)) rfl) ?_
 refine Wl_v (r_nei_s Try.underlying20 rfl rfl) ?_
 refine Wl_nil ?_
 refine W_cond_t rfl ?_
 refine W_seq ?_
 refine W_region ?_
 refine Wl_v (r_mv (v := .iface 25 (.int .i64 er)) rfl) ?_
 refine Wl_v (r_ta Try.underlying25 (fun m h => by cases h) rfl) ?_
 refine Wl_v (r_mv (v := .tuple #[.int .i64 er, .bool true]) rfl) ?_
 refine Wl_v (r_ext (v := .int .i64 er) rfl rfl) ?_
 refine Wl_v (r_ext (v := .bool true) rfl rfl) ?_
 refine Wl_v (r_as (v := .int .i64 er) rfl) ?_
 refine Wl_v (r_as (v := .bool true) rfl) ?_
 refine Wl_nil ?_
 refine W_seq ?_
 refine W_seq ?_
 refine W_region ?_
 refine Wl_v (r_mv (v := .bool true) rfl) ?_
 refine Wl_v (r_not (b := true) rfl) ?_
 refine Wl_nil ?_
 refine W_cond_f rfl ?_
 refine W_skip ?_
 refine W_seq ?_
 refine W_region ?_
 refine Wl_v (r_mv (v := .func (.func gf) #[] caps) rfl) ?_
 refine Wl_call (r_clos0 hgf rfl (by simp)) hc ?_
 rintro v wq ⟨rfl, hΦ, hUq⟩
 replace hb := hb.upd hUq hS
 refine Wl_nil ?_
 refine W_region ?_
 refine Wl_v (r_mv (v := .pointer (some ⟨be, 0, none⟩)) rfl) ?_
 refine Wl_v (r_mv (v := .int .i64 er) rfl) ?_
 refine Wl_v (r_nil rfl) ?_
 refine Wl_store (v := .int .i64 er) (cs' := [.int .i64 er]) Try.sizeOf25 rfl rfl rfl rfl hb rfl rfl ?_
 intro w1 hU1 hzz1 hbn
 replace hb := hbn; clear hbn
 have hzw1 := hU1.size
 refine Wl_nil ?_
 refine cd_nrm (v := .tuple #[]) (res0 Try.results79) ?_
 exact ⟨_, rfl, rfl, wq, hΦ, hUq, hU1, hb⟩

def qF (b : Bool) : Bool := !b

set_option maxRecDepth 100000 in
theorem bindex_spec {a : Option Addr} {n c : Nat} {l : List Bool} {R : Nat → Prop} (w : World) (hs : Sl w R 1 (.slice a n c) n (rows encB l)) (hn : n ≤ 1000000) :
  Calls Try.prog 105 #[.slice a n c, .bool false] w (Ret fun v w' => v = .int .i64 (fidx qF l) ∧ Upd No w w') := by
 have HU : Upd (fun b => False) w w := Upd.refl _ _
 have hl_hs := rlen encB_len (by decide) hs
 have hc_hs := hs.cap.1
 replace hs := hs.tight
 refine calls_of_W Try.func105 rfl Try.ntmps105 (by simp) ?_
 refine W_seq ?_
 refine W_region ?_
 refine Wl_v (r_as (v := .int .i64 0) rfl) ?_
 refine Wl_nil ?_
 refine W_seq ?_
 refine W_seq ?_
 refine W_region ?_
 refine Wl_v (r_mv (v := .slice a n c) rfl) ?_
 refine Wl_v (r_len Try.underlying72 rfl) ?_
 refine Wl_v (r_mv (v := .int .i64 0) rfl) ?_
 refine Wl_nil ?_
 refine W_block ?_
 refine W_loop (fun mu ρ ds w' => ∃ (k : Nat), n - k = mu ∧ ds = [] ∧ Liv ρ [(0, .slice a n c), (1, .bool false), (7, .int .i64 ((n : Nat) : Int)), (8, .int .i64 ((k : Nat) : Int))] ∧ k ≤ n ∧ (∀ i, i < k → qF (l.getD i false) = false) ∧ Upd No w w') _ ⟨0, rfl, rfl, ⟨rfl, rfl, rfl, (by first | rfl | exact vint (by omega) | exact vint (by simp)), trivial⟩, (by omega), (fun i hi => absurd hi (by omega)), Upd.refl _ _⟩ ?_
 rintro m1 ρ1 ds1 w1 ⟨k, rfl, rfl, hl1, hk, hall, hU1⟩
 obtain ⟨ρ1x, rfl⟩ : ∃ ρx, ρ1 = upds ρx [(0, .slice a n c), (1, .bool false), (7, .int .i64 ((n : Nat) : Int)), (8, .int .i64 ((k : Nat) : Int))] := ⟨_, upds_self hl1⟩
 clear hl1
 have hzw1 := hU1.size
 replace hs := hs.upd0 hU1
 replace HU := HU.trans0 hU1
 have HL1 := hU1
 refine W_seq ?_
 refine W_region ?_
 refine Wl_v (r_lt rfl rfl) ?_
 refine Wl_nil ?_
 refine W_seq ?_
 by_cases q1 : ((k : Nat) : Int) < ((n : Nat) : Int)
 ·rw [decide_eq_true q1]
  refine W_cond_t rfl ?_
  refine W_skip ?_
  refine W_seq ?_
  refine W_block ?_
  refine W_seq ?_
  refine W_region ?_
  refine Wl_v (r_mv (v := .int .i64 ((k : Nat) : Int)) rfl) ?_
  refine Wl_v (r_as (v := .int .i64 ((k : Nat) : Int)) rfl) ?_
  refine Wl_nil ?_
  refine W_seq ?_
  refine W_region ?_
  refine Wl_v (r_mv (v := .bool false) rfl) ?_
  refine Wl_v (r_mv (v := .slice a n c) rfl) ?_
  refine Wl_v (r_mv (v := .int .i64 ((k : Nat) : Int)) rfl) ?_
  refine Wl_idxr false encB_len (by decide) Try.underlying72 Try.sizeOf4 rfl rfl hs (by omega) (by omega) ?_
  intro ib2 io2 hc2
  try rw [Int.toNat_natCast] at hc2
  refine Wl_loadc (v := .bool (decide ((l.getD k false) = true))) Try.isAgg4 rfl (hc2 0 (by decide)) ?_
  by_cases q2 : (l.getD k false) = true
  ·have hqk : qF (l.getD k false) = false := by unfold qF; rw [q2]; rfl
   rw [decide_eq_true q2]
   refine Wl_v (v := .bool false) (r_eqb (a := false) (b := true) Try.underlying4 rfl rfl) ?_
   refine Wl_nil ?_
   refine W_cond_f rfl ?_
   refine W_skip ?_
   refine W_region ?_
   refine Wl_v (r_add rfl rfl (wi64 (by omega) (by omega))) ?_
   refine Wl_v (r_mv (v := .int .i64 (((k : Nat) : Int) + 1)) rfl) ?_
   refine Wl_nil ?_
   refine ⟨_, ?_, (k + 1), rfl, rfl, ⟨rfl, rfl, rfl, (by first | rfl | exact vint (by omega) | exact vint (by simp)), trivial⟩, (by omega), (fun i hi => by rcases Nat.lt_or_ge i k with h | h; exact hall i h; rw [show i = k from by omega]; exact hqk), HL1⟩
   omega
  ·have hqk : qF (l.getD k false) = true := by unfold qF; rw [Bool.eq_false_iff.2 q2]; rfl
   rw [decide_eq_false q2]
   refine Wl_v (v := .bool true) (r_eqb (a := false) (b := false) Try.underlying4 rfl rfl) ?_
   refine Wl_nil ?_
   refine W_cond_t rfl ?_
   refine W_seq ?_
   refine W_region ?_
   refine Wl_v (r_mv (v := .int .i64 ((k : Nat) : Int)) rfl) ?_
   refine Wl_v (r_as (v := .int .i64 ((k : Nat) : Int)) rfl) ?_
   refine Wl_nil ?_
   refine W_ret ?_
   refine ret_end (v := .int .i64 ((k : Nat) : Int)) rfl (res1 Try.results105 rfl) ?_
   exact ⟨_, rfl, (vint (fidx_at false (k := k) (by omega) hall hqk).symm), HU⟩
 ·rw [decide_eq_false q1]
  refine W_cond_f rfl ?_
  refine W_exit ?_
  refine W_seq ?_
  refine W_region ?_
  refine Wl_v (r_as (v := .int .i64 (-1)) rfl) ?_
  refine Wl_nil ?_
  refine W_ret ?_
  refine ret_end (v := .int .i64 (-1)) rfl (res1 Try.results105 rfl) ?_
  exact ⟨_, rfl, (vint (fidx_none false (fun i hi => hall i (by omega))).symm), HU⟩

theorem fq_all {l : List Bool} (h : l.all id = true) : fidx qF l = -1 := fidx_none false fun i hi => by
 have := List.all_eq_true.1 h _ (List.getElem_mem hi)
 rw [List.getD_eq_getElem?_getD, List.getElem?_eq_getElem hi]
 simpa [qF] using this
theorem fq_no {l : List Bool} (h : l.all id = false) : 0 ≤ fidx qF l := by
 rcases fidx_cases qF l false with ⟨_, h2⟩ | ⟨k, h2, _⟩
 ·have : l.all id = true := List.all_eq_true.2 fun x hx => by
   obtain ⟨i, hi, rfl⟩ := List.mem_iff_getElem.1 hx
   have := h2 i hi
   rw [List.getD_eq_getElem?_getD, List.getElem?_eq_getElem hi] at this
   simpa [qF] using this
  rw [this] at h; cases h
 ·rw [h2]; omega

set_option maxRecDepth 100000 in
theorem bcont_all {a : Option Addr} {n c : Nat} {l : List Bool} {R : Nat → Prop} (w : World) (hs : Sl w R 1 (.slice a n c) n (rows encB l)) (hn : n ≤ 1000000) (hl : l.all id = true) :
  Calls Try.prog 98 #[.slice a n c, .bool false] w (Ret fun v w' => v = .bool false ∧ Upd No w w') := by
 have HU : Upd (fun b => False) w w := Upd.refl _ _
 have hl_hs := rlen encB_len (by decide) hs
 have hc_hs := hs.cap.1
 replace hs := hs.tight
 refine calls_of_W Try.func98 rfl Try.ntmps98 (by simp) ?_
 refine W_seq ?_
 refine W_region ?_
 refine Wl_v (r_as (v := .bool false) rfl) ?_
 refine Wl_nil ?_
 refine W_seq ?_
 refine W_region ?_
 refine Wl_v (r_mv (v := .slice a n c) rfl) ?_
 refine Wl_v (r_mv (v := .bool false) rfl) ?_
 refine Wl_call (r_call2 rfl Try.call105 rfl rfl) (bindex_spec _ hs (by omega)) ?_
 rintro v w1 ⟨rfl, hU1⟩
 have hzw1 := hU1.size
 replace HU := HU.trans0 hU1
 refine Wl_v (r_ge rfl rfl) ?_
 refine Wl_v (r_as (v := .bool (decide (0 ≤ (fidx qF l)))) rfl) ?_
 refine Wl_nil ?_
 refine W_ret ?_
 refine ret_end (v := .bool (decide (0 ≤ (fidx qF l)))) rfl (res1 Try.results98 rfl) ?_
 exact ⟨_, rfl, (by rw [decide_eq_false (by have := fq_all hl; omega)]), HU⟩

set_option maxRecDepth 100000 in
theorem bcont_no {a : Option Addr} {n c : Nat} {l : List Bool} {R : Nat → Prop} (w : World) (hs : Sl w R 1 (.slice a n c) n (rows encB l)) (hn : n ≤ 1000000) (hl : l.all id = false) :
  Calls Try.prog 98 #[.slice a n c, .bool false] w (Ret fun v w' => v = .bool true ∧ Upd No w w') := by
 have HU : Upd (fun b => False) w w := Upd.refl _ _
 have hl_hs := rlen encB_len (by decide) hs
 have hc_hs := hs.cap.1
 replace hs := hs.tight
 refine calls_of_W Try.func98 rfl Try.ntmps98 (by simp) ?_
 refine W_seq ?_
 refine W_region ?_
 refine Wl_v (r_as (v := .bool false) rfl) ?_
 refine Wl_nil ?_
 refine W_seq ?_
 refine W_region ?_
 refine Wl_v (r_mv (v := .slice a n c) rfl) ?_
 refine Wl_v (r_mv (v := .bool false) rfl) ?_
 refine Wl_call (r_call2 rfl Try.call105 rfl rfl) (bindex_spec _ hs (by omega)) ?_
 rintro v w1 ⟨rfl, hU1⟩
 have hzw1 := hU1.size
 replace HU := HU.trans0 hU1
 refine Wl_v (r_ge rfl rfl) ?_
 refine Wl_v (r_as (v := .bool (decide (0 ≤ (fidx qF l)))) rfl) ?_
 refine Wl_nil ?_
 refine W_ret ?_
 refine ret_end (v := .bool (decide (0 ≤ (fidx qF l)))) rfl (res1 Try.results98 rfl) ?_
 exact ⟨_, rfl, (by rw [decide_eq_true (by have := fq_no hl; omega)]), HU⟩

set_option maxRecDepth 100000 in
theorem must_ok {er : Int} {a : Option Addr} {n c : Nat} {l : List Bool} {R : Nat → Prop} (w : World) (hs : Sl w R 1 (.slice a n c) n (rows encB l)) (hn : n ≤ 1000000) (hl : l.all id = true) :
  Calls Try.prog 90 #[.int .i64 er, .slice a n c] w (Ret fun v w' => v = .tuple #[] ∧ Upd No w w') := by
 have HU : Upd (fun b => False) w w := Upd.refl _ _
 have hl_hs := rlen encB_len (by decide) hs
 have hc_hs := hs.cap.1
 replace hs := hs.tight
 refine calls_of_W Try.func90 rfl Try.ntmps90 (by simp) ?_
 refine W_seq ?_
 refine W_region ?_
 refine Wl_v (r_mv (v := .slice a n c) rfl) ?_
 refine Wl_call (r_call2 rfl Try.call98 rfl rfl) (bcont_all _ hs (by omega) hl) ?_
 rintro v w1 ⟨rfl, hU1⟩
 have hzw1 := hU1.size
 replace HU := HU.trans0 hU1
 refine Wl_nil ?_
 refine W_cond_f rfl ?_
 refine W_skip ?_
 refine nrm_end (v := .tuple #[]) rfl (res0 Try.results90) ?_
 exact ⟨_, rfl, rfl, HU⟩

set_option maxRecDepth 100000 in
theorem must_no {er : Int} {a : Option Addr} {n c : Nat} {l : List Bool} {R : Nat → Prop} (w : World) (hs : Sl w R 1 (.slice a n c) n (rows encB l)) (hn : n ≤ 1000000) (hl : l.all id = false) :
  Calls Try.prog 90 #[.int .i64 er, .slice a n c] w (Pan (.iface 25 (.int .i64 er)) fun w' => Upd No w w') := by
 have HU : Upd (fun b => False) w w := Upd.refl _ _
 have hl_hs := rlen encB_len (by decide) hs
 have hc_hs := hs.cap.1
 replace hs := hs.tight
 refine calls_of_W Try.func90 rfl Try.ntmps90 (by simp) ?_
 refine W_seq ?_
 refine W_region ?_
 refine Wl_v (r_mv (v := .slice a n c) rfl) ?_
 refine Wl_call (r_call2 rfl Try.call98 rfl rfl) (bcont_no _ hs (by omega) hl) ?_
 rintro v w1 ⟨rfl, hU1⟩
 have hzw1 := hU1.size
 replace HU := HU.trans0 hU1
 refine Wl_nil ?_
 refine W_cond_t rfl ?_
 refine W_region ?_
 refine Wl_v (r_mv (v := .int .i64 er) rfl) ?_
 refine Wl_v (r_mki (by kernel_rfl) rfl) ?_
 refine Wl_panic rfl ?_
 refine pan_ds rfl ?_
 refine lv_panic ?_
 exact ⟨rfl, HU⟩

end Go.Proofs.Ytilegaokfamfnaa
