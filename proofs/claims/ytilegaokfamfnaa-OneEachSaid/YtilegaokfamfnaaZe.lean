/-
 Walks, printed by a small program of this project (gen.py).
-/
import Derived.Test.YtilegaokfamfnaaZd
set_option linter.unusedVariables false
set_option linter.unusedSimpArgs false
namespace Go.Proofs.Ytilegaokfamfnaa
open Go.Fw

/-- a writer: L bits of V are written -/
def Wr (w : World) (G0 wb V L : Nat) : Prop :=
 ∃ (a : Option Addr) (c : Nat), Blk w wb [.int .u64 ((V / 256 ^ (L / 8) : Nat) : Int), .int .i64 ((L % 8 : Nat) : Int), .slice a (L / 8) c] ∧
  Own w (fun g => G0 ≤ g ∧ g ≠ wb) 5 1 (.slice a (L / 8) c) (L / 8) (ints .u8 (ub V (L / 8))) ∧ G0 ≤ w.heap.size
theorem Wr.upd {w w' : World} {G0 wb V L : Nat} {S : Nat → Prop} (h : Wr w G0 wb V L) (hU : Upd S w w') (hS : ∀ g, S g → g < G0 ∧ g ≠ wb) : Wr w' G0 wb V L := by
 obtain ⟨a, c, h1, h2, h3⟩ := h
 have hz := hU.size
 exact ⟨a, c, h1.upd hU (fun x => (hS _ x).2 rfl), h2.upd hU (fun g hg x => by have := hS _ x; have h6 : G0 ≤ g ∧ g ≠ wb := hg; omega), by omega⟩
theorem Wr.upd0 {w w' : World} {G0 wb V L : Nat} (h : Wr w G0 wb V L) (hU : Upd No w w') : Wr w' G0 wb V L := h.upd hU fun _ x => x.elim
theorem Wr.upd1 {w w' : World} {G0 wb V L x : Nat} (h : Wr w G0 wb V L) (hU : Upd (Is x) w w') (hx : x < G0 ∧ x ≠ wb) : Wr w' G0 wb V L := h.upd hU fun g hg => by have h6 : g = x := hg; omega
theorem Wr.lt {w : World} {G0 wb V L : Nat} (h : Wr w G0 wb V L) : G0 ≤ w.heap.size ∧ wb < w.heap.size := by
 obtain ⟨a, c, h1, h2, h3⟩ := h
 exact ⟨h3, h1.lt⟩
theorem Wr.cong {w : World} {G0 wb V V' L L' : Nat} (h : Wr w G0 wb V L) (e1 : V = V') (e2 : L = L') : Wr w G0 wb V' L' := by subst e1 e2; exact h
theorem ub_succ' (W n : Nat) : ub W (n + 1) = ub W n ++ [((W / 256 ^ n % 256 : Nat) : Int)] := tabn_succ _ _
theorem ub_congr {V x L : Nat} : ub (V + x * 2 ^ L) (L / 8) = ub V (L / 8) := by
 unfold ub
 refine tabn_congr fun i hi => ?_
 have e : 2 ^ L = 256 ^ i * 256 * 2 ^ (L - 8 * i - 8) := by
  rw [← Nat.pow_succ, p256, ← Nat.pow_add]; congr 1; omega
 rw [e, show x * (256 ^ i * 256 * 2 ^ (L - 8 * i - 8)) = 256 ^ i * (256 * (x * 2 ^ (L - 8 * i - 8))) from by ac_rfl, Nat.add_mul_div_left _ _ (Nat.pow_pos (by decide)), Nat.add_mul_mod_self_left]
theorem hold_lt {V L : Nat} (h : V < 2 ^ L) : V / 256 ^ (L / 8) < 2 ^ (L % 8) := by
 rw [p256, Nat.div_lt_iff_lt_mul (Nat.pow_pos (by decide)), ← Nat.pow_add, show L % 8 + 8 * (L / 8) = L from by omega]; exact h
theorem hold_add (V x L : Nat) : V / 256 ^ (L / 8) + x * 2 ^ (L % 8) = (V + x * 2 ^ L) / 256 ^ (L / 8) := by
 have e : 2 ^ L = 256 ^ (L / 8) * 2 ^ (L % 8) := by rw [p256, ← Nat.pow_add]; congr 1; omega
 rw [e, show x * (256 ^ (L / 8) * 2 ^ (L % 8)) = 256 ^ (L / 8) * (x * 2 ^ (L % 8)) from by simp only [Nat.mul_left_comm], Nat.add_mul_div_left _ _ (Nat.pow_pos (by decide))]
theorem put_lt {V x L k : Nat} (hV : V < 2 ^ L) (hx : x < 2 ^ k) : V + x * 2 ^ L < 2 ^ (L + k) := by
 have h1 : (x + 1) * 2 ^ L ≤ 2 ^ k * 2 ^ L := Nat.mul_le_mul_right _ hx
 rw [← Nat.pow_add, Nat.add_comm k L, Nat.add_mul, Nat.one_mul] at h1; omega
theorem blk3a {w : World} {b : Nat} {y z : Value} {k : IntKind} {v v' : Int} (h : Blk w b [.int k v, y, z]) (e : v = v') : Blk w b [.int k v', y, z] := e ▸ h
theorem blk3b {w : World} {b : Nat} {x z : Value} {k : IntKind} {v v' : Int} (h : Blk w b [x, .int k v, z]) (e : v = v') : Blk w b [x, .int k v', z] := e ▸ h
theorem shr8 {X : Nat} : ((X : Nat) : Int) / 256 = ((X / 256 : Nat) : Int) := by omega

set_option maxRecDepth 100000 in
theorem hadd {hb A g X k : Nat} {z : Value} (w : World) (hB : Blk w hb [.int .u64 ((A : Nat) : Int), .int .i64 ((g : Nat) : Int), z]) (hbd : A < 2 ^ g ∧ X < 2 ^ k ∧ g + k ≤ 64) :
  Calls Try.prog 65 #[.pointer (some ⟨hb, 0, none⟩), .int .u64 ((X : Nat) : Int), .int .i64 ((k : Nat) : Int)] w (Ret fun v w' => v = .tuple #[] ∧ Blk w' hb [.int .u64 ((A + X * 2 ^ g : Nat) : Int), .int .i64 ((g + k : Nat) : Int), z] ∧ Upd (Is hb) w w') := by
 have HU : Upd (fun b => b = hb) w w := Upd.refl _ _
 have hbl_hB := hB.lt
 refine calls_of_W Try.func65 rfl Try.ntmps65 (by simp) ?_
 refine W_seq ?_
 refine W_drawt rfl (l0 := tf 0 14) (by kernel_rfl) ?_
 refine Tk 0 (tf 1 14) rfl (YI_v (v := .pointer (some ⟨hb, 0, none⟩)) rfl (fun w' hw' => r_mv (v := .pointer (some ⟨hb, 0, none⟩)) rfl)) ?_
 refine Tk 1 (tf 2 14) rfl (YI_v (v := .pointer (some ⟨hb, 0, none⟩)) rfl (fun w' hw' => r_nil rfl)) ?_
 refine Tk 2 (tf 3 14) rfl (YI_v (v := .pointer (some ⟨hb, 0, none⟩)) rfl (fun w' hw' => r_fld Try.underlying57 rfl Try.sizeOf55 rfl rfl)) ?_
 refine Tk 3 (tf 4 14) rfl (YI_v (v := .int .u64 ((A : Nat) : Int)) rfl (fun w' hw' => r_load Try.isAgg55 rfl (by rw [(hB.upd0 hw').cell]; rfl))) ?_
 refine Tk 4 (tf 5 14) rfl (YI_v (v := .int .u64 ((X : Nat) : Int)) rfl (fun w' hw' => r_mv (v := .int .u64 ((X : Nat) : Int)) rfl)) ?_
 refine Tk 5 (tf 6 14) rfl (YI_v (v := .pointer (some ⟨hb, 0, none⟩)) rfl (fun w' hw' => r_mv (v := .pointer (some ⟨hb, 0, none⟩)) rfl)) ?_
 refine Tk 6 (tf 7 14) rfl (YI_v (v := .pointer (some ⟨hb, 0, none⟩)) rfl (fun w' hw' => r_nil rfl)) ?_
 refine Tk 7 (tf 8 14) rfl (YI_v (v := .pointer (some ⟨hb, 1, none⟩)) rfl (fun w' hw' => r_fld Try.underlying57 rfl Try.sizeOf3 rfl rfl)) ?_
 refine Tk 8 (tf 9 14) rfl (YI_v (v := .int .i64 ((g : Nat) : Int)) rfl (fun w' hw' => r_load Try.isAgg3 rfl (by rw [(hB.upd0 hw').cell]; rfl))) ?_
 refine Tk 9 (tf 10 14) rfl (YI_v (v := .int .u64 ((X * 2 ^ g : Nat) : Int)) rfl (fun w' hw' => r_shl rfl rfl (by omega) (shl_n (by omega) (by omega) (mul_lt64 hbd.2.2 hbd.2.1)))) ?_
 refine Tk 10 (tf 11 14) rfl (YI_v (v := .int .u64 ((A + X * 2 ^ g : Nat) : Int)) rfl (fun w' hw' => r_or rfl rfl (or_add hbd.1 (lt64 hbd.2.2 (put_lt hbd.1 hbd.2.1))))) ?_
 refine Tk 11 (tf 12 14) rfl (YI_v (v := .pointer (some ⟨hb, 0, none⟩)) rfl (fun w' hw' => r_nil rfl)) ?_
 refine Tk 12 (tf 13 14) rfl (YI_v (v := .pointer (some ⟨hb, 0, none⟩)) rfl (fun w' hw' => r_fld Try.underlying57 rfl Try.sizeOf55 rfl rfl)) ?_
 intro w1 hU1
 have hzw1 := hU1.size
 replace hB := hB.upd0 hU1
 replace HU := HU.trans0 hU1
 refine Wa_one (i := 13) (listed' := tf 14 14) (by kernel_rfl) rfl (by kernel_rfl) ?_
 refine Ws_of_Wl ?_
 have hW : Upd No w w1 := hU1
 refine Wl_store (v := .int .u64 ((A + X * 2 ^ g : Nat) : Int)) (cs' := [.int .u64 ((A + X * 2 ^ g : Nat) : Int), .int .i64 ((g : Nat) : Int), z]) Try.sizeOf55 rfl rfl rfl rfl hB rfl rfl ?_
 intro w2 hU2 hzz2 hBn
 replace hB := hBn; clear hBn
 have hzw2 := hU2.size
 replace HU := HU.trans1 hU2 (by show (hb = hb) ∨ w.heap.size ≤ hb; omega)
 refine Wl_nil ?_
 intro w3 hS3
 refine ⟨fun h => absurd h (by rw [show barOp _ 13 = true from by kernel_rfl]; simp), fun _ => ⟨Upd No w3, ?_⟩⟩
 have hU3 := hS3.upd
 have hzw3 := hU3.size
 replace hB := hB.upd0 hU3
 replace HU := HU.trans0 hU3
 try replace hW := hW.trans0 hU3
 refine Wa_done (by kernel_rfl) ?_
 refine W_region ?_
 refine Wl_v (r_mv (v := .pointer (some ⟨hb, 0, none⟩)) rfl) ?_
 refine Wl_v (r_nil rfl) ?_
 refine Wl_v (r_fld Try.underlying57 rfl Try.sizeOf3 rfl rfl) ?_
 refine Wl_load (v := .int .i64 ((g : Nat) : Int)) Try.isAgg3 rfl hB rfl ?_
 refine Wl_v (r_mv (v := .int .i64 ((k : Nat) : Int)) rfl) ?_
 refine Wl_v (r_add rfl rfl (wi64 (by omega) (by omega))) ?_
 refine Wl_v (r_nil rfl) ?_
 refine Wl_v (r_fld Try.underlying57 rfl Try.sizeOf3 rfl rfl) ?_
 refine Wl_store (v := .int .i64 (((g : Nat) : Int) + ((k : Nat) : Int))) (cs' := [.int .u64 ((A + X * 2 ^ g : Nat) : Int), .int .i64 (((g : Nat) : Int) + ((k : Nat) : Int)), z]) Try.sizeOf3 rfl rfl rfl rfl hB rfl rfl ?_
 intro w4 hU4 hzz4 hBn
 replace hB := hBn; clear hBn
 have hzw4 := hU4.size
 replace HU := HU.trans1 hU4 (by show (hb = hb) ∨ w.heap.size ≤ hb; omega)
 refine Wl_nil ?_
 refine nrm_end (v := .tuple #[]) rfl (res0 Try.results65) ?_
 exact ⟨_, rfl, rfl, (blk3b hB (by omega)), HU⟩

set_option maxRecDepth 100000 in
theorem whole_no {hb g : Nat} {A : Int} {z : Value} (w : World) (hB : Blk w hb [.int .u64 A, .int .i64 ((g : Nat) : Int), z]) (hg : g < 8) :
  Calls Try.prog 66 #[.pointer (some ⟨hb, 0, none⟩)] w (Ret fun v w' => v = .tuple #[.int .u8 0, .bool false] ∧ Upd No w w') := by
 have HU : Upd (fun b => False) w w := Upd.refl _ _
 have hbl_hB := hB.lt
 refine calls_of_W Try.func66 rfl Try.ntmps66 (by simp) ?_
 refine W_seq ?_
 refine W_region ?_
 refine Wl_v (r_as (v := .int .u8 0) rfl) ?_
 refine Wl_v (r_as (v := .bool false) rfl) ?_
 refine Wl_nil ?_
 refine W_seq ?_
 refine W_seq ?_
 refine W_region ?_
 refine Wl_v (r_mv (v := .pointer (some ⟨hb, 0, none⟩)) rfl) ?_
 refine Wl_v (r_nil rfl) ?_
 refine Wl_v (r_fld Try.underlying57 rfl Try.sizeOf3 rfl rfl) ?_
 refine Wl_load (v := .int .i64 ((g : Nat) : Int)) Try.isAgg3 rfl hB rfl ?_
 refine Wl_v (r_lt rfl rfl) ?_
 refine Wl_nil ?_
 have q1 : ((g : Nat) : Int) < 8 := (by omega)
 rw [decide_eq_true q1]
 refine W_cond_t rfl ?_
 refine W_seq ?_
 refine W_region ?_
 refine Wl_v (r_as (v := .int .u8 0) rfl) ?_
 refine Wl_v (r_as (v := .bool false) rfl) ?_
 refine Wl_nil ?_
 refine W_ret ?_
 refine ret_end (v := .tuple #[.int .u8 0, .bool false]) rfl (res2 Try.results66 rfl rfl) ?_
 exact ⟨_, rfl, rfl, HU⟩

set_option maxRecDepth 100000 in
theorem whole_ok {hb g A : Nat} {z : Value} (w : World) (hB : Blk w hb [.int .u64 ((A : Nat) : Int), .int .i64 ((g : Nat) : Int), z]) (hg : 8 ≤ g ∧ g ≤ 64) :
  Calls Try.prog 66 #[.pointer (some ⟨hb, 0, none⟩)] w (Ret fun v w' => v = .tuple #[.int .u8 ((A % 256 : Nat) : Int), .bool true] ∧ Blk w' hb [.int .u64 ((A / 256 : Nat) : Int), .int .i64 ((g - 8 : Nat) : Int), z] ∧ Upd (Is hb) w w') := by
 have HU : Upd (fun b => b = hb) w w := Upd.refl _ _
 have hbl_hB := hB.lt
 refine calls_of_W Try.func66 rfl Try.ntmps66 (by simp) ?_
 refine W_seq ?_
 refine W_region ?_
 refine Wl_v (r_as (v := .int .u8 0) rfl) ?_
 refine Wl_v (r_as (v := .bool false) rfl) ?_
 refine Wl_nil ?_
 refine W_seq ?_
 refine W_seq ?_
 refine W_region ?_
 refine Wl_v (r_mv (v := .pointer (some ⟨hb, 0, none⟩)) rfl) ?_
 refine Wl_v (r_nil rfl) ?_
 refine Wl_v (r_fld Try.underlying57 rfl Try.sizeOf3 rfl rfl) ?_
 refine Wl_load (v := .int .i64 ((g : Nat) : Int)) Try.isAgg3 rfl hB rfl ?_
 refine Wl_v (r_lt rfl rfl) ?_
 refine Wl_nil ?_
 have q1 : ¬ (((g : Nat) : Int) < 8) := (by omega)
 rw [decide_eq_false q1]
 refine W_cond_f rfl ?_
 refine W_skip ?_
 refine W_seq ?_
 refine W_region ?_
 refine Wl_v (r_mv (v := .pointer (some ⟨hb, 0, none⟩)) rfl) ?_
 refine Wl_v (r_nil rfl) ?_
 refine Wl_v (r_fld Try.underlying57 rfl Try.sizeOf55 rfl rfl) ?_
 refine Wl_load (v := .int .u64 ((A : Nat) : Int)) Try.isAgg55 rfl hB rfl ?_
 refine Wl_v (r_cvt Try.underlying55 Try.underlying5 rfl (mu8 _)) ?_
 refine Wl_v (r_as (v := .int .u8 (((A : Nat) : Int) % 256)) rfl) ?_
 refine Wl_nil ?_
 refine W_seq ?_
 refine W_region ?_
 refine Wl_v (r_mv (v := .pointer (some ⟨hb, 0, none⟩)) rfl) ?_
 refine Wl_v (r_nil rfl) ?_
 refine Wl_v (r_fld Try.underlying57 rfl Try.sizeOf55 rfl rfl) ?_
 refine Wl_load (v := .int .u64 ((A : Nat) : Int)) Try.isAgg55 rfl hB rfl ?_
 refine Wl_v (r_shr (c := ((A : Nat) : Int) / 256) rfl rfl (by decide) rfl) ?_
 refine Wl_v (r_nil rfl) ?_
 refine Wl_v (r_fld Try.underlying57 rfl Try.sizeOf55 rfl rfl) ?_
 refine Wl_store (v := .int .u64 (((A : Nat) : Int) / 256)) (cs' := [.int .u64 (((A : Nat) : Int) / 256), .int .i64 ((g : Nat) : Int), z]) Try.sizeOf55 rfl rfl rfl rfl hB rfl rfl ?_
 intro w1 hU1 hzz1 hBn
 replace hB := hBn; clear hBn
 have hzw1 := hU1.size
 replace HU := HU.trans1 hU1 (by show (hb = hb) ∨ w.heap.size ≤ hb; omega)
 refine Wl_nil ?_
 refine W_seq ?_
 refine W_region ?_
 refine Wl_v (r_mv (v := .pointer (some ⟨hb, 0, none⟩)) rfl) ?_
 refine Wl_v (r_nil rfl) ?_
 refine Wl_v (r_fld Try.underlying57 rfl Try.sizeOf3 rfl rfl) ?_
 refine Wl_load (v := .int .i64 ((g : Nat) : Int)) Try.isAgg3 rfl hB rfl ?_
 refine Wl_v (r_sub rfl rfl (wi64 (by omega) (by omega))) ?_
 refine Wl_v (r_nil rfl) ?_
 refine Wl_v (r_fld Try.underlying57 rfl Try.sizeOf3 rfl rfl) ?_
 refine Wl_store (v := .int .i64 (((g : Nat) : Int) - 8)) (cs' := [.int .u64 (((A : Nat) : Int) / 256), .int .i64 (((g : Nat) : Int) - 8), z]) Try.sizeOf3 rfl rfl rfl rfl hB rfl rfl ?_
 intro w2 hU2 hzz2 hBn
 replace hB := hBn; clear hBn
 have hzw2 := hU2.size
 replace HU := HU.trans1 hU2 (by show (hb = hb) ∨ w.heap.size ≤ hb; omega)
 refine Wl_nil ?_
 refine W_seq ?_
 refine W_region ?_
 refine Wl_v (r_mv (v := .int .u8 (((A : Nat) : Int) % 256)) rfl) ?_
 refine Wl_v (r_as (v := .int .u8 (((A : Nat) : Int) % 256)) rfl) ?_
 refine Wl_v (r_as (v := .bool true) rfl) ?_
 refine Wl_nil ?_
 refine W_ret ?_
 refine ret_end (v := .tuple #[.int .u8 (((A : Nat) : Int) % 256), .bool true]) rfl (res2 Try.results66 rfl rfl) ?_
 exact ⟨_, rfl, (vtup2 (by first | rfl | exact vint (by omega)) rfl), (blk3a (blk3b hB (by omega)) (by omega)), HU⟩

set_option maxRecDepth 100000 in
theorem put_spec {G0 wb V L x k : Nat} (w : World) (hW : Wr w G0 wb V L) (hV : V < 2 ^ L) (hx : x < 2 ^ k) (hbd : 1 ≤ k ∧ k ≤ 11 ∧ L ≤ 2000000) :
  Calls Try.prog 36 #[.pointer (some ⟨wb, 0, none⟩), .int .u64 ((x : Nat) : Int), .int .i64 ((k : Nat) : Int)] w (Ret fun v w' => v = .int .i64 0 ∧ Wr w' G0 wb (V + x * 2 ^ L) (L + k) ∧ Upd (fun g => g = wb ∨ G0 ≤ g) w w') := by
 have HU : Upd (fun b => b = wb ∨ G0 ≤ b) w w := Upd.refl _ _
 obtain ⟨a, c, hB, hO, hG0⟩ := hW
 have hbl_hB := hB.lt
 have hl_hO := ilen hO.sl
 have hc_hO := hO.sl.cap.1
 have hpk := pw_bd hbd.2.1
 refine calls_of_W Try.func36 rfl Try.ntmps36 (by simp) ?_
 refine W_seq ?_
 refine W_region ?_
 refine Wl_v (r_as (v := .int .i64 0) rfl) ?_
 refine Wl_nil ?_
 refine W_seq ?_
 refine W_block ?_
 refine W_seq ?_
 refine W_region ?_
 refine Wl_v (r_mv (v := .pointer (some ⟨wb, 0, none⟩)) rfl) ?_
 refine Wl_v (r_eqpn_s Try.underlying110 rfl rfl) ?_
 refine Wl_v (r_as (v := .bool false) rfl) ?_
 refine Wl_nil ?_
 refine W_cond_f rfl ?_
 refine W_seq ?_
 refine W_region ?_
 refine Wl_v (r_mv (v := .int .i64 ((k : Nat) : Int)) rfl) ?_
 refine Wl_v (r_lt rfl rfl) ?_
 refine Wl_v (r_mv (v := .bool (decide (((k : Nat) : Int) < 0))) rfl) ?_
 have q1 : ¬ (((k : Nat) : Int) < 0) := (by omega)
 rw [decide_eq_false q1]
 refine Wl_guard_t rfl ?_
 refine Wl_v (r_mv (v := .int .i64 ((k : Nat) : Int)) rfl) ?_
 refine Wl_guard_t rfl ?_
 refine Wl_v (r_gt rfl rfl) ?_
 refine Wl_v (r_pick_f (v := .bool (decide (64 < ((k : Nat) : Int)))) rfl rfl) ?_
 refine Wl_v (r_mv (v := .bool (decide (64 < ((k : Nat) : Int)))) rfl) ?_
 have q2 : ¬ (64 < ((k : Nat) : Int)) := (by omega)
 rw [decide_eq_false q2]
 refine Wl_guard_t rfl ?_
 refine Wl_v (r_mv (v := .int .i64 ((k : Nat) : Int)) rfl) ?_
 refine Wl_guard_t rfl ?_
 refine Wl_v (r_lt rfl rfl) ?_
 refine Wl_guard_t rfl ?_
 refine Wl_v (r_mv (v := .bool (decide (((k : Nat) : Int) < 64))) rfl) ?_
 have q3 : ((k : Nat) : Int) < 64 := (by omega)
 rw [decide_eq_true q3]
 refine Wl_guard_t rfl ?_
 refine Wl_v (r_mv (v := .int .u64 ((x : Nat) : Int)) rfl) ?_
 refine Wl_guard_t rfl ?_
 refine Wl_v (r_mv (v := .int .i64 ((k : Nat) : Int)) rfl) ?_
 refine Wl_guard_t rfl ?_
 refine Wl_v (r_shr rfl rfl (by omega) (shr_n (k := k) (by omega) (by omega))) ?_
 refine Wl_guard_t rfl ?_
 refine Wl_v (r_ne rfl rfl) ?_
 refine Wl_guard_t rfl ?_
 refine Wl_v (r_pick_t (v := .bool (decide (((x / 2 ^ k : Nat) : Int) ≠ 0))) rfl rfl) ?_
 refine Wl_v (r_pick_f (v := .bool (decide (((x / 2 ^ k : Nat) : Int) ≠ 0))) rfl rfl) ?_
 refine Wl_v (r_as (v := .bool (decide (((x / 2 ^ k : Nat) : Int) ≠ 0))) rfl) ?_
 refine Wl_nil ?_
 have q4 : ¬ (((x / 2 ^ k : Nat) : Int) ≠ 0) := (by rw [Nat.div_eq_of_lt hx]; simp)
 rw [decide_eq_false q4]
 refine W_cond_f rfl ?_
 refine W_skip ?_
 refine W_seq ?_
 refine W_block ?_
 refine W_unroll 2 ?_
 refine unrK_succ ?_
 refine W_seq ?_
 refine W_seq ?_
 refine W_region ?_
 refine Wl_v (r_mv (v := .int .i64 ((k : Nat) : Int)) rfl) ?_
 refine Wl_v (r_gt rfl rfl) ?_
 refine Wl_nil ?_
 have q5 : 0 < ((k : Nat) : Int) := (by omega)
 rw [decide_eq_true q5]
 refine W_cond_t rfl ?_
 refine W_skip ?_
 refine W_block ?_
 refine W_seq ?_
 refine W_region ?_
 refine Wl_v (r_mv (v := .int .i64 ((k : Nat) : Int)) rfl) ?_
 refine Wl_v (r_min rfl rfl) ?_
 refine Wl_v (r_as (v := .int .i64 (min ((k : Nat) : Int) 32)) rfl) ?_
 rw [show (min ((k : Nat) : Int) 32 : Int) = ((k : Nat) : Int) from by omega]
 refine Wl_nil ?_
 refine W_seq ?_
 refine W_drawt rfl (l0 := tf 0 10) (by kernel_rfl) ?_
 refine Tk 0 (tf 1 10) rfl (YI_v (v := .pointer (some ⟨wb, 0, none⟩)) rfl (fun w' hw' => r_mv (v := .pointer (some ⟨wb, 0, none⟩)) rfl)) ?_
 refine Tk 1 (tf 2 10) rfl (YI_v (v := .pointer (some ⟨wb, 0, none⟩)) rfl (fun w' hw' => r_nil rfl)) ?_
 refine Tk 2 (tf 3 10) rfl (YI_v (v := .pointer (some ⟨wb, 0, none⟩)) rfl (fun w' hw' => r_fld Try.underlying59 rfl Try.sizeOf57 rfl rfl)) ?_
 refine Tk 3 (tf 4 10) rfl (YI_v (v := .int .u64 ((x : Nat) : Int)) rfl (fun w' hw' => r_mv (v := .int .u64 ((x : Nat) : Int)) rfl)) ?_
 refine Tk 4 (tf 5 10) rfl (YI_v (v := .int .i64 ((k : Nat) : Int)) rfl (fun w' hw' => r_mv (v := .int .i64 ((k : Nat) : Int)) rfl)) ?_
 refine Tk 5 (tf 6 10) rfl (YI_v (v := .int .u64 ((2 ^ k : Nat) : Int)) rfl (fun w' hw' => r_shl rfl rfl (by omega) (shl_one (by omega) (by omega)))) ?_
 refine Tk 6 (tf 7 10) rfl (YI_v (v := .int .u64 (((2 ^ k : Nat) : Int) - 1)) rfl (fun w' hw' => r_sub rfl rfl (wu64 (by omega) (by omega)))) ?_
 refine Tk 7 (tf 8 10) rfl (YI_v (v := .int .u64 ((x : Nat) : Int)) rfl (fun w' hw' => r_and rfl rfl ((and_mask (lt64 (by omega) hx) (by omega)).trans (by rw [Nat.mod_eq_of_lt hx])))) ?_
 refine Tk 8 (tf 9 10) rfl (YI_v (v := .int .i64 ((k : Nat) : Int)) rfl (fun w' hw' => r_mv (v := .int .i64 ((k : Nat) : Int)) rfl)) ?_
 intro w1 hU1
 have hzw1 := hU1.size
 replace hB := hB.upd0 hU1
 replace hO := hO.upd0 hU1
 replace HU := HU.trans0 hU1
 refine Wa_one (i := 9) (listed' := tf 10 10) (by kernel_rfl) rfl (by kernel_rfl) ?_
 refine Ws_of_Wl ?_
 have hW : Upd No w w1 := hU1
 refine Wl_call (r_call3 rfl Try.call65 rfl rfl rfl) (hadd _ hB ⟨hold_lt hV, hx, by omega⟩) ?_
 rintro v w2 ⟨rfl, hB22, hU2⟩
 have hzw2 := hU2.size
 replace hO := hO.upd1 hU2 (by intro h1; have h3 : G0 ≤ wb ∧ wb ≠ wb := h1; omega)
 replace HU := HU.trans1 hU2 (by show (wb = wb ∨ G0 ≤ wb) ∨ w.heap.size ≤ wb; omega)
 have hbl_hB22 := hB22.lt
 refine Wl_nil ?_
 intro w3 hS3
 refine ⟨fun h => absurd h (by rw [show barOp _ 9 = true from by kernel_rfl]; simp), fun _ => ⟨Upd No w3, ?_⟩⟩
 have hU3 := hS3.upd
 have hzw3 := hU3.size
 replace hO := hO.upd0 hU3
 replace HU := HU.trans0 hU3
 replace hB22 := hB22.upd0 hU3
 try replace hW := hW.trans0 hU3
 refine Wa_done (by kernel_rfl) ?_
 refine W_seq ?_
 refine W_block ?_
 refine W_loop (fun mu ρ ds w' => ∃ (i : Nat) (a2 : Option Addr) (c2 : Nat), L % 8 + k - 8 * i = mu ∧ ds = [] ∧ Liv ρ [(0, .pointer (some ⟨wb, 0, none⟩)), (1, .int .u64 ((x : Nat) : Int)), (2, .int .i64 ((k : Nat) : Int)), (6, .int .i64 0), (7, .int .i64 ((k : Nat) : Int)), (10, .bool false), (11, .pointer (some ⟨wb, 0, none⟩)), (12, .bool false), (13, .bool false), (14, .int .i64 ((k : Nat) : Int)), (15, .bool false), (16, .bool false), (17, .int .i64 ((k : Nat) : Int)), (18, .bool false), (19, .bool false), (20, .bool false), (21, .int .i64 ((k : Nat) : Int)), (22, .bool true), (23, .bool true), (24, .int .u64 ((x : Nat) : Int)), (25, .int .i64 ((k : Nat) : Int)), (26, .int .u64 ((x / 2 ^ k : Nat) : Int)), (27, .bool false), (28, .bool false), (29, .bool false), (30, .int .i64 ((k : Nat) : Int)), (31, .bool true), (32, .int .i64 ((k : Nat) : Int)), (33, .int .i64 ((k : Nat) : Int)), (34, .pointer (some ⟨wb, 0, none⟩)), (35, .pointer (some ⟨wb, 0, none⟩)), (36, .pointer (some ⟨wb, 0, none⟩)), (37, .int .u64 ((x : Nat) : Int)), (38, .int .i64 ((k : Nat) : Int)), (39, .int .u64 ((2 ^ k : Nat) : Int)), (40, .int .u64 (((2 ^ k : Nat) : Int) - 1)), (41, .int .u64 ((x : Nat) : Int)), (42, .int .i64 ((k : Nat) : Int)), (43, .tuple #[])] ∧ 8 * i ≤ L % 8 + k ∧ Blk w' wb [.int .u64 (((V + x * 2 ^ L) / 256 ^ (L / 8 + i) : Nat) : Int), .int .i64 ((L % 8 + k - 8 * i : Nat) : Int), .slice a2 (L / 8 + i) c2] ∧ Own w' (fun g => G0 ≤ g ∧ g ≠ wb) 5 1 (.slice a2 (L / 8 + i) c2) (L / 8 + i) (ints .u8 (ub (V + x * 2 ^ L) (L / 8 + i))) ∧ Upd (fun g => g = wb ∨ G0 ≤ g) w3 w') _ ⟨0, a, c, rfl, rfl, ⟨rfl, rfl, rfl, rfl, rfl, rfl, rfl, rfl, rfl, rfl, rfl, rfl, rfl, rfl, rfl, rfl, rfl, rfl, rfl, rfl, rfl, rfl, rfl, rfl, rfl, rfl, rfl, rfl, rfl, rfl, rfl, rfl, rfl, rfl, rfl, rfl, rfl, rfl, rfl, trivial⟩, (by omega), (blk3a (blk3b hB22 (by omega)) (by rw [hold_add]; rfl)), (hO.icong ub_congr.symm), Upd.refl _ _⟩ ?_
 rintro m4 ρ4 ds4 w4 ⟨i, a2, c2, rfl, rfl, hl4, hi, hB22, hO, hU4⟩
 obtain ⟨ρ4x, rfl⟩ : ∃ ρx, ρ4 = upds ρx [(0, .pointer (some ⟨wb, 0, none⟩)), (1, .int .u64 ((x : Nat) : Int)), (2, .int .i64 ((k : Nat) : Int)), (6, .int .i64 0), (7, .int .i64 ((k : Nat) : Int)), (10, .bool false), (11, .pointer (some ⟨wb, 0, none⟩)), (12, .bool false), (13, .bool false), (14, .int .i64 ((k : Nat) : Int)), (15, .bool false), (16, .bool false), (17, .int .i64 ((k : Nat) : Int)), (18, .bool false), (19, .bool false), (20, .bool false), (21, .int .i64 ((k : Nat) : Int)), (22, .bool true), (23, .bool true), (24, .int .u64 ((x : Nat) : Int)), (25, .int .i64 ((k : Nat) : Int)), (26, .int .u64 ((x / 2 ^ k : Nat) : Int)), (27, .bool false), (28, .bool false), (29, .bool false), (30, .int .i64 ((k : Nat) : Int)), (31, .bool true), (32, .int .i64 ((k : Nat) : Int)), (33, .int .i64 ((k : Nat) : Int)), (34, .pointer (some ⟨wb, 0, none⟩)), (35, .pointer (some ⟨wb, 0, none⟩)), (36, .pointer (some ⟨wb, 0, none⟩)), (37, .int .u64 ((x : Nat) : Int)), (38, .int .i64 ((k : Nat) : Int)), (39, .int .u64 ((2 ^ k : Nat) : Int)), (40, .int .u64 (((2 ^ k : Nat) : Int) - 1)), (41, .int .u64 ((x : Nat) : Int)), (42, .int .i64 ((k : Nat) : Int)), (43, .tuple #[])] := ⟨_, upds_self hl4⟩
 clear hl4
 have hzw4 := hU4.size
 replace HU := HU.trans hU4 (by intro x hx; have hx2 : x = wb ∨ G0 ≤ x := hx; show (x = wb ∨ G0 ≤ x) ∨ w.heap.size ≤ x; omega)
 have HL4 := hU4
 refine W_block ?_
 refine W_seq ?_
 refine W_region ?_
 refine Wl_v (r_mv (v := .pointer (some ⟨wb, 0, none⟩)) rfl) ?_
 refine Wl_v (r_nil rfl) ?_
 refine Wl_v (r_fld Try.underlying59 rfl Try.sizeOf57 rfl rfl) ?_
 by_cases q6 : 8 ≤ L % 8 + k - 8 * i
 ·replace hO := hO.tight
  refine Wl_call (r_call1 rfl Try.call66 rfl) (whole_ok _ hB22 (by omega)) ?_
  rintro v w5 ⟨rfl, hB25, hU5⟩
  have hzw5 := hU5.size
  replace hO := hO.upd1 hU5 (by intro h1; have h3 : ((G0 ≤ wb ∧ wb ≠ wb) ∧ wb < w4.heap.size) := h1; omega)
  replace HL4 := HL4.trans1 hU5 (by show (wb = wb ∨ G0 ≤ wb) ∨ w3.heap.size ≤ wb; omega)
  have hbl_hB25 := hB25.lt
  refine Wl_v (r_mv (v := .tuple #[.int .u8 ((((V + x * 2 ^ L) / 256 ^ (L / 8 + i)) % 256 : Nat) : Int), .bool true]) rfl) ?_
  refine Wl_v (r_ext (v := .int .u8 ((((V + x * 2 ^ L) / 256 ^ (L / 8 + i)) % 256 : Nat) : Int)) rfl rfl) ?_
  refine Wl_v (r_ext (v := .bool true) rfl rfl) ?_
  refine Wl_v (r_as (v := .int .u8 ((((V + x * 2 ^ L) / 256 ^ (L / 8 + i)) % 256 : Nat) : Int)) rfl) ?_
  refine Wl_v (r_as (v := .bool true) rfl) ?_
  refine Wl_nil ?_
  refine W_seq ?_
  refine W_seq ?_
  refine W_region ?_
  refine Wl_v (r_mv (v := .bool true) rfl) ?_
  refine Wl_v (r_not (b := true) rfl) ?_
  refine Wl_nil ?_
  refine W_cond_f rfl ?_
  refine W_skip ?_
  refine W_region ?_
  refine Wl_v (r_mv (v := .pointer (some ⟨wb, 0, none⟩)) rfl) ?_
  refine Wl_v (r_mv (v := .pointer (some ⟨wb, 0, none⟩)) rfl) ?_
  refine Wl_v (r_nil rfl) ?_
  refine Wl_v (r_fld Try.underlying59 rfl Try.sizeOf23 rfl rfl) ?_
  refine Wl_load (v := .slice a2 (L / 8 + i) c2) Try.isAgg23 rfl hB25 rfl ?_
  refine Wl_v (r_mv (v := .int .u8 ((((V + x * 2 ^ L) / 256 ^ (L / 8 + i)) % 256 : Nat) : Int)) rfl) ?_
  refine Wl_lit (pv := [(0, .int .u8 ((((V + x * 2 ^ L) / 256 ^ (L / 8 + i)) % 256 : Nat) : Int))]) (cs := [.int .u8 ((((V + x * 2 ^ L) / 256 ^ (L / 8 + i)) % 256 : Nat) : Int)]) Try.underlying23 Try.sizeOf5 Try.zeroValue5 (by decide) (by decide) (by simp only [List.map_toArray, List.map_cons, List.map_nil] <;> rfl) (by kernel_rfl) rfl (by decide) ?_
  intro B6 w6 hB6 hU6 hzz6 hs6
  have hzw6 := hU6.size
  replace hO := hO.upd0 hU6
  replace HL4 := HL4.trans0 hU6
  replace hB25 := hB25.upd0 hU6
  try replace hW := hW.trans0 hU6
  replace hs6 : Own w6 (Is B6) 5 1 (.slice (some ⟨B6, 0, none⟩) 1 1) 1 (ints .u8 [((((V + x * 2 ^ L) / 256 ^ (L / 8 + i)) % 256 : Nat) : Int)]) := hs6
  refine Wl_appendi (xs := ub (V + x * 2 ^ L) (L / 8 + i)) (ys := [((((V + x * 2 ^ L) / 256 ^ (L / 8 + i)) % 256 : Nat) : Int)]) (zs := (ub (V + x * 2 ^ L) (L / 8 + i)) ++ [((((V + x * 2 ^ L) / 256 ^ (L / 8 + i)) % 256 : Nat) : Int)]) (k' := .u8) (tot := (L / 8 + i) + 1) (by first | rfl | exact (rows_app _ _).symm | simp) Try.underlying23 (ti := Try.t5) (z := .int .u8 0) (sz := 1) (by' := 1) rfl rfl rfl rfl rfl (by decide) rfl hO rfl hs6.sl  (by omega) (by simp only [maxLen]; omega) (by omega) ?_
  intro a7 c7 w7 hU7 hzz7 hO7
  clear hO
  have hzw7 := hU7.size
  replace HL4 := HL4.trans hU7 (by intro x hx; have hx2 : ((G0 ≤ x ∧ x ≠ wb) ∧ x < w4.heap.size) := hx; show (x = wb ∨ G0 ≤ x) ∨ w3.heap.size ≤ x; omega)
  replace hB25 := hB25.upd hU7 (by intro hx; have hx2 : ((G0 ≤ wb ∧ wb ≠ wb) ∧ wb < w4.heap.size) := hx; omega)
  replace hO7 := hO7.tight
  have hl_hO7 := ilen hO7.sl
  have hc_hO7 := hO7.sl.cap.1
  refine Wl_v (r_nil rfl) ?_
  refine Wl_v (r_fld Try.underlying59 rfl Try.sizeOf23 rfl rfl) ?_
  refine Wl_store (v := .slice a7 ((L / 8 + i) + 1) c7) (cs' := [.int .u64 ((((V + x * 2 ^ L) / 256 ^ (L / 8 + i)) / 256 : Nat) : Int), .int .i64 (((L % 8 + k - 8 * i) - 8 : Nat) : Int), .slice a7 ((L / 8 + i) + 1) c7]) Try.sizeOf23 rfl rfl rfl rfl hB25 rfl rfl ?_
  intro w8 hU8 hzz8 hB25n
  replace hB25 := hB25n; clear hB25n
  have hzw8 := hU8.size
  replace HL4 := HL4.trans1 hU8 (by show (wb = wb ∨ G0 ≤ wb) ∨ w3.heap.size ≤ wb; omega)
  replace hO7 := hO7.upd1 hU8 (by intro h1; have h3 : ((((((G0 ≤ wb ∧ wb ≠ wb) ∧ wb < w4.heap.size)) ∨ wb = w6.heap.size)) ∧ wb < w7.heap.size) := h1; omega)
  refine Wl_nil ?_
  refine ⟨_, ?_, (i + 1), a7, c7, rfl, rfl, ⟨rfl, rfl, rfl, rfl, rfl, rfl, rfl, rfl, rfl, rfl, rfl, rfl, rfl, rfl, rfl, rfl, rfl, rfl, rfl, rfl, rfl, rfl, rfl, rfl, rfl, rfl, rfl, rfl, rfl, rfl, rfl, rfl, rfl, rfl, rfl, rfl, rfl, rfl, rfl, trivial⟩, (by omega), (blk3a (blk3b hB25 (by omega)) (by rw [Nat.div_div_eq_div_mul, ← Nat.pow_succ]; rfl)), ((hO7.weak (by intro g hg; have h3 : ((((((G0 ≤ g ∧ g ≠ wb) ∧ g < w4.heap.size)) ∨ g = w6.heap.size)) ∧ g < w7.heap.size) := hg; show G0 ≤ g ∧ g ≠ wb; omega)).icong (ub_succ' _ _).symm), HL4⟩
  omega
 ·have hex : L / 8 + i = (L + k) / 8 ∧ L % 8 + k - 8 * i = (L + k) % 8 := by omega
  refine Wl_call (r_call1 rfl Try.call66 rfl) (whole_no _ hB22 (by omega)) ?_
  rintro v w9 ⟨rfl, hU9⟩
  have hzw9 := hU9.size
  replace HU := HU.trans0 hU9
  replace hB22 := hB22.upd0 hU9
  replace hO := hO.upd0 hU9
  try replace hW := hW.trans0 hU9
  refine Wl_v (r_mv (v := .tuple #[.int .u8 0, .bool false]) rfl) ?_
  refine Wl_v (r_ext (v := .int .u8 0) rfl rfl) ?_
  refine Wl_v (r_ext (v := .bool false) rfl rfl) ?_
  refine Wl_v (r_as (v := .int .u8 0) rfl) ?_
  refine Wl_v (r_as (v := .bool false) rfl) ?_
  refine Wl_nil ?_
  refine W_seq ?_
  refine W_seq ?_
  refine W_region ?_
  refine Wl_v (r_mv (v := .bool false) rfl) ?_
  refine Wl_v (r_not (b := false) rfl) ?_
  refine Wl_nil ?_
  refine W_cond_t rfl ?_
  refine W_exit ?_
  refine W_seq ?_
  refine W_region ?_
  refine Wl_v (r_mv (v := .int .u64 ((x : Nat) : Int)) rfl) ?_
  refine Wl_v (r_mv (v := .int .i64 ((k : Nat) : Int)) rfl) ?_
  refine Wl_v (r_shr rfl rfl (by omega) (shr_n (k := k) (by omega) (by omega))) ?_
  refine Wl_v (r_as (v := .int .u64 ((x / 2 ^ k : Nat) : Int)) rfl) ?_
  refine Wl_nil ?_
  refine W_region ?_
  refine Wl_v (r_mv (v := .int .i64 ((k : Nat) : Int)) rfl) ?_
  refine Wl_v (r_mv (v := .int .i64 ((k : Nat) : Int)) rfl) ?_
  refine Wl_v (r_sub rfl rfl (wi64 (by omega) (by omega))) ?_
  refine Wl_v (r_as (v := .int .i64 (((k : Nat) : Int) - ((k : Nat) : Int))) rfl) ?_
  refine Wl_nil ?_
  refine unrK_succ ?_
  refine W_seq ?_
  refine W_seq ?_
  refine W_region ?_
  refine Wl_v (r_mv (v := .int .i64 (((k : Nat) : Int) - ((k : Nat) : Int))) rfl) ?_
  refine Wl_v (r_gt rfl rfl) ?_
  refine Wl_nil ?_
  have q7 : ¬ (0 < (((k : Nat) : Int) - ((k : Nat) : Int))) := (by omega)
  rw [decide_eq_false q7]
  refine W_cond_f rfl ?_
  refine W_exit ?_
  refine W_seq ?_
  refine W_region ?_
  refine Wl_v (r_as (v := .int .i64 0) rfl) ?_
  refine Wl_nil ?_
  refine W_ret ?_
  refine ret_end (v := .int .i64 0) rfl (res1 Try.results36 rfl) ?_
  exact ⟨_, rfl, rfl, ⟨a2, c2, (by rw [← hex.1, ← hex.2]; exact hB22), (by rw [← hex.1]; exact hO.weak (by intro g hg; have h3 : G0 ≤ g ∧ g ≠ wb := hg; show G0 ≤ g ∧ g ≠ wb; omega)), by omega⟩, HU⟩

set_option maxRecDepth 100000 in
theorem eput_spec {G0 wb V L x k : Nat} (w : World) (hW : Wr w G0 wb V L) (hV : V < 2 ^ L) (hx : x < 2 ^ k) (hbd : 1 ≤ k ∧ k ≤ 11 ∧ L ≤ 2000000) :
  Calls Try.prog 34 #[.agg #[.int .u64 ((x : Nat) : Int), .int .u64 ((k : Nat) : Int)], .pointer (some ⟨wb, 0, none⟩)] w (Ret fun v w' => v = .tuple #[] ∧ Wr w' G0 wb (V + x * 2 ^ L) (L + k) ∧ Upd (fun g => g = wb ∨ G0 ≤ g) w w') := by
 have HU : Upd (fun b => b = wb ∨ G0 ≤ b) w w := Upd.refl _ _
 have hlt := hW.lt
 refine calls_of_W Try.func34 rfl Try.ntmps34 (by simp) ?_
 refine W_seq ?_
 refine W_region ?_
 refine Wl_box (v := .agg #[.int .u64 ((x : Nat) : Int), .int .u64 ((k : Nat) : Int)]) (cs := [.int .u64 ((x : Nat) : Int), .int .u64 ((k : Nat) : Int)]) rfl rfl ?_
 intro B1 w1 hB1 hU1 hzz1 hb1
 have hzw1 := hU1.size
 replace hW := hW.upd0 hU1
 replace HU := HU.trans0 hU1
 refine Wl_nil ?_
 refine W_region ?_
 refine Wl_v (r_idxa (len := 2) (i' := 0) (o' := 0) Try.underlying60 Try.sizeOf55 rfl rfl (by omega) (by omega) (by omega)) ?_
 refine Wl_load (v := .int .u64 ((x : Nat) : Int)) Try.isAgg55 rfl hb1 rfl ?_
 refine Wl_v (r_idxa (len := 2) (i' := 1) (o' := 1) Try.underlying60 Try.sizeOf55 rfl rfl (by omega) (by omega) (by omega)) ?_
 refine Wl_load (v := .int .u64 ((k : Nat) : Int)) Try.isAgg55 rfl hb1 rfl ?_
 refine Wl_v (r_cvt Try.underlying55 Try.underlying3 rfl (wi64 (by omega) (by omega))) ?_
 refine Wl_call (r_call3 rfl Try.call36 rfl rfl rfl) (put_spec (V := V) (L := L) _ hW hV hx hbd) ?_
 rintro v w2 ⟨rfl, hW22, hU2⟩
 have hzw2 := hU2.size
 replace HU := HU.trans hU2 (by intro x hx; have hx2 : x = wb ∨ G0 ≤ x := hx; show (x = wb ∨ G0 ≤ x) ∨ w.heap.size ≤ x; omega)
 refine Wl_lit (pv := [(0, .int .i64 0)]) (cs := [.int .i64 0]) Try.underlying109 Try.sizeOf25 Try.zeroValue25 (by decide) (by decide) (by simp only [List.map_toArray, List.map_cons, List.map_nil] <;> rfl) (by kernel_rfl) rfl (by decide) ?_
 intro B3 w3 hB3 hU3 hzz3 hs3
 have hzw3 := hU3.size
 replace HU := HU.trans0 hU3
 replace hW22 := hW22.upd0 hU3
 replace hs3 : Own w3 (Is B3) 25 1 (.slice (some ⟨B3, 0, none⟩) 1 1) 1 (ints .i64 [0]) := hs3
 refine Wl_call (r_call1 rfl Try.call35 rfl) (omust_ok (er := 0) _ hs3.sl.any (by decide)) ?_
 rintro v w4 ⟨rfl, hU4⟩
 have hzw4 := hU4.size
 replace HU := HU.trans0 hU4
 replace hW22 := hW22.upd0 hU4
 refine Wl_nil ?_
 refine nrm_end (v := .tuple #[]) rfl (res0 Try.results34) ?_
 exact ⟨_, rfl, rfl, hW22, HU⟩

set_option maxRecDepth 100000 in
theorem wbytes {G0 wb V L : Nat} (w : World) (hW : Wr w G0 wb V L) (hbd : L ≤ 2000000) :
  Calls Try.prog 68 #[.pointer (some ⟨wb, 0, none⟩)] w (Ret fun v w' => ∃ (a' : Option Addr) (c' : Nat), v = .slice a' ((L + 7) / 8) c' ∧ Own w' (fun g => w.heap.size ≤ g) 5 1 (.slice a' ((L + 7) / 8) c') ((L + 7) / 8) (ints .u8 (ub V ((L + 7) / 8))) ∧ Upd No w w') := by
 have HU : Upd (fun b => False) w w := Upd.refl _ _
 obtain ⟨a, c, hB, hO, hG0⟩ := hW
 have hbl_hB := hB.lt
 have hl_hO := ilen hO.sl
 have hc_hO := hO.sl.cap.1
 replace hO := hO.tight
 refine calls_of_W Try.func68 rfl Try.ntmps68 (by simp) ?_
 refine W_seq ?_
 refine W_region ?_
 refine Wl_v (r_as (v := .slice none 0 0) rfl) ?_
 refine Wl_nil ?_
 refine W_seq ?_
 refine W_seq ?_
 refine W_region ?_
 refine Wl_v (r_mv (v := .pointer (some ⟨wb, 0, none⟩)) rfl) ?_
 refine Wl_v (r_eqpn_s Try.underlying110 rfl rfl) ?_
 refine Wl_nil ?_
 refine W_cond_f rfl ?_
 refine W_skip ?_
 refine W_seq ?_
 refine W_region ?_
 refine Wl_v (r_mv (v := .pointer (some ⟨wb, 0, none⟩)) rfl) ?_
 refine Wl_v (r_nil rfl) ?_
 refine Wl_v (r_fld Try.underlying59 rfl Try.sizeOf23 rfl rfl) ?_
 refine Wl_load (v := .slice a (L / 8) c) Try.isAgg23 rfl hB rfl ?_
 refine Wl_call (r_call1 rfl Try.call60 rfl) (bclone _ hO.sl.any (by omega)) ?_
 rintro v w1 ⟨a1, c1, rfl, hO1, hU1⟩
 have hzw1 := hU1.size
 replace hB := hB.upd0 hU1
 replace HU := HU.trans0 hU1
 replace hO1 := hO1.tight
 have hl_hO1 := ilen hO1.sl
 have hc_hO1 := hO1.sl.cap.1
 refine Wl_v (r_as (v := .slice a1 (L / 8) c1) rfl) ?_
 refine Wl_nil ?_
 refine W_seq ?_
 refine W_seq ?_
 refine W_region ?_
 refine Wl_v (r_mv (v := .pointer (some ⟨wb, 0, none⟩)) rfl) ?_
 refine Wl_v (r_nil rfl) ?_
 refine Wl_v (r_fld Try.underlying59 rfl Try.sizeOf57 rfl rfl) ?_
 refine Wl_v (r_fld Try.underlying57 rfl Try.sizeOf3 rfl rfl) ?_
 refine Wl_load (v := .int .i64 ((L % 8 : Nat) : Int)) Try.isAgg3 rfl hB rfl ?_
 refine Wl_v (r_gt rfl rfl) ?_
 refine Wl_nil ?_
 by_cases q1 : 0 < ((L % 8 : Nat) : Int)
 ·have he : L / 8 + 1 = (L + 7) / 8 := by omega
  rw [decide_eq_true q1]
  refine W_cond_t rfl ?_
  refine W_region ?_
  refine Wl_v (r_mv (v := .slice a1 (L / 8) c1) rfl) ?_
  refine Wl_v (r_mv (v := .pointer (some ⟨wb, 0, none⟩)) rfl) ?_
  refine Wl_v (r_nil rfl) ?_
  refine Wl_v (r_fld Try.underlying59 rfl Try.sizeOf57 rfl rfl) ?_
  refine Wl_v (r_fld Try.underlying57 rfl Try.sizeOf55 rfl rfl) ?_
  refine Wl_load (v := .int .u64 ((V / 256 ^ (L / 8) : Nat) : Int)) Try.isAgg55 rfl hB rfl ?_
  refine Wl_v (r_cvt Try.underlying55 Try.underlying5 rfl (mu8 _)) ?_
  refine Wl_lit (pv := [(0, .int .u8 (((V / 256 ^ (L / 8) : Nat) : Int) % 256))]) (cs := [.int .u8 (((V / 256 ^ (L / 8) : Nat) : Int) % 256)]) Try.underlying23 Try.sizeOf5 Try.zeroValue5 (by decide) (by decide) (by simp only [List.map_toArray, List.map_cons, List.map_nil] <;> rfl) (by kernel_rfl) rfl (by decide) ?_
  intro B2 w2 hB2 hU2 hzz2 hs2
  have hzw2 := hU2.size
  replace HU := HU.trans0 hU2
  replace hO1 := hO1.upd0 hU2
  replace hs2 : Own w2 (Is B2) 5 1 (.slice (some ⟨B2, 0, none⟩) 1 1) 1 (ints .u8 [((V / 256 ^ (L / 8) : Nat) : Int) % 256]) := hs2
  refine Wl_appendi (xs := ub V (L / 8)) (ys := [((V / 256 ^ (L / 8) : Nat) : Int) % 256]) (zs := (ub V (L / 8)) ++ [((V / 256 ^ (L / 8) : Nat) : Int) % 256]) (k' := .u8) (tot := (L / 8) + 1) (by first | rfl | exact (rows_app _ _).symm | simp) Try.underlying23 (ti := Try.t5) (z := .int .u8 0) (sz := 1) (by' := 1) rfl rfl rfl rfl rfl (by decide) rfl hO1 rfl hs2.sl  (by omega) (by simp only [maxLen]; omega) (by omega) ?_
  intro a3 c3 w3 hU3 hzz3 hO3
  clear hO1
  have hzw3 := hU3.size
  replace HU := HU.trans hU3 (by intro x hx; have hx2 : ((w.heap.size ≤ x) ∧ x < w1.heap.size) := hx; show (False) ∨ w.heap.size ≤ x; omega)
  replace hO3 := hO3.tight
  have hl_hO3 := ilen hO3.sl
  have hc_hO3 := hO3.sl.cap.1
  refine Wl_v (r_as (v := .slice a3 ((L / 8) + 1) c3) rfl) ?_
  refine Wl_nil ?_
  refine W_seq ?_
  refine W_region ?_
  refine Wl_v (r_mv (v := .slice a3 ((L / 8) + 1) c3) rfl) ?_
  refine Wl_v (r_as (v := .slice a3 ((L / 8) + 1) c3) rfl) ?_
  refine Wl_nil ?_
  refine W_ret ?_
  refine ret_end (v := .slice a3 ((L / 8) + 1) c3) rfl (res1 Try.results68 rfl) ?_
  exact ⟨_, rfl, a3, c3, (by rw [← he]), (by rw [← he]; exact (hO3.weak (by intro g hg; have h3 : ((((((w.heap.size ≤ g) ∧ g < w1.heap.size)) ∨ g = w2.heap.size)) ∧ g < w3.heap.size) := hg; show w.heap.size ≤ g; omega)).icong (ub_succ' _ _).symm), HU⟩
 ·have he : L / 8 = (L + 7) / 8 := by omega
  rw [decide_eq_false q1]
  refine W_cond_f rfl ?_
  refine W_skip ?_
  refine W_seq ?_
  refine W_region ?_
  refine Wl_v (r_mv (v := .slice a1 (L / 8) c1) rfl) ?_
  refine Wl_v (r_as (v := .slice a1 (L / 8) c1) rfl) ?_
  refine Wl_nil ?_
  refine W_ret ?_
  refine ret_end (v := .slice a1 (L / 8) c1) rfl (res1 Try.results68 rfl) ?_
  exact ⟨_, rfl, a1, c1, (by rw [← he]), (by rw [← he]; exact (hO1.weak (by intro g hg; have h3 : ((w.heap.size ≤ g) ∧ g < w1.heap.size) := hg; show w.heap.size ≤ g; omega))), HU⟩

set_option maxRecDepth 100000 in
theorem wclose {G0 wb V L : Nat} (w : World) (hW : Wr w G0 wb V L) (hV : V < 2 ^ L) (hbd : L ≤ 1900000) :
  Calls Try.prog 38 #[.pointer (some ⟨wb, 0, none⟩)] w (Ret fun v w' => ∃ (a' : Option Addr) (c' : Nat), v = .slice a' (L / 8 + 1) c' ∧ Own w' (fun g => w.heap.size ≤ g) 5 1 (.slice a' (L / 8 + 1) c') (L / 8 + 1) (ints .u8 (ub (V + 2 ^ L) (L / 8 + 1))) ∧ Upd No w w') := by
 have HU : Upd (fun b => False) w w := Upd.refl _ _
 obtain ⟨a, c, hB, hO, hG0⟩ := hW
 have hbl_hB := hB.lt
 have hl_hO := ilen hO.sl
 have hc_hO := hO.sl.cap.1
 replace hO := hO.tight
 refine calls_of_W Try.func38 rfl Try.ntmps38 (by simp) ?_
 refine W_seq ?_
 refine W_region ?_
 refine Wl_v (r_as (v := .slice none 0 0) rfl) ?_
 refine Wl_nil ?_
 refine W_seq ?_
 refine W_seq ?_
 refine W_region ?_
 refine Wl_v (r_mv (v := .pointer (some ⟨wb, 0, none⟩)) rfl) ?_
 refine Wl_v (r_eqpn_s Try.underlying110 rfl rfl) ?_
 refine Wl_nil ?_
 refine W_cond_f rfl ?_
 refine W_skip ?_
 refine W_seq ?_
 refine W_drawS (T := fun g => False) rfl (l0 := tf 0 12) (by kernel_rfl) ?_
 refine WtS_take (i := 0) (listed' := tf 1 12) (Upd.refl _ _) (by kernel_rfl) rfl (by kernel_rfl) (by kernel_rfl) (by kernel_rfl) (by kernel_rfl) (YS_v (v := .pointer (some ⟨wb, 0, none⟩)) rfl (fun w' hw' => r_mv (v := .pointer (some ⟨wb, 0, none⟩)) rfl)) ?_
 refine WtS_take (i := 1) (listed' := tf 2 12) (Upd.refl _ _) (by kernel_rfl) rfl (by kernel_rfl) (by kernel_rfl) (by kernel_rfl) (by kernel_rfl) (YS_v (v := .pointer (some ⟨wb, 0, none⟩)) rfl (fun w' hw' => r_nil rfl)) ?_
 refine WtS_take (i := 2) (listed' := tf 3 12) (Upd.refl _ _) (by kernel_rfl) rfl (by kernel_rfl) (by kernel_rfl) (by kernel_rfl) (by kernel_rfl) (YS_v (v := .pointer (some ⟨wb, 0, none⟩)) rfl (fun w' hw' => r_fld Try.underlying59 rfl Try.sizeOf57 rfl rfl)) ?_
 refine WtS_take (i := 3) (listed' := tf 4 12) (Upd.refl _ _) (by kernel_rfl) rfl (by kernel_rfl) (by kernel_rfl) (by kernel_rfl) (by kernel_rfl) (YS_v (v := .agg #[.int .u64 ((V / 256 ^ (L / 8) : Nat) : Int), .int .i64 ((L % 8 : Nat) : Int)]) rfl (fun w' hw' => r_loada (b := wb) (off := 0) (cs := [.int .u64 ((V / 256 ^ (L / 8) : Nat) : Int), .int .i64 ((L % 8 : Nat) : Int)]) Try.isAgg57 Try.sizeOf57 rfl rfl (fun j hj => by rw [(hB.upd0 hw').cell]; match j, hj with | 0, _ => rfl | 1, _ => rfl))) ?_
 refine WtS_take (i := 4) (listed' := tf 5 12) (Upd.refl _ _) (by kernel_rfl) rfl (by kernel_rfl) (by kernel_rfl) (by kernel_rfl) (by kernel_rfl) (YS_v (v := .pointer (some ⟨wb, 0, none⟩)) rfl (fun w' hw' => r_mv (v := .pointer (some ⟨wb, 0, none⟩)) rfl)) ?_
 refine WtS_take (i := 5) (listed' := tf 6 12) (Upd.refl _ _) (by kernel_rfl) rfl (by kernel_rfl) (by kernel_rfl) (by kernel_rfl) (by kernel_rfl) (YS_v (v := .pointer (some ⟨wb, 0, none⟩)) rfl (fun w' hw' => r_nil rfl)) ?_
 refine WtS_take (i := 6) (listed' := tf 7 12) (Upd.refl _ _) (by kernel_rfl) rfl (by kernel_rfl) (by kernel_rfl) (by kernel_rfl) (by kernel_rfl) (YS_v (v := .pointer (some ⟨wb, 2, none⟩)) rfl (fun w' hw' => r_fld Try.underlying59 rfl Try.sizeOf23 rfl rfl)) ?_
 refine WtS_take (i := 7) (listed' := tf 8 12) (Upd.refl _ _) (by kernel_rfl) rfl (by kernel_rfl) (by kernel_rfl) (by kernel_rfl) (by kernel_rfl) (YS_v (v := .slice a (L / 8) c) rfl (fun w' hw' => r_load Try.isAgg23 rfl (by rw [(hB.upd0 hw').cell]; rfl))) ?_
 intro w1 hU1
 have hzw1 := hU1.size
 replace hO := hO.upd0 hU1
 replace HU := HU.trans0 hU1
 refine Wa_two (i := 8) (j := 10) (li := tf 9 12) (lj := #[true, true, true, true, true, true, true, true, false, false, true, false]) (by kernel_rfl) rfl rfl (by kernel_rfl) (by kernel_rfl) ?_ ?_
 ·refine Ws_of_Wl ?_
  have hW : Upd (fun g => False) w w := (Upd.refl _ _)
  replace hW := hW.trans0 hU1
  refine Wl_call (r_call1 rfl Try.call60 rfl) (bclone _ hO.sl.any (by omega)) ?_
  rintro v w2 ⟨a2, c2, rfl, hO2, hU2⟩
  have hzw2 := hU2.size
  replace HU := HU.trans0 hU2
  replace hW := hW.trans0 hU2
  replace hO2 := hO2.tight
  have hl_hO2 := ilen hO2.sl
  have hc_hO2 := hO2.sl.cap.1
  refine Wl_nil ?_
  intro w3 hS3
  have hX3 : Upd _ w w3 := hW.trans0 hS3.upd
  refine ⟨fun _ => ⟨hX3, ?_⟩, fun h => absurd h (by rw [show barOp _ 8 = false from by kernel_rfl]; simp)⟩
  have hU3 := hS3.upd
  have hzw3 := hU3.size
  replace HU := HU.trans0 hU3
  replace hO2 := hO2.upd0 hU3
  refine WtS_base ?_
  refine WtS_take (i := 9) (listed' := tf 10 12) hX3 (by kernel_rfl) rfl (by kernel_rfl) (by kernel_rfl) (by kernel_rfl) (by kernel_rfl) (YS_v (v := .agg #[.int .u64 ((V / 256 ^ (L / 8) : Nat) : Int), .int .i64 ((L % 8 : Nat) : Int), .slice a2 (L / 8) c2]) rfl (fun w' hw' => r_build (pl := #[(0, 2), (2, 1)]) (pv := [(0, .agg #[.int .u64 ((V / 256 ^ (L / 8) : Nat) : Int), .int .i64 ((L % 8 : Nat) : Int)]), (1, .slice a2 (L / 8) c2)]) (cs := #[.int .u64 ((V / 256 ^ (L / 8) : Nat) : Int), .int .i64 ((L % 8 : Nat) : Int), .slice a2 (L / 8) c2]) Try.zeroValue59 Try.underlying59 (fun w => by kernel_rfl) (by simp only [List.map_toArray, List.map_cons, List.map_nil] <;> rfl) (by kernel_rfl))) ?_
  intro w4 hU4
  have hzw4 := hU4.size
  replace HU := HU.trans0 hU4
  replace hO2 := hO2.upd0 hU4
  refine Wa_one (i := 10) (listed' := tf 11 12) (by kernel_rfl) rfl (by kernel_rfl) ?_
  refine Ws_of_Wl ?_
  have hW : Upd (fun g => False) w w3 := hX3
  replace hW := hW.trans0 hU4
  refine Wl_alloc (cs := [.int .u64 0, .int .i64 0, .slice none 0 0]) Try.zeroValue59 rfl ?_
  intro B5 w5 hB5 hU5 hzz5 hb5
  have hzw5 := hU5.size
  replace HU := HU.trans0 hU5
  replace hO2 := hO2.upd0 hU5
  replace hW := hW.trans0 hU5
  refine Wl_nil ?_
  intro w6 hS6
  have hX6 : Upd _ w w6 := hW.trans0 hS6.upd
  refine ⟨fun _ => ⟨hX6, ?_⟩, fun h => absurd h (by rw [show barOp _ 10 = false from by kernel_rfl]; simp)⟩
  have hU6 := hS6.upd
  have hzw6 := hU6.size
  replace HU := HU.trans0 hU6
  replace hO2 := hO2.upd0 hU6
  replace hb5 := hb5.upd0 hU6
  refine WtS_base ?_
  intro w7 hU7
  have hzw7 := hU7.size
  replace HU := HU.trans0 hU7
  replace hO2 := hO2.upd0 hU7
  replace hb5 := hb5.upd0 hU7
  refine Wa_one (i := 11) (listed' := tf 12 12) (by kernel_rfl) rfl (by kernel_rfl) ?_
  refine Ws_of_Wl ?_
  have hW : Upd No w6 w7 := hU7
  refine Wl_storea (off := 0) (vs := [.int .u64 ((V / 256 ^ (L / 8) : Nat) : Int), .int .i64 ((L % 8 : Nat) : Int), .slice a2 (L / 8) c2]) (cs' := [.int .u64 ((V / 256 ^ (L / 8) : Nat) : Int), .int .i64 ((L % 8 : Nat) : Int), .slice a2 (L / 8) c2]) Try.sizeOf59 rfl rfl rfl (by simp only [List.mem_cons, List.not_mem_nil, or_false, forall_eq_or_imp, forall_eq]; exact ⟨rfl, rfl, rfl⟩) hb5 (by simp) rfl ?_
  intro w8 hU8 hzz8 hb5n
  replace hb5 := hb5n; clear hb5n
  have hzw8 := hU8.size
  replace HU := HU.trans1 hU8 (by show (False) ∨ w.heap.size ≤ B5; omega)
  replace hO2 := hO2.upd1 hU8 (by intro h1; have h3 : ((w1.heap.size ≤ B5) ∧ B5 < w2.heap.size) := h1; omega)
  refine Wl_nil ?_
  intro w9 hS9
  refine ⟨fun h => absurd h (by rw [show barOp _ 11 = true from by kernel_rfl]; simp), fun _ => ⟨Upd No w9, ?_⟩⟩
  have hU9 := hS9.upd
  have hzw9 := hU9.size
  replace HU := HU.trans0 hU9
  replace hO2 := hO2.upd0 hU9
  replace hb5 := hb5.upd0 hU9
  try replace hW := hW.trans0 hU9
  refine Wa_done (by kernel_rfl) ?_
  refine W_seq ?_
  refine W_region ?_
  have hW9 : Wr w9 w.heap.size B5 V L := ⟨a2, c2, hb5, hO2.weak (by intro g hg; have h3 : ((w1.heap.size ≤ g) ∧ g < w2.heap.size) := hg; show w.heap.size ≤ g ∧ g ≠ B5; omega), by omega⟩
  have hW9l := hW9.lt
  refine Wl_call (r_call3 rfl Try.call36 rfl rfl rfl) (put_spec (V := V) (L := L) (x := 1) (k := 1) _ hW9 hV (by decide) (by omega)) ?_
  rintro v w10 ⟨rfl, hW210, hU10⟩
  have hzw10 := hU10.size
  replace HU := HU.trans hU10 (by intro x hx; have hx2 : x = B5 ∨ w.heap.size ≤ x := hx; show (False) ∨ w.heap.size ≤ x; omega)
  refine Wl_nil ?_
  refine W_seq ?_
  refine W_region ?_
  refine Wl_call (r_call1 rfl Try.call68 rfl) (wbytes _ hW210 (by omega)) ?_
  rintro v w11 ⟨a11, c11, rfl, hO11, hU11⟩
  have hzw11 := hU11.size
  replace HU := HU.trans0 hU11
  try replace hW := hW.trans0 hU11
  replace hO11 := hO11.tight
  have hl_hO11 := ilen hO11.sl
  have hc_hO11 := hO11.sl.cap.1
  refine Wl_v (r_as (v := .slice a11 (((L + 1) + 7) / 8) c11) rfl) ?_
  refine Wl_nil ?_
  refine W_ret ?_
  refine ret_end (v := .slice a11 (((L + 1) + 7) / 8) c11) rfl (res1 Try.results38 rfl) ?_
  have hee : (L + 1 + 7) / 8 = L / 8 + 1 := by omega
  exact ⟨_, rfl, a11, c11, (by rw [← hee]), (by rw [← hee]; exact (hO11.weak (by intro g hg; have h3 : ((w10.heap.size ≤ g) ∧ g < w11.heap.size) := hg; show w.heap.size ≤ g; omega)).icong (by rw [Nat.one_mul])), HU⟩
 ·refine Ws_of_Wl ?_
  have hW : Upd (fun g => False) w w := (Upd.refl _ _)
  replace hW := hW.trans0 hU1
  refine Wl_alloc (cs := [.int .u64 0, .int .i64 0, .slice none 0 0]) Try.zeroValue59 rfl ?_
  intro B12 w12 hB12 hU12 hzz12 hb12
  have hzw12 := hU12.size
  replace hO := hO.upd0 hU12
  replace HU := HU.trans0 hU12
  replace hW := hW.trans0 hU12
  refine Wl_nil ?_
  intro w13 hS13
  have hX13 : Upd _ w w13 := hW.trans0 hS13.upd
  refine ⟨fun _ => ⟨hX13, ?_⟩, fun h => absurd h (by rw [show barOp _ 10 = false from by kernel_rfl]; simp)⟩
  have hU13 := hS13.upd
  have hzw13 := hU13.size
  replace hO := hO.upd0 hU13
  replace HU := HU.trans0 hU13
  replace hb12 := hb12.upd0 hU13
  refine WtS_base ?_
  intro w14 hU14
  have hzw14 := hU14.size
  replace hO := hO.upd0 hU14
  replace HU := HU.trans0 hU14
  replace hb12 := hb12.upd0 hU14
  refine Wa_one (i := 8) (listed' := #[true, true, true, true, true, true, true, true, true, false, true, false]) (by kernel_rfl) rfl (by kernel_rfl) ?_
  refine Ws_of_Wl ?_
  have hW : Upd (fun g => False) w w13 := hX13
  replace hW := hW.trans0 hU14
  refine Wl_call (r_call1 rfl Try.call60 rfl) (bclone _ hO.sl.any (by omega)) ?_
  rintro v w15 ⟨a15, c15, rfl, hO15, hU15⟩
  have hzw15 := hU15.size
  replace HU := HU.trans0 hU15
  replace hb12 := hb12.upd0 hU15
  replace hW := hW.trans0 hU15
  replace hO15 := hO15.tight
  have hl_hO15 := ilen hO15.sl
  have hc_hO15 := hO15.sl.cap.1
  refine Wl_nil ?_
  intro w16 hS16
  have hX16 : Upd _ w w16 := hW.trans0 hS16.upd
  refine ⟨fun _ => ⟨hX16, ?_⟩, fun h => absurd h (by rw [show barOp _ 8 = false from by kernel_rfl]; simp)⟩
  have hU16 := hS16.upd
  have hzw16 := hU16.size
  replace HU := HU.trans0 hU16
  replace hb12 := hb12.upd0 hU16
  replace hO15 := hO15.upd0 hU16
  refine WtS_base ?_
  refine WtS_take (i := 9) (listed' := tf 11 12) hX16 (by kernel_rfl) rfl (by kernel_rfl) (by kernel_rfl) (by kernel_rfl) (by kernel_rfl) (YS_v (v := .agg #[.int .u64 ((V / 256 ^ (L / 8) : Nat) : Int), .int .i64 ((L % 8 : Nat) : Int), .slice a15 (L / 8) c15]) rfl (fun w' hw' => r_build (pl := #[(0, 2), (2, 1)]) (pv := [(0, .agg #[.int .u64 ((V / 256 ^ (L / 8) : Nat) : Int), .int .i64 ((L % 8 : Nat) : Int)]), (1, .slice a15 (L / 8) c15)]) (cs := #[.int .u64 ((V / 256 ^ (L / 8) : Nat) : Int), .int .i64 ((L % 8 : Nat) : Int), .slice a15 (L / 8) c15]) Try.zeroValue59 Try.underlying59 (fun w => by kernel_rfl) (by simp only [List.map_toArray, List.map_cons, List.map_nil] <;> rfl) (by kernel_rfl))) ?_
  intro w17 hU17
  have hzw17 := hU17.size
  replace HU := HU.trans0 hU17
  replace hb12 := hb12.upd0 hU17
  replace hO15 := hO15.upd0 hU17
  refine Wa_one (i := 11) (listed' := tf 12 12) (by kernel_rfl) rfl (by kernel_rfl) ?_
  refine Ws_of_Wl ?_
  have hW : Upd No w16 w17 := hU17
  refine Wl_storea (off := 0) (vs := [.int .u64 ((V / 256 ^ (L / 8) : Nat) : Int), .int .i64 ((L % 8 : Nat) : Int), .slice a15 (L / 8) c15]) (cs' := [.int .u64 ((V / 256 ^ (L / 8) : Nat) : Int), .int .i64 ((L % 8 : Nat) : Int), .slice a15 (L / 8) c15]) Try.sizeOf59 rfl rfl rfl (by simp only [List.mem_cons, List.not_mem_nil, or_false, forall_eq_or_imp, forall_eq]; exact ⟨rfl, rfl, rfl⟩) hb12 (by simp) rfl ?_
  intro w18 hU18 hzz18 hb12n
  replace hb12 := hb12n; clear hb12n
  have hzw18 := hU18.size
  replace HU := HU.trans1 hU18 (by show (False) ∨ w.heap.size ≤ B12; omega)
  replace hO15 := hO15.upd1 hU18 (by intro h1; have h3 : ((w14.heap.size ≤ B12) ∧ B12 < w15.heap.size) := h1; omega)
  refine Wl_nil ?_
  intro w19 hS19
  refine ⟨fun h => absurd h (by rw [show barOp _ 11 = true from by kernel_rfl]; simp), fun _ => ⟨Upd No w19, ?_⟩⟩
  have hU19 := hS19.upd
  have hzw19 := hU19.size
  replace HU := HU.trans0 hU19
  replace hb12 := hb12.upd0 hU19
  replace hO15 := hO15.upd0 hU19
  try replace hW := hW.trans0 hU19
  refine Wa_done (by kernel_rfl) ?_
  refine W_seq ?_
  refine W_region ?_
  have hW9 : Wr w19 w.heap.size B12 V L := ⟨a15, c15, hb12, hO15.weak (by intro g hg; have h3 : ((w14.heap.size ≤ g) ∧ g < w15.heap.size) := hg; show w.heap.size ≤ g ∧ g ≠ B12; omega), by omega⟩
  have hW9l := hW9.lt
  refine Wl_call (r_call3 rfl Try.call36 rfl rfl rfl) (put_spec (V := V) (L := L) (x := 1) (k := 1) _ hW9 hV (by decide) (by omega)) ?_
  rintro v w20 ⟨rfl, hW220, hU20⟩
  have hzw20 := hU20.size
  replace HU := HU.trans hU20 (by intro x hx; have hx2 : x = B12 ∨ w.heap.size ≤ x := hx; show (False) ∨ w.heap.size ≤ x; omega)
  refine Wl_nil ?_
  refine W_seq ?_
  refine W_region ?_
  refine Wl_call (r_call1 rfl Try.call68 rfl) (wbytes _ hW220 (by omega)) ?_
  rintro v w21 ⟨a21, c21, rfl, hO21, hU21⟩
  have hzw21 := hU21.size
  replace HU := HU.trans0 hU21
  try replace hW := hW.trans0 hU21
  replace hO21 := hO21.tight
  have hl_hO21 := ilen hO21.sl
  have hc_hO21 := hO21.sl.cap.1
  refine Wl_v (r_as (v := .slice a21 (((L + 1) + 7) / 8) c21) rfl) ?_
  refine Wl_nil ?_
  refine W_ret ?_
  refine ret_end (v := .slice a21 (((L + 1) + 7) / 8) c21) rfl (res1 Try.results38 rfl) ?_
  have hee : (L + 1 + 7) / 8 = L / 8 + 1 := by omega
  exact ⟨_, rfl, a21, c21, (by rw [← hee]), (by rw [← hee]; exact (hO21.weak (by intro g hg; have h3 : ((w20.heap.size ≤ g) ∧ g < w21.heap.size) := hg; show w.heap.size ≤ g; omega)).icong (by rw [Nat.one_mul])), HU⟩

end Go.Proofs.Ytilegaokfamfnaa
