/-
  Several texts of this project, put together.
-/
import Derived.Test.YtdppageondgjkaaGreatZB
set_option linter.unusedVariables false
set_option linter.unusedSimpArgs false
set_option maxRecDepth 100000
namespace Go.Proofs.YtdppageondgjkaaGreat
open Go.Fw _root_.Go.Proofs.Tryz
def Wr (w : World) (G0 wb V L : Nat) : Prop :=
 ∃ (a : Option Addr) (c : Nat), Blk w wb [.int .u64 ((V / 256 ^ (L / 8) : Nat) : Int), .int .i64 ((L % 8 : Nat) : Int), .slice a (L / 8) c] ∧
  Own w (fun g => G0 ≤ g ∧ g ≠ wb) 5 1 (.slice a (L / 8) c) (L / 8) (ints .u8 (ub V (L / 8))) ∧ G0 ≤ w.heap.size
theorem Wr.upd {w w' : World} {G0 wb V L : Nat} {S : Nat → Prop} (h : Wr w G0 wb V L) (hU : Upd S w w') (hS : ∀ g, S g → g < G0 ∧ g ≠ wb) : Wr w' G0 wb V L := by
 obtain ⟨a, c, h1, h2, h3⟩ := h
 have hz := hU.size
 exact ⟨a, c, h1.upd hU (fun x => (hS _ x).2 rfl), h2.upd hU (fun g hg x => by have := hS _ x; have h6 : G0 ≤ g ∧ g ≠ wb := hg; omega), by omega⟩
theorem Wr.upd0 {w w' : World} {G0 wb V L : Nat} (h : Wr w G0 wb V L) (hU : Upd No w w') : Wr w' G0 wb V L := h.upd hU fun _ x => x.elim
theorem Wr.upd1 {w w' : World} {G0 wb V L x : Nat} (h : Wr w G0 wb V L) (hU : Upd (Is x) w w') (hx : x < G0 ∧ x ≠ wb) : Wr w' G0 wb V L := h.upd hU fun g hg => by have h6 : g = x := hg; omega
theorem Wr.lt {w : World} {G0 wb V L : Nat} (h : Wr w G0 wb V L) : G0 ≤ w.heap.size ∧ wb < w.heap.size := by
 obtain ⟨a, c, h1, h2, h3⟩ := h
 exact ⟨h3, h1.lt⟩
theorem Wr.cong {w : World} {G0 wb V V' L L' : Nat} (h : Wr w G0 wb V L) (e1 : V = V') (e2 : L = L') : Wr w G0 wb V' L' := by subst e1 e2; exact h
theorem ub_succ' (W n : Nat) : ub W (n + 1) = ub W n ++ [((W / 256 ^ n % 256 : Nat) : Int)] := tabn_succ _ _
theorem ub_congr {V x L : Nat} : ub (V + x * 2 ^ L) (L / 8) = ub V (L / 8) := by
 unfold ub
 refine tabn_congr fun i hi => ?_
 have e : 2 ^ L = 256 ^ i * 256 * 2 ^ (L - 8 * i - 8) := by
  rw [← Nat.pow_succ, p256, ← Nat.pow_add]; congr 1; omega
 rw [e, show x * (256 ^ i * 256 * 2 ^ (L - 8 * i - 8)) = 256 ^ i * (256 * (x * 2 ^ (L - 8 * i - 8))) from by ac_rfl, Nat.add_mul_div_left _ _ (Nat.pow_pos (by decide)), Nat.add_mul_mod_self_left]
theorem hold_lt {V L : Nat} (h : V < 2 ^ L) : V / 256 ^ (L / 8) < 2 ^ (L % 8) := by
 rw [p256, Nat.div_lt_iff_lt_mul (Nat.pow_pos (by decide)), ← Nat.pow_add, show L % 8 + 8 * (L / 8) = L from by omega]; exact h
theorem hold_add (V x L : Nat) : V / 256 ^ (L / 8) + x * 2 ^ (L % 8) = (V + x * 2 ^ L) / 256 ^ (L / 8) := by
 have e : 2 ^ L = 256 ^ (L / 8) * 2 ^ (L % 8) := by rw [p256, ← Nat.pow_add]; congr 1; omega
 rw [e, show x * (256 ^ (L / 8) * 2 ^ (L % 8)) = 256 ^ (L / 8) * (x * 2 ^ (L % 8)) from by simp only [Nat.mul_left_comm], Nat.add_mul_div_left _ _ (Nat.pow_pos (by decide))]
theorem put_lt {V x L k : Nat} (hV : V < 2 ^ L) (hx : x < 2 ^ k) : V + x * 2 ^ L < 2 ^ (L + k) := by
 have h1 : (x + 1) * 2 ^ L ≤ 2 ^ k * 2 ^ L := Nat.mul_le_mul_right _ hx
 rw [← Nat.pow_add, Nat.add_comm k L, Nat.add_mul, Nat.one_mul] at h1; omega
theorem blk3a {w : World} {b : Nat} {y z : Value} {k : IntKind} {v v' : Int} (h : Blk w b [.int k v, y, z]) (e : v = v') : Blk w b [.int k v', y, z] := e ▸ h
theorem blk3b {w : World} {b : Nat} {x z : Value} {k : IntKind} {v v' : Int} (h : Blk w b [x, .int k v, z]) (e : v = v') : Blk w b [x, .int k v', z] := e ▸ h
theorem hadd {hb A g X k : Nat} {z : Value} (w : World) (hB : Blk w hb [.int .u64 ((A : Nat) : Int), .int .i64 ((g : Nat) : Int), z]) (hbd : A < 2 ^ g ∧ X < 2 ^ k ∧ g + k ≤ 64) :
  Calls Tryz.prog 90 #[.pointer (some ⟨hb, 0, none⟩), .int .u64 ((X : Nat) : Int), .int .i64 ((k : Nat) : Int)] w (Ret fun v w' => v = .tuple #[] ∧ Blk w' hb [.int .u64 ((A + X * 2 ^ g : Nat) : Int), .int .i64 ((g + k : Nat) : Int), z] ∧ Upd (Is hb) w w') := by
 have HU : Upd (fun b => b = hb) w w := Upd.refl _ _
 have hbl_hB := hB.lt
 refine calls_of_W func90 rfl ntmps90 (by simp) ?_
 refine W_seq ?_
 refine W_drawt rfl (l0 := tf 0 14) (by kernel_rfl) ?_
 refine Tk 0 (tf 1 14) rfl (YI_v (v := .pointer (some ⟨hb, 0, none⟩)) rfl (fun w' hw' => r_mv (v := .pointer (some ⟨hb, 0, none⟩)) rfl)) ?_
 refine Tk 1 (tf 2 14) rfl (YI_v (v := .pointer (some ⟨hb, 0, none⟩)) rfl (fun w' hw' => r_nil rfl)) ?_
 refine Tk 2 (tf 3 14) rfl (YI_v (v := .pointer (some ⟨hb, 0, none⟩)) rfl (fun w' hw' => r_fld underlying95 rfl sizeOf76 rfl rfl)) ?_
 refine Tk 3 (tf 4 14) rfl (YI_v (v := .int .u64 ((A : Nat) : Int)) rfl (fun w' hw' => r_load isAgg76 rfl (by rw [(hB.upd0 hw').cell]; rfl))) ?_
 refine Tk 4 (tf 5 14) rfl (YI_v (v := .int .u64 ((X : Nat) : Int)) rfl (fun w' hw' => r_mv (v := .int .u64 ((X : Nat) : Int)) rfl)) ?_
 refine Tk 5 (tf 6 14) rfl (YI_v (v := .pointer (some ⟨hb, 0, none⟩)) rfl (fun w' hw' => r_mv (v := .pointer (some ⟨hb, 0, none⟩)) rfl)) ?_
 refine Tk 6 (tf 7 14) rfl (YI_v (v := .pointer (some ⟨hb, 0, none⟩)) rfl (fun w' hw' => r_nil rfl)) ?_
 refine Tk 7 (tf 8 14) rfl (YI_v (v := .pointer (some ⟨hb, 1, none⟩)) rfl (fun w' hw' => r_fld underlying95 rfl sizeOf3 rfl rfl)) ?_
 refine Tk 8 (tf 9 14) rfl (YI_v (v := .int .i64 ((g : Nat) : Int)) rfl (fun w' hw' => r_load isAgg3 rfl (by rw [(hB.upd0 hw').cell]; rfl))) ?_
 refine Tk 9 (tf 10 14) rfl (YI_v (v := .int .u64 ((X * 2 ^ g : Nat) : Int)) rfl (fun w' hw' => r_shl rfl rfl (by omega) (shl_n (by omega) (by omega) (mul_lt64 hbd.2.2 hbd.2.1)))) ?_
 refine Tk 10 (tf 11 14) rfl (YI_v (v := .int .u64 ((A + X * 2 ^ g : Nat) : Int)) rfl (fun w' hw' => r_or rfl rfl (or_add hbd.1 (lt64 hbd.2.2 (put_lt hbd.1 hbd.2.1))))) ?_
 refine Tk 11 (tf 12 14) rfl (YI_v (v := .pointer (some ⟨hb, 0, none⟩)) rfl (fun w' hw' => r_nil rfl)) ?_
 refine Tk 12 (tf 13 14) rfl (YI_v (v := .pointer (some ⟨hb, 0, none⟩)) rfl (fun w' hw' => r_fld underlying95 rfl sizeOf76 rfl rfl)) ?_
 intro w1 hU1
 have hzw1 := hU1.size
 replace hB := hB.upd0 hU1
 replace HU := HU.trans0 hU1
 refine Wa_one (i := 13) (listed' := tf 14 14) (by kernel_rfl) rfl (by kernel_rfl) ?_
 refine Ws_of_Wl ?_
 have hW : Upd No w w1 := hU1
 refine Wl_store (v := .int .u64 ((A + X * 2 ^ g : Nat) : Int)) (cs' := [.int .u64 ((A + X * 2 ^ g : Nat) : Int), .int .i64 ((g : Nat) : Int), z]) sizeOf76 rfl rfl rfl rfl hB rfl rfl ?_
 intro w2 hU2 hzz2 hBn
 replace hB := hBn; clear hBn
 have hzw2 := hU2.size
 replace HU := HU.trans1 hU2 (by show (hb = hb) ∨ w.heap.size ≤ hb; omega)
 refine Wl_nil ?_
 intro w3 hS3
 refine ⟨fun h => absurd h (by rw [show barOp _ 13 = true from by kernel_rfl]; simp), fun _ => ⟨Upd No w3, ?_⟩⟩
 have hU3 := hS3.upd
 have hzw3 := hU3.size
 replace hB := hB.upd0 hU3
 replace HU := HU.trans0 hU3
 try replace hW := hW.trans0 hU3
 refine Wa_done (by kernel_rfl) ?_
 refine W_region ?_
 refine Wmv (.pointer (some ⟨hb, 0, none⟩)) ?_
 refine Wl_v (r_nil rfl) ?_
 refine Wl_v (r_fld underlying95 rfl sizeOf3 rfl rfl) ?_
 refine Wl_load (v := .int .i64 ((g : Nat) : Int)) isAgg3 rfl hB rfl ?_
 refine Wmv (.int .i64 ((k : Nat) : Int)) ?_
 refine Wl_v (r_add rfl rfl (wi64 (by omega) (by omega))) ?_
 refine Wl_v (r_nil rfl) ?_
 refine Wl_v (r_fld underlying95 rfl sizeOf3 rfl rfl) ?_
 refine Wl_store (v := .int .i64 (((g : Nat) : Int) + ((k : Nat) : Int))) (cs' := [.int .u64 ((A + X * 2 ^ g : Nat) : Int), .int .i64 (((g : Nat) : Int) + ((k : Nat) : Int)), z]) sizeOf3 rfl rfl rfl rfl hB rfl rfl ?_
 intro w4 hU4 hzz4 hBn
 replace hB := hBn; clear hBn
 have hzw4 := hU4.size
 replace HU := HU.trans1 hU4 (by show (hb = hb) ∨ w.heap.size ≤ hb; omega)
 refine Wl_nil ?_
 refine nrm_end (v := .tuple #[]) rfl (res0 results90) ?_
 exact ⟨_, rfl, rfl, (blk3b hB (by omega)), HU⟩
theorem whole_no {hb g : Nat} {A : Int} {z : Value} (w : World) (hB : Blk w hb [.int .u64 A, .int .i64 ((g : Nat) : Int), z]) (hg : g < 8) :
  Calls Tryz.prog 91 #[.pointer (some ⟨hb, 0, none⟩)] w (Ret fun v w' => v = .tuple #[.int .u8 0, .bool false] ∧ Upd No w w') := by
 have HU := Upd.rno w
 have hbl_hB := hB.lt
 refine calls_of_W func91 rfl ntmps91 (by simp) ?_
 refine W_seq (W_region ?_)
 refine Was (.int .u8 0) ?_
 refine Was (.bool false) ?_
 refine Wl_nil (W_seq (W_seq (W_region ?_)))
 refine Wmv (.pointer (some ⟨hb, 0, none⟩)) ?_
 refine Wl_v (r_nil rfl) ?_
 refine Wl_v (r_fld underlying95 rfl sizeOf3 rfl rfl) ?_
 refine Wl_load (v := .int .i64 ((g : Nat) : Int)) isAgg3 rfl hB rfl ?_
 refine Wl_v (r_lt rfl rfl) ?_
 refine Wl_nil ?_
 have q1 : ((g : Nat) : Int) < 8 := (by omega)
 rw [decide_eq_true q1]
 refine W_cond_t rfl ?_
 refine W_seq (W_region ?_)
 refine Was (.int .u8 0) ?_
 refine Was (.bool false) ?_
 refine Wl_nil ?_
 refine W_ret ?_
 refine ret_end (v := .tuple #[.int .u8 0, .bool false]) rfl (res2 results91 rfl rfl) ?_
 exact ⟨_, rfl, rfl, HU⟩
theorem whole_ok {hb g A : Nat} {z : Value} (w : World) (hB : Blk w hb [.int .u64 ((A : Nat) : Int), .int .i64 ((g : Nat) : Int), z]) (hg : 8 ≤ g ∧ g ≤ 64) :
  Calls Tryz.prog 91 #[.pointer (some ⟨hb, 0, none⟩)] w (Ret fun v w' => v = .tuple #[.int .u8 ((A % 256 : Nat) : Int), .bool true] ∧ Blk w' hb [.int .u64 ((A / 256 : Nat) : Int), .int .i64 ((g - 8 : Nat) : Int), z] ∧ Upd (Is hb) w w') := by
 have HU : Upd (fun b => b = hb) w w := Upd.refl _ _
 have hbl_hB := hB.lt
 refine calls_of_W func91 rfl ntmps91 (by simp) ?_
 refine W_seq (W_region ?_)
 refine Was (.int .u8 0) ?_
 refine Was (.bool false) ?_
 refine Wl_nil (W_seq (W_seq (W_region ?_)))
 refine Wmv (.pointer (some ⟨hb, 0, none⟩)) ?_
 refine Wl_v (r_nil rfl) ?_
 refine Wl_v (r_fld underlying95 rfl sizeOf3 rfl rfl) ?_
 refine Wl_load (v := .int .i64 ((g : Nat) : Int)) isAgg3 rfl hB rfl ?_
 refine Wl_v (r_lt rfl rfl) ?_
 refine Wl_nil ?_
 have q1 : ¬ (((g : Nat) : Int) < 8) := (by omega)
 rw [decide_eq_false q1]
 refine W_cond_f rfl ?_
 refine W_skip (W_seq (W_region ?_))
 refine Wmv (.pointer (some ⟨hb, 0, none⟩)) ?_
 refine Wl_v (r_nil rfl) ?_
 refine Wl_v (r_fld underlying95 rfl sizeOf76 rfl rfl) ?_
 refine Wl_load (v := .int .u64 ((A : Nat) : Int)) isAgg76 rfl hB rfl ?_
 refine Wl_v (r_cvt underlying76 underlying5 rfl (mu8 _)) ?_
 refine Was (.int .u8 (((A : Nat) : Int) % 256)) ?_
 refine Wl_nil (W_seq (W_region ?_))
 refine Wmv (.pointer (some ⟨hb, 0, none⟩)) ?_
 refine Wl_v (r_nil rfl) ?_
 refine Wl_v (r_fld underlying95 rfl sizeOf76 rfl rfl) ?_
 refine Wl_load (v := .int .u64 ((A : Nat) : Int)) isAgg76 rfl hB rfl ?_
 refine Wl_v (r_shr (c := ((A : Nat) : Int) / 256) rfl rfl (by decide) rfl) ?_
 refine Wl_v (r_nil rfl) ?_
 refine Wl_v (r_fld underlying95 rfl sizeOf76 rfl rfl) ?_
 refine Wl_store (v := .int .u64 (((A : Nat) : Int) / 256)) (cs' := [.int .u64 (((A : Nat) : Int) / 256), .int .i64 ((g : Nat) : Int), z]) sizeOf76 rfl rfl rfl rfl hB rfl rfl ?_
 intro w1 hU1 hzz1 hBn
 replace hB := hBn; clear hBn
 have hzw1 := hU1.size
 replace HU := HU.trans1 hU1 (by show (hb = hb) ∨ w.heap.size ≤ hb; omega)
 refine Wl_nil (W_seq (W_region ?_))
 refine Wmv (.pointer (some ⟨hb, 0, none⟩)) ?_
 refine Wl_v (r_nil rfl) ?_
 refine Wl_v (r_fld underlying95 rfl sizeOf3 rfl rfl) ?_
 refine Wl_load (v := .int .i64 ((g : Nat) : Int)) isAgg3 rfl hB rfl ?_
 refine Wl_v (r_sub rfl rfl (wi64 (by omega) (by omega))) ?_
 refine Wl_v (r_nil rfl) ?_
 refine Wl_v (r_fld underlying95 rfl sizeOf3 rfl rfl) ?_
 refine Wl_store (v := .int .i64 (((g : Nat) : Int) - 8)) (cs' := [.int .u64 (((A : Nat) : Int) / 256), .int .i64 (((g : Nat) : Int) - 8), z]) sizeOf3 rfl rfl rfl rfl hB rfl rfl ?_
 intro w2 hU2 hzz2 hBn
 replace hB := hBn; clear hBn
 have hzw2 := hU2.size
 replace HU := HU.trans1 hU2 (by show (hb = hb) ∨ w.heap.size ≤ hb; omega)
 refine Wl_nil (W_seq (W_region ?_))
 refine Wmv (.int .u8 (((A : Nat) : Int) % 256)) ?_
 refine Was (.int .u8 (((A : Nat) : Int) % 256)) ?_
 refine Was (.bool true) ?_
 refine Wl_nil ?_
 refine W_ret ?_
 refine ret_end (v := .tuple #[.int .u8 (((A : Nat) : Int) % 256), .bool true]) rfl (res2 results91 rfl rfl) ?_
 exact ⟨_, rfl, (vtup2 (by first | rfl | exact vint (by omega)) rfl), (blk3a (blk3b hB (by omega)) (by omega)), HU⟩
theorem put_spec {G0 wb V L x k : Nat} (w : World) (hW : Wr w G0 wb V L) (hV : V < 2 ^ L) (hx : x < 2 ^ k) (hbd : 1 ≤ k ∧ k ≤ 11 ∧ L ≤ 2000000) :
  Calls Tryz.prog 64 #[.pointer (some ⟨wb, 0, none⟩), .int .u64 ((x : Nat) : Int), .int .i64 ((k : Nat) : Int)] w (Ret fun v w' => v = .int .i64 0 ∧ Wr w' G0 wb (V + x * 2 ^ L) (L + k) ∧ Upd (fun g => g = wb ∨ G0 ≤ g) w w') := by
 have HU : Upd (fun b => b = wb ∨ G0 ≤ b) w w := Upd.refl _ _
 obtain ⟨a, c, hB, hO, hG0⟩ := hW
 have hbl_hB := hB.lt
 have hl_hO := ilen hO.sl
 have hc_hO := hO.sl.cap.1
 have hpk := pw_bd hbd.2.1
 refine calls_of_W func64 rfl ntmps64 (by simp) ?_
 refine W_seq (W_region ?_)
 refine Was (.int .i64 0) ?_
 refine Wl_nil (W_seq (W_block (W_seq (W_region ?_))))
 refine Wmv (.pointer (some ⟨wb, 0, none⟩)) ?_
 refine Wl_v (r_eqpn_s underlying133 rfl rfl) ?_
 refine Was (.bool false) ?_
 refine Wl_nil ?_
 refine W_cond_f rfl ?_
 refine W_seq (W_region ?_)
 refine Wmv (.int .i64 ((k : Nat) : Int)) ?_
 refine Wl_v (r_lt rfl rfl) ?_
 refine Wmv (.bool (decide (((k : Nat) : Int) < 0))) ?_
 have q1 : ¬ (((k : Nat) : Int) < 0) := (by omega)
 rw [decide_eq_false q1]
 refine Wl_guard_t rfl ?_
 refine Wmv (.int .i64 ((k : Nat) : Int)) ?_
 refine Wl_guard_t rfl ?_
 refine Wl_v (r_gt rfl rfl) ?_
 refine Wl_v (r_pick_f (v := .bool (decide (64 < ((k : Nat) : Int)))) rfl rfl) ?_
 refine Wmv (.bool (decide (64 < ((k : Nat) : Int)))) ?_
 have q2 : ¬ (64 < ((k : Nat) : Int)) := (by omega)
 rw [decide_eq_false q2]
 refine Wl_guard_t rfl ?_
 refine Wmv (.int .i64 ((k : Nat) : Int)) ?_
 refine Wl_guard_t rfl ?_
 refine Wl_v (r_lt rfl rfl) ?_
 refine Wl_guard_t rfl ?_
 refine Wmv (.bool (decide (((k : Nat) : Int) < 64))) ?_
 have q3 : ((k : Nat) : Int) < 64 := (by omega)
 rw [decide_eq_true q3]
 refine Wl_guard_t rfl ?_
 refine Wmv (.int .u64 ((x : Nat) : Int)) ?_
 refine Wl_guard_t rfl ?_
 refine Wmv (.int .i64 ((k : Nat) : Int)) ?_
 refine Wl_guard_t rfl ?_
 refine Wl_v (r_shr rfl rfl (by omega) (shr_n (k := k) (by omega) (by omega))) ?_
 refine Wl_guard_t rfl ?_
 refine Wl_v (r_ne rfl rfl) ?_
 refine Wl_guard_t rfl ?_
 refine Wl_v (r_pick_t (v := .bool (decide (((x / 2 ^ k : Nat) : Int) ≠ 0))) rfl rfl) ?_
 refine Wl_v (r_pick_f (v := .bool (decide (((x / 2 ^ k : Nat) : Int) ≠ 0))) rfl rfl) ?_
 refine Was (.bool (decide (((x / 2 ^ k : Nat) : Int) ≠ 0))) ?_
 refine Wl_nil ?_
 have q4 : ¬ (((x / 2 ^ k : Nat) : Int) ≠ 0) := (by rw [Nat.div_eq_of_lt hx]; simp)
 rw [decide_eq_false q4]
 refine W_cond_f rfl ?_
 refine W_skip (W_seq (W_block ?_))
 refine W_unroll 2 ?_
 refine unrK_succ ?_
 refine W_seq (W_seq (W_region ?_))
 refine Wmv (.int .i64 ((k : Nat) : Int)) ?_
 refine Wl_v (r_gt rfl rfl) ?_
 refine Wl_nil ?_
 have q5 : 0 < ((k : Nat) : Int) := (by omega)
 rw [decide_eq_true q5]
 refine W_cond_t rfl ?_
 refine W_skip (W_block (W_seq (W_region ?_)))
 refine Wmv (.int .i64 ((k : Nat) : Int)) ?_
 refine Wl_v (r_min rfl rfl) ?_
 refine Was (.int .i64 (min ((k : Nat) : Int) 32)) ?_
 rw [show (min ((k : Nat) : Int) 32 : Int) = ((k : Nat) : Int) from by omega]
 refine Wl_nil (W_seq ?_)
 refine W_drawt rfl (l0 := tf 0 10) (by kernel_rfl) ?_
 refine Tk 0 (tf 1 10) rfl (YI_v (v := .pointer (some ⟨wb, 0, none⟩)) rfl (fun w' hw' => r_mv (v := .pointer (some ⟨wb, 0, none⟩)) rfl)) ?_
 refine Tk 1 (tf 2 10) rfl (YI_v (v := .pointer (some ⟨wb, 0, none⟩)) rfl (fun w' hw' => r_nil rfl)) ?_
 refine Tk 2 (tf 3 10) rfl (YI_v (v := .pointer (some ⟨wb, 0, none⟩)) rfl (fun w' hw' => r_fld underlying97 rfl sizeOf95 rfl rfl)) ?_
 refine Tk 3 (tf 4 10) rfl (YI_v (v := .int .u64 ((x : Nat) : Int)) rfl (fun w' hw' => r_mv (v := .int .u64 ((x : Nat) : Int)) rfl)) ?_
 refine Tk 4 (tf 5 10) rfl (YI_v (v := .int .i64 ((k : Nat) : Int)) rfl (fun w' hw' => r_mv (v := .int .i64 ((k : Nat) : Int)) rfl)) ?_
 refine Tk 5 (tf 6 10) rfl (YI_v (v := .int .u64 ((2 ^ k : Nat) : Int)) rfl (fun w' hw' => r_shl rfl rfl (by omega) (shl_one (by omega) (by omega)))) ?_
 refine Tk 6 (tf 7 10) rfl (YI_v (v := .int .u64 (((2 ^ k : Nat) : Int) - 1)) rfl (fun w' hw' => r_sub rfl rfl (wu64 (by omega) (by omega)))) ?_
 refine Tk 7 (tf 8 10) rfl (YI_v (v := .int .u64 ((x : Nat) : Int)) rfl (fun w' hw' => r_and rfl rfl ((and_mask (lt64 (by omega) hx) (by omega)).trans (by rw [Nat.mod_eq_of_lt hx])))) ?_
 refine Tk 8 (tf 9 10) rfl (YI_v (v := .int .i64 ((k : Nat) : Int)) rfl (fun w' hw' => r_mv (v := .int .i64 ((k : Nat) : Int)) rfl)) ?_
 intro w1 hU1
 have hzw1 := hU1.size
 replace hB := hB.upd0 hU1
 replace hO := hO.upd0 hU1
 replace HU := HU.trans0 hU1
 refine Wa_one (i := 9) (listed' := tf 10 10) (by kernel_rfl) rfl (by kernel_rfl) ?_
 refine Ws_of_Wl ?_
 have hW : Upd No w w1 := hU1
 refine Wl_call (r_call3 rfl call90 rfl rfl rfl) (hadd _ hB ⟨hold_lt hV, hx, by omega⟩) ?_
 rintro v w2 ⟨rfl, hB22, hU2⟩
 have hzw2 := hU2.size
 replace hO := hO.upd1 hU2 (show ¬ (G0 ≤ wb ∧ wb ≠ wb) by omega)
 replace HU := HU.trans1 hU2 (by show (wb = wb ∨ G0 ≤ wb) ∨ w.heap.size ≤ wb; omega)
 have hbl_hB22 := hB22.lt
 refine Wl_nil ?_
 intro w3 hS3
 refine ⟨fun h => absurd h (by rw [show barOp _ 9 = true from by kernel_rfl]; simp), fun _ => ⟨Upd No w3, ?_⟩⟩
 have hU3 := hS3.upd
 have hzw3 := hU3.size
 replace hO := hO.upd0 hU3
 replace HU := HU.trans0 hU3
 replace hB22 := hB22.upd0 hU3
 try replace hW := hW.trans0 hU3
 refine Wa_done (by kernel_rfl) ?_
 refine W_seq (W_block ?_)
 refine W_loop (fun mu ρ ds w' => ∃ (i : Nat) (a2 : Option Addr) (c2 : Nat), L % 8 + k - 8 * i = mu ∧ ds = [] ∧ Liv ρ [(0, .pointer (some ⟨wb, 0, none⟩)), (1, .int .u64 ((x : Nat) : Int)), (2, .int .i64 ((k : Nat) : Int)), (6, .int .i64 0), (7, .int .i64 ((k : Nat) : Int)), (10, .bool false), (11, .pointer (some ⟨wb, 0, none⟩)), (12, .bool false), (13, .bool false), (14, .int .i64 ((k : Nat) : Int)), (15, .bool false), (16, .bool false), (17, .int .i64 ((k : Nat) : Int)), (18, .bool false), (19, .bool false), (20, .bool false), (21, .int .i64 ((k : Nat) : Int)), (22, .bool true), (23, .bool true), (24, .int .u64 ((x : Nat) : Int)), (25, .int .i64 ((k : Nat) : Int)), (26, .int .u64 ((x / 2 ^ k : Nat) : Int)), (27, .bool false), (28, .bool false), (29, .bool false), (30, .int .i64 ((k : Nat) : Int)), (31, .bool true), (32, .int .i64 ((k : Nat) : Int)), (33, .int .i64 ((k : Nat) : Int)), (34, .pointer (some ⟨wb, 0, none⟩)), (35, .pointer (some ⟨wb, 0, none⟩)), (36, .pointer (some ⟨wb, 0, none⟩)), (37, .int .u64 ((x : Nat) : Int)), (38, .int .i64 ((k : Nat) : Int)), (39, .int .u64 ((2 ^ k : Nat) : Int)), (40, .int .u64 (((2 ^ k : Nat) : Int) - 1)), (41, .int .u64 ((x : Nat) : Int)), (42, .int .i64 ((k : Nat) : Int)), (43, .tuple #[])] ∧ 8 * i ≤ L % 8 + k ∧ Blk w' wb [.int .u64 (((V + x * 2 ^ L) / 256 ^ (L / 8 + i) : Nat) : Int), .int .i64 ((L % 8 + k - 8 * i : Nat) : Int), .slice a2 (L / 8 + i) c2] ∧ Own w' (fun g => G0 ≤ g ∧ g ≠ wb) 5 1 (.slice a2 (L / 8 + i) c2) (L / 8 + i) (ints .u8 (ub (V + x * 2 ^ L) (L / 8 + i))) ∧ Upd (fun g => g = wb ∨ G0 ≤ g) w3 w') _ ⟨0, a, c, rfl, rfl, ⟨rfl, rfl, rfl, rfl, rfl, rfl, rfl, rfl, rfl, rfl, rfl, rfl, rfl, rfl, rfl, rfl, rfl, rfl, rfl, rfl, rfl, rfl, rfl, rfl, rfl, rfl, rfl, rfl, rfl, rfl, rfl, rfl, rfl, rfl, rfl, rfl, rfl, rfl, rfl, trivial⟩, (by omega), (blk3a (blk3b hB22 (by omega)) (by rw [hold_add]; rfl)), (hO.icong ub_congr.symm), Upd.refl _ _⟩ ?_
 rintro m4 ρ4 ds4 w4 ⟨i, a2, c2, rfl, rfl, hl4, hi, hB22, hO, hU4⟩
 obtain ⟨ρ4x, rfl⟩ : ∃ ρx, ρ4 = upds ρx [(0, .pointer (some ⟨wb, 0, none⟩)), (1, .int .u64 ((x : Nat) : Int)), (2, .int .i64 ((k : Nat) : Int)), (6, .int .i64 0), (7, .int .i64 ((k : Nat) : Int)), (10, .bool false), (11, .pointer (some ⟨wb, 0, none⟩)), (12, .bool false), (13, .bool false), (14, .int .i64 ((k : Nat) : Int)), (15, .bool false), (16, .bool false), (17, .int .i64 ((k : Nat) : Int)), (18, .bool false), (19, .bool false), (20, .bool false), (21, .int .i64 ((k : Nat) : Int)), (22, .bool true), (23, .bool true), (24, .int .u64 ((x : Nat) : Int)), (25, .int .i64 ((k : Nat) : Int)), (26, .int .u64 ((x / 2 ^ k : Nat) : Int)), (27, .bool false), (28, .bool false), (29, .bool false), (30, .int .i64 ((k : Nat) : Int)), (31, .bool true), (32, .int .i64 ((k : Nat) : Int)), (33, .int .i64 ((k : Nat) : Int)), (34, .pointer (some ⟨wb, 0, none⟩)), (35, .pointer (some ⟨wb, 0, none⟩)), (36, .pointer (some ⟨wb, 0, none⟩)), (37, .int .u64 ((x : Nat) : Int)), (38, .int .i64 ((k : Nat) : Int)), (39, .int .u64 ((2 ^ k : Nat) : Int)), (40, .int .u64 (((2 ^ k : Nat) : Int) - 1)), (41, .int .u64 ((x : Nat) : Int)), (42, .int .i64 ((k : Nat) : Int)), (43, .tuple #[])] := ⟨_, upds_self hl4⟩
 clear hl4
 have hzw4 := hU4.size
 replace HU := HU.trans hU4 (by intro x hx; have hx2 : x = wb ∨ G0 ≤ x := hx; show (x = wb ∨ G0 ≤ x) ∨ w.heap.size ≤ x; omega)
 have HL4 := hU4
 refine W_block (W_seq (W_region ?_))
 refine Wmv (.pointer (some ⟨wb, 0, none⟩)) ?_
 refine Wl_v (r_nil rfl) ?_
 refine Wl_v (r_fld underlying97 rfl sizeOf95 rfl rfl) ?_
 by_cases q6 : 8 ≤ L % 8 + k - 8 * i
 ·replace hO := hO.tight
  refine Wl_call (r_call1 rfl call91 rfl) (whole_ok _ hB22 (by omega)) ?_
  rintro v w5 ⟨rfl, hB25, hU5⟩
  have hzw5 := hU5.size
  replace hO := hO.upd1 hU5 (show ¬ (((G0 ≤ wb ∧ wb ≠ wb) ∧ wb < w4.heap.size)) by omega)
  replace HL4 := HL4.trans1 hU5 (by show (wb = wb ∨ G0 ≤ wb) ∨ w3.heap.size ≤ wb; omega)
  have hbl_hB25 := hB25.lt
  refine Wmv (.tuple #[.int .u8 ((((V + x * 2 ^ L) / 256 ^ (L / 8 + i)) % 256 : Nat) : Int), .bool true]) ?_
  refine Wl_v (r_ext (v := .int .u8 ((((V + x * 2 ^ L) / 256 ^ (L / 8 + i)) % 256 : Nat) : Int)) rfl rfl) ?_
  refine Wl_v (r_ext (v := .bool true) rfl rfl) ?_
  refine Was (.int .u8 ((((V + x * 2 ^ L) / 256 ^ (L / 8 + i)) % 256 : Nat) : Int)) ?_
  refine Was (.bool true) ?_
  refine Wl_nil (W_seq (W_seq (W_region ?_)))
  refine Wmv (.bool true) ?_
  refine Wl_v (r_not (b := true) rfl) ?_
  refine Wl_nil ?_
  refine W_cond_f rfl ?_
  refine W_skip (W_region ?_)
  refine Wmv (.pointer (some ⟨wb, 0, none⟩)) ?_
  refine Wmv (.pointer (some ⟨wb, 0, none⟩)) ?_
  refine Wl_v (r_nil rfl) ?_
  refine Wl_v (r_fld underlying97 rfl sizeOf32 rfl rfl) ?_
  refine Wl_load (v := .slice a2 (L / 8 + i) c2) isAgg32 rfl hB25 rfl ?_
  refine Wmv (.int .u8 ((((V + x * 2 ^ L) / 256 ^ (L / 8 + i)) % 256 : Nat) : Int)) ?_
  refine Wl_lit (pv := [(0, .int .u8 ((((V + x * 2 ^ L) / 256 ^ (L / 8 + i)) % 256 : Nat) : Int))]) (cs := [.int .u8 ((((V + x * 2 ^ L) / 256 ^ (L / 8 + i)) % 256 : Nat) : Int)]) underlying32 sizeOf5 zeroValue5 (by decide) (by decide) (by simp only [List.map_toArray, List.map_cons, List.map_nil] <;> rfl) (by kernel_rfl) rfl (by decide) ?_
  intro B6 w6 hB6 hU6 hzz6 hs6
  have hzw6 := hU6.size
  replace hO := hO.upd0 hU6
  replace HL4 := HL4.trans0 hU6
  replace hB25 := hB25.upd0 hU6
  try replace hW := hW.trans0 hU6
  replace hs6 : Own w6 (Is B6) 5 1 (.slice (some ⟨B6, 0, none⟩) 1 1) 1 (ints .u8 [((((V + x * 2 ^ L) / 256 ^ (L / 8 + i)) % 256 : Nat) : Int)]) := hs6
  refine Wl_appendi (xs := ub (V + x * 2 ^ L) (L / 8 + i)) (ys := [((((V + x * 2 ^ L) / 256 ^ (L / 8 + i)) % 256 : Nat) : Int)]) (zs := (ub (V + x * 2 ^ L) (L / 8 + i)) ++ [((((V + x * 2 ^ L) / 256 ^ (L / 8 + i)) % 256 : Nat) : Int)]) (k' := .u8) (tot := (L / 8 + i) + 1) (by first | rfl | exact (rows_app _ _).symm | simp) underlying32 (ti := Tryz.t5) (z := .int .u8 0) (sz := 1) (by' := 1) rfl rfl rfl rfl rfl (by decide) rfl hO rfl hs6.sl  (by omega) (by simp only [maxLen]; omega) (by omega) ?_
  intro a7 c7 w7 hU7 hzz7 hO7
  clear hO
  have hzw7 := hU7.size
  replace HL4 := HL4.trans hU7 (by intro x hx; have hx2 : ((G0 ≤ x ∧ x ≠ wb) ∧ x < w4.heap.size) := hx; show (x = wb ∨ G0 ≤ x) ∨ w3.heap.size ≤ x; omega)
  replace hB25 := hB25.upd hU7 (by intro hx; have hx2 : ((G0 ≤ wb ∧ wb ≠ wb) ∧ wb < w4.heap.size) := hx; omega)
  replace hO7 := hO7.tight
  have hl_hO7 := ilen hO7.sl
  have hc_hO7 := hO7.sl.cap.1
  refine Wl_v (r_nil rfl) ?_
  refine Wl_v (r_fld underlying97 rfl sizeOf32 rfl rfl) ?_
  refine Wl_store (v := .slice a7 ((L / 8 + i) + 1) c7) (cs' := [.int .u64 ((((V + x * 2 ^ L) / 256 ^ (L / 8 + i)) / 256 : Nat) : Int), .int .i64 (((L % 8 + k - 8 * i) - 8 : Nat) : Int), .slice a7 ((L / 8 + i) + 1) c7]) sizeOf32 rfl rfl rfl rfl hB25 rfl rfl ?_
  intro w8 hU8 hzz8 hB25n
  replace hB25 := hB25n; clear hB25n
  have hzw8 := hU8.size
  replace HL4 := HL4.trans1 hU8 (by show (wb = wb ∨ G0 ≤ wb) ∨ w3.heap.size ≤ wb; omega)
  replace hO7 := hO7.upd1 hU8 (by intro h1; have h3 : ((((((G0 ≤ wb ∧ wb ≠ wb) ∧ wb < w4.heap.size)) ∨ wb = w6.heap.size)) ∧ wb < w7.heap.size) := h1; omega)
  refine Wl_nil ?_
  refine ⟨_, ?_, (i + 1), a7, c7, rfl, rfl, ⟨rfl, rfl, rfl, rfl, rfl, rfl, rfl, rfl, rfl, rfl, rfl, rfl, rfl, rfl, rfl, rfl, rfl, rfl, rfl, rfl, rfl, rfl, rfl, rfl, rfl, rfl, rfl, rfl, rfl, rfl, rfl, rfl, rfl, rfl, rfl, rfl, rfl, rfl, rfl, trivial⟩, (by omega), (blk3a (blk3b hB25 (by omega)) (by rw [Nat.div_div_eq_div_mul, ← Nat.pow_succ]; rfl)), ((hO7.weak (by intro g hg; have h3 : ((((((G0 ≤ g ∧ g ≠ wb) ∧ g < w4.heap.size)) ∨ g = w6.heap.size)) ∧ g < w7.heap.size) := hg; show G0 ≤ g ∧ g ≠ wb; omega)).icong (ub_succ' _ _).symm), HL4⟩
  omega
 have hex : L / 8 + i = (L + k) / 8 ∧ L % 8 + k - 8 * i = (L + k) % 8 := by omega
 refine Wl_call (r_call1 rfl call91 rfl) (whole_no _ hB22 (by omega)) ?_
 rintro v w9 ⟨rfl, hU9⟩
 have hzw9 := hU9.size
 replace HU := HU.trans0 hU9
 replace hB22 := hB22.upd0 hU9
 replace hO := hO.upd0 hU9
 try replace hW := hW.trans0 hU9
 refine Wmv (.tuple #[.int .u8 0, .bool false]) ?_
 refine Wl_v (r_ext (v := .int .u8 0) rfl rfl) ?_
 refine Wl_v (r_ext (v := .bool false) rfl rfl) ?_
 refine Was (.int .u8 0) ?_
 refine Was (.bool false) ?_
 refine Wl_nil (W_seq (W_seq (W_region ?_)))
 refine Wmv (.bool false) ?_
 refine Wl_v (r_not (b := false) rfl) ?_
 refine Wl_nil ?_
 refine W_cond_t rfl ?_
 refine W_exit ?_
 refine W_seq (W_region ?_)
 refine Wmv (.int .u64 ((x : Nat) : Int)) ?_
 refine Wmv (.int .i64 ((k : Nat) : Int)) ?_
 refine Wl_v (r_shr rfl rfl (by omega) (shr_n (k := k) (by omega) (by omega))) ?_
 refine Was (.int .u64 ((x / 2 ^ k : Nat) : Int)) ?_
 refine Wl_nil (W_region ?_)
 refine Wmv (.int .i64 ((k : Nat) : Int)) ?_
 refine Wmv (.int .i64 ((k : Nat) : Int)) ?_
 refine Wl_v (r_sub rfl rfl (wi64 (by omega) (by omega))) ?_
 refine Was (.int .i64 (((k : Nat) : Int) - ((k : Nat) : Int))) ?_
 refine Wl_nil ?_
 refine unrK_succ ?_
 refine W_seq (W_seq (W_region ?_))
 refine Wmv (.int .i64 (((k : Nat) : Int) - ((k : Nat) : Int))) ?_
 refine Wl_v (r_gt rfl rfl) ?_
 refine Wl_nil ?_
 have q7 : ¬ (0 < (((k : Nat) : Int) - ((k : Nat) : Int))) := (by omega)
 rw [decide_eq_false q7]
 refine W_cond_f rfl ?_
 refine W_exit ?_
 refine W_seq (W_region ?_)
 refine Was (.int .i64 0) ?_
 refine Wl_nil ?_
 refine W_ret ?_
 refine ret_end (v := .int .i64 0) rfl (res1 results64 rfl) ?_
 exact ⟨_, rfl, rfl, ⟨a2, c2, (by rw [← hex.1, ← hex.2]; exact hB22), (by rw [← hex.1]; exact hO.weak (by intro g hg; have h3 : G0 ≤ g ∧ g ≠ wb := hg; show G0 ≤ g ∧ g ≠ wb; omega)), by omega⟩, HU⟩
theorem eput_spec {G0 wb V L x k : Nat} (w : World) (hW : Wr w G0 wb V L) (hV : V < 2 ^ L) (hx : x < 2 ^ k) (hbd : 1 ≤ k ∧ k ≤ 11 ∧ L ≤ 2000000) :
  Calls Tryz.prog 62 #[.agg #[.int .u64 ((x : Nat) : Int), .int .u64 ((k : Nat) : Int)], .pointer (some ⟨wb, 0, none⟩)] w (Ret fun v w' => v = .tuple #[] ∧ Wr w' G0 wb (V + x * 2 ^ L) (L + k) ∧ Upd (fun g => g = wb ∨ G0 ≤ g) w w') := by
 have HU : Upd (fun b => b = wb ∨ G0 ≤ b) w w := Upd.refl _ _
 have hlt := hW.lt
 refine calls_of_W func62 rfl ntmps62 (by simp) ?_
 refine W_seq (W_region ?_)
 refine Wl_box (v := .agg #[.int .u64 ((x : Nat) : Int), .int .u64 ((k : Nat) : Int)]) (cs := [.int .u64 ((x : Nat) : Int), .int .u64 ((k : Nat) : Int)]) rfl rfl ?_
 intro B1 w1 hB1 hU1 hzz1 hb1
 have hzw1 := hU1.size
 replace hW := hW.upd0 hU1
 replace HU := HU.trans0 hU1
 refine Wl_nil (W_region ?_)
 refine Wl_v (r_idxa (len := 2) (i' := 0) (o' := 0) underlying98 sizeOf76 rfl rfl (by omega) (by omega) (by omega)) ?_
 refine Wl_load (v := .int .u64 ((x : Nat) : Int)) isAgg76 rfl hb1 rfl ?_
 refine Wl_v (r_idxa (len := 2) (i' := 1) (o' := 1) underlying98 sizeOf76 rfl rfl (by omega) (by omega) (by omega)) ?_
 refine Wl_load (v := .int .u64 ((k : Nat) : Int)) isAgg76 rfl hb1 rfl ?_
 refine Wl_v (r_cvt underlying76 underlying3 rfl (wi64 (by omega) (by omega))) ?_
 refine Wl_call (r_call3 rfl call64 rfl rfl rfl) (put_spec (V := V) (L := L) _ hW hV hx hbd) ?_
 rintro v w2 ⟨rfl, hW22, hU2⟩
 have hzw2 := hU2.size
 replace HU := HU.trans hU2 (by intro x hx; have hx2 : x = wb ∨ G0 ≤ x := hx; show (x = wb ∨ G0 ≤ x) ∨ w.heap.size ≤ x; omega)
 refine Wl_lit (pv := [(0, .int .i64 0)]) (cs := [.int .i64 0]) underlying112 sizeOf23 zeroValue23 (by decide) (by decide) (by simp only [List.map_toArray, List.map_cons, List.map_nil] <;> rfl) (by kernel_rfl) rfl (by decide) ?_
 intro B3 w3 hB3 hU3 hzz3 hs3
 have hzw3 := hU3.size
 replace HU := HU.trans0 hU3
 replace hW22 := hW22.upd0 hU3
 replace hs3 : Own w3 (Is B3) 23 1 (.slice (some ⟨B3, 0, none⟩) 1 1) 1 (ints .i64 [0]) := hs3
 refine Wl_call (r_call1 rfl call63 rfl) (omust_ok (er := 0) _ hs3.sl.any (by decide)) ?_
 rintro v w4 ⟨rfl, hU4⟩
 have hzw4 := hU4.size
 replace HU := HU.trans0 hU4
 replace hW22 := hW22.upd0 hU4
 refine Wl_nil ?_
 refine nrm_end (v := .tuple #[]) rfl (res0 results62) ?_
 exact ⟨_, rfl, rfl, hW22, HU⟩
theorem wbytes {G0 wb V L : Nat} (w : World) (hW : Wr w G0 wb V L) (hbd : L ≤ 2000000) :
  Calls Tryz.prog 93 #[.pointer (some ⟨wb, 0, none⟩)] w (Ret fun v w' => ∃ (a' : Option Addr) (c' : Nat), v = .slice a' ((L + 7) / 8) c' ∧ Own w' (fun g => w.heap.size ≤ g) 5 1 (.slice a' ((L + 7) / 8) c') ((L + 7) / 8) (ints .u8 (ub V ((L + 7) / 8))) ∧ Upd No w w') := by
 have HU := Upd.rno w
 obtain ⟨a, c, hB, hO, hG0⟩ := hW
 have hbl_hB := hB.lt
 have hl_hO := ilen hO.sl
 have hc_hO := hO.sl.cap.1
 replace hO := hO.tight
 refine calls_of_W func93 rfl ntmps93 (by simp) ?_
 refine W_seq (W_region ?_)
 refine Was (.slice none 0 0) ?_
 refine Wl_nil (W_seq (W_seq (W_region ?_)))
 refine Wmv (.pointer (some ⟨wb, 0, none⟩)) ?_
 refine Wl_v (r_eqpn_s underlying133 rfl rfl) ?_
 refine Wl_nil ?_
 refine W_cond_f rfl ?_
 refine W_skip (W_seq (W_region ?_))
 refine Wmv (.pointer (some ⟨wb, 0, none⟩)) ?_
 refine Wl_v (r_nil rfl) ?_
 refine Wl_v (r_fld underlying97 rfl sizeOf32 rfl rfl) ?_
 refine Wl_load (v := .slice a (L / 8) c) isAgg32 rfl hB rfl ?_
 refine Wl_call (r_call1 rfl call69 rfl) (bclone _ hO.sl.any (by omega)) ?_
 rintro v w1 ⟨a1, c1, rfl, hO1, hU1⟩
 have hzw1 := hU1.size
 replace hB := hB.upd0 hU1
 replace HU := HU.trans0 hU1
 replace hO1 := hO1.tight
 have hl_hO1 := ilen hO1.sl
 have hc_hO1 := hO1.sl.cap.1
 refine Was (.slice a1 (L / 8) c1) ?_
 refine Wl_nil (W_seq (W_seq (W_region ?_)))
 refine Wmv (.pointer (some ⟨wb, 0, none⟩)) ?_
 refine Wl_v (r_nil rfl) ?_
 refine Wl_v (r_fld underlying97 rfl sizeOf95 rfl rfl) ?_
 refine Wl_v (r_fld underlying95 rfl sizeOf3 rfl rfl) ?_
 refine Wl_load (v := .int .i64 ((L % 8 : Nat) : Int)) isAgg3 rfl hB rfl ?_
 refine Wl_v (r_gt rfl rfl) ?_
 refine Wl_nil ?_
 by_cases q1 : 0 < ((L % 8 : Nat) : Int)
 ·have he : L / 8 + 1 = (L + 7) / 8 := by omega
  rw [decide_eq_true q1]
  refine W_cond_t rfl ?_
  refine W_region ?_
  refine Wmv (.slice a1 (L / 8) c1) ?_
  refine Wmv (.pointer (some ⟨wb, 0, none⟩)) ?_
  refine Wl_v (r_nil rfl) ?_
  refine Wl_v (r_fld underlying97 rfl sizeOf95 rfl rfl) ?_
  refine Wl_v (r_fld underlying95 rfl sizeOf76 rfl rfl) ?_
  refine Wl_load (v := .int .u64 ((V / 256 ^ (L / 8) : Nat) : Int)) isAgg76 rfl hB rfl ?_
  refine Wl_v (r_cvt underlying76 underlying5 rfl (mu8 _)) ?_
  refine Wl_lit (pv := [(0, .int .u8 (((V / 256 ^ (L / 8) : Nat) : Int) % 256))]) (cs := [.int .u8 (((V / 256 ^ (L / 8) : Nat) : Int) % 256)]) underlying32 sizeOf5 zeroValue5 (by decide) (by decide) (by simp only [List.map_toArray, List.map_cons, List.map_nil] <;> rfl) (by kernel_rfl) rfl (by decide) ?_
  intro B2 w2 hB2 hU2 hzz2 hs2
  have hzw2 := hU2.size
  replace HU := HU.trans0 hU2
  replace hO1 := hO1.upd0 hU2
  replace hs2 : Own w2 (Is B2) 5 1 (.slice (some ⟨B2, 0, none⟩) 1 1) 1 (ints .u8 [((V / 256 ^ (L / 8) : Nat) : Int) % 256]) := hs2
  refine Wl_appendi (xs := ub V (L / 8)) (ys := [((V / 256 ^ (L / 8) : Nat) : Int) % 256]) (zs := (ub V (L / 8)) ++ [((V / 256 ^ (L / 8) : Nat) : Int) % 256]) (k' := .u8) (tot := (L / 8) + 1) (by first | rfl | exact (rows_app _ _).symm | simp) underlying32 (ti := Tryz.t5) (z := .int .u8 0) (sz := 1) (by' := 1) rfl rfl rfl rfl rfl (by decide) rfl hO1 rfl hs2.sl  (by omega) (by simp only [maxLen]; omega) (by omega) ?_
  intro a3 c3 w3 hU3 hzz3 hO3
  clear hO1
  have hzw3 := hU3.size
  replace HU := HU.trans hU3 (by intro x hx; have hx2 : ((w.heap.size ≤ x) ∧ x < w1.heap.size) := hx; show (False) ∨ w.heap.size ≤ x; omega)
  replace hO3 := hO3.tight
  have hl_hO3 := ilen hO3.sl
  have hc_hO3 := hO3.sl.cap.1
  refine Was (.slice a3 ((L / 8) + 1) c3) ?_
  refine Wl_nil (W_seq (W_region ?_))
  refine Wmv (.slice a3 ((L / 8) + 1) c3) ?_
  refine Was (.slice a3 ((L / 8) + 1) c3) ?_
  refine Wl_nil ?_
  refine W_ret ?_
  refine ret_end (v := .slice a3 ((L / 8) + 1) c3) rfl (res1 results93 rfl) ?_
  exact ⟨_, rfl, a3, c3, (by rw [← he]), (by rw [← he]; exact (hO3.weak (by intro g hg; have h3 : ((((((w.heap.size ≤ g) ∧ g < w1.heap.size)) ∨ g = w2.heap.size)) ∧ g < w3.heap.size) := hg; show w.heap.size ≤ g; omega)).icong (ub_succ' _ _).symm), HU⟩
 have he : L / 8 = (L + 7) / 8 := by omega
 rw [decide_eq_false q1]
 refine W_cond_f rfl ?_
 refine W_skip (W_seq (W_region ?_))
 refine Wmv (.slice a1 (L / 8) c1) ?_
 refine Was (.slice a1 (L / 8) c1) ?_
 refine Wl_nil ?_
 refine W_ret ?_
 refine ret_end (v := .slice a1 (L / 8) c1) rfl (res1 results93 rfl) ?_
 exact ⟨_, rfl, a1, c1, (by rw [← he]), (by rw [← he]; exact (hO1.weak (by intro g hg; have h3 : ((w.heap.size ≤ g) ∧ g < w1.heap.size) := hg; show w.heap.size ≤ g; omega))), HU⟩
theorem wclose {G0 wb V L : Nat} (w : World) (hW : Wr w G0 wb V L) (hV : V < 2 ^ L) (hbd : L ≤ 1900000) :
  Calls Tryz.prog 66 #[.pointer (some ⟨wb, 0, none⟩)] w (Ret fun v w' => ∃ (a' : Option Addr) (c' : Nat), v = .slice a' (L / 8 + 1) c' ∧ Own w' (fun g => w.heap.size ≤ g) 5 1 (.slice a' (L / 8 + 1) c') (L / 8 + 1) (ints .u8 (ub (V + 2 ^ L) (L / 8 + 1))) ∧ Upd No w w') := by
 have HU := Upd.rno w
 obtain ⟨a, c, hB, hO, hG0⟩ := hW
 have hbl_hB := hB.lt
 have hl_hO := ilen hO.sl
 have hc_hO := hO.sl.cap.1
 replace hO := hO.tight
 refine calls_of_W func66 rfl ntmps66 (by simp) ?_
 refine W_seq (W_region ?_)
 refine Was (.slice none 0 0) ?_
 refine Wl_nil (W_seq (W_seq (W_region ?_)))
 refine Wmv (.pointer (some ⟨wb, 0, none⟩)) ?_
 refine Wl_v (r_eqpn_s underlying133 rfl rfl) ?_
 refine Wl_nil ?_
 refine W_cond_f rfl ?_
 refine W_skip (W_seq ?_)
 refine W_drawS (T := fun g => False) rfl (l0 := tf 0 12) (by kernel_rfl) ?_
 refine WtS_take (i := 0) (listed' := tf 1 12) (Upd.refl _ _) (by kernel_rfl) rfl (by kernel_rfl) (by kernel_rfl) (by kernel_rfl) (by kernel_rfl) (YS_v (v := .pointer (some ⟨wb, 0, none⟩)) rfl (fun w' hw' => r_mv (v := .pointer (some ⟨wb, 0, none⟩)) rfl)) ?_
 refine WtS_take (i := 1) (listed' := tf 2 12) (Upd.refl _ _) (by kernel_rfl) rfl (by kernel_rfl) (by kernel_rfl) (by kernel_rfl) (by kernel_rfl) (YS_v (v := .pointer (some ⟨wb, 0, none⟩)) rfl (fun w' hw' => r_nil rfl)) ?_
 refine WtS_take (i := 2) (listed' := tf 3 12) (Upd.refl _ _) (by kernel_rfl) rfl (by kernel_rfl) (by kernel_rfl) (by kernel_rfl) (by kernel_rfl) (YS_v (v := .pointer (some ⟨wb, 0, none⟩)) rfl (fun w' hw' => r_fld underlying97 rfl sizeOf95 rfl rfl)) ?_
 refine WtS_take (i := 3) (listed' := tf 4 12) (Upd.refl _ _) (by kernel_rfl) rfl (by kernel_rfl) (by kernel_rfl) (by kernel_rfl) (by kernel_rfl) (YS_v (v := .agg #[.int .u64 ((V / 256 ^ (L / 8) : Nat) : Int), .int .i64 ((L % 8 : Nat) : Int)]) rfl (fun w' hw' => r_loada (b := wb) (off := 0) (cs := [.int .u64 ((V / 256 ^ (L / 8) : Nat) : Int), .int .i64 ((L % 8 : Nat) : Int)]) isAgg95 sizeOf95 rfl rfl (fun j hj => by rw [(hB.upd0 hw').cell]; match j, hj with | 0, _ => rfl | 1, _ => rfl))) ?_
 refine WtS_take (i := 4) (listed' := tf 5 12) (Upd.refl _ _) (by kernel_rfl) rfl (by kernel_rfl) (by kernel_rfl) (by kernel_rfl) (by kernel_rfl) (YS_v (v := .pointer (some ⟨wb, 0, none⟩)) rfl (fun w' hw' => r_mv (v := .pointer (some ⟨wb, 0, none⟩)) rfl)) ?_
 refine WtS_take (i := 5) (listed' := tf 6 12) (Upd.refl _ _) (by kernel_rfl) rfl (by kernel_rfl) (by kernel_rfl) (by kernel_rfl) (by kernel_rfl) (YS_v (v := .pointer (some ⟨wb, 0, none⟩)) rfl (fun w' hw' => r_nil rfl)) ?_
 refine WtS_take (i := 6) (listed' := tf 7 12) (Upd.refl _ _) (by kernel_rfl) rfl (by kernel_rfl) (by kernel_rfl) (by kernel_rfl) (by kernel_rfl) (YS_v (v := .pointer (some ⟨wb, 2, none⟩)) rfl (fun w' hw' => r_fld underlying97 rfl sizeOf32 rfl rfl)) ?_
 refine WtS_take (i := 7) (listed' := tf 8 12) (Upd.refl _ _) (by kernel_rfl) rfl (by kernel_rfl) (by kernel_rfl) (by kernel_rfl) (by kernel_rfl) (YS_v (v := .slice a (L / 8) c) rfl (fun w' hw' => r_load isAgg32 rfl (by rw [(hB.upd0 hw').cell]; rfl))) ?_
 intro w1 hU1
 have hzw1 := hU1.size
 replace hO := hO.upd0 hU1
 replace HU := HU.trans0 hU1
 refine Wa_two (i := 8) (j := 10) (li := tf 9 12) (lj := #[true, true, true, true, true, true, true, true, false, false, true, false]) (by kernel_rfl) rfl rfl (by kernel_rfl) (by kernel_rfl) ?_ ?_
 ·refine Ws_of_Wl ?_
  have hW : Upd (fun g => False) w w := (Upd.refl _ _)
  replace hW := hW.trans0 hU1
  refine Wl_call (r_call1 rfl call69 rfl) (bclone _ hO.sl.any (by omega)) ?_
  rintro v w2 ⟨a2, c2, rfl, hO2, hU2⟩
  have hzw2 := hU2.size
  replace HU := HU.trans0 hU2
  replace hW := hW.trans0 hU2
  replace hO2 := hO2.tight
  have hl_hO2 := ilen hO2.sl
  have hc_hO2 := hO2.sl.cap.1
  refine Wl_nil ?_
  intro w3 hS3
  have hX3 : Upd _ w w3 := hW.trans0 hS3.upd
  refine ⟨fun _ => ⟨hX3, ?_⟩, fun h => absurd h (by rw [show barOp _ 8 = false from by kernel_rfl]; simp)⟩
  have hU3 := hS3.upd
  have hzw3 := hU3.size
  replace HU := HU.trans0 hU3
  replace hO2 := hO2.upd0 hU3
  refine WtS_base ?_
  refine WtS_take (i := 9) (listed' := tf 10 12) hX3 (by kernel_rfl) rfl (by kernel_rfl) (by kernel_rfl) (by kernel_rfl) (by kernel_rfl) (YS_v (v := .agg #[.int .u64 ((V / 256 ^ (L / 8) : Nat) : Int), .int .i64 ((L % 8 : Nat) : Int), .slice a2 (L / 8) c2]) rfl (fun w' hw' => r_build (pl := #[(0, 2), (2, 1)]) (pv := [(0, .agg #[.int .u64 ((V / 256 ^ (L / 8) : Nat) : Int), .int .i64 ((L % 8 : Nat) : Int)]), (1, .slice a2 (L / 8) c2)]) (cs := #[.int .u64 ((V / 256 ^ (L / 8) : Nat) : Int), .int .i64 ((L % 8 : Nat) : Int), .slice a2 (L / 8) c2]) zeroValue97 underlying97 (fun w => by kernel_rfl) (by simp only [List.map_toArray, List.map_cons, List.map_nil] <;> rfl) (by kernel_rfl))) ?_
  intro w4 hU4
  have hzw4 := hU4.size
  replace HU := HU.trans0 hU4
  replace hO2 := hO2.upd0 hU4
  refine Wa_one (i := 10) (listed' := tf 11 12) (by kernel_rfl) rfl (by kernel_rfl) ?_
  refine Ws_of_Wl ?_
  have hW : Upd (fun g => False) w w3 := hX3
  replace hW := hW.trans0 hU4
  refine Wl_alloc (cs := [.int .u64 0, .int .i64 0, .slice none 0 0]) zeroValue97 rfl ?_
  intro B5 w5 hB5 hU5 hzz5 hb5
  have hzw5 := hU5.size
  replace HU := HU.trans0 hU5
  replace hO2 := hO2.upd0 hU5
  replace hW := hW.trans0 hU5
  refine Wl_nil ?_
  intro w6 hS6
  have hX6 : Upd _ w w6 := hW.trans0 hS6.upd
  refine ⟨fun _ => ⟨hX6, ?_⟩, fun h => absurd h (by rw [show barOp _ 10 = false from by kernel_rfl]; simp)⟩
  have hU6 := hS6.upd
  have hzw6 := hU6.size
  replace HU := HU.trans0 hU6
  replace hO2 := hO2.upd0 hU6
  replace hb5 := hb5.upd0 hU6
  refine WtS_base ?_
  intro w7 hU7
  have hzw7 := hU7.size
  replace HU := HU.trans0 hU7
  replace hO2 := hO2.upd0 hU7
  replace hb5 := hb5.upd0 hU7
  refine Wa_one (i := 11) (listed' := tf 12 12) (by kernel_rfl) rfl (by kernel_rfl) ?_
  refine Ws_of_Wl ?_
  have hW : Upd No w6 w7 := hU7
  refine Wl_storea (off := 0) (vs := [.int .u64 ((V / 256 ^ (L / 8) : Nat) : Int), .int .i64 ((L % 8 : Nat) : Int), .slice a2 (L / 8) c2]) (cs' := [.int .u64 ((V / 256 ^ (L / 8) : Nat) : Int), .int .i64 ((L % 8 : Nat) : Int), .slice a2 (L / 8) c2]) sizeOf97 rfl rfl rfl (by simp only [List.mem_cons, List.not_mem_nil, or_false, forall_eq_or_imp, forall_eq]; exact ⟨rfl, rfl, rfl⟩) hb5 (by simp) rfl ?_
  intro w8 hU8 hzz8 hb5n
  replace hb5 := hb5n; clear hb5n
  have hzw8 := hU8.size
  replace HU := HU.t1 hU8 (by omega)
  replace hO2 := hO2.upd1 hU8 (show ¬ (((w1.heap.size ≤ B5) ∧ B5 < w2.heap.size)) by omega)
  refine Wl_nil ?_
  intro w9 hS9
  refine ⟨fun h => absurd h (by rw [show barOp _ 11 = true from by kernel_rfl]; simp), fun _ => ⟨Upd No w9, ?_⟩⟩
  have hU9 := hS9.upd
  have hzw9 := hU9.size
  replace HU := HU.trans0 hU9
  replace hO2 := hO2.upd0 hU9
  replace hb5 := hb5.upd0 hU9
  try replace hW := hW.trans0 hU9
  refine Wa_done (by kernel_rfl) ?_
  refine W_seq (W_region ?_)
  have hW9 : Wr w9 w.heap.size B5 V L := ⟨a2, c2, hb5, hO2.weak (by intro g hg; have h3 : ((w1.heap.size ≤ g) ∧ g < w2.heap.size) := hg; show w.heap.size ≤ g ∧ g ≠ B5; omega), by omega⟩
  have hW9l := hW9.lt
  refine Wl_call (r_call3 rfl call64 rfl rfl rfl) (put_spec (V := V) (L := L) (x := 1) (k := 1) _ hW9 hV (by decide) (by omega)) ?_
  rintro v w10 ⟨rfl, hW210, hU10⟩
  have hzw10 := hU10.size
  replace HU := HU.trans hU10 (by intro x hx; have hx2 : x = B5 ∨ w.heap.size ≤ x := hx; show (False) ∨ w.heap.size ≤ x; omega)
  refine Wl_nil (W_seq (W_region ?_))
  refine Wl_call (r_call1 rfl call93 rfl) (wbytes _ hW210 (by omega)) ?_
  rintro v w11 ⟨a11, c11, rfl, hO11, hU11⟩
  have hzw11 := hU11.size
  replace HU := HU.trans0 hU11
  try replace hW := hW.trans0 hU11
  replace hO11 := hO11.tight
  have hl_hO11 := ilen hO11.sl
  have hc_hO11 := hO11.sl.cap.1
  refine Was (.slice a11 (((L + 1) + 7) / 8) c11) ?_
  refine Wl_nil ?_
  refine W_ret ?_
  refine ret_end (v := .slice a11 (((L + 1) + 7) / 8) c11) rfl (res1 results66 rfl) ?_
  have hee : (L + 1 + 7) / 8 = L / 8 + 1 := by omega
  exact ⟨_, rfl, a11, c11, (by rw [← hee]), (by rw [← hee]; exact (hO11.weak (by intro g hg; have h3 : ((w10.heap.size ≤ g) ∧ g < w11.heap.size) := hg; show w.heap.size ≤ g; omega)).icong (by rw [Nat.one_mul])), HU⟩
 refine Ws_of_Wl ?_
 have hW : Upd (fun g => False) w w := (Upd.refl _ _)
 replace hW := hW.trans0 hU1
 refine Wl_alloc (cs := [.int .u64 0, .int .i64 0, .slice none 0 0]) zeroValue97 rfl ?_
 intro B12 w12 hB12 hU12 hzz12 hb12
 have hzw12 := hU12.size
 replace hO := hO.upd0 hU12
 replace HU := HU.trans0 hU12
 replace hW := hW.trans0 hU12
 refine Wl_nil ?_
 intro w13 hS13
 have hX13 : Upd _ w w13 := hW.trans0 hS13.upd
 refine ⟨fun _ => ⟨hX13, ?_⟩, fun h => absurd h (by rw [show barOp _ 10 = false from by kernel_rfl]; simp)⟩
 have hU13 := hS13.upd
 have hzw13 := hU13.size
 replace hO := hO.upd0 hU13
 replace HU := HU.trans0 hU13
 replace hb12 := hb12.upd0 hU13
 refine WtS_base ?_
 intro w14 hU14
 have hzw14 := hU14.size
 replace hO := hO.upd0 hU14
 replace HU := HU.trans0 hU14
 replace hb12 := hb12.upd0 hU14
 refine Wa_one (i := 8) (listed' := #[true, true, true, true, true, true, true, true, true, false, true, false]) (by kernel_rfl) rfl (by kernel_rfl) ?_
 refine Ws_of_Wl ?_
 have hW : Upd (fun g => False) w w13 := hX13
 replace hW := hW.trans0 hU14
 refine Wl_call (r_call1 rfl call69 rfl) (bclone _ hO.sl.any (by omega)) ?_
 rintro v w15 ⟨a15, c15, rfl, hO15, hU15⟩
 have hzw15 := hU15.size
 replace HU := HU.trans0 hU15
 replace hb12 := hb12.upd0 hU15
 replace hW := hW.trans0 hU15
 replace hO15 := hO15.tight
 have hl_hO15 := ilen hO15.sl
 have hc_hO15 := hO15.sl.cap.1
 refine Wl_nil ?_
 intro w16 hS16
 have hX16 : Upd _ w w16 := hW.trans0 hS16.upd
 refine ⟨fun _ => ⟨hX16, ?_⟩, fun h => absurd h (by rw [show barOp _ 8 = false from by kernel_rfl]; simp)⟩
 have hU16 := hS16.upd
 have hzw16 := hU16.size
 replace HU := HU.trans0 hU16
 replace hb12 := hb12.upd0 hU16
 replace hO15 := hO15.upd0 hU16
 refine WtS_base ?_
 refine WtS_take (i := 9) (listed' := tf 11 12) hX16 (by kernel_rfl) rfl (by kernel_rfl) (by kernel_rfl) (by kernel_rfl) (by kernel_rfl) (YS_v (v := .agg #[.int .u64 ((V / 256 ^ (L / 8) : Nat) : Int), .int .i64 ((L % 8 : Nat) : Int), .slice a15 (L / 8) c15]) rfl (fun w' hw' => r_build (pl := #[(0, 2), (2, 1)]) (pv := [(0, .agg #[.int .u64 ((V / 256 ^ (L / 8) : Nat) : Int), .int .i64 ((L % 8 : Nat) : Int)]), (1, .slice a15 (L / 8) c15)]) (cs := #[.int .u64 ((V / 256 ^ (L / 8) : Nat) : Int), .int .i64 ((L % 8 : Nat) : Int), .slice a15 (L / 8) c15]) zeroValue97 underlying97 (fun w => by kernel_rfl) (by simp only [List.map_toArray, List.map_cons, List.map_nil] <;> rfl) (by kernel_rfl))) ?_
 intro w17 hU17
 have hzw17 := hU17.size
 replace HU := HU.trans0 hU17
 replace hb12 := hb12.upd0 hU17
 replace hO15 := hO15.upd0 hU17
 refine Wa_one (i := 11) (listed' := tf 12 12) (by kernel_rfl) rfl (by kernel_rfl) ?_
 refine Ws_of_Wl ?_
 have hW : Upd No w16 w17 := hU17
 refine Wl_storea (off := 0) (vs := [.int .u64 ((V / 256 ^ (L / 8) : Nat) : Int), .int .i64 ((L % 8 : Nat) : Int), .slice a15 (L / 8) c15]) (cs' := [.int .u64 ((V / 256 ^ (L / 8) : Nat) : Int), .int .i64 ((L % 8 : Nat) : Int), .slice a15 (L / 8) c15]) sizeOf97 rfl rfl rfl (by simp only [List.mem_cons, List.not_mem_nil, or_false, forall_eq_or_imp, forall_eq]; exact ⟨rfl, rfl, rfl⟩) hb12 (by simp) rfl ?_
 intro w18 hU18 hzz18 hb12n
 replace hb12 := hb12n; clear hb12n
 have hzw18 := hU18.size
 replace HU := HU.t1 hU18 (by omega)
 replace hO15 := hO15.upd1 hU18 (show ¬ (((w14.heap.size ≤ B12) ∧ B12 < w15.heap.size)) by omega)
 refine Wl_nil ?_
 intro w19 hS19
 refine ⟨fun h => absurd h (by rw [show barOp _ 11 = true from by kernel_rfl]; simp), fun _ => ⟨Upd No w19, ?_⟩⟩
 have hU19 := hS19.upd
 have hzw19 := hU19.size
 replace HU := HU.trans0 hU19
 replace hb12 := hb12.upd0 hU19
 replace hO15 := hO15.upd0 hU19
 try replace hW := hW.trans0 hU19
 refine Wa_done (by kernel_rfl) ?_
 refine W_seq (W_region ?_)
 have hW9 : Wr w19 w.heap.size B12 V L := ⟨a15, c15, hb12, hO15.weak (by intro g hg; have h3 : ((w14.heap.size ≤ g) ∧ g < w15.heap.size) := hg; show w.heap.size ≤ g ∧ g ≠ B12; omega), by omega⟩
 have hW9l := hW9.lt
 refine Wl_call (r_call3 rfl call64 rfl rfl rfl) (put_spec (V := V) (L := L) (x := 1) (k := 1) _ hW9 hV (by decide) (by omega)) ?_
 rintro v w20 ⟨rfl, hW220, hU20⟩
 have hzw20 := hU20.size
 replace HU := HU.trans hU20 (by intro x hx; have hx2 : x = B12 ∨ w.heap.size ≤ x := hx; show (False) ∨ w.heap.size ≤ x; omega)
 refine Wl_nil (W_seq (W_region ?_))
 refine Wl_call (r_call1 rfl call93 rfl) (wbytes _ hW220 (by omega)) ?_
 rintro v w21 ⟨a21, c21, rfl, hO21, hU21⟩
 have hzw21 := hU21.size
 replace HU := HU.trans0 hU21
 try replace hW := hW.trans0 hU21
 replace hO21 := hO21.tight
 have hl_hO21 := ilen hO21.sl
 have hc_hO21 := hO21.sl.cap.1
 refine Was (.slice a21 (((L + 1) + 7) / 8) c21) ?_
 refine Wl_nil ?_
 refine W_ret ?_
 refine ret_end (v := .slice a21 (((L + 1) + 7) / 8) c21) rfl (res1 results66 rfl) ?_
 have hee : (L + 1 + 7) / 8 = L / 8 + 1 := by omega
 exact ⟨_, rfl, a21, c21, (by rw [← hee]), (by rw [← hee]; exact (hO21.weak (by intro g hg; have h3 : ((w20.heap.size ≤ g) ∧ g < w21.heap.size) := hg; show w.heap.size ≤ g; omega)).icong (by rw [Nat.one_mul])), HU⟩
theorem bkw_spec {a : Option Addr} {n c : Nat} (w : World)  :
  Calls Tryz.prog 65 #[.slice a n c] w (Ret fun v w' => ∃ (Bo : Nat), v = .func (.func 92) #[] #[.pointer (some ⟨Bo, 0, none⟩)] ∧ Blk w' Bo [.slice a n c] ∧ w.heap.size ≤ Bo ∧ Upd No w w') := by
 have HU := Upd.rno w
 refine calls_of_W func65 rfl ntmps65 (by simp) ?_
 refine W_seq (W_region ?_)
 refine Wl_box (v := .slice a n c) (cs := [.slice a n c]) rfl rfl ?_
 intro B1 w1 hB1 hU1 hzz1 hb1
 have hzw1 := hU1.size
 replace HU := HU.trans0 hU1
 refine Was (.nilFunc) ?_
 refine Wl_nil (W_seq (W_region ?_))
 refine Wl_v (r_mkf1 (v0 := .pointer (some ⟨B1, 0, none⟩)) rfl) ?_
 refine Was (.func (.func 92) #[] #[.pointer (some ⟨B1, 0, none⟩)]) ?_
 refine Wl_nil ?_
 refine W_ret ?_
 refine ret_end (v := .func (.func 92) #[] #[.pointer (some ⟨B1, 0, none⟩)]) rfl (res1 results65 rfl) ?_
 exact ⟨_, rfl, B1, rfl, hb1, (by omega), HU⟩
theorem bk1_spec {ly Bo n c : Nat} {a : Option Addr} {b : List Int} {J : Nat → World → Prop} {Jx : World → Prop} {Sb R : Nat → Prop} (w : World) (hB : Blk w Bo [.slice a n c]) (hs : Sl w R 1 (.slice a n c) n (ints .u8 b)) (hn : n ≤ 17592186044415) (hSR : ∀ g, R g → ¬ Sb g) (hSB : ¬ Sb Bo) (hJ0 : J 0 w) (hy : ∀ j w, j < n → J j w → YieldC Tryz.prog ly #[.int .i64 (((n : Nat) : Int) - 1 - ((j : Nat) : Int)), .int .u8 (b.getD (((n : Nat) : Int) - 1 - ((j : Nat) : Int)).toNat 0)] w (fun e w' => (e = .returned (.bool true) ∧ (Upd Sb w w' ∧ J (j + 1) w')) ∨ (e = .returned (.bool false) ∧ Jx w'))) :
  Calls Tryz.prog 92 #[.func (.yield ly) #[] #[], .pointer (some ⟨Bo, 0, none⟩)] w (Ret fun v w' => J n w' ∨ Jx w') := by
 have HU := Upd.rno w
 have hl_hs := ilen hs
 have hc_hs := hs.cap.1
 refine calls_of_W func92 rfl ntmps92 (by simp) ?_
 refine W_seq (W_region ?_)
 refine Wl_load (v := .slice a n c) isAgg32 rfl hB rfl ?_
 refine Wl_v (r_len underlying32 rfl) ?_
 refine Wl_v (r_sub rfl rfl (wi64 (by omega) (by omega))) ?_
 refine Was (.int .i64 (((n : Nat) : Int) - 1)) ?_
 refine Wl_nil (W_block ?_)
 refine W_loop (fun mu ρ ds w' => ∃ (j : Nat), n - j = mu ∧ ds = [] ∧ Liv ρ [(0, .func (.yield ly) #[] #[]), (1, .pointer (some ⟨Bo, 0, none⟩)), (3, .int .i64 (((n : Nat) : Int) - 1 - ((j : Nat) : Int)))] ∧ j ≤ n ∧ Blk w' Bo [.slice a n c] ∧ Sl w' R 1 (.slice a n c) n (ints .u8 b) ∧ J j w') _ ⟨0, rfl, rfl, ⟨rfl, rfl, (Eq.trans (b := .int .i64 (((n : Nat) : Int) - 1)) rfl (vint (by omega))), trivial⟩, (by omega), hB, hs, hJ0⟩ ?_
 rintro m1 ρ1 ds1 w1 ⟨j, rfl, rfl, hl1, hj, hB, hs, hJ0⟩
 obtain ⟨ρ1x, rfl⟩ : ∃ ρx, ρ1 = upds ρx [(0, .func (.yield ly) #[] #[]), (1, .pointer (some ⟨Bo, 0, none⟩)), (3, .int .i64 (((n : Nat) : Int) - 1 - ((j : Nat) : Int)))] := ⟨_, upds_self hl1⟩
 clear hl1
 refine W_seq (W_seq (W_region ?_))
 refine Wmv (.int .i64 (((n : Nat) : Int) - 1 - ((j : Nat) : Int))) ?_
 refine Wl_v (r_ge rfl rfl) ?_
 refine Wl_nil ?_
 by_cases q1 : 0 ≤ (((n : Nat) : Int) - 1 - ((j : Nat) : Int))
 ·rw [decide_eq_true q1]
  refine W_cond_t rfl ?_
  refine W_skip (W_seq (W_block (W_seq (W_region ?_))))
  refine Wmv (.func (.yield ly) #[] #[]) ?_
  refine Wmv (.int .i64 (((n : Nat) : Int) - 1 - ((j : Nat) : Int))) ?_
  refine Wl_load (v := .slice a n c) isAgg32 rfl hB rfl ?_
  refine Wmv (.int .i64 (((n : Nat) : Int) - 1 - ((j : Nat) : Int))) ?_
  refine Wl_idxi underlying32 sizeOf5 rfl rfl hs (by omega) (by omega) ?_
  intro ib2 io2 hc2
  refine Wl_loadc isAgg5 rfl hc2 ?_
  refine Wl_yield2 rfl rfl rfl (hy j _ (by omega) hJ0) ?_ ?_
  ·rintro w3 ⟨hU3, hJn⟩
   replace hs := hs.upd hU3 hSR
   replace hB := hB.upd hU3 hSB
   replace hJ0 := hJn
   refine Wl_v (r_not (b := true) rfl) ?_
   refine Wl_nil ?_
   refine W_cond_f rfl ?_
   refine W_skip (W_region ?_)
   refine Wmv (.int .i64 (((n : Nat) : Int) - 1 - ((j : Nat) : Int))) ?_
   refine Wl_v (r_sub rfl rfl (wi64 (by omega) (by omega))) ?_
   refine Was (.int .i64 ((((n : Nat) : Int) - 1 - ((j : Nat) : Int)) - 1)) ?_
   refine Wl_nil ?_
   refine ⟨_, ?_, (j + 1), rfl, rfl, ⟨rfl, rfl, (Eq.trans (b := .int .i64 ((((n : Nat) : Int) - 1 - ((j : Nat) : Int)) - 1)) rfl (vint (by omega))), trivial⟩, (by omega), hB, hs, hJ0⟩
   omega
  rintro w4 hJx
  refine Wl_v (r_not (b := false) rfl) ?_
  refine Wl_nil ?_
  refine W_cond_t rfl ?_
  refine W_ret ?_
  refine ret_end (v := .tuple #[]) rfl (res0 results92) ?_
  exact ⟨_, rfl, Or.inr hJx⟩
 rw [decide_eq_false q1]
 refine W_cond_f rfl ?_
 refine W_exit ?_
 refine nrm_end (v := .tuple #[]) rfl (res0 results92) ?_
 obtain hjm : j = n := by omega
 exact ⟨_, rfl, Or.inl (by rw [← hjm]; exact hJ0)⟩
def ecF (l b : List Int) : List Int × Int := if ¬ Rt l then ([], 12) else if ¬ Hs l b then ([], 2) else (out l b, 0)
theorem enc_step {l b : List Int} {m i : Nat} (hi : i < m) (hm : b.length = m) {x k : Nat} (hk : (l.getD (b.getD (m - 1 - i) 0).toNat 0).toNat = k) (hx : (cd l (b.getD (m - 1 - i) 0).toNat).2.toNat = x) :
  eV l (b.drop (m - i)) + x * 2 ^ eL l (b.drop (m - i)) = eV l (b.drop (m - (i + 1))) ∧ eL l (b.drop (m - i)) + k = eL l (b.drop (m - (i + 1))) := by
 have e := drop_cons' (b := b) (k := m - (i + 1)) (by omega)
 rw [e, show m - (i + 1) + 1 = m - i from by omega, show m - (i + 1) = m - 1 - i from by omega, eV, eL, hk, hx]
 exact ⟨rfl, rfl⟩
set_option maxHeartbeats 2000000 in
theorem oenc_spec {a a2 : Option Addr} {n c m d : Nat} {l b : List Int} {R : Nat → Prop} (w : World) (hs : Sl w R 1 (.slice a n c) n (ints .i64 l)) (hn : n ≤ 1000) (hsb : Sl w (fun g => g < w.heap.size) 1 (.slice a2 m d) m (ints .u8 b)) (hb : Byt b) (hm : m ≤ 100000) :
  Calls Tryz.prog 30 #[.slice a n c, .slice a2 m d] w (Ret fun v w' => ∃ (a' : Option Addr) (m' : Nat) (c' : Nat), v = .tuple #[.slice a' m' c', .int .i64 ((ecF l b).2)] ∧ Own w' (fun g => w.heap.size ≤ g) 5 1 (.slice a' m' c') m' (ints .u8 ((ecF l b).1)) ∧ Upd No w w') := by
 have HU := Upd.rno w
 have hl_hs := ilen hs
 have hc_hs := hs.cap.1
 replace hs := hs.tight
 have hl_hsb := ilen hsb
 have hc_hsb := hsb.cap.1
 refine calls_of_W func30 rfl ntmps30 (by simp) ?_
 refine W_seq (W_region ?_)
 refine Wl_alloc (cs := [.slice none 0 0]) zeroValue32 rfl ?_
 intro B1 w1 hB1 hU1 hzz1 hb1
 have hzw1 := hU1.size
 replace hs := hs.upd0 hU1
 replace hsb := hsb.upd0 hU1
 replace HU := HU.trans0 hU1
 refine Wl_alloc (cs := [.int .i64 0]) zeroValue23 rfl ?_
 intro B2 w2 hB2 hU2 hzz2 hb2
 have hzw2 := hU2.size
 replace hs := hs.upd0 hU2
 replace hsb := hsb.upd0 hU2
 replace HU := HU.trans0 hU2
 replace hb1 := hb1.upd0 hU2
 refine Wl_nil (W_seq (W_region ?_))
 refine Wl_v (r_mkf1 (v0 := .pointer (some ⟨B1, 0, none⟩)) rfl) ?_
 refine Wl_defer2 rfl rfl ?_
 refine Wl_nil (W_seq (W_region ?_))
 refine Wmv (.slice a n c) ?_
 refine Wmv (.slice a2 m d) ?_
 by_cases q1 : Rt l
 ·by_cases q2 : Hs l b
  ·refine Wl_call (r_call2 rfl call61 rfl rfl) (ocod_ok _ hs (by omega) hsb.any hb (by omega) q1 q2) ?_
   rintro v w3 ⟨a3, c3, rfl, hO3, hU3⟩
   have hzw3 := hU3.size
   replace hs := hs.upd0 hU3
   replace hsb := hsb.upd0 hU3
   replace HU := HU.trans0 hU3
   replace hb1 := hb1.upd0 hU3
   replace hb2 := hb2.upd0 hU3
   replace hO3 := hO3.tight
   have hl_hO3 := rlen encC_len (by decide) hO3.sl
   have hc_hO3 := hO3.sl.cap.1
   have hr := q1
   have hHs := q2
   refine Wl_alloc (cs := [.slice none 0 0]) zeroValue92 rfl ?_
   intro B4 w4 hB4 hU4 hzz4 hb4
   have hzw4 := hU4.size
   replace hs := hs.upd0 hU4
   replace hsb := hsb.upd0 hU4
   replace HU := HU.trans0 hU4
   replace hb1 := hb1.upd0 hU4
   replace hb2 := hb2.upd0 hU4
   replace hO3 := hO3.upd0 hU4
   refine Wl_store (v := .slice a3 n c3) (cs' := [.slice a3 n c3]) sizeOf92 rfl rfl rfl rfl hb4 rfl rfl ?_
   intro w5 hU5 hzz5 hb4n
   replace hb4 := hb4n; clear hb4n
   have hzw5 := hU5.size
   replace hs := hs.upd1 hU5 (show ¬ (((R B4) ∧ B4 < w.heap.size)) by omega)
   replace hsb := hsb.upd1 hU5 (show ¬ (B4 < w.heap.size) by omega)
   replace HU := HU.t1 hU5 (by omega)
   replace hb1 := hb1.upd1 hU5 (by omega)
   replace hb2 := hb2.upd1 hU5 (by omega)
   replace hO3 := hO3.upd1 hU5 (show ¬ (((w2.heap.size ≤ B4) ∧ B4 < w3.heap.size)) by omega)
   refine Wl_nil (W_seq (W_region ?_))
   refine Wl_alloc (cs := [.int .u64 0, .int .i64 0, .slice none 0 0]) zeroValue97 rfl ?_
   intro B6 w6 hB6 hU6 hzz6 hb6
   have hzw6 := hU6.size
   replace hs := hs.upd0 hU6
   replace hsb := hsb.upd0 hU6
   replace HU := HU.trans0 hU6
   replace hb1 := hb1.upd0 hU6
   replace hb2 := hb2.upd0 hU6
   replace hO3 := hO3.upd0 hU6
   replace hb4 := hb4.upd0 hU6
   refine Wl_nil (W_seq (W_region ?_))
   refine Wl_v (r_mkf1 (v0 := .pointer (some ⟨B6, 0, none⟩)) rfl) ?_
   refine Wl_alloc (cs := [.nilFunc]) zeroValue100 rfl ?_
   intro B7 w7 hB7 hU7 hzz7 hb7
   have hzw7 := hU7.size
   replace hs := hs.upd0 hU7
   replace hsb := hsb.upd0 hU7
   replace HU := HU.trans0 hU7
   replace hb1 := hb1.upd0 hU7
   replace hb2 := hb2.upd0 hU7
   replace hO3 := hO3.upd0 hU7
   replace hb4 := hb4.upd0 hU7
   replace hb6 := hb6.upd0 hU7
   refine Wl_store (v := .func (.func 62) #[] #[.pointer (some ⟨B6, 0, none⟩)]) (cs' := [.func (.func 62) #[] #[.pointer (some ⟨B6, 0, none⟩)]]) sizeOf100 rfl rfl rfl rfl hb7 rfl rfl ?_
   intro w8 hU8 hzz8 hb7n
   replace hb7 := hb7n; clear hb7n
   have hzw8 := hU8.size
   replace hs := hs.upd1 hU8 (show ¬ (((R B7) ∧ B7 < w.heap.size)) by omega)
   replace hsb := hsb.upd1 hU8 (show ¬ (B7 < w.heap.size) by omega)
   replace HU := HU.t1 hU8 (by omega)
   replace hb1 := hb1.upd1 hU8 (by omega)
   replace hb2 := hb2.upd1 hU8 (by omega)
   replace hO3 := hO3.upd1 hU8 (show ¬ (((w2.heap.size ≤ B7) ∧ B7 < w3.heap.size)) by omega)
   replace hb4 := hb4.upd1 hU8 (by omega)
   replace hb6 := hb6.upd1 hU8 (by omega)
   refine Wl_nil (W_seq (W_seq (W_region ?_)))
   refine Wmv (.slice a2 m d) ?_
   refine Wl_call (r_call1 rfl call65 rfl) (bkw_spec _ ) ?_
   rintro v w9 ⟨Bo9, rfl, hBo9, hbo_9, hU9⟩
   have hzw9 := hU9.size
   replace hs := hs.upd0 hU9
   replace hsb := hsb.upd0 hU9
   replace HU := HU.trans0 hU9
   replace hb1 := hb1.upd0 hU9
   replace hb2 := hb2.upd0 hU9
   replace hO3 := hO3.upd0 hU9
   replace hb4 := hb4.upd0 hU9
   replace hb6 := hb6.upd0 hU9
   replace hb7 := hb7.upd0 hU9
   have hbl_hBo9 := hBo9.lt
   refine Wl_nil (W_block ?_)
   refine W_range (gf := 92) (ar := fun y => #[y, .pointer (some ⟨Bo9, 0, none⟩)]) rfl call92 (fun y => by simp) ?_
   intro D10 fn10 w10 hD10 hU10 hzz10 hdf10 hrc100
   have hzw10 := hU10.size
   replace hs := hs.upd0 hU10
   replace hsb := hsb.upd0 hU10
   replace HU := HU.trans0 hU10
   replace hb1 := hb1.upd0 hU10
   replace hb2 := hb2.upd0 hU10
   replace hO3 := hO3.upd0 hU10
   replace hb4 := hb4.upd0 hU10
   replace hb6 := hb6.upd0 hU10
   replace hb7 := hb7.upd0 hU10
   replace hBo9 := hBo9.upd0 hU10
   obtain ⟨r10, hr10, hrc10⟩ : ∃ r, r = _ ∧ Rec w10 (D10 + 1) r := ⟨_, rfl, hrc100⟩
   clear hrc100
   have hW0 : Wr w10 w10.heap.size B6 (eV l (b.drop (m - 0))) (eL l (b.drop (m - 0))) := by
    rw [List.drop_of_length_le (by omega)]
    exact (show Wr _ _ _ 0 0 from ⟨none, 0, blk3a (blk3b hb6 (by decide)) (by decide), Own.nil _ _ _ _, Nat.le_refl _⟩)
   obtain ⟨J10, hJ10⟩ : ∃ J : Nat → World → Prop, ∀ i w', J i w' ↔ (Rec w' (D10 + 1) r10 ∧ Dfr w' D10 ∧ Wr w' w10.heap.size B6 (eV l (b.drop (m - i))) (eL l (b.drop (m - i))) ∧ Sl w' (fun g => ((R g) ∧ g < w.heap.size)) 1 (.slice a n c) n (ints .i64 l) ∧ Sl w' (fun g => g < w.heap.size) 1 (.slice a2 m d) m (ints .u8 b) ∧ Blk w' B1 [.slice none 0 0] ∧ Blk w' B2 [.int .i64 0] ∧ Own w' (fun g => ((w2.heap.size ≤ g) ∧ g < w3.heap.size)) 106 2 (.slice a3 n c3) n (rows encC (cds l)) ∧ Blk w' B4 [.slice a3 n c3] ∧ Blk w' B7 [.func (.func 62) #[] #[.pointer (some ⟨B6, 0, none⟩)]] ∧ Blk w' Bo9 [.slice a2 m d] ∧ Upd No w w') := ⟨_, fun _ _ => Iff.rfl⟩
   obtain ⟨Jx10, hJx10⟩ : ∃ Jx : World → Prop, ∀ w', Jx w' ↔ (False) := ⟨_, fun _ => Iff.rfl⟩
   refine (bk1_spec (ly := (D10 + 1)) (J := J10) (Jx := Jx10) (Sb := (fun g => g = B6 ∨ w10.heap.size ≤ g ∨ g = D10 + 1)) (R := fun g => g < w.heap.size) w10 hBo9 hsb (by omega) (by intro g h1 h2; have h3 : g < w.heap.size := h1; have h4 : g = B6 ∨ w10.heap.size ≤ g ∨ g = D10 + 1 := h2; omega) (by show ¬ (_ ∨ _ ∨ _); omega) ?_ ?_).mono ?_
   ·exact (hJ10 _ _).2 ⟨hrc10, hdf10, hW0, hs, hsb, hb1, hb2, hO3, hb4, hb7, hBo9, HU⟩
   ·intro i11 w11 hi11 hh
    obtain ⟨hrc10, hdf10, hW0, hs, hsb, hb1, hb2, hO3, hb4, hb7, hBo9, HU⟩ := (hJ10 _ _).1 hh
    have hrl10 := hrc10.lt
    have hgt := hHs.get (k := m - 1 - i11) (by omega)
    have hbk := byt_get hb (m - 1 - i11)
    have hgd := hr.1.gd (b.getD (m - 1 - i11) 0).toNat
    have hEi : (((m : Nat) : Int) - 1 - ((i11 : Nat) : Int)).toNat = m - 1 - i11 := by omega
    have hEb : b.getD (((m : Nat) : Int) - 1 - ((i11 : Nat) : Int)).toNat 0 = b.getD (m - 1 - i11) 0 := by rw [hEi]
    have hcg : (cds l).getD (b.getD (m - 1 - i11) 0).toNat (0, 0) = cd l (b.getD (m - 1 - i11) 0).toNat := cds_get hgt.1
    have hcb := cd_bd hr hgt.1 (by omega)
    have hbl2 := bits_lt hr hgt.1 (by omega)
    obtain ⟨k9, hk9, hk8⟩ : ∃ k9 : Nat, ((cds l).getD (b.getD (((m : Nat) : Int) - 1 - ((i11 : Nat) : Int)).toNat 0).toNat (0, 0)).1 = ((k9 : Nat) : Int) ∧ (l.getD (b.getD (m - 1 - i11) 0).toNat 0).toNat = k9 := ⟨_, by rw [hEi, hcg, hcb.2.2.1]; omega, rfl⟩
    obtain ⟨x9, hx9, hx8⟩ : ∃ x9 : Nat, ((cds l).getD (b.getD (((m : Nat) : Int) - 1 - ((i11 : Nat) : Int)).toNat 0).toNat (0, 0)).2 = ((x9 : Nat) : Int) ∧ (cd l (b.getD (m - 1 - i11) 0).toNat).2.toNat = x9 := ⟨_, by rw [hEi, hcg]; omega, rfl⟩
    have hes := enc_step (i := i11) (by omega) (by omega) hk8 hx8
    have hVd := eV_lt hr (hHs.drop (m - i11))
    have hLd := eL_le hr (b.drop (m - i11))
    rw [List.length_drop] at hLd
    rw [hk8, hx8] at hbl2
    have hWl := hW0.lt
    have hbE := byt_get hb (((m : Nat) : Int) - 1 - ((i11 : Nat) : Int)).toNat
    have HB10 : Upd (fun g => g = B6 ∨ w10.heap.size ≤ g ∨ g = D10 + 1) w11 w11 := Upd.refl _ _
    refine yieldC_of_W (R := fun b c w' => (b = true ∧ Upd (fun g => g = B6 ∨ w10.heap.size ≤ g ∨ g = D10 + 1) w11 w' ∧ J10 (i11 + 1) w') ∨ (b = false ∧ Jx10 w')) hrc10 (by rw [hr10]; rfl) (by rw [hr10]; exact zip2 _ _ _ _ _ _) ?_ ?_
    ·rw [hr10]
     refine W_region ?_
     refine Was (.int .u8 (b.getD (((m : Nat) : Int) - 1 - ((i11 : Nat) : Int)).toNat 0)) ?_
     refine Wl_nil ?_
     refine ⟨rfl, _, hrc10, (by rw [hr10]), ?_⟩
     intro w12 hU12 hzz12 hrc10b
     have hzw12 := hU12.size
     replace hdf10 := hdf10.upd1 hU12 (by omega)
     replace hW0 := hW0.upd1 hU12 (by omega)
     replace hs := hs.upd1 hU12 (show ¬ (((R (D10 + 1)) ∧ (D10 + 1) < w.heap.size)) by omega)
     replace hsb := hsb.upd1 hU12 (show ¬ ((D10 + 1) < w.heap.size) by omega)
     replace hb1 := hb1.upd1 hU12 (by omega)
     replace hb2 := hb2.upd1 hU12 (by omega)
     replace hO3 := hO3.upd1 hU12 (show ¬ (((w2.heap.size ≤ (D10 + 1)) ∧ (D10 + 1) < w3.heap.size)) by omega)
     replace hb4 := hb4.upd1 hU12 (by omega)
     replace hb7 := hb7.upd1 hU12 (by omega)
     replace hBo9 := hBo9.upd1 hU12 (by omega)
     replace HU := HU.trans1 hU12 (by show (False) ∨ w.heap.size ≤ (D10 + 1); omega)
     replace HB10 := HB10.trans1 hU12 (by show ((D10 + 1) = B6 ∨ w10.heap.size ≤ (D10 + 1) ∨ (D10 + 1) = D10 + 1) ∨ w11.heap.size ≤ (D10 + 1); omega)
     clear hrc10
     have hrc10 := hrc10b
     clear hrc10b
     refine W_block ?_
     refine W_drawt rfl (l0 := tf 0 15) (by kernel_rfl) ?_
     refine Tk 0 (tf 1 15) rfl (YI_v (v := .func (.func 62) #[] #[.pointer (some ⟨B6, 0, none⟩)]) rfl (fun w' hw' => r_load isAgg100 rfl (by rw [(hb7.upd0 hw').cell]; rfl))) ?_
     refine Tk 1 (tf 2 15) rfl (YI_v (v := .slice a3 n c3) rfl (fun w' hw' => r_load isAgg92 rfl (by rw [(hb4.upd0 hw').cell]; rfl))) ?_
     refine Tk 2 (tf 3 15) rfl (YI_v (v := .int .u8 (b.getD (((m : Nat) : Int) - 1 - ((i11 : Nat) : Int)).toNat 0)) rfl (fun w' hw' => r_mv (v := .int .u8 (b.getD (((m : Nat) : Int) - 1 - ((i11 : Nat) : Int)).toNat 0)) rfl)) ?_
     obtain ⟨ib13, io13, ha13, hib13, hc13⟩ := Sl.rat (0, 0) encC_len (by decide) (hO3.sl) (i := (b.getD (((m : Nat) : Int) - 1 - ((i11 : Nat) : Int)).toNat 0).toNat) (by omega)
     refine Tk 3 (tf 4 15) rfl (YI_v (v := .pointer (some ⟨ib13, io13 + ((b.getD (((m : Nat) : Int) - 1 - ((i11 : Nat) : Int)).toNat 0).toNat) * 2, none⟩)) rfl (fun w' hw' => r_idx (b := ib13) (off := io13) (m := n) (c := c3) (o' := io13 + ((b.getD (((m : Nat) : Int) - 1 - ((i11 : Nat) : Int)).toNat 0).toNat) * 2) underlying92 sizeOf106 (by rw [← ha13]; rfl) rfl (by omega) (by omega) (by omega))) ?_
     refine Tk 4 (tf 5 15) rfl (YI_v (v := .pointer (some ⟨ib13, io13 + ((b.getD (((m : Nat) : Int) - 1 - ((i11 : Nat) : Int)).toNat 0).toNat) * 2 + 1, none⟩)) rfl (fun w' hw' => r_fld underlying106 rfl sizeOf104 rfl rfl)) ?_
     refine Tk 5 (tf 6 15) rfl (YI_v (v := .int .u32 (((cds l).getD (b.getD (((m : Nat) : Int) - 1 - ((i11 : Nat) : Int)).toNat 0).toNat (0, 0)).2)) rfl (fun w' hw' => r_load (v := .int .u32 (((cds l).getD (b.getD (((m : Nat) : Int) - 1 - ((i11 : Nat) : Int)).toNat 0).toNat (0, 0)).2)) isAgg104 rfl (hw'.cellk (hc13 1 (by decide))))) ?_
     refine Tk 6 (tf 7 15) rfl (YI_v (v := .int .u64 (((cds l).getD (b.getD (((m : Nat) : Int) - 1 - ((i11 : Nat) : Int)).toNat 0).toNat (0, 0)).2)) rfl (fun w' hw' => r_cvt underlying104 underlying76 rfl (wu64 (by omega) (by omega)))) ?_
     rw [show (((cds l).getD (b.getD (((m : Nat) : Int) - 1 - ((i11 : Nat) : Int)).toNat 0).toNat (0, 0)).2 : Int) = ((x9 : Nat) : Int) from hx9]
     refine Tk 7 (tf 8 15) rfl (YI_v (v := .slice a3 n c3) rfl (fun w' hw' => r_load isAgg92 rfl (by rw [(hb4.upd0 hw').cell]; rfl))) ?_
     refine Tk 8 (tf 9 15) rfl (YI_v (v := .int .u8 (b.getD (((m : Nat) : Int) - 1 - ((i11 : Nat) : Int)).toNat 0)) rfl (fun w' hw' => r_mv (v := .int .u8 (b.getD (((m : Nat) : Int) - 1 - ((i11 : Nat) : Int)).toNat 0)) rfl)) ?_
     obtain ⟨ib14, io14, ha14, hib14, hc14⟩ := Sl.rat (0, 0) encC_len (by decide) (hO3.sl) (i := (b.getD (((m : Nat) : Int) - 1 - ((i11 : Nat) : Int)).toNat 0).toNat) (by omega)
     refine Tk 9 (tf 10 15) rfl (YI_v (v := .pointer (some ⟨ib14, io14 + ((b.getD (((m : Nat) : Int) - 1 - ((i11 : Nat) : Int)).toNat 0).toNat) * 2, none⟩)) rfl (fun w' hw' => r_idx (b := ib14) (off := io14) (m := n) (c := c3) (o' := io14 + ((b.getD (((m : Nat) : Int) - 1 - ((i11 : Nat) : Int)).toNat 0).toNat) * 2) underlying92 sizeOf106 (by rw [← ha14]; rfl) rfl (by omega) (by omega) (by omega))) ?_
     refine Tk 10 (tf 11 15) rfl (YI_v (v := .pointer (some ⟨ib14, io14 + ((b.getD (((m : Nat) : Int) - 1 - ((i11 : Nat) : Int)).toNat 0).toNat) * 2, none⟩)) rfl (fun w' hw' => r_fld underlying106 rfl sizeOf3 rfl rfl)) ?_
     refine Tk 11 (tf 12 15) rfl (YI_v (v := .int .i64 (((cds l).getD (b.getD (((m : Nat) : Int) - 1 - ((i11 : Nat) : Int)).toNat 0).toNat (0, 0)).1)) rfl (fun w' hw' => r_load (v := .int .i64 (((cds l).getD (b.getD (((m : Nat) : Int) - 1 - ((i11 : Nat) : Int)).toNat 0).toNat (0, 0)).1)) isAgg3 rfl (hw'.cellk (hc14 0 (by decide))))) ?_
     refine Tk 12 (tf 13 15) rfl (YI_v (v := .int .u64 (((cds l).getD (b.getD (((m : Nat) : Int) - 1 - ((i11 : Nat) : Int)).toNat 0).toNat (0, 0)).1)) rfl (fun w' hw' => r_cvt underlying3 underlying76 rfl (wu64 (by omega) (by omega)))) ?_
     rw [show (((cds l).getD (b.getD (((m : Nat) : Int) - 1 - ((i11 : Nat) : Int)).toNat 0).toNat (0, 0)).1 : Int) = ((k9 : Nat) : Int) from hk9]
     refine Tk 13 (tf 14 15) rfl (YI_v (v := .agg #[.int .u64 ((x9 : Nat) : Int), .int .u64 ((k9 : Nat) : Int)]) rfl (fun w' hw' => r_builda (pv := [(0, .int .u64 ((x9 : Nat) : Int)), (1, .int .u64 ((k9 : Nat) : Int))]) (cs := #[.int .u64 ((x9 : Nat) : Int), .int .u64 ((k9 : Nat) : Int)]) zeroValue98 underlying98 sizeOf76 (by simp only [List.map_toArray, List.map_cons, List.map_nil] <;> rfl) (by kernel_rfl))) ?_
     intro w15 hU15
     have hzw15 := hU15.size
     replace hrc10 := hrc10.upd0 hU15
     replace hdf10 := hdf10.upd0 hU15
     replace hW0 := hW0.upd0 hU15
     replace hs := hs.upd0 hU15
     replace hsb := hsb.upd0 hU15
     replace hb1 := hb1.upd0 hU15
     replace hb2 := hb2.upd0 hU15
     replace hO3 := hO3.upd0 hU15
     replace hb4 := hb4.upd0 hU15
     replace hb7 := hb7.upd0 hU15
     replace hBo9 := hBo9.upd0 hU15
     replace HU := HU.trans0 hU15
     replace HB10 := HB10.trans0 hU15
     refine Wa_one (i := 14) (listed' := tf 15 15) (by kernel_rfl) rfl (by kernel_rfl) ?_
     refine Ws_of_Wl ?_
     have hW : Upd No w12 w15 := hU15
     refine Wl_call (r_clos1 call62 rfl rfl (by first | (simp; done) | (simp; rfl))) (eput_spec (V := eV l (b.drop (m - i11))) (L := eL l (b.drop (m - i11))) _ hW0 hVd hbl2.1 (by omega)) ?_
     rintro v w16 ⟨rfl, hW216, hU16⟩
     have hzw16 := hU16.size
     replace hrc10 := hrc10.upd hU16 (by intro hx; have hx2 : (D10 + 1) = B6 ∨ w10.heap.size ≤ (D10 + 1) := hx; omega)
     replace hdf10 := hdf10.upd hU16 (by intro hx; have hx2 : D10 = B6 ∨ w10.heap.size ≤ D10 := hx; omega)
     replace hs := hs.upd hU16 (by intro x h1 h2; have h3 : ((R x) ∧ x < w.heap.size) := h1; have h4 : x = B6 ∨ w10.heap.size ≤ x := h2; omega)
     replace hsb := hsb.upd hU16 (by intro x h1 h2; have h3 : x < w.heap.size := h1; have h4 : x = B6 ∨ w10.heap.size ≤ x := h2; omega)
     replace hb1 := hb1.upd hU16 (by intro hx; have hx2 : B1 = B6 ∨ w10.heap.size ≤ B1 := hx; omega)
     replace hb2 := hb2.upd hU16 (by intro hx; have hx2 : B2 = B6 ∨ w10.heap.size ≤ B2 := hx; omega)
     replace hO3 := hO3.upd hU16 (by intro x h1 h2; have h3 : ((w2.heap.size ≤ x) ∧ x < w3.heap.size) := h1; have h4 : x = B6 ∨ w10.heap.size ≤ x := h2; omega)
     replace hb4 := hb4.upd hU16 (by intro hx; have hx2 : B4 = B6 ∨ w10.heap.size ≤ B4 := hx; omega)
     replace hb7 := hb7.upd hU16 (by intro hx; have hx2 : B7 = B6 ∨ w10.heap.size ≤ B7 := hx; omega)
     replace hBo9 := hBo9.upd hU16 (by intro hx; have hx2 : Bo9 = B6 ∨ w10.heap.size ≤ Bo9 := hx; omega)
     replace HU := HU.trans hU16 (by intro x hx; have hx2 : x = B6 ∨ w10.heap.size ≤ x := hx; show (False) ∨ w.heap.size ≤ x; omega)
     replace HB10 := HB10.trans hU16 (by intro x hx; have hx2 : x = B6 ∨ w10.heap.size ≤ x := hx; show (x = B6 ∨ w10.heap.size ≤ x ∨ x = D10 + 1) ∨ w11.heap.size ≤ x; omega)
     refine Wl_nil ?_
     intro w17 hS17
     refine ⟨fun h => absurd h (by rw [show barOp _ 14 = true from by kernel_rfl]; simp), fun _ => ⟨Upd No w17, ?_⟩⟩
     have hU17 := hS17.upd
     have hzw17 := hU17.size
     replace hrc10 := hrc10.upd0 hU17
     replace hdf10 := hdf10.upd0 hU17
     replace hs := hs.upd0 hU17
     replace hsb := hsb.upd0 hU17
     replace hb1 := hb1.upd0 hU17
     replace hb2 := hb2.upd0 hU17
     replace hO3 := hO3.upd0 hU17
     replace hb4 := hb4.upd0 hU17
     replace hb7 := hb7.upd0 hU17
     replace hBo9 := hBo9.upd0 hU17
     replace HU := HU.trans0 hU17
     replace HB10 := HB10.trans0 hU17
     replace hW216 := hW216.upd0 hU17
     try replace hW := hW.trans0 hU17
     refine Wa_done (by kernel_rfl) ?_
     refine ⟨rfl, _, hrc10, ?_⟩
     intro w18 hU18 hzz18 hrz
     have hzw18 := hU18.size
     replace hdf10 := hdf10.upd1 hU18 (by omega)
     replace hs := hs.upd1 hU18 (show ¬ (((R (D10 + 1)) ∧ (D10 + 1) < w.heap.size)) by omega)
     replace hsb := hsb.upd1 hU18 (show ¬ ((D10 + 1) < w.heap.size) by omega)
     replace hb1 := hb1.upd1 hU18 (by omega)
     replace hb2 := hb2.upd1 hU18 (by omega)
     replace hO3 := hO3.upd1 hU18 (show ¬ (((w2.heap.size ≤ (D10 + 1)) ∧ (D10 + 1) < w3.heap.size)) by omega)
     replace hb4 := hb4.upd1 hU18 (by omega)
     replace hb7 := hb7.upd1 hU18 (by omega)
     replace hBo9 := hBo9.upd1 hU18 (by omega)
     replace HU := HU.trans1 hU18 (by show (False) ∨ w.heap.size ≤ (D10 + 1); omega)
     replace HB10 := HB10.trans1 hU18 (by show ((D10 + 1) = B6 ∨ w10.heap.size ≤ (D10 + 1) ∨ (D10 + 1) = D10 + 1) ∨ w11.heap.size ≤ (D10 + 1); omega)
     replace hW216 := hW216.upd1 hU18 (by omega)
     exact Or.inl ⟨rfl, HB10, (hJ10 _ _).2 ⟨(by rw [hr10]; rw [hr10] at hrz; exact hrz), hdf10, (hW216.cong hes.1 hes.2), hs, hsb, hb1, hb2, hO3, hb4, hb7, hBo9, HU⟩⟩
    rintro b c w9 (⟨rfl, h1, h2⟩ | ⟨rfl, h1⟩)
    ·exact Or.inl ⟨rfl, h1, h2⟩
    exact Or.inr ⟨rfl, h1⟩
   rintro e w19 ⟨v, rfl, hh | hh⟩
   ·obtain ⟨hrc10, hdf10, hW0, hs, hsb, hb1, hb2, hO3, hb4, hb7, hBo9, HU⟩ := (hJ10 _ _).1 hh
    have hrl10 := hrc10.lt
    refine ⟨r10, hrc10, (by rw [hr10]; simp), ?_⟩
    intro w20 hU20 hzz20
    have hzw20 := hU20.size
    replace hdf10 := hdf10.upd1 hU20 (by omega)
    replace hW0 := hW0.upd1 hU20 (by omega)
    replace hb1 := hb1.upd1 hU20 (by omega)
    replace hb2 := hb2.upd1 hU20 (by omega)
    replace HU := HU.trans1 hU20 (by show (False) ∨ w.heap.size ≤ (D10 + 1); omega)
    rw [hr10]
    replace hW0 := hW0.cong (V' := eV l b) (L' := eL l b) (by rw [Nat.sub_self, List.drop_zero]) (by rw [Nat.sub_self, List.drop_zero])
    have hVd := eV_lt hr hHs
    have hLd := eL_le hr b
    have hWl := hW0.lt
    refine W_seq (W_region ?_)
    refine Wl_call (r_call1 rfl call66 rfl) (wclose (V := eV l b) (L := eL l b) _ hW0 hVd (by omega)) ?_
    rintro v w21 ⟨a21, c21, rfl, hO21, hU21⟩
    have hzw21 := hU21.size
    replace hdf10 := hdf10.upd0 hU21
    replace hb1 := hb1.upd0 hU21
    replace hb2 := hb2.upd0 hU21
    replace HU := HU.trans0 hU21
    replace hO21 := hO21.tight
    have hl_hO21 := ilen hO21.sl
    have hc_hO21 := hO21.sl.cap.1
    refine Wl_store (v := .slice a21 ((eL l b) / 8 + 1) c21) (cs' := [.slice a21 ((eL l b) / 8 + 1) c21]) sizeOf32 rfl rfl rfl rfl hb1 rfl rfl ?_
    intro w22 hU22 hzz22 hb1n
    replace hb1 := hb1n; clear hb1n
    have hzw22 := hU22.size
    replace hdf10 := hdf10.upd1 hU22 (by omega)
    replace hb2 := hb2.upd1 hU22 (by omega)
    replace HU := HU.t1 hU22 (by omega)
    replace hO21 := hO21.upd1 hU22 (show ¬ (((w20.heap.size ≤ B1) ∧ B1 < w21.heap.size)) by omega)
    refine Wl_store (v := .int .i64 0) (cs' := [.int .i64 0]) sizeOf23 rfl rfl rfl rfl hb2 rfl rfl ?_
    intro w23 hU23 hzz23 hb2n
    replace hb2 := hb2n; clear hb2n
    have hzw23 := hU23.size
    replace hdf10 := hdf10.upd1 hU23 (by omega)
    replace hb1 := hb1.upd1 hU23 (by omega)
    replace HU := HU.t1 hU23 (by omega)
    replace hO21 := hO21.upd1 hU23 (show ¬ (((w20.heap.size ≤ B2) ∧ B2 < w21.heap.size)) by omega)
    refine Wl_nil ?_
    refine W_ret ?_
    refine ret_ds rfl ?_
    refine lv_mark (by simp) hdf10 ?_
    intro w24 hU24 hzz24
    have hzw24 := hU24.size
    replace hb1 := hb1.upd1 hU24 (by omega)
    replace hb2 := hb2.upd1 hU24 (by omega)
    replace HU := HU.t1 hU24 (by omega)
    replace hO21 := hO21.upd1 hU24 (show ¬ (((w20.heap.size ≤ D10) ∧ D10 < w21.heap.size)) by omega)
    refine lv_call (by simp) call59 rfl (ocaught_ret _) ?_
    rintro e1 u1 w25 ⟨rfl, v1, rfl, rfl, hU25⟩
    have hzw25 := hU25.size
    replace hb1 := hb1.upd0 hU25
    replace hb2 := hb2.upd0 hU25
    replace HU := HU.trans0 hU25
    replace hO21 := hO21.upd0 hU25
    refine lv_nil (v := .tuple #[.slice a21 ((eL l b) / 8 + 1) c21, .int .i64 0]) (rc2 results30 rfl rfl (cellIs isAgg32 hb1) (cellIs isAgg23 hb2)) ?_
    have hF : ecF l b = (out l b, 0) := by rw [ecF, if_neg (fun h => h q1), if_neg (fun h => h q2)]
    exact ⟨_, rfl, a21, (eL l b) / 8 + 1, c21, (vtup2 rfl (vint (by rw [hF]))), (by rw [hF]; exact (hO21.weak (by intro g hg; have h3 : ((w20.heap.size ≤ g) ∧ g < w21.heap.size) := hg; show w.heap.size ≤ g; omega))), HU⟩
   exact ((hJx10 _).1 hh).elim
  refine Wl_callp (r_call2 rfl call61 rfl rfl) (ocod_arg _ hs (by omega) hsb.any hb (by omega) q1 q2) ?_
  intro w26 hU26
  have hzw26 := hU26.size
  replace HU := HU.trans0 hU26
  replace hb1 := hb1.upd0 hU26
  replace hb2 := hb2.upd0 hU26
  refine pan_ds rfl ?_
  refine lv_call (by simp) call59 rfl (ocaught_pan (S := fun g => g = B1) (Φ := fun w' => Blk w' B1 [.slice none 0 0]) _ hb2 call60 (by show ¬ (B2 = B1); first | omega | exact fun h => h) (oenc_clr _ hb1)) ?_
  rintro e1 u1 w27 ⟨rfl, v1, rfl, rfl, wq27, hz27_0, hUa27, hUb27, hbe27⟩
  have hzwq27 := hUa27.size
  replace HU := HU.trans hUa27 (by intro x hx; have hx2 : x = B1 := hx; show (False) ∨ w.heap.size ≤ x; omega)
  have hzw27 := hUb27.size
  replace HU := HU.t1 hUb27 (by omega)
  replace hz27_0 := hz27_0.upd1 hUb27 (by omega)
  refine lv_nil (v := .tuple #[.slice none 0 0, .int .i64 2]) (rc2 results30 rfl rfl (cellIs isAgg32 hz27_0) (cellIs isAgg23 hbe27)) ?_
  have hF : ecF l b = ([], 2) := by rw [ecF, if_neg (fun h => h q1), if_pos q2]
  exact ⟨_, rfl, none, 0, 0, (vtup2 rfl (vint (by rw [hF]))), (by rw [hF]; exact (Own.nil _ _ 5 1)), HU⟩
 refine Wl_callp (r_call2 rfl call61 rfl rfl) (ocod_tree _ hs (by omega) hsb.any hb (by omega) q1) ?_
 intro w28 hU28
 have hzw28 := hU28.size
 replace HU := HU.trans0 hU28
 replace hb1 := hb1.upd0 hU28
 replace hb2 := hb2.upd0 hU28
 refine pan_ds rfl ?_
 refine lv_call (by simp) call59 rfl (ocaught_pan (S := fun g => g = B1) (Φ := fun w' => Blk w' B1 [.slice none 0 0]) _ hb2 call60 (by show ¬ (B2 = B1); first | omega | exact fun h => h) (oenc_clr _ hb1)) ?_
 rintro e1 u1 w29 ⟨rfl, v1, rfl, rfl, wq29, hz29_0, hUa29, hUb29, hbe29⟩
 have hzwq29 := hUa29.size
 replace HU := HU.trans hUa29 (by intro x hx; have hx2 : x = B1 := hx; show (False) ∨ w.heap.size ≤ x; omega)
 have hzw29 := hUb29.size
 replace HU := HU.t1 hUb29 (by omega)
 replace hz29_0 := hz29_0.upd1 hUb29 (by omega)
 refine lv_nil (v := .tuple #[.slice none 0 0, .int .i64 12]) (rc2 results30 rfl rfl (cellIs isAgg32 hz29_0) (cellIs isAgg23 hbe29)) ?_
 have hF : ecF l b = ([], 12) := by rw [ecF, if_pos q1]
 exact ⟨_, rfl, none, 0, 0, (vtup2 rfl (vint (by rw [hF]))), (by rw [hF]; exact (Own.nil _ _ 5 1)), HU⟩
end Go.Proofs.YtdppageondgjkaaGreat
