/-
 Walks, printed by a small program of this project (gen.py).
-/
import Derived.Test.YtilegaokfamfnaaZe
set_option linter.unusedVariables false
set_option linter.unusedSimpArgs false
namespace Go.Proofs.Ytilegaokfamfnaa
open Go.Fw

set_option maxRecDepth 100000 in
theorem bkw_spec {a : Option Addr} {n c : Nat} (w : World)  :
  Calls Try.prog 37 #[.slice a n c] w (Ret fun v w' => ∃ (Bo : Nat), v = .func (.func 67) #[] #[.pointer (some ⟨Bo, 0, none⟩)] ∧ Blk w' Bo [.slice a n c] ∧ w.heap.size ≤ Bo ∧ Upd No w w') := by
 have HU : Upd (fun b => False) w w := Upd.refl _ _
 refine calls_of_W Try.func37 rfl Try.ntmps37 (by simp) ?_
 refine W_seq ?_
 refine W_region ?_
 refine Wl_box (v := .slice a n c) (cs := [.slice a n c]) rfl rfl ?_
 intro B1 w1 hB1 hU1 hzz1 hb1
 have hzw1 := hU1.size
 replace HU := HU.trans0 hU1
 refine Wl_v (r_as (v := .nilFunc) rfl) ?_
 refine Wl_nil ?_
 refine W_seq ?_
 refine W_region ?_
 refine Wl_v (r_mkf1 (v0 := .pointer (some ⟨B1, 0, none⟩)) rfl) ?_
 refine Wl_v (r_as (v := .func (.func 67) #[] #[.pointer (some ⟨B1, 0, none⟩)]) rfl) ?_
 refine Wl_nil ?_
 refine W_ret ?_
 refine ret_end (v := .func (.func 67) #[] #[.pointer (some ⟨B1, 0, none⟩)]) rfl (res1 Try.results37 rfl) ?_
 exact ⟨_, rfl, B1, rfl, hb1, (by omega), HU⟩

set_option maxRecDepth 100000 in
theorem bk1_spec {ly Bo n c : Nat} {a : Option Addr} {b : List Int} {J : Nat → World → Prop} {Jx : World → Prop} {Sb R : Nat → Prop} (w : World) (hB : Blk w Bo [.slice a n c]) (hs : Sl w R 1 (.slice a n c) n (ints .u8 b)) (hn : n ≤ 17592186044415) (hSR : ∀ g, R g → ¬ Sb g) (hSB : ¬ Sb Bo) (hJ0 : J 0 w) (hy : ∀ j w, j < n → J j w → YieldC Try.prog ly #[.int .i64 (((n : Nat) : Int) - 1 - ((j : Nat) : Int)), .int .u8 (b.getD (((n : Nat) : Int) - 1 - ((j : Nat) : Int)).toNat 0)] w (fun e w' => (e = .returned (.bool true) ∧ (Upd Sb w w' ∧ J (j + 1) w')) ∨ (e = .returned (.bool false) ∧ Jx w'))) :
  Calls Try.prog 67 #[.func (.yield ly) #[] #[], .pointer (some ⟨Bo, 0, none⟩)] w (Ret fun v w' => J n w' ∨ Jx w') := by
 have HU : Upd (fun b => False) w w := Upd.refl _ _
 have hl_hs := ilen hs
 have hc_hs := hs.cap.1
 refine calls_of_W Try.func67 rfl Try.ntmps67 (by simp) ?_
 refine W_seq ?_
 refine W_region ?_
 refine Wl_load (v := .slice a n c) Try.isAgg23 rfl hB rfl ?_
 refine Wl_v (r_len Try.underlying23 rfl) ?_
 refine Wl_v (r_sub rfl rfl (wi64 (by omega) (by omega))) ?_
 refine Wl_v (r_as (v := .int .i64 (((n : Nat) : Int) - 1)) rfl) ?_
 refine Wl_nil ?_
 refine W_block ?_
 refine W_loop (fun mu ρ ds w' => ∃ (j : Nat), n - j = mu ∧ ds = [] ∧ Liv ρ [(0, .func (.yield ly) #[] #[]), (1, .pointer (some ⟨Bo, 0, none⟩)), (3, .int .i64 (((n : Nat) : Int) - 1 - ((j : Nat) : Int)))] ∧ j ≤ n ∧ Blk w' Bo [.slice a n c] ∧ Sl w' R 1 (.slice a n c) n (ints .u8 b) ∧ J j w') _ ⟨0, rfl, rfl, ⟨rfl, rfl, (Eq.trans (b := .int .i64 (((n : Nat) : Int) - 1)) rfl (vint (by omega))), trivial⟩, (by omega), hB, hs, hJ0⟩ ?_
 rintro m1 ρ1 ds1 w1 ⟨j, rfl, rfl, hl1, hj, hB, hs, hJ0⟩
 obtain ⟨ρ1x, rfl⟩ : ∃ ρx, ρ1 = upds ρx [(0, .func (.yield ly) #[] #[]), (1, .pointer (some ⟨Bo, 0, none⟩)), (3, .int .i64 (((n : Nat) : Int) - 1 - ((j : Nat) : Int)))] := ⟨_, upds_self hl1⟩
 clear hl1
 refine W_seq ?_
 refine W_seq ?_
 refine W_region ?_
 refine Wl_v (r_mv (v := .int .i64 (((n : Nat) : Int) - 1 - ((j : Nat) : Int))) rfl) ?_
 refine Wl_v (r_ge rfl rfl) ?_
 refine Wl_nil ?_
 by_cases q1 : 0 ≤ (((n : Nat) : Int) - 1 - ((j : Nat) : Int))
 ·rw [decide_eq_true q1]
  refine W_cond_t rfl ?_
  refine W_skip ?_
  refine W_seq ?_
  refine W_block ?_
  refine W_seq ?_
  refine W_region ?_
  refine Wl_v (r_mv (v := .func (.yield ly) #[] #[]) rfl) ?_
  refine Wl_v (r_mv (v := .int .i64 (((n : Nat) : Int) - 1 - ((j : Nat) : Int))) rfl) ?_
  refine Wl_load (v := .slice a n c) Try.isAgg23 rfl hB rfl ?_
  refine Wl_v (r_mv (v := .int .i64 (((n : Nat) : Int) - 1 - ((j : Nat) : Int))) rfl) ?_
  refine Wl_idxi Try.underlying23 Try.sizeOf5 rfl rfl hs (by omega) (by omega) ?_
  intro ib2 io2 hc2
  refine Wl_loadc Try.isAgg5 rfl hc2 ?_
  refine Wl_yield2 rfl rfl rfl (hy j _ (by omega) hJ0) ?_ ?_
  ·rintro w3 ⟨hU3, hJn⟩
   replace hs := hs.upd hU3 hSR
   replace hB := hB.upd hU3 hSB
   replace hJ0 := hJn
   refine Wl_v (r_not (b := true) rfl) ?_
   refine Wl_nil ?_
   refine W_cond_f rfl ?_
   refine W_skip ?_
   refine W_region ?_
   refine Wl_v (r_mv (v := .int .i64 (((n : Nat) : Int) - 1 - ((j : Nat) : Int))) rfl) ?_
   refine Wl_v (r_sub rfl rfl (wi64 (by omega) (by omega))) ?_
   refine Wl_v (r_as (v := .int .i64 ((((n : Nat) : Int) - 1 - ((j : Nat) : Int)) - 1)) rfl) ?_
   refine Wl_nil ?_
   refine ⟨_, ?_, (j + 1), rfl, rfl, ⟨rfl, rfl, (Eq.trans (b := .int .i64 ((((n : Nat) : Int) - 1 - ((j : Nat) : Int)) - 1)) rfl (vint (by omega))), trivial⟩, (by omega), hB, hs, hJ0⟩
   omega
  ·rintro w4 hJx
   refine Wl_v (r_not (b := false) rfl) ?_
   refine Wl_nil ?_
   refine W_cond_t rfl ?_
   refine W_ret ?_
   refine ret_end (v := .tuple #[]) rfl (res0 Try.results67) ?_
   exact ⟨_, rfl, Or.inr hJx⟩
 ·rw [decide_eq_false q1]
  refine W_cond_f rfl ?_
  refine W_exit ?_
  refine nrm_end (v := .tuple #[]) rfl (res0 Try.results67) ?_
  obtain hjm : j = n := by omega
  exact ⟨_, rfl, Or.inl (by rw [← hjm]; exact hJ0)⟩

def ecF (l b : List Int) : List Int × Int := if ¬ Rt l then ([], 12) else if ¬ Hs l b then ([], 2) else (out l b, 0)
theorem enc_step {l b : List Int} {m i : Nat} (hi : i < m) (hm : b.length = m) {x k : Nat} (hk : (l.getD (b.getD (m - 1 - i) 0).toNat 0).toNat = k) (hx : (cd l (b.getD (m - 1 - i) 0).toNat).2.toNat = x) :
  eV l (b.drop (m - i)) + x * 2 ^ eL l (b.drop (m - i)) = eV l (b.drop (m - (i + 1))) ∧ eL l (b.drop (m - i)) + k = eL l (b.drop (m - (i + 1))) := by
 have e := drop_cons' (b := b) (k := m - (i + 1)) (by omega)
 rw [e, show m - (i + 1) + 1 = m - i from by omega, show m - (i + 1) = m - 1 - i from by omega, eV, eL, hk, hx]
 exact ⟨rfl, rfl⟩

set_option maxHeartbeats 2000000 in
set_option maxRecDepth 100000 in
theorem oenc_spec {a a2 : Option Addr} {n c m d : Nat} {l b : List Int} {R : Nat → Prop} (w : World) (hs : Sl w R 1 (.slice a n c) n (ints .i64 l)) (hn : n ≤ 1000) (hsb : Sl w (fun g => g < w.heap.size) 1 (.slice a2 m d) m (ints .u8 b)) (hb : Byt b) (hm : m ≤ 100000) :
  Calls Try.prog 12 #[.slice a n c, .slice a2 m d] w (Ret fun v w' => ∃ (a' : Option Addr) (m' : Nat) (c' : Nat), v = .tuple #[.slice a' m' c', .int .i64 ((ecF l b).2)] ∧ Own w' (fun g => w.heap.size ≤ g) 5 1 (.slice a' m' c') m' (ints .u8 ((ecF l b).1)) ∧ Upd No w w') := by
 have HU : Upd (fun b => False) w w := Upd.refl _ _
 have hl_hs := ilen hs
 have hc_hs := hs.cap.1
 replace hs := hs.tight
 have hl_hsb := ilen hsb
 have hc_hsb := hsb.cap.1
 refine calls_of_W Try.func12 rfl Try.ntmps12 (by simp) ?_
 refine W_seq ?_
 refine W_region ?_
 refine Wl_alloc (cs := [.slice none 0 0]) Try.zeroValue23 rfl ?_
 intro B1 w1 hB1 hU1 hzz1 hb1
 have hzw1 := hU1.size
 replace hs := hs.upd0 hU1
 replace hsb := hsb.upd0 hU1
 replace HU := HU.trans0 hU1
 refine Wl_alloc (cs := [.int .i64 0]) Try.zeroValue25 rfl ?_
 intro B2 w2 hB2 hU2 hzz2 hb2
 have hzw2 := hU2.size
 replace hs := hs.upd0 hU2
 replace hsb := hsb.upd0 hU2
 replace HU := HU.trans0 hU2
 replace hb1 := hb1.upd0 hU2
 refine Wl_nil ?_
 refine W_seq ?_
 refine W_region ?_
 refine Wl_v (r_mkf1 (v0 := .pointer (some ⟨B1, 0, none⟩)) rfl) ?_
 refine Wl_defer2 rfl rfl ?_
 refine Wl_nil ?_
 refine W_seq ?_
 refine W_region ?_
 refine Wl_v (r_mv (v := .slice a n c) rfl) ?_
 refine Wl_v (r_mv (v := .slice a2 m d) rfl) ?_
 by_cases q1 : Rt l
 ·by_cases q2 : Hs l b
  ·refine Wl_call (r_call2 rfl Try.call33 rfl rfl) (ocod_ok _ hs (by omega) hsb.any hb (by omega) q1 q2) ?_
   rintro v w3 ⟨a3, c3, rfl, hO3, hU3⟩
   have hzw3 := hU3.size
   replace hs := hs.upd0 hU3
   replace hsb := hsb.upd0 hU3
   replace HU := HU.trans0 hU3
   replace hb1 := hb1.upd0 hU3
   replace hb2 := hb2.upd0 hU3
   replace hO3 := hO3.tight
   have hl_hO3 := rlen encC_len (by decide) hO3.sl
   have hc_hO3 := hO3.sl.cap.1
   have hr := q1
   have hHs := q2
   refine Wl_alloc (cs := [.slice none 0 0]) Try.zeroValue53 rfl ?_
   intro B4 w4 hB4 hU4 hzz4 hb4
   have hzw4 := hU4.size
   replace hs := hs.upd0 hU4
   replace hsb := hsb.upd0 hU4
   replace HU := HU.trans0 hU4
   replace hb1 := hb1.upd0 hU4
   replace hb2 := hb2.upd0 hU4
   replace hO3 := hO3.upd0 hU4
   refine Wl_store (v := .slice a3 n c3) (cs' := [.slice a3 n c3]) Try.sizeOf53 rfl rfl rfl rfl hb4 rfl rfl ?_
   intro w5 hU5 hzz5 hb4n
   replace hb4 := hb4n; clear hb4n
   have hzw5 := hU5.size
   replace hs := hs.upd1 hU5 (by intro h1; have h3 : ((R B4) ∧ B4 < w.heap.size) := h1; omega)
   replace hsb := hsb.upd1 hU5 (by intro h1; have h3 : B4 < w.heap.size := h1; omega)
   replace HU := HU.trans1 hU5 (by show (False) ∨ w.heap.size ≤ B4; omega)
   replace hb1 := hb1.upd1 hU5 (by omega)
   replace hb2 := hb2.upd1 hU5 (by omega)
   replace hO3 := hO3.upd1 hU5 (by intro h1; have h3 : ((w2.heap.size ≤ B4) ∧ B4 < w3.heap.size) := h1; omega)
   refine Wl_nil ?_
   refine W_seq ?_
   refine W_region ?_
   refine Wl_alloc (cs := [.int .u64 0, .int .i64 0, .slice none 0 0]) Try.zeroValue59 rfl ?_
   intro B6 w6 hB6 hU6 hzz6 hb6
   have hzw6 := hU6.size
   replace hs := hs.upd0 hU6
   replace hsb := hsb.upd0 hU6
   replace HU := HU.trans0 hU6
   replace hb1 := hb1.upd0 hU6
   replace hb2 := hb2.upd0 hU6
   replace hO3 := hO3.upd0 hU6
   replace hb4 := hb4.upd0 hU6
   refine Wl_nil ?_
   refine W_seq ?_
   refine W_region ?_
   refine Wl_v (r_mkf1 (v0 := .pointer (some ⟨B6, 0, none⟩)) rfl) ?_
   refine Wl_alloc (cs := [.nilFunc]) Try.zeroValue63 rfl ?_
   intro B7 w7 hB7 hU7 hzz7 hb7
   have hzw7 := hU7.size
   replace hs := hs.upd0 hU7
   replace hsb := hsb.upd0 hU7
   replace HU := HU.trans0 hU7
   replace hb1 := hb1.upd0 hU7
   replace hb2 := hb2.upd0 hU7
   replace hO3 := hO3.upd0 hU7
   replace hb4 := hb4.upd0 hU7
   replace hb6 := hb6.upd0 hU7
   refine Wl_store (v := .func (.func 34) #[] #[.pointer (some ⟨B6, 0, none⟩)]) (cs' := [.func (.func 34) #[] #[.pointer (some ⟨B6, 0, none⟩)]]) Try.sizeOf63 rfl rfl rfl rfl hb7 rfl rfl ?_
   intro w8 hU8 hzz8 hb7n
   replace hb7 := hb7n; clear hb7n
   have hzw8 := hU8.size
   replace hs := hs.upd1 hU8 (by intro h1; have h3 : ((R B7) ∧ B7 < w.heap.size) := h1; omega)
   replace hsb := hsb.upd1 hU8 (by intro h1; have h3 : B7 < w.heap.size := h1; omega)
   replace HU := HU.trans1 hU8 (by show (False) ∨ w.heap.size ≤ B7; omega)
   replace hb1 := hb1.upd1 hU8 (by omega)
   replace hb2 := hb2.upd1 hU8 (by omega)
   replace hO3 := hO3.upd1 hU8 (by intro h1; have h3 : ((w2.heap.size ≤ B7) ∧ B7 < w3.heap.size) := h1; omega)
   replace hb4 := hb4.upd1 hU8 (by omega)
   replace hb6 := hb6.upd1 hU8 (by omega)
   refine Wl_nil ?_
   refine W_seq ?_
   refine W_seq ?_
   refine W_region ?_
   refine Wl_v (r_mv (v := .slice a2 m d) rfl) ?_
   refine Wl_call (r_call1 rfl Try.call37 rfl) (bkw_spec _ ) ?_
   rintro v w9 ⟨Bo9, rfl, hBo9, hbo_9, hU9⟩
   have hzw9 := hU9.size
   replace hs := hs.upd0 hU9
   replace hsb := hsb.upd0 hU9
   replace HU := HU.trans0 hU9
   replace hb1 := hb1.upd0 hU9
   replace hb2 := hb2.upd0 hU9
   replace hO3 := hO3.upd0 hU9
   replace hb4 := hb4.upd0 hU9
   replace hb6 := hb6.upd0 hU9
   replace hb7 := hb7.upd0 hU9
   have hbl_hBo9 := hBo9.lt
   refine Wl_nil ?_
   refine W_block ?_
   refine W_range (gf := 67) (ar := fun y => #[y, .pointer (some ⟨Bo9, 0, none⟩)]) rfl Try.call67 (fun y => by simp) ?_
   intro D10 fn10 w10 hD10 hU10 hzz10 hdf10 hrc100
   have hzw10 := hU10.size
   replace hs := hs.upd0 hU10
   replace hsb := hsb.upd0 hU10
   replace HU := HU.trans0 hU10
   replace hb1 := hb1.upd0 hU10
   replace hb2 := hb2.upd0 hU10
   replace hO3 := hO3.upd0 hU10
   replace hb4 := hb4.upd0 hU10
   replace hb6 := hb6.upd0 hU10
   replace hb7 := hb7.upd0 hU10
   replace hBo9 := hBo9.upd0 hU10
   obtain ⟨r10, hr10, hrc10⟩ : ∃ r, r = _ ∧ Rec w10 (D10 + 1) r := ⟨_, rfl, hrc100⟩
   clear hrc100
   have hW0 : Wr w10 w10.heap.size B6 (eV l (b.drop (m - 0))) (eL l (b.drop (m - 0))) := by
    rw [List.drop_of_length_le (by omega)]
    exact (show Wr _ _ _ 0 0 from ⟨none, 0, blk3a (blk3b hb6 (by decide)) (by decide), Own.nil _ _ _ _, Nat.le_refl _⟩)
   obtain ⟨J10, hJ10⟩ : ∃ J : Nat → World → Prop, ∀ i w', J i w' ↔ (Rec w' (D10 + 1) r10 ∧ Dfr w' D10 ∧ Wr w' w10.heap.size B6 (eV l (b.drop (m - i))) (eL l (b.drop (m - i))) ∧ Sl w' (fun g => ((R g) ∧ g < w.heap.size)) 1 (.slice a n c) n (ints .i64 l) ∧ Sl w' (fun g => g < w.heap.size) 1 (.slice a2 m d) m (ints .u8 b) ∧ Blk w' B1 [.slice none 0 0] ∧ Blk w' B2 [.int .i64 0] ∧ Own w' (fun g => ((w2.heap.size ≤ g) ∧ g < w3.heap.size)) 67 2 (.slice a3 n c3) n (rows encC (cds l)) ∧ Blk w' B4 [.slice a3 n c3] ∧ Blk w' B7 [.func (.func 34) #[] #[.pointer (some ⟨B6, 0, none⟩)]] ∧ Blk w' Bo9 [.slice a2 m d] ∧ Upd No w w') := ⟨_, fun _ _ => Iff.rfl⟩
   obtain ⟨Jx10, hJx10⟩ : ∃ Jx : World → Prop, ∀ w', Jx w' ↔ (False) := ⟨_, fun _ => Iff.rfl⟩
   refine (bk1_spec (ly := (D10 + 1)) (J := J10) (Jx := Jx10) (Sb := (fun g => g = B6 ∨ w10.heap.size ≤ g ∨ g = D10 + 1)) (R := fun g => g < w.heap.size) w10 hBo9 hsb (by omega) (by intro g h1 h2; have h3 : g < w.heap.size := h1; have h4 : g = B6 ∨ w10.heap.size ≤ g ∨ g = D10 + 1 := h2; omega) (by show ¬ (_ ∨ _ ∨ _); omega) ?_ ?_).mono ?_
   ·exact (hJ10 _ _).2 ⟨hrc10, hdf10, hW0, hs, hsb, hb1, hb2, hO3, hb4, hb7, hBo9, HU⟩
   ·intro i11 w11 hi11 hh
    obtain ⟨hrc10, hdf10, hW0, hs, hsb, hb1, hb2, hO3, hb4, hb7, hBo9, HU⟩ := (hJ10 _ _).1 hh
    have hrl10 := hrc10.lt
    have hgt := hHs.get (k := m - 1 - i11) (by omega)
    have hbk := byt_get hb (m - 1 - i11)
    have hgd := hr.1.gd (b.getD (m - 1 - i11) 0).toNat
    have hEi : (((m : Nat) : Int) - 1 - ((i11 : Nat) : Int)).toNat = m - 1 - i11 := by omega
    have hEb : b.getD (((m : Nat) : Int) - 1 - ((i11 : Nat) : Int)).toNat 0 = b.getD (m - 1 - i11) 0 := by rw [hEi]
    have hcg : (cds l).getD (b.getD (m - 1 - i11) 0).toNat (0, 0) = cd l (b.getD (m - 1 - i11) 0).toNat := cds_get hgt.1
    have hcb := cd_bd hr hgt.1 (by omega)
    have hbl2 := bits_lt hr hgt.1 (by omega)
    obtain ⟨k9, hk9, hk8⟩ : ∃ k9 : Nat, ((cds l).getD (b.getD (((m : Nat) : Int) - 1 - ((i11 : Nat) : Int)).toNat 0).toNat (0, 0)).1 = ((k9 : Nat) : Int) ∧ (l.getD (b.getD (m - 1 - i11) 0).toNat 0).toNat = k9 := ⟨_, by rw [hEi, hcg, hcb.2.2.1]; omega, rfl⟩
    obtain ⟨x9, hx9, hx8⟩ : ∃ x9 : Nat, ((cds l).getD (b.getD (((m : Nat) : Int) - 1 - ((i11 : Nat) : Int)).toNat 0).toNat (0, 0)).2 = ((x9 : Nat) : Int) ∧ (cd l (b.getD (m - 1 - i11) 0).toNat).2.toNat = x9 := ⟨_, by rw [hEi, hcg]; omega, rfl⟩
    have hes := enc_step (i := i11) (by omega) (by omega) hk8 hx8
    have hVd := eV_lt hr (hHs.drop (m - i11))
    have hLd := eL_le hr (b.drop (m - i11))
    rw [List.length_drop] at hLd
    rw [hk8, hx8] at hbl2
    have hWl := hW0.lt
    have hbE := byt_get hb (((m : Nat) : Int) - 1 - ((i11 : Nat) : Int)).toNat
    have HB10 : Upd (fun g => g = B6 ∨ w10.heap.size ≤ g ∨ g = D10 + 1) w11 w11 := Upd.refl _ _
    refine yieldC_of_W (R := fun b c w' => (b = true ∧ Upd (fun g => g = B6 ∨ w10.heap.size ≤ g ∨ g = D10 + 1) w11 w' ∧ J10 (i11 + 1) w') ∨ (b = false ∧ Jx10 w')) hrc10 (by rw [hr10]; rfl) (by rw [hr10]; exact zip2 _ _ _ _ _ _) ?_ ?_
    ·rw [hr10]
     refine W_region ?_
     refine Wl_v (r_as (v := .int .u8 (b.getD (((m : Nat) : Int) - 1 - ((i11 : Nat) : Int)).toNat 0)) rfl) ?_
     refine Wl_nil ?_
     refine ⟨rfl, _, hrc10, (by rw [hr10]), ?_⟩
     intro w12 hU12 hzz12 hrc10b
     have hzw12 := hU12.size
     replace hdf10 := hdf10.upd1 hU12 (by omega)
     replace hW0 := hW0.upd1 hU12 (by omega)
     replace hs := hs.upd1 hU12 (by intro h1; have h3 : ((R (D10 + 1)) ∧ (D10 + 1) < w.heap.size) := h1; omega)
     replace hsb := hsb.upd1 hU12 (by intro h1; have h3 : (D10 + 1) < w.heap.size := h1; omega)
     replace hb1 := hb1.upd1 hU12 (by omega)
     replace hb2 := hb2.upd1 hU12 (by omega)
     replace hO3 := hO3.upd1 hU12 (by intro h1; have h3 : ((w2.heap.size ≤ (D10 + 1)) ∧ (D10 + 1) < w3.heap.size) := h1; omega)
     replace hb4 := hb4.upd1 hU12 (by omega)
     replace hb7 := hb7.upd1 hU12 (by omega)
     replace hBo9 := hBo9.upd1 hU12 (by omega)
     replace HU := HU.trans1 hU12 (by show (False) ∨ w.heap.size ≤ (D10 + 1); omega)
     replace HB10 := HB10.trans1 hU12 (by show ((D10 + 1) = B6 ∨ w10.heap.size ≤ (D10 + 1) ∨ (D10 + 1) = D10 + 1) ∨ w11.heap.size ≤ (D10 + 1); omega)
     clear hrc10
     have hrc10 := hrc10b
     clear hrc10b
     refine W_block ?_
     refine W_drawt rfl (l0 := tf 0 15) (by kernel_rfl) ?_
     refine Tk 0 (tf 1 15) rfl (YI_v (v := .func (.func 34) #[] #[.pointer (some ⟨B6, 0, none⟩)]) rfl (fun w' hw' => r_load Try.isAgg63 rfl (by rw [(hb7.upd0 hw').cell]; rfl))) ?_
     refine Tk 1 (tf 2 15) rfl (YI_v (v := .slice a3 n c3) rfl (fun w' hw' => r_load Try.isAgg53 rfl (by rw [(hb4.upd0 hw').cell]; rfl))) ?_
     refine Tk 2 (tf 3 15) rfl (YI_v (v := .int .u8 (b.getD (((m : Nat) : Int) - 1 - ((i11 : Nat) : Int)).toNat 0)) rfl (fun w' hw' => r_mv (v := .int .u8 (b.getD (((m : Nat) : Int) - 1 - ((i11 : Nat) : Int)).toNat 0)) rfl)) ?_
     obtain ⟨ib13, io13, ha13, hib13, hc13⟩ := Sl.rat (0, 0) encC_len (by decide) (hO3.sl) (i := (b.getD (((m : Nat) : Int) - 1 - ((i11 : Nat) : Int)).toNat 0).toNat) (by omega)
     refine Tk 3 (tf 4 15) rfl (YI_v (v := .pointer (some ⟨ib13, io13 + ((b.getD (((m : Nat) : Int) - 1 - ((i11 : Nat) : Int)).toNat 0).toNat) * 2, none⟩)) rfl (fun w' hw' => r_idx (b := ib13) (off := io13) (m := n) (c := c3) (o' := io13 + ((b.getD (((m : Nat) : Int) - 1 - ((i11 : Nat) : Int)).toNat 0).toNat) * 2) Try.underlying53 Try.sizeOf67 (by rw [← ha13]; rfl) rfl (by omega) (by omega) (by omega))) ?_
     refine Tk 4 (tf 5 15) rfl (YI_v (v := .pointer (some ⟨ib13, io13 + ((b.getD (((m : Nat) : Int) - 1 - ((i11 : Nat) : Int)).toNat 0).toNat) * 2 + 1, none⟩)) rfl (fun w' hw' => r_fld Try.underlying67 rfl Try.sizeOf65 rfl rfl)) ?_
     refine Tk 5 (tf 6 15) rfl (YI_v (v := .int .u32 (((cds l).getD (b.getD (((m : Nat) : Int) - 1 - ((i11 : Nat) : Int)).toNat 0).toNat (0, 0)).2)) rfl (fun w' hw' => r_load (v := .int .u32 (((cds l).getD (b.getD (((m : Nat) : Int) - 1 - ((i11 : Nat) : Int)).toNat 0).toNat (0, 0)).2)) Try.isAgg65 rfl (hw'.cellk (hc13 1 (by decide))))) ?_
     refine Tk 6 (tf 7 15) rfl (YI_v (v := .int .u64 (((cds l).getD (b.getD (((m : Nat) : Int) - 1 - ((i11 : Nat) : Int)).toNat 0).toNat (0, 0)).2)) rfl (fun w' hw' => r_cvt Try.underlying65 Try.underlying55 rfl (wu64 (by omega) (by omega)))) ?_
     rw [show (((cds l).getD (b.getD (((m : Nat) : Int) - 1 - ((i11 : Nat) : Int)).toNat 0).toNat (0, 0)).2 : Int) = ((x9 : Nat) : Int) from hx9]
     refine Tk 7 (tf 8 15) rfl (YI_v (v := .slice a3 n c3) rfl (fun w' hw' => r_load Try.isAgg53 rfl (by rw [(hb4.upd0 hw').cell]; rfl))) ?_
     refine Tk 8 (tf 9 15) rfl (YI_v (v := .int .u8 (b.getD (((m : Nat) : Int) - 1 - ((i11 : Nat) : Int)).toNat 0)) rfl (fun w' hw' => r_mv (v := .int .u8 (b.getD (((m : Nat) : Int) - 1 - ((i11 : Nat) : Int)).toNat 0)) rfl)) ?_
     obtain ⟨ib14, io14, ha14, hib14, hc14⟩ := Sl.rat (0, 0) encC_len (by decide) (hO3.sl) (i := (b.getD (((m : Nat) : Int) - 1 - ((i11 : Nat) : Int)).toNat 0).toNat) (by omega)
     refine Tk 9 (tf 10 15) rfl (YI_v (v := .pointer (some ⟨ib14, io14 + ((b.getD (((m : Nat) : Int) - 1 - ((i11 : Nat) : Int)).toNat 0).toNat) * 2, none⟩)) rfl (fun w' hw' => r_idx (b := ib14) (off := io14) (m := n) (c := c3) (o' := io14 + ((b.getD (((m : Nat) : Int) - 1 - ((i11 : Nat) : Int)).toNat 0).toNat) * 2) Try.underlying53 Try.sizeOf67 (by rw [← ha14]; rfl) rfl (by omega) (by omega) (by omega))) ?_
     refine Tk 10 (tf 11 15) rfl (YI_v (v := .pointer (some ⟨ib14, io14 + ((b.getD (((m : Nat) : Int) - 1 - ((i11 : Nat) : Int)).toNat 0).toNat) * 2, none⟩)) rfl (fun w' hw' => r_fld Try.underlying67 rfl Try.sizeOf3 rfl rfl)) ?_
     refine Tk 11 (tf 12 15) rfl (YI_v (v := .int .i64 (((cds l).getD (b.getD (((m : Nat) : Int) - 1 - ((i11 : Nat) : Int)).toNat 0).toNat (0, 0)).1)) rfl (fun w' hw' => r_load (v := .int .i64 (((cds l).getD (b.getD (((m : Nat) : Int) - 1 - ((i11 : Nat) : Int)).toNat 0).toNat (0, 0)).1)) Try.isAgg3 rfl (hw'.cellk (hc14 0 (by decide))))) ?_
     refine Tk 12 (tf 13 15) rfl (YI_v (v := .int .u64 (((cds l).getD (b.getD (((m : Nat) : Int) - 1 - ((i11 : Nat) : Int)).toNat 0).toNat (0, 0)).1)) rfl (fun w' hw' => r_cvt Try.underlying3 Try.underlying55 rfl (wu64 (by omega) (by omega)))) ?_
     rw [show (((cds l).getD (b.getD (((m : Nat) : Int) - 1 - ((i11 : Nat) : Int)).toNat 0).toNat (0, 0)).1 : Int) = ((k9 : Nat) : Int) from hk9]
     refine Tk 13 (tf 14 15) rfl (YI_v (v := .agg #[.int .u64 ((x9 : Nat) : Int), .int .u64 ((k9 : Nat) : Int)]) rfl (fun w' hw' => r_builda (pv := [(0, .int .u64 ((x9 : Nat) : Int)), (1, .int .u64 ((k9 : Nat) : Int))]) (cs := #[.int .u64 ((x9 : Nat) : Int), .int .u64 ((k9 : Nat) : Int)]) Try.zeroValue60 Try.underlying60 Try.sizeOf55 (by simp only [List.map_toArray, List.map_cons, List.map_nil] <;> rfl) (by kernel_rfl))) ?_
     intro w15 hU15
     have hzw15 := hU15.size
     replace hrc10 := hrc10.upd0 hU15
     replace hdf10 := hdf10.upd0 hU15
     replace hW0 := hW0.upd0 hU15
     replace hs := hs.upd0 hU15
     replace hsb := hsb.upd0 hU15
     replace hb1 := hb1.upd0 hU15
     replace hb2 := hb2.upd0 hU15
     replace hO3 := hO3.upd0 hU15
     replace hb4 := hb4.upd0 hU15
     replace hb7 := hb7.upd0 hU15
     replace hBo9 := hBo9.upd0 hU15
     replace HU := HU.trans0 hU15
     replace HB10 := HB10.trans0 hU15
     refine Wa_one (i := 14) (listed' := tf 15 15) (by kernel_rfl) rfl (by kernel_rfl) ?_
     refine Ws_of_Wl ?_
     have hW : Upd No w12 w15 := hU15
     refine Wl_call (r_clos1 Try.call34 rfl rfl (by first | (simp; done) | (simp; rfl))) (eput_spec (V := eV l (b.drop (m - i11))) (L := eL l (b.drop (m - i11))) _ hW0 hVd hbl2.1 (by omega)) ?_
     rintro v w16 ⟨rfl, hW216, hU16⟩
     have hzw16 := hU16.size
     replace hrc10 := hrc10.upd hU16 (by intro hx; have hx2 : (D10 + 1) = B6 ∨ w10.heap.size ≤ (D10 + 1) := hx; omega)
     replace hdf10 := hdf10.upd hU16 (by intro hx; have hx2 : D10 = B6 ∨ w10.heap.size ≤ D10 := hx; omega)
     replace hs := hs.upd hU16 (by intro x h1 h2; have h3 : ((R x) ∧ x < w.heap.size) := h1; have h4 : x = B6 ∨ w10.heap.size ≤ x := h2; omega)
     replace hsb := hsb.upd hU16 (by intro x h1 h2; have h3 : x < w.heap.size := h1; have h4 : x = B6 ∨ w10.heap.size ≤ x := h2; omega)
     replace hb1 := hb1.upd hU16 (by intro hx; have hx2 : B1 = B6 ∨ w10.heap.size ≤ B1 := hx; omega)
     replace hb2 := hb2.upd hU16 (by intro hx; have hx2 : B2 = B6 ∨ w10.heap.size ≤ B2 := hx; omega)
     replace hO3 := hO3.upd hU16 (by intro x h1 h2; have h3 : ((w2.heap.size ≤ x) ∧ x < w3.heap.size) := h1; have h4 : x = B6 ∨ w10.heap.size ≤ x := h2; omega)
     replace hb4 := hb4.upd hU16 (by intro hx; have hx2 : B4 = B6 ∨ w10.heap.size ≤ B4 := hx; omega)
     replace hb7 := hb7.upd hU16 (by intro hx; have hx2 : B7 = B6 ∨ w10.heap.size ≤ B7 := hx; omega)
     replace hBo9 := hBo9.upd hU16 (by intro hx; have hx2 : Bo9 = B6 ∨ w10.heap.size ≤ Bo9 := hx; omega)
     replace HU := HU.trans hU16 (by intro x hx; have hx2 : x = B6 ∨ w10.heap.size ≤ x := hx; show (False) ∨ w.heap.size ≤ x; omega)
     replace HB10 := HB10.trans hU16 (by intro x hx; have hx2 : x = B6 ∨ w10.heap.size ≤ x := hx; show (x = B6 ∨ w10.heap.size ≤ x ∨ x = D10 + 1) ∨ w11.heap.size ≤ x; omega)
     refine Wl_nil ?_
     intro w17 hS17
     refine ⟨fun h => absurd h (by rw [show barOp _ 14 = true from by kernel_rfl]; simp), fun _ => ⟨Upd No w17, ?_⟩⟩
     have hU17 := hS17.upd
     have hzw17 := hU17.size
     replace hrc10 := hrc10.upd0 hU17
     replace hdf10 := hdf10.upd0 hU17
     replace hs := hs.upd0 hU17
     replace hsb := hsb.upd0 hU17
     replace hb1 := hb1.upd0 hU17
     replace hb2 := hb2.upd0 hU17
     replace hO3 := hO3.upd0 hU17
     replace hb4 := hb4.upd0 hU17
     replace hb7 := hb7.upd0 hU17
     replace hBo9 := hBo9.upd0 hU17
     replace HU := HU.trans0 hU17
     replace HB10 := HB10.trans0 hU17
     replace hW216 := hW216.upd0 hU17
     try replace hW := hW.trans0 hU17
     refine Wa_done (by kernel_rfl) ?_
     refine ⟨rfl, _, hrc10, ?_⟩
     intro w18 hU18 hzz18 hrz
     have hzw18 := hU18.size
     replace hdf10 := hdf10.upd1 hU18 (by omega)
     replace hs := hs.upd1 hU18 (by intro h1; have h3 : ((R (D10 + 1)) ∧ (D10 + 1) < w.heap.size) := h1; omega)
     replace hsb := hsb.upd1 hU18 (by intro h1; have h3 : (D10 + 1) < w.heap.size := h1; omega)
     replace hb1 := hb1.upd1 hU18 (by omega)
     replace hb2 := hb2.upd1 hU18 (by omega)
     replace hO3 := hO3.upd1 hU18 (by intro h1; have h3 : ((w2.heap.size ≤ (D10 + 1)) ∧ (D10 + 1) < w3.heap.size) := h1; omega)
     replace hb4 := hb4.upd1 hU18 (by omega)
     replace hb7 := hb7.upd1 hU18 (by omega)
     replace hBo9 := hBo9.upd1 hU18 (by omega)
     replace HU := HU.trans1 hU18 (by show (False) ∨ w.heap.size ≤ (D10 + 1); omega)
     replace HB10 := HB10.trans1 hU18 (by show ((D10 + 1) = B6 ∨ w10.heap.size ≤ (D10 + 1) ∨ (D10 + 1) = D10 + 1) ∨ w11.heap.size ≤ (D10 + 1); omega)
     replace hW216 := hW216.upd1 hU18 (by omega)
     exact Or.inl ⟨rfl, HB10, (hJ10 _ _).2 ⟨(by rw [hr10]; rw [hr10] at hrz; exact hrz), hdf10, (hW216.cong hes.1 hes.2), hs, hsb, hb1, hb2, hO3, hb4, hb7, hBo9, HU⟩⟩
    ·rintro b c w9 (⟨rfl, h1, h2⟩ | ⟨rfl, h1⟩)
     ·exact Or.inl ⟨rfl, h1, h2⟩
     ·exact Or.inr ⟨rfl, h1⟩
   rintro e w19 ⟨v, rfl, hh | hh⟩
   ·obtain ⟨hrc10, hdf10, hW0, hs, hsb, hb1, hb2, hO3, hb4, hb7, hBo9, HU⟩ := (hJ10 _ _).1 hh
    have hrl10 := hrc10.lt
    refine ⟨r10, hrc10, (by rw [hr10]; simp), ?_⟩
    intro w20 hU20 hzz20
    have hzw20 := hU20.size
    replace hdf10 := hdf10.upd1 hU20 (by omega)
    replace hW0 := hW0.upd1 hU20 (by omega)
    replace hb1 := hb1.upd1 hU20 (by omega)
    replace hb2 := hb2.upd1 hU20 (by omega)
    replace HU := HU.trans1 hU20 (by show (False) ∨ w.heap.size ≤ (D10 + 1); omega)
    rw [hr10]
    replace hW0 := hW0.cong (V' := eV l b) (L' := eL l b) (by rw [Nat.sub_self, List.drop_zero]) (by rw [Nat.sub_self, List.drop_zero])
    have hVd := eV_lt hr hHs
    have hLd := eL_le hr b
    have hWl := hW0.lt
    refine W_seq ?_
    refine W_region ?_
    refine Wl_call (r_call1 rfl Try.call38 rfl) (wclose (V := eV l b) (L := eL l b) _ hW0 hVd (by omega)) ?_
    rintro v w21 ⟨a21, c21, rfl, hO21, hU21⟩
    have hzw21 := hU21.size
    replace hdf10 := hdf10.upd0 hU21
    replace hb1 := hb1.upd0 hU21
    replace hb2 := hb2.upd0 hU21
    replace HU := HU.trans0 hU21
    replace hO21 := hO21.tight
    have hl_hO21 := ilen hO21.sl
    have hc_hO21 := hO21.sl.cap.1
    refine Wl_store (v := .slice a21 ((eL l b) / 8 + 1) c21) (cs' := [.slice a21 ((eL l b) / 8 + 1) c21]) Try.sizeOf23 rfl rfl rfl rfl hb1 rfl rfl ?_
    intro w22 hU22 hzz22 hb1n
    replace hb1 := hb1n; clear hb1n
    have hzw22 := hU22.size
    replace hdf10 := hdf10.upd1 hU22 (by omega)
    replace hb2 := hb2.upd1 hU22 (by omega)
    replace HU := HU.trans1 hU22 (by show (False) ∨ w.heap.size ≤ B1; omega)
    replace hO21 := hO21.upd1 hU22 (by intro h1; have h3 : ((w20.heap.size ≤ B1) ∧ B1 < w21.heap.size) := h1; omega)
    refine Wl_store (v := .int .i64 0) (cs' := [.int .i64 0]) Try.sizeOf25 rfl rfl rfl rfl hb2 rfl rfl ?_
    intro w23 hU23 hzz23 hb2n
    replace hb2 := hb2n; clear hb2n
    have hzw23 := hU23.size
    replace hdf10 := hdf10.upd1 hU23 (by omega)
    replace hb1 := hb1.upd1 hU23 (by omega)
    replace HU := HU.trans1 hU23 (by show (False) ∨ w.heap.size ≤ B2; omega)
    replace hO21 := hO21.upd1 hU23 (by intro h1; have h3 : ((w20.heap.size ≤ B2) ∧ B2 < w21.heap.size) := h1; omega)
    refine Wl_nil ?_
    refine W_ret ?_
    refine ret_ds rfl ?_
    refine lv_mark (by simp) hdf10 ?_
    intro w24 hU24 hzz24
    have hzw24 := hU24.size
    replace hb1 := hb1.upd1 hU24 (by omega)
    replace hb2 := hb2.upd1 hU24 (by omega)
    replace HU := HU.trans1 hU24 (by show (False) ∨ w.heap.size ≤ D10; omega)
    replace hO21 := hO21.upd1 hU24 (by intro h1; have h3 : ((w20.heap.size ≤ D10) ∧ D10 < w21.heap.size) := h1; omega)
    refine lv_call (by simp) Try.call31 rfl (ocaught_ret _) ?_
    rintro e1 u1 w25 ⟨rfl, v1, rfl, rfl, hU25⟩
    have hzw25 := hU25.size
    replace hb1 := hb1.upd0 hU25
    replace hb2 := hb2.upd0 hU25
    replace HU := HU.trans0 hU25
    replace hO21 := hO21.upd0 hU25
    refine lv_nil (v := .tuple #[.slice a21 ((eL l b) / 8 + 1) c21, .int .i64 0]) (rc2 Try.results12 rfl rfl (cellIs Try.isAgg23 hb1) (cellIs Try.isAgg25 hb2)) ?_
    have hF : ecF l b = (out l b, 0) := by rw [ecF, if_neg (fun h => h q1), if_neg (fun h => h q2)]
    exact ⟨_, rfl, a21, (eL l b) / 8 + 1, c21, (vtup2 rfl (vint (by rw [hF]))), (by rw [hF]; exact (hO21.weak (by intro g hg; have h3 : ((w20.heap.size ≤ g) ∧ g < w21.heap.size) := hg; show w.heap.size ≤ g; omega))), HU⟩
   ·exact ((hJx10 _).1 hh).elim
  ·refine Wl_callp (r_call2 rfl Try.call33 rfl rfl) (ocod_arg _ hs (by omega) hsb.any hb (by omega) q1 q2) ?_
   intro w26 hU26
   have hzw26 := hU26.size
   replace HU := HU.trans0 hU26
   replace hb1 := hb1.upd0 hU26
   replace hb2 := hb2.upd0 hU26
   refine pan_ds rfl ?_
   refine lv_call (by simp) Try.call31 rfl (ocaught_pan (S := fun g => g = B1) (Φ := fun w' => Blk w' B1 [.slice none 0 0]) _ hb2 Try.call32 (by show ¬ (B2 = B1); first | omega | exact fun h => h) (oenc_clr _ hb1)) ?_
   rintro e1 u1 w27 ⟨rfl, v1, rfl, rfl, wq27, hz27_0, hUa27, hUb27, hbe27⟩
   have hzwq27 := hUa27.size
   replace HU := HU.trans hUa27 (by intro x hx; have hx2 : x = B1 := hx; show (False) ∨ w.heap.size ≤ x; omega)
   have hzw27 := hUb27.size
   replace HU := HU.trans1 hUb27 (by show (False) ∨ w.heap.size ≤ B2; omega)
   replace hz27_0 := hz27_0.upd1 hUb27 (by omega)
   refine lv_nil (v := .tuple #[.slice none 0 0, .int .i64 2]) (rc2 Try.results12 rfl rfl (cellIs Try.isAgg23 hz27_0) (cellIs Try.isAgg25 hbe27)) ?_
   have hF : ecF l b = ([], 2) := by rw [ecF, if_neg (fun h => h q1), if_pos q2]
   exact ⟨_, rfl, none, 0, 0, (vtup2 rfl (vint (by rw [hF]))), (by rw [hF]; exact (Own.nil _ _ 5 1)), HU⟩
 ·refine Wl_callp (r_call2 rfl Try.call33 rfl rfl) (ocod_tree _ hs (by omega) hsb.any hb (by omega) q1) ?_
  intro w28 hU28
  have hzw28 := hU28.size
  replace HU := HU.trans0 hU28
  replace hb1 := hb1.upd0 hU28
  replace hb2 := hb2.upd0 hU28
  refine pan_ds rfl ?_
  refine lv_call (by simp) Try.call31 rfl (ocaught_pan (S := fun g => g = B1) (Φ := fun w' => Blk w' B1 [.slice none 0 0]) _ hb2 Try.call32 (by show ¬ (B2 = B1); first | omega | exact fun h => h) (oenc_clr _ hb1)) ?_
  rintro e1 u1 w29 ⟨rfl, v1, rfl, rfl, wq29, hz29_0, hUa29, hUb29, hbe29⟩
  have hzwq29 := hUa29.size
  replace HU := HU.trans hUa29 (by intro x hx; have hx2 : x = B1 := hx; show (False) ∨ w.heap.size ≤ x; omega)
  have hzw29 := hUb29.size
  replace HU := HU.trans1 hUb29 (by show (False) ∨ w.heap.size ≤ B2; omega)
  replace hz29_0 := hz29_0.upd1 hUb29 (by omega)
  refine lv_nil (v := .tuple #[.slice none 0 0, .int .i64 12]) (rc2 Try.results12 rfl rfl (cellIs Try.isAgg23 hz29_0) (cellIs Try.isAgg25 hbe29)) ?_
  have hF : ecF l b = ([], 12) := by rw [ecF, if_pos q1]
  exact ⟨_, rfl, none, 0, 0, (vtup2 rfl (vint (by rw [hF]))), (by rw [hF]; exact (Own.nil _ _ 5 1)), HU⟩

end Go.Proofs.Ytilegaokfamfnaa
