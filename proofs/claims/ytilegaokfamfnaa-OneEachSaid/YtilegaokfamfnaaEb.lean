/-
  Layer 15: how many entries a code word has; two symbols at once.
-/
import Derived.Test.YtilegaokfamfnaaEa
set_option linter.unusedVariables false
namespace Go.Proofs.Ytilegaokfamfnaa
open Go.Fw

def cntE (xs : List (Int × Int)) (s : Nat) : Int := ((xs.filter fun x => decide (x.1 = (s : Int))).length : Int)
theorem cntE_app (xs ys : List (Int × Int)) (s : Nat) : cntE (xs ++ ys) s = cntE xs s + cntE ys s := by simp [cntE]
theorem cntE_rep (m : Nat) (x : Int × Int) (s : Nat) : cntE (List.replicate m x) s = if x.1 = (s : Int) then (m : Int) else 0 := by
  unfold cntE
  by_cases h : x.1 = (s : Int)
  · rw [if_pos h, List.filter_replicate, if_pos (by simpa using h)]; simp
  · rw [if_neg h, List.filter_replicate, if_neg (by simpa using h)]; simp
theorem tabn_succ {α : Type} (k : Nat) (f : Nat → α) : tabn (k + 1) f = tabn k f ++ [f k] := by simp [tabn, List.range_succ]
theorem cntE_nonneg (xs : List (Int × Int)) (s : Nat) : 0 ≤ cntE xs s := by unfold cntE; omega
theorem cntE_le (xs : List (Int × Int)) (s : Nat) : cntE xs s ≤ xs.length := by
  have := List.length_filter_le (fun x : Int × Int => decide (x.1 = (s : Int))) xs
  unfold cntE; omega
theorem cntE_step (l : List Int) (i s : Nat) : cntE (tabn (i + 1) (ent l)) s = cntE (tabn i (ent l)) s + if (ent l i).1 = (s : Int) then 1 else 0 := by
  rw [tabn_succ, cntE_app]
  congr 1
  have := cntE_rep 1 (ent l i) s
  simpa using this
/-- the counts after i entries -/
def cl (l : List Int) (i : Nat) : List Int := tabn l.length fun s => cntE (tabn i (ent l)) s
theorem cl_len (l : List Int) (i : Nat) : (cl l i).length = l.length := tabn_len _ _
theorem cl_get {l : List Int} {i s : Nat} (h : s < l.length) : (cl l i).getD s 0 = cntE (tabn i (ent l)) s := tabn_get _ _ h
theorem cl_zero (l : List Int) : cl l 0 = List.replicate l.length 0 := by
  rw [tabn_rep]; exact tabn_congr fun i _ => by simp [cntE, tabn]
theorem cl_step {l : List Int} {i j : Nat} (hj : j < l.length) (he : (ent l i).1 = (j : Int)) : (cl l i).set j ((cl l i).getD j 0 + 1) = cl l (i + 1) := by
  refine tabn_set _ _ hj _ fun s hs => ?_
  rw [cl_get hj, cntE_step, he]
  by_cases h : s = j
  · rw [if_pos h, h, if_pos rfl]
  · rw [if_neg h, if_neg (by omega), Int.add_zero]
theorem ord_inj2 {l : List Int} (hr : Rt l) {a b : Nat} (hab : a < b) (hb : b < (ord l).length) : (ord l).getD a 0 ≠ (ord l).getD b 0 := by
  intro e
  obtain ⟨j, hj, hjl, h0, _⟩ := ord_at (l := l) (i := b) hb
  have hja : (ord l).getD a 0 = (j : Int) := by rw [e, hj]
  have hp : pos l b < pos l (b + 1) := by have := pos_succ hb hj; have := kw_pos h0; omega
  have h1 := (beg_iff hb hj h0 (b := pos l b)).2 ⟨Int.le_refl _, hp⟩
  have h2 := (beg_iff (Nat.lt_trans hab hb) hja h0 (b := pos l b)).1 h1
  have h3 := pos_mono (l := l) (a := a + 1) (b := b) (by omega)
  omega
theorem cnt_os {l : List Int} (hr : Rt l) (s : Nat) : ∀ k, k ≤ (ord l).length → cntE (fl (bt l) ((os l).take k)) s = if (s : Int) ∈ (ord l).take k then ((2 ^ ((bt l : Int) - l.getD s 0).toNat : Nat) : Int) else 0
  | 0, _ => by simp [fl, cntE]
  | k + 1, hk => by
    have ih := cnt_os hr s k (by omega)
    obtain ⟨j, hj, hjl, h0, _⟩ := ord_at (l := l) (i := k) (by omega)
    have ht : (ord l).take (k + 1) = (ord l).take k ++ [(j : Int)] := by
      rw [List.take_add_one, List.getElem?_eq_getElem (by omega)]
      rw [List.getD_eq_getElem?_getD, List.getElem?_eq_getElem (by omega)] at hj
      simp only [Option.getD_some] at hj
      rw [hj]; rfl
    rw [os_at hr (by omega) hj hjl, fl_app, fl_one, cntE_app, cntE_rep, ih, ht]
    by_cases h : (j : Int) = (s : Int)
    · have hjs : j = s := by omega
      subst hjs
      have hno : ¬ (j : Int) ∈ (ord l).take k := by
        intro hm
        obtain ⟨a, ha, e⟩ := List.mem_iff_getElem.1 hm
        rw [List.length_take] at ha
        rw [List.getElem_take] at e
        refine ord_inj2 hr (a := a) (b := k) (by omega) (by omega) ?_
        rw [hj, List.getD_eq_getElem?_getD, List.getElem?_eq_getElem (by omega)]
        exact e
      rw [if_neg hno, if_pos rfl, if_pos (by simp)]
      simp
    · rw [if_neg h, Int.add_zero]
      by_cases hm : (s : Int) ∈ (ord l).take k
      · rw [if_pos hm, if_pos (List.mem_append_left _ hm)]
      · rw [if_neg hm, if_neg (by simp [hm]; omega)]
theorem cl_fin {l : List Int} (hr : Rt l) {s : Nat} (hs : s < l.length) : (cl l (2 ^ bt l)).getD s 0 = if 0 < l.getD s 0 then ((2 ^ ((bt l : Int) - l.getD s 0).toNat : Nat) : Int) else 0 := by
  have h := cnt_os hr s (ord l).length (Nat.le_refl _)
  rw [List.take_of_length_le (by rw [os_len]; omega), List.take_of_length_le (Nat.le_refl _), fl_tbl hr] at h
  rw [cl_get hs]
  show cntE (tbl l) s = _
  rw [h]
  by_cases c : 0 < l.getD s 0
  · rw [if_pos c, if_pos ((ord_mem hr.1 hs).2 c)]
  · rw [if_neg c, if_neg (fun e => c ((ord_mem hr.1 hs).1 e))]
theorem ent_mid {l : List Int} (hr : Rt l) {t m i : Nat} (h1 : t ≤ m) (h2 : m ≤ i) (hi : i < 2 ^ bt l) (he : (ent l t).1 = (ent l i).1) : ent l m = ent l i := by
  have hp := p2_nat (bt l)
  have hu := p2_pos (11 - bt l)
  rw [ent_sel hr (by omega), ent_sel hr (by omega)] at he
  simp only [Int.natCast_inj] at he
  have wt := win_in hr (Int.natCast_nonneg t) (by omega)
  have wi := win_in hr (Int.natCast_nonneg i) (by omega)
  have wm := win_in hr (Int.natCast_nonneg m) (by omega)
  have bt_ := sel_beg hr wt.1 wt.2
  have bi := sel_beg hr wi.1 wi.2
  rw [he] at bt_
  obtain ⟨k, hk, hkj⟩ := ord_idx hr.1 bi.1 bi.2.1
  have q1 := (beg_iff hk hkj bi.2.1).1 bt_.2.2
  have q2 := (beg_iff hk hkj bi.2.1).1 bi.2.2
  have le1 : (t : Int) * p2 (11 - bt l) ≤ (m : Int) * p2 (11 - bt l) := Int.mul_le_mul_of_nonneg_right (by omega) (by omega)
  have le2 : (m : Int) * p2 (11 - bt l) ≤ (i : Int) * p2 (11 - bt l) := Int.mul_le_mul_of_nonneg_right (by omega) (by omega)
  have bm : Beg l ((m : Int) * p2 (11 - bt l)) (sel l ((i : Int) * p2 (11 - bt l))) := ⟨bi.1, bi.2.1, (beg_iff hk hkj bi.2.1).2 ⟨by omega, by omega⟩⟩
  rw [ent_sel hr (by omega), ent_sel hr (by omega), sel_eq hr wm.1 wm.2 bm]
theorem ent_prev {l : List Int} (hr : Rt l) {i s : Nat} (h0 : 0 < i) (hi : i < 2 ^ bt l) (hs : s < l.length) (he : (ent l i).1 = (s : Int)) (hc : 0 < (cl l i).getD s 0) : ent l (i - 1) = ent l i := by
  rw [cl_get hs] at hc
  have hne : ((tabn i (ent l)).filter fun x => decide (x.1 = (s : Int))) ≠ [] := by
    intro e; unfold cntE at hc; rw [e] at hc; simp at hc
  obtain ⟨x, hx⟩ := List.exists_mem_of_ne_nil _ hne
  rw [List.mem_filter] at hx
  obtain ⟨hx1, hx2⟩ := hx
  simp only [tabn, List.mem_map, List.mem_range] at hx1
  obtain ⟨t, ht, rfl⟩ := hx1
  exact ent_mid hr (t := t) (by omega) (by omega) hi (by rw [he]; simpa using hx2)
theorem two_dec {l : List Int} (hr : Rt l) {q : Nat} (hq : q < 2 ^ bt l) {u : Int} (hu : u = (dec l ((q : Nat) : Int) ((bt l : Nat) : Int)).2.1) {D : Int × Int × Int} (hD : D = dec l (((q : Nat) : Int) % ((2 ^ (((bt l : Nat) : Int) - u).toNat : Nat) : Int)) (((bt l : Nat) : Int) - u)) :
    two l q = if D.2.2 ≠ 0 then (1, (dec l ((q : Nat) : Int) ((bt l : Nat) : Int)).1, 0, u) else (2, (dec l ((q : Nat) : Int) ((bt l : Nat) : Int)).1, D.1, u + D.2.1) := by
  have he : ent l q = ((dec l ((q : Nat) : Int) ((bt l : Nat) : Int)).1, u) := by rw [hu]; rfl
  obtain ⟨j, e, h2, h3, h4⟩ := ent_bd hr (i := q) (by have := p2_nat (bt l); omega)
  have h5 : u = l.getD j 0 := by have := congrArg Prod.snd (he.symm.trans e); exact this
  unfold two
  rw [he, hD]
  dsimp only
  rw [show p2 (bt l - u.toNat) = ((2 ^ (((bt l : Nat) : Int) - u).toNat : Nat) : Int) from by rw [p2_nat]; congr 1; omega]
theorem dec_top {l : List Int} (hr : Rt l) {q : Nat} (hq : q < 2 ^ bt l) : (dec l ((q : Nat) : Int) ((bt l : Nat) : Int)).2.2 = 0 ∧ 1 ≤ (dec l ((q : Nat) : Int) ((bt l : Nat) : Int)).2.1 ∧ (dec l ((q : Nat) : Int) ((bt l : Nat) : Int)).2.1 ≤ bt l := by
  have hp := p2_nat (bt l)
  obtain ⟨j, e, h2, h3, h4⟩ := ent_bd hr (i := q) (by omega)
  have h5 : (dec l ((q : Nat) : Int) ((bt l : Nat) : Int)).2.1 = l.getD j 0 := congrArg Prod.snd e
  rw [h5]
  exact ⟨by rw [dec_bt hr (by omega)], h3, h4⟩
end Go.Proofs.Ytilegaokfamfnaa
