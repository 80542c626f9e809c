/-
  A law's contract out of its walk: what an argument reads as, and that it reads so behind the call. Generic in the program.
-/
import Derived.Test.YtilegaokfamfnaaFi
import Derived.ProofKit
import Derived.OpenShut
import Derived.JoinedOf
import Derived.JoinedCond
import Derived.SizedLaws
import Derived.Deep.CondSized
import Derived.Carry
namespace Go.Fw
open Go.ChangeShapes Go.WideShapes Go.ChangeAt Go.RowKit

section
variable {H : Type} {enc : TypeId × Value → H} {P : Program}

theorem trodAll_keep (hl : laidOutB P = true) {W W' : World} {sp : Nat → Bool} (hb : RowKit.Below W.heap.size W W') : ∀ {ts : List TypeId} {vs : List Value} {ds : List (DataW H)} {ps : List MemPlace},
    (ts.all fun t => P.readableRec t && decide (t < P.types.size)) = true → DataW.TrodAll enc P W 0 (fun _ => true) true ts vs ds ps → (∀ p ∈ ps, p.block < W.heap.size) → (∀ p ∈ ps, sp p.block = true) →
    DataW.TrodAll enc P W' 0 sp true ts vs ds ps
  | [], vs, ds, ps, _, h, _, _ => by
    obtain ⟨rfl, rfl, rfl⟩ := trodAll_nil h
    exact trodAll_mk0
  | t :: ts, vs, ds, ps, hr, h, hlt, hs => by
    obtain ⟨v, vs1, d, ds1, p, q, rfl, rfl, rfl, h1, h2⟩ := trodAll_cons h
    simp only [List.all_cons, Bool.and_eq_true, decide_eq_true_eq] at hr
    refine trodAll_cons_mk (WideElems.Trod_stays hl hr.1.1 hr.1.2 h1 (fun x hx => hb.same (hlt x (by simp [hx]))) (fun x hx => hs x (by simp [hx]))) ?_
    exact trodAll_keep hl hb (by simpa using hr.2) h2 (fun x hx => hlt x (by simp [hx])) (fun x hx => hs x (by simp [hx]))

/-- a law's post: it returns true, and nothing that existed has turned -/
theorem law_post {f : Func} {s : ChangeSpec} {apart fresh handsOn again : Bool} {W W' : World} {args : Array Value} {ds gs : List (DataW H)} {before : List MemPlace} {tb : TypeId}
    (hl : laidOutB P = true) (hr : (f.params.toList.all fun t => P.readableRec t && decide (t < P.types.size)) = true) (hrt : f.resultTypes = #[tb]) (htb : P.underlying tb = some .bool)
    (hv : s.vars = []) (hW : DataW.Whole enc P f.params.toList s.vars apart W args.toList ds gs before) (hs : s.fn H (ds ++ gs) = { results := [.lit (.bool true)], args := ds }) (hb : Upd No W W') :
    s.post enc P f apart fresh handsOn again W args (.bool true) W' := by
  have hB := hb.below
  have hlt : ∀ p ∈ before, p.block < W.heap.size := fun p hp => hW.lt p hp
  have hold : ∀ p ∈ before, (fun b => decide (b < W.heap.size)) p.block = true := fun p hp => by simpa using hlt p hp
  obtain ⟨p, q, hA, hV, rfl, hz, hn⟩ := id hW
  rw [hv] at hV
  obtain ⟨rfl, rfl⟩ := trodVars_none hV
  rw [List.append_nil] at hlt hold hz hn
  have hargs : ∀ sp : Nat → Bool, (∀ x ∈ p, sp x.block = true) → DataW.TrodAll enc P W' 0 sp true f.params.toList args.toList (s.fn H (ds ++ [])).args p := fun sp hsp => by
    rw [hs]; exact trodAll_keep hl hB hr hA hlt hsp
  have hres : ∀ (b : Nat) (sp : Nat → Bool) (hd : Bool), DataW.TrodAll enc P W' b sp hd f.resultTypes.toList ((Value.bool true).resultList f.resultTypes.size) (s.fn H (ds ++ [])).results [] := fun b sp hd => by
    rw [hs, hrt]; exact trodAll_cons_mk (shut_bool htb _) trodAll_mk0
  have hvars : ∀ sp : Nat → Bool, DataW.TrodVars enc P W' sp s.vars (s.fn H (ds ++ [])).vars [] := fun sp => by rw [hs, hv]; rfl
  refine ⟨ds, [], p ++ [], [], p, [], hW, hres _ _ _, hargs _ hold, hvars _, World.keptBut_mono (fun x hx => ⟨by simpa using hx, Or.inr (Or.inl hx)⟩) (hB.frame (· ∈ p)), fun _ => ?_⟩
  refine ⟨ok_one hrt rfl (okWide_bool_mk htb _), _, _, ([] ++ p) ++ [], ⟨[] ++ p, [], trodAll_append (hargs _ (fun _ _ => rfl)) (hres _ _ _), hvars _, rfl, ?_, ?_⟩, ?_⟩
  · intro b off hp
    have hin : MemPlace.cell b off ∈ p := by simpa using hp
    rw [hB.frozen (hlt _ hin)]
    exact hz b off hin
  · intro ha
    simpa using hn ha
  · intro x hx _
    simpa using hx

/-! ### arguments -/
theorem sl_of_trod {t e : TypeId} {k : IntKind} {r : Reach} {b0 : Nat} {W : World} {v : Value} {d : DataW H} {ps : List MemPlace} (ht : P.underlying t = some (.slice e)) (he : P.underlying e = some (.int k)) (hc : P.cellsOf e = 1)
    (hval : Value.okWide P W r b0 t v) (h : DataW.Trod enc P W 0 (fun _ => true) true t v d ps) :
    ∃ a n c xs, v = .slice a n c ∧ Sl W (fun g => g < W.heap.size) 1 (.slice a n c) n (ints k xs) ∧ (∀ x ∈ xs, (Lit.int k x).wf = true) ∧ (n = 0 ∨ ∃ el sp, d = .slice el sp ∧ el.length = n) := by
  obtain ⟨fuel, hf⟩ := h
  have hcell : v.cells = #[v] := by
    unfold Value.okWide at hval
    rw [ht] at hval
    unfold Cell.okWide Cell.ok at hval
    rw [ht] at hval
    cases v <;> first | rfl | simp at hval
  rw [hcell] at hf
  rcases open_ints ht he hc hf with ⟨hcs, _⟩ | ⟨a, len, cap, zs, hcs, _, hl, hm, hz, hx, hcl, hwz⟩
  · simp at hcs
    subst hcs
    exact ⟨none, 0, 0, [], rfl, Sl.nil _ _ _, by simp, .inl rfl⟩
  · simp at hcs
    subst hcs
    simp only [if_true] at hz
    simp only [Prod.mk.injEq] at hx
    refine ⟨some a, len, cap, zs.take len, rfl, ⟨by simp; omega, _, _, rfl, hl, hm, ?_⟩, fun x hx => hwz x (List.mem_of_mem_take hx), .inr ⟨_, _, hx.1, by simp [lits]; omega⟩⟩
    by_cases hn : len = 0
    · exact .inl hn
    · right
      obtain ⟨b, off, rfl, hc'⟩ := ints_at hcl (by omega)
      have h0 := hc' 0 (by omega)
      simp only [World.cell?, Option.isSome_none, Bool.false_eq_true, if_false, Nat.add_zero] at h0
      cases hb : W.heap[b]? with
      | none => rw [hb] at h0; simp at h0
      | some o =>
        rw [hb] at h0
        cases o with
        | cells c t' f =>
          refine ⟨b, off, c, t', f, rfl, (Array.getElem?_eq_some_iff.1 hb).1, hb, fun i hi => ?_⟩
          have h1 := hc' i (by omega)
          simp only [World.cell?, hb, Option.isSome_none, Bool.false_eq_true, if_false] at h1
          rw [h1, ints, List.getElem?_map, List.getElem?_take, if_pos (by omega), List.getD_eq_getElem?_getD, List.getElem?_eq_getElem (by omega)]
          simp
        | _ => simp at h0
theorem fld_int {W : World} {base fuel : Nat} {spare : Nat → Bool} {held : Bool} {t : TypeId} {cs : List Value} {y : DataW H × List MemPlace} {fs : Array Field} {f : Field} {i : Nat} {k : IntKind} (ht : P.underlying t = some (.struct fs)) (h : DataW.trod enc P W base spare held fuel t cs = some y) (hf : fs[i]? = some f)
    (hu : P.underlying f.type = some (.int k)) (hc : P.cellsOf f.type = 1) : cs.length = P.cellsOf t ∧ ∃ x, (cs.drop f.offset).take 1 = [.int k x] ∧ (Lit.int k x).wf = true := by
  obtain ⟨xs, n, _, _, hl, hxl, hx⟩ := DataW.trod_struct ht h
  have h1 := hx i f hf
  have hi : i < xs.length := by rw [hxl]; exact (Array.getElem?_eq_some_iff.1 hf).1
  rw [hc, List.getElem?_eq_getElem hi] at h1
  obtain ⟨x, h2, _, h3⟩ := DataW.trod_int hu h1
  exact ⟨hl, x, h2, h3⟩
theorem fld_bool {W : World} {base fuel : Nat} {spare : Nat → Bool} {held : Bool} {t : TypeId} {cs : List Value} {y : DataW H × List MemPlace} {fs : Array Field} {f : Field} {i : Nat} (ht : P.underlying t = some (.struct fs)) (h : DataW.trod enc P W base spare held fuel t cs = some y) (hf : fs[i]? = some f)
    (hu : P.underlying f.type = some .bool) (hc : P.cellsOf f.type = 1) : cs.length = P.cellsOf t ∧ ∃ x, (cs.drop f.offset).take 1 = [.bool x] := by
  obtain ⟨xs, n, _, _, hl, hxl, hx⟩ := DataW.trod_struct ht h
  have h1 := hx i f hf
  have hi : i < xs.length := by rw [hxl]; exact (Array.getElem?_eq_some_iff.1 hf).1
  rw [hc, List.getElem?_eq_getElem hi] at h1
  obtain ⟨x, h2, _⟩ := DataW.trod_bool hu h1
  exact ⟨hl, x, h2⟩
theorem agg_of_ok {r : Reach} {b0 : Nat} {W : World} {t : TypeId} {fs : Array Field} {v : Value} (ht : P.underlying t = some (.struct fs)) (hval : Value.okWide P W r b0 t v) : ∃ cs, v = .agg cs ∧ cs.size = P.cellsOf t := by
  unfold Value.okWide at hval
  rw [ht] at hval
  obtain ⟨cs, h1, h2, _⟩ := hval
  exact ⟨cs, h1, h2⟩
theorem mapM_get {α β : Type} {f : α → Option β} : ∀ {l : List α} {r : List β}, l.mapM f = some r → ∀ i : Nat, r[i]? = (l[i]?).bind f
  | [], r, h, i => by simp at h; subst h; simp
  | x :: l, r, h, i => by
    simp only [List.mapM_cons, Option.bind_eq_bind, Option.bind_eq_some_iff, Option.pure_def, Option.some.injEq] at h
    obtain ⟨y, hy, ys, hys, rfl⟩ := h
    cases i with
    | zero => simp [hy]
    | succ i => simpa using mapM_get hys i
theorem forall_list {α : Type} {Q : Nat → α → Prop} : ∀ n : Nat, (∀ i, i < n → ∃ x, Q i x) → ∃ l : List α, l.length = n ∧ ∀ i x, l[i]? = some x → Q i x
  | 0, _ => ⟨[], rfl, fun i x h => by simp at h⟩
  | n + 1, h => by
    obtain ⟨l, hl, hq⟩ := forall_list n fun i hi => h i (by omega)
    obtain ⟨x, hx⟩ := h n (by omega)
    refine ⟨l ++ [x], by simp [hl], fun i y hy => ?_⟩
    rcases Nat.lt_or_ge i l.length with h1 | h1
    · rw [List.getElem?_append_left h1] at hy; exact hq i y hy
    · have h2 : i < (l ++ [x]).length := by
        rcases Nat.lt_or_ge i (l ++ [x]).length with h3 | h3
        · exact h3
        · rw [List.getElem?_eq_none h3] at hy; cases hy
      simp only [List.length_append, List.length_cons, List.length_nil] at h2
      have : i = n := by omega
      subst this
      rw [List.getElem?_append_right (by omega), hl, Nat.sub_self] at hy
      simp at hy; subst hy; exact hx
/-- a slice of structs -/
theorem slr_of_trod {α : Type} {en : α → List Value} {okx : α → Prop} {sz : Nat} {t e : TypeId} {r : Reach} {b0 : Nat} {W : World} {v : Value} {d : DataW H} {ps : List MemPlace} (dflt : α) (ht : P.underlying t = some (.slice e)) (hc : P.cellsOf e = sz) (hpos : 0 < sz) (hen : ∀ x, (en x).length = sz)
    (hop : ∀ fuel cs y, DataW.trod enc P W 0 (fun _ => true) true fuel e cs = some y → ∃ x, cs = en x ∧ okx x)
    (hval : Value.okWide P W r b0 t v) (h : DataW.Trod enc P W 0 (fun _ => true) true t v d ps) :
    ∃ a n c l, v = .slice a n c ∧ Sl W (fun g => g < W.heap.size) sz (.slice a n c) n (rows en l) ∧ (∀ x ∈ l, okx x) ∧ (n = 0 ∨ ∃ el sp, d = .slice el sp ∧ el.length = n) := by
  obtain ⟨fuel, hf⟩ := h
  have hcell : v.cells = #[v] := by
    unfold Value.okWide at hval
    rw [ht] at hval
    unfold Cell.okWide Cell.ok at hval
    rw [ht] at hval
    cases v <;> first | rfl | simp at hval
  rw [hcell] at hf
  rcases DataW.trod_slice ht hf with ⟨hcs, _⟩ | ⟨a, len, cap, elems, rest, m, _, hcs, hx, hb, hl, hm, hel, hcl, _⟩
  · simp at hcs
    subst hcs
    exact ⟨none, 0, 0, [], rfl, by have := Sl.nil W (fun g => g < W.heap.size) sz; simpa [rows] using this, by simp, .inl rfl⟩
  · simp at hcs
    subst hcs
    simp only [Prod.mk.injEq] at hx
    rw [hc] at hcl
    obtain ⟨l, hll, hq⟩ := forall_list (Q := fun i x => okx x ∧ ∀ j, j < sz → W.cell? (a.add (i * sz + j)) = (en x)[j]?) len fun i hi => by
      have h1 := hcl i hi
      rw [List.getElem?_eq_getElem (by omega)] at h1
      cases hq : W.cells? 0 (a.add (i * sz)) sz with
      | none => rw [hq] at h1; simp at h1
      | some cs =>
        rw [hq] at h1
        obtain ⟨x, hx1, hx2⟩ := hop _ _ _ h1
        refine ⟨x, hx2, fun j hj => ?_⟩
        unfold World.cells? at hq
        rw [if_pos (Nat.zero_le _)] at hq
        have h2 := mapM_get hq j
        rw [List.getElem?_range hj] at h2
        simp only [Option.bind_some] at h2
        have hadd : (a.add (i * sz)).add j = a.add (i * sz + j) := by unfold Addr.add; split <;> simp_all <;> split <;> simp_all <;> omega
        rw [hadd, hx1] at h2
        exact h2.symm
    refine ⟨some a, len, cap, l, rfl, ⟨by rw [rows_len hen, hll], _, _, rfl, hl, hm, ?_⟩, fun x hx => ?_, .inr ⟨_, _, hx.1, by simp; omega⟩⟩
    · by_cases hn : len = 0
      · exact .inl hn
      · right
        have key : ∀ i, i < len → ∀ j, j < sz → W.cell? (a.add (i * sz + j)) = (rows en l)[i * sz + j]? := fun i hi j hj => by
          rw [rows_get hen dflt l i j (by omega) hj, (hq i (l.getD i dflt) (by rw [List.getD_eq_getElem?_getD, List.getElem?_eq_getElem (by omega)]; rfl)).2 j hj]
        have all : ∀ q, q < len * sz → W.cell? (a.add q) = (rows en l)[q]? := fun q hq2 => by
          have h1 : q / sz < len := Nat.div_lt_of_lt_mul (by rw [Nat.mul_comm]; exact hq2)
          have h2 : q % sz < sz := Nat.mod_lt _ hpos
          have h3 : q / sz * sz + q % sz = q := Nat.div_add_mod' q sz
          have := key _ h1 _ h2
          rwa [h3] at this
        have hpos2 : 0 < len * sz := Nat.mul_pos (by omega) hpos
        obtain ⟨b, off, spot⟩ := a
        have h0 := all 0 hpos2
        rw [List.getElem?_eq_getElem (by rw [rows_len hen, hll]; exact hpos2)] at h0
        have hspot : spot = none := by simpa [Addr.add] using World.cell?_spot h0
        subst hspot
        have hadd : ∀ q, (⟨b, off, none⟩ : Addr).add q = ⟨b, off + q, none⟩ := fun q => by unfold Addr.add; split <;> simp_all
        rw [hadd] at h0
        simp only [World.cell?, Option.isSome_none, Bool.false_eq_true, if_false, Nat.add_zero] at h0
        cases hb : W.heap[b]? with
        | none => rw [hb] at h0; simp at h0
        | some o =>
          rw [hb] at h0
          cases o with
          | cells c t' f =>
            refine ⟨b, off, c, t', f, rfl, (Array.getElem?_eq_some_iff.1 hb).1, hb, fun q hq2 => ?_⟩
            have h1 := all q hq2
            rw [hadd] at h1
            simp only [World.cell?, hb, Option.isSome_none, Bool.false_eq_true, if_false] at h1
            exact h1
          | _ => simp at h0
    · obtain ⟨i, hi, rfl⟩ := List.mem_iff_getElem.1 hx
      exact (hq i _ (List.getElem?_eq_getElem hi)).1
theorem byt_of_wf {xs : List Int} (h : ∀ x ∈ xs, (Lit.int .u8 x).wf = true) : Byt xs := fun x hx => by
  have := h x hx
  simp [Lit.wf, IntKind.min, IntKind.max, IntKind.signed, IntKind.bits] at this
  omega
end
end Go.Fw
