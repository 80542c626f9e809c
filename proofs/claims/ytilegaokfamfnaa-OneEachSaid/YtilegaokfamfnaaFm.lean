/-
  Memory by blocks: what one world keeps of another ('Upd'), a block known whole ('Blk'), slices that are read ('Sl') and slices that the call owns ('Own').
-/
import Derived.Test.YtilegaokfamfnaaFw
namespace Go.Fw

/-- but for the blocks in S, every block of w is in w' as it was -/
structure Upd (S : Nat → Prop) (w w' : World) : Prop where
  os : w'.os = w.os
  tape : w'.tape = w.tape
  output : w'.output = w.output
  size : w.heap.size ≤ w'.heap.size
  block : ∀ b, b < w.heap.size → ¬ S b → w'.heap[b]? = w.heap[b]?

abbrev No : Nat → Prop := fun _ => False
abbrev Is (b : Nat) : Nat → Prop := fun x => x = b

theorem Upd.refl (S : Nat → Prop) (w : World) : Upd S w w := ⟨rfl, rfl, rfl, Nat.le_refl _, fun _ _ _ => rfl⟩
theorem Upd.trans {S T : Nat → Prop} {a b c : World} (h : Upd S a b) (k : Upd T b c) (hT : ∀ x, T x → S x ∨ a.heap.size ≤ x) : Upd S a c :=
  ⟨k.os.trans h.os, k.tape.trans h.tape, k.output.trans h.output, Nat.le_trans h.size k.size, fun i hi hs =>
    (k.block i (Nat.lt_of_lt_of_le hi h.size) (fun ht => (hT i ht).elim hs (fun hle => absurd hi (by omega)))).trans (h.block i hi hs)⟩
theorem Upd.trans0 {S : Nat → Prop} {a b c : World} (h : Upd S a b) (k : Upd No b c) : Upd S a c := h.trans k fun _ h => h.elim
theorem Upd.trans1 {S : Nat → Prop} {a b c : World} {x : Nat} (h : Upd S a b) (k : Upd (Is x) b c) (hx : S x ∨ a.heap.size ≤ x) : Upd S a c :=
  h.trans k fun y hy => by cases hy; exact hx
theorem Upd.mono {S T : Nat → Prop} {a b : World} (h : Upd S a b) (hT : ∀ x, S x → x < a.heap.size → T x) : Upd T a b :=
  ⟨h.os, h.tape, h.output, h.size, fun i hi ht => h.block i hi fun hs => ht (hT i hs hi)⟩
theorem Upd.below {w w' : World} (h : Upd No w w') : RowKit.Below w.heap.size w w' := ⟨h.os, h.tape, h.output, h.size, fun k hk => h.block k hk (fun h => h)⟩
theorem upd_alloc (w : World) (o : Obj) : Upd No w (w.alloc o) := ⟨rfl, rfl, rfl, by simp, fun k hk _ => RowKit.Below.heap_alloc w o k hk⟩
theorem upd_drew (w : World) : Upd No w w.drew := ⟨rfl, rfl, rfl, Nat.le_refl _, fun _ _ _ => rfl⟩
theorem upd_setCell (w : World) (a : Addr) (v : Value) : Upd (Is a.block) w (w.setCell a v) :=
  ⟨rfl, rfl, rfl, by simp, fun k _ hk => RowKit.Below.heap_setCell w a v k (fun e => hk e)⟩
theorem upd_putObj (w : World) (r : Nat) (o : Obj) : Upd (Is r) w (w.putObj r o) :=
  ⟨rfl, rfl, rfl, by simp, fun _ _ hk => World.putObj_heap_other (fun e => hk e)⟩
theorem upd_grown {w w' : World} {row : Option Nat} (h : w.grownBy w' row) : Upd (fun x => some x = row) w w' :=
  ⟨h.os, h.tape, h.output, h.size, fun k hk hs => h.block k hk hs⟩
theorem Upd.keep {S : Nat → Prop} {w w' : World} (h : Upd S w w') {b : Nat} {o : Obj} (hb : w.heap[b]? = some o) (hs : ¬ S b) : w'.heap[b]? = some o := by
  rw [h.block b (Array.getElem?_eq_some_iff.1 hb).1 hs]; exact hb

/-- block b is a row of just these cells, which may be written -/
def Blk (w : World) (b : Nat) (cs : List Value) : Prop := ∃ t, w.heap[b]? = some (.cells cs.toArray t (0, 0))
theorem Blk.upd {w w' : World} {b : Nat} {cs : List Value} {S : Nat → Prop} (h : Blk w b cs) (hu : Upd S w w') (hs : ¬ S b) : Blk w' b cs :=
  let ⟨t, ht⟩ := h; ⟨t, hu.keep ht hs⟩
theorem Blk.upd0 {w w' : World} {b : Nat} {cs : List Value} (h : Blk w b cs) (hu : Upd No w w') : Blk w' b cs := h.upd hu fun h => h
theorem Blk.upd1 {w w' : World} {b x : Nat} {cs : List Value} (h : Blk w b cs) (hu : Upd (Is x) w w') (hx : b ≠ x) : Blk w' b cs := h.upd hu fun h => hx h
theorem Blk.lt {w : World} {b : Nat} {cs : List Value} (h : Blk w b cs) : b < w.heap.size := let ⟨_, ht⟩ := h; (Array.getElem?_eq_some_iff.1 ht).1
theorem Blk.cell {w : World} {b : Nat} {cs : List Value} (h : Blk w b cs) (i : Nat) : w.cell? ⟨b, i, none⟩ = cs[i]? := by
  obtain ⟨t, ht⟩ := h
  simp [World.cell?, ht]
theorem Blk.frozen {w : World} {b : Nat} {cs : List Value} (h : Blk w b cs) (i : Nat) : w.frozen? ⟨b, i, none⟩ = false := by
  obtain ⟨t, ht⟩ := h
  simp [World.frozen?, ht]
theorem blk_alloc (w : World) (cs : List Value) (t : TypeId) : Blk (w.alloc (.cells cs.toArray t)) w.heap.size cs := ⟨t, World.alloc_heap_new w _⟩
theorem Blk.set {w : World} {b : Nat} {cs : List Value} (h : Blk w b cs) (i : Nat) (v : Value) : Blk (w.setCell ⟨b, i, none⟩ v) b (cs.set i v) := by
  obtain ⟨t, ht⟩ := h
  refine ⟨t, ?_⟩
  simp [World.setCell, Array.getElem?_modify, ht]

abbrev Btw (lo hi : Nat) : Nat → Prop := fun g => lo ≤ g ∧ g < hi
abbrev Ge (lo : Nat) : Nat → Prop := fun g => lo ≤ g

/-- slice value v: n elements of sz cells, which read cs; its block (if it has elements) is one of R -/
def Sl (w : World) (R : Nat → Prop) (sz : Nat) (v : Value) (n : Nat) (cs : List Value) : Prop :=
  cs.length = n * sz ∧ ∃ a cap, v = .slice a n cap ∧ n ≤ cap ∧ cap ≤ maxLen ∧
    (n = 0 ∨ ∃ b off c t f, a = some ⟨b, off, none⟩ ∧ R b ∧ w.heap[b]? = some (.cells c t f) ∧ ∀ i, i < n * sz → c[off + i]? = cs[i]?)
theorem Sl.upd {w w' : World} {R : Nat → Prop} {sz n : Nat} {v : Value} {cs : List Value} {S : Nat → Prop} (h : Sl w R sz v n cs) (hu : Upd S w w') (hs : ∀ x, R x → ¬ S x) :
    Sl w' R sz v n cs := by
  obtain ⟨h1, a, cap, h2, h3, h4, h5⟩ := h
  refine ⟨h1, a, cap, h2, h3, h4, h5.imp id ?_⟩
  rintro ⟨b, off, c, t, f, e1, e2, e4, e5⟩
  exact ⟨b, off, c, t, f, e1, e2, hu.keep e4 (hs b e2), e5⟩
theorem Sl.upd0 {w w' : World} {R : Nat → Prop} {sz n : Nat} {v : Value} {cs : List Value} (h : Sl w R sz v n cs) (hu : Upd No w w') : Sl w' R sz v n cs := h.upd hu fun _ _ h => h
theorem Sl.upd1 {w w' : World} {R : Nat → Prop} {sz n x : Nat} {v : Value} {cs : List Value} (h : Sl w R sz v n cs) (hu : Upd (Is x) w w') (hx : ¬ R x) : Sl w' R sz v n cs :=
  h.upd hu fun y h1 h3 => by cases h3; exact hx h1
theorem Sl.weak {w : World} {R R' : Nat → Prop} {sz n : Nat} {v : Value} {cs : List Value} (h : Sl w R sz v n cs) (hR : ∀ g, R g → R' g) : Sl w R' sz v n cs := by
  obtain ⟨e1, a, cap, e2, e3, e4, e5⟩ := h
  refine ⟨e1, a, cap, e2, e3, e4, e5.imp id ?_⟩
  rintro ⟨b, off, c, t, f, k1, k2, k4, k5⟩
  exact ⟨b, off, c, t, f, k1, hR b k2, k4, k5⟩
theorem Sl.tight {w : World} {R : Nat → Prop} {sz n : Nat} {v : Value} {cs : List Value} (h : Sl w R sz v n cs) : Sl w (fun g => R g ∧ g < w.heap.size) sz v n cs := by
  obtain ⟨e1, a, cap, e2, e3, e4, e5⟩ := h
  refine ⟨e1, a, cap, e2, e3, e4, e5.imp id ?_⟩
  rintro ⟨b, off, c, t, f, k1, k2, k4, k5⟩
  exact ⟨b, off, c, t, f, k1, ⟨k2, (Array.getElem?_eq_some_iff.1 k4).1⟩, k4, k5⟩
theorem Sl.any {w : World} {R : Nat → Prop} {sz n : Nat} {v : Value} {cs : List Value} (h : Sl w R sz v n cs) : Sl w (fun g => g < w.heap.size) sz v n cs := h.tight.weak fun _ h => h.2
theorem Sl.len {w : World} {R : Nat → Prop} {sz n : Nat} {v : Value} {cs : List Value} (h : Sl w R sz v n cs) : cs.length = n * sz := h.1
theorem Sl.shape {w : World} {R : Nat → Prop} {sz n : Nat} {v : Value} {cs : List Value} (h : Sl w R sz v n cs) : ∃ a cap, v = .slice a n cap ∧ n ≤ cap ∧ cap ≤ maxLen := by
  obtain ⟨_, a, cap, h2, h3, h4, _⟩ := h; exact ⟨a, cap, h2, h3, h4⟩
theorem Sl.cap {w : World} {R : Nat → Prop} {sz n c : Nat} {a : Option Addr} {cs : List Value} (h : Sl w R sz (.slice a n c) n cs) : n ≤ c ∧ c ≤ maxLen := by
  obtain ⟨_, a', cap, h2, h3, h4, _⟩ := h
  simp only [Value.slice.injEq] at h2
  obtain ⟨_, _, rfl⟩ := h2
  exact ⟨h3, h4⟩
theorem Sl.nil (w : World) (R : Nat → Prop) (sz : Nat) : Sl w R sz (.slice none 0 0) 0 [] := ⟨by simp, none, 0, rfl, Nat.le_refl _, Nat.zero_le _, .inl rfl⟩
/-- element i: its cells, at the address that an index yields -/
theorem Sl.at {w : World} {R : Nat → Prop} {sz n : Nat} {a : Option Addr} {c : Nat} {cs : List Value} (h : Sl w R sz (.slice a n c) n cs) {i : Nat} (hi : i < n) :
    ∃ b off, a = some ⟨b, off, none⟩ ∧ ∀ j, j < sz → w.cell? ⟨b, off + i * sz + j, none⟩ = cs[i * sz + j]? := by
  obtain ⟨_, a', cap, h2, h3, _, h5⟩ := h
  simp only [Value.slice.injEq] at h2
  obtain ⟨rfl, _, rfl⟩ := h2
  rcases h5 with h5 | ⟨b, off, c, t, f, rfl, _, hb, hc⟩
  · omega
  · refine ⟨b, off, rfl, fun j hj => ?_⟩
    have hlt : i * sz + j < n * sz := by
      have : (i + 1) * sz ≤ n * sz := Nat.mul_le_mul_right _ hi
      rw [Nat.add_mul] at this
      omega
    have := hc (i * sz + j) hlt
    simp only [World.cell?, hb, Option.isSome_none, Bool.false_eq_true, if_false]
    rw [← this, Nat.add_assoc]

/-- slice value v is the call's own: nil, or at the head of a row of its own, whose block is one of R; its cells read cs -/
def Own (w : World) (R : Nat → Prop) (e : TypeId) (sz : Nat) (v : Value) (n : Nat) (cs : List Value) : Prop :=
  w.ownsRow 0 e sz v n cs ∧ ∀ k, v.ownBlock = some k → R k
theorem Own.upd {w w' : World} {R : Nat → Prop} {sz n : Nat} {e : TypeId} {v : Value} {cs : List Value} {S : Nat → Prop} (h : Own w R e sz v n cs) (hu : Upd S w w') (hs : ∀ x, R x → ¬ S x) :
    Own w' R e sz v n cs := by
  obtain ⟨⟨h1, h2⟩, h3⟩ := h
  refine ⟨⟨h1, h2.imp id ?_⟩, h3⟩
  rintro ⟨g, cap, cur, rfl, hb, hg, r⟩
  exact ⟨g, cap, cur, rfl, hb, hu.keep hg (hs g (h3 g rfl)), r⟩
theorem Own.upd0 {w w' : World} {R : Nat → Prop} {sz n : Nat} {e : TypeId} {v : Value} {cs : List Value} (h : Own w R e sz v n cs) (hu : Upd No w w') : Own w' R e sz v n cs := h.upd hu fun _ _ h => h
theorem Own.upd1 {w w' : World} {R : Nat → Prop} {sz n x : Nat} {e : TypeId} {v : Value} {cs : List Value} (h : Own w R e sz v n cs) (hu : Upd (Is x) w w') (hx : ¬ R x) : Own w' R e sz v n cs :=
  h.upd hu fun y h1 h3 => by cases h3; exact hx h1
theorem Own.nil (w : World) (R : Nat → Prop) (e : TypeId) (sz : Nat) : Own w R e sz (.slice none 0 0) 0 [] := ⟨World.ownsRow_nil w 0 e sz, fun k h => by simp [Value.ownBlock] at h⟩
theorem Own.weak {w : World} {R R' : Nat → Prop} {sz n : Nat} {e : TypeId} {v : Value} {cs : List Value} (h : Own w R e sz v n cs) (hR : ∀ g, R g → R' g) : Own w R' e sz v n cs :=
  ⟨h.1, fun k hk => hR k (h.2 k hk)⟩
theorem Own.tight {w : World} {R : Nat → Prop} {sz n : Nat} {e : TypeId} {v : Value} {cs : List Value} (h : Own w R e sz v n cs) : Own w (fun g => R g ∧ g < w.heap.size) e sz v n cs :=
  ⟨h.1, fun k hk => ⟨h.2 k hk, (h.1.lt k hk).2⟩⟩
theorem Own.len {w : World} {R : Nat → Prop} {sz n : Nat} {e : TypeId} {v : Value} {cs : List Value} (h : Own w R e sz v n cs) : cs.length = n * sz := h.1.1
theorem Own.shape {w : World} {R : Nat → Prop} {sz n : Nat} {e : TypeId} {v : Value} {cs : List Value} (h : Own w R e sz v n cs) : ∃ a cap, v = .slice a n cap ∧ n ≤ cap ∧ cap ≤ maxLen := by
  rcases h.1.2 with ⟨rfl, rfl⟩ | ⟨g, cap, cur, rfl, hb, hg, hnc, hcm, _⟩
  · exact ⟨none, 0, rfl, Nat.le_refl _, Nat.zero_le _⟩
  · exact ⟨_, cap, rfl, hnc, hcm⟩
theorem Own.sl {w : World} {R : Nat → Prop} {sz n : Nat} {e : TypeId} {v : Value} {cs : List Value} (h : Own w R e sz v n cs) : Sl w R sz v n cs := by
  obtain ⟨⟨h1, h2⟩, h3⟩ := h
  refine ⟨h1, ?_⟩
  rcases h2 with ⟨rfl, rfl⟩ | ⟨g, cap, cur, rfl, hb, hg, hnc, hcm, hcs, htake⟩
  · exact ⟨none, 0, rfl, Nat.le_refl _, Nat.zero_le _, .inl rfl⟩
  · refine ⟨_, cap, rfl, hnc, hcm, .inr ⟨g, 0, cur, e, (0, 0), rfl, h3 g rfl, hg, fun i hi => ?_⟩⟩
    rw [← htake, Nat.zero_add, List.getElem?_take, if_pos hi]
    simp
abbrev ints (k : IntKind) (l : List Int) : List Value := l.map (Value.int k)
theorem one_ints {k : IntKind} {l : List Int} : ∀ u ∈ ints k l, u.oneCell' = true := by
  intro u hu
  obtain ⟨n, _, rfl⟩ := List.mem_map.1 hu
  rfl
/-- bytes, as numbers -/
def Byt (l : List Int) : Prop := ∀ x ∈ l, 0 ≤ x ∧ x < 256
theorem byt_inj : ∀ {xs ys : List Int}, Byt xs → Byt ys → (xs.map fun n => UInt8.ofNat n.toNat) = (ys.map fun n => UInt8.ofNat n.toNat) → xs = ys
  | [], [], _, _, _ => rfl
  | [], _ :: _, _, _, h => by simp at h
  | _ :: _, [], _, _, h => by simp at h
  | x :: xs, y :: ys, hx, hy, h => by
    simp only [List.map_cons, List.cons.injEq] at h
    have h1 := hx x (by simp)
    have h2 := hy y (by simp)
    have e := congrArg UInt8.toNat h.1
    simp only [UInt8.toNat_ofNat'] at e
    have : x = y := by omega
    rw [this, byt_inj (fun z hz => hx z (List.mem_cons_of_mem _ hz)) (fun z hz => hy z (List.mem_cons_of_mem _ hz)) h.2]
theorem str_eq {xs ys : List Int} (hx : Byt xs) (hy : Byt ys) : ((strOfNums xs).toList == (strOfNums ys).toList) = decide (xs = ys) := by
  rw [ByteArray.toList_eq, ByteArray.toList_eq, strOfNums_data, strOfNums_data]
  by_cases h : xs = ys
  · subst h; simp
  · rw [decide_eq_false h]
    cases hb : (xs.map fun n => UInt8.ofNat n.toNat) == (ys.map fun n => UInt8.ofNat n.toNat) with
    | false => rfl
    | true => exact absurd (byt_inj hx hy (eq_of_beq hb)) h
theorem Byt.append {xs ys : List Int} (h : Byt xs) (k : Byt ys) : Byt (xs ++ ys) := fun x hx => (List.mem_append.1 hx).elim (h x) (k x)
theorem Byt.drop {xs : List Int} (h : Byt xs) (n : Nat) : Byt (xs.drop n) := fun x hx => h x (List.mem_of_mem_drop hx)
theorem Byt.take {xs : List Int} (h : Byt xs) (n : Nat) : Byt (xs.take n) := fun x hx => h x (List.mem_of_mem_take hx)
theorem Byt.getD {xs : List Int} (h : Byt xs) (i : Nat) : 0 ≤ xs.getD i 0 ∧ xs.getD i 0 < 256 := by
  by_cases hi : i < xs.length
  · have := h (xs.getD i 0) (by rw [List.getD_eq_getElem?_getD, List.getElem?_eq_getElem hi]; simp)
    exact this
  · rw [List.getD_eq_getElem?_getD, List.getElem?_eq_none (by omega)]; simp
theorem Sl.none_len {w : World} {R : Nat → Prop} {sz n c : Nat} {cs : List Value} (h : Sl w R sz (.slice none n c) n cs) : n = 0 ∧ cs = [] := by
  obtain ⟨h1, a, cap, h2, _, _, h5⟩ := h
  simp only [Value.slice.injEq] at h2
  obtain ⟨rfl, _, rfl⟩ := h2
  have hn : n = 0 := by
    rcases h5 with h5 | ⟨b, off, c, t, f, h6, _⟩
    · exact h5
    · cases h6
  subst hn
  exact ⟨rfl, List.eq_nil_of_length_eq_zero (by simpa using h1)⟩
theorem Sl.atR {w : World} {R : Nat → Prop} {sz n : Nat} {a : Option Addr} {c : Nat} {cs : List Value} (h : Sl w R sz (.slice a n c) n cs) {i : Nat} (hi : i < n) :
    ∃ b off, a = some ⟨b, off, none⟩ ∧ R b ∧ ∀ j, j < sz → w.cell? ⟨b, off + i * sz + j, none⟩ = cs[i * sz + j]? := by
  obtain ⟨_, a', cap, h2, h3, _, h5⟩ := h
  simp only [Value.slice.injEq] at h2
  obtain ⟨rfl, _, rfl⟩ := h2
  rcases h5 with h5 | ⟨b, off, c, t, f, rfl, hR, hb, hc⟩
  · omega
  · refine ⟨b, off, rfl, hR, fun j hj => ?_⟩
    have hlt : i * sz + j < n * sz := by
      have : (i + 1) * sz ≤ n * sz := Nat.mul_le_mul_right _ hi
      rw [Nat.add_mul] at this
      omega
    have := hc (i * sz + j) hlt
    simp only [World.cell?, hb, Option.isSome_none, Bool.false_eq_true, if_false]
    rw [← this, Nat.add_assoc]
/-- element i of a slice of integers -/
theorem Sl.iat {w : World} {R : Nat → Prop} {n : Nat} {a : Option Addr} {c : Nat} {K : IntKind} {l : List Int} (h : Sl w R 1 (.slice a n c) n (ints K l)) {i : Nat} (hi : i < n) :
    ∃ b off, a = some ⟨b, off, none⟩ ∧ R b ∧ w.cell? ⟨b, off + i, none⟩ = some (.int K (l.getD i 0)) := by
  obtain ⟨b, off, ha, hR, hc⟩ := h.atR hi
  refine ⟨b, off, ha, hR, ?_⟩
  have hl : l.length = n := by simpa [ints] using h.1
  have := hc 0 (by omega)
  rw [Nat.mul_one, Nat.add_zero, Nat.add_zero] at this
  rw [this, ints, List.getElem?_map, List.getD_eq_getElem?_getD, List.getElem?_eq_getElem (by omega)]; rfl
theorem Sl.cur {w : World} {R : Nat → Prop} {sz n : Nat} {v : Value} {cs : List Value} {pb : Nat} (h : Sl w R sz v n cs) (hR : ¬ R pb) : Sl w (fun g => g < w.heap.size ∧ g ≠ pb) sz v n cs :=
  h.tight.weak fun _ hg => ⟨hg.2, fun e => hR (e ▸ hg.1)⟩
end Go.Fw
