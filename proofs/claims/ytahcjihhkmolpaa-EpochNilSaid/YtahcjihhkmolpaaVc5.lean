/- Slices that a call makes and appends to. -/
import Derived.Test.YtahcjihhkmolpaaVc4
import Derived.Laws.AppendOwnNone
namespace Go.Vc
open Go Go.RowKit

/-- The call's own slice: n elements of type E (s cells each), its cells are xs; its row lies from block B on. -/
def Own (w : World) (B : Nat) (E : TypeId) (s : Nat) (a : Option Addr) (n c : Nat) (xs : List Value) : Prop := w.ownsRow B E s (.slice a n c) n xs

section
variable {w w' : World} {B : Nat} {E : TypeId} {s : Nat} {a : Option Addr} {n c : Nat} {xs : List Value}
theorem Own.nil (w : World) (B : Nat) (E : TypeId) (s : Nat) : Own w B E s none 0 0 [] := World.ownsRow_nil w B E s
theorem Own.length (h : Own w B E s a n c xs) : xs.length = n * s := h.1
theorem Own.sl (h : Own w B E s a n c xs) : SL a n := fun hn => by
  rcases h.2 with ⟨_, h0⟩ | ⟨g, cap, cur, hv, _⟩
  · omega
  · cases hv; rfl
theorem Own.off (h : Own w B E s a n c xs) : ao a = 0 := by
  rcases h.2 with ⟨hv, h0⟩ | ⟨g, cap, cur, hv, _⟩ <;> cases hv <;> rfl
theorem Own.row (h : Own w B E s a n c xs) (ha : a ≠ none) : ∃ cur, Blk w (ab a) cur E ∧ B ≤ ab a ∧ n ≤ c ∧ c ≤ maxLen ∧ cur.size = c * s ∧ cur.toList.take (n * s) = xs := by
  rcases h.2 with ⟨hv, h0⟩ | ⟨g, cap, cur, hv, hb, hg, hn, hm, hs, ht⟩
  · cases hv; exact absurd rfl ha
  · cases hv; exact ⟨cur, hg, hb, hn, hm, hs, ht⟩
theorem Own.some_of (h : Own w B E s a n c xs) (hn : 0 < n) : a ≠ none := by rw [h.sl hn]; simp
theorem Own.cell (h : Own w B E s a n c xs) {j : Nat} {v : Value} (hj : xs[j]? = some v) : w.cell? ⟨ab a, j, none⟩ = some v := by
  have hlt : j < xs.length := (List.getElem?_eq_some_iff.1 hj).1
  have hn : 0 < n := by
    rcases Nat.eq_zero_or_pos n with h0 | h0
    · subst h0; rw [h.length] at hlt; omega
    · exact h0
  obtain ⟨cur, hB, _, _, _, _, ht⟩ := h.row (h.some_of hn)
  refine hB.cell ?_
  rw [← ht] at hj
  rw [List.getElem?_take] at hj
  split at hj
  · simpa using hj
  · cases hj
theorem Own.lt (h : Own w B E s a n c xs) (ha : a ≠ none) : ab a < w.heap.size := (h.row ha).choose_spec.1.lt
theorem Own.grown (h : Own w B E s a n c xs) {row : Option Nat} (hg : w.grownBy w' row) (hne : some (ab a) ≠ row) : Own w' B E s a n c xs := by
  refine World.ownsRow.kept h hg ?_
  cases a with
  | none => exact .inl rfl
  | some x => exact .inr hne
theorem grownBy_of_below (hb : Below w.heap.size w w') : w.grownBy w' none := ⟨hb.os, hb.tape, hb.output, hb.size, fun k hk _ => hb.block k hk⟩
theorem Own.keep (h : Own w B E s a n c xs) (hb : Below w.heap.size w w') : Own w' B E s a n c xs := h.grown (grownBy_of_below hb) (by simp)
theorem Blk.grown {b : Nat} {cs : Array Value} {T : TypeId} (h : Blk w b cs T) {row : Option Nat} (hg : w.grownBy w' row) (hne : some b ≠ row) : Blk w' b cs T := (hg.block b h.lt hne).trans h
theorem Blk.ne {b b' : Nat} {cs cs' : Array Value} {T T' : TypeId} (h : Blk w b cs T) (h' : Blk w b' cs' T') (hT : T ≠ T') : b ≠ b' := by
  intro hb; subst hb
  unfold Blk at h h'
  rw [h] at h'
  exact hT (by cases h'; rfl)
/-- A store below leaves it; a turned block that is another leaves it. -/
theorem Own.setBlk (h : Own w B E s a n c xs) {b : Nat} (hb : a ≠ none → b ≠ ab a) (cs : Array Value) (T : TypeId) : Own (Vc.setBlk w b cs T) B E s a n c xs := by
  have hg : w.grownBy (Vc.setBlk w b cs T) (some b) := ⟨rfl, rfl, rfl, Nat.le_of_eq (setBlk_size _ _ _ _).symm, fun k _ hk => setBlk_other _ _ (fun hh => hk (by rw [hh]))⟩
  cases a with
  | none => exact World.ownsRow.kept h hg (.inl rfl)
  | some x => exact World.ownsRow.kept h hg (.inr (fun hh => hb (by simp) (Option.some.inj hh).symm))
end

theorem madeCells_rep (z : Value) (s : Nat) (hs : 0 < s) (n : Nat) : madeCells (Array.replicate s z) n = Array.replicate n z := by
  apply Array.ext
  · simp [madeCells]
  · intro i h1 h2
    have : i % s < s := Nat.mod_lt _ hs
    simp [madeCells, this]

section
variable {P : Program} {n : Nat} {Q : Exit → Env → World → Prop} {e : Env} {w : World} {ops : Array Oper} {rest : List Oper}
variable {d : Nat} {ty : TypeId} {ps : String} {af : Array Edge} {T E : TypeId} {x y z : Operand}

/-- make([]E, m), the zero's cells all alike. -/
theorem L.make {m s bytes : Nat} {zv z0 : Value} (hx : ev e x = .int .i64 (m : Int)) (hy : ev e y = .int .i64 (m : Int)) (hT : P.underlying T = some (.slice E)) (hi : (P.info? E).map (fun i => (i.zero, i.size, i.bytes)) = some (some zv, s, bytes)) (hz : zv.cells = Array.replicate s z0) (hs : 0 < s)
    (hm : m ≤ 9223372036854775807) (hb : m * bytes ≤ 281474976710656) (k : ∀ w1 b, Fresh w w1 b (Array.replicate (m * s) z0) E → L P n ops Q rest (upd e d (.slice (some ⟨b, 0, none⟩) m m)) w1) :
    L P n ops Q (⟨some d, .makeSlice T x y, ty, ps, af, none⟩ :: rest) e w := by
  refine L.va ?_ (k _ _ (fresh_alloc w _ E))
  obtain ⟨i, hi'⟩ : ∃ i, P.info? E = some i := by cases hh : P.info? E with | none => rw [hh] at hi; cases hi | some i => exact ⟨i, rfl⟩
  rw [hi'] at hi
  simp only [Option.map_some, Option.some.injEq, Prod.mk.injEq] at hi
  obtain ⟨h1, rfl, rfl⟩ := hi
  have hr := run_make (P := P) w T E i zv hT hi' h1 .i64 .i64 (m : Int) (m : Int) (by omega) (Int.le_refl _) (by
    have : ((m * i.bytes : Nat) : Int) ≤ 281474976710656 := by omega
    rw [Int.natCast_mul, Int.mul_comm] at this; exact this) (by omega)
  rw [hz, madeCells_rep _ _ hs] at hr
  simp only [Int.toNat_natCast] at hr
  simp only [execOp, hx, hy, Sem.run_bind, hr, Result.andThen_ok, Sem.run_pure]

/-- Which cells a one-element slice literal lays. -/
theorem fill_one (vs : List Value) : ∀ (k : Nat) (cs : Array Value), cs.size = k + vs.length → (vs.zipIdx k).foldl (fun cs (cj : Value × Nat) => cs.setIfInBounds (0 + cj.2) cj.1) cs = (cs.toList.take k ++ vs).toArray := by
  induction vs with
  | nil =>
    intro k cs h
    have h' : cs.size = k := by simpa using h
    rw [List.append_nil, List.take_of_length_le (by simp [h'])]
    simp
  | cons v vs ih =>
    intro k cs h
    simp only [List.zipIdx_cons, List.foldl_cons, Nat.zero_add]
    have := ih (k + 1) (cs.setIfInBounds k v) (by simp [h]; omega)
    simp only [Nat.zero_add] at this
    rw [this]
    congr 1
    have hk : k < cs.size := by simp at h; omega
    rw [Array.toList_setIfInBounds, List.take_succ_eq_append_getElem (by simpa using hk)]
    simp [List.take_set_of_le]

/-- []E{v}: one element. -/
theorem L.build1 {s : Nat} {v : Value} {cs : Array Value} (hx : ev e x = v) (hcs : v.cells = cs) (hT : P.underlying T = some (.slice E)) (hs : (P.info? E).map (·.size) = some s) (hl : cs.size = s) (hz : ∃ zv, (P.info? E).bind (·.zero) = some zv) (hlt : 0 < s ∧ s ≤ 16777216)
    (k : ∀ w1 b, Fresh w w1 b cs E → L P n ops Q rest (upd e d (.slice (some ⟨b, 0, none⟩) 1 1)) w1) :
    L P n ops Q (⟨some d, .buildSlice T 1 #[(0, x)], ty, ps, af, none⟩ :: rest) e w := by
  refine L.va ?_ (k _ _ (fresh_alloc w _ E))
  obtain ⟨zv, hz⟩ := hz
  have hlt' : ¬ (1 * s > 2 ^ 24) := by omega
  have hsz : v.cells.size = s := by rw [hcs, hl]
  have hf := fun cs0 : Array Value => fun h : cs0.size = s => fill_one v.cells.toList 0 cs0 (by simp [h, hsz])
  simp only [execOp, Instr.buildSlice, List.map_toArray, List.map_cons, List.map_nil, hx, run_underlying hT, run_sizeOf hs, Sem.run_bind, Result.andThen_ok, hlt', if_false, Sem.run_pure]
  have h0 : ¬ 1 * s = 0 := by omega
  · simp only [h0, if_false, Sem.run_bind, run_zeroValue hz, Result.andThen_ok, Sem.run_pure, Instr.fill, Nat.zero_mul, hsz, ne_eq, not_true_eq_false, decide_false, Bool.false_or]
    have h3 := hf ((Array.range (1 * s)).map (fun i => zv.cells[i % zv.cells.size]!)) (by simp)
    simp only [List.take_zero, List.nil_append] at h3
    have h4 : ¬ (0 + s > (Array.map (fun x => zv.cells[x % zv.cells.size]!) (Array.range (1 * s))).size) := by simp
    rw [← Array.foldl_toList, Array.toList_zipIdx]
    rw [h3]
    simp [newRow, hcs]

theorem L.build0 {s : Nat} (hT : P.underlying T = some (.slice E)) (hs : (P.info? E).map (·.size) = some s) (k : ∀ w1 b, Fresh w w1 b #[] E → L P n ops Q rest (upd e d (.slice (some ⟨b, 0, none⟩) 0 0)) w1) :
    L P n ops Q (⟨some d, .buildSlice T 0 #[], ty, ps, af, none⟩ :: rest) e w := by
  refine L.va ?_ (k _ _ (fresh_alloc w _ E))
  simp [execOp, Instr.buildSlice, run_underlying hT, run_sizeOf hs, Instr.fill, newRow, Array.range_zero']

/-- append(s, x...): s the call's own. -/
theorem L.append {B s bytes m c' : Nat} {a : Option Addr} {k c : Nat} {xs news : List Value} {zv : Value} {ad : Addr} (hx : ev e x = .slice a k c) (hy : ev e y = .slice (some ad) m c') (hT : P.underlying T = some (.slice E))
    (hi : (P.info? E).map (fun i => (i.zero, i.size, i.bytes)) = some (some zv, s, bytes)) (hz : zv.cells.size = s) (hs : 0 < s) (hown : Own w B E s a k c xs)
    (hl : news.length = m * s) (hnews : ∀ (j : Nat) u, news[j]? = some u → w.cell? (ad.add j) = some u) (h1 : ∀ u ∈ news, u.oneCell' = true) (hmax : k + m ≤ 9223372036854775807) (hb : (k + m) * bytes ≤ 140737488355328) (hB : B ≤ w.heap.size)
    (h : ∀ a' c2 w', Own w' B E s a' (k + m) c2 (xs ++ news) → w.grownBy w' (Value.ownBlock (.slice a k c)) → Below B w w' → (a' = none ↔ a = none ∧ m = 0) → L P n ops Q rest (upd e d (.slice a' (k + m) c2)) w') :
    L P n ops Q (⟨some d, .call ⟨.builtin .append, #[x, y], #[T, T]⟩, ty, ps, af, none⟩ :: rest) e w := by
  obtain ⟨i, hi'⟩ : ∃ i, P.info? E = some i := by cases hh : P.info? E with | none => rw [hh] at hi; cases hi | some i => exact ⟨i, rfl⟩
  rw [hi'] at hi
  simp only [Option.map_some, Option.some.injEq, Prod.mk.injEq] at hi
  obtain ⟨g1, g2, g3⟩ := hi
  obtain ⟨v', w', hr, h2, h3, h4⟩ := run_append_own (P := P) w B T ty E i zv s bytes hT hi' g1 g2 g3 hz hs (.slice a k c) k xs hown ad m c' news hl hnews h1 (by simpa [maxLen] using hmax) hb hB
  obtain ⟨a', c2, rfl⟩ : ∃ a' c2, v' = .slice a' (k + m) c2 := by
    rcases h2.2 with ⟨hv, h0⟩ | ⟨g, cap, cur, hv, _⟩
    · exact ⟨none, 0, by rw [hv, h0]⟩
    · exact ⟨_, _, hv⟩
  have hbel : Below B w w' := (Below.refl B w).grown h3 hB (fun r hr => by
    cases a with
    | none => cases hr
    | some q =>
      simp only [Value.ownBlock, Option.some.injEq] at hr
      subst hr
      exact (hown.row (by simp)).choose_spec.2.1)
  have hnone : a' = none ↔ a = none ∧ m = 0 := by
    constructor
    · intro hn
      subst hn
      rcases h2.2 with ⟨hv, h0⟩ | ⟨g, cap, cur, hv, _⟩
      · have := h4.1 hv
        exact ⟨by have := this.1; simp at this; exact this.1, this.2⟩
      · cases hv
    · rintro ⟨rfl, rfl⟩
      have hk0 : k = 0 ∧ c = 0 := by
        rcases hown.2 with ⟨hv, h0⟩ | ⟨g, cap, cur, hv, _⟩
        · cases hv; exact ⟨rfl, rfl⟩
        · cases hv
      obtain ⟨rfl, rfl⟩ := hk0
      have := h4.2 ⟨rfl, rfl⟩
      simp at this; exact this.1
  refine L.va ?_ (h a' c2 w' h2 h3 hbel hnone)
  simp only [execOp, resolve, invoke, builtin, Sem.run_bind, Sem.run_pure, Result.andThen_ok, List.map_toArray, List.map_cons, List.map_nil, hx, hy, hr]
end

section
variable {P : Program} {n : Nat} {Q : Exit → Env → World → Prop} {e : Env} {w : World} {ops : Array Oper} {rest : List Oper}
variable {d : Nat} {ty : TypeId} {ps : String} {af : Array Edge} {T E : TypeId} {x y z : Operand}
/-- append(s, x...): s the call's own, x whatever slice, nil too. -/
theorem L.appendAny {B s bytes m c' : Nat} {a src : Option Addr} {k c : Nat} {xs news : List Value} {zv : Value} (hx : ev e x = .slice a k c) (hy : ev e y = .slice src m c') (hT : P.underlying T = some (.slice E))
    (hi : (P.info? E).map (fun i => (i.zero, i.size, i.bytes)) = some (some zv, s, bytes)) (hz : zv.cells.size = s) (hs : 0 < s) (hown : Own w B E s a k c xs) (hsrc : src = none → m = 0 ∧ c' = 0)
    (hl : news.length = m * s) (hnews : ∀ ad, src = some ad → ∀ (j : Nat) u, news[j]? = some u → w.cell? (ad.add j) = some u) (h1 : ∀ u ∈ news, u.oneCell' = true) (hmax : k + m ≤ 9223372036854775807) (hb : (k + m) * bytes ≤ 140737488355328) (hB : B ≤ w.heap.size)
    (h : ∀ a' c2 w', Own w' B E s a' (k + m) c2 (xs ++ news) → w.grownBy w' (Value.ownBlock (.slice a k c)) → Below B w w' → (a' = none ↔ a = none ∧ m = 0) → L P n ops Q rest (upd e d (.slice a' (k + m) c2)) w') :
    L P n ops Q (⟨some d, .call ⟨.builtin .append, #[x, y], #[T, T]⟩, ty, ps, af, none⟩ :: rest) e w := by
  cases src with
  | some ad => exact L.append hx hy hT hi hz hs hown hl (hnews ad rfl) h1 hmax hb hB h
  | none =>
    obtain ⟨rfl, rfl⟩ := hsrc rfl
    obtain ⟨i, hi'⟩ : ∃ i, P.info? E = some i := by cases hh : P.info? E with | none => rw [hh] at hi; cases hi | some i => exact ⟨i, rfl⟩
    have hr := run_append_owned_none (P := P) (w := w) B T ty E i s hT hi' (.slice a k c) k xs hown
    have hn : news = [] := List.eq_nil_of_length_eq_zero (by omega)
    subst hn
    refine L.va (v := .slice a (k + 0) c) (w' := w) ?_ (h a c w (by simpa using hown) ⟨rfl, rfl, rfl, Nat.le_refl _, fun _ _ _ => rfl⟩ (Below.refl _ _) (by simp))
    simp only [execOp, resolve, invoke, builtin, Sem.run_bind, Sem.run_pure, Result.andThen_ok, List.map_toArray, List.map_cons, List.map_nil, hx, hy, hr]
    rfl
end

section
variable {P : Program} {ρ : Operand → Value} {w : World} {d : Option Nat} {ty : TypeId} {ps : String} {af : Array Edge} {g : Option (Nat × Bool)} {x y : Operand} {T E : TypeId}
/-- s[:k] -/
theorem x_sliceTo {a : Option Addr} {n c k s : Nat} (hx : ρ x = .slice a n c) (hy : ρ y = .int .i64 (k : Int)) (hT : P.underlying T = some (.slice E)) (hs : (P.info? E).map (·.size) = some s) (hk : k ≤ c) :
    (execOp ρ ⟨d, .slice T x none (some y) none, ty, ps, af, g⟩).run P w = .ok (.value (.slice a k c)) w := by
  have h0 : ∀ q : Addr, q.add 0 = q := fun q => by simp [Addr.add]
  have h1 : a.map (fun q => q.add 0) = a := by cases a <;> simp [h0]
  have h2 : (0 : Int) ≤ (k : Int) ∧ (k : Int) ≤ (c : Int) := by omega
  simp [execOp, Instr.sliceAt, Instr.slice, Instr.sliceBounds, Instr.sliceBound, hx, hy, asIntOf, run_underlying hT, run_sizeOf hs, h2, hk]
  intro _; exact h1
/-- arr[:k] of an array in a variable. -/
theorem x_sliceArr {a : Addr} {n k s : Nat} (hx : ρ x = .pointer (some a)) (hy : ρ y = .int .i64 (k : Int)) (hT : P.underlying T = some (.array n E)) (hs : (P.info? E).map (·.size) = some s) (hk : k ≤ n) :
    (execOp ρ ⟨d, .slice T x none (some y) none, ty, ps, af, g⟩).run P w = .ok (.value (.slice (some a) k n)) w := by
  have h0 : ∀ q : Addr, q.add 0 = q := fun q => by simp [Addr.add]
  have h2 : (0 : Int) ≤ (k : Int) ∧ (k : Int) ≤ (n : Int) := by omega
  simp [execOp, Instr.sliceAt, Instr.sliceBounds, Instr.sliceBound, hx, hy, asIntOf, Instr.sureAddr, run_underlying hT, run_sizeOf hs, h2, hk, h0]
theorem x_build {parts : List (Nat × Operand)} {vs : List (Nat × Value)} {cells : Array Value} (hv : parts.map (fun (i, y) => (i, ρ y)) = vs) (hb : P.built T vs = some cells) :
    (execOp ρ ⟨d, .build T parts.toArray, ty, ps, af, g⟩).run P w = .ok (.value (.agg cells)) w := by
  subst hv
  have := run_build (P := P) w T (parts.map (fun (i, y) => (i, ρ y))).toArray cells (by simpa using hb)
  simp only [execOp, List.map_toArray, Sem.run_bind, this, Result.andThen_ok, Sem.run_pure]
theorem x_eqNil {a : Option Addr} {n c : Nat} (hx : ρ x = .slice a n c) (hy : ρ y = .slice none 0 0) (hT : P.underlying T = some (.slice E)) :
    (execOp ρ ⟨d, .binOp .eql T x y T, ty, ps, af, g⟩).run P w = .ok (.value (.bool a.isNone)) w := by
  have h1 : (Op.equalIn 10000 T (.slice a n c) (.slice none 0 0)).run P w = .ok a.isNone w := by
    rw [show (10000 : Nat) = 9999 + 1 from rfl, Op.equalIn]
    cases a <;> simp [run_underlying hT]
  simp only [execOp, hx, hy, eqGuard_at_slice, binOp, Op.equal, Op.maxDepth, pure_bind, Sem.run_bind, h1, Result.andThen_ok, Sem.run_pure]
end

/-! ### Cells as functions -/
def arr (n : Nat) (f : Nat → Value) : Array Value := ((List.range n).map f).toArray
theorem arr_size (n : Nat) (f : Nat → Value) : (arr n f).size = n := by simp [arr]
theorem arr_get {n : Nat} {f : Nat → Value} {i : Nat} (h : i < n) : (arr n f)[i]? = some (f i) := by simp [arr, h]
theorem arr_set {n : Nat} {f : Nat → Value} {i : Nat} {v : Value} : (arr n f).setIfInBounds i v = arr n (fun x => if x = i then v else f x) := by
  apply Array.ext_getElem?
  intro j
  rw [Array.getElem?_setIfInBounds]
  by_cases hj : j < n
  · by_cases hij : i = j
    · subst hij; rw [if_pos rfl, if_pos (by rw [arr_size]; exact hj), arr_get hj]; simp
    · simp [hij, arr_get hj, Ne.symm hij]
  · have h1 : (arr n f)[j]? = none := Array.getElem?_eq_none (by rw [arr_size]; omega)
    have h2 : (arr n (fun x => if x = i then v else f x))[j]? = none := Array.getElem?_eq_none (by rw [arr_size]; omega)
    rw [h1, h2]
    by_cases hij : i = j
    · subst hij; rw [if_pos rfl, if_neg (by rw [arr_size]; exact hj)]
    · rw [if_neg hij]
theorem arr_congr {n : Nat} {f g : Nat → Value} (h : ∀ i, i < n → f i = g i) : arr n f = arr n g := by
  unfold arr; congr 1; exact List.map_congr_left (fun i hi => h i (List.mem_range.1 hi))
theorem arr_rep (n : Nat) (v : Value) : Array.replicate n v = arr n (fun _ => v) := by
  apply Array.ext_getElem?
  intro j
  by_cases hj : j < n
  · simp [arr_get hj, hj]
  · rw [Array.getElem?_eq_none (by simp; omega), Array.getElem?_eq_none (by rw [arr_size]; omega)]
theorem lst_snoc (n : Nat) (f : Nat → Value) : (List.range (n + 1)).map f = (List.range n).map f ++ [f n] := by simp [List.range_succ]

theorem grown_setCell (w : World) (p : Addr) (v : Value) : w.grownBy (w.setCell p v) (some p.block) :=
  ⟨rfl, rfl, rfl, by simp [World.setCell], fun k _ hk => Below.heap_setCell _ _ _ _ (fun h => hk (by rw [h]))⟩

theorem Blk.congrA {w : World} {b n : Nat} {f g : Nat → Value} {T : TypeId} (h : Blk w b (arr n f) T) (hfg : ∀ i, i < n → f i = g i) : Blk w b (arr n g) T := by rw [← arr_congr hfg]; exact h
/-- f with i's value turned. -/
def upf {α : Type} (f : Nat → α) (i : Nat) (v : α) : Nat → α := fun k => if k = i then v else f k
/-! ### Rows -/
/-- A slice of m slices of len cells each. -/
structure RowsAt (w : World) (a : Option Addr) (m len : Nat) (V : Nat → Nat → Value) : Prop where
  sl : SL a m
  row : ∀ {i}, i < m → ∃ r c, w.cell? ⟨ab a, ao a + i * 1, none⟩ = some (.slice r len c) ∧ SL r len ∧ ∀ {k}, k < len → w.cell? ⟨ab r, ao r + k * 1, none⟩ = some (V i k)
theorem RowsAt.keep {w w' : World} {a : Option Addr} {m len : Nat} {V : Nat → Nat → Value} (h : RowsAt w a m len V) (hb : Below w.heap.size w w') : RowsAt w' a m len V :=
  ⟨h.sl, fun hi => let ⟨r, c, h1, h2, h3⟩ := h.row hi; ⟨r, c, bl0 hb h1, h2, fun hk => bl0 hb (h3 hk)⟩⟩
theorem RowsAt.congr {w : World} {a : Option Addr} {m len : Nat} {V V' : Nat → Nat → Value} (h : RowsAt w a m len V) (hV : ∀ i k, i < m → k < len → V i k = V' i k) : RowsAt w a m len V' :=
  ⟨h.sl, fun hi => let ⟨r, c, h1, h2, h3⟩ := h.row hi; ⟨r, c, h1, h2, fun hk => by rw [← hV _ _ hi hk]; exact h3 hk⟩⟩
theorem RowsAt.le {w : World} {a : Option Addr} {m m' len : Nat} {V : Nat → Nat → Value} (h : RowsAt w a m len V) (hm : m' ≤ m) : RowsAt w a m' len V :=
  ⟨h.sl.le hm, fun hi => h.row (by omega)⟩
theorem RowsAt.nil (w : World) (a : Option Addr) (len : Nat) (V : Nat → Nat → Value) : RowsAt w a 0 len V := ⟨SL.zero a, fun hi => by omega⟩

/-- Rows that the call has made: block R i has row i. -/
def rowsL (R : Nat → Nat) (C : Nat → Nat) (len m : Nat) : List Value := (List.range m).map fun i => .slice (some ⟨R i, 0, none⟩) len (C i)
theorem rowsL_snoc (R C : Nat → Nat) (len m r c : Nat) : rowsL R C len m ++ [.slice (some ⟨r, 0, none⟩) len c] = rowsL (upf R m r) (upf C m c) len (m + 1) := by
  unfold rowsL
  rw [lst_snoc]
  congr 1
  · refine List.map_congr_left fun i hi => ?_
    have := List.mem_range.1 hi
    simp [upf, show i ≠ m by omega]
  · simp [upf]
theorem rowsL_get {R C : Nat → Nat} {len m i : Nat} (h : i < m) : (rowsL R C len m)[i]? = some (.slice (some ⟨R i, 0, none⟩) len (C i)) := by simp [rowsL, h]

/-- m rows have been made, of len cells of type T each; row i reads as V i. The blocks lie from B on. -/
structure Made (w : World) (B : Nat) (E T : TypeId) (a : Option Addr) (m c len : Nat) (R C : Nat → Nat) (A : Nat → Array Value) : Prop where
  own : Own w B E 1 a m c (rowsL R C len m)
  blk : ∀ i, i < m → B ≤ R i ∧ Blk w (R i) (A i) T
theorem Made.nil (w : World) (B : Nat) (E T : TypeId) (len : Nat) (R C : Nat → Nat) (A : Nat → Array Value) : Made w B E T none 0 0 len R C A := ⟨Own.nil w B E 1, fun i hi => by omega⟩
theorem Made.keep {w w' : World} {B : Nat} {E T : TypeId} {a : Option Addr} {m c len : Nat} {R C : Nat → Nat} {A : Nat → Array Value} (h : Made w B E T a m c len R C A) (hb : Below w.heap.size w w') : Made w' B E T a m c len R C A :=
  ⟨h.own.keep hb, fun i hi => ⟨(h.blk i hi).1, (h.blk i hi).2.keep hb⟩⟩
theorem Made.grown {w w' : World} {B : Nat} {E T : TypeId} {a : Option Addr} {m c len r : Nat} {R C : Nat → Nat} {A : Nat → Array Value} (h : Made w B E T a m c len R C A) (hg : w.grownBy w' (some r)) (ha : a ≠ none → ab a ≠ r) (hr : ∀ i, i < m → R i ≠ r) : Made w' B E T a m c len R C A := by
  refine ⟨?_, fun i hi => ⟨(h.blk i hi).1, (h.blk i hi).2.grown hg (by simpa using hr i hi)⟩⟩
  cases a with
  | none => exact World.ownsRow.kept h.own hg (.inl rfl)
  | some x => exact h.own.grown hg (by simpa using ha (by simp))
theorem Made.rows {w : World} {B : Nat} {E T : TypeId} {a : Option Addr} {m c len : Nat} {R C : Nat → Nat} {A : Nat → Array Value} (h : Made w B E T a m c len R C A) {V : Nat → Nat → Value} (hA : ∀ i k, i < m → k < len → (A i)[k]? = some (V i k)) : RowsAt w a m len V :=
  ⟨h.own.sl, fun {i} hi => ⟨some ⟨R i, 0, none⟩, C i, by
    have := h.own.cell (rowsL_get (R := R) (C := C) (len := len) hi)
    rw [h.own.off, Nat.zero_add, Nat.mul_one]; exact this, SL.mk _ _ _, fun {k} hk => by
    show w.cell? ⟨R i, 0 + k * 1, none⟩ = _
    rw [Nat.zero_add, Nat.mul_one]
    exact (h.blk i hi).2.cell (hA i k hi hk)⟩⟩
/-- One row more. -/
theorem Made.snoc {w w' : World} {B : Nat} {E T : TypeId} {a a' : Option Addr} {m c c' len r rc : Nat} {R C : Nat → Nat} {A : Nat → Array Value} {x : Array Value} (h : Made w B E T a m c len R C A) (hET : E ≠ T) (hr : B ≤ r) (hx : Blk w r x T)
    (hg : w.grownBy w' (Value.ownBlock (.slice a m c))) (ho : Own w' B E 1 a' (m + 1) c' (rowsL R C len m ++ [.slice (some ⟨r, 0, none⟩) len rc])) (hA : A m = x) :
    Made w' B E T a' (m + 1) c' len (upf R m r) (upf C m rc) A := by
  rw [rowsL_snoc] at ho
  have hne : ∀ {b : Nat} {cs : Array Value}, Blk w b cs T → some b ≠ Value.ownBlock (.slice a m c) := by
    intro b cs hB hh
    cases a with
    | none => cases hh
    | some q =>
      simp only [Value.ownBlock, Option.some.injEq] at hh
      obtain ⟨cur, hc, _⟩ := h.own.row (by simp)
      exact (hc.ne hB hET) hh.symm
  refine ⟨ho, fun i hi => ?_⟩
  by_cases him : i = m
  · subst him
    simp only [upf, if_true]
    exact ⟨hr, by rw [hA]; exact hx.grown hg (hne hx)⟩
  · have hb := h.blk i (by omega)
    simp only [upf, him, if_false]
    exact ⟨hb.1, hb.2.grown hg (hne hb.2)⟩

end Go.Vc
