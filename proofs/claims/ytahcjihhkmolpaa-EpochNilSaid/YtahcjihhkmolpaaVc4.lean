/- Memory by blocks: what a call makes for itself, and what was there before it. -/
import Derived.Test.YtahcjihhkmolpaaVc3
namespace Go.Vc
open Go Go.RowKit

/-- Block b is a row of cells, none of them frozen. -/
def Blk (w : World) (b : Nat) (cs : Array Value) (T : TypeId) : Prop := w.heap[b]? = some (.cells cs T (0, 0))

theorem Blk.lt {w : World} {b : Nat} {cs : Array Value} {T : TypeId} (h : Blk w b cs T) : b < w.heap.size := (Array.getElem?_eq_some_iff.1 h).1
theorem Blk.cell {w : World} {b o : Nat} {cs : Array Value} {T : TypeId} {v : Value} (h : Blk w b cs T) (hv : cs[o]? = some v) : w.cell? ⟨b, o, none⟩ = some v := by
  unfold Blk at h; simp [World.cell?, h, hv]
theorem Blk.frozen {w : World} {b o : Nat} {cs : Array Value} {T : TypeId} (h : Blk w b cs T) : w.frozen? ⟨b, o, none⟩ = false := by
  unfold Blk at h; simp [World.frozen?, h]
theorem Blk.set {w : World} {b o : Nat} {cs : Array Value} {T : TypeId} (h : Blk w b cs T) (v : Value) : Blk (w.setCell ⟨b, o, none⟩ v) b (cs.setIfInBounds o v) T := by
  unfold Blk at *
  simp only [World.setCell, Array.getElem?_modify, h]
  simp
theorem Blk.setOther {w : World} {b : Nat} {p : Addr} {cs : Array Value} {T : TypeId} (h : Blk w b cs T) (hp : b ≠ p.block) (v : Value) : Blk (w.setCell p v) b cs T := by
  unfold Blk at *
  rw [Below.heap_setCell _ _ _ _ hp]; exact h
theorem Blk.below {B : Nat} {w w' : World} {b : Nat} {cs : Array Value} {T : TypeId} (h : Blk w b cs T) (hb : Below B w w') (hlt : b < B) : Blk w' b cs T := (hb.block b hlt).trans h
theorem Blk.keep {w w' : World} {b : Nat} {cs : Array Value} {T : TypeId} (h : Blk w b cs T) (hb : Below w.heap.size w w') : Blk w' b cs T := h.below hb h.lt
theorem Blk.drew {w : World} {b : Nat} {cs : Array Value} {T : TypeId} (h : Blk w b cs T) : Blk w.drew b cs T := h
theorem setCell_size (w : World) (p : Addr) (v : Value) : (w.setCell p v).heap.size = w.heap.size := by simp [World.setCell]

/-- A cell that was there when the call began. -/
theorem bl0 {w0 w : World} (h : Below w0.heap.size w0 w) {p : Addr} {v : Value} (hc : w0.cell? p = some v) : w.cell? p = some v := by
  rw [h.cell (World.block_lt_of_cell? w0 _ hc)]; exact hc

/-- A new block. -/
structure Fresh (w w1 : World) (b : Nat) (cs : Array Value) (T : TypeId) : Prop where
  here : b = w.heap.size
  below : Below w.heap.size w w1
  size : w1.heap.size = w.heap.size + 1
  blk : Blk w1 b cs T

theorem fresh_alloc (w : World) (cs : Array Value) (T : TypeId) : Fresh w (w.alloc (.cells cs T)) w.heap.size cs T :=
  ⟨rfl, (Below.refl _ _).alloc (Nat.le_refl _) _, by simp, by unfold Blk; show (w.heap.push _)[_]? = _; simp⟩

section
variable {P : Program} {n : Nat} {Q : Exit → Env → World → Prop} {e : Env} {w : World} {ops : Array Oper} {rest : List Oper}
variable {d : Nat} {ty : TypeId} {ps : String} {af : Array Edge} {T : TypeId} {x y : Operand}

theorem L.box {v : Value} {cs : Array Value} (hx : ev e x = v) (hcs : v.cells = cs) (k : ∀ w1 b, Fresh w w1 b cs T → L P n ops Q rest (upd e d (.pointer (some ⟨b, 0, none⟩))) w1) :
    L P n ops Q (⟨some d, .box T x, ty, ps, af, none⟩ :: rest) e w := by
  subst hcs
  exact L.va (x_box hx) (k _ _ (fresh_alloc w _ T))
theorem L.alloc {v : Value} {cs : Array Value} (hz : (P.info? T).bind (·.zero) = some v) (hcs : v.cells = cs) (k : ∀ w1 b, Fresh w w1 b cs T → L P n ops Q rest (upd e d (.pointer (some ⟨b, 0, none⟩))) w1) :
    L P n ops Q (⟨some d, .alloc T, ty, ps, af, none⟩ :: rest) e w := by
  subst hcs
  exact L.va (x_alloc hz) (k _ _ (fresh_alloc w _ T))
/-- A store of one cell into a row of the call's own. -/
theorem L.store {b o : Nat} {cs : Array Value} {E : TypeId} {v : Value} (hx : ev e x = .pointer (some ⟨b, o, none⟩)) (hy : ev e y = v) (hs : (P.info? T).map (·.size) = some 1) (h1 : v.oneCell' = true) (hB : Blk w b cs E) (ho : o < cs.size)
    (k : L P n ops Q rest e (w.setCell ⟨b, o, none⟩ v)) : L P n ops Q (⟨none, .store T x y, ty, ps, af, none⟩ :: rest) e w :=
  L.st (x_store hx hy hs h1 (hB.cell (Array.getElem?_eq_getElem ho)) hB.frozen) k

/-- cells o .. of cs replaced by vs. -/
def setRow (cs : Array Value) (o : Nat) : List Value → Array Value
  | [] => cs
  | v :: vs => setRow (cs.setIfInBounds o v) (o + 1) vs

theorem setRow_size (o : Nat) : ∀ (vs : List Value) (cs : Array Value), (setRow cs o vs).size = cs.size := by
  intro vs
  induction vs generalizing o with
  | nil => intro cs; rfl
  | cons v vs ih => intro cs; simp [setRow, ih]

/-- The world with block b turned. -/
def setBlk (w : World) (b : Nat) (cs : Array Value) (T : TypeId) : World := { w with heap := w.heap.setIfInBounds b (.cells cs T (0, 0)) }
theorem setBlk_size (w : World) (b : Nat) (cs : Array Value) (T : TypeId) : (setBlk w b cs T).heap.size = w.heap.size := by simp [setBlk]
theorem setBlk_self {w : World} {b : Nat} (cs cs' : Array Value) (T : TypeId) (h : Blk w b cs T) : Blk (setBlk w b cs' T) b cs' T := by
  have := h.lt
  simp [Blk, setBlk, this]
theorem setBlk_other {w : World} {b k : Nat} (cs' : Array Value) (T : TypeId) (h : k ≠ b) : (setBlk w b cs' T).heap[k]? = w.heap[k]? := by
  simp only [setBlk]
  rw [Array.getElem?_setIfInBounds_ne (Ne.symm h)]
theorem Blk.setBlkOther {w : World} {b k : Nat} {cs : Array Value} {E : TypeId} (h : Blk w k cs E) (hk : k ≠ b) (cs' : Array Value) (T : TypeId) : Blk (setBlk w b cs' T) k cs E := by
  unfold Blk; rw [setBlk_other _ _ hk]; exact h
theorem Below.setBlk {B : Nat} {a w : World} (h : Below B a w) {b : Nat} (hb : B ≤ b) (cs : Array Value) (T : TypeId) : Below B a (Vc.setBlk w b cs T) :=
  h.trans ⟨rfl, rfl, rfl, by simp [Vc.setBlk], fun k hk => setBlk_other _ _ (by omega)⟩
theorem setCell_setBlk {w : World} {b o : Nat} {cs : Array Value} {T : TypeId} (h : Blk w b cs T) (v : Value) : w.setCell ⟨b, o, none⟩ v = setBlk w b (cs.setIfInBounds o v) T := by
  have hl := h.lt
  have hg : w.heap[b] = .cells cs T (0, 0) := by have := h; unfold Blk at this; rw [Array.getElem?_eq_getElem hl] at this; exact Option.some.inj this
  simp only [World.setCell, Vc.setBlk]
  congr 1
  apply Array.ext_getElem?
  intro i
  by_cases hi : i = b
  · subst hi
    rw [Array.getElem?_modify, if_pos rfl, Array.getElem?_eq_getElem hl, hg]
    simp [hl]
  · rw [Array.getElem?_modify, Array.getElem?_setIfInBounds_ne (Ne.symm hi), if_neg (Ne.symm hi)]
theorem setBlk_setBlk (w : World) (b : Nat) (cs cs' : Array Value) (T : TypeId) : setBlk (setBlk w b cs T) b cs' T = setBlk w b cs' T := by
  simp [setBlk]
theorem setBlk_same {w : World} {b : Nat} {cs : Array Value} {T : TypeId} (h : Blk w b cs T) : setBlk w b cs T = w := by
  have hl := h.lt
  have hg : w.heap[b] = .cells cs T (0, 0) := by have := h; unfold Blk at this; rw [Array.getElem?_eq_getElem hl] at this; exact Option.some.inj this
  have : w.heap.setIfInBounds b (.cells cs T (0, 0)) = w.heap := by
    apply Array.ext_getElem?
    intro i
    by_cases hi : i = b
    · subst hi; simp [hl, hg]
    · rw [Array.getElem?_setIfInBounds_ne (Ne.symm hi)]
  simp only [setBlk, this]

theorem run_storeCells_blk (b : Nat) (T : TypeId) : ∀ (vs : List Value) (o i : Nat) (cs : Array Value) (w : World), Blk w b cs T → o + i + vs.length ≤ cs.size → (∀ v ∈ vs, v.oneCell' = true) →
    (storeCells ⟨b, o, none⟩ vs i).run P w = .ok () (setBlk w b (setRow cs (o + i) vs) T)
  | [], o, i, cs, w, h, _, _ => by simp [storeCells, setRow, setBlk_same h]
  | v :: vs, o, i, cs, w, h, hl, h1 => by
    have ha : Addr.add ⟨b, o, none⟩ i = ⟨b, o + i, none⟩ := by
      unfold Addr.add; split
      · rename_i h0; simp [h0]
      · rfl
    have hlt : o + i < cs.size := by simp only [List.length_cons] at hl; omega
    have hc := h.cell (Array.getElem?_eq_getElem hlt)
    have ih := run_storeCells_blk b T vs o (i + 1) (cs.setIfInBounds (o + i) v) (setBlk w b (cs.setIfInBounds (o + i) v) T) (setBlk_self cs _ T h) (by simp only [List.length_cons] at hl; simp; omega) (fun u hu => h1 u (List.mem_cons_of_mem _ hu))
    rw [setBlk_setBlk] at ih
    simp only [storeCells, Sem.run_bind, ha, run_store P w _ v .plain (h1 v List.mem_cons_self), hc, h.frozen, Bool.false_eq_true, if_false, Result.andThen_ok, setCell_setBlk h v]
    rw [ih]
    rfl

/-- A store of a struct or an array into a row of the call's own. -/
theorem L.storeAgg {b o s : Nat} {cs vs : Array Value} {E : TypeId} {v : Value} (hx : ev e x = .pointer (some ⟨b, o, none⟩)) (hy : ev e y = v) (hvs : v.cells = vs) (hs : (P.info? T).map (·.size) = some s) (hl : vs.size = s) (h1 : ∀ v ∈ vs.toList, v.oneCell' = true) (hB : Blk w b cs E) (ho : o + s ≤ cs.size)
    (k : L P n ops Q rest e (setBlk w b (setRow cs o vs.toList) E)) : L P n ops Q (⟨none, .store T x y, ty, ps, af, none⟩ :: rest) e w := by
  have := run_storeCells_blk (P := P) b E vs.toList o 0 cs w hB (by simp; omega) h1
  refine L.st ?_ k
  simp [execOp, Instr.storeAt, hx, hy, Instr.sureAddr, storeVar, run_sizeOf hs, hvs, hl, this]
end

/-! ### Guarded pieces -/
section
variable {P : Program} {n : Nat} {Q : Exit → Env → World → Prop} {e : Env} {w : World} {ops : Array Oper}
/-- The slot tj holds the guard's Bool b; whichever it is, slot d holds v behind the first k operations; of G nothing is known then. -/
theorem L.meetB (k : Nat) (G : List Nat) (d : Nat) (v : Value) {tj : Nat} {b : Bool} {l : List Oper} (hb : e tj = .bool b)
    (ht : b = true → L P n ops (thenE (fun e' w' => w' = w ∧ e' d = v ∧ Agree G e' e) Q) (l.take k) (upd e tj (.bool true)) w)
    (hf : b = false → L P n ops (thenE (fun e' w' => w' = w ∧ e' d = v ∧ Agree G e' e) Q) (l.take k) (upd e tj (.bool false)) w)
    (h2 : ∀ f, L P n ops Q (l.drop k) (upd (hav G f e) d v) w) : L P n ops Q l e w := by
  refine L.meet k G d v ?_ h2
  cases b
  · have := hf rfl; rw [← upd_id hb] at this; exact this
  · have := ht rfl; rw [← upd_id hb] at this; exact this
theorem Agree.updSame {G : List Nat} {e' e : Env} {d : Nat} {v : Value} (hd : e d = v) (h : Agree G e' (Vc.upd e d v)) : Agree G e' e := fun t ht => by
  rw [h t ht, ← upd_id hd]
variable {Cl : World → Prop} {R : Env → Prop} {i : Nat}
theorem D.meetB (k : Nat) (G : List Nat) (d : Nat) (v : Value) {tj : Nat} {b : Bool} {l : List Oper} (hb : e tj = .bool b)
    (ht : b = true → QL P ops Cl (fun e' => e' d = v ∧ Agree G e' e) i (l.take k) (upd e tj (.bool true)))
    (hf : b = false → QL P ops Cl (fun e' => e' d = v ∧ Agree G e' e) i (l.take k) (upd e tj (.bool false)))
    (h2 : ∀ f, QL P ops Cl R (i + (l.take k).length) (l.drop k) (upd (hav G f e) d v)) : QL P ops Cl R i l e := by
  refine D.meet k G d v ?_ h2
  cases b
  · have := hf rfl; rw [← upd_id hb] at this; exact this
  · have := ht rfl; rw [← upd_id hb] at this; exact this
theorem Agree.hav {G G' : List Nat} {f e' e : Env} (hG : (G'.all G.contains) = true) (h : Agree G e' e) : Agree G (Vc.hav G' f e') e := fun t ht => by
  unfold Vc.hav
  split
  · rename_i h2
    have := List.all_eq_true.1 hG t (by simpa using h2)
    rw [this] at ht; cases ht
  · exact h t ht
end

/-! ### A slice's place -/
def ab (a : Option Addr) : Nat := (a.map (·.block)).getD 0
def ao (a : Option Addr) : Nat := (a.map (·.off)).getD 0
/-- A slice that has elements has a place. -/
def SL (a : Option Addr) (n : Nat) : Prop := 0 < n → a = some ⟨ab a, ao a, none⟩
theorem SL.zero (a : Option Addr) : SL a 0 := fun h => by omega
theorem SL.mk (b o n : Nat) : SL (some ⟨b, o, none⟩) n := fun _ => rfl
theorem SL.le {a : Option Addr} {n m : Nat} (h : SL a n) (hm : m ≤ n) : SL a m := fun h0 => h (by omega)

section
variable {P : Program} {ρ : Operand → Value} {w : World} {d : Option Nat} {ty : TypeId} {ps : String} {af : Array Edge} {g : Option (Nat × Bool)} {x y : Operand} {T E : TypeId}
theorem x_idx {a : Option Addr} {n c s : Nat} {i : Nat} (hx : ρ x = .slice a n c) (hy : ρ y = .int .i64 (i : Int)) (hT : P.underlying T = some (.slice E)) (hs : (P.info? E).map (·.size) = some s) (hS : SL a n) (h : i < n) :
    (execOp ρ ⟨d, .indexAddr T x y, ty, ps, af, g⟩).run P w = .ok (.value (.pointer (some ⟨ab a, ao a + i * s, none⟩))) w := by
  have h0 := hS (by omega)
  rw [h0] at hx
  exact x_index hx hy hT hs h
theorem x_idxI {a : Option Addr} {n c s : Nat} {i : Int} (hx : ρ x = .slice a n c) (hy : ρ y = .int .i64 i) (hT : P.underlying T = some (.slice E)) (hs : (P.info? E).map (·.size) = some s) (hS : SL a n) (h1 : 0 ≤ i) (h : i < n) :
    (execOp ρ ⟨d, .indexAddr T x y, ty, ps, af, g⟩).run P w = .ok (.value (.pointer (some ⟨ab a, ao a + i.toNat * s, none⟩))) w := by
  have h0 := hS (by omega)
  rw [h0] at hx
  exact x_indexI hx hy hT hs h1 h
end

section
variable {next : Env → World → Prop} {Q : Exit → Env → World → Prop} {e : Env} {w : World} {id id' : Nat}
theorem T.nrm (h : next e w) : thenE next Q .normal e w := h
theorem T.ret (h : Q .ret e w) : thenE next Q .ret e w := h
theorem T.exit (h : Q (.exit id) e w) : thenE next Q (.exit id) e w := h
theorem B.nrm (h : Q .normal e w) : inBlockE id Q .normal e w := h
theorem B.ret (h : Q .ret e w) : inBlockE id Q .ret e w := h
theorem B.exitEq (h : Q .normal e w) : inBlockE id Q (.exit id) e w := by simp only [inBlockE, if_true]; exact h
theorem B.exitNe (hne : id' ≠ id) (h : Q (.exit id') e w) : inBlockE id Q (.exit id') e w := by simp only [inBlockE, if_neg hne]; exact h
end
/-- '&&' and '||' of two tests. -/
theorem or_t {p : Prop} [Decidable p] {q : Prop} [Decidable (p ∨ q)] (h : decide p = true) : true = decide (p ∨ q) := (decide_eq_true (Or.inl (of_decide_eq_true h))).symm
theorem or_f {p : Prop} [Decidable p] {q : Prop} [Decidable q] [Decidable (p ∨ q)] (h : decide p = false) : decide q = decide (p ∨ q) := decide_eq_decide.2 ⟨Or.inr, fun h' => h'.resolve_left (of_decide_eq_false h)⟩
theorem and_f {p : Prop} [Decidable p] {q : Prop} [Decidable (p ∧ q)] (h : decide p = false) : false = decide (p ∧ q) := (decide_eq_false (fun h' => of_decide_eq_false h h'.1)).symm
theorem and_t {p : Prop} [Decidable p] {q : Prop} [Decidable q] [Decidable (p ∧ q)] (h : decide p = true) : decide q = decide (p ∧ q) := decide_eq_decide.2 ⟨fun h' => ⟨of_decide_eq_true h, h'⟩, fun h' => h'.2⟩
theorem cl_step {w0 w w' : World} (h : Below w0.heap.size w0 w) (h' : Below w.heap.size w w') : Below w0.heap.size w0 w' := h.trans (h'.mono h.size)
theorem cl_drew {w0 w : World} (h : Below w0.heap.size w0 w) : Below w0.heap.size w0 w.drew := h.drew
end Go.Vc
