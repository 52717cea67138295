/- What a step may turn, told by the types of blocks; stores into blocks that are known whole. -/
import Derived.Test.YtahcjihhkmolpaaVc9
import Derived.Laws.ResultCell
namespace Go.Vc
open Go Go.RowKit

/-- From w to w': below block B nothing has turned, nor has any block whose type is not among TS. -/
structure ModT (w w' : World) (B : Nat) (TS : List TypeId) : Prop where
  os : w'.os = w.os
  tape : w'.tape = w.tape
  output : w'.output = w.output
  size : w.heap.size ≤ w'.heap.size
  low : ∀ k, k < B → w'.heap[k]? = w.heap[k]?
  stay : ∀ k cs T, Blk w k cs T → TS.contains T = false → Blk w' k cs T
section
variable {w0 w w' : World} {B : Nat} {TS TS' : List TypeId}
theorem ModT.refl (w : World) (B : Nat) (TS : List TypeId) : ModT w w B TS := ⟨rfl, rfl, rfl, Nat.le_refl _, fun _ _ => rfl, fun _ _ _ h _ => h⟩
theorem ModT.trans (h : ModT w0 w B TS) (h' : ModT w w' B TS) : ModT w0 w' B TS :=
  ⟨h'.os.trans h.os, h'.tape.trans h.tape, h'.output.trans h.output, Nat.le_trans h.size h'.size, fun k hk => (h'.low k hk).trans (h.low k hk), fun k cs T hb hT => h'.stay k cs T (h.stay k cs T hb hT) hT⟩
theorem ModT.wide (h : ModT w w' B TS') (hs : (TS'.all TS.contains) = true) : ModT w w' B TS :=
  ⟨h.os, h.tape, h.output, h.size, h.low, fun k cs T hb hT => h.stay k cs T hb (by
    cases hc : TS'.contains T with
    | false => rfl
    | true =>
      have := List.all_eq_true.1 hs T (by simpa using hc)
      rw [hT] at this; cases this)⟩
theorem ModT.below (hb : Below w.heap.size w w') (hB : B ≤ w.heap.size) (TS : List TypeId) : ModT w w' B TS :=
  ⟨hb.os, hb.tape, hb.output, hb.size, fun k hk => hb.block k (by omega), fun _ _ _ h _ => h.keep hb⟩
/-- One step more: nothing that was there turns. -/
theorem ModT.step (h : ModT w0 w B TS) (hb : Below w.heap.size w w') (hB : B ≤ w.heap.size) : ModT w0 w' B TS := h.trans (ModT.below hb hB TS)
/-- A block of one of the types turns. -/
theorem ModT.put {b : Nat} {cs : Array Value} {T : TypeId} (hB : Blk w b cs T) (hg : w.grownBy w' (some b)) (hb : B ≤ b) (hT : TS.contains T = true) : ModT w w' B TS :=
  ⟨hg.os, hg.tape, hg.output, hg.size, fun k hk => by
    rcases Nat.lt_or_ge k w.heap.size with h1 | h1
    · exact hg.block k h1 (by simp; omega)
    · have := hB.lt; omega, fun k cs' T' h' hT' => h'.grown hg (by
    intro hk
    simp only [Option.some.injEq] at hk
    subst hk
    have : T' = T := by
      unfold Blk at hB h'
      rw [hB] at h'; cases h'; rfl
    subst this
    rw [hT] at hT'; cases hT')⟩
/-- A block that was not there at the beginning turns. -/
theorem ModT.own (h : ModT w0 w B TS) {b : Nat} (hg : w.grownBy w' (some b)) (hb : w0.heap.size ≤ b) (hB : B ≤ w0.heap.size) : ModT w0 w' B TS :=
  ⟨hg.os.trans h.os, hg.tape.trans h.tape, hg.output.trans h.output, Nat.le_trans h.size hg.size, fun k hk => by
    rw [← h.low k hk]
    exact hg.block k (by have := h.size; omega) (by simp; omega), fun k cs T hk hT => (h.stay k cs T hk hT).grown hg (by have := hk.lt; simp; omega)⟩
theorem Below.modT (h : Below B w0 w) (hm : ModT w w' B TS) : Below B w0 w' :=
  ⟨hm.os.trans h.os, hm.tape.trans h.tape, hm.output.trans h.output, Nat.le_trans h.size hm.size, fun k hk => (hm.low k hk).trans (h.block k hk)⟩
theorem Blk.mod {b : Nat} {cs : Array Value} {T : TypeId} (h : Blk w b cs T) (hm : ModT w w' B TS) (hT : TS.contains T = false) : Blk w' b cs T := hm.stay b cs T h hT
theorem Blk.low {b : Nat} {cs : Array Value} {T : TypeId} (h : Blk w b cs T) (hm : ModT w w' B TS) (hb : b < B) : Blk w' b cs T := (hm.low b hb).trans h
theorem Own.mod {B' s n c : Nat} {E : TypeId} {a : Option Addr} {xs : List Value} (h : Own w B' E s a n c xs) (hm : ModT w w' B TS) (hT : TS.contains E = false) : Own w' B' E s a n c xs := by
  refine ⟨h.1, ?_⟩
  rcases h.2 with h1 | ⟨g, cap, cur, hv, hbg, hg, hr⟩
  · exact .inl h1
  · exact .inr ⟨g, cap, cur, hv, hbg, hm.stay g cur E hg hT, hr⟩
/-- An append to a slice of the call's own. -/
theorem ModT.app {B' s k c n' c' : Nat} {E : TypeId} {a a' : Option Addr} {xs xs' : List Value} (h : Own w B' E s a k c xs) (hg : w.grownBy w' (Value.ownBlock (.slice a k c))) (hbel : Below B w w') (hT : TS.contains E = true) (_h' : Own w' B' E s a' n' c' xs') : ModT w w' B TS := by
  refine ⟨hg.os, hg.tape, hg.output, hg.size, hbel.block, fun j cs T hj hT' => ?_⟩
  refine hj.grown hg ?_
  cases a with
  | none => simp [Value.ownBlock]
  | some q =>
    intro hjq
    simp only [Value.ownBlock, Option.some.injEq] at hjq
    obtain ⟨cur, hc, -⟩ := h.row (by simp)
    subst hjq
    have : T = E := by
      unfold Blk at hj hc
      simp only [ab, Option.map_some, Option.getD_some] at hc
      rw [hj] at hc; cases hc; rfl
    subst this
    rw [hT] at hT'; cases hT'
theorem ModT.cell (hm : ModT w w' B TS) {p : Addr} {v : Value} (h : w.cell? p = some v) (hp : p.block < B) : w'.cell? p = some v := by
  rw [World.cell?_of_block (hm.low p.block hp)]; exact h
end

/-! ### Blocks that are known whole -/
theorem Blk.cellAt {w : World} {b : Nat} {cs : Array Value} {T : TypeId} (h : Blk w b cs T) (o : Nat) {v : Value} (hv : cs[o]? = some v) : w.cell? ⟨b, o, none⟩ = some v := h.cell hv
theorem Blk.aggAt {w : World} {b : Nat} {cs : Array Value} {T : TypeId} (h : Blk w b cs T) {o : Nat} {l : List Value} (hl : (cs.toList.drop o).take l.length = l) : ∀ (j : Nat) (v : Value), l[j]? = some v → w.cell? ⟨b, o + j, none⟩ = some v := by
  intro j v hj
  refine h.cell ?_
  rw [← hl] at hj
  rw [List.getElem?_take] at hj
  split at hj
  · rw [List.getElem?_drop] at hj
    simpa using hj
  · cases hj
section
variable {P : Program} {n : Nat} {ops : Array Oper} {Q : Exit → Env → World → Prop} {rest : List Oper} {e : Env} {w : World} {ty : TypeId} {ps : String} {af : Array Edge} {x y : Operand} {T : TypeId}
/-- A store of whatever size into a block that is known whole. -/
theorem L.put {b o s : Nat} {cs : Array Value} {vs : List Value} {E : TypeId} {v : Value} (cs' : Array Value) (hx : ev e x = .pointer (some ⟨b, o, none⟩)) (hy : ev e y = v) (hvs : v.cells.toList = vs) (hs : (P.info? T).map (·.size) = some s) (hl : vs.length = s) (h1 : vs.all Value.oneCell' = true) (hB : Blk w b cs E) (ho : o + s ≤ cs.size) (hcs : setRow cs o vs = cs')
    (k : ∀ w1, Blk w1 b cs' E → w.grownBy w1 (some b) → w1.heap.size = w.heap.size → L P n ops Q rest e w1) : L P n ops Q (⟨none, .store T x y, ty, ps, af, none⟩ :: rest) e w := by
  have hvs' : v.cells = vs.toArray := by rw [← hvs]
  refine L.storeAgg hx hy hvs' hs (by simpa using hl) (by simpa using h1) hB ho ?_
  rw [List.toList_toArray, hcs]
  exact k _ (setBlk_self _ _ _ hB) (gr_set (gr_refl _ _) (.inl rfl) _ _) (setBlk_size _ _ _ _)
end
theorem ends.cell {P : Program} {fn : Func} {R : Value → World → Prop} {x : Exit} {e : Env} {w : World} {t b : Nat} {cs : Array Value} {T E : TypeId} {u : TypeDesc} (hx : x = .normal ∨ x = .ret) (hr : fn.results = #[.cell t T])
    (he : e t = .pointer (some ⟨b, 0, Option.none⟩)) (hT : P.underlying T = some u) (hu : flatB u = false) (hs : (P.info? T).map (·.size) = some cs.size) (hB : Blk w b cs E) (h : R (.agg cs) w) : ends P fn R x e w := ends.cellArr hx hr he hT hu hs hB h
theorem ends.cellTmp {P : Program} {fn : Func} {R : Value → World → Prop} {x : Exit} {e : Env} {w : World} {t u b : Nat} {cs : Array Value} {T E : TypeId} {d : TypeDesc} (hx : x = .normal ∨ x = .ret) (hr : fn.results = #[.cell t T, .tmp u])
    (he : e t = .pointer (some ⟨b, 0, Option.none⟩)) (hT : P.underlying T = some d) (hu : flatB d = false) (hs : (P.info? T).map (·.size) = some cs.size) (hB : Blk w b cs E) (h : R (.tuple #[.agg cs, e u]) w) : ends P fn R x e w :=
  ⟨hx, _, fun tmps ht => by
    have h1 : (loadVar T ⟨b, 0, Option.none⟩).run P w = .ok (.agg cs) w := by
      have h2 : ∀ j v, cs.toList[j]? = some v → w.cell? ((⟨b, 0, Option.none⟩ : Addr).add j) = some v := fun j v hj => by
        rw [Addr.add_lit, Nat.zero_add]; exact hB.cell (by simpa using hj)
      have := run_loadCells_list (P := P) (w := w) ⟨b, 0, Option.none⟩ cs.toList h2
      simp only [Array.length_toList] at this
      simp [loadVar, run_isAgg hT, hu, run_sizeOf hs, this]
    have h3 : tmps.getD t undef = .pointer (some ⟨b, 0, Option.none⟩) := by rw [ht, he]
    rw [results_cell_tmp hr, h3]
    simp [asAddr, h1, ht], h⟩
end Go.Vc
namespace Go.Vc
open Go Go.RowKit
theorem ModT.put0 {w w' : World} {b : Nat} {cs : Array Value} {T : TypeId} (hB : Blk w b cs T) (hg : w.grownBy w' (some b)) : ModT w w' 0 [T] := ModT.put hB hg (Nat.zero_le _) (by simp)
theorem Blk.other {w w' : World} {b k : Nat} {cs : Array Value} {T : TypeId} (h : Blk w k cs T) (hg : w.grownBy w' (some b)) (hk : k ≠ b) : Blk w' k cs T := h.grown hg (by simpa using hk)
theorem Fresh.ne {w w1 : World} {b k : Nat} {cs cs' : Array Value} {T T' : TypeId} (F : Fresh w w1 b cs T) (h : Blk w k cs' T') : k ≠ b := by have := h.lt; have := F.here; omega
end Go.Vc
namespace Go.Vc
open Go Go.RowKit
theorem x_makeFuncL {P : Program} {ρ : Operand → Value} {w : World} {d : Option Nat} {ty : TypeId} {ps : String} {af : Array Edge} {g : Option (Nat × Bool)} {fn : Fn} {l : List Operand} {vs : List Value} (h : l.map ρ = vs) :
    (execOp ρ ⟨d, .makeFunc fn #[] l.toArray, ty, ps, af, g⟩).run P w = .ok (.value (.func fn #[] vs.toArray)) w := by
  subst h
  have : (execOp ρ ⟨d, .makeFunc fn #[] l.toArray, ty, ps, af, g⟩).run P w = .ok (.value (.func fn (#[].map ρ) (l.toArray.map ρ))) w := rfl
  rw [this]; simp
end Go.Vc
namespace Go.Vc
open Go Go.RowKit
section
variable {P : Program} {ρ : Operand → Value} {w : World} {d : Option Nat} {ty : TypeId} {ps : String} {af : Array Edge} {g : Option (Nat × Bool)} {x y : Operand} {T T' : TypeId}
/-- A counter's step back. -/
theorem x_dec {m : Nat} (hx : ρ x = .int .i64 ((m + 1 : Nat) : Int)) (hy : ρ y = .int .i64 1) (h : m < 9223372036854775807) : (execOp ρ ⟨d, .binOp .sub T x y T', ty, ps, af, g⟩).run P w = .ok (.value (.int .i64 (m : Int))) w := by
  rw [x_subI hx hy (by omega)]
  rw [show ((m + 1 : Nat) : Int) - 1 = (m : Int) by omega]
end
end Go.Vc
