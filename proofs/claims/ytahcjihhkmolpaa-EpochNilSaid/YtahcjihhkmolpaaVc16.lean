/- Walks with known numbers: sums, lengths, elements of slices whose cells are known one by one. -/
import Derived.Test.YtahcjihhkmolpaaVc15
import Derived.Scope
namespace Go.Vc
open Go Go.RowKit
theorem below_none {w w' : World} {k c : Nat} (h : w.grownBy w' (Value.ownBlock (.slice none k c))) : Below w.heap.size w w' := ⟨h.os, h.tape, h.output, h.size, fun b hb => h.block b hb (by simp [Value.ownBlock])⟩
section
variable {w w' w0 : World} {B E : Nat} {s : Nat} {a : Option Addr} {n c : Nat} {xs : List Value}
theorem Own.cellK (h : Own w B E s a n c xs) {o k : Nat} {v : Value} (ho : o = ao a + k) (hv : xs[k]? = some v) : w.cell? ⟨ab a, o, none⟩ = some v := by
  rw [ho, h.off, Nat.zero_add]; exact h.cell hv
theorem Own.aggK (h : Own w B E s a n c xs) {o k : Nat} {l : List Value} (ho : o = ao a + k) (hl : (xs.drop k).take l.length = l) : ∀ (j : Nat) (v : Value), l[j]? = some v → w.cell? ⟨ab a, o + j, none⟩ = some v := by
  intro j v hj
  rw [ho, h.off, Nat.zero_add]
  refine h.cell ?_
  rw [← hl, List.getElem?_take] at hj
  split at hj
  · rw [List.getElem?_drop] at hj; exact hj
  · cases hj
theorem Own.down {B' : Nat} (h : Own w B' E s a n c xs) (hB : B ≤ B') : Own w B E s a n c xs := by
  refine ⟨h.1, ?_⟩
  rcases h.2 with h2 | ⟨g, cap, cur, hv, hb, hg⟩
  · exact .inl h2
  · exact .inr ⟨g, cap, cur, hv, Nat.le_trans hB hb, hg⟩
theorem Own.src (h : Own w B E s a n c xs) {news : List Value} (hn : news.length ≤ n * s) (hx : ∀ (j : Nat) (u : Value), news[j]? = some u → xs[j]? = some u) (ad : Addr) (had : a = some ad) (j : Nat) (u : Value) (hj : news[j]? = some u) : w.cell? (ad.add j) = some u := by
  obtain ⟨r, hr⟩ := Own.some_eq h (by rw [had]; simp)
  rw [hr] at had; cases had
  have := h.cell (hx j u hj)
  rw [hr] at this
  rw [Addr.add_lit, Nat.zero_add]
  exact this
theorem Own.ofBlk {b : Nat} {cs : Array Value} (h : Blk w b cs E) (hs : cs.size = c * s) (hb : B ≤ b) (hn : n ≤ c) (hm : c ≤ maxLen) : Own w B E s (some ⟨b, 0, none⟩) n c (cs.toList.take (n * s)) := by
  refine ⟨?_, .inr ⟨b, c, cs, rfl, hb, h, hn, hm, hs, rfl⟩⟩
  rw [List.length_take, Array.length_toList, hs]
  exact Nat.min_eq_left (Nat.mul_le_mul_right s hn)
theorem ModT.appOwn {TS : List TypeId} (h : ModT w0 w B TS) (hO : Own w w0.heap.size E s a n c xs) (hg : w.grownBy w' (Value.ownBlock (.slice a n c))) (hB : B ≤ w0.heap.size) : ModT w0 w' B TS := by
  cases a with
  | none => exact h.step (below_none hg) (Nat.le_trans hB h.size)
  | some p =>
    obtain ⟨cur, h1, h2, _⟩ := hO.row (by simp)
    exact h.own (b := ab (some p)) hg h2 hB
theorem Own.ne {b : Nat} {cs : Array Value} {T : TypeId} (F : Fresh w w' b cs T) (h : Own w B E s a n c xs) : a ≠ none → ab a ≠ b := fun ha => by have h1 := h.lt ha; have := F.here; omega
end
section
variable {P : Program} {ρ : Operand → Value} {w : World} {d : Option Nat} {ty : TypeId} {ps : String} {af : Array Edge} {g : Option (Nat × Bool)} {x y : Operand} {T T' E : TypeId}
theorem x_lenK {a : Option Addr} {n c : Nat} {m : Int} {aT : Array TypeId} (hm : ((n : Nat) : Int) = m) (hx : ρ x = .slice a n c) (hT : P.underlying T = some (.slice E)) (hA : aT[0]? = some T) : (execOp ρ ⟨d, .call ⟨.builtin .len, #[x], aT⟩, ty, ps, af, g⟩).run P w = .ok (.value (.int .i64 m)) w := by
  rw [← hm]; exact x_len hx hT hA
theorem x_addK {m k r : Int} (hr : m + k = r) (h : -9223372036854775808 ≤ r ∧ r ≤ 9223372036854775807) (hx : ρ x = .int .i64 m) (hy : ρ y = .int .i64 k) : (execOp ρ ⟨d, .binOp .add T x y T', ty, ps, af, g⟩).run P w = .ok (.value (.int .i64 r)) w := by
  subst hr; exact x_addI hx hy h
theorem x_subK {m k r : Int} (hr : m - k = r) (h : -9223372036854775808 ≤ r ∧ r ≤ 9223372036854775807) (hx : ρ x = .int .i64 m) (hy : ρ y = .int .i64 k) : (execOp ρ ⟨d, .binOp .sub T x y T', ty, ps, af, g⟩).run P w = .ok (.value (.int .i64 r)) w := by
  subst hr; exact x_subI hx hy h
theorem x_remK {m k r : Int} (h0 : k ≠ 0) (hr : m.tmod k = r) (hx : ρ x = .int .i64 m) (hy : ρ y = .int .i64 k) : (execOp ρ ⟨d, .binOp .rem T x y T', ty, ps, af, g⟩).run P w = .ok (.value (.int .i64 r)) w := by
  subst hr; exact x_rem hx hy h0
theorem x_boolK {op : BinOp} {b : Bool} {r : Bool} (hr : b = r) (h : (execOp ρ ⟨d, .binOp op T x y T', ty, ps, af, g⟩).run P w = .ok (.value (.bool b)) w) : (execOp ρ ⟨d, .binOp op T x y T', ty, ps, af, g⟩).run P w = .ok (.value (.bool r)) w := by
  subst hr; exact h
end
theorem x_copyNil {P : Program} {ρ : Operand → Value} {w : World} {d : Option Nat} {ty : TypeId} {ps : String} {af : Array Edge} {g : Option (Nat × Bool)} {x y : Operand} {T E : TypeId} {ad : Addr} {dl dc s : Nat} (hx : ρ x = .slice (some ad) dl dc) (hy : ρ y = .slice none 0 0) (hT : P.underlying T = some (.slice E)) (hs : (P.info? E).map (·.size) = some s) :
    (execOp ρ ⟨d, .call ⟨.builtin .copy, #[x, y], #[T, T]⟩, ty, ps, af, g⟩).run P w = .ok (.value (.int .i64 0)) w := by
  have hr := run_copy_nil (P := P) w T T ty E ad dl dc hT (by cases hh : P.info? E <;> simp [hh] at hs ⊢)
  simp only [execOp, resolve, invoke, builtin, Sem.run_bind, Sem.run_pure, Result.andThen_ok, List.map_toArray, List.map_cons, List.map_nil, hx, hy, hr]
  rfl
/-- A scope that nobody jumps in. -/
def noG (Q : Exit → Env → World → Prop) : Exit → Env → World → Prop
  | .goto _, _, _ => False
  | x, e, w => Q x e w
section
variable {P : Program} {n : Nat} {Q : Exit → Env → World → Prop} {e : Env} {w : World}
theorem W.scope {c : Code} (h : W P n c (noG Q) e w) : W P n (.scope c) Q e w := by
  intro a ha
  refine wp_scope_straight (wp_mono (h a ha) ?_)
  rintro x a' w' ⟨e', r, q⟩
  cases x <;> first | exact ⟨e', r, q⟩ | exact q.elim
theorem N.nrm (h : Q .normal e w) : noG Q .normal e w := h
theorem N.ret (h : Q .ret e w) : noG Q .ret e w := h
theorem N.exit {id : Nat} (h : Q (.exit id) e w) : noG Q (.exit id) e w := h
end
end Go.Vc
