/- Where an append lays its slice. -/
import Derived.Test.YtahcjihhkmolpaaVc7
namespace Go.Vc
open Go Go.RowKit
section
variable {P : Program} {n : Nat} {Q : Exit → Env → World → Prop} {e : Env} {w : World} {ops : Array Oper} {rest : List Oper}
variable {d : Nat} {ty : TypeId} {ps : String} {af : Array Edge} {T E : TypeId} {x y z : Operand}
/-- append(s, x...): s the call's own; the new slice lies where s lay, or behind all that there was. -/
theorem L.appendF {B s bytes m c' : Nat} {b k c : Nat} {xs news : List Value} {zv : Value} {ad : Addr} (hx : ev e x = .slice (some ⟨b, 0, none⟩) k c) (hy : ev e y = .slice (some ad) m c') (hT : P.underlying T = some (.slice E))
    (hi : (P.info? E).map (fun i => (i.zero, i.size, i.bytes)) = some (some zv, s, bytes)) (hz : zv.cells.size = s) (hs : 0 < s) (hown : Own w B E s (some ⟨b, 0, none⟩) k c xs)
    (hl : news.length = m * s) (hnews : ∀ (j : Nat) u, news[j]? = some u → w.cell? (ad.add j) = some u) (h1 : ∀ u ∈ news, u.oneCell' = true) (hmax : k + m ≤ 9223372036854775807) (hb : (k + m) * bytes ≤ 140737488355328) (hB : B ≤ w.heap.size)
    (h : ∀ b' c2 w', Own w' B E s (some ⟨b', 0, none⟩) (k + m) c2 (xs ++ news) → w.grownBy w' (some b) → ((b' = b ∧ c2 = c) ∨ (b' = w.heap.size ∧ Below w.heap.size w w')) → L P n ops Q rest (upd e d (.slice (some ⟨b', 0, none⟩) (k + m) c2)) w') :
    L P n ops Q (⟨some d, .call ⟨.builtin .append, #[x, y], #[T, T]⟩, ty, ps, af, none⟩ :: rest) e w := by
  obtain ⟨i, hi'⟩ : ∃ i, P.info? E = some i := by cases hh : P.info? E with | none => rw [hh] at hi; cases hi | some i => exact ⟨i, rfl⟩
  rw [hi'] at hi
  simp only [Option.map_some, Option.some.injEq, Prod.mk.injEq] at hi
  obtain ⟨g1, g2, g3⟩ := hi
  obtain ⟨v', w', hr, h2, h3, h4⟩ := run_append_own (P := P) w B T ty E i zv s bytes hT hi' g1 g2 g3 hz hs (.slice (some ⟨b, 0, none⟩) k c) k xs hown ad m c' news hl hnews h1 (by simpa [maxLen] using hmax) hb hB
  have hv : ∃ b' c2, v' = .slice (some ⟨b', 0, none⟩) (k + m) c2 ∧ ((b' = b ∧ c2 = c) ∨ (b' = w.heap.size ∧ Below w.heap.size w w')) := by
    rcases hown.2 with ⟨hv0, _⟩ | ⟨g, cap, cur, hv0, hbg, hg, hnc, hcm, hcs, htake⟩
    · cases hv0
    · cases hv0
      by_cases hroom : k + m ≤ c
      · have hfit : k * i.size + news.length ≤ cur.size := by rw [hl, hcs, g2, ← Nat.add_mul]; exact Nat.mul_le_mul_right _ hroom
        have := run_append_room (P := P) w T ty E i hT hi' b k c cur hg ad m c' news (by rw [g2]; exact hl) hnews h1 hroom hfit
        rw [hr] at this
        cases this
        exact ⟨_, _, rfl, .inl ⟨rfl, rfl⟩⟩
      · have holds : ∀ j u, xs[j]? = some u → w.cell? ((⟨b, 0, none⟩ : Addr).add j) = some u := hown.cells (g := b) rfl
        have := run_append_grow (P := P) w T ty E i zv hT hi' g1 ⟨b, 0, none⟩ k c xs (by rw [g2]; exact hown.1) holds ad m c' news (by rw [g2]; exact hl) hnews (by omega) (by omega) (growslice_fits (by omega) (by rw [g3]; exact hb))
        rw [hr] at this
        cases this
        exact ⟨_, _, rfl, .inr ⟨rfl, (Below.refl _ _).drew.alloc (Nat.le_refl _) _⟩⟩
  obtain ⟨b', c2, rfl, hbb⟩ := hv
  refine L.va ?_ (h b' c2 w' h2 h3 hbb)
  simp only [execOp, resolve, invoke, builtin, Sem.run_bind, Sem.run_pure, Result.andThen_ok, List.map_toArray, List.map_cons, List.map_nil, hx, hy, hr]
end
end Go.Vc
