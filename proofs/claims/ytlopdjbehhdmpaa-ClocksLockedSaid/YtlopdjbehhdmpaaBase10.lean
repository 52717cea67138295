/- The rows that ClocksTells turns. -/
import Derived.Test.YtlopdjbehhdmpaaC17
namespace Go.Proofs.Ytlopdjbehhdmpaa
open Go.Vc Go.RowKit
/-- Rows i .. n lie as they were told: outer block ba; row i' at R i', of m cells, with room for CC i'. -/
structure AS (w : World) (lo hi ba n m : Nat) (R CC : Nat → Nat) (i : Nat) : Prop where
  outer : ∃ cs, Blk w ba cs 34 ∧ n ≤ cs.size
  cell : ∀ i', i ≤ i' → i' < n → w.cell? ⟨ba, i', none⟩ = some (.slice (some ⟨R i', 0, none⟩) m (CC i'))
  rows : ∀ i', i ≤ i' → i' < n → (lo ≤ R i' ∧ R i' < hi) ∧ m ≤ CC i' ∧ CC i' ≤ maxLen ∧ ∃ cur, Blk w (R i') cur 3 ∧ cur.size = CC i'
theorem AS.next {w : World} {lo hi ba n m : Nat} {R CC : Nat → Nat} {i : Nat} (h : AS w lo hi ba n m R CC i) : AS w lo hi ba n m R CC (i + 1) :=
  ⟨h.outer, fun i' h1 h2 => h.cell i' (by omega) h2, fun i' h1 h2 => h.rows i' (by omega) h2⟩
theorem AS.keep {w w' : World} {lo hi ba n m : Nat} {R CC : Nat → Nat} {i : Nat} (h : AS w lo hi ba n m R CC i) (hb : Below w.heap.size w w') : AS w' lo hi ba n m R CC i := by
  obtain ⟨cs, hB, hn⟩ := h.outer
  exact ⟨⟨cs, hB.keep hb, hn⟩, fun i' h1 h2 => by rw [World.cell?_of_block (hb.block ba hB.lt)]; exact h.cell i' h1 h2, fun i' h1 h2 => let ⟨a, b, c, cur, hc, hs⟩ := h.rows i' h1 h2; ⟨a, b, c, cur, hc.keep hb, hs⟩⟩
/-- A cell of a row of ints turns. -/
theorem AS.turn {w : World} {lo hi ba n m : Nat} {R CC : Nat → Nat} {i b o : Nat} {cs : Array Value} (h : AS w lo hi ba n m R CC i) (hB : Blk w b cs 3) (v : Value) : AS (w.setCell ⟨b, o, none⟩ v) lo hi ba n m R CC i := by
  obtain ⟨co, hO, hn⟩ := h.outer
  have hne : ba ≠ b := hO.ne hB (by decide)
  refine ⟨⟨co, hO.setOther hne v, hn⟩, fun i' h1 h2 => ?_, fun i' h1 h2 => ?_⟩
  · rw [World.cell?_of_block (Below.heap_setCell _ _ _ _ hne)]; exact h.cell i' h1 h2
  · obtain ⟨a, b', c, cur, hc, hs⟩ := h.rows i' h1 h2
    by_cases hb : R i' = b
    · subst hb
      exact ⟨a, b', c, _, hc.set v, by simpa using hs⟩
    · exact ⟨a, b', c, cur, hc.setOther hb v, hs⟩
/-- A block that is none of these turns. -/
theorem AS.grown {w w' : World} {lo hi ba n m : Nat} {R CC : Nat → Nat} {i b : Nat} (h : AS w lo hi ba n m R CC i) (hg : w.grownBy w' (some b)) (hb : b ≠ ba) (hr : ∀ i', i ≤ i' → i' < n → R i' ≠ b) : AS w' lo hi ba n m R CC i := by
  obtain ⟨co, hO, hn⟩ := h.outer
  refine ⟨⟨co, hO.grown hg (by simpa using Ne.symm hb), hn⟩, fun i' h1 h2 => ?_, fun i' h1 h2 => ?_⟩
  · rw [World.cell?_of_block (hg.block ba hO.lt (by simpa using Ne.symm hb))]; exact h.cell i' h1 h2
  · obtain ⟨a, b', c, cur, hc, hs⟩ := h.rows i' h1 h2
    exact ⟨a, b', c, cur, hc.grown hg (by simpa using hr i' h1 h2), hs⟩
/-- The outer cell of an earlier row turns. -/
theorem AS.outerTurn {w : World} {lo hi ba n m : Nat} {R CC : Nat → Nat} {i j : Nat} (h : AS w lo hi ba n m R CC i) (hj : j < i) (v : Value) : AS (w.setCell ⟨ba, j, none⟩ v) lo hi ba n m R CC i := by
  obtain ⟨co, hO, hn⟩ := h.outer
  refine ⟨⟨_, hO.set v, by simpa using hn⟩, fun i' h1 h2 => ?_, fun i' h1 h2 => ?_⟩
  · have h3 := h.cell i' h1 h2
    have hlt : i' < co.size := by omega
    have h4 : co[i']? = some (.slice (some ⟨R i', 0, none⟩) m (CC i')) := by
      have := hO.cell (Array.getElem?_eq_getElem hlt)
      rw [this] at h3
      rw [Array.getElem?_eq_getElem hlt, Option.some.inj h3]
    exact (hO.set v).cell (by rw [Array.getElem?_setIfInBounds_ne (by omega)]; exact h4)
  · obtain ⟨a, b', c, cur, hc, hs⟩ := h.rows i' h1 h2
    exact ⟨a, b', c, cur, hc.setOther (Ne.symm (hO.ne hc (by decide))) v, hs⟩
/-- From what Clocks has made. -/
theorem AS.of {w : World} {B ba n oc m hi : Nat} {R CC : Nat → Nat} {V : Nat → Nat → Value} (h : PRows w B 34 3 (some ⟨ba, 0, none⟩) n oc m R CC V) (hhi : w.heap.size ≤ hi) : AS w B hi ba n m R CC 0 := by
  obtain ⟨cur, hB, hb, hn, hm, hs, ht⟩ := h.own.row (by simp)
  refine ⟨⟨cur, hB, by omega⟩, fun i' _ h2 => h.own.cell (rowsL_get h2), fun i' _ h2 => ?_⟩
  obtain ⟨cr, hBr, hbr, hnr, hmr, hsr, _⟩ := (h.row i' h2).row (by simp)
  have := hBr.lt
  exact ⟨⟨hbr, by simp only [ab] at this; exact Nat.lt_of_lt_of_le this hhi⟩, hnr, hmr, cr, hBr, by simpa using hsr⟩
end Go.Proofs.Ytlopdjbehhdmpaa
