/- The rows that ClocksTells turns: what an append does to them. -/
import Derived.Test.YtlopdjbehhdmpaaBase10
namespace Go.Proofs.Ytlopdjbehhdmpaa
open Go.Vc Go.RowKit
theorem AS.outerCell {w : World} {lo hi ba n m : Nat} {R CC : Nat → Nat} {i : Nat} (h : AS w lo hi ba n m R CC i) {j : Nat} (hj : j < n) : ∃ cs, Blk w ba cs 34 ∧ j < cs.size := by
  obtain ⟨cs, hB, hn⟩ := h.outer
  exact ⟨cs, hB, by omega⟩
/-- A row as the call's own. -/
theorem AS.own {w : World} {lo hi ba n m : Nat} {R CC : Nat → Nat} {i : Nat} (h : AS w lo hi ba n m R CC i) {i' : Nat} (h1 : i ≤ i') (h2 : i' < n) : ∃ xs, Own w lo 3 1 (some ⟨R i', 0, none⟩) m (CC i') xs := by
  obtain ⟨⟨a, _⟩, b, c, cur, hB, hs⟩ := h.rows i' h1 h2
  exact ⟨cur.toList.take m, by simp; omega, .inr ⟨R i', CC i', cur, rfl, a, hB, b, c, by omega, by rw [Nat.mul_one]⟩⟩
/-- The row of an append in place. -/
theorem AS.room {w w' : World} {lo hi ba n m : Nat} {R CC : Nat → Nat} {i b B k c k' : Nat} {xs xs' : List Value} (h : AS w lo hi ba n m R CC i) (ho : Own w B 3 1 (some ⟨b, 0, none⟩) k c xs) (ho' : Own w' B 3 1 (some ⟨b, 0, none⟩) k' c xs') (hg : w.grownBy w' (some b)) : AS w' lo hi ba n m R CC i := by
  obtain ⟨cu, hB, -, -, -, hs, -⟩ := ho.row (by simp)
  obtain ⟨cu', hB', -, -, -, hs', -⟩ := ho'.row (by simp)
  obtain ⟨co, hO, hn⟩ := h.outer
  have hne : ba ≠ b := hO.ne hB (by decide)
  refine ⟨⟨co, hO.grown hg (by simpa using hne), hn⟩, fun i' h1 h2 => ?_, fun i' h1 h2 => ?_⟩
  · rw [World.cell?_of_block (hg.block ba hO.lt (by simpa using hne))]; exact h.cell i' h1 h2
  · obtain ⟨a, b', c', cur, hc, hsz⟩ := h.rows i' h1 h2
    by_cases hb : R i' = b
    · subst hb
      refine ⟨a, b', c', cu', hB', ?_⟩
      have : cur = cu := by
        have h3 : Blk w (R i') cu 3 := hB
        unfold Blk at hc h3
        rw [hc] at h3
        cases h3; rfl
      subst this
      simp only [Nat.mul_one] at hs hs'
      omega
    · exact ⟨a, b', c', cur, hc.grown hg (by simpa using hb), hsz⟩
theorem Keep.toBelow {w0 w w' : World} {lo hi : Nat} (hb : Below w0.heap.size w0 w) (hk : Keep w w' lo hi) (hlo : w0.heap.size ≤ lo) : Below w0.heap.size w0 w' :=
  ⟨hk.os.trans hb.os, hk.tape.trans hb.tape, hk.output.trans hb.output, Nat.le_trans hb.size hk.size, fun k h => (hk.block k (Nat.lt_of_lt_of_le h hb.size) (by omega)).trans (hb.block k h)⟩
theorem grown_of_cell {w : World} {b o : Nat} (v : Value) : w.grownBy (w.setCell ⟨b, o, none⟩ v) (some b) := grown_setCell w ⟨b, o, none⟩ v
theorem clk_ints {E : Nat → Ev} {n m : Nat} (hok : ∀ i, i < n → 0 ≤ (E i).c) {w : World} {a : Option Addr} (h : RowsAt w a n m (fun i => ints (clk E i))) : RowsAt w a n m (fun i k => .int .i64 (rclk E i k : Int)) :=
  h.congr fun i k hi _ => by unfold ints; rw [clk_eq E i (fun j hj => hok j (by omega))]
theorem AS.of1 {w : World} {B n oc m hi : Nat} {oa : Option Addr} {R CC : Nat → Nat} {V : Nat → Nat → Value} (h : PRows w B 34 3 oa n oc m R CC V) (h0 : 0 < n) (hhi : w.heap.size ≤ hi) : AS w B hi (ab oa) n m R CC 0 := by
  obtain ⟨r, rfl⟩ := h.own.some_eq (h.own.some_of h0)
  exact AS.of h hhi
theorem outer_in {w : World} {B n oc m hi : Nat} {oa : Option Addr} {R CC : Nat → Nat} {V : Nat → Nat → Value} (h : PRows w B 34 3 oa n oc m R CC V) (h0 : 0 < n) (hhi : w.heap.size ≤ hi) : B ≤ ab oa ∧ ab oa < hi := by
  obtain ⟨cur, hB, hb, -⟩ := h.own.row (h.own.some_of h0)
  have := hB.lt
  exact ⟨hb, by omega⟩
end Go.Proofs.Ytlopdjbehhdmpaa
