/- What the program's exported functions rest on. -/
import Derived.Test.YtlopdjbehhdmpaaC8
namespace Go.Proofs.Ytlopdjbehhdmpaa
open Go.Vc Go.RowKit
theorem clocked_no (a : Option Addr) (n c : Nat) (E : Nat → Ev) (cl : Int) (w0 : World) (hE : EvAt w0 a n E) (hn : n ≤ 9223372036854775807) (hc : check E n cl ≠ 0) :
    C Try.prog 27 #[.slice a n c, .int .i64 cl] w0 fun v w' => v = .tuple #[.slice none 0 0, .int .i64 (check E n cl)] ∧ Below w0.heap.size w0 w' :=
  (clocked_c a n c E cl w0 hE hn).mono fun v w' h => ⟨by rcases h.1 with h1 | h1; exact h1.2; exact absurd h1.1 hc, h.2⟩
theorem clocked_ok (a : Option Addr) (n c : Nat) (E : Nat → Ev) (cl : Int) (w0 : World) (hE : EvAt w0 a n E) (hn : n ≤ 9223372036854775807) (hc : check E n cl = 0) :
    C Try.prog 27 #[.slice a n c, .int .i64 cl] w0 fun v w' => ∃ bl, v = .tuple #[.slice (some ⟨bl, 0, none⟩) n n, .int .i64 0] ∧ Blk w' bl (arr (n * 16) (ints (rowF n (clk E)))) 62 ∧ Below w0.heap.size w0 w' :=
  (clocked_c a n c E cl w0 hE hn).mono fun v w' h => by
    rcases h.1 with h1 | ⟨_, bl, h2, h3⟩
    · exact absurd hc h1.1
    · exact ⟨bl, h2, h3, h.2⟩
theorem row_get (n : Nat) (f : Nat → Nat → Nat) {i k : Nat} (hi : i < n) (hk : k < 16) : ints (rowF n f) (0 + i * 16 + k) = ints (f i) k := by
  refine ints_congr (f := fun k => rowF n f (0 + i * 16 + k)) ?_
  simp only [rowF]
  rw [show (0 + i * 16 + k) / 16 = i by omega, show (0 + i * 16 + k) % 16 = k by omega, if_pos hi]
theorem row_cell {w : World} {bl n i k : Nat} {f : Nat → Nat → Nat} (h : Blk w bl (arr (n * 16) (ints (rowF n f))) 62) (hi : i < n) (hk : k < 16) : w.cell? ⟨bl, 0 + i * 16 + k * 1, none⟩ = some (.int .i64 (f i k : Int)) := by
  rw [Nat.mul_one, h.cell (arr_get (show 0 + i * 16 + k < n * 16 by omega)), row_get n f hi hk]; rfl
theorem head_cells {w : World} {b N m : Nat} {F : Nat → Value} {T : TypeId} (h : Blk w b (arr N F) T) (hm : m ≤ N) : ∀ (j : Nat) (u : Value), (arr m F).toList[j]? = some u → w.cell? (Addr.add ⟨b, 0, none⟩ j) = some u := by
  intro j u hj
  rw [Array.getElem?_toList] at hj
  have hjm : j < m := by have := (Array.getElem?_eq_some_iff.1 hj).1; rw [arr_size] at this; exact this
  rw [arr_get hjm] at hj; cases hj
  rw [Addr.add_lit]
  rw [Nat.zero_add]
  exact h.cell (arr_get (show j < N by omega))
theorem own_mono {w : World} {B B' : Nat} {E : TypeId} {s : Nat} {a : Option Addr} {n c : Nat} {xs : List Value} (h : Own w B' E s a n c xs) (hB : B ≤ B') : Own w B E s a n c xs := by
  refine ⟨h.1, ?_⟩
  rcases h.2 with h1 | ⟨g, cap, cur, hv, hb, hr⟩
  · exact .inl h1
  · exact .inr ⟨g, cap, cur, hv, Nat.le_trans hB hb, hr⟩
theorem neBlk {w : World} {B : Nat} {E T : TypeId} {s : Nat} {oa : Option Addr} {n oc b : Nat} {xs : List Value} {cs : Array Value} (h : Own w B E s oa n oc xs) (hB : Blk w b cs T) (hT : T ≠ E) : some b ≠ Value.ownBlock (.slice oa n oc) := by
  intro hh
  cases oa with
  | none => cases hh
  | some q =>
    simp only [Value.ownBlock, Option.some.injEq] at hh
    obtain ⟨cur, hc, _⟩ := h.row (by simp)
    exact (hB.ne hc hT) hh
theorem _root_.Go.Vc.PRows.grown {w w' : World} {B : Nat} {E T T' : TypeId} {oa : Option Addr} {n oc m b : Nat} {cs : Array Value} {R CC : Nat → Nat} {V : Nat → Nat → Value} (h : PRows w B E T oa n oc m R CC V) (hg : w.grownBy w' (some b)) (hB : Blk w b cs T') (h1 : T' ≠ E) (h2 : T' ≠ T) : PRows w' B E T oa n oc m R CC V := by
  refine ⟨?_, fun i hi => ?_⟩
  · cases oa with
    | none => exact World.ownsRow.kept h.own hg (.inl rfl)
    | some q =>
      obtain ⟨cur, hc, _⟩ := h.own.row (by simp)
      exact h.own.grown hg (by have := hc.ne hB (Ne.symm h1); simpa using this)
  · obtain ⟨cur, hc, _⟩ := (h.row i hi).row (by simp)
    exact (h.row i hi).grown hg (by have := hc.ne hB (Ne.symm h2); simpa using this)
/-- What Before answers. -/
noncomputable def befR (E : Nat → Ev) (n : Nat) (i j : Int) : Bool := if (((i < 0 ∨ j < 0) ∨ (n : Int) ≤ i) ∨ (n : Int) ≤ j) then false else ahB E i.toNat j.toNat
theorem ahB_clk (E : Nat → Ev) {n i j : Nat} {cl : Int} (hok : okE E cl n) (hi : i < n) (hj : j < n) :
    (decide (i < j) && decide ((clk E i (E i).c.toNat : Int) ≤ (clk E j (E i).c.toNat : Int))) = ahB E i j := by
  rw [Bool.eq_iff_iff]
  simp only [Bool.and_eq_true, decide_eq_true_eq]
  unfold ahB
  simp only [decide_eq_true_eq]
  constructor
  · rintro ⟨h1, h2⟩
    exact (ahead_iff E h1 (fun x hx => (hok.at (by omega)).1)).2 (by omega)
  · intro h
    have hlt := h.lt
    have := (ahead_iff E hlt (fun x hx => (hok.at (by omega)).1)).1 h
    exact ⟨hlt, by omega⟩
end Go.Proofs.Ytlopdjbehhdmpaa
