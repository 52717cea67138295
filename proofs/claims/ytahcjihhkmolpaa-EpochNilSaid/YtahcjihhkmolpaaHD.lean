/- Refs and operations in slices. -/
import Derived.Test.YtahcjihhkmolpaaHC
import Derived.ProofKit
import Derived.Deep.Slices
import Derived.SizedLaws
namespace Go.Proofs.Ytahcjihhkmolpaa
open Go.Vc Go.RowKit Go.ChangeShapes Go.WideShapes Go.ChangeAt Go.Deep
/-- Refs, laid one behind the other. -/
def refC (R : Nat → Int × Int) (n : Nat) : List Value := (List.range n).flatMap fun i => [.int .i64 (R i).1, .int .i64 (R i).2]
theorem refC_succ (R : Nat → Int × Int) (n : Nat) : refC R (n + 1) = refC R n ++ [.int .i64 (R n).1, .int .i64 (R n).2] := by simp [refC, List.range_succ]
theorem refC_len (R : Nat → Int × Int) : ∀ n, (refC R n).length = n * 2
  | 0 => rfl
  | n + 1 => by rw [refC_succ, List.length_append, refC_len R n]; simp; omega
theorem refC_get (R : Nat → Int × Int) (i : Nat) : ∀ n, i < n → ∀ (j : Nat) (v : Value), [Value.int .i64 (R i).1, .int .i64 (R i).2][j]? = some v → (refC R n)[i * 2 + j]? = some v
  | 0, h, _, _, _ => absurd h (Nat.not_lt_zero i)
  | n + 1, h, j, v, hj => by
    have hj2 : j < 2 := by have := (List.getElem?_eq_some_iff.1 hj).1; simpa using this
    rw [refC_succ]
    by_cases hin : i = n
    · subst hin
      rw [List.getElem?_append_right (by rw [refC_len]; omega), refC_len, show i * 2 + j - i * 2 = j by omega]
      exact hj
    · rw [List.getElem?_append_left (by rw [refC_len]; omega)]
      exact refC_get R i n (by omega) j v hj
theorem refC_congr {R S : Nat → Int × Int} {n : Nat} (h : ∀ i, i < n → R i = S i) : refC R n = refC S n := by
  induction n with
  | zero => rfl
  | succ n ih => rw [refC_succ, refC_succ, ih (fun i hi => h i (by omega)), h n (by omega)]
theorem refC_put (R : Nat → Int × Int) (n : Nat) (a b : Int) : refC R n ++ [.int .i64 a, .int .i64 b] = refC (upf R n (a, b)) (n + 1) := by
  rw [refC_succ, refC_congr (S := upf R n (a, b)) (fun i hi => by simp [upf, show i ≠ n by omega])]
  simp [upf]
theorem refC_one (R : Nat → Int × Int) (n : Nat) : ∀ u ∈ refC R n, u.oneCell' = true := by
  intro u hu
  simp only [refC, List.mem_flatMap] at hu
  obtain ⟨i, _, hi⟩ := hu
  simp at hi
  rcases hi with rfl | rfl <;> rfl
/-- Which cells a slice of refs reads. -/
structure RefsAt (w : World) (a : Option Addr) (n : Nat) (R : Nat → Int × Int) : Prop where
  sl : SL a n
  at' : ∀ {i}, i < n → ∀ (j : Nat) (v : Value), [Value.int .i64 (R i).1, .int .i64 (R i).2][j]? = some v → w.cell? ⟨ab a, ao a + i * 2 + j, none⟩ = some v
theorem RefsAt.of_own {w : World} {B : Nat} {T : TypeId} {a : Option Addr} {n c : Nat} {R : Nat → Int × Int} (h : Own w B T 2 a n c (refC R n)) : RefsAt w a n R :=
  ⟨h.sl, fun {i} hi j v hj => by rw [h.off, Nat.zero_add]; exact h.cell (refC_get R i n hi j v hj)⟩
theorem RefsAt.keep {w w' : World} {a : Option Addr} {n : Nat} {R : Nat → Int × Int} (h : RefsAt w a n R) (hb : Below w.heap.size w w') : RefsAt w' a n R := ⟨h.sl, fun hi j v hj => bl0 hb (h.at' hi j v hj)⟩
/-- An operation: kind, value, which, ref. -/
structure Opn where
  k : Int
  v : Int
  wh : Int
  rn : Int
  rg : Int
abbrev opC (o : Opn) : List Value := [.int .i64 o.k, .int .i64 o.v, .int .i64 o.wh, .int .i64 o.rn, .int .i64 o.rg]
structure OpsAt (w : World) (a : Option Addr) (n : Nat) (O : Nat → Opn) : Prop where
  sl : SL a n
  at' : ∀ {i}, i < n → ∀ (j : Nat) (v : Value), (opC (O i))[j]? = some v → w.cell? ⟨ab a, ao a + i * 5 + j, none⟩ = some v
theorem OpsAt.low {w w' : World} {a : Option Addr} {n B : Nat} {O : Nat → Opn} {TS : List TypeId} (h : OpsAt w a n O) (hm : ModT w w' B TS) (hB : w.heap.size ≤ B) : OpsAt w' a n O :=
  ⟨h.sl, fun hi j v hj => by
    have h1 := h.at' hi j v hj
    exact hm.cell h1 (Nat.lt_of_lt_of_le (World.block_lt_of_cell? w _ h1) hB)⟩
/-- The document's ref of an operation. -/
def namedR (R : Nat → Int × Int) (n : Nat) (o : Opn) : Int × Int := if 0 ≤ o.wh ∧ o.wh < (n : Int) then R o.wh.toNat else (o.rn, o.rg)
section
variable {H : Type} {enc : TypeId × Value → H} {W : World} {base : Nat} {spare : Nat → Bool} {held : Bool}
theorem cells37 : Try.prog.cellsOf 37 = 5 := by kernel_rfl
theorem cells35 : Try.prog.cellsOf 35 = 2 := by kernel_rfl
theorem cells3 : Try.prog.cellsOf 3 = 1 := by kernel_rfl
theorem cells2 : Try.prog.cellsOf 2 = 1 := by kernel_rfl
theorem list5 {l : List Value} (h : l.length = 5) : ∃ a b c d e, l = [a, b, c, d, e] := by
  rcases l with _ | ⟨a, _ | ⟨b, _ | ⟨c, _ | ⟨d, _ | ⟨e, _ | ⟨f, l⟩⟩⟩⟩⟩⟩
  all_goals (simp only [List.length_cons, List.length_nil] at h; first | omega | exact ⟨_, _, _, _, _, rfl⟩)
/-- One operation's cells. -/
theorem op_cells {n : Nat} {cs : List Value} {x : DataW H × List MemPlace} (h : DataW.trod enc Try.prog W base spare held n 37 cs = some x) : ∃ o : Opn, cs = opC o := by
  obtain ⟨xs, m, _, _, hl, hxl, hf⟩ := DataW.trod_struct Try.underlying37 h
  rw [cells37] at hl
  obtain ⟨v0, v1, v2, v3, v4, rfl⟩ := list5 hl
  · skip
    have ex : ∀ {i : Nat}, i < 4 → ∃ y, xs[i]? = some y := fun {i} hi => by
      have : xs.length = 4 := hxl
      exact ⟨xs[i]'(by omega), List.getElem?_eq_getElem (by omega)⟩
    obtain ⟨z0, hz0⟩ := ex (i := 0) (by omega)
    obtain ⟨z1, hz1⟩ := ex (i := 1) (by omega)
    obtain ⟨z2, hz2⟩ := ex (i := 2) (by omega)
    obtain ⟨z3, hz3⟩ := ex (i := 3) (by omega)
    have h0 : DataW.trod enc Try.prog W base spare held m 3 (([v0, v1, v2, v3, v4].drop 0).take (Try.prog.cellsOf 3)) = xs[0]? := hf 0 _ rfl
    have h1 : DataW.trod enc Try.prog W base spare held m 2 (([v0, v1, v2, v3, v4].drop 1).take (Try.prog.cellsOf 2)) = xs[1]? := hf 1 _ rfl
    have h2 : DataW.trod enc Try.prog W base spare held m 3 (([v0, v1, v2, v3, v4].drop 2).take (Try.prog.cellsOf 3)) = xs[2]? := hf 2 _ rfl
    have h3 : DataW.trod enc Try.prog W base spare held m 35 (([v0, v1, v2, v3, v4].drop 3).take (Try.prog.cellsOf 35)) = xs[3]? := hf 3 _ rfl
    rw [cells3, hz0] at h0
    rw [cells2, hz1] at h1
    rw [cells3, hz2] at h2
    rw [cells35, hz3] at h3
    obtain ⟨k, hk, _⟩ := DataW.trod_int Try.underlying3 h0
    obtain ⟨v, hv, _⟩ := DataW.trod_int Try.underlying2 h1
    obtain ⟨wh, hw, _⟩ := DataW.trod_int Try.underlying3 h2
    obtain ⟨ys, m2, _, _, _, hyl, hf2⟩ := DataW.trod_struct Try.underlying35 h3
    have ey : ∀ {i : Nat}, i < 2 → ∃ y, ys[i]? = some y := fun {i} hi => by
      have : ys.length = 2 := hyl
      exact ⟨ys[i]'(by omega), List.getElem?_eq_getElem (by omega)⟩
    obtain ⟨y0, hy0⟩ := ey (i := 0) (by omega)
    obtain ⟨y1, hy1⟩ := ey (i := 1) (by omega)
    have g0 : DataW.trod enc Try.prog W base spare held m2 3 (((([v0, v1, v2, v3, v4].drop 3).take 2).drop 0).take (Try.prog.cellsOf 3)) = ys[0]? := hf2 0 _ rfl
    have g1 : DataW.trod enc Try.prog W base spare held m2 3 (((([v0, v1, v2, v3, v4].drop 3).take 2).drop 1).take (Try.prog.cellsOf 3)) = ys[1]? := hf2 1 _ rfl
    rw [cells3, hy0] at g0
    rw [cells3, hy1] at g1
    obtain ⟨a, ha, _⟩ := DataW.trod_int Try.underlying3 g0
    obtain ⟨b, hb, _⟩ := DataW.trod_int Try.underlying3 g1
    simp at hk hv hw ha hb
    exact ⟨⟨k, v, wh, a, b⟩, by rw [hk, hv, hw, ha, hb]⟩
instance : Inhabited Opn := ⟨⟨0, 0, 0, 0, 0⟩⟩
theorem open_ops {a : Option Addr} {len cap : Nat} {d : DataW H} {p : List MemPlace} (h : DataW.Trod enc Try.prog W base spare held 22 (.slice a len cap) d p) : ∃ O, OpsAt W a len O := by
  obtain ⟨fuel, hf⟩ := h
  rcases open_slice Try.underlying22 hf with ⟨hcs, hx⟩ | ⟨x, l, c, m, n, D, Pl, hcs, hb, hl, hm, hmm, hx, hi⟩
  · simp [Value.cells] at hcs
    obtain ⟨rfl, rfl, rfl⟩ := hcs
    exact ⟨fun _ => default, ⟨SL.zero _, fun h => by omega⟩⟩
  · simp [Value.cells] at hcs
    obtain ⟨rfl, rfl, rfl⟩ := hcs
    have hlm : len ≤ m := by rw [hmm]; split <;> omega
    obtain ⟨O, hO⟩ := choose_lt (α := Opn) (n := len) (p := fun i o => ∀ j v, (opC o)[j]? = some v → W.cell? ((x.add (i * 5)).add j) = some v) (fun i hil => by
      obtain ⟨cs', h1, h2⟩ := hi i (by omega)
      rw [cells37] at h1
      obtain ⟨o, rfl⟩ := op_cells h2
      obtain ⟨_, _, h3⟩ := World.cells?_some h1
      refine ⟨o, fun j v hj => ?_⟩
      have hj4 : j < 5 := by have := (List.getElem?_eq_some_iff.1 hj).1; simpa using this
      rw [h3 j hj4]; exact hj)
    have hsp : 0 < len → x = ⟨x.block, x.off, none⟩ := fun h0 => by
      have := hO 0 h0 0 _ rfl
      rw [Nat.zero_mul] at this
      have e1 : (x.add 0).add 0 = x := by simp [Addr.add]
      rw [e1] at this
      obtain ⟨b, o, s⟩ := x
      cases s with
      | none => rfl
      | some s => unfold World.cell? at this; simp at this; split at this <;> simp at this
    refine ⟨O, ⟨fun h0 => by rw [hsp h0]; rfl, fun {i} hil j v hj => ?_⟩⟩
    have h1 := hO i hil j v hj
    rw [hsp (by omega), Addr.add_lit, Addr.add_lit] at h1
    exact h1
end
end Go.Proofs.Ytahcjihhkmolpaa
