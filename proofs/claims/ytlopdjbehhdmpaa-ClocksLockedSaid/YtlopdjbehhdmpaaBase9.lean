/- Events that came in. -/
import Derived.Test.YtlopdjbehhdmpaaC12
import Derived.ProofKit
import Derived.Deep.Slices
import Derived.SizedLaws
namespace Go.Proofs.Ytlopdjbehhdmpaa
open Go.Vc Go.RowKit Go.ChangeShapes Go.WideShapes Go.ChangeAt Go.Deep
section
variable {H : Type} {enc : TypeId × Value → H} {W : World} {base : Nat} {spare : Nat → Bool} {held : Bool}
theorem cells25 : Try.prog.cellsOf 53 = 4 := by kernel_rfl
theorem cells51 : Try.prog.cellsOf 51 = 3 := by kernel_rfl
theorem cells3 : Try.prog.cellsOf 3 = 1 := by kernel_rfl
theorem bytes53 : Try.prog.bytesOf 53 = 32 := by kernel_rfl
/-- One event's cells. -/
theorem event_cells {n : Nat} {cs : List Value} {x : DataW H × List MemPlace} (h : DataW.trod enc Try.prog W base spare held n 53 cs = some x) : ∃ e : Ev, cs = [.int .i64 e.c, .int .i64 e.k, .int .i64 e.o, .int .i64 e.n] := by
  obtain ⟨xs, m, _, _, hl, hxl, hf⟩ := DataW.trod_struct Try.underlying53 h
  rw [cells25] at hl
  match cs, hl with
  | [v0, v1, v2, v3], _ =>
    have some_of : ∀ {i : Nat}, i < 2 → xs[i]? ≠ none := fun {i} hi hh => by
      rw [List.getElem?_eq_none_iff] at hh
      have : xs.length = 2 := hxl
      omega
    have h0 : DataW.trod enc Try.prog W base spare held m 3 (([v0, v1, v2, v3].drop 0).take (Try.prog.cellsOf 3)) = xs[0]? := hf 0 _ rfl
    have h1 : DataW.trod enc Try.prog W base spare held m 51 (([v0, v1, v2, v3].drop 1).take (Try.prog.cellsOf 51)) = xs[1]? := hf 1 _ rfl
    rw [cells3] at h0
    rw [cells51] at h1
    cases hx0 : xs[0]? with
    | none => exact absurd hx0 (some_of (by omega))
    | some y0 =>
      cases hx1 : xs[1]? with
      | none => exact absurd hx1 (some_of (by omega))
      | some y1 =>
        rw [hx0] at h0; rw [hx1] at h1
        obtain ⟨c, hc, _⟩ := DataW.trod_int Try.underlying3 h0
        obtain ⟨xs2, m2, _, _, _, hxl2, hf2⟩ := DataW.trod_struct Try.underlying51 h1
        have some2 : ∀ {i : Nat}, i < 3 → ∃ y, xs2[i]? = some y := fun {i} hi => by
          have h2 : xs2.length = 3 := hxl2
          exact ⟨xs2[i]'(by omega), List.getElem?_eq_getElem (by omega)⟩
        obtain ⟨z0, hz0⟩ := some2 (i := 0) (by omega)
        obtain ⟨z1, hz1⟩ := some2 (i := 1) (by omega)
        obtain ⟨z2, hz2⟩ := some2 (i := 2) (by omega)
        have g0 : DataW.trod enc Try.prog W base spare held m2 3 (((([v0, v1, v2, v3].drop 1).take 3).drop 0).take (Try.prog.cellsOf 3)) = xs2[0]? := hf2 0 _ rfl
        have g1 : DataW.trod enc Try.prog W base spare held m2 3 (((([v0, v1, v2, v3].drop 1).take 3).drop 1).take (Try.prog.cellsOf 3)) = xs2[1]? := hf2 1 _ rfl
        have g2 : DataW.trod enc Try.prog W base spare held m2 3 (((([v0, v1, v2, v3].drop 1).take 3).drop 2).take (Try.prog.cellsOf 3)) = xs2[2]? := hf2 2 _ rfl
        rw [hz0] at g0; rw [hz1] at g1; rw [hz2] at g2
        rw [cells3] at g0 g1 g2
        obtain ⟨k, hk, _⟩ := DataW.trod_int Try.underlying3 g0
        obtain ⟨o, ho, _⟩ := DataW.trod_int Try.underlying3 g1
        obtain ⟨nn, hn, _⟩ := DataW.trod_int Try.underlying3 g2
        simp at hc hk ho hn
        exact ⟨⟨c, k, o, nn⟩, by rw [hc, hk, ho, hn]⟩
instance : Inhabited Ev := ⟨⟨0, 0, 0, 0⟩⟩
theorem open_events {a : Option Addr} {len cap : Nat} {d : DataW H} {p : List MemPlace} (h : DataW.Trod enc Try.prog W base spare held 25 (.slice a len cap) d p) :
    ∃ E, EvAt W a len E ∧ (a = none → len = 0 ∧ cap = 0) ∧ ((d = .nil ∧ len = 0) ∨ ∃ el sp, d = .slice el sp ∧ el.length = len) := by
  obtain ⟨fuel, hf⟩ := h
  rcases open_slice Try.underlying25 hf with ⟨hcs, hx⟩ | ⟨x, l, c, m, n, D, Pl, hcs, hb, hl, hm, hmm, hx, hi⟩
  · simp [Value.cells] at hcs
    obtain ⟨rfl, rfl, rfl⟩ := hcs
    exact ⟨fun _ => default, ⟨SL.zero _, fun h => by omega, fun h => by omega, fun h => by omega, fun h => by omega⟩, fun _ => ⟨rfl, rfl⟩, .inl ⟨by cases hx; rfl, rfl⟩⟩
  · simp [Value.cells] at hcs
    obtain ⟨rfl, rfl, rfl⟩ := hcs
    have hlm : len ≤ m := by rw [hmm]; split <;> omega
    obtain ⟨E, hE⟩ := choose_lt (α := Ev) (n := len) (p := fun i e => ∀ j v, [Value.int .i64 e.c, .int .i64 e.k, .int .i64 e.o, .int .i64 e.n][j]? = some v → W.cell? ((x.add (i * 4)).add j) = some v) (fun i hil => by
      obtain ⟨cs', h1, h2⟩ := hi i (by omega)
      rw [cells25] at h1
      obtain ⟨e, rfl⟩ := event_cells h2
      obtain ⟨_, _, h3⟩ := World.cells?_some h1
      refine ⟨e, fun j v hj => ?_⟩
      have hj4 : j < 4 := by have := (List.getElem?_eq_some_iff.1 hj).1; simpa using this
      rw [h3 j hj4]; exact hj)
    have hsp : 0 < len → x = ⟨x.block, x.off, none⟩ := fun h0 => by
      have := hE 0 h0 0 _ rfl
      rw [Nat.zero_mul] at this
      have e1 : (x.add 0).add 0 = x := by simp [Addr.add]
      rw [e1] at this
      obtain ⟨b, o, s⟩ := x
      cases s with
      | none => rfl
      | some s => unfold World.cell? at this; simp at this; split at this <;> simp at this
    have hcell : ∀ {i j : Nat} {v : Value}, i < len → [Value.int .i64 (E i).c, .int .i64 (E i).k, .int .i64 (E i).o, .int .i64 (E i).n][j]? = some v → W.cell? ⟨x.block, x.off + i * 4 + j, none⟩ = some v := fun {i j v} hil hj => by
      have h1 := hE i hil j v hj
      have e1 : (x.add (i * 4)).add j = ⟨x.block, x.off + i * 4 + j, none⟩ := by
        rw [hsp (by omega)]
        rw [Addr.add_lit, Addr.add_lit]
      rw [e1] at h1; exact h1
    refine ⟨E, ⟨fun h0 => by rw [hsp h0]; rfl, fun {i} hi => hcell (j := 0) hi rfl, fun {i} hi => ?_, fun {i} hi => ?_, fun {i} hi => ?_⟩, (fun h => by cases h), .inr ⟨_, _, (by cases hx; rfl), by simp⟩⟩
    · have := hcell (j := 1) hi rfl
      exact this
    · have := hcell (j := 2) hi rfl
      exact this
    · have := hcell (j := 3) hi rfl
      exact this
end
theorem EvAt.congr {w : World} {a : Option Addr} {n : Nat} {E F : Nat → Ev} (h : EvAt w a n E) (hEF : ∀ i, i < n → E i = F i) : EvAt w a n F :=
  ⟨h.sl, fun {i} hi => by rw [← hEF i hi]; exact h.c hi, fun {i} hi => by rw [← hEF i hi]; exact h.k hi, fun {i} hi => by rw [← hEF i hi]; exact h.o hi, fun {i} hi => by rw [← hEF i hi]; exact h.n hi⟩
theorem own_ev {w : World} {a : Option Addr} {n : Nat} {E : Nat → Ev} (h : EvAt w a (n + 8) (markE E n)) : EvAt w a n E := (h.le (by omega)).congr fun _ hi => markE_lt hi
/-- What Before answers, whatever the input. -/
noncomputable def befA (E : Nat → Ev) (n : Nat) (cl i j : Int) : Bool := if check E n cl = 0 then befR E n i j else false
theorem before_c (a : Option Addr) (n c : Nat) (E : Nat → Ev) (cl i j : Int) (w0 : World) (hE : EvAt w0 a n E) (hn : n ≤ 9223372036854775807) :
    C Try.prog 19 #[.slice a n c, .int .i64 cl, .int .i64 i, .int .i64 j] w0 fun v w' => v = .bool (befA E n cl i j) ∧ Below w0.heap.size w0 w' := by
  unfold befA
  by_cases hc : check E n cl = 0
  · rw [if_pos hc]; exact before_ok a n c E cl i j w0 hE hn hc
  · rw [if_neg hc]; exact before_no a n c E cl i j w0 hE hn hc
theorem sees_c (a : Option Addr) (n c : Nat) (E : Nat → Ev) (cl j : Int) (w0 : World) (hE : EvAt w0 a n E) (hn : n ≤ 9223372036854775807) :
    C Try.prog 25 #[.slice a n c, .int .i64 cl, .int .i64 j] w0 fun v w' => v = .tuple #[.int .i64 (seesR E n cl j).1, .bool (seesR E n cl j).2] ∧ Below w0.heap.size w0 w' := by
  by_cases hc : check E n cl = 0
  · exact sees_ok a n c E cl j w0 hE hn hc
  · have hR : seesR E n cl j = (0, false) := by unfold seesR; rw [if_pos (.inl (.inl (.inl hc)))]
    rw [hR]; exact sees_no a n c E cl j w0 hE hn hc
theorem x_eqB {ρ : Operand → Value} {w : World} {d : Option Nat} {ty T' : TypeId} {ps : String} {af : Array Edge} {g : Option (Nat × Bool)} {x y : Operand} {b c : Bool} (hx : ρ x = .bool b) (hy : ρ y = .bool c) :
    (execOp ρ ⟨d, .binOp .eql 4 x y T', ty, ps, af, g⟩).run Try.prog w = .ok (.value (.bool (b == c))) w := by
  have h1 : (Op.equalIn 10000 4 (.bool b) (.bool c)).run Try.prog w = .ok (b == c) w := run_equalIn_bool w 9999 4 b c Try.underlying4
  have h2 : (eqGuard .eql 4 x y (.bool b) (.bool c)).run Try.prog w = .ok () w := by simp [eqGuard]
  have h3 : (binOp .eql 4 (.bool b) (.bool c)).run Try.prog w = .ok (.bool (b == c)) w := by
    simp only [binOp, Op.equal, Op.maxDepth, Sem.run_bind, h1, Result.andThen_ok, Sem.run_pure]
  simp only [execOp, hx, hy, Sem.run_bind, h2, h3, Result.andThen_ok, Sem.run_pure]
end Go.Proofs.Ytlopdjbehhdmpaa
namespace Go.Proofs.Ytlopdjbehhdmpaa
open Go.Vc Go.RowKit
theorem ret_true {e : Ending} {W W' : World} (h : Ret (fun v w' => v = .bool true ∧ Below W.heap.size W w') e W') : e = .returned (.bool true) ∧ Below W.heap.size W W' := by
  cases e with
  | returned v => exact ⟨by rw [h.1], h.2⟩
  | _ => exact h.elim
theorem i64_range {z : Int} (h : (Lit.int .i64 z).wf = true) : -9223372036854775808 ≤ z ∧ z ≤ 9223372036854775807 := by
  simp only [Lit.wf, Bool.and_eq_true, decide_eq_true_eq] at h
  have h1 : IntKind.i64.min = -9223372036854775808 := by decide
  have h2 : IntKind.i64.max = 9223372036854775807 := by decide
  omega
end Go.Proofs.Ytlopdjbehhdmpaa
