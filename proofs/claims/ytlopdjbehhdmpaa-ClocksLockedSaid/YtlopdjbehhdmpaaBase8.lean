/- The trace that 'live' looks at. -/
import Derived.Test.YtlopdjbehhdmpaaC11
namespace Go.Vc
open Go Go.RowKit
section
variable {P : Program} {n : Nat} {ops : Array Oper} {Q : Exit → Env → World → Prop} {rest : List Oper} {e : Env} {w : World} {ty : TypeId} {ps : String} {af : Array Edge} {T E : TypeId} {d : Nat}
/-- A slice literal. -/
theorem L.buildS {s len : Nat} {parts : List (Nat × Operand)} {vs : List (Nat × Value)} {cs : Array Value} {zv : Value} (hv : parts.map (fun (i, x) => (i, ev e x)) = vs) (hT : P.underlying T = some (.slice E)) (hs : (P.info? E).map (·.size) = some s) (hz : (P.info? E).bind (·.zero) = some zv)
    (hlt : ¬ (len * s > 2 ^ 24)) (h0 : ¬ len * s = 0) (hf : Instr.fill (fun i => some (i * s, s)) ((Array.range (len * s)).map (zv.cells[· % zv.cells.size]!)) vs = some cs)
    (k : ∀ w1 b, Fresh w w1 b cs E → L P n ops Q rest (upd e d (.slice (some ⟨b, 0, none⟩) len len)) w1) :
    L P n ops Q (⟨some d, .buildSlice T len parts.toArray, ty, ps, af, none⟩ :: rest) e w := by
  refine L.va ?_ (k _ _ (fresh_alloc w _ E))
  subst hv
  simp only [execOp, Instr.buildSlice, List.map_toArray, run_underlying hT, run_sizeOf hs, Sem.run_bind, Result.andThen_ok, hlt, h0, if_false, run_zeroValue hz, hf, Sem.run_pure, newRow]
  rfl
/-- The same in a region that draws its order. -/
theorem x_buildS {ρ : Operand → Value} {d : Option Nat} {g : Option (Nat × Bool)} {s len : Nat} {parts : List (Nat × Operand)} {vs : List (Nat × Value)} {cs : Array Value} {zv : Value} (hv : parts.map (fun (i, x) => (i, ρ x)) = vs) (hT : P.underlying T = some (.slice E)) (hs : (P.info? E).map (·.size) = some s) (hz : (P.info? E).bind (·.zero) = some zv)
    (hlt : ¬ (len * s > 2 ^ 24)) (h0 : ¬ len * s = 0) (hf : Instr.fill (fun i => some (i * s, s)) ((Array.range (len * s)).map (zv.cells[· % zv.cells.size]!)) vs = some cs) :
    (execOp ρ ⟨d, .buildSlice T len parts.toArray, ty, ps, af, g⟩).run P w = .ok (.value (.slice (some ⟨w.heap.size, 0, none⟩) len len)) (w.alloc (.cells cs E)) := by
  subst hv
  simp only [execOp, Instr.buildSlice, List.map_toArray, run_underlying hT, run_sizeOf hs, Sem.run_bind, Result.andThen_ok, hlt, h0, if_false, run_zeroValue hz, hf, Sem.run_pure, newRow]
  rfl
end
end Go.Vc
namespace Go.Proofs.Ytlopdjbehhdmpaa
open Go.Vc Go.RowKit
def e0 : Ev := ⟨0, 9, 1, 0⟩
def e1 : Ev := ⟨0, 2, 2, 0⟩
def e2 : Ev := ⟨1, 1, 2, 0⟩
def e3 : Ev := ⟨1, 8, 1, 0⟩
def eL : Nat → Ev | 0 => e0 | 1 => e1 | 2 => e2 | _ => e3
def eS : Nat → Ev | 0 => e0 | _ => e3
def cellsE (L : List Ev) : Array Value := (L.flatMap fun e => [Value.int .i64 e.c, .int .i64 e.k, .int .i64 e.o, .int .i64 e.n]).toArray
theorem at_eL {w : World} {b : Nat} (h : Blk w b (cellsE [e0, e1, e2, e3]) 53) : EvAt w (some ⟨b, 0, none⟩) 4 eL := by
  refine ⟨SL.mk _ _ _, fun {i} hi => ?_, fun {i} hi => ?_, fun {i} hi => ?_, fun {i} hi => ?_⟩ <;>
    (match i, hi with
     | 0, _ => exact h.cell rfl
     | 1, _ => exact h.cell rfl
     | 2, _ => exact h.cell rfl
     | 3, _ => exact h.cell rfl)
theorem at_eS {w : World} {b : Nat} (h : Blk w b (cellsE [e0, e3]) 53) : EvAt w (some ⟨b, 0, none⟩) 2 eS := by
  refine ⟨SL.mk _ _ _, fun {i} hi => ?_, fun {i} hi => ?_, fun {i} hi => ?_, fun {i} hi => ?_⟩ <;>
    (match i, hi with
     | 0, _ => exact h.cell rfl
     | 1, _ => exact h.cell rfl)
theorem ok_of {E : Nat → Ev} {n : Nat} {cl : Int} (h : ∀ i, i < n → (0 ≤ (E i).c ∧ (E i).c < cl) ∧ 1 ≤ (E i).k ∧ (E i).k ≤ 11) : okE E cl n := by
  intro i hi hb
  have := h i hi
  unfold badE at hb
  omega
theorem ok_eL : okE eL 2 4 := ok_of (by
  intro i hi
  match i, hi with
  | 0, _ => decide
  | 1, _ => decide
  | 2, _ => decide
  | 3, _ => decide)
theorem ok_eS : okE eS 2 2 := ok_of (by
  intro i hi
  match i, hi with
  | 0, _ => decide
  | 1, _ => decide)
theorem check_eL : check eL 4 2 = 0 := check_good (by decide) (by decide) ok_eL
theorem check_eS : check eS 2 2 = 0 := check_good (by decide) (by decide) ok_eS
theorem clk_eL : clk eL 3 0 = 2 ∧ clk eL 3 1 = 2 := by decide
theorem ah_eL : ahB eL 0 3 = true := by
  rw [← ahB_clk eL ok_eL (by decide) (by decide)]; decide
theorem ah_eS : ahB eS 0 1 = false := by
  rw [← ahB_clk eS ok_eS (by decide) (by decide)]; decide
theorem races_eL : racesL eL 4 = [] := by
  have h1 : ∀ i j, j < 3 → i < j → raceB eL i j = false := by
    intro i j hj hi
    unfold raceB
    rw [decide_eq_false]; rfl
    rintro ⟨⟨⟨⟨h1, h2⟩, _⟩, _⟩, _⟩
    match j, hj, hi, h2 with
    | 1, _, _, h2 => revert h2; decide
    | 2, _, _, h2 => revert h2; decide
  have h3 : ∀ i, i < 3 → raceB eL i 3 = false := by
    intro i hi
    match i, hi with
    | 0, _ => unfold raceB; rw [ah_eL]; simp
    | 1, _ => unfold raceB; rw [decide_eq_false (by decide)]; rfl
    | 2, _ => unfold raceB; rw [decide_eq_false (by decide)]; rfl
  rw [racesL_none h3, racesL_none (fun i hi => h1 i 2 (by decide) hi), racesL_none (fun i hi => h1 i 1 (by decide) hi), racesL_none (fun i hi => absurd hi (Nat.not_lt_zero i))]; rfl
theorem races_eS : (racesL eS 2).length = 1 := by
  rw [racesL_some (i := 0) (j := 1) (fun x hx => absurd hx (Nat.not_lt_zero x)) (by unfold raceB; rw [ah_eS, decide_eq_true (by decide)]; rfl) (by decide)]
  rw [racesL_none (fun i hi => absurd hi (Nat.not_lt_zero i))]; rfl
theorem sees_eL : seesR eL 4 2 3 = (0, true) := by
  unfold seesR
  rw [check_eL, if_neg (by decide)]
  rfl
theorem bef_eL : befR eL 4 0 3 = true := by
  unfold befR
  rw [if_neg (by decide)]
  exact ah_eL
end Go.Proofs.Ytlopdjbehhdmpaa
