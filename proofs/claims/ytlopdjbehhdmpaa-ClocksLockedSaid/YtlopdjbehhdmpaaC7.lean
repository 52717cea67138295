/- Contracts: the table of takes; what ahead and Clone tell. -/
import Derived.Test.YtlopdjbehhdmpaaC6
namespace Go.Proofs.Ytlopdjbehhdmpaa
open Go.Vc Go.RowKit
/-- The function of a kind. -/
def fkT : List (Int × Nat) → Int → Option Nat
  | [], _ => none
  | (a, f) :: t, k => if k = a then some f else fkT t k
def fkL : List (Int × Nat) := [(11, 36), (10, 36), (9, 36), (8, 36), (7, 44), (6, 43), (5, 42), (4, 41), (2, 40), (3, 39), (1, 37)]
def fk (k : Int) : Option Nat := fkT fkL k
def fnV (f : Nat) : Value := .func (.func f) #[] #[]
abbrev i64V (a : Int) : Value := .int .i64 a
theorem key3 : Keys Try.prog 3 i64V := Keys.i64 Try.underlying3
theorem key68 : Keys Try.prog 68 pairV := Keys.pair Try.underlying68 ⟨by decide, rfl, rfl⟩ ⟨by decide, rfl, rfl⟩ Try.underlying3 Try.stoodInHeld68
theorem below_alloc (w : World) (o : Obj) : Below w.heap.size w (w.alloc o) := ⟨rfl, rfl, rfl, by show _ ≤ (w.heap.push o).size; simp, fun k hk => by show (w.heap.push o)[k]? = _; rw [Array.getElem?_push_lt hk, Array.getElem?_eq_getElem hk]⟩
/-- The map of the takes. -/
def KindsAt (w : World) (r : Nat) : Prop := ∃ Lk : List (Int × Value), MapF w r i64V Lk ∧ ∀ k, lookL Lk k = (fk k).map fnV
theorem KindsAt.grown {w w' : World} {r : Nat} {row : Option Nat} (h : KindsAt w r) (hg : w.grownBy w' row) (hne : some r ≠ row) : KindsAt w' r := let ⟨Lk, h1, h2⟩ := h; ⟨Lk, h1.grown hg hne, h2⟩
theorem KindsAt.keep {w w' : World} {r : Nat} (h : KindsAt w r) (hb : Below w.heap.size w w') : KindsAt w' r := h.grown (grownBy_of_below hb) (by simp)
theorem tab_nil (k : Int) : lookL ([] : List (Int × Value)) k = (fkT [] k).map fnV := rfl
theorem tab_put {Lk : List (Int × Value)} {t : List (Int × Nat)} (h : ∀ k, lookL Lk k = (fkT t k).map fnV) (a : Int) (f : Nat) (k : Int) : lookL (putL Lk a (fnV f)) k = (fkT ((a, f) :: t) k).map fnV := by
  rw [lookL_put, h k]
  show _ = Option.map fnV (if k = a then some f else fkT t k)
  split <;> rfl

theorem takes_c (w0 : World) :
    C Try.prog 34 #[] w0 fun v w' => ∃ r, v = .map (some r) ∧ w0.heap.size ≤ r ∧ KindsAt w' r ∧ Below w0.heap.size w0 w'  := by
  refine C.enter (n := 8) Try.func34 rfl rfl ?_
  have hb : Below w0.heap.size w0 w0 := Below.refl _ _
  refine W.seq ?_
  refine W.region rfl ?_
  refine L.va (x_asM rfl) ?_
  refine L.nil ?_
  show W _ _ _ _ _ _
  refine W.seq ?_
  refine W.region rfl ?_
  refine L.va (x_asF rfl) ?_
  refine L.nil ?_
  show W _ _ _ _ _ _
  refine W.seq ?_
  refine W.region rfl ?_
  refine L.va x_makeMap ?_
  have hM := MapF.made w0 i64V
  have hb := cl_step hb (below_alloc w0 (.map #[] 0))
  have hr : w0.heap.size ≤ w0.heap.size := Nat.le_refl _
  have hL := tab_nil
  refine L.mins (κ := i64V) (a := 1) (v := fnV 37) Try.underlying71 key3 rfl rfl rfl hM (fun o hM => ?_)
  have hL := tab_put hL 1 37
  have hb := putObj_below hb hr o
  generalize putL (α := Int) _ _ _ = Lm at hM hL
  generalize putObj _ _ _ = w at hM hb ⊢
  refine L.mins (κ := i64V) (a := 3) (v := fnV 39) Try.underlying71 key3 rfl rfl rfl hM (fun o hM => ?_)
  have hL := tab_put hL 3 39
  have hb := putObj_below hb hr o
  generalize putL (α := Int) _ _ _ = Lm at hM hL
  generalize putObj _ _ _ = w at hM hb ⊢
  refine L.mins (κ := i64V) (a := 2) (v := fnV 40) Try.underlying71 key3 rfl rfl rfl hM (fun o hM => ?_)
  have hL := tab_put hL 2 40
  have hb := putObj_below hb hr o
  generalize putL (α := Int) _ _ _ = Lm at hM hL
  generalize putObj _ _ _ = w at hM hb ⊢
  refine L.mins (κ := i64V) (a := 4) (v := fnV 41) Try.underlying71 key3 rfl rfl rfl hM (fun o hM => ?_)
  have hL := tab_put hL 4 41
  have hb := putObj_below hb hr o
  generalize putL (α := Int) _ _ _ = Lm at hM hL
  generalize putObj _ _ _ = w at hM hb ⊢
  refine L.mins (κ := i64V) (a := 5) (v := fnV 42) Try.underlying71 key3 rfl rfl rfl hM (fun o hM => ?_)
  have hL := tab_put hL 5 42
  have hb := putObj_below hb hr o
  generalize putL (α := Int) _ _ _ = Lm at hM hL
  generalize putObj _ _ _ = w at hM hb ⊢
  refine L.mins (κ := i64V) (a := 6) (v := fnV 43) Try.underlying71 key3 rfl rfl rfl hM (fun o hM => ?_)
  have hL := tab_put hL 6 43
  have hb := putObj_below hb hr o
  generalize putL (α := Int) _ _ _ = Lm at hM hL
  generalize putObj _ _ _ = w at hM hb ⊢
  refine L.mins (κ := i64V) (a := 7) (v := fnV 44) Try.underlying71 key3 rfl rfl rfl hM (fun o hM => ?_)
  have hL := tab_put hL 7 44
  have hb := putObj_below hb hr o
  generalize putL (α := Int) _ _ _ = Lm at hM hL
  generalize putObj _ _ _ = w at hM hb ⊢
  refine L.va (x_mvF rfl) ?_
  refine L.mins (κ := i64V) (a := 8) (v := fnV 36) Try.underlying71 key3 rfl rfl rfl hM (fun o hM => ?_)
  have hL := tab_put hL 8 36
  have hb := putObj_below hb hr o
  generalize putL (α := Int) _ _ _ = Lm at hM hL
  generalize putObj _ _ _ = w at hM hb ⊢
  refine L.va (x_mvF rfl) ?_
  refine L.mins (κ := i64V) (a := 9) (v := fnV 36) Try.underlying71 key3 rfl rfl rfl hM (fun o hM => ?_)
  have hL := tab_put hL 9 36
  have hb := putObj_below hb hr o
  generalize putL (α := Int) _ _ _ = Lm at hM hL
  generalize putObj _ _ _ = w at hM hb ⊢
  refine L.va (x_mvF rfl) ?_
  refine L.mins (κ := i64V) (a := 10) (v := fnV 36) Try.underlying71 key3 rfl rfl rfl hM (fun o hM => ?_)
  have hL := tab_put hL 10 36
  have hb := putObj_below hb hr o
  generalize putL (α := Int) _ _ _ = Lm at hM hL
  generalize putObj _ _ _ = w at hM hb ⊢
  refine L.va (x_mvF rfl) ?_
  refine L.mins (κ := i64V) (a := 11) (v := fnV 36) Try.underlying71 key3 rfl rfl rfl hM (fun o hM => ?_)
  have hL := tab_put hL 11 36
  have hb := putObj_below hb hr o
  generalize putL (α := Int) _ _ _ = Lm at hM hL
  generalize putObj _ _ _ = w at hM hb ⊢
  refine L.va (x_mvM rfl) ?_
  refine L.va (x_asM rfl) ?_
  refine L.nil ?_
  show W _ _ _ _ _ _
  refine W.ret ?_
  repeat (first | refine T.ret ?_ | refine B.ret ?_)
  refine ends.one (.inr rfl) rfl ?_
  exact ⟨_, rfl, hr, ⟨_, hM, hL⟩, hb⟩

end Go.Proofs.Ytlopdjbehhdmpaa
