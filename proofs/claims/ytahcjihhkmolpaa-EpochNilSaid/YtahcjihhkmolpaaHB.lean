/- The state of a heap of nodes. -/
import Derived.Test.YtahcjihhkmolpaaH1
namespace Go.Proofs.Ytahcjihhkmolpaa
open Go.Vc Go.RowKit
/-- A node: its generation, whether it is live, its value. -/
structure Nd where
  g : Int
  l : Bool
  v : Int
def ptrs (X : Nat → Nat) (n : Nat) : List Value := (List.range n).map fun i => .pointer (some ⟨X i, 0, none⟩)
theorem ptrs_get {X : Nat → Nat} {n i : Nat} (h : i < n) : (ptrs X n)[i]? = some (.pointer (some ⟨X i, 0, none⟩)) := by simp [ptrs, h]
theorem ptrs_snoc (X : Nat → Nat) (n x : Nat) : ptrs X n ++ [.pointer (some ⟨x, 0, none⟩)] = ptrs (upf X n x) (n + 1) := by
  unfold ptrs
  rw [lst_snoc]
  congr 1
  · refine List.map_congr_left fun i hi => ?_
    have := List.mem_range.1 hi
    simp [upf, show i ≠ n by omega]
  · simp [upf]
abbrev ndC (obj : Int) (i wb : Nat) (d : Nd) : Array Value := #[.int .i64 obj, .int .i64 ((i : Int) + 1), .pointer (some ⟨wb, 0, none⟩), .int .i64 d.g, .bool d.l, .int .i64 d.v]
/-- The nodes' cells. -/
structure XS (w : World) (B n : Nat) (X : Nat → Nat) (obj : Int) (wb : Nat) (nd : Nat → Nd) : Prop where
  blk : ∀ i, i < n → Blk w (X i) (ndC obj i wb (nd i)) 132
  le : ∀ i, i < n → B ≤ X i
  inj : ∀ i j, i < n → j < n → X i = X j → i = j
section
variable {w w' : World} {B B' n m : Nat} {X : Nat → Nat} {obj : Int} {wb : Nat} {nd : Nat → Nd} {TS : List TypeId} {pa : Option Addr} {pool : Nat → Int}
theorem XS.keep (h : XS w B n X obj wb nd) (hb : Below w.heap.size w w') : XS w' B n X obj wb nd := ⟨fun i hi => (h.blk i hi).keep hb, h.le, h.inj⟩
theorem XS.mod (h : XS w B n X obj wb nd) (hm : ModT w w' B' TS) (hT : TS.contains 132 = false) : XS w' B n X obj wb nd := ⟨fun i hi => (h.blk i hi).mod hm hT, h.le, h.inj⟩
theorem XS.other (h : XS w B n X obj wb nd) {b : Nat} (hg : w.grownBy w' (some b)) (hb : ∀ i, i < n → X i ≠ b) : XS w' B n X obj wb nd := ⟨fun i hi => (h.blk i hi).other hg (hb i hi), h.le, h.inj⟩
theorem XS.put (h : XS w B n X obj wb nd) {i : Nat} (hi : i < n) {d : Nd} (hg : w.grownBy w' (some (X i))) (hB : Blk w' (X i) (ndC obj i wb d) 132) : XS w' B n X obj wb (upf nd i d) :=
  ⟨fun j hj => by
    by_cases hji : j = i
    · subst hji; simpa [upf] using hB
    · simp only [upf, hji, if_false]; exact (h.blk j hj).other hg (fun e => hji (h.inj j i hj hi e)), h.le, h.inj⟩
theorem XS.snoc (h : XS w B n X obj wb nd) {b : Nat} {d : Nd} (hB : Blk w b (ndC obj n wb d) 132) (hb : B ≤ b) (hne : ∀ i, i < n → X i ≠ b) : XS w B (n + 1) (upf X n b) obj wb (upf nd n d) :=
  ⟨fun j hj => by
    by_cases hjn : j = n
    · subst hjn; simpa [upf] using hB
    · simp only [upf, hjn, if_false]; exact h.blk j (by omega), fun j hj => by
    by_cases hjn : j = n
    · subst hjn; simpa [upf] using hb
    · simp only [upf, hjn, if_false]; exact h.le j (by omega), fun i j hi hj hij => by
    by_cases h1 : i = n <;> by_cases h2 : j = n <;> simp only [upf, h1, h2, if_true, if_false] at hij ⊢
    · exact absurd hij.symm (hne j (by omega))
    · exact absurd hij (hne i (by omega))
    · exact h.inj i j (by omega) (by omega) hij⟩
/-- The pool's numbers. -/
structure PoolAt (w : World) (B : Nat) (pa : Option Addr) (m : Nat) (pool : Nat → Int) : Prop where
  sl : SL pa m
  bl : 0 < m → ∃ cs, Blk w (ab pa) cs 3 ∧ B ≤ ab pa ∧ ∀ j, j < m → cs[ao pa + j * 1]? = some (.int .i64 (pool j))
theorem PoolAt.keep (h : PoolAt w B pa m pool) (hb : Below w.heap.size w w') : PoolAt w' B pa m pool :=
  ⟨h.sl, fun h0 => let ⟨cs, h1, h2, h3⟩ := h.bl h0; ⟨cs, h1.keep hb, h2, h3⟩⟩
theorem PoolAt.mod (h : PoolAt w B pa m pool) (hm : ModT w w' B' TS) (hT : TS.contains 3 = false) : PoolAt w' B pa m pool :=
  ⟨h.sl, fun h0 => let ⟨cs, h1, h2, h3⟩ := h.bl h0; ⟨cs, h1.mod hm hT, h2, h3⟩⟩
theorem PoolAt.cell (h : PoolAt w B pa m pool) {j : Nat} (hj : j < m) : w.cell? ⟨ab pa, ao pa + j * 1, none⟩ = some (.int .i64 (pool j)) :=
  let ⟨_, h1, _, h3⟩ := h.bl (by omega); h1.cell (h3 j hj)
theorem PoolAt.le (h : PoolAt w B pa m pool) {k : Nat} (hk : k ≤ m) : PoolAt w B pa k pool :=
  ⟨h.sl.le hk, fun h0 => let ⟨cs, h1, h2, h3⟩ := h.bl (by omega); ⟨cs, h1, h2, fun j hj => h3 j (by omega)⟩⟩
/-- The heap's memory. -/
structure HS (w : World) (B hb wb pb lb : Nat) (la pa : Option Addr) (lc pc : Nat) (X : Nat → Nat) (obj most : Int) (n : Nat) (nd : Nat → Nd) (m : Nat) (pool : Nat → Int) : Prop where
  hH : Blk w hb #[.pointer (some ⟨wb, 0, none⟩), .int .i64 obj, .int .i64 most, .pointer (some ⟨pb, 0, none⟩), .pointer (some ⟨lb, 0, none⟩)] 78
  hW : Blk w wb #[.bool false] 82
  hP : Blk w pb #[.int .i64 obj, .int .i64 0, .pointer (some ⟨wb, 0, none⟩), .slice pa m pc] 126
  hL : Blk w lb #[.slice la n lc] 80
  hO : Own w B 85 1 la n lc (ptrs X n)
  hX : XS w B n X obj wb nd
  hPl : PoolAt w B pa m pool
  hpc : m ≤ pc
  lH : B ≤ hb
  lP : B ≤ pb
  lL : B ≤ lb
  pl : ∀ j, j < m → ∃ i : Nat, i < n ∧ pool j = (i : Int) + 1
  hnil : pa = none → m = 0 ∧ pc = 0
def H (w : World) (B hb : Nat) (obj most : Int) (n : Nat) (nd : Nat → Nd) (m : Nat) (pool : Nat → Int) : Prop :=
  ∃ wb pb lb la pa lc pc X, HS w B hb wb pb lb la pa lc pc X obj most n nd m pool
variable {hb : Nat} {most : Int}
theorem H.keep (h : H w B hb obj most n nd m pool) (hbw : Below w.heap.size w w') : H w' B hb obj most n nd m pool := by
  obtain ⟨wb, pb, lb, la, pa, lc, pc, X, h⟩ := h
  exact ⟨wb, pb, lb, la, pa, lc, pc, X, h.hH.keep hbw, h.hW.keep hbw, h.hP.keep hbw, h.hL.keep hbw, h.hO.keep hbw, h.hX.keep hbw, h.hPl.keep hbw, h.hpc, h.lH, h.lP, h.lL, h.pl, h.hnil⟩
theorem contains_false {TS TS' : List TypeId} (h : (TS'.all fun t => !TS.contains t) = true) {t : TypeId} (ht : t ∈ TS') : TS.contains t = false := by
  have := List.all_eq_true.1 h t ht
  simpa using this
theorem H.mod (h : H w B hb obj most n nd m pool) (hm : ModT w w' B' TS) (hT : (([78, 82, 126, 80, 85, 132, 3] : List TypeId).all fun t => !TS.contains t) = true) : H w' B hb obj most n nd m pool := by
  obtain ⟨wb, pb, lb, la, pa, lc, pc, X, h⟩ := h
  have c := fun t ht => contains_false hT (t := t) ht
  exact ⟨wb, pb, lb, la, pa, lc, pc, X, h.hH.mod hm (c _ (by simp)), h.hW.mod hm (c _ (by simp)), h.hP.mod hm (c _ (by simp)), h.hL.mod hm (c _ (by simp)), h.hO.mod hm (c _ (by simp)), h.hX.mod hm (c _ (by simp)), h.hPl.mod hm (c _ (by simp)), h.hpc, h.lH, h.lP, h.lL, h.pl, h.hnil⟩
end
theorem ex51 : Extern.find Try.f51 = some Extern.Atomic.storeT := by kernel_rfl
theorem en51 : Extern.findNext Try.f51 = none := by kernel_rfl
theorem ex57 : Extern.find Try.f57 = some (Extern.Atomic.loadT .ptr) := by kernel_rfl
theorem en57 : Extern.findNext Try.f57 = none := by kernel_rfl
theorem nz80 : (Try.prog.info? 80).map (fun i => decide (i.size = 0)) = some false := by kernel_rfl
theorem la80 (v : Value) : liesAt Try.prog Try.prog.depth 80 (#[v].size / Try.prog.cellsOf 80) 0 80 1 = true := by kernel_rfl
end Go.Proofs.Ytahcjihhkmolpaa
