/- The state of a keeper. -/
import Derived.Test.YtahcjihhkmolpaaH8
import Derived.Test.YtahcjihhkmolpaaHD
import Derived.Test.YtahcjihhkmolpaaVc14
namespace Go.Proofs.Ytahcjihhkmolpaa
open Go.Vc Go.RowKit
/-- A root as it lies: stamp, nodes, tag. -/
structure Rt where
  s : Int
  a : Option Addr
  n : Nat
  c : Nat
  tg : Int
abbrev rtC (r : Rt) : List Value := [.int .i64 r.s, .slice r.a r.n r.c, .int .i64 r.tg]
/-- The pins' cells. -/
structure PS (w : World) (B np : Nat) (PX : Nat → Nat) (obj : Int) (wb : Nat) (pin : Nat → Int) : Prop where
  blk : ∀ i, i < np → ∃ av, Blk w (PX i) #[.int .i64 obj, .int .i64 ((i : Int) + 1), .pointer (some ⟨wb, 0, none⟩), .int .i64 (pin i), av] 148
  le : ∀ i, i < np → B ≤ PX i
  inj : ∀ i j, i < np → j < np → PX i = PX j → i = j
section
variable {w w' : World} {B B' np : Nat} {PX : Nat → Nat} {obj : Int} {wb : Nat} {pin : Nat → Int} {TS : List TypeId}
theorem PS.keep (h : PS w B np PX obj wb pin) (hb : Below w.heap.size w w') : PS w' B np PX obj wb pin := ⟨fun i hi => let ⟨av, h1⟩ := h.blk i hi; ⟨av, h1.keep hb⟩, h.le, h.inj⟩
theorem PS.mod (h : PS w B np PX obj wb pin) (hm : ModT w w' B' TS) (hT : TS.contains 148 = false) : PS w' B np PX obj wb pin := ⟨fun i hi => let ⟨av, h1⟩ := h.blk i hi; ⟨av, h1.mod hm hT⟩, h.le, h.inj⟩
theorem PS.put (h : PS w B np PX obj wb pin) {i : Nat} (hi : i < np) {x : Int} {av : Value} (hg : w.grownBy w' (some (PX i))) (hB : Blk w' (PX i) #[.int .i64 obj, .int .i64 ((i : Int) + 1), .pointer (some ⟨wb, 0, none⟩), .int .i64 x, av] 148) : PS w' B np PX obj wb (upf pin i x) :=
  ⟨fun j hj => by
    by_cases hji : j = i
    · subst hji; exact ⟨av, by simpa [upf] using hB⟩
    · obtain ⟨av', h1⟩ := h.blk j hj
      refine ⟨av', ?_⟩
      simp only [upf, hji, if_false]; exact h1.other hg (fun e => hji (h.inj j i hj hi e)), h.le, h.inj⟩
theorem PS.snoc (h : PS w B np PX obj wb pin) {b : Nat} {x : Int} {av : Value} (hB : Blk w b #[.int .i64 obj, .int .i64 ((np : Int) + 1), .pointer (some ⟨wb, 0, none⟩), .int .i64 x, av] 148) (hb : B ≤ b) (hne : ∀ i, i < np → PX i ≠ b) : PS w B (np + 1) (upf PX np b) obj wb (upf pin np x) :=
  ⟨fun j hj => by
    by_cases hjn : j = np
    · subst hjn; exact ⟨av, by simpa [upf] using hB⟩
    · simp only [upf, hjn, if_false]; exact h.blk j (by omega), fun j hj => by
    by_cases hjn : j = np
    · subst hjn; simpa [upf] using hb
    · simp only [upf, hjn, if_false]; exact h.le j (by omega), fun i j hi hj hij => by
    by_cases h1 : i = np <;> by_cases h2 : j = np <;> simp only [upf, h1, h2, if_true, if_false] at hij ⊢
    · exact absurd hij.symm (hne j (by omega))
    · exact absurd hij (hne i (by omega))
    · exact h.inj i j (by omega) (by omega) hij⟩
end
/-- The keeper's memory. -/
structure KS (w : World) (B kb hp rb wb lb : Nat) (psa la : Option Addr) (psc lc : Nat) (PX : Nat → Nat) (av : Value) (obj : Int) (np : Nat) (pin : Nat → Int) (r : Rt) (ln : Nat) : Prop where
  hK : Blk w kb #[.pointer (some ⟨hp, 0, none⟩), .pointer (some ⟨rb, 0, none⟩), .slice psa np psc, .pointer (some ⟨lb, 0, none⟩)] 101
  hW : Blk w wb #[.bool false] 82
  hR : Blk w rb #[.int .i64 obj, .int .i64 0, .pointer (some ⟨wb, 0, none⟩), .int .i64 r.s, .slice r.a r.n r.c, .int .i64 r.tg, av] 139
  hL : Blk w lb #[.int .i64 obj, .int .i64 ((np : Int) + 1), .pointer (some ⟨wb, 0, none⟩), .slice la ln lc] 142
  hP : Own w B 102 1 psa np psc (ptrs PX np)
  hX : PS w B np PX obj wb pin
  lK : B ≤ kb
  lR : B ≤ rb
  lL : B ≤ lb
  hnp : np ≤ 256
/-- The keeper has so many pins, a root, a list of so many. -/
def KT (w : World) (B kb hp : Nat) (obj : Int) (np : Nat) (pin : Nat → Int) (r : Rt) (la : Option Addr) (ln lc : Nat) : Prop :=
  ∃ rb wb lb psa psc PX av, KS w B kb hp rb wb lb psa la psc lc PX av obj np pin r ln
abbrev KTS : List TypeId := [101, 82, 139, 142, 102, 148]
section
variable {w w' : World} {B B' kb hp np ln lc : Nat} {obj : Int} {pin : Nat → Int} {r : Rt} {la : Option Addr} {TS : List TypeId}
theorem KT.keep (h : KT w B kb hp obj np pin r la ln lc) (hb : Below w.heap.size w w') : KT w' B kb hp obj np pin r la ln lc := by
  obtain ⟨rb, wb, lb, psa, psc, PX, av, h⟩ := h
  exact ⟨rb, wb, lb, psa, psc, PX, av, h.hK.keep hb, h.hW.keep hb, h.hR.keep hb, h.hL.keep hb, h.hP.keep hb, h.hX.keep hb, h.lK, h.lR, h.lL, h.hnp⟩
theorem KT.mod (h : KT w B kb hp obj np pin r la ln lc) (hm : ModT w w' B' TS) (hT : (([101, 82, 139, 142, 102, 148] : List TypeId).all fun t => !TS.contains t) = true) : KT w' B kb hp obj np pin r la ln lc := by
  obtain ⟨rb, wb, lb, psa, psc, PX, av, h⟩ := h
  have c := fun t ht => contains_false hT (t := t) ht
  exact ⟨rb, wb, lb, psa, psc, PX, av, h.hK.mod hm (c _ (by simp)), h.hW.mod hm (c _ (by simp)), h.hR.mod hm (c _ (by simp)), h.hL.mod hm (c _ (by simp)), h.hP.mod hm (c _ (by simp)), h.hX.mod hm (c _ (by simp)), h.lK, h.lR, h.lL, h.hnp⟩
end
theorem mt61 : ∀ (recv : Value) (w : World), (Go.method (Try.prog.types.size + Made.depth) 61 recv "Stamp").run Try.prog w = .ok (88, recv) w := by
  intro recv w; kernel_rfl
end Go.Proofs.Ytahcjihhkmolpaa
