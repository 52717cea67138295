/- Contracts: the more of two clocks; what a kind of step takes and gives. -/
import Derived.Test.YtlopdjbehhdmpaaBase4
namespace Go.Proofs.Ytlopdjbehhdmpaa
open Go.Vc Go.RowKit

theorem with_c (f g : Nat → Nat) (w0 : World) :
    C Try.prog 38 #[clkV f, clkV g] w0 fun v w' => v = clkV (jn f g) ∧ Below w0.heap.size w0 w'  := by
  refine C.enter (n := 24) Try.func38 rfl rfl ?_
  have hb : Below w0.heap.size w0 w0 := Below.refl _ _
  refine W.seq ?_
  refine W.region rfl ?_
  refine L.box rfl rfl (fun w b2 F2 => ?_)
  have hb := cl_step hb F2.below
  have hB2 : Blk w b2 (arr 16 (ints f)) 62 := F2.blk
  have h2 : w0.heap.size ≤ b2 := by have := F2.here; omega
  refine L.box rfl rfl (fun w b3 F3 => ?_)
  have hn3 : b2 ≠ b3 := by have := F3.here; have := hB2.lt; omega
  have h3 : w0.heap.size ≤ b3 := by have := F3.here; have := hb.size; omega
  have hb := cl_step hb F3.below
  have hB2 := hB2.keep F3.below
  have hB3 : Blk w b3 (arr 16 (ints g)) 62 := F3.blk
  refine L.alloc zr62 rfl (fun w b4 F4 => ?_)
  have hn4 : b2 ≠ b4 := by have := F4.here; have := hB2.lt; omega
  have hn34 : b3 ≠ b4 := by have := F4.here; have := hB3.lt; omega
  have h4 : w0.heap.size ≤ b4 := by have := F4.here; have := hb.size; omega
  have hb := cl_step hb F4.below
  have hB2 := hB2.keep F4.below
  have hB3 := hB3.keep F4.below
  have hB4 : Blk w b4 (Array.replicate 16 (Value.int .i64 0)) 62 := F4.blk
  rw [zero16] at hB4
  refine L.nil ?_
  show W _ _ _ _ _ _
  refine W.seq ?_
  refine W.seq ?_
  refine W.region rfl ?_
  refine L.va (x_loadArr rfl Try.underlying62 rfl sz62 hB2 (by decide) (fun k _ => ints_congr (f := fun k => f (0 + k)) (by rw [Nat.zero_add]))) ?_
  refine L.va (x_loadArr rfl Try.underlying62 rfl sz62 hB3 (by decide) (fun k _ => ints_congr (f := fun k => g (0 + k)) (by rw [Nat.zero_add]))) ?_
  refine L.va (eq62 rfl rfl) ?_
  refine L.nil ?_
  show W _ _ _ _ _ _
  refine W.cond rfl (fun h8 => ?_) (fun h8 => ?_)
  · refine W.seq ?_
    refine W.region rfl ?_
    refine L.va (x_loadArr rfl Try.underlying62 rfl sz62 hB2 (by decide) (fun k _ => ints_congr (f := fun k => f (0 + k)) (by rw [Nat.zero_add]))) ?_
    refine L.st (x_storeArr rfl rfl sz62 (fun k => rfl) hB4 (by decide)) ?_
    have hb := Below.setBlk hb h4 (arr 16 (fun x => if 0 ≤ x ∧ x < 0 + 16 then ints f (x - 0) else ints (fun _ => 0) x)) 62
    have hB4 := (setBlk_self (arr 16 (ints fun _ => 0)) (arr 16 (fun x => if 0 ≤ x ∧ x < 0 + 16 then ints f (x - 0) else ints (fun _ => 0) x)) 62 hB4).congrA (fun x hx => set16 (fun _ => 0) f hx)
    refine L.nil ?_
    show W _ _ _ _ _ _
    refine W.ret ?_
    repeat (first | refine T.ret ?_ | refine B.ret ?_)
    refine ends.cellArr (.inr rfl) rfl rfl Try.underlying62 rfl (by rw [arr_size]; exact sz62) hB4 ?_
    refine ⟨clkV_congr fun k hk => ?_, hb⟩
    have := eqN_iff.1 h8 k hk
    simp only [jn]; omega
  · refine W.skip ?_
    show W _ _ _ _ _ _
    refine W.seq ?_
    refine W.seq ?_
    refine W.region rfl ?_
    refine L.va (x_mvI rfl) ?_
    refine L.nil ?_
    show W _ _ _ _ _ _
    refine W.block ?_
    refine W.loop (fun k e w => ∃ i : Nat, k = 16 - i ∧ e 2 = .pointer (some ⟨b2, 0, none⟩) ∧ e 3 = .pointer (some ⟨b3, 0, none⟩) ∧ e 4 = .pointer (some ⟨b4, 0, none⟩) ∧ e 10 = .int .i64 (i : Int) ∧ Below w0.heap.size w0 w ∧ i ≤ 16 ∧ Blk w b2 (arr 16 (ints (fun k => if k < i then jn f g k else f k))) 62 ∧ Blk w b3 (arr 16 (ints g)) 62 ∧ Blk w b4 (arr 16 (ints fun _ => 0)) 62) _ ⟨0, rfl, rfl, rfl, rfl, rfl, hb, Nat.zero_le _, hB2, hB3, hB4⟩ ?_
    rintro k e w ⟨i, hk, s2, s3, s4, s10, hb, hi, hB2, hB3, hB4⟩
    rw [upd_id s2, upd_id s3, upd_id s4, upd_id s10]
    clear s2 s3 s4 s10
    refine W.seq ?_
    refine W.region rfl ?_
    refine L.va (x_lss rfl rfl) ?_
    refine L.nil ?_
    show W _ _ _ _ _ _
    refine W.seq ?_
    refine W.condP rfl (fun h11 => ?_) (fun h11 => ?_)
    · refine W.skip ?_
      show W _ _ _ _ _ _
      refine W.seq ?_
      refine W.block ?_
      refine W.seq ?_
      refine W.region rfl ?_
      refine L.va (x_mvI rfl) ?_
      refine L.va (x_asI rfl) ?_
      refine L.nil ?_
      show W _ _ _ _ _ _
      have hi : i < 16 := by omega
      refine W.last 9 (fun w' => Below w.heap.size w w') (by kernel_rfl) (by kernel_rfl) (by kernel_rfl) rfl ((Below.refl w.heap.size w).drew) ?_
      refine D.va (fun w' hw' => (x_mvI rfl)) ?_
      refine D.va (fun w' hw' => (x_mvI rfl)) ?_
      refine D.va (fun w' hw' => x_idxArr rfl rfl Try.underlying62 sz3 hi) ?_
      refine D.va (fun w' hw' => (x_load rfl Try.underlying3 rfl (((hB2.keep hw').cell (arr_get (by omega)))))) ?_
      refine D.va (fun w' hw' => (x_mvI rfl)) ?_
      refine D.va (fun w' hw' => x_idxArr rfl rfl Try.underlying62 sz3 hi) ?_
      refine D.va (fun w' hw' => (x_load rfl Try.underlying3 rfl (((hB3.keep hw').cell (arr_get (by omega)))))) ?_
      refine D.va (fun w' hw' => x_maxN rfl rfl) ?_
      refine D.va (fun w' hw' => x_idxArr rfl rfl Try.underlying62 sz3 hi) ?_
      refine D.nil ?_
      intro w' hw'
      refine ⟨_, x_store rfl rfl sz3 rfl ((hB2.keep hw').cell (arr_get (by omega))) (hB2.keep hw').frozen, ?_⟩
      have hb := (cl_step hb hw').setCell (p := ⟨b2, 0 + i * 1, none⟩) h2 (.int .i64 ((max (if 0 + i * 1 < i then jn f g (0 + i * 1) else f (0 + i * 1)) (g (0 + i * 1)) : Nat) : Int))
      have hB3 := (hB3.keep hw').setOther (p := ⟨b2, 0 + i * 1, none⟩) (Ne.symm hn3) (.int .i64 ((max (if 0 + i * 1 < i then jn f g (0 + i * 1) else f (0 + i * 1)) (g (0 + i * 1)) : Nat) : Int))
      have hB4 := (hB4.keep hw').setOther (p := ⟨b2, 0 + i * 1, none⟩) (Ne.symm hn4) (.int .i64 ((max (if 0 + i * 1 < i then jn f g (0 + i * 1) else f (0 + i * 1)) (g (0 + i * 1)) : Nat) : Int))
      have hB2 := (hB2.keep hw').set (o := 0 + i * 1) (.int .i64 ((max (if 0 + i * 1 < i then jn f g (0 + i * 1) else f (0 + i * 1)) (g (0 + i * 1)) : Nat) : Int))
      rw [arr_set] at hB2
      have hB2 := hB2.congrA (g := ints (fun k => if k < i + 1 then jn f g k else f k)) (fun k _ => by
        rw [Nat.zero_add, Nat.mul_one]
        by_cases hk : k = i
        · subst hk; simp [ints, jn]
        · rw [if_neg hk]; exact ints_congr (f := fun k => if k < i then jn f g k else f k) (g := fun k => if k < i + 1 then jn f g k else f k) (by simp only [show (k < i) = (k < i + 1) by rw [eq_iff_iff]; omega]))
      refine B.nrm ?_
      show W _ _ _ _ _ _
      refine W.region rfl ?_
      refine L.va (x_inc rfl rfl (by omega)) ?_
      refine L.va (x_mvI rfl) ?_
      refine L.nil ?_
      refine T.nrm ?_
      exact ⟨_, by omega, ⟨i + 1, rfl, rfl, rfl, rfl, rfl, hb, by omega, hB2, hB3, hB4⟩⟩
    · refine W.exit ?_
      repeat (first | refine T.exit ?_ | refine B.exitNe (by decide) ?_)
      refine B.exitEq ?_
      show W _ _ _ _ _ _
      refine W.seq ?_
      refine W.region rfl ?_
      refine L.va (x_loadArr rfl Try.underlying62 rfl sz62 hB2 (by decide) (fun k _ => by rw [Nat.zero_add])) ?_
      refine L.st (x_storeArr rfl rfl sz62 (fun k => rfl) hB4 (by decide)) ?_
      have hb := Below.setBlk hb h4 (arr 16 (fun x => if 0 ≤ x ∧ x < 0 + 16 then ints (fun k => if k < i then jn f g k else f k) (x - 0) else ints (fun _ => 0) x)) 62
      have hB4 := (setBlk_self (arr 16 (ints fun _ => 0)) (arr 16 (fun x => if 0 ≤ x ∧ x < 0 + 16 then ints (fun k => if k < i then jn f g k else f k) (x - 0) else ints (fun _ => 0) x)) 62 hB4).congrA (fun x hx => set16 (fun _ => 0) _ hx)
      refine L.nil ?_
      show W _ _ _ _ _ _
      refine W.ret ?_
      repeat (first | refine T.ret ?_ | refine B.ret ?_)
      refine ends.cellArr (.inr rfl) rfl rfl Try.underlying62 rfl (by rw [arr_size]; exact sz62) hB4 ?_
      refine ⟨clkV_congr fun k hk => ?_, hb⟩
      rw [if_pos (by omega)]

theorem take_none (h : Nat) (u s d f : Nat → Nat) (w0 : World) (hH : Blk w0 h (arr 48 (ints (hndN u s d))) 80) :
    C Try.prog 36 #[.pointer (some ⟨h, 0, none⟩), clkV f] w0 fun v w' => v = clkV (f) ∧ Blk w' h (arr 48 (ints (hndN (u) (s) (d)))) 80 ∧ w0.grownBy w' (some h) := by
  refine C.enter (n := 6) Try.func36 rfl rfl ?_
  have hb : w0.grownBy w0 (some h) := gr_refl _ _
  have hlt := hH.lt
  refine W.seq ?_
  refine W.region rfl ?_
  refine L.box rfl rfl (fun w b3 F3 => ?_)
  have hn3 : h ≠ b3 := by have := F3.here; omega
  have h3 : w0.heap.size ≤ b3 := by have := F3.here; omega
  have hb := gr_step hb F3.below
  have hH := hH.keep F3.below
  have hB3 : Blk w b3 (arr 16 (ints f)) 62 := F3.blk
  refine L.alloc zr62 rfl (fun w b4 F4 => ?_)
  have hn4 : h ≠ b4 := by have := F4.here; have := hH.lt; omega
  have hn34 : b3 ≠ b4 := by have := F4.here; have := hB3.lt; omega
  have h4 : w0.heap.size ≤ b4 := by have := F4.here; have := hb.size; omega
  have hb := gr_step hb F4.below
  have hH := hH.keep F4.below
  have hB3 := hB3.keep F4.below
  have hB4 : Blk w b4 (Array.replicate 16 (Value.int .i64 0)) 62 := F4.blk
  rw [zero16] at hB4
  refine L.nil ?_
  show W _ _ _ _ _ _
  refine W.seq ?_
  refine W.region rfl ?_
  refine L.va (x_loadArr rfl Try.underlying62 rfl sz62 hB3 (by decide) (fun k _ => ints_congr (f := fun k => (f) (0 + k)) (by rw [Nat.zero_add]))) ?_
  refine L.st (x_storeArr rfl rfl sz62 (fun k => rfl) hB4 (by decide)) ?_
  have hb := gr_set (hb) (.inr h4) (arr 16 (fun x => if 0 ≤ x ∧ x < 0 + 16 then ints (f) (x - (0)) else ints (fun _ => 0) x)) 62
  have hH := (hH).setBlkOther hn4 (arr 16 (fun x => if 0 ≤ x ∧ x < 0 + 16 then ints (f) (x - (0)) else ints (fun _ => 0) x)) 62
  have hB4 := (setBlk_self _ (arr 16 (fun x => if 0 ≤ x ∧ x < 0 + 16 then ints (f) (x - (0)) else ints (fun _ => 0) x)) 62 hB4).congrA (fun x hx => set16 (fun _ => 0) (f) hx)
  refine L.nil ?_
  show W _ _ _ _ _ _
  refine W.ret ?_
  repeat (first | refine T.ret ?_ | refine B.ret ?_)
  refine ends.cellArr (.inr rfl) rfl rfl Try.underlying62 rfl (by rw [arr_size]; exact sz62) hB4 ?_
  exact ⟨rfl, hH, hb⟩

theorem take_lock (h : Nat) (u s d f : Nat → Nat) (w0 : World) (hH : Blk w0 h (arr 48 (ints (hndN u s d))) 80) :
    C Try.prog 37 #[.pointer (some ⟨h, 0, none⟩), clkV f] w0 fun v w' => v = clkV (jn (jn f u) s) ∧ Blk w' h (arr 48 (ints (hndN (u) (s) (d)))) 80 ∧ w0.grownBy w' (some h) := by
  refine C.enter (n := 16) Try.func37 rfl rfl ?_
  have hb : w0.grownBy w0 (some h) := gr_refl _ _
  have hlt := hH.lt
  refine W.seq ?_
  refine W.region rfl ?_
  refine L.box rfl rfl (fun w b3 F3 => ?_)
  have hn3 : h ≠ b3 := by have := F3.here; omega
  have h3 : w0.heap.size ≤ b3 := by have := F3.here; omega
  have hb := gr_step hb F3.below
  have hH := hH.keep F3.below
  have hB3 : Blk w b3 (arr 16 (ints f)) 62 := F3.blk
  refine L.alloc zr62 rfl (fun w b4 F4 => ?_)
  have hn4 : h ≠ b4 := by have := F4.here; have := hH.lt; omega
  have hn34 : b3 ≠ b4 := by have := F4.here; have := hB3.lt; omega
  have h4 : w0.heap.size ≤ b4 := by have := F4.here; have := hb.size; omega
  have hb := gr_step hb F4.below
  have hH := hH.keep F4.below
  have hB3 := hB3.keep F4.below
  have hB4 : Blk w b4 (Array.replicate 16 (Value.int .i64 0)) 62 := F4.blk
  rw [zero16] at hB4
  refine L.nil ?_
  show W _ _ _ _ _ _
  refine W.seq ?_
  refine W.last 11 (fun w' => Below w.heap.size w w') (by kernel_rfl) (by kernel_rfl) (by kernel_rfl) rfl ((Below.refl w.heap.size w).drew) ?_
  refine D.va (fun w' hw' => (x_loadArr rfl Try.underlying62 rfl sz62 (hB3.keep hw') (by decide) (fun k _ => ints_congr (f := fun k => (f) (0 + k)) (by rw [Nat.zero_add])))) ?_
  refine D.va (fun w' hw' => (x_mvP rfl)) ?_
  refine D.va (fun w' hw' => x_nilCheck rfl) ?_
  refine D.va (fun w' hw' => (x_field rfl Try.underlying80 rfl sz62 (by decide))) ?_
  refine D.va (fun w' hw' => (x_loadArr rfl Try.underlying62 rfl sz62 (hH.keep hw') (by decide) (fun k hk => hnd0 u s d hk))) ?_
  refine D.call (fun w' hw' => (x_call2 rfl rfl Try.func38 rfl nm38 rfl)) (fun w' hw' => (with_c (f) (u) w').mono (fun v w'' h => ⟨h.1, cl_step hw' h.2⟩)) ?_
  refine D.va (fun w' hw' => (x_mvP rfl)) ?_
  refine D.va (fun w' hw' => x_nilCheck rfl) ?_
  refine D.va (fun w' hw' => (x_field rfl Try.underlying80 rfl sz62 (by decide))) ?_
  refine D.va (fun w' hw' => (x_loadArr rfl Try.underlying62 rfl sz62 (hH.keep hw') (by decide) (fun k hk => hnd1 u s d hk))) ?_
  refine D.call (fun w' hw' => (x_call2 rfl rfl Try.func38 rfl nm38 rfl)) (fun w' hw' => (with_c (jn f u) (s) w').mono (fun v w'' h => ⟨h.1, cl_step hw' h.2⟩)) ?_
  refine D.nil ?_
  intro w' hw'
  refine ⟨_, x_storeArr rfl rfl sz62 (fun k => rfl) (hB4.keep hw') (by decide), ?_⟩
  have hb := gr_set (gr_step hb hw') (.inr h4) (arr 16 (fun x => if 0 ≤ x ∧ x < 0 + 16 then ints (jn (jn f u) s) (x - (0)) else ints (fun _ => 0) x)) 62
  have hH := (hH.keep hw').setBlkOther hn4 (arr 16 (fun x => if 0 ≤ x ∧ x < 0 + 16 then ints (jn (jn f u) s) (x - (0)) else ints (fun _ => 0) x)) 62
  have hB4 := (setBlk_self _ (arr 16 (fun x => if 0 ≤ x ∧ x < 0 + 16 then ints (jn (jn f u) s) (x - (0)) else ints (fun _ => 0) x)) 62 (hB4.keep hw')).congrA (fun x hx => set16 (fun _ => 0) (jn (jn f u) s) hx)
  show W _ _ _ _ _ _
  refine W.ret ?_
  repeat (first | refine T.ret ?_ | refine B.ret ?_)
  refine ends.cellArr (.inr rfl) rfl rfl Try.underlying62 rfl (by rw [arr_size]; exact sz62) hB4 ?_
  exact ⟨rfl, hH, hb⟩

theorem take_rlock (h : Nat) (u s d f : Nat → Nat) (w0 : World) (hH : Blk w0 h (arr 48 (ints (hndN u s d))) 80) :
    C Try.prog 39 #[.pointer (some ⟨h, 0, none⟩), clkV f] w0 fun v w' => v = clkV (jn f u) ∧ Blk w' h (arr 48 (ints (hndN (u) (s) (d)))) 80 ∧ w0.grownBy w' (some h) := by
  refine C.enter (n := 11) Try.func39 rfl rfl ?_
  have hb : w0.grownBy w0 (some h) := gr_refl _ _
  have hlt := hH.lt
  refine W.seq ?_
  refine W.region rfl ?_
  refine L.box rfl rfl (fun w b3 F3 => ?_)
  have hn3 : h ≠ b3 := by have := F3.here; omega
  have h3 : w0.heap.size ≤ b3 := by have := F3.here; omega
  have hb := gr_step hb F3.below
  have hH := hH.keep F3.below
  have hB3 : Blk w b3 (arr 16 (ints f)) 62 := F3.blk
  refine L.alloc zr62 rfl (fun w b4 F4 => ?_)
  have hn4 : h ≠ b4 := by have := F4.here; have := hH.lt; omega
  have hn34 : b3 ≠ b4 := by have := F4.here; have := hB3.lt; omega
  have h4 : w0.heap.size ≤ b4 := by have := F4.here; have := hb.size; omega
  have hb := gr_step hb F4.below
  have hH := hH.keep F4.below
  have hB3 := hB3.keep F4.below
  have hB4 : Blk w b4 (Array.replicate 16 (Value.int .i64 0)) 62 := F4.blk
  rw [zero16] at hB4
  refine L.nil ?_
  show W _ _ _ _ _ _
  refine W.seq ?_
  refine W.last 6 (fun w' => Below w.heap.size w w') (by kernel_rfl) (by kernel_rfl) (by kernel_rfl) rfl ((Below.refl w.heap.size w).drew) ?_
  refine D.va (fun w' hw' => (x_loadArr rfl Try.underlying62 rfl sz62 (hB3.keep hw') (by decide) (fun k _ => ints_congr (f := fun k => (f) (0 + k)) (by rw [Nat.zero_add])))) ?_
  refine D.va (fun w' hw' => (x_mvP rfl)) ?_
  refine D.va (fun w' hw' => x_nilCheck rfl) ?_
  refine D.va (fun w' hw' => (x_field rfl Try.underlying80 rfl sz62 (by decide))) ?_
  refine D.va (fun w' hw' => (x_loadArr rfl Try.underlying62 rfl sz62 (hH.keep hw') (by decide) (fun k hk => hnd0 u s d hk))) ?_
  refine D.call (fun w' hw' => (x_call2 rfl rfl Try.func38 rfl nm38 rfl)) (fun w' hw' => (with_c (f) (u) w').mono (fun v w'' h => ⟨h.1, cl_step hw' h.2⟩)) ?_
  refine D.nil ?_
  intro w' hw'
  refine ⟨_, x_storeArr rfl rfl sz62 (fun k => rfl) (hB4.keep hw') (by decide), ?_⟩
  have hb := gr_set (gr_step hb hw') (.inr h4) (arr 16 (fun x => if 0 ≤ x ∧ x < 0 + 16 then ints (jn f u) (x - (0)) else ints (fun _ => 0) x)) 62
  have hH := (hH.keep hw').setBlkOther hn4 (arr 16 (fun x => if 0 ≤ x ∧ x < 0 + 16 then ints (jn f u) (x - (0)) else ints (fun _ => 0) x)) 62
  have hB4 := (setBlk_self _ (arr 16 (fun x => if 0 ≤ x ∧ x < 0 + 16 then ints (jn f u) (x - (0)) else ints (fun _ => 0) x)) 62 (hB4.keep hw')).congrA (fun x hx => set16 (fun _ => 0) (jn f u) hx)
  show W _ _ _ _ _ _
  refine W.ret ?_
  repeat (first | refine T.ret ?_ | refine B.ret ?_)
  refine ends.cellArr (.inr rfl) rfl rfl Try.underlying62 rfl (by rw [arr_size]; exact sz62) hB4 ?_
  exact ⟨rfl, hH, hb⟩

theorem take_unlock (h : Nat) (u s d f : Nat → Nat) (w0 : World) (hH : Blk w0 h (arr 48 (ints (hndN u s d))) 80) :
    C Try.prog 40 #[.pointer (some ⟨h, 0, none⟩), clkV f] w0 fun v w' => v = clkV (f) ∧ Blk w' h (arr 48 (ints (hndN (jn u f) (s) (d)))) 80 ∧ w0.grownBy w' (some h) := by
  refine C.enter (n := 15) Try.func40 rfl rfl ?_
  have hb : w0.grownBy w0 (some h) := gr_refl _ _
  have hlt := hH.lt
  refine W.seq ?_
  refine W.region rfl ?_
  refine L.box rfl rfl (fun w b3 F3 => ?_)
  have hn3 : h ≠ b3 := by have := F3.here; omega
  have h3 : w0.heap.size ≤ b3 := by have := F3.here; omega
  have hb := gr_step hb F3.below
  have hH := hH.keep F3.below
  have hB3 : Blk w b3 (arr 16 (ints f)) 62 := F3.blk
  refine L.alloc zr62 rfl (fun w b4 F4 => ?_)
  have hn4 : h ≠ b4 := by have := F4.here; have := hH.lt; omega
  have hn34 : b3 ≠ b4 := by have := F4.here; have := hB3.lt; omega
  have h4 : w0.heap.size ≤ b4 := by have := F4.here; have := hb.size; omega
  have hb := gr_step hb F4.below
  have hH := hH.keep F4.below
  have hB3 := hB3.keep F4.below
  have hB4 : Blk w b4 (Array.replicate 16 (Value.int .i64 0)) 62 := F4.blk
  rw [zero16] at hB4
  refine L.nil ?_
  show W _ _ _ _ _ _
  refine W.seq ?_
  refine W.last 9 (fun w' => Below w.heap.size w w') (by kernel_rfl) (by kernel_rfl) (by kernel_rfl) rfl ((Below.refl w.heap.size w).drew) ?_
  refine D.va (fun w' hw' => (x_mvP rfl)) ?_
  refine D.va (fun w' hw' => (x_mvP rfl)) ?_
  refine D.va (fun w' hw' => x_nilCheck rfl) ?_
  refine D.va (fun w' hw' => (x_field rfl Try.underlying80 rfl sz62 (by decide))) ?_
  refine D.va (fun w' hw' => (x_loadArr rfl Try.underlying62 rfl sz62 (hH.keep hw') (by decide) (fun k hk => hnd0 u s d hk))) ?_
  refine D.va (fun w' hw' => (x_loadArr rfl Try.underlying62 rfl sz62 (hB3.keep hw') (by decide) (fun k _ => ints_congr (f := fun k => (f) (0 + k)) (by rw [Nat.zero_add])))) ?_
  refine D.call (fun w' hw' => (x_call2 rfl rfl Try.func38 rfl nm38 rfl)) (fun w' hw' => (with_c (u) (f) w').mono (fun v w'' h => ⟨h.1, cl_step hw' h.2⟩)) ?_
  refine D.va (fun w' hw' => x_nilCheck rfl) ?_
  refine D.va (fun w' hw' => (x_field rfl Try.underlying80 rfl sz62 (by decide))) ?_
  refine D.nil ?_
  intro w' hw'
  refine ⟨_, x_storeArr rfl rfl sz62 (fun k => rfl) (hH.keep hw') (by decide), ?_⟩
  have hb := gr_set (gr_step hb hw') (.inl rfl) (arr 48 (fun x => if 0 + 0 ≤ x ∧ x < 0 + 0 + 16 then ints (jn u f) (x - (0 + 0)) else ints (hndN u s d) x)) 80
  have hB3 := (hB3.keep hw').setBlkOther (Ne.symm hn3) (arr 48 (fun x => if 0 + 0 ≤ x ∧ x < 0 + 0 + 16 then ints (jn u f) (x - (0 + 0)) else ints (hndN u s d) x)) 80
  have hB4 := (hB4.keep hw').setBlkOther (Ne.symm hn4) (arr 48 (fun x => if 0 + 0 ≤ x ∧ x < 0 + 0 + 16 then ints (jn u f) (x - (0 + 0)) else ints (hndN u s d) x)) 80
  have hH := (setBlk_self _ (arr 48 (fun x => if 0 + 0 ≤ x ∧ x < 0 + 0 + 16 then ints (jn u f) (x - (0 + 0)) else ints (hndN u s d) x)) 80 (hH.keep hw')).congrA (fun x hx => set0 u s d (jn u f))
  show W _ _ _ _ _ _
  refine W.seq ?_
  refine W.region rfl ?_
  refine L.va (x_loadArr rfl Try.underlying62 rfl sz62 hB3 (by decide) (fun k _ => ints_congr (f := fun k => (f) (0 + k)) (by rw [Nat.zero_add]))) ?_
  refine L.st (x_storeArr rfl rfl sz62 (fun k => rfl) hB4 (by decide)) ?_
  have hb := gr_set (hb) (.inr h4) (arr 16 (fun x => if 0 ≤ x ∧ x < 0 + 16 then ints (f) (x - (0)) else ints (fun _ => 0) x)) 62
  have hH := (hH).setBlkOther hn4 (arr 16 (fun x => if 0 ≤ x ∧ x < 0 + 16 then ints (f) (x - (0)) else ints (fun _ => 0) x)) 62
  have hB4 := (setBlk_self _ (arr 16 (fun x => if 0 ≤ x ∧ x < 0 + 16 then ints (f) (x - (0)) else ints (fun _ => 0) x)) 62 hB4).congrA (fun x hx => set16 (fun _ => 0) (f) hx)
  refine L.nil ?_
  show W _ _ _ _ _ _
  refine W.ret ?_
  repeat (first | refine T.ret ?_ | refine B.ret ?_)
  refine ends.cellArr (.inr rfl) rfl rfl Try.underlying62 rfl (by rw [arr_size]; exact sz62) hB4 ?_
  exact ⟨rfl, hH, hb⟩

theorem take_runlock (h : Nat) (u s d f : Nat → Nat) (w0 : World) (hH : Blk w0 h (arr 48 (ints (hndN u s d))) 80) :
    C Try.prog 41 #[.pointer (some ⟨h, 0, none⟩), clkV f] w0 fun v w' => v = clkV (f) ∧ Blk w' h (arr 48 (ints (hndN (u) (jn s f) (d)))) 80 ∧ w0.grownBy w' (some h) := by
  refine C.enter (n := 15) Try.func41 rfl rfl ?_
  have hb : w0.grownBy w0 (some h) := gr_refl _ _
  have hlt := hH.lt
  refine W.seq ?_
  refine W.region rfl ?_
  refine L.box rfl rfl (fun w b3 F3 => ?_)
  have hn3 : h ≠ b3 := by have := F3.here; omega
  have h3 : w0.heap.size ≤ b3 := by have := F3.here; omega
  have hb := gr_step hb F3.below
  have hH := hH.keep F3.below
  have hB3 : Blk w b3 (arr 16 (ints f)) 62 := F3.blk
  refine L.alloc zr62 rfl (fun w b4 F4 => ?_)
  have hn4 : h ≠ b4 := by have := F4.here; have := hH.lt; omega
  have hn34 : b3 ≠ b4 := by have := F4.here; have := hB3.lt; omega
  have h4 : w0.heap.size ≤ b4 := by have := F4.here; have := hb.size; omega
  have hb := gr_step hb F4.below
  have hH := hH.keep F4.below
  have hB3 := hB3.keep F4.below
  have hB4 : Blk w b4 (Array.replicate 16 (Value.int .i64 0)) 62 := F4.blk
  rw [zero16] at hB4
  refine L.nil ?_
  show W _ _ _ _ _ _
  refine W.seq ?_
  refine W.last 9 (fun w' => Below w.heap.size w w') (by kernel_rfl) (by kernel_rfl) (by kernel_rfl) rfl ((Below.refl w.heap.size w).drew) ?_
  refine D.va (fun w' hw' => (x_mvP rfl)) ?_
  refine D.va (fun w' hw' => (x_mvP rfl)) ?_
  refine D.va (fun w' hw' => x_nilCheck rfl) ?_
  refine D.va (fun w' hw' => (x_field rfl Try.underlying80 rfl sz62 (by decide))) ?_
  refine D.va (fun w' hw' => (x_loadArr rfl Try.underlying62 rfl sz62 (hH.keep hw') (by decide) (fun k hk => hnd1 u s d hk))) ?_
  refine D.va (fun w' hw' => (x_loadArr rfl Try.underlying62 rfl sz62 (hB3.keep hw') (by decide) (fun k _ => ints_congr (f := fun k => (f) (0 + k)) (by rw [Nat.zero_add])))) ?_
  refine D.call (fun w' hw' => (x_call2 rfl rfl Try.func38 rfl nm38 rfl)) (fun w' hw' => (with_c (s) (f) w').mono (fun v w'' h => ⟨h.1, cl_step hw' h.2⟩)) ?_
  refine D.va (fun w' hw' => x_nilCheck rfl) ?_
  refine D.va (fun w' hw' => (x_field rfl Try.underlying80 rfl sz62 (by decide))) ?_
  refine D.nil ?_
  intro w' hw'
  refine ⟨_, x_storeArr rfl rfl sz62 (fun k => rfl) (hH.keep hw') (by decide), ?_⟩
  have hb := gr_set (gr_step hb hw') (.inl rfl) (arr 48 (fun x => if 0 + 16 ≤ x ∧ x < 0 + 16 + 16 then ints (jn s f) (x - (0 + 16)) else ints (hndN u s d) x)) 80
  have hB3 := (hB3.keep hw').setBlkOther (Ne.symm hn3) (arr 48 (fun x => if 0 + 16 ≤ x ∧ x < 0 + 16 + 16 then ints (jn s f) (x - (0 + 16)) else ints (hndN u s d) x)) 80
  have hB4 := (hB4.keep hw').setBlkOther (Ne.symm hn4) (arr 48 (fun x => if 0 + 16 ≤ x ∧ x < 0 + 16 + 16 then ints (jn s f) (x - (0 + 16)) else ints (hndN u s d) x)) 80
  have hH := (setBlk_self _ (arr 48 (fun x => if 0 + 16 ≤ x ∧ x < 0 + 16 + 16 then ints (jn s f) (x - (0 + 16)) else ints (hndN u s d) x)) 80 (hH.keep hw')).congrA (fun x hx => set1 u s d (jn s f))
  show W _ _ _ _ _ _
  refine W.seq ?_
  refine W.region rfl ?_
  refine L.va (x_loadArr rfl Try.underlying62 rfl sz62 hB3 (by decide) (fun k _ => ints_congr (f := fun k => (f) (0 + k)) (by rw [Nat.zero_add]))) ?_
  refine L.st (x_storeArr rfl rfl sz62 (fun k => rfl) hB4 (by decide)) ?_
  have hb := gr_set (hb) (.inr h4) (arr 16 (fun x => if 0 ≤ x ∧ x < 0 + 16 then ints (f) (x - (0)) else ints (fun _ => 0) x)) 62
  have hH := (hH).setBlkOther hn4 (arr 16 (fun x => if 0 ≤ x ∧ x < 0 + 16 then ints (f) (x - (0)) else ints (fun _ => 0) x)) 62
  have hB4 := (setBlk_self _ (arr 16 (fun x => if 0 ≤ x ∧ x < 0 + 16 then ints (f) (x - (0)) else ints (fun _ => 0) x)) 62 hB4).congrA (fun x hx => set16 (fun _ => 0) (f) hx)
  refine L.nil ?_
  show W _ _ _ _ _ _
  refine W.ret ?_
  repeat (first | refine T.ret ?_ | refine B.ret ?_)
  refine ends.cellArr (.inr rfl) rfl rfl Try.underlying62 rfl (by rw [arr_size]; exact sz62) hB4 ?_
  exact ⟨rfl, hH, hb⟩

theorem take_load (h : Nat) (u s d f : Nat → Nat) (w0 : World) (hH : Blk w0 h (arr 48 (ints (hndN u s d))) 80) :
    C Try.prog 42 #[.pointer (some ⟨h, 0, none⟩), clkV f] w0 fun v w' => v = clkV (jn f d) ∧ Blk w' h (arr 48 (ints (hndN (u) (s) (d)))) 80 ∧ w0.grownBy w' (some h) := by
  refine C.enter (n := 11) Try.func42 rfl rfl ?_
  have hb : w0.grownBy w0 (some h) := gr_refl _ _
  have hlt := hH.lt
  refine W.seq ?_
  refine W.region rfl ?_
  refine L.box rfl rfl (fun w b3 F3 => ?_)
  have hn3 : h ≠ b3 := by have := F3.here; omega
  have h3 : w0.heap.size ≤ b3 := by have := F3.here; omega
  have hb := gr_step hb F3.below
  have hH := hH.keep F3.below
  have hB3 : Blk w b3 (arr 16 (ints f)) 62 := F3.blk
  refine L.alloc zr62 rfl (fun w b4 F4 => ?_)
  have hn4 : h ≠ b4 := by have := F4.here; have := hH.lt; omega
  have hn34 : b3 ≠ b4 := by have := F4.here; have := hB3.lt; omega
  have h4 : w0.heap.size ≤ b4 := by have := F4.here; have := hb.size; omega
  have hb := gr_step hb F4.below
  have hH := hH.keep F4.below
  have hB3 := hB3.keep F4.below
  have hB4 : Blk w b4 (Array.replicate 16 (Value.int .i64 0)) 62 := F4.blk
  rw [zero16] at hB4
  refine L.nil ?_
  show W _ _ _ _ _ _
  refine W.seq ?_
  refine W.last 6 (fun w' => Below w.heap.size w w') (by kernel_rfl) (by kernel_rfl) (by kernel_rfl) rfl ((Below.refl w.heap.size w).drew) ?_
  refine D.va (fun w' hw' => (x_loadArr rfl Try.underlying62 rfl sz62 (hB3.keep hw') (by decide) (fun k _ => ints_congr (f := fun k => (f) (0 + k)) (by rw [Nat.zero_add])))) ?_
  refine D.va (fun w' hw' => (x_mvP rfl)) ?_
  refine D.va (fun w' hw' => x_nilCheck rfl) ?_
  refine D.va (fun w' hw' => (x_field rfl Try.underlying80 rfl sz62 (by decide))) ?_
  refine D.va (fun w' hw' => (x_loadArr rfl Try.underlying62 rfl sz62 (hH.keep hw') (by decide) (fun k hk => hnd2 u s d hk))) ?_
  refine D.call (fun w' hw' => (x_call2 rfl rfl Try.func38 rfl nm38 rfl)) (fun w' hw' => (with_c (f) (d) w').mono (fun v w'' h => ⟨h.1, cl_step hw' h.2⟩)) ?_
  refine D.nil ?_
  intro w' hw'
  refine ⟨_, x_storeArr rfl rfl sz62 (fun k => rfl) (hB4.keep hw') (by decide), ?_⟩
  have hb := gr_set (gr_step hb hw') (.inr h4) (arr 16 (fun x => if 0 ≤ x ∧ x < 0 + 16 then ints (jn f d) (x - (0)) else ints (fun _ => 0) x)) 62
  have hH := (hH.keep hw').setBlkOther hn4 (arr 16 (fun x => if 0 ≤ x ∧ x < 0 + 16 then ints (jn f d) (x - (0)) else ints (fun _ => 0) x)) 62
  have hB4 := (setBlk_self _ (arr 16 (fun x => if 0 ≤ x ∧ x < 0 + 16 then ints (jn f d) (x - (0)) else ints (fun _ => 0) x)) 62 (hB4.keep hw')).congrA (fun x hx => set16 (fun _ => 0) (jn f d) hx)
  show W _ _ _ _ _ _
  refine W.ret ?_
  repeat (first | refine T.ret ?_ | refine B.ret ?_)
  refine ends.cellArr (.inr rfl) rfl rfl Try.underlying62 rfl (by rw [arr_size]; exact sz62) hB4 ?_
  exact ⟨rfl, hH, hb⟩

theorem take_store (h : Nat) (u s d f : Nat → Nat) (w0 : World) (hH : Blk w0 h (arr 48 (ints (hndN u s d))) 80) :
    C Try.prog 43 #[.pointer (some ⟨h, 0, none⟩), clkV f] w0 fun v w' => v = clkV (f) ∧ Blk w' h (arr 48 (ints (hndN (u) (s) (f)))) 80 ∧ w0.grownBy w' (some h) := by
  refine C.enter (n := 10) Try.func43 rfl rfl ?_
  have hb : w0.grownBy w0 (some h) := gr_refl _ _
  have hlt := hH.lt
  refine W.seq ?_
  refine W.region rfl ?_
  refine L.box rfl rfl (fun w b3 F3 => ?_)
  have hn3 : h ≠ b3 := by have := F3.here; omega
  have h3 : w0.heap.size ≤ b3 := by have := F3.here; omega
  have hb := gr_step hb F3.below
  have hH := hH.keep F3.below
  have hB3 : Blk w b3 (arr 16 (ints f)) 62 := F3.blk
  refine L.alloc zr62 rfl (fun w b4 F4 => ?_)
  have hn4 : h ≠ b4 := by have := F4.here; have := hH.lt; omega
  have hn34 : b3 ≠ b4 := by have := F4.here; have := hB3.lt; omega
  have h4 : w0.heap.size ≤ b4 := by have := F4.here; have := hb.size; omega
  have hb := gr_step hb F4.below
  have hH := hH.keep F4.below
  have hB3 := hB3.keep F4.below
  have hB4 : Blk w b4 (Array.replicate 16 (Value.int .i64 0)) 62 := F4.blk
  rw [zero16] at hB4
  refine L.nil ?_
  show W _ _ _ _ _ _
  refine W.seq ?_
  refine W.region rfl ?_
  refine L.va (x_mvP rfl) ?_
  refine L.va (x_loadArr rfl Try.underlying62 rfl sz62 hB3 (by decide) (fun k _ => ints_congr (f := fun k => (f) (0 + k)) (by rw [Nat.zero_add]))) ?_
  refine L.va (x_nilCheck rfl) ?_
  refine L.va (x_field rfl Try.underlying80 rfl sz62 (by decide)) ?_
  refine L.st (x_storeArr rfl rfl sz62 (fun k => rfl) hH (by decide)) ?_
  have hb := gr_set (hb) (.inl rfl) (arr 48 (fun x => if 0 + 32 ≤ x ∧ x < 0 + 32 + 16 then ints (f) (x - (0 + 32)) else ints (hndN u s d) x)) 80
  have hB3 := (hB3).setBlkOther (Ne.symm hn3) (arr 48 (fun x => if 0 + 32 ≤ x ∧ x < 0 + 32 + 16 then ints (f) (x - (0 + 32)) else ints (hndN u s d) x)) 80
  have hB4 := (hB4).setBlkOther (Ne.symm hn4) (arr 48 (fun x => if 0 + 32 ≤ x ∧ x < 0 + 32 + 16 then ints (f) (x - (0 + 32)) else ints (hndN u s d) x)) 80
  have hH := (setBlk_self _ (arr 48 (fun x => if 0 + 32 ≤ x ∧ x < 0 + 32 + 16 then ints (f) (x - (0 + 32)) else ints (hndN u s d) x)) 80 hH).congrA (fun x hx => set2 u s d (f) hx)
  refine L.nil ?_
  show W _ _ _ _ _ _
  refine W.seq ?_
  refine W.region rfl ?_
  refine L.va (x_loadArr rfl Try.underlying62 rfl sz62 hB3 (by decide) (fun k _ => ints_congr (f := fun k => (f) (0 + k)) (by rw [Nat.zero_add]))) ?_
  refine L.st (x_storeArr rfl rfl sz62 (fun k => rfl) hB4 (by decide)) ?_
  have hb := gr_set (hb) (.inr h4) (arr 16 (fun x => if 0 ≤ x ∧ x < 0 + 16 then ints (f) (x - (0)) else ints (fun _ => 0) x)) 62
  have hH := (hH).setBlkOther hn4 (arr 16 (fun x => if 0 ≤ x ∧ x < 0 + 16 then ints (f) (x - (0)) else ints (fun _ => 0) x)) 62
  have hB4 := (setBlk_self _ (arr 16 (fun x => if 0 ≤ x ∧ x < 0 + 16 then ints (f) (x - (0)) else ints (fun _ => 0) x)) 62 hB4).congrA (fun x hx => set16 (fun _ => 0) (f) hx)
  refine L.nil ?_
  show W _ _ _ _ _ _
  refine W.ret ?_
  repeat (first | refine T.ret ?_ | refine B.ret ?_)
  refine ends.cellArr (.inr rfl) rfl rfl Try.underlying62 rfl (by rw [arr_size]; exact sz62) hB4 ?_
  exact ⟨rfl, hH, hb⟩

theorem take_add (h : Nat) (u s d f : Nat → Nat) (w0 : World) (hH : Blk w0 h (arr 48 (ints (hndN u s d))) 80) :
    C Try.prog 44 #[.pointer (some ⟨h, 0, none⟩), clkV f] w0 fun v w' => v = clkV (jn f d) ∧ Blk w' h (arr 48 (ints (hndN (u) (s) (jn f d)))) 80 ∧ w0.grownBy w' (some h) := by
  refine C.enter (n := 16) Try.func44 rfl rfl ?_
  have hb : w0.grownBy w0 (some h) := gr_refl _ _
  have hlt := hH.lt
  refine W.seq ?_
  refine W.region rfl ?_
  refine L.box rfl rfl (fun w b3 F3 => ?_)
  have hn3 : h ≠ b3 := by have := F3.here; omega
  have h3 : w0.heap.size ≤ b3 := by have := F3.here; omega
  have hb := gr_step hb F3.below
  have hH := hH.keep F3.below
  have hB3 : Blk w b3 (arr 16 (ints f)) 62 := F3.blk
  refine L.alloc zr62 rfl (fun w b4 F4 => ?_)
  have hn4 : h ≠ b4 := by have := F4.here; have := hH.lt; omega
  have hn34 : b3 ≠ b4 := by have := F4.here; have := hB3.lt; omega
  have h4 : w0.heap.size ≤ b4 := by have := F4.here; have := hb.size; omega
  have hb := gr_step hb F4.below
  have hH := hH.keep F4.below
  have hB3 := hB3.keep F4.below
  have hB4 : Blk w b4 (Array.replicate 16 (Value.int .i64 0)) 62 := F4.blk
  rw [zero16] at hB4
  refine L.nil ?_
  show W _ _ _ _ _ _
  refine W.seq ?_
  refine W.last 6 (fun w' => Below w.heap.size w w') (by kernel_rfl) (by kernel_rfl) (by kernel_rfl) rfl ((Below.refl w.heap.size w).drew) ?_
  refine D.va (fun w' hw' => (x_loadArr rfl Try.underlying62 rfl sz62 (hB3.keep hw') (by decide) (fun k _ => ints_congr (f := fun k => (f) (0 + k)) (by rw [Nat.zero_add])))) ?_
  refine D.va (fun w' hw' => (x_mvP rfl)) ?_
  refine D.va (fun w' hw' => x_nilCheck rfl) ?_
  refine D.va (fun w' hw' => (x_field rfl Try.underlying80 rfl sz62 (by decide))) ?_
  refine D.va (fun w' hw' => (x_loadArr rfl Try.underlying62 rfl sz62 (hH.keep hw') (by decide) (fun k hk => hnd2 u s d hk))) ?_
  refine D.call (fun w' hw' => (x_call2 rfl rfl Try.func38 rfl nm38 rfl)) (fun w' hw' => (with_c (f) (d) w').mono (fun v w'' h => ⟨h.1, cl_step hw' h.2⟩)) ?_
  refine D.nil ?_
  intro w' hw'
  refine ⟨_, x_storeArr rfl rfl sz62 (fun k => rfl) (hB3.keep hw') (by decide), ?_⟩
  have hb := gr_set (gr_step hb hw') (.inr h3) (arr 16 (fun x => if 0 ≤ x ∧ x < 0 + 16 then ints (jn f d) (x - (0)) else ints (f) x)) 62
  have hH := (hH.keep hw').setBlkOther hn3 (arr 16 (fun x => if 0 ≤ x ∧ x < 0 + 16 then ints (jn f d) (x - (0)) else ints (f) x)) 62
  have hB4 := (hB4.keep hw').setBlkOther (Ne.symm hn34) (arr 16 (fun x => if 0 ≤ x ∧ x < 0 + 16 then ints (jn f d) (x - (0)) else ints (f) x)) 62
  have hB3 := (setBlk_self _ (arr 16 (fun x => if 0 ≤ x ∧ x < 0 + 16 then ints (jn f d) (x - (0)) else ints (f) x)) 62 (hB3.keep hw')).congrA (fun x hx => set16 f (jn f d) hx)
  show W _ _ _ _ _ _
  refine W.seq ?_
  refine W.region rfl ?_
  refine L.va (x_mvP rfl) ?_
  refine L.va (x_loadArr rfl Try.underlying62 rfl sz62 hB3 (by decide) (fun k _ => ints_congr (f := fun k => (jn f d) (0 + k)) (by rw [Nat.zero_add]))) ?_
  refine L.va (x_nilCheck rfl) ?_
  refine L.va (x_field rfl Try.underlying80 rfl sz62 (by decide)) ?_
  refine L.st (x_storeArr rfl rfl sz62 (fun k => rfl) hH (by decide)) ?_
  have hb := gr_set (hb) (.inl rfl) (arr 48 (fun x => if 0 + 32 ≤ x ∧ x < 0 + 32 + 16 then ints (jn f d) (x - (0 + 32)) else ints (hndN u s d) x)) 80
  have hB3 := (hB3).setBlkOther (Ne.symm hn3) (arr 48 (fun x => if 0 + 32 ≤ x ∧ x < 0 + 32 + 16 then ints (jn f d) (x - (0 + 32)) else ints (hndN u s d) x)) 80
  have hB4 := (hB4).setBlkOther (Ne.symm hn4) (arr 48 (fun x => if 0 + 32 ≤ x ∧ x < 0 + 32 + 16 then ints (jn f d) (x - (0 + 32)) else ints (hndN u s d) x)) 80
  have hH := (setBlk_self _ (arr 48 (fun x => if 0 + 32 ≤ x ∧ x < 0 + 32 + 16 then ints (jn f d) (x - (0 + 32)) else ints (hndN u s d) x)) 80 hH).congrA (fun x hx => set2 u s d (jn f d) hx)
  refine L.nil ?_
  show W _ _ _ _ _ _
  refine W.seq ?_
  refine W.region rfl ?_
  refine L.va (x_loadArr rfl Try.underlying62 rfl sz62 hB3 (by decide) (fun k _ => ints_congr (f := fun k => (jn f d) (0 + k)) (by rw [Nat.zero_add]))) ?_
  refine L.st (x_storeArr rfl rfl sz62 (fun k => rfl) hB4 (by decide)) ?_
  have hb := gr_set (hb) (.inr h4) (arr 16 (fun x => if 0 ≤ x ∧ x < 0 + 16 then ints (jn f d) (x - (0)) else ints (fun _ => 0) x)) 62
  have hH := (hH).setBlkOther hn4 (arr 16 (fun x => if 0 ≤ x ∧ x < 0 + 16 then ints (jn f d) (x - (0)) else ints (fun _ => 0) x)) 62
  have hB4 := (setBlk_self _ (arr 16 (fun x => if 0 ≤ x ∧ x < 0 + 16 then ints (jn f d) (x - (0)) else ints (fun _ => 0) x)) 62 hB4).congrA (fun x hx => set16 (fun _ => 0) (jn f d) hx)
  refine L.nil ?_
  show W _ _ _ _ _ _
  refine W.ret ?_
  repeat (first | refine T.ret ?_ | refine B.ret ?_)
  refine ends.cellArr (.inr rfl) rfl rfl Try.underlying62 rfl (by rw [arr_size]; exact sz62) hB4 ?_
  exact ⟨rfl, hH, hb⟩

end Go.Proofs.Ytlopdjbehhdmpaa
