/- Contracts: rows, and who is ahead of whom. -/
import Derived.Test.YtlopdjbehhdmpaaBase2
namespace Go.Proofs.Ytlopdjbehhdmpaa
open Go.Vc Go.RowKit
theorem in38 : (Try.prog.info? 38).map (fun i => (i.zero, i.size, i.bytes)) = some (some (.slice none 0 0), 1, 24) := by kernel_rfl
theorem in4 : (Try.prog.info? 4).map (fun i => (i.zero, i.size, i.bytes)) = some (some (.bool false), 1, 1) := by kernel_rfl
theorem zr38 : (Try.prog.info? 38).bind (·.zero) = some (.slice none 0 0) := by kernel_rfl

theorem same_c (a b : Option Addr) (m len c1 c2 : Nat) (G : Nat → Nat → Int) (w0 : World) (hA : RowsAt w0 a m len (fun i k => .int .i64 (G i k))) (hB : RowsAt w0 b m len (fun i k => .int .i64 (G i k))) (hm : m ≤ 9223372036854775806) (hl : len ≤ 9223372036854775806) :
    C Try.prog 17 #[.slice a m c1, .slice b m c2] w0 fun v w' => v = .bool true ∧ Below w0.heap.size w0 w' := by
  refine C.enter (n := 53) Try.func17 rfl rfl ?_
  have hb := Below.refl w0.heap.size w0
  refine W.seq ?_
  refine W.region rfl ?_
  refine L.va (x_asB rfl) ?_
  refine L.nil ?_
  show W _ _ _ _ _ _
  refine W.seq ?_
  refine W.seq ?_
  refine W.region rfl ?_
  refine L.va (x_mvS rfl) ?_
  refine L.va (x_len rfl Try.underlying27 rfl) ?_
  refine L.va (x_mvS rfl) ?_
  refine L.va (x_len rfl Try.underlying27 rfl) ?_
  refine L.va (x_neq rfl rfl) ?_
  refine L.nil ?_
  show W _ _ _ _ _ _
  refine W.condF (rb (decide_eq_false (by simp))) ?_
  refine W.skip ?_
  show W _ _ _ _ _ _
  refine W.seq ?_
  refine W.seq ?_
  refine W.region rfl ?_
  refine L.va (x_asI rfl) ?_
  refine L.nil ?_
  show W _ _ _ _ _ _
  refine W.block ?_
  refine W.loop (fun k e w => ∃ i : Nat, k = m - i ∧ e 0 = .slice a m c1 ∧ e 1 = .slice b m c2 ∧ e 5 = .int .i64 (i : Int) ∧ Below w0.heap.size w0 w ∧ i ≤ m) _ ⟨0, rfl, rfl, rfl, rfl, hb, Nat.zero_le _⟩ ?_
  rintro k e w ⟨i, rfl, s0, s1, s5, hb, him⟩
  rw [upd_id s0, upd_id s1, upd_id s5]
  clear s0 s1 s5
  refine W.seq ?_
  refine W.seq ?_
  refine W.region rfl ?_
  refine L.va (x_mvI rfl) ?_
  refine L.va (x_mvS rfl) ?_
  refine L.va (x_len rfl Try.underlying27 rfl) ?_
  refine L.va (x_lss rfl rfl) ?_
  refine L.nil ?_
  show W _ _ _ _ _ _
  refine W.condP rfl (fun h15 => ?_) (fun h15 => ?_)
  · refine W.skip ?_
    show W _ _ _ _ _ _
    refine W.seq ?_
    refine W.block ?_
    refine W.seq ?_
    refine W.seq ?_
    have hi : i < m := by omega
    obtain ⟨r, cr, hr, hrs, hrc⟩ := hA.row hi
    obtain ⟨t, ct, ht, hts, htc⟩ := hB.row hi
    refine W.quiet (fun w' => Below w0.heap.size w0 w') (by kernel_rfl) (by kernel_rfl) (hb.drew) ?_
    refine D.va (fun w' hw' => (x_mvS rfl)) ?_
    refine D.va (fun w' hw' => (x_mvI rfl)) ?_
    refine D.va (fun w' hw' => (x_idx rfl rfl Try.underlying27 sz34 (hA.sl) (by omega))) ?_
    refine D.va (fun w' hw' => (x_load rfl Try.underlying34 rfl (bl0 hw' hr))) ?_
    refine D.va (fun w' hw' => (x_len rfl Try.underlying34 rfl)) ?_
    refine D.va (fun w' hw' => (x_mvS rfl)) ?_
    refine D.va (fun w' hw' => (x_mvI rfl)) ?_
    refine D.va (fun w' hw' => (x_idx rfl rfl Try.underlying27 sz34 (hB.sl) (by omega))) ?_
    refine D.va (fun w' hw' => (x_load rfl Try.underlying34 rfl (bl0 hw' ht))) ?_
    refine D.va (fun w' hw' => (x_len rfl Try.underlying34 rfl)) ?_
    refine D.va (fun w' hw' => (x_neq rfl rfl)) ?_
    refine D.nil ?_
    intro w hb
    show W _ _ _ _ _ _
    refine W.condF (rb (decide_eq_false (by simp))) ?_
    refine W.skip ?_
    show W _ _ _ _ _ _
    refine W.seq ?_
    refine W.region rfl ?_
    refine L.va (x_asI rfl) ?_
    refine L.nil ?_
    show W _ _ _ _ _ _
    refine W.block ?_
    refine W.loop (fun k e w => ∃ j : Nat, k = len - j ∧ e 0 = .slice a m c1 ∧ e 1 = .slice b m c2 ∧ e 5 = .int .i64 (i : Int) ∧ e 6 = .int .i64 (j : Int) ∧ Below w0.heap.size w0 w ∧ j ≤ len) _ ⟨0, rfl, rfl, rfl, rfl, rfl, hb, Nat.zero_le _⟩ ?_
    rintro k e w ⟨j, rfl, s0, s1, s5, s6, hb, hjl⟩
    rw [upd_id s0, upd_id s1, upd_id s5, upd_id s6]
    clear s0 s1 s5 s6
    refine W.seq ?_
    refine W.seq ?_
    refine W.region rfl ?_
    refine L.va (x_mvI rfl) ?_
    refine L.va (x_mvS rfl) ?_
    refine L.va (x_mvI rfl) ?_
    refine L.va (x_idx rfl rfl Try.underlying27 sz34 (hA.sl) (by omega)) ?_
    refine L.va (x_load rfl Try.underlying34 rfl (bl0 hb hr)) ?_
    refine L.va (x_len rfl Try.underlying34 rfl) ?_
    refine L.va (x_lss rfl rfl) ?_
    refine L.nil ?_
    show W _ _ _ _ _ _
    refine W.condP rfl (fun h35 => ?_) (fun h35 => ?_)
    · refine W.skip ?_
      show W _ _ _ _ _ _
      refine W.seq ?_
      refine W.block ?_
      refine W.seq ?_
      refine W.quiet (fun w' => Below w0.heap.size w0 w') (by kernel_rfl) (by kernel_rfl) (hb.drew) ?_
      refine D.va (fun w' hw' => (x_mvS rfl)) ?_
      refine D.va (fun w' hw' => (x_mvI rfl)) ?_
      refine D.va (fun w' hw' => (x_idx rfl rfl Try.underlying27 sz34 (hA.sl) (by omega))) ?_
      refine D.va (fun w' hw' => (x_load rfl Try.underlying34 rfl (bl0 hw' hr))) ?_
      refine D.va (fun w' hw' => (x_mvI rfl)) ?_
      refine D.va (fun w' hw' => (x_idx rfl rfl Try.underlying34 sz3 (hrs) (by omega))) ?_
      refine D.va (fun w' hw' => (x_load rfl Try.underlying3 rfl (bl0 hw' (hrc (by omega))))) ?_
      refine D.va (fun w' hw' => (x_mvS rfl)) ?_
      refine D.va (fun w' hw' => (x_mvI rfl)) ?_
      refine D.va (fun w' hw' => (x_idx rfl rfl Try.underlying27 sz34 (hB.sl) (by omega))) ?_
      refine D.va (fun w' hw' => (x_load rfl Try.underlying34 rfl (bl0 hw' ht))) ?_
      refine D.va (fun w' hw' => (x_mvI rfl)) ?_
      refine D.va (fun w' hw' => (x_idx rfl rfl Try.underlying34 sz3 (hts) (by omega))) ?_
      refine D.va (fun w' hw' => (x_load rfl Try.underlying3 rfl (bl0 hw' (htc (by omega))))) ?_
      refine D.va (fun w' hw' => (x_neq rfl rfl)) ?_
      refine D.nil ?_
      intro w hb
      show W _ _ _ _ _ _
      refine W.condF (rb (decide_eq_false (by simp))) ?_
      refine W.skip ?_
      refine B.nrm ?_
      show W _ _ _ _ _ _
      refine W.region rfl ?_
      refine L.va (x_mvI rfl) ?_
      refine L.va (x_inc rfl rfl (by omega)) ?_
      refine L.va (x_asI rfl) ?_
      refine L.nil ?_
      refine T.nrm ?_
      exact ⟨_, by omega, ⟨j + 1, rfl, rfl, rfl, rfl, rfl, hb, by omega⟩⟩
    · refine W.exit ?_
      repeat (first | refine T.exit ?_ | refine B.exitNe (by decide) ?_)
      refine B.exitEq ?_
      refine B.nrm ?_
      show W _ _ _ _ _ _
      refine W.region rfl ?_
      refine L.va (x_mvI rfl) ?_
      refine L.va (x_inc rfl rfl (by omega)) ?_
      refine L.va (x_asI rfl) ?_
      refine L.nil ?_
      refine T.nrm ?_
      exact ⟨_, by omega, ⟨i + 1, rfl, rfl, rfl, rfl, hb, by omega⟩⟩
  · refine W.exit ?_
    repeat (first | refine T.exit ?_ | refine B.exitNe (by decide) ?_)
    refine B.exitEq ?_
    show W _ _ _ _ _ _
    refine W.seq ?_
    refine W.region rfl ?_
    refine L.va (x_asB rfl) ?_
    refine L.nil ?_
    show W _ _ _ _ _ _
    refine W.ret ?_
    repeat (first | refine T.ret ?_ | refine B.ret ?_)
    refine ends.one (.inr rfl) rfl ?_
    exact ⟨rfl, hb⟩

set_option maxHeartbeats 400000 in
theorem ahead_c (a : Option Addr) (n c : Nat) (E : Nat → Ev) (w0 : World) (hE : EvAt w0 a n E) (hn : n ≤ 1048576) : C Try.prog 21 #[.slice a n c] w0 fun v w' => ∃ oa oc, v = .slice oa n oc ∧ RowsAt w' oa n n (fun j x => .bool (ahB E x j)) ∧ Below w0.heap.size w0 w' := by
  refine C.enter (n := 56) Try.func21 rfl rfl ?_
  have hb := Below.refl w0.heap.size w0
  refine W.seq ?_
  refine W.region rfl ?_
  refine L.va (x_asS rfl) ?_
  refine L.nil ?_
  show W _ _ _ _ _ _
  refine W.seq ?_
  refine W.region rfl ?_
  refine L.va (x_asS rfl) ?_
  refine L.nil ?_
  show W _ _ _ _ _ _
  refine W.seq ?_
  refine W.seq ?_
  refine W.region rfl ?_
  refine L.va (x_asI rfl) ?_
  refine L.nil ?_
  show W _ _ _ _ _ _
  refine W.block ?_
  refine W.loop (fun k e w => ∃ j : Nat, ∃ oa : Option Addr, ∃ oc : Nat, ∃ R : Nat → Nat, ∃ CC : Nat → Nat, k = n - j ∧ e 0 = .slice a n c ∧ e 3 = .slice oa j oc ∧ e 4 = .int .i64 (j : Int) ∧ Below w0.heap.size w0 w ∧ j ≤ n ∧ Made w w0.heap.size 38 4 oa j oc n R CC (fun i => arr n (fun x => .bool (ahB E x i)))) _ ⟨0, none, 0, fun _ => 0, fun _ => 0, rfl, rfl, rfl, rfl, hb, Nat.zero_le _, Made.nil _ _ _ _ _ _ _ _⟩ ?_
  rintro k e w ⟨j, oa, oc, R, CC, rfl, s0, s3, s4, hb, hjn, hM⟩
  rw [upd_id s0, upd_id s3, upd_id s4]
  clear s0 s3 s4
  refine W.seq ?_
  refine W.seq ?_
  refine W.region rfl ?_
  refine L.va (x_mvI rfl) ?_
  refine L.va (x_mvS rfl) ?_
  refine L.va (x_len rfl Try.underlying25 rfl) ?_
  refine L.va (x_lss rfl rfl) ?_
  refine L.nil ?_
  show W _ _ _ _ _ _
  refine W.condP rfl (fun h11 => ?_) (fun h11 => ?_)
  · refine W.skip ?_
    show W _ _ _ _ _ _
    refine W.seq ?_
    refine W.block ?_
    refine W.seq ?_
    refine W.region rfl ?_
    refine L.va (x_mvS rfl) ?_
    refine L.va (x_len rfl Try.underlying25 rfl) ?_
    refine L.make rfl rfl Try.underlying38 in4 rfl (by decide) (by omega) (by omega) (fun w b F16 => ?_)
    have hRb : ∀ i, i < j → R i ≠ b := fun i hi => by have := (hM.blk i hi).2.lt; have := F16.here; omega
    have hab : oa ≠ none → ab oa ≠ b := fun ha => by have := hM.own.lt ha; have := F16.here; omega
    have hB0 : w0.heap.size ≤ b := by have := F16.here; have := hb.size; omega
    have hM := hM.keep F16.below
    have hb := cl_step hb F16.below
    refine L.va (x_asS rfl) ?_
    refine L.nil ?_
    show W _ _ _ _ _ _
    refine W.seq ?_
    refine W.seq ?_
    refine W.region rfl ?_
    refine L.va (x_asI rfl) ?_
    refine L.nil ?_
    show W _ _ _ _ _ _
    refine W.block ?_
    refine W.loop (fun k e w => ∃ i : Nat, k = j - i ∧ e 0 = .slice a n c ∧ e 3 = .slice oa j oc ∧ e 4 = .int .i64 (j : Int) ∧ e 5 = .slice (some ⟨b, 0, none⟩) n n ∧ e 6 = .int .i64 (i : Int) ∧ Below w0.heap.size w0 w ∧ i ≤ j ∧ Made w w0.heap.size 38 4 oa j oc n R CC (fun i => arr n (fun x => .bool (ahB E x i))) ∧ Blk w b (arr n (fun x => .bool (rowM E j i x))) 4) _ ⟨0, rfl, rfl, rfl, rfl, rfl, rfl, hb, Nat.zero_le _, hM, by have := F16.blk; rw [Nat.mul_one, arr_rep] at this; simpa only [rowM_zero] using this⟩ ?_
    rintro k e w ⟨i, rfl, s0, s3, s4, s5, s6, hb, hij, hM, hR⟩
    rw [upd_id s0, upd_id s3, upd_id s4, upd_id s5, upd_id s6]
    clear s0 s3 s4 s5 s6
    refine W.seq ?_
    refine W.seq ?_
    refine W.region rfl ?_
    refine L.va (x_mvI rfl) ?_
    refine L.va (x_mvI rfl) ?_
    refine L.va (x_lss rfl rfl) ?_
    refine L.nil ?_
    show W _ _ _ _ _ _
    refine W.condP rfl (fun h19 => ?_) (fun h19 => ?_)
    · refine W.skip ?_
      show W _ _ _ _ _ _
      refine W.seq ?_
      refine W.block ?_
      refine W.seq ?_
      refine W.seq ?_
      refine W.region rfl ?_
      refine L.va (x_mvS rfl) ?_
      refine L.va (x_mvI rfl) ?_
      refine L.va (x_mvI rfl) ?_
      refine L.call (x_call3 rfl rfl rfl Try.func30 rfl nm30 rfl) (linked_c a n c E i j w (hE.below hb) (by omega) (by omega) (by omega)) ?_
      rintro _ w ⟨rfl, hbw⟩
      have hM := hM.keep hbw
      have hR := hR.keep hbw
      have hb := cl_step hb hbw
      refine L.va (x_not rfl) ?_
      refine L.nil ?_
      show W _ _ _ _ _ _
      refine W.cond rfl (fun h26 => ?_) (fun h26 => ?_)
      · have hlk : linkedE E i j = false := by simpa using h26
        refine W.exit ?_
        repeat (first | refine T.exit ?_ | refine B.exitNe (by decide) ?_)
        refine B.exitEq ?_
        show W _ _ _ _ _ _
        refine W.region rfl ?_
        refine L.va (x_mvI rfl) ?_
        refine L.va (x_inc rfl rfl (by omega)) ?_
        refine L.va (x_asI rfl) ?_
        refine L.nil ?_
        refine T.nrm ?_
        exact ⟨_, by omega, ⟨i + 1, rfl, rfl, rfl, rfl, rfl, rfl, hb, by omega, hM, hR.congrA (fun x _ => by rw [rowM_skip hlk])⟩⟩
      · have hlk : linkedE E i j = true := by simpa using h26
        refine W.skip ?_
        show W _ _ _ _ _ _
        refine W.seq ?_
        refine W.region rfl ?_
        refine L.va (x_mvS rfl) ?_
        refine L.va (x_mvI rfl) ?_
        refine L.va (x_index rfl rfl Try.underlying38 sz4 (by omega)) ?_
        refine L.store rfl rfl sz4 rfl hR (by rw [arr_size]; omega) ?_
        have hM := hM.grown (grown_setCell w ⟨b, 0 + i * 1, none⟩ (.bool true)) hab hRb
        have hb := hb.setCell (p := ⟨b, 0 + i * 1, none⟩) hB0 (.bool true)
        have hR : Blk (w.setCell ⟨b, 0 + i * 1, none⟩ (.bool true)) b (arr n (fun x => .bool (rowK E j i 0 x))) 4 := by
          have := hR.set (o := 0 + i * 1) (.bool true)
          rw [arr_set] at this
          exact this.congrA (fun x _ => by rw [rowK_start, show 0 + i * 1 = i by omega]; split <;> rfl)
        refine L.nil ?_
        show W _ _ _ _ _ _
        refine W.seq ?_
        refine W.region rfl ?_
        refine L.va (x_asI rfl) ?_
        refine L.nil ?_
        show W _ _ _ _ _ _
        refine W.block ?_
        refine W.loop (fun k e w => ∃ p : Nat, k = i - p ∧ e 0 = .slice a n c ∧ e 3 = .slice oa j oc ∧ e 4 = .int .i64 (j : Int) ∧ e 5 = .slice (some ⟨b, 0, none⟩) n n ∧ e 6 = .int .i64 (i : Int) ∧ e 7 = .int .i64 (p : Int) ∧ Below w0.heap.size w0 w ∧ p ≤ i ∧ Made w w0.heap.size 38 4 oa j oc n R CC (fun i => arr n (fun x => .bool (ahB E x i))) ∧ Blk w b (arr n (fun x => .bool (rowK E j i p x))) 4) _ ⟨0, rfl, rfl, rfl, rfl, rfl, rfl, rfl, hb, Nat.zero_le _, hM, hR⟩ ?_
        rintro k e w ⟨p, rfl, s0, s3, s4, s5, s6, s7, hb, hpi, hM, hR⟩
        rw [upd_id s0, upd_id s3, upd_id s4, upd_id s5, upd_id s6, upd_id s7]
        clear s0 s3 s4 s5 s6 s7
        refine W.seq ?_
        refine W.seq ?_
        refine W.region rfl ?_
        refine L.va (x_mvI rfl) ?_
        refine L.va (x_mvI rfl) ?_
        refine L.va (x_lss rfl rfl) ?_
        refine L.nil ?_
        show W _ _ _ _ _ _
        refine W.condP rfl (fun h32 => ?_) (fun h32 => ?_)
        · refine W.skip ?_
          show W _ _ _ _ _ _
          refine W.seq ?_
          refine W.block ?_
          have hrow : w.cell? ⟨ab oa, ao oa + i * 1, none⟩ = some (.slice (some ⟨R i, 0, none⟩) n (CC i)) := by
              have := hM.own.cell (rowsL_get (R := R) (C := CC) (len := n) (show i < j by omega)); rw [hM.own.off, Nat.zero_add, Nat.mul_one]; exact this
          have hcol : w.cell? ⟨R i, 0 + p * 1, none⟩ = some (.bool (ahB E p i)) := by
              rw [Nat.zero_add, Nat.mul_one]; exact (hM.blk i (by omega)).2.cell (arr_get (by omega))
          refine W.region rfl ?_
          refine L.va (x_mvS rfl) ?_
          refine L.va (x_mvI rfl) ?_
          refine L.va (x_mvS rfl) ?_
          refine L.va (x_mvI rfl) ?_
          refine L.va (x_index rfl rfl Try.underlying38 sz4 (by omega)) ?_
          refine L.va (x_load rfl Try.underlying4 rfl (hR.cell (by rw [arr_get (by omega)]))) ?_
          refine L.va (x_mvB rfl) ?_
          refine L.meetB 8 [41,42,43,44,45,46,47,48,49] 49 (.bool (rowK E j i p p || ahB E p i)) (tj := 41) rfl (fun hb41 => ?_) (fun hb41 => ?_) (fun f => ?_)
          · refine L.off rfl ?_
            refine L.off rfl ?_
            refine L.off rfl ?_
            refine L.off rfl ?_
            refine L.off rfl ?_
            refine L.off rfl ?_
            refine L.off rfl ?_
            refine L.va (x_pickT rfl) ?_
            refine L.nil ?_
            refine ⟨rfl, congrArg Value.bool (by first | exact or_t hb41 | (simp_all; done) | (rw [Bool.eq_iff_iff]; simp_all; omega)), ?_⟩
            exact Agree.upd rfl (Agree.upd rfl (Agree.upd rfl (Agree.upd rfl (Agree.upd rfl (Agree.upd rfl (Agree.upd rfl (Agree.upd rfl (Agree.upd rfl (Agree.refl _ _)))))))))
          · refine L.on rfl ?_
            refine L.va (x_mvS rfl) ?_
            refine L.on rfl ?_
            refine L.va (x_mvI rfl) ?_
            refine L.on rfl ?_
            refine L.va (x_idx rfl rfl Try.underlying39 sz38 (hM.own.sl) (by omega)) ?_
            refine L.on rfl ?_
            refine L.va (x_load rfl Try.underlying38 rfl (hrow)) ?_
            refine L.on rfl ?_
            refine L.va (x_mvI rfl) ?_
            refine L.on rfl ?_
            refine L.va (x_index rfl rfl Try.underlying38 sz4 (by omega)) ?_
            refine L.on rfl ?_
            refine L.va (x_load rfl Try.underlying4 rfl (hcol)) ?_
            refine L.va (x_pickF rfl) ?_
            refine L.nil ?_
            refine ⟨rfl, congrArg Value.bool (by first | exact or_f hb41 | (simp_all; done) | (rw [Bool.eq_iff_iff]; simp_all; omega)), ?_⟩
            exact Agree.upd rfl (Agree.upd rfl (Agree.upd rfl (Agree.upd rfl (Agree.upd rfl (Agree.upd rfl (Agree.upd rfl (Agree.upd rfl (Agree.upd rfl (Agree.refl _ _)))))))))
          refine L.va (x_index rfl rfl Try.underlying38 sz4 (by omega)) ?_
          refine L.store rfl rfl sz4 rfl hR (by rw [arr_size]; omega) ?_
          have hM := hM.grown (grown_setCell w ⟨b, 0 + p * 1, none⟩ (.bool (rowK E j i p p || ahB E p i))) hab hRb
          have hb := hb.setCell (p := ⟨b, 0 + p * 1, none⟩) hB0 (.bool (rowK E j i p p || ahB E p i))
          have hR : Blk (w.setCell ⟨b, 0 + p * 1, none⟩ (.bool (rowK E j i p p || ahB E p i))) b (arr n (fun x => .bool (rowK E j i (p + 1) x))) 4 := by
            have := hR.set (o := 0 + p * 1) (.bool (rowK E j i p p || ahB E p i))
            rw [arr_set] at this
            exact this.congrA (fun x _ => by rw [rowK_step, show 0 + p * 1 = p by omega]; split <;> rfl)
          refine L.nil ?_
          refine B.nrm ?_
          show W _ _ _ _ _ _
          refine W.region rfl ?_
          refine L.va (x_mvI rfl) ?_
          refine L.va (x_inc rfl rfl (by omega)) ?_
          refine L.va (x_asI rfl) ?_
          refine L.nil ?_
          refine T.nrm ?_
          exact ⟨_, by omega, ⟨p + 1, rfl, rfl, rfl, rfl, rfl, rfl, rfl, hb, by omega, hM, hR⟩⟩
        · refine W.exit ?_
          repeat (first | refine T.exit ?_ | refine B.exitNe (by decide) ?_)
          refine B.exitEq ?_
          refine B.nrm ?_
          show W _ _ _ _ _ _
          refine W.region rfl ?_
          refine L.va (x_mvI rfl) ?_
          refine L.va (x_inc rfl rfl (by omega)) ?_
          refine L.va (x_asI rfl) ?_
          refine L.nil ?_
          refine T.nrm ?_
          exact ⟨_, by omega, ⟨i + 1, rfl, rfl, rfl, rfl, rfl, rfl, hb, by omega, hM, hR.congrA (fun x _ => by rw [← rowK_end hlk, show p = i by omega])⟩⟩
    · refine W.exit ?_
      repeat (first | refine T.exit ?_ | refine B.exitNe (by decide) ?_)
      refine B.exitEq ?_
      show W _ _ _ _ _ _
      refine W.region rfl ?_
      refine L.va (x_mvS rfl) ?_
      refine L.va (x_mvS rfl) ?_
      refine L.build1 rfl rfl Try.underlying39 sz38 rfl ⟨_, zr38⟩ (by decide) (fun w b53 F53 => ?_)
      have hM := hM.keep F53.below
      have hR := hR.keep F53.below
      have hb := cl_step hb F53.below
      refine L.append (B := w0.heap.size) rfl rfl Try.underlying39 in38 rfl (by decide) hM.own (news := [.slice (some ⟨b, 0, none⟩) n n]) rfl (fun q u hq => ?_) (fun u hu => by simp at hu; subst hu; rfl) (by omega) (by omega) hb.size (fun oa2 oc2 w2 ho hg hbel _ => ?_)
      · rw [Addr.add_lit]
        match q, hq with
        | 0, hq => cases hq; exact F53.blk.cell rfl
      have hM2 := hM.snoc (by decide) hB0 hR hg ho (arr_congr (fun x _ => by rw [← rowM_end, show i = j by omega]))
      have hb := hb.trans hbel
      refine L.va (x_asS rfl) ?_
      refine L.nil ?_
      refine B.nrm ?_
      show W _ _ _ _ _ _
      refine W.region rfl ?_
      refine L.va (x_mvI rfl) ?_
      refine L.va (x_inc rfl rfl (by omega)) ?_
      refine L.va (x_asI rfl) ?_
      refine L.nil ?_
      refine T.nrm ?_
      exact ⟨_, by omega, ⟨j + 1, oa2, oc2, _, _, rfl, rfl, rfl, rfl, hb, by omega, hM2⟩⟩
  · refine W.exit ?_
    repeat (first | refine T.exit ?_ | refine B.exitNe (by decide) ?_)
    refine B.exitEq ?_
    show W _ _ _ _ _ _
    refine W.seq ?_
    refine W.region rfl ?_
    refine L.va (x_mvS rfl) ?_
    refine L.va (x_asS rfl) ?_
    refine L.nil ?_
    show W _ _ _ _ _ _
    refine W.ret ?_
    repeat (first | refine T.ret ?_ | refine B.ret ?_)
    refine ends.one (.inr rfl) rfl ?_
    have hjn : j = n := by omega
    subst hjn
    exact ⟨oa, oc, rfl, hM.rows (fun i k _ hk => arr_get hk), hb⟩

end Go.Proofs.Ytlopdjbehhdmpaa
