/- Contracts: the small functions over events. -/
import Derived.Test.YtlopdjbehhdmpaaBase
namespace Go.Proofs.Ytlopdjbehhdmpaa
open Go.Vc Go.RowKit

theorem num_c (x : Int) (w : World) : C Try.prog 12 #[.int .i64 x] w fun v w' => v = .int .i64 x ∧ w' = w := by
  refine C.enter (n := 4) Try.func12 rfl rfl ?_
  refine W.seq ?_
  refine W.region rfl ?_
  refine L.va (x_asI rfl) ?_
  refine L.nil ?_
  show W _ _ _ _ _ _
  refine W.seq ?_
  refine W.region rfl ?_
  refine L.va (x_mvI rfl) ?_
  refine L.va (x_asI rfl) ?_
  refine L.nil ?_
  show W _ _ _ _ _ _
  refine W.ret ?_
  repeat (first | refine T.ret ?_ | refine B.ret ?_)
  refine ends.one (.inr rfl) rfl ?_
  exact ⟨rfl, rfl⟩

theorem accesses_c (x : Int) (w : World) : C Try.prog 31 #[.int .i64 x] w fun v w' => v = .bool (decide (x = 8 ∨ x = 9)) ∧ w' = w := by
  refine C.enter (n := 9) Try.func31 rfl rfl ?_
  refine W.seq ?_
  refine W.region rfl ?_
  refine L.va (x_asB rfl) ?_
  refine L.nil ?_
  show W _ _ _ _ _ _
  refine W.seq ?_
  refine W.region rfl ?_
  refine L.va (x_mvI rfl) ?_
  refine L.va (x_eql rfl rfl) ?_
  refine L.va (x_mvB rfl) ?_
  refine L.meetB 3 [5,6,7,8] 8 (.bool (decide (x = 8 ∨ x = 9))) (tj := 5) rfl (fun hb5 => ?_) (fun hb5 => ?_) (fun f => ?_)
  · refine L.off rfl ?_
    refine L.off rfl ?_
    refine L.va (x_pickT rfl) ?_
    refine L.nil ?_
    refine ⟨rfl, congrArg Value.bool (by first | exact or_t hb5 | (simp_all; done) | (rw [Bool.eq_iff_iff]; simp_all; omega)), ?_⟩
    exact Agree.upd rfl (Agree.upd rfl (Agree.upd rfl (Agree.upd rfl (Agree.refl _ _))))
  · refine L.on rfl ?_
    refine L.va (x_mvI rfl) ?_
    refine L.on rfl ?_
    refine L.va (x_eql rfl rfl) ?_
    refine L.va (x_pickF rfl) ?_
    refine L.nil ?_
    refine ⟨rfl, congrArg Value.bool (by first | exact or_f hb5 | (simp_all; done) | (rw [Bool.eq_iff_iff]; simp_all; omega)), ?_⟩
    exact Agree.upd rfl (Agree.upd rfl (Agree.upd rfl (Agree.upd rfl (Agree.refl _ _))))
  refine L.va (x_asB rfl) ?_
  refine L.nil ?_
  show W _ _ _ _ _ _
  refine W.ret ?_
  repeat (first | refine T.ret ?_ | refine B.ret ?_)
  refine ends.one (.inr rfl) rfl ?_
  exact ⟨rfl, rfl⟩

theorem one_c (a b c d e f : Int) (w : World) :
    C Try.prog 33 #[.agg #[.int .i64 a, .int .i64 b, .int .i64 c], .agg #[.int .i64 d, .int .i64 e, .int .i64 f]] w fun v w' => v = .bool (decide (b = e ∧ c = f)) ∧ Below w.heap.size w w' := by
  refine C.enter (n := 17) Try.func33 rfl rfl ?_
  refine W.seq ?_
  refine W.region rfl ?_
  refine L.box rfl rfl (fun w b2 F2 => ?_)
  refine L.box rfl rfl (fun w b3 F3 => ?_)
  have B2 := F2.blk.keep F3.below
  have B3 := F3.blk
  refine L.va (x_asB rfl) ?_
  refine L.nil ?_
  show W _ _ _ _ _ _
  refine W.seq ?_
  refine W.region rfl ?_
  refine L.va (x_field rfl Try.underlying51 rfl sz3 (by decide)) ?_
  refine L.va (x_load rfl Try.underlying3 rfl (by first | exact B2.cell rfl | exact B3.cell rfl)) ?_
  refine L.va (x_field rfl Try.underlying51 rfl sz3 (by decide)) ?_
  refine L.va (x_load rfl Try.underlying3 rfl (by first | exact B2.cell rfl | exact B3.cell rfl)) ?_
  refine L.va (x_eql rfl rfl) ?_
  refine L.va (x_mvB rfl) ?_
  refine L.meetB 6 [10,11,12,13,14,15,16] 16 (.bool (decide (b = e ∧ c = f))) (tj := 10) rfl (fun hb10 => ?_) (fun hb10 => ?_) (fun f => ?_)
  · refine L.on rfl ?_
    refine L.va (x_field rfl Try.underlying51 rfl sz3 (by decide)) ?_
    refine L.on rfl ?_
    refine L.va (x_load rfl Try.underlying3 rfl (by first | exact B2.cell rfl | exact B3.cell rfl)) ?_
    refine L.on rfl ?_
    refine L.va (x_field rfl Try.underlying51 rfl sz3 (by decide)) ?_
    refine L.on rfl ?_
    refine L.va (x_load rfl Try.underlying3 rfl (by first | exact B2.cell rfl | exact B3.cell rfl)) ?_
    refine L.on rfl ?_
    refine L.va (x_eql rfl rfl) ?_
    refine L.va (x_pickT rfl) ?_
    refine L.nil ?_
    refine ⟨rfl, congrArg Value.bool (by first | exact and_t hb10 | (simp_all; done) | (rw [Bool.eq_iff_iff]; simp_all; omega)), ?_⟩
    exact Agree.upd rfl (Agree.upd rfl (Agree.upd rfl (Agree.upd rfl (Agree.upd rfl (Agree.upd rfl (Agree.upd rfl (Agree.refl _ _)))))))
  · refine L.off rfl ?_
    refine L.off rfl ?_
    refine L.off rfl ?_
    refine L.off rfl ?_
    refine L.off rfl ?_
    refine L.va (x_pickF rfl) ?_
    refine L.nil ?_
    refine ⟨rfl, congrArg Value.bool (by first | exact and_f hb10 | (simp_all; done) | (rw [Bool.eq_iff_iff]; simp_all; omega)), ?_⟩
    exact Agree.upd rfl (Agree.upd rfl (Agree.upd rfl (Agree.upd rfl (Agree.upd rfl (Agree.upd rfl (Agree.upd rfl (Agree.refl _ _)))))))
  refine L.va (x_asB rfl) ?_
  refine L.nil ?_
  show W _ _ _ _ _ _
  refine W.ret ?_
  repeat (first | refine T.ret ?_ | refine B.ret ?_)
  refine ends.one (.inr rfl) rfl ?_
  exact ⟨rfl, F2.below.trans (F3.below.mono F2.below.size)⟩

theorem touches_c (a b c : Int) (w : World) :
    C Try.prog 35 #[.agg #[.int .i64 a, .int .i64 b, .int .i64 c]] w fun v w' => v = .tuple #[.bool (decide (a = 8 ∨ a = 9)), .bool (decide (a = 9))] ∧ Below w.heap.size w w' := by
  refine C.enter (n := 15) Try.func35 rfl rfl ?_
  refine W.seq ?_
  refine W.region rfl ?_
  refine L.box rfl rfl (fun w b1 F1 => ?_)
  have B1 := F1.blk
  refine L.va (x_asB rfl) ?_
  refine L.va (x_asB rfl) ?_
  refine L.nil ?_
  show W _ _ _ _ _ _
  refine W.seq ?_
  refine W.quiet (fun w' => Below w.heap.size w w') (by kernel_rfl) (by kernel_rfl) ((Below.refl _ _).drew) ?_
  refine D.va (fun w' hw' => (x_field rfl Try.underlying51 rfl sz3 (by decide))) ?_
  refine D.va (fun w' hw' => (x_load rfl Try.underlying3 rfl (bl0 hw' (B1.cell rfl)))) ?_
  refine D.va (fun w' hw' => (x_eql rfl rfl)) ?_
  refine D.va (fun w' hw' => (x_mvB rfl)) ?_
  refine D.meetB 4 [7,8,9,10,11] 11 (.bool (decide (a = 8 ∨ a = 9))) (tj := 7) rfl (fun hb7 => ?_) (fun hb7 => ?_) (fun f => ?_)
  · refine D.off rfl ?_
    refine D.off rfl ?_
    refine D.off rfl ?_
    refine D.va (fun w' hw' => (x_pickT rfl)) ?_
    refine D.nil ?_
    refine ⟨congrArg Value.bool (by first | exact or_t hb7 | (simp_all; done) | (rw [Bool.eq_iff_iff]; simp_all; omega)), ?_⟩
    exact Agree.upd rfl (Agree.upd rfl (Agree.upd rfl (Agree.upd rfl (Agree.upd rfl (Agree.refl _ _)))))
  · refine D.on rfl ?_
    refine D.va (fun w' hw' => (x_field rfl Try.underlying51 rfl sz3 (by decide))) ?_
    refine D.on rfl ?_
    refine D.va (fun w' hw' => (x_load rfl Try.underlying3 rfl (bl0 hw' (B1.cell rfl)))) ?_
    refine D.on rfl ?_
    refine D.va (fun w' hw' => (x_eql rfl rfl)) ?_
    refine D.va (fun w' hw' => (x_pickF rfl)) ?_
    refine D.nil ?_
    refine ⟨congrArg Value.bool (by first | exact or_f hb7 | (simp_all; done) | (rw [Bool.eq_iff_iff]; simp_all; omega)), ?_⟩
    exact Agree.upd rfl (Agree.upd rfl (Agree.upd rfl (Agree.upd rfl (Agree.upd rfl (Agree.refl _ _)))))
  refine D.va (fun w' hw' => (x_field rfl Try.underlying51 rfl sz3 (by decide))) ?_
  refine D.va (fun w' hw' => (x_load rfl Try.underlying3 rfl (bl0 hw' (B1.cell rfl)))) ?_
  refine D.va (fun w' hw' => (x_eql rfl rfl)) ?_
  refine D.va (fun w' hw' => (x_asB rfl)) ?_
  refine D.va (fun w' hw' => (x_asB rfl)) ?_
  refine D.nil ?_
  intro w2 hb2
  show W _ _ _ _ _ _
  refine W.ret ?_
  repeat (first | refine T.ret ?_ | refine B.ret ?_)
  refine ends.two (.inr rfl) rfl ?_
  exact ⟨rfl, F1.below.trans (hb2.mono F1.below.size)⟩

theorem check_c (a : Option Addr) (n c : Nat) (E : Nat → Ev) (cl : Int) (w0 : World) (hE : EvAt w0 a n E) (hn : n ≤ 9223372036854775807) : C Try.prog 20 #[.slice a n c, .int .i64 cl] w0 fun v w' => v = .int .i64 (check E n cl) ∧ w' = w0 := by
  refine C.enter (n := 54) Try.func20 rfl rfl ?_
  refine W.seq ?_
  refine W.region rfl ?_
  refine L.va (x_asI rfl) ?_
  refine L.nil ?_
  show W _ _ _ _ _ _
  refine W.seq ?_
  refine W.seq ?_
  refine W.region rfl ?_
  refine L.va (x_mvI rfl) ?_
  refine L.va (x_lss rfl rfl) ?_
  refine L.va (x_mvB rfl) ?_
  refine L.meetB 3 [8,9,10,11] 11 (.bool (decide (cl < 0 ∨ 16 < cl))) (tj := 8) rfl (fun hb8 => ?_) (fun hb8 => ?_) (fun f => ?_)
  · refine L.off rfl ?_
    refine L.off rfl ?_
    refine L.va (x_pickT rfl) ?_
    refine L.nil ?_
    refine ⟨rfl, congrArg Value.bool (by first | exact or_t hb8 | (simp_all; done) | (rw [Bool.eq_iff_iff]; simp_all; omega)), ?_⟩
    exact Agree.upd rfl (Agree.upd rfl (Agree.upd rfl (Agree.upd rfl (Agree.refl _ _))))
  · refine L.on rfl ?_
    refine L.va (x_mvI rfl) ?_
    refine L.on rfl ?_
    refine L.va (x_gtr rfl rfl) ?_
    refine L.va (x_pickF rfl) ?_
    refine L.nil ?_
    refine ⟨rfl, congrArg Value.bool (by first | exact or_f hb8 | (simp_all; done) | (rw [Bool.eq_iff_iff]; simp_all; omega)), ?_⟩
    exact Agree.upd rfl (Agree.upd rfl (Agree.upd rfl (Agree.upd rfl (Agree.refl _ _))))
  refine L.nil ?_
  show W _ _ _ _ _ _
  refine W.condP rfl (fun h11 => ?_) (fun h11 => ?_)
  · refine W.seq ?_
    refine W.region rfl ?_
    refine L.va (x_asI rfl) ?_
    refine L.nil ?_
    show W _ _ _ _ _ _
    refine W.ret ?_
    repeat (first | refine T.ret ?_ | refine B.ret ?_)
    refine ends.one (.inr rfl) rfl ?_
    exact ⟨ri (by simp only [check, h11, if_true]), rfl⟩
  · refine W.skip ?_
    show W _ _ _ _ _ _
    refine W.seq ?_
    refine W.seq ?_
    refine W.region rfl ?_
    refine L.va (x_mvS rfl) ?_
    refine L.va (x_len rfl Try.underlying25 rfl) ?_
    refine L.va (x_gtr rfl rfl) ?_
    refine L.nil ?_
    show W _ _ _ _ _ _
    refine W.condP rfl (fun h14 => ?_) (fun h14 => ?_)
    · refine W.seq ?_
      refine W.region rfl ?_
      refine L.va (x_asI rfl) ?_
      refine L.nil ?_
      show W _ _ _ _ _ _
      refine W.ret ?_
      repeat (first | refine T.ret ?_ | refine B.ret ?_)
      refine ends.one (.inr rfl) rfl ?_
      exact ⟨ri (by simp only [check, h11, if_false, show 1048576 < n by omega, if_true]), rfl⟩
    · refine W.skip ?_
      show W _ _ _ _ _ _
      refine W.seq ?_
      refine W.seq ?_
      refine W.region rfl ?_
      refine L.va (x_asI rfl) ?_
      refine L.nil ?_
      show W _ _ _ _ _ _
      refine W.block ?_
      refine W.loop (fun k e w => ∃ i : Nat, k = n - i ∧ e 0 = .slice a n c ∧ e 1 = .int .i64 cl ∧ e 5 = .int .i64 (i : Int) ∧ w = w0 ∧ i ≤ n ∧ okE E cl i) _ ⟨0, rfl, rfl, rfl, rfl, rfl, Nat.zero_le _, fun i hi => by omega⟩ ?_
      rintro k e w ⟨i, rfl, s0, s1, s5, hw, hi, hok⟩
      rw [upd_id s0, upd_id s1, upd_id s5]
      clear s0 s1 s5
      subst hw
      refine W.seq ?_
      refine W.seq ?_
      refine W.region rfl ?_
      refine L.va (x_mvI rfl) ?_
      refine L.va (x_mvS rfl) ?_
      refine L.va (x_len rfl Try.underlying25 rfl) ?_
      refine L.va (x_lss rfl rfl) ?_
      refine L.nil ?_
      show W _ _ _ _ _ _
      refine W.condP rfl (fun h18 => ?_) (fun h18 => ?_)
      · refine W.skip ?_
        show W _ _ _ _ _ _
        refine W.seq ?_
        refine W.block ?_
        refine W.seq ?_
        refine W.region rfl ?_
        refine L.va (x_mvS rfl) ?_
        refine L.va (x_mvI rfl) ?_
        refine L.va (x_idx rfl rfl Try.underlying25 sz53 (hE.sl) (by omega)) ?_
        refine L.va (x_field rfl Try.underlying53 rfl sz3 (by decide)) ?_
        refine L.va (x_load rfl Try.underlying3 rfl (by first | exact hE.c (by omega) | exact hE.k (by omega))) ?_
        refine L.va (x_lss rfl rfl) ?_
        refine L.va (x_mvB rfl) ?_
        refine L.meetB 8 [27,28,29,30,31,32,33,34,35] 35 (.bool (decide ((E i).c < 0 ∨ cl ≤ (E i).c))) (tj := 27) rfl (fun hb27 => ?_) (fun hb27 => ?_) (fun f => ?_)
        · refine L.off rfl ?_
          refine L.off rfl ?_
          refine L.off rfl ?_
          refine L.off rfl ?_
          refine L.off rfl ?_
          refine L.off rfl ?_
          refine L.off rfl ?_
          refine L.va (x_pickT rfl) ?_
          refine L.nil ?_
          refine ⟨rfl, congrArg Value.bool (by first | exact or_t hb27 | (simp_all; done) | (rw [Bool.eq_iff_iff]; simp_all; omega)), ?_⟩
          exact Agree.upd rfl (Agree.upd rfl (Agree.upd rfl (Agree.upd rfl (Agree.upd rfl (Agree.upd rfl (Agree.upd rfl (Agree.upd rfl (Agree.upd rfl (Agree.refl _ _)))))))))
        · refine L.on rfl ?_
          refine L.va (x_mvS rfl) ?_
          refine L.on rfl ?_
          refine L.va (x_mvI rfl) ?_
          refine L.on rfl ?_
          refine L.va (x_idx rfl rfl Try.underlying25 sz53 (hE.sl) (by omega)) ?_
          refine L.on rfl ?_
          refine L.va (x_field rfl Try.underlying53 rfl sz3 (by decide)) ?_
          refine L.on rfl ?_
          refine L.va (x_load rfl Try.underlying3 rfl (by first | exact hE.c (by omega) | exact hE.k (by omega))) ?_
          refine L.on rfl ?_
          refine L.va (x_mvI rfl) ?_
          refine L.on rfl ?_
          refine L.va (x_geq rfl rfl) ?_
          refine L.va (x_pickF rfl) ?_
          refine L.nil ?_
          refine ⟨rfl, congrArg Value.bool (by first | exact or_f hb27 | (simp_all; done) | (rw [Bool.eq_iff_iff]; simp_all; omega)), ?_⟩
          exact Agree.upd rfl (Agree.upd rfl (Agree.upd rfl (Agree.upd rfl (Agree.upd rfl (Agree.upd rfl (Agree.upd rfl (Agree.upd rfl (Agree.upd rfl (Agree.refl _ _)))))))))
        refine L.va (x_mvB rfl) ?_
        refine L.meetB 8 [36,37,38,39,40,41,42,43,44] 44 (.bool (decide (((E i).c < 0 ∨ cl ≤ (E i).c) ∨ (E i).k < 1))) (tj := 36) rfl (fun hb36 => ?_) (fun hb36 => ?_) (fun f => ?_)
        · refine L.off rfl ?_
          refine L.off rfl ?_
          refine L.off rfl ?_
          refine L.off rfl ?_
          refine L.off rfl ?_
          refine L.off rfl ?_
          refine L.off rfl ?_
          refine L.va (x_pickT rfl) ?_
          refine L.nil ?_
          refine ⟨rfl, congrArg Value.bool (by first | exact or_t hb36 | (simp_all; done) | (rw [Bool.eq_iff_iff]; simp_all; omega)), ?_⟩
          exact Agree.upd rfl (Agree.upd rfl (Agree.upd rfl (Agree.upd rfl (Agree.upd rfl (Agree.upd rfl (Agree.upd rfl (Agree.upd rfl (Agree.upd rfl (Agree.refl _ _)))))))))
        · refine L.on rfl ?_
          refine L.va (x_mvS rfl) ?_
          refine L.on rfl ?_
          refine L.va (x_mvI rfl) ?_
          refine L.on rfl ?_
          refine L.va (x_idx rfl rfl Try.underlying25 sz53 (hE.sl) (by omega)) ?_
          refine L.on rfl ?_
          refine L.va (x_field rfl Try.underlying53 rfl sz51 (by decide)) ?_
          refine L.on rfl ?_
          refine L.va (x_field rfl Try.underlying51 rfl sz3 (by decide)) ?_
          refine L.on rfl ?_
          refine L.va (x_load rfl Try.underlying3 rfl (by first | exact hE.c (by omega) | exact hE.k (by omega))) ?_
          refine L.on rfl ?_
          refine L.va (x_lss rfl rfl) ?_
          refine L.va (x_pickF rfl) ?_
          refine L.nil ?_
          refine ⟨rfl, congrArg Value.bool (by first | exact or_f hb36 | (simp_all; done) | (rw [Bool.eq_iff_iff]; simp_all; omega)), ?_⟩
          exact Agree.upd rfl (Agree.upd rfl (Agree.upd rfl (Agree.upd rfl (Agree.upd rfl (Agree.upd rfl (Agree.upd rfl (Agree.upd rfl (Agree.upd rfl (Agree.refl _ _)))))))))
        refine L.va (x_mvB rfl) ?_
        refine L.meetB 8 [45,46,47,48,49,50,51,52,53] 53 (.bool (decide (badE cl (E i)))) (tj := 45) rfl (fun hb45 => ?_) (fun hb45 => ?_) (fun f => ?_)
        · refine L.off rfl ?_
          refine L.off rfl ?_
          refine L.off rfl ?_
          refine L.off rfl ?_
          refine L.off rfl ?_
          refine L.off rfl ?_
          refine L.off rfl ?_
          refine L.va (x_pickT rfl) ?_
          refine L.nil ?_
          refine ⟨rfl, congrArg Value.bool (by first | exact or_t hb45 | (simp_all; done) | (rw [Bool.eq_iff_iff]; simp_all; omega)), ?_⟩
          exact Agree.upd rfl (Agree.upd rfl (Agree.upd rfl (Agree.upd rfl (Agree.upd rfl (Agree.upd rfl (Agree.upd rfl (Agree.upd rfl (Agree.upd rfl (Agree.refl _ _)))))))))
        · refine L.on rfl ?_
          refine L.va (x_mvS rfl) ?_
          refine L.on rfl ?_
          refine L.va (x_mvI rfl) ?_
          refine L.on rfl ?_
          refine L.va (x_idx rfl rfl Try.underlying25 sz53 (hE.sl) (by omega)) ?_
          refine L.on rfl ?_
          refine L.va (x_field rfl Try.underlying53 rfl sz51 (by decide)) ?_
          refine L.on rfl ?_
          refine L.va (x_field rfl Try.underlying51 rfl sz3 (by decide)) ?_
          refine L.on rfl ?_
          refine L.va (x_load rfl Try.underlying3 rfl (by first | exact hE.c (by omega) | exact hE.k (by omega))) ?_
          refine L.on rfl ?_
          refine L.va (x_gtr rfl rfl) ?_
          refine L.va (x_pickF rfl) ?_
          refine L.nil ?_
          refine ⟨rfl, congrArg Value.bool (by first | exact or_f hb45 | (simp_all; done) | (rw [Bool.eq_iff_iff]; simp_all; omega)), ?_⟩
          exact Agree.upd rfl (Agree.upd rfl (Agree.upd rfl (Agree.upd rfl (Agree.upd rfl (Agree.upd rfl (Agree.upd rfl (Agree.upd rfl (Agree.upd rfl (Agree.refl _ _)))))))))
        refine L.nil ?_
        show W _ _ _ _ _ _
        refine W.condP rfl (fun h53 => ?_) (fun h53 => ?_)
        · refine W.seq ?_
          refine W.region rfl ?_
          refine L.va (x_asI rfl) ?_
          refine L.nil ?_
          show W _ _ _ _ _ _
          refine W.ret ?_
          repeat (first | refine T.ret ?_ | refine B.ret ?_)
          refine ends.one (.inr rfl) rfl ?_
          exact ⟨ri (by simp only [check, h11, if_false, show ¬ 1048576 < n by omega, if_neg (fun h : okE E cl n => h i (by omega) h53)]), rfl⟩
        · refine W.skip ?_
          refine B.nrm ?_
          show W _ _ _ _ _ _
          refine W.region rfl ?_
          refine L.va (x_mvI rfl) ?_
          refine L.va (x_inc rfl rfl (by omega)) ?_
          refine L.va (x_asI rfl) ?_
          refine L.nil ?_
          refine T.nrm ?_
          exact ⟨_, by omega, ⟨i + 1, rfl, rfl, rfl, rfl, rfl, by omega, fun j hj => by by_cases hji : j = i; (subst hji; exact h53); exact hok j (by omega)⟩⟩
      · refine W.exit ?_
        repeat (first | refine T.exit ?_ | refine B.exitNe (by decide) ?_)
        refine B.exitEq ?_
        show W _ _ _ _ _ _
        refine W.seq ?_
        refine W.region rfl ?_
        refine L.va (x_asI rfl) ?_
        refine L.nil ?_
        show W _ _ _ _ _ _
        refine W.ret ?_
        repeat (first | refine T.ret ?_ | refine B.ret ?_)
        refine ends.one (.inr rfl) rfl ?_
        have : i = n := by omega
        subst this
        exact ⟨ri (by simp only [check, h11, if_false, show ¬ 1048576 < i by omega, hok, if_true]), rfl⟩

end Go.Proofs.Ytlopdjbehhdmpaa
