/- Contracts: the document's clocks, races and reads; what the statements hold beside them. -/
import Derived.Test.YtlopdjbehhdmpaaBase3
namespace Go.Proofs.Ytlopdjbehhdmpaa
open Go.Vc Go.RowKit
theorem in34 : (Try.prog.info? 34).map (fun i => (i.zero, i.size, i.bytes)) = some (some (.slice none 0 0), 1, 24) := by kernel_rfl
theorem in3 : (Try.prog.info? 3).map (fun i => (i.zero, i.size, i.bytes)) = some (some (.int .i64 0), 1, 8) := by kernel_rfl
theorem in56 : (Try.prog.info? 56).map (fun i => (i.zero, i.size, i.bytes)) = some (some (.agg #[.int .i64 0, .int .i64 0]), 2, 16) := by kernel_rfl
theorem in53 : (Try.prog.info? 53).map (fun i => (i.zero, i.size, i.bytes)) = some (some (.agg #[.int .i64 0, .int .i64 0, .int .i64 0, .int .i64 0]), 4, 32) := by kernel_rfl
theorem bu56 (a b : Int) : Try.prog.built 56 [(0, .int .i64 a), (1, .int .i64 b)] = some #[.int .i64 a, .int .i64 b] := by kernel_rfl
theorem bu53 (a : Int) : Try.prog.built 53 [(0, .int .i64 a)] = some #[.int .i64 a, .int .i64 0, .int .i64 0, .int .i64 0] := by kernel_rfl

theorem race_c (a : Option Addr) (n c : Nat) (E : Nat → Ev) (oa : Option Addr) (oc i j : Nat) (w0 : World) (hE : EvAt w0 a n E) (hA : RowsAt w0 oa n n (fun j x => .bool (ahB E x j))) (hi : i < n) (hj : j < n) :
    C Try.prog 32 #[.slice a n c, .slice oa n oc, .int .i64 (i : Int), .int .i64 (j : Int)] w0 fun v w' => v = .bool (raceB E i j) ∧ Below w0.heap.size w0 w' := by
  refine C.enter (n := 77) Try.func32 rfl rfl ?_
  have hb := Below.refl w0.heap.size w0
  obtain ⟨r, cr, hr, hrs, hrc⟩ := hA.row hj
  refine W.seq ?_
  refine W.region rfl ?_
  refine L.va (x_asB rfl) ?_
  refine L.nil ?_
  show W _ _ _ _ _ _
  refine W.seq ?_
  refine W.region rfl ?_
  refine L.va (x_mvS rfl) ?_
  refine L.va (x_mvI rfl) ?_
  refine L.va (x_idx rfl rfl Try.underlying25 sz53 (hE.sl) (by omega)) ?_
  refine L.va (x_field rfl Try.underlying53 rfl sz51 (by decide)) ?_
  refine L.va (x_loadAgg rfl Try.underlying51 rfl sz51 rfl (by first | exact bl0 hb (hE.c hi) | exact bagg hb (hE.step hi) | exact bl0 hb (hE.c hj) | exact bagg hb (hE.step hj))) ?_
  refine L.call (x_call1 rfl Try.func35 rfl nm35 rfl) (touches_c _ _ _ _) ?_
  rintro _ w ⟨rfl, hbw⟩
  have hb := cl_step hb hbw
  refine L.va (x_mvT rfl) ?_
  refine L.va (x_extract rfl rfl) ?_
  refine L.va (x_extract rfl rfl) ?_
  refine L.va (x_asB rfl) ?_
  refine L.va (x_asB rfl) ?_
  refine L.nil ?_
  show W _ _ _ _ _ _
  refine W.seq ?_
  refine W.region rfl ?_
  refine L.va (x_mvS rfl) ?_
  refine L.va (x_mvI rfl) ?_
  refine L.va (x_idx rfl rfl Try.underlying25 sz53 (hE.sl) (by omega)) ?_
  refine L.va (x_field rfl Try.underlying53 rfl sz51 (by decide)) ?_
  refine L.va (x_loadAgg rfl Try.underlying51 rfl sz51 rfl (by first | exact bl0 hb (hE.c hi) | exact bagg hb (hE.step hi) | exact bl0 hb (hE.c hj) | exact bagg hb (hE.step hj))) ?_
  refine L.call (x_call1 rfl Try.func35 rfl nm35 rfl) (touches_c _ _ _ _) ?_
  rintro _ w ⟨rfl, hbw⟩
  have hb := cl_step hb hbw
  refine L.va (x_mvT rfl) ?_
  refine L.va (x_extract rfl rfl) ?_
  refine L.va (x_extract rfl rfl) ?_
  refine L.va (x_asB rfl) ?_
  refine L.va (x_asB rfl) ?_
  refine L.nil ?_
  show W _ _ _ _ _ _
  refine W.seq ?_
  refine W.quiet (fun w' => Below w0.heap.size w0 w') (by kernel_rfl) (by kernel_rfl) (hb.drew) ?_
  refine D.va (fun w' hw' => (x_mvB rfl)) ?_
  refine D.va (fun w' hw' => (x_mvB rfl)) ?_
  refine D.meetB 2 [32,33,34] 34 (.bool (decide (acc (E i) ∧ acc (E j)))) (tj := 32) rfl (fun hb32 => ?_) (fun hb32 => ?_) (fun f => ?_)
  · refine D.on rfl ?_
    refine D.va (fun w' hw' => (x_mvB rfl)) ?_
    refine D.va (fun w' hw' => (x_pickT rfl)) ?_
    refine D.nil ?_
    refine ⟨congrArg Value.bool (by first | exact and_t hb32 | (simp_all; done) | (rw [Bool.eq_iff_iff]; simp_all; omega)), ?_⟩
    exact Agree.upd rfl (Agree.upd rfl (Agree.upd rfl (Agree.refl _ _)))
  · refine D.off rfl ?_
    refine D.va (fun w' hw' => (x_pickF rfl)) ?_
    refine D.nil ?_
    refine ⟨congrArg Value.bool (by first | exact and_f hb32 | (simp_all; done) | (rw [Bool.eq_iff_iff]; simp_all; omega)), ?_⟩
    exact Agree.upd rfl (Agree.upd rfl (Agree.upd rfl (Agree.refl _ _)))
  refine D.va (fun w' hw' => (x_mvB rfl)) ?_
  refine D.meetB 5 [35,36,37,38,39,40] 40 (.bool (decide ((acc (E i) ∧ acc (E j)) ∧ ((E i).k = 9 ∨ (E j).k = 9)))) (tj := 35) rfl (fun hb35 => ?_) (fun hb35 => ?_) (fun f => ?_)
  · refine D.on rfl ?_
    refine D.va (fun w' hw' => (x_mvB rfl)) ?_
    refine D.on rfl ?_
    refine D.va (fun w' hw' => (x_mvB rfl)) ?_
    refine D.meetB 2 [37,38,39] 39 (.bool (decide ((E i).k = 9 ∨ (E j).k = 9))) (tj := 37) rfl (fun hb37 => ?_) (fun hb37 => ?_) (fun f => ?_)
    · refine D.off rfl ?_
      refine D.on rfl ?_
      refine D.va (fun w' hw' => (x_pickT rfl)) ?_
      refine D.nil ?_
      refine ⟨congrArg Value.bool (by first | exact or_t hb37 | (simp_all; done) | (rw [Bool.eq_iff_iff]; simp_all; omega)), ?_⟩
      exact Agree.upd rfl (Agree.upd rfl (Agree.upd rfl (Agree.refl _ _)))
    · refine D.on rfl ?_
      refine D.va (fun w' hw' => (x_mvB rfl)) ?_
      refine D.on rfl ?_
      refine D.va (fun w' hw' => (x_pickF rfl)) ?_
      refine D.nil ?_
      refine ⟨congrArg Value.bool (by first | exact or_f hb37 | (simp_all; done) | (rw [Bool.eq_iff_iff]; simp_all; omega)), ?_⟩
      exact Agree.upd rfl (Agree.upd rfl (Agree.upd rfl (Agree.refl _ _)))
    refine D.va (fun w' hw' => (x_pickT rfl)) ?_
    refine D.nil ?_
    refine ⟨congrArg Value.bool (by first | exact and_t hb35 | (simp_all; done) | (rw [Bool.eq_iff_iff]; simp_all; omega)), ?_⟩
    exact Agree.upd rfl (Agree.upd rfl (Agree.hav rfl (Agree.upd rfl (Agree.upd rfl (Agree.upd rfl (Agree.refl _ _))))))
  · refine D.off rfl ?_
    refine D.off rfl ?_
    refine D.off rfl ?_
    refine D.off rfl ?_
    refine D.va (fun w' hw' => (x_pickF rfl)) ?_
    refine D.nil ?_
    refine ⟨congrArg Value.bool (by first | exact and_f hb35 | (simp_all; done) | (rw [Bool.eq_iff_iff]; simp_all; omega)), ?_⟩
    exact Agree.upd rfl (Agree.upd rfl (Agree.upd rfl (Agree.upd rfl (Agree.upd rfl (Agree.upd rfl (Agree.refl _ _))))))
  refine D.va (fun w' hw' => (x_mvB rfl)) ?_
  refine D.meetB 12 [41,42,43,44,45,46,47,48,49,50,51,52,53] 53 (.bool (decide (((acc (E i) ∧ acc (E j)) ∧ ((E i).k = 9 ∨ (E j).k = 9)) ∧ ((E i).o = (E j).o ∧ (E i).n = (E j).n)))) (tj := 41) rfl (fun hb41 => ?_) (fun hb41 => ?_) (fun f => ?_)
  · refine D.on rfl ?_
    refine D.va (fun w' hw' => (x_mvS rfl)) ?_
    refine D.on rfl ?_
    refine D.va (fun w' hw' => (x_mvI rfl)) ?_
    refine D.on rfl ?_
    refine D.va (fun w' hw' => (x_idx rfl rfl Try.underlying25 sz53 (hE.sl) (by omega))) ?_
    refine D.on rfl ?_
    refine D.va (fun w' hw' => (x_field rfl Try.underlying53 rfl sz51 (by decide))) ?_
    refine D.on rfl ?_
    refine D.va (fun w' hw' => (x_loadAgg rfl Try.underlying51 rfl sz51 rfl (by first | exact bl0 hw' (hE.c hi) | exact bagg hw' (hE.step hi) | exact bl0 hw' (hE.c hj) | exact bagg hw' (hE.step hj)))) ?_
    refine D.on rfl ?_
    refine D.va (fun w' hw' => (x_mvS rfl)) ?_
    refine D.on rfl ?_
    refine D.va (fun w' hw' => (x_mvI rfl)) ?_
    refine D.on rfl ?_
    refine D.va (fun w' hw' => (x_idx rfl rfl Try.underlying25 sz53 (hE.sl) (by omega))) ?_
    refine D.on rfl ?_
    refine D.va (fun w' hw' => (x_field rfl Try.underlying53 rfl sz51 (by decide))) ?_
    refine D.on rfl ?_
    refine D.va (fun w' hw' => (x_loadAgg rfl Try.underlying51 rfl sz51 rfl (by first | exact bl0 hw' (hE.c hi) | exact bagg hw' (hE.step hi) | exact bl0 hw' (hE.c hj) | exact bagg hw' (hE.step hj)))) ?_
    refine D.on rfl ?_
    refine D.call (fun w' hw' => (x_call2 rfl rfl Try.func33 rfl nm33 rfl)) (fun w' hw' => (one_c _ _ _ _ _ _ w').mono (fun v w'' h => ⟨h.1, cl_step hw' h.2⟩)) ?_
    refine D.va (fun w' hw' => (x_pickT rfl)) ?_
    refine D.nil ?_
    refine ⟨congrArg Value.bool (by first | exact and_t hb41 | (simp_all; done) | (rw [Bool.eq_iff_iff]; simp_all; omega)), ?_⟩
    exact Agree.upd rfl (Agree.upd rfl (Agree.upd rfl (Agree.upd rfl (Agree.upd rfl (Agree.upd rfl (Agree.upd rfl (Agree.upd rfl (Agree.upd rfl (Agree.upd rfl (Agree.upd rfl (Agree.upd rfl (Agree.upd rfl (Agree.refl _ _)))))))))))))
  · refine D.off rfl ?_
    refine D.off rfl ?_
    refine D.off rfl ?_
    refine D.off rfl ?_
    refine D.off rfl ?_
    refine D.off rfl ?_
    refine D.off rfl ?_
    refine D.off rfl ?_
    refine D.off rfl ?_
    refine D.off rfl ?_
    refine D.off rfl ?_
    refine D.va (fun w' hw' => (x_pickF rfl)) ?_
    refine D.nil ?_
    refine ⟨congrArg Value.bool (by first | exact and_f hb41 | (simp_all; done) | (rw [Bool.eq_iff_iff]; simp_all; omega)), ?_⟩
    exact Agree.upd rfl (Agree.upd rfl (Agree.upd rfl (Agree.upd rfl (Agree.upd rfl (Agree.upd rfl (Agree.upd rfl (Agree.upd rfl (Agree.upd rfl (Agree.upd rfl (Agree.upd rfl (Agree.upd rfl (Agree.upd rfl (Agree.refl _ _)))))))))))))
  refine D.va (fun w' hw' => (x_mvB rfl)) ?_
  refine D.meetB 12 [54,55,56,57,58,59,60,61,62,63,64,65,66] 66 (.bool (decide ((((acc (E i) ∧ acc (E j)) ∧ ((E i).k = 9 ∨ (E j).k = 9)) ∧ ((E i).o = (E j).o ∧ (E i).n = (E j).n)) ∧ (E i).c ≠ (E j).c))) (tj := 54) rfl (fun hb54 => ?_) (fun hb54 => ?_) (fun f => ?_)
  · refine D.on rfl ?_
    refine D.va (fun w' hw' => (x_mvS rfl)) ?_
    refine D.on rfl ?_
    refine D.va (fun w' hw' => (x_mvI rfl)) ?_
    refine D.on rfl ?_
    refine D.va (fun w' hw' => (x_idx rfl rfl Try.underlying25 sz53 (hE.sl) (by omega))) ?_
    refine D.on rfl ?_
    refine D.va (fun w' hw' => (x_field rfl Try.underlying53 rfl sz3 (by decide))) ?_
    refine D.on rfl ?_
    refine D.va (fun w' hw' => (x_load rfl Try.underlying3 rfl (by first | exact bl0 hw' (hE.c hi) | exact bagg hw' (hE.step hi) | exact bl0 hw' (hE.c hj) | exact bagg hw' (hE.step hj)))) ?_
    refine D.on rfl ?_
    refine D.va (fun w' hw' => (x_mvS rfl)) ?_
    refine D.on rfl ?_
    refine D.va (fun w' hw' => (x_mvI rfl)) ?_
    refine D.on rfl ?_
    refine D.va (fun w' hw' => (x_idx rfl rfl Try.underlying25 sz53 (hE.sl) (by omega))) ?_
    refine D.on rfl ?_
    refine D.va (fun w' hw' => (x_field rfl Try.underlying53 rfl sz3 (by decide))) ?_
    refine D.on rfl ?_
    refine D.va (fun w' hw' => (x_load rfl Try.underlying3 rfl (by first | exact bl0 hw' (hE.c hi) | exact bagg hw' (hE.step hi) | exact bl0 hw' (hE.c hj) | exact bagg hw' (hE.step hj)))) ?_
    refine D.on rfl ?_
    refine D.va (fun w' hw' => (x_neq rfl rfl)) ?_
    refine D.va (fun w' hw' => (x_pickT rfl)) ?_
    refine D.nil ?_
    refine ⟨congrArg Value.bool (by first | exact and_t hb54 | (simp_all; done) | (rw [Bool.eq_iff_iff]; simp_all; omega)), ?_⟩
    exact Agree.upd rfl (Agree.upd rfl (Agree.upd rfl (Agree.upd rfl (Agree.upd rfl (Agree.upd rfl (Agree.upd rfl (Agree.upd rfl (Agree.upd rfl (Agree.upd rfl (Agree.upd rfl (Agree.upd rfl (Agree.upd rfl (Agree.refl _ _)))))))))))))
  · refine D.off rfl ?_
    refine D.off rfl ?_
    refine D.off rfl ?_
    refine D.off rfl ?_
    refine D.off rfl ?_
    refine D.off rfl ?_
    refine D.off rfl ?_
    refine D.off rfl ?_
    refine D.off rfl ?_
    refine D.off rfl ?_
    refine D.off rfl ?_
    refine D.va (fun w' hw' => (x_pickF rfl)) ?_
    refine D.nil ?_
    refine ⟨congrArg Value.bool (by first | exact and_f hb54 | (simp_all; done) | (rw [Bool.eq_iff_iff]; simp_all; omega)), ?_⟩
    exact Agree.upd rfl (Agree.upd rfl (Agree.upd rfl (Agree.upd rfl (Agree.upd rfl (Agree.upd rfl (Agree.upd rfl (Agree.upd rfl (Agree.upd rfl (Agree.upd rfl (Agree.upd rfl (Agree.upd rfl (Agree.upd rfl (Agree.refl _ _)))))))))))))
  refine D.va (fun w' hw' => (x_mvB rfl)) ?_
  refine D.meetB 9 [67,68,69,70,71,72,73,74,75,76] 76 (.bool (raceB E i j)) (tj := 67) rfl (fun hb67 => ?_) (fun hb67 => ?_) (fun f => ?_)
  · refine D.on rfl ?_
    refine D.va (fun w' hw' => (x_mvS rfl)) ?_
    refine D.on rfl ?_
    refine D.va (fun w' hw' => (x_mvI rfl)) ?_
    refine D.on rfl ?_
    refine D.va (fun w' hw' => (x_idx rfl rfl Try.underlying39 sz38 (hA.sl) (by omega))) ?_
    refine D.on rfl ?_
    refine D.va (fun w' hw' => (x_load rfl Try.underlying38 rfl (bl0 hw' hr))) ?_
    refine D.on rfl ?_
    refine D.va (fun w' hw' => (x_mvI rfl)) ?_
    refine D.on rfl ?_
    refine D.va (fun w' hw' => (x_idx rfl rfl Try.underlying38 sz4 (hrs) (by omega))) ?_
    refine D.on rfl ?_
    refine D.va (fun w' hw' => (x_load rfl Try.underlying4 rfl (bl0 hw' (hrc hi)))) ?_
    refine D.on rfl ?_
    refine D.va (fun w' hw' => (x_not rfl)) ?_
    refine D.va (fun w' hw' => (x_pickT rfl)) ?_
    refine D.nil ?_
    refine ⟨congrArg Value.bool (by unfold raceB; rw [hb67]; rfl), ?_⟩
    exact Agree.upd rfl (Agree.upd rfl (Agree.upd rfl (Agree.upd rfl (Agree.upd rfl (Agree.upd rfl (Agree.upd rfl (Agree.upd rfl (Agree.upd rfl (Agree.upd rfl (Agree.refl _ _))))))))))
  · refine D.off rfl ?_
    refine D.off rfl ?_
    refine D.off rfl ?_
    refine D.off rfl ?_
    refine D.off rfl ?_
    refine D.off rfl ?_
    refine D.off rfl ?_
    refine D.off rfl ?_
    refine D.va (fun w' hw' => (x_pickF rfl)) ?_
    refine D.nil ?_
    refine ⟨congrArg Value.bool (by unfold raceB; rw [hb67]; rfl), ?_⟩
    exact Agree.upd rfl (Agree.upd rfl (Agree.upd rfl (Agree.upd rfl (Agree.upd rfl (Agree.upd rfl (Agree.upd rfl (Agree.upd rfl (Agree.upd rfl (Agree.upd rfl (Agree.refl _ _))))))))))
  refine D.va (fun w' hw' => (x_asB rfl)) ?_
  refine D.nil ?_
  intro w hb
  show W _ _ _ _ _ _
  refine W.ret ?_
  repeat (first | refine T.ret ?_ | refine B.ret ?_)
  refine ends.one (.inr rfl) rfl ?_
  exact ⟨rfl, hb⟩

theorem rclocks_no (a : Option Addr) (n c : Nat) (E : Nat → Ev) (cl : Int) (w0 : World) (hE : EvAt w0 a n E) (hn : n ≤ 9223372036854775807) (hc : check E n cl ≠ 0) :
    C Try.prog 16 #[.slice a n c, .int .i64 cl] w0 fun v w' => v = .tuple #[.slice none 0 0, .int .i64 (check E n cl)] ∧ Below w0.heap.size w0 w' := by
  refine C.enter (n := 62) Try.func16 rfl rfl ?_
  refine W.seq ?_
  refine W.region rfl ?_
  refine L.va (x_asS rfl) ?_
  refine L.va (x_asI rfl) ?_
  refine L.nil ?_
  show W _ _ _ _ _ _
  refine W.seq ?_
  refine W.region rfl ?_
  refine L.va (x_mvS rfl) ?_
  refine L.va (x_mvI rfl) ?_
  refine L.call (x_call2 rfl rfl Try.func20 rfl nm20 rfl) (check_c a n c E cl w0 hE hn) ?_
  rintro _ w ⟨rfl, rfl⟩
  refine L.va (x_asI rfl) ?_
  refine L.nil ?_
  show W _ _ _ _ _ _
  refine W.seq ?_
  refine W.seq ?_
  refine W.region rfl ?_
  refine L.va (x_mvI rfl) ?_
  refine L.va (x_neq rfl rfl) ?_
  refine L.nil ?_
  show W _ _ _ _ _ _
  refine W.condT (rb (decide_eq_true hc)) ?_
  refine W.seq ?_
  refine W.region rfl ?_
  refine L.va (x_mvI rfl) ?_
  refine L.va (x_asS rfl) ?_
  refine L.va (x_asI rfl) ?_
  refine L.nil ?_
  show W _ _ _ _ _ _
  refine W.ret ?_
  repeat (first | refine T.ret ?_ | refine B.ret ?_)
  refine ends.two (.inr rfl) rfl ?_
  exact ⟨rfl, Below.refl _ _⟩

set_option maxHeartbeats 400000 in
theorem rclocks_ok (a : Option Addr) (n c : Nat) (E : Nat → Ev) (m : Nat) (w0 : World) (hE : EvAt w0 a n E) (hc : check E n (m : Int) = 0) :
    C Try.prog 16 #[.slice a n c, .int .i64 (m : Int)] w0 fun v w' => ∃ oa oc, v = .tuple #[.slice oa n oc, .int .i64 0] ∧ RowsAt w' oa n m (fun j k => .int .i64 (rclk E j k : Int)) ∧ Below w0.heap.size w0 w' := by
  refine C.enter (n := 62) Try.func16 rfl rfl ?_
  obtain ⟨-, hm16, hn, hok⟩ := check_zero hc
  have hm : m ≤ 16 := by omega
  refine W.seq ?_
  refine W.region rfl ?_
  refine L.va (x_asS rfl) ?_
  refine L.va (x_asI rfl) ?_
  refine L.nil ?_
  show W _ _ _ _ _ _
  refine W.seq ?_
  refine W.region rfl ?_
  refine L.va (x_mvS rfl) ?_
  refine L.va (x_mvI rfl) ?_
  refine L.call (x_call2 rfl rfl Try.func20 rfl nm20 rfl) (check_c a n c E m w0 hE (by omega)) ?_
  rintro _ w ⟨rfl, rfl⟩
  refine L.va (x_asI rfl) ?_
  refine L.nil ?_
  show W _ _ _ _ _ _
  refine W.seq ?_
  refine W.seq ?_
  refine W.region rfl ?_
  refine L.va (x_mvI rfl) ?_
  refine L.va (x_neq rfl rfl) ?_
  refine L.nil ?_
  show W _ _ _ _ _ _
  refine W.condF (rb (decide_eq_false (by rw [hc]; simp))) ?_
  refine W.skip ?_
  show W _ _ _ _ _ _
  refine W.seq ?_
  refine W.region rfl ?_
  refine L.va (x_mvS rfl) ?_
  refine L.call (x_call1 rfl Try.func21 rfl nm21 rfl) (ahead_c a n c E w hE hn) ?_
  rintro _ w1 ⟨xa, xc, rfl, hA, hbA⟩
  have hE := hE.below hbA
  have hb := Below.refl w1.heap.size w1
  refine L.va (x_asS rfl) ?_
  refine L.nil ?_
  show W _ _ _ _ _ _
  refine W.seq ?_
  refine W.region rfl ?_
  refine L.va (x_asS rfl) ?_
  refine L.nil ?_
  show W _ _ _ _ _ _
  refine W.seq ?_
  refine W.seq ?_
  refine W.region rfl ?_
  refine L.va (x_asI rfl) ?_
  refine L.nil ?_
  show W _ _ _ _ _ _
  refine W.block ?_
  refine W.loop (fun k e w => ∃ j : Nat, ∃ oa : Option Addr, ∃ oc : Nat, ∃ R : Nat → Nat, ∃ CC : Nat → Nat, k = n - j ∧ e 0 = .slice a n c ∧ e 1 = .int .i64 (m : Int) ∧ e 7 = .slice xa n xc ∧ e 8 = .slice oa j oc ∧ e 9 = .int .i64 (j : Int) ∧ Below w1.heap.size w1 w ∧ j ≤ n ∧ Made w w1.heap.size 34 3 oa j oc m R CC (fun i => arr m (fun k => .int .i64 (rclk E i k : Int)))) _ ⟨0, none, 0, fun _ => 0, fun _ => 0, rfl, rfl, rfl, rfl, rfl, rfl, hb, Nat.zero_le _, Made.nil _ _ _ _ _ _ _ _⟩ ?_
  rintro k e w ⟨j, oa, oc, R, CC, rfl, s0, s1, s7, s8, s9, hb, hjn, hM⟩
  rw [upd_id s0, upd_id s1, upd_id s7, upd_id s8, upd_id s9]
  clear s0 s1 s7 s8 s9
  refine W.seq ?_
  refine W.seq ?_
  refine W.region rfl ?_
  refine L.va (x_mvI rfl) ?_
  refine L.va (x_mvS rfl) ?_
  refine L.va (x_len rfl Try.underlying25 rfl) ?_
  refine L.va (x_lss rfl rfl) ?_
  refine L.nil ?_
  show W _ _ _ _ _ _
  refine W.condP rfl (fun h23 => ?_) (fun h23 => ?_)
  · refine W.skip ?_
    show W _ _ _ _ _ _
    refine W.seq ?_
    refine W.block ?_
    refine W.seq ?_
    refine W.region rfl ?_
    refine L.va (x_mvI rfl) ?_
    refine L.make rfl rfl Try.underlying34 in3 rfl (by decide) (by omega) (by omega) (fun w b F16 => ?_)
    have hRb : ∀ i, i < j → R i ≠ b := fun i hi => by have := (hM.blk i hi).2.lt; have := F16.here; omega
    have hab : oa ≠ none → ab oa ≠ b := fun ha => by have := hM.own.lt ha; have := F16.here; omega
    have hB0 : w1.heap.size ≤ b := by have := F16.here; have := hb.size; omega
    have hM := hM.keep F16.below
    have hb := cl_step hb F16.below
    have hR := F16.blk
    rw [Nat.mul_one, arr_rep] at hR
    refine L.va (x_asS rfl) ?_
    refine L.nil ?_
    show W _ _ _ _ _ _
    refine W.seq ?_
    obtain ⟨hc0, hc1, -, -⟩ := hok.at (show j < n by omega)
    have hct : (E j).c.toNat < m := by omega
    refine W.region rfl ?_
    refine L.va (x_mvS rfl) ?_
    refine L.va (x_mvS rfl) ?_
    refine L.va (x_mvI rfl) ?_
    refine L.va (x_idx rfl rfl Try.underlying25 sz53 (hE.sl) (by omega)) ?_
    refine L.va (x_field rfl Try.underlying53 rfl sz3 (by decide)) ?_
    refine L.va (x_load rfl Try.underlying3 rfl (bl0 hb (hE.c (by omega)))) ?_
    refine L.va (x_indexI rfl rfl Try.underlying34 sz3 (by omega) (by omega)) ?_
    refine L.store rfl rfl sz3 rfl hR (by rw [arr_size]; omega) ?_
    have hM := hM.grown (grown_setCell w ⟨b, 0 + (E j).c.toNat * 1, none⟩ (.int .i64 1)) hab hRb
    have hb := hb.setCell (p := ⟨b, 0 + (E j).c.toNat * 1, none⟩) hB0 (.int .i64 1)
    have hR : Blk (w.setCell ⟨b, 0 + (E j).c.toNat * 1, none⟩ (.int .i64 1)) b (arr m (fun k => .int .i64 (rcN E j 0 k : Int))) 3 := by
      have := hR.set (o := 0 + (E j).c.toNat * 1) (.int .i64 1)
      rw [arr_set] at this
      exact this.congrA (fun k _ => by rw [← rcN_start hc0, show 0 + (E j).c.toNat * 1 = (E j).c.toNat by omega]; split <;> rfl)
    refine L.nil ?_
    show W _ _ _ _ _ _
    refine W.seq ?_
    refine W.seq ?_
    refine W.region rfl ?_
    refine L.va (x_asI rfl) ?_
    refine L.nil ?_
    show W _ _ _ _ _ _
    refine W.block ?_
    refine W.loop (fun k e w => ∃ i : Nat, k = j - i ∧ e 0 = .slice a n c ∧ e 1 = .int .i64 (m : Int) ∧ e 7 = .slice xa n xc ∧ e 8 = .slice oa j oc ∧ e 9 = .int .i64 (j : Int) ∧ e 10 = .slice (some ⟨b, 0, none⟩) m m ∧ e 11 = .int .i64 (i : Int) ∧ Below w1.heap.size w1 w ∧ i ≤ j ∧ Made w w1.heap.size 34 3 oa j oc m R CC (fun i => arr m (fun k => .int .i64 (rclk E i k : Int))) ∧ Blk w b (arr m (fun k => .int .i64 (rcN E j i k : Int))) 3) _ ⟨0, rfl, rfl, rfl, rfl, rfl, rfl, rfl, rfl, hb, Nat.zero_le _, hM, hR⟩ ?_
    rintro k e w ⟨i, rfl, s0, s1, s7, s8, s9, s10, s11, hb, hij, hM, hR⟩
    rw [upd_id s0, upd_id s1, upd_id s7, upd_id s8, upd_id s9, upd_id s10, upd_id s11]
    clear s0 s1 s7 s8 s9 s10 s11
    refine W.seq ?_
    refine W.seq ?_
    refine W.region rfl ?_
    refine L.va (x_mvI rfl) ?_
    refine L.va (x_mvI rfl) ?_
    refine L.va (x_lss rfl rfl) ?_
    refine L.nil ?_
    show W _ _ _ _ _ _
    refine W.condP rfl (fun h37 => ?_) (fun h37 => ?_)
    · refine W.skip ?_
      show W _ _ _ _ _ _
      refine W.seq ?_
      refine W.block ?_
      refine W.seq ?_
      obtain ⟨r, cr, hr, hrs, hrc⟩ := hA.row (show j < n by omega)
      refine W.region rfl ?_
      refine L.va (x_mvS rfl) ?_
      refine L.va (x_mvI rfl) ?_
      refine L.va (x_idx rfl rfl Try.underlying39 sz38 (hA.sl) (by omega)) ?_
      refine L.va (x_load rfl Try.underlying38 rfl (bl0 hb hr)) ?_
      refine L.va (x_mvI rfl) ?_
      refine L.va (x_idx rfl rfl Try.underlying38 sz4 (hrs) (by omega)) ?_
      refine L.va (x_load rfl Try.underlying4 rfl (bl0 hb (hrc (by omega)))) ?_
      refine L.nil ?_
      show W _ _ _ _ _ _
      refine W.cond rfl (fun h46 => ?_) (fun h46 => ?_)
      · obtain ⟨hi0, hi1, -, -⟩ := hok.at (show i < n by omega)
        have hit : (E i).c.toNat < m := by omega
        have hle := rcN_le E j i (E i).c.toNat
        have hget : (arr m (fun k => Value.int .i64 (rcN E j i k : Int)))[0 + (E i).c.toNat * 1]? = some (.int .i64 (rcN E j i (E i).c.toNat : Int)) := by
          rw [Nat.zero_add, Nat.mul_one]; exact arr_get hit
        refine W.region rfl ?_
        refine L.va (x_mvS rfl) ?_
        refine L.va (x_mvS rfl) ?_
        refine L.va (x_mvI rfl) ?_
        refine L.va (x_idx rfl rfl Try.underlying25 sz53 (hE.sl) (by omega)) ?_
        refine L.va (x_field rfl Try.underlying53 rfl sz3 (by decide)) ?_
        refine L.va (x_load rfl Try.underlying3 rfl (bl0 hb (hE.c (by omega)))) ?_
        refine L.va (x_indexI rfl rfl Try.underlying34 sz3 (by omega) (by omega)) ?_
        refine L.va (x_load rfl Try.underlying3 rfl (hR.cell hget)) ?_
        refine L.va (x_addI rfl rfl (by omega)) ?_
        refine L.va (x_indexI rfl rfl Try.underlying34 sz3 (by omega) (by omega)) ?_
        refine L.store rfl rfl sz3 rfl hR (by rw [arr_size]; omega) ?_
        have hM := hM.grown (grown_setCell w ⟨b, 0 + (E i).c.toNat * 1, none⟩ (.int .i64 ((rcN E j i (E i).c.toNat : Int) + 1))) hab hRb
        have hb := hb.setCell (p := ⟨b, 0 + (E i).c.toNat * 1, none⟩) hB0 (.int .i64 ((rcN E j i (E i).c.toNat : Int) + 1))
        have hR : Blk (w.setCell ⟨b, 0 + (E i).c.toNat * 1, none⟩ (.int .i64 ((rcN E j i (E i).c.toNat : Int) + 1))) b (arr m (fun k => .int .i64 (rcN E j (i + 1) k : Int))) 3 := by
          have := hR.set (o := 0 + (E i).c.toNat * 1) (.int .i64 ((rcN E j i (E i).c.toNat : Int) + 1))
          rw [arr_set] at this
          exact this.congrA (fun k _ => by rw [← rcN_hit hi0 (by simpa using h46), show 0 + (E i).c.toNat * 1 = (E i).c.toNat by omega]; split <;> rfl)
        refine L.nil ?_
        refine B.nrm ?_
        show W _ _ _ _ _ _
        refine W.region rfl ?_
        refine L.va (x_mvI rfl) ?_
        refine L.va (x_inc rfl rfl (by omega)) ?_
        refine L.va (x_asI rfl) ?_
        refine L.nil ?_
        refine T.nrm ?_
        exact ⟨_, by omega, ⟨i + 1, rfl, rfl, rfl, rfl, rfl, rfl, rfl, rfl, hb, by omega, hM, hR⟩⟩
      · refine W.skip ?_
        refine B.nrm ?_
        show W _ _ _ _ _ _
        refine W.region rfl ?_
        refine L.va (x_mvI rfl) ?_
        refine L.va (x_inc rfl rfl (by omega)) ?_
        refine L.va (x_asI rfl) ?_
        refine L.nil ?_
        refine T.nrm ?_
        exact ⟨_, by omega, ⟨i + 1, rfl, rfl, rfl, rfl, rfl, rfl, rfl, rfl, hb, by omega, hM, hR.congrA (fun k _ => by rw [rcN_miss (by simpa using h46)])⟩⟩
    · refine W.exit ?_
      repeat (first | refine T.exit ?_ | refine B.exitNe (by decide) ?_)
      refine B.exitEq ?_
      show W _ _ _ _ _ _
      refine W.region rfl ?_
      refine L.va (x_mvS rfl) ?_
      refine L.va (x_mvS rfl) ?_
      refine L.build1 rfl rfl Try.underlying27 sz34 rfl ⟨_, zr34⟩ (by decide) (fun w b53 F53 => ?_)
      have hM := hM.keep F53.below
      have hR := hR.keep F53.below
      have hb := cl_step hb F53.below
      refine L.append (B := w1.heap.size) rfl rfl Try.underlying27 in34 rfl (by decide) hM.own (news := [.slice (some ⟨b, 0, none⟩) m m]) rfl (fun q u hq => ?_) (fun u hu => by simp at hu; subst hu; rfl) (by omega) (by omega) hb.size (fun oa2 oc2 w2 ho hg hbel _ => ?_)
      · rw [Addr.add_lit]
        match q, hq with
        | 0, hq => cases hq; exact F53.blk.cell rfl
      have hM2 := hM.snoc (by decide) hB0 hR hg ho (arr_congr (fun k _ => by rw [← rcN_end, show i = j by omega]))
      have hb := hb.trans hbel
      refine L.va (x_asS rfl) ?_
      refine L.nil ?_
      refine B.nrm ?_
      show W _ _ _ _ _ _
      refine W.region rfl ?_
      refine L.va (x_mvI rfl) ?_
      refine L.va (x_inc rfl rfl (by omega)) ?_
      refine L.va (x_asI rfl) ?_
      refine L.nil ?_
      refine T.nrm ?_
      exact ⟨_, by omega, ⟨j + 1, oa2, oc2, _, _, rfl, rfl, rfl, rfl, rfl, rfl, hb, by omega, hM2⟩⟩
  · refine W.exit ?_
    repeat (first | refine T.exit ?_ | refine B.exitNe (by decide) ?_)
    refine B.exitEq ?_
    show W _ _ _ _ _ _
    refine W.seq ?_
    refine W.region rfl ?_
    refine L.va (x_mvS rfl) ?_
    refine L.va (x_asS rfl) ?_
    refine L.va (x_asI rfl) ?_
    refine L.nil ?_
    show W _ _ _ _ _ _
    refine W.ret ?_
    repeat (first | refine T.ret ?_ | refine B.ret ?_)
    refine ends.two (.inr rfl) rfl ?_
    have hjn : j = n := by omega
    subst hjn
    exact ⟨oa, oc, rfl, hM.rows (fun i k _ hk => arr_get hk), cl_step hbA hb⟩

theorem rraces_no (a : Option Addr) (n c : Nat) (E : Nat → Ev) (cl : Int) (w0 : World) (hE : EvAt w0 a n E) (hn : n ≤ 9223372036854775807) (hc : check E n cl ≠ 0) :
    C Try.prog 23 #[.slice a n c, .int .i64 cl] w0 fun v w' => v = .tuple #[.slice none 0 0, .int .i64 (check E n cl)] ∧ Below w0.heap.size w0 w' := by
  refine C.enter (n := 42) Try.func23 rfl rfl ?_
  refine W.seq ?_
  refine W.region rfl ?_
  refine L.va (x_asS rfl) ?_
  refine L.va (x_asI rfl) ?_
  refine L.nil ?_
  show W _ _ _ _ _ _
  refine W.seq ?_
  refine W.region rfl ?_
  refine L.va (x_mvS rfl) ?_
  refine L.va (x_mvI rfl) ?_
  refine L.call (x_call2 rfl rfl Try.func20 rfl nm20 rfl) (check_c a n c E cl w0 hE hn) ?_
  rintro _ w ⟨rfl, rfl⟩
  refine L.va (x_asI rfl) ?_
  refine L.nil ?_
  show W _ _ _ _ _ _
  refine W.seq ?_
  refine W.seq ?_
  refine W.region rfl ?_
  refine L.va (x_mvI rfl) ?_
  refine L.va (x_neq rfl rfl) ?_
  refine L.nil ?_
  show W _ _ _ _ _ _
  refine W.condT (rb (decide_eq_true hc)) ?_
  refine W.seq ?_
  refine W.region rfl ?_
  refine L.va (x_mvI rfl) ?_
  refine L.va (x_asS rfl) ?_
  refine L.va (x_asI rfl) ?_
  refine L.nil ?_
  show W _ _ _ _ _ _
  refine W.ret ?_
  repeat (first | refine T.ret ?_ | refine B.ret ?_)
  refine ends.two (.inr rfl) rfl ?_
  exact ⟨rfl, Below.refl _ _⟩

set_option maxHeartbeats 400000 in
theorem rraces_ok (a : Option Addr) (n c : Nat) (E : Nat → Ev) (cl : Int) (w0 : World) (hE : EvAt w0 a n E) (hc : check E n cl = 0) :
    C Try.prog 23 #[.slice a n c, .int .i64 cl] w0 fun v w' => ∃ oa oc, v = .tuple #[.slice oa (racesL E n).length oc, .int .i64 0] ∧ PairsAt w' oa (racesL E n) ∧ Below w0.heap.size w0 w' := by
  refine C.enter (n := 42) Try.func23 rfl rfl ?_
  obtain ⟨-, -, hn, hok⟩ := check_zero hc
  refine W.seq ?_
  refine W.region rfl ?_
  refine L.va (x_asS rfl) ?_
  refine L.va (x_asI rfl) ?_
  refine L.nil ?_
  show W _ _ _ _ _ _
  refine W.seq ?_
  refine W.region rfl ?_
  refine L.va (x_mvS rfl) ?_
  refine L.va (x_mvI rfl) ?_
  refine L.call (x_call2 rfl rfl Try.func20 rfl nm20 rfl) (check_c a n c E cl w0 hE (by omega)) ?_
  rintro _ w ⟨rfl, rfl⟩
  refine L.va (x_asI rfl) ?_
  refine L.nil ?_
  show W _ _ _ _ _ _
  refine W.seq ?_
  refine W.seq ?_
  refine W.region rfl ?_
  refine L.va (x_mvI rfl) ?_
  refine L.va (x_neq rfl rfl) ?_
  refine L.nil ?_
  show W _ _ _ _ _ _
  refine W.condF (rb (decide_eq_false (by rw [hc]; simp))) ?_
  refine W.skip ?_
  show W _ _ _ _ _ _
  refine W.seq ?_
  refine W.region rfl ?_
  refine L.va (x_mvS rfl) ?_
  refine L.call (x_call1 rfl Try.func21 rfl nm21 rfl) (ahead_c a n c E w hE hn) ?_
  rintro _ w1 ⟨xa, xc, rfl, hA, hbA⟩
  have hE := hE.below hbA
  have hb := Below.refl w1.heap.size w1
  refine L.va (x_asS rfl) ?_
  refine L.nil ?_
  show W _ _ _ _ _ _
  refine W.seq ?_
  refine W.region rfl ?_
  refine L.va (x_asS rfl) ?_
  refine L.nil ?_
  show W _ _ _ _ _ _
  refine W.seq ?_
  refine W.seq ?_
  refine W.region rfl ?_
  refine L.va (x_asI rfl) ?_
  refine L.nil ?_
  show W _ _ _ _ _ _
  refine W.block ?_
  refine W.loop (fun k e w => ∃ j : Nat, ∃ oa : Option Addr, ∃ oc : Nat, k = n - j ∧ e 0 = .slice a n c ∧ e 7 = .slice xa n xc ∧ e 8 = .slice oa (racesL E j).length oc ∧ e 9 = .int .i64 (j : Int) ∧ Below w1.heap.size w1 w ∧ j ≤ n ∧ Own w w1.heap.size 56 2 oa (racesL E j).length oc (prC (racesL E j))) _ ⟨0, none, 0, rfl, rfl, rfl, rfl, rfl, hb, Nat.zero_le _, Own.nil _ _ _ _⟩ ?_
  rintro k e w ⟨j, oa, oc, rfl, s0, s7, s8, s9, hb, hjn, hO⟩
  rw [upd_id s0, upd_id s7, upd_id s8, upd_id s9]
  clear s0 s7 s8 s9
  refine W.seq ?_
  refine W.seq ?_
  refine W.region rfl ?_
  refine L.va (x_mvI rfl) ?_
  refine L.va (x_mvS rfl) ?_
  refine L.va (x_len rfl Try.underlying25 rfl) ?_
  refine L.va (x_lss rfl rfl) ?_
  refine L.nil ?_
  show W _ _ _ _ _ _
  refine W.condP rfl (fun h22 => ?_) (fun h22 => ?_)
  · refine W.skip ?_
    show W _ _ _ _ _ _
    refine W.seq ?_
    refine W.block ?_
    refine W.seq ?_
    refine W.region rfl ?_
    refine L.va (x_asI rfl) ?_
    refine L.nil ?_
    show W _ _ _ _ _ _
    refine W.block ?_
    refine W.loop (fun k e w => ∃ i : Nat, k = j - i ∧ e 0 = .slice a n c ∧ e 7 = .slice xa n xc ∧ e 8 = .slice oa (racesL E j).length oc ∧ e 9 = .int .i64 (j : Int) ∧ e 10 = .int .i64 (i : Int) ∧ Below w1.heap.size w1 w ∧ i ≤ j ∧ Own w w1.heap.size 56 2 oa (racesL E j).length oc (prC (racesL E j)) ∧ ∀ x, x < i → raceB E x j = false) _ ⟨0, rfl, rfl, rfl, rfl, rfl, rfl, hb, Nat.zero_le _, hO, fun x hx => by omega⟩ ?_
    rintro k e w ⟨i, rfl, s0, s7, s8, s9, s10, hb, hij, hO, hno⟩
    rw [upd_id s0, upd_id s7, upd_id s8, upd_id s9, upd_id s10]
    clear s0 s7 s8 s9 s10
    refine W.seq ?_
    refine W.seq ?_
    refine W.region rfl ?_
    refine L.va (x_mvI rfl) ?_
    refine L.va (x_mvI rfl) ?_
    refine L.va (x_lss rfl rfl) ?_
    refine L.nil ?_
    show W _ _ _ _ _ _
    refine W.condP rfl (fun h27 => ?_) (fun h27 => ?_)
    · refine W.skip ?_
      show W _ _ _ _ _ _
      refine W.seq ?_
      refine W.block ?_
      refine W.seq ?_
      refine W.region rfl ?_
      refine L.va (x_mvS rfl) ?_
      refine L.va (x_mvS rfl) ?_
      refine L.va (x_mvI rfl) ?_
      refine L.va (x_mvI rfl) ?_
      refine L.call (x_call4 rfl rfl rfl rfl Try.func32 rfl nm32 rfl) (race_c a n c E xa xc i j w (hE.below hb) (hA.keep hb) (by omega) (by omega)) ?_
      rintro _ w ⟨rfl, hbw⟩
      have hO := hO.keep hbw
      have hb := cl_step hb hbw
      refine L.nil ?_
      show W _ _ _ _ _ _
      refine W.cond rfl (fun h34 => ?_) (fun h34 => ?_)
      · refine W.seq ?_
        refine W.region rfl ?_
        refine L.va (x_mvS rfl) ?_
        refine L.va (x_mvI rfl) ?_
        refine L.va (x_mvI rfl) ?_
        refine L.va (x_build (parts := [(0, .tmp 36), (1, .tmp 37)]) rfl (bu56 _ _)) ?_
        refine L.build1 rfl rfl Try.underlying41 sz56 rfl ⟨_, zr56⟩ (by decide) (fun w b53 F53 => ?_)
        have hO := hO.keep F53.below
        have hb := cl_step hb F53.below
        have hlen := racesL_len E j
        refine L.append (B := w1.heap.size) rfl rfl Try.underlying41 in56 rfl (by decide) hO (news := [.int .i64 (i : Int), .int .i64 (j : Int)]) rfl (fun q u hq => ?_) (fun u hu => by simp at hu; rcases hu with rfl | rfl <;> rfl) (by omega) (by omega) hb.size (fun oa2 oc2 w2 hO2 hg hbel _ => ?_)
        · rw [Addr.add_lit]
          match q, hq with
          | 0, hq => cases hq; exact F53.blk.cell rfl
          | 1, hq => cases hq; exact F53.blk.cell rfl
        have hb := hb.trans hbel
        refine L.va (x_asS rfl) ?_
        refine L.nil ?_
        show W _ _ _ _ _ _
        refine W.exit ?_
        repeat (first | refine T.exit ?_ | refine B.exitNe (by decide) ?_)
        refine B.exitEq ?_
        refine B.nrm ?_
        show W _ _ _ _ _ _
        refine W.region rfl ?_
        refine L.va (x_mvI rfl) ?_
        refine L.va (x_inc rfl rfl (by omega)) ?_
        refine L.va (x_asI rfl) ?_
        refine L.nil ?_
        refine T.nrm ?_
        have hL : racesL E (j + 1) = racesL E j ++ [(i, j)] := by simp only [racesL, firstOf_some hno h34 (show i < j by omega), optL]
        rw [show (racesL E j).length + 1 = (racesL E (j + 1)).length by rw [hL]; simp]
        rw [show (racesL E j).length + 1 = (racesL E (j + 1)).length by rw [hL]; simp, ← prC_snoc, ← hL] at hO2
        exact ⟨_, by omega, ⟨j + 1, oa2, oc2, rfl, rfl, rfl, rfl, rfl, hb, by omega, hO2⟩⟩
      · refine W.skip ?_
        refine B.nrm ?_
        show W _ _ _ _ _ _
        refine W.region rfl ?_
        refine L.va (x_mvI rfl) ?_
        refine L.va (x_inc rfl rfl (by omega)) ?_
        refine L.va (x_asI rfl) ?_
        refine L.nil ?_
        refine T.nrm ?_
        exact ⟨_, by omega, ⟨i + 1, rfl, rfl, rfl, rfl, rfl, rfl, hb, by omega, hO, fun x hx => by by_cases hxi : x = i; (subst hxi; exact h34); exact hno x (by omega)⟩⟩
    · refine W.exit ?_
      repeat (first | refine T.exit ?_ | refine B.exitNe (by decide) ?_)
      refine B.exitEq ?_
      refine B.nrm ?_
      show W _ _ _ _ _ _
      refine W.region rfl ?_
      refine L.va (x_mvI rfl) ?_
      refine L.va (x_inc rfl rfl (by omega)) ?_
      refine L.va (x_asI rfl) ?_
      refine L.nil ?_
      refine T.nrm ?_
      obtain rfl : i = j := by omega
      have hL : racesL E (i + 1) = racesL E i := by simp only [racesL, firstOf_none hno, optL, List.append_nil]
      rw [show (racesL E i).length = (racesL E (i + 1)).length by rw [hL]]
      exact ⟨_, by omega, ⟨i + 1, oa, oc, rfl, rfl, rfl, rfl, rfl, hb, by omega, by rw [hL]; exact hO⟩⟩
  · refine W.exit ?_
    repeat (first | refine T.exit ?_ | refine B.exitNe (by decide) ?_)
    refine B.exitEq ?_
    show W _ _ _ _ _ _
    refine W.seq ?_
    refine W.region rfl ?_
    refine L.va (x_mvS rfl) ?_
    refine L.va (x_asS rfl) ?_
    refine L.va (x_asI rfl) ?_
    refine L.nil ?_
    show W _ _ _ _ _ _
    refine W.ret ?_
    repeat (first | refine T.ret ?_ | refine B.ret ?_)
    refine ends.two (.inr rfl) rfl ?_
    have hjn : j = n := by omega
    subst hjn
    exact ⟨oa, oc, rfl, PairsAt.of_own hO, cl_step hbA hb⟩

end Go.Proofs.Ytlopdjbehhdmpaa
