/- Contracts: what a read sees; copies, and what is held against them. -/
import Derived.Test.YtlopdjbehhdmpaaC4
namespace Go.Proofs.Ytlopdjbehhdmpaa
open Go.Vc Go.RowKit
theorem ne53 (a b c d : Int) (w : World) : (binOp .neq 53 (.agg #[.int .i64 a, .int .i64 b, .int .i64 c, .int .i64 d]) (.agg #[.int .i64 a, .int .i64 b, .int .i64 c, .int .i64 d])).run Try.prog w = .ok (.bool false) w := by
  simp [go_sem, Try.underlying53, Try.underlying51, Try.underlying3, Try.stoodInHeld53, Try.stoodInHeld51]
theorem ne56 (a b : Int) (w : World) : (binOp .neq 56 (.agg #[.int .i64 a, .int .i64 b]) (.agg #[.int .i64 a, .int .i64 b])).run Try.prog w = .ok (.bool false) w := by
  simp [go_sem, Try.underlying56, Try.underlying3, Try.stoodInHeld56]
section
variable {ρ : Operand → Value} {w : World} {d : Option Nat} {ty T' : TypeId} {ps : String} {af : Array Edge} {g : Option (Nat × Bool)} {x y : Operand}
theorem x_ne53 {e : Ev} (hx : ρ x = .agg [Value.int .i64 e.c, .int .i64 e.k, .int .i64 e.o, .int .i64 e.n].toArray) (hy : ρ y = .agg [Value.int .i64 e.c, .int .i64 e.k, .int .i64 e.o, .int .i64 e.n].toArray) : (execOp ρ ⟨d, .binOp .neq 53 x y T', ty, ps, af, g⟩).run Try.prog w = .ok (.value (.bool false)) w := by
  have h2 := ne53 e.c e.k e.o e.n w
  have h1 : (eqGuard .neq 53 x y (.agg #[.int .i64 e.c, .int .i64 e.k, .int .i64 e.o, .int .i64 e.n]) (.agg #[.int .i64 e.c, .int .i64 e.k, .int .i64 e.o, .int .i64 e.n])).run Try.prog w = .ok () w := run_eqGuard_agg w _ _ _ _ _ _ Try.eqGuardType53
  simp only [execOp, hx, hy, Sem.run_bind, h1, h2, Result.andThen_ok, Sem.run_pure]
theorem x_ne56 {i j : Nat} (hx : ρ x = .agg [Value.int .i64 (i : Int), .int .i64 (j : Int)].toArray) (hy : ρ y = .agg [Value.int .i64 (i : Int), .int .i64 (j : Int)].toArray) : (execOp ρ ⟨d, .binOp .neq 56 x y T', ty, ps, af, g⟩).run Try.prog w = .ok (.value (.bool false)) w := by
  have h2 := ne56 i j w
  have h1 : (eqGuard .neq 56 x y (.agg #[.int .i64 (i : Int), .int .i64 (j : Int)]) (.agg #[.int .i64 (i : Int), .int .i64 (j : Int)])).run Try.prog w = .ok () w := run_eqGuard_agg w _ _ _ _ _ _ Try.eqGuardType56
  simp only [execOp, hx, hy, Sem.run_bind, h1, h2, Result.andThen_ok, Sem.run_pure]
end
/-- The document's answer of Sees. -/
def seesR (E : Nat → Ev) (n : Nat) (cl j : Int) : Int × Bool :=
  if ((check E n cl ≠ 0 ∨ j < 0) ∨ (n : Int) ≤ j) ∨ (E j.toNat).k ≠ 8 then (0, false)
  else match seesAt E j.toNat j.toNat with
    | some i => ((i : Int), true)
    | none => (0, false)
theorem PairsAt.two {w : World} {a : Option Addr} {L : List (Nat × Nat)} (h : PairsAt w a L) {t : Nat} {p : Nat × Nat} (ht : L[t]? = some p) : ∀ (j : Nat) (v : Value), [Value.int .i64 (p.1 : Int), .int .i64 (p.2 : Int)][j]? = some v → w.cell? ⟨ab a, ao a + t * 2 + j, none⟩ = some v := by
  intro j v hj
  match j, hj with
  | 0, hj => cases hj; exact (h.at' ht).1
  | 1, hj => cases hj; exact (h.at' ht).2

theorem rsees_c (a : Option Addr) (n c : Nat) (E : Nat → Ev) (cl j : Int) (w0 : World) (hE : EvAt w0 a n E) (hn : n ≤ 9223372036854775807) (hj64 : -9223372036854775808 ≤ j ∧ j ≤ 9223372036854775807) :
    C Try.prog 26 #[.slice a n c, .int .i64 cl, .int .i64 j] w0 fun v w' => v = .tuple #[.int .i64 (seesR E n cl j).1, .bool (seesR E n cl j).2] ∧ Below w0.heap.size w0 w' := by
  refine C.enter (n := 59) Try.func26 rfl rfl ?_
  have hb := Below.refl w0.heap.size w0
  refine W.seq ?_
  refine W.region rfl ?_
  refine L.va (x_asI rfl) ?_
  refine L.va (x_asB rfl) ?_
  refine L.nil ?_
  show W _ _ _ _ _ _
  refine W.seq ?_
  refine W.seq ?_
  refine W.region rfl ?_
  refine L.va (x_mvS rfl) ?_
  refine L.va (x_mvI rfl) ?_
  refine L.call (x_call2 rfl rfl Try.func20 rfl nm20 rfl) (check_c a n c E cl w0 hE hn) ?_
  rintro _ w ⟨rfl, hw⟩
  rw [hw]
  clear hw w
  refine L.va (x_neq rfl rfl) ?_
  refine L.va (x_mvB rfl) ?_
  refine L.meetB 3 [13,14,15,16] 16 (.bool (decide (check E n cl ≠ 0 ∨ j < 0))) (tj := 13) rfl (fun hb13 => ?_) (fun hb13 => ?_) (fun f => ?_)
  · refine L.off rfl ?_
    refine L.off rfl ?_
    refine L.va (x_pickT rfl) ?_
    refine L.nil ?_
    refine ⟨rfl, congrArg Value.bool (by first | exact or_t hb13 | (simp_all; done) | (rw [Bool.eq_iff_iff]; simp_all; omega)), ?_⟩
    exact Agree.upd rfl (Agree.upd rfl (Agree.upd rfl (Agree.upd rfl (Agree.refl _ _))))
  · refine L.on rfl ?_
    refine L.va (x_mvI rfl) ?_
    refine L.on rfl ?_
    refine L.va (x_lss rfl rfl) ?_
    refine L.va (x_pickF rfl) ?_
    refine L.nil ?_
    refine ⟨rfl, congrArg Value.bool (by first | exact or_f hb13 | (simp_all; done) | (rw [Bool.eq_iff_iff]; simp_all; omega)), ?_⟩
    exact Agree.upd rfl (Agree.upd rfl (Agree.upd rfl (Agree.upd rfl (Agree.refl _ _))))
  refine L.va (x_mvB rfl) ?_
  refine L.meetB 5 [17,18,19,20,21,22] 22 (.bool (decide ((check E n cl ≠ 0 ∨ j < 0) ∨ (n : Int) ≤ j))) (tj := 17) rfl (fun hb17 => ?_) (fun hb17 => ?_) (fun f => ?_)
  · refine L.off rfl ?_
    refine L.off rfl ?_
    refine L.off rfl ?_
    refine L.off rfl ?_
    refine L.va (x_pickT rfl) ?_
    refine L.nil ?_
    refine ⟨rfl, congrArg Value.bool (by first | exact or_t hb17 | (simp_all; done) | (rw [Bool.eq_iff_iff]; simp_all; omega)), ?_⟩
    exact Agree.upd rfl (Agree.upd rfl (Agree.upd rfl (Agree.upd rfl (Agree.upd rfl (Agree.upd rfl (Agree.refl _ _))))))
  · refine L.on rfl ?_
    refine L.va (x_mvI rfl) ?_
    refine L.on rfl ?_
    refine L.va (x_mvS rfl) ?_
    refine L.on rfl ?_
    refine L.va (x_len rfl Try.underlying25 rfl) ?_
    refine L.on rfl ?_
    refine L.va (x_geq rfl rfl) ?_
    refine L.va (x_pickF rfl) ?_
    refine L.nil ?_
    refine ⟨rfl, congrArg Value.bool (by first | exact or_f hb17 | (simp_all; done) | (rw [Bool.eq_iff_iff]; simp_all; omega)), ?_⟩
    exact Agree.upd rfl (Agree.upd rfl (Agree.upd rfl (Agree.upd rfl (Agree.upd rfl (Agree.upd rfl (Agree.refl _ _))))))
  refine L.va (x_mvB rfl) ?_
  refine L.meetB 8 [23,24,25,26,27,28,29,30,31] 31 (.bool (decide (((check E n cl ≠ 0 ∨ j < 0) ∨ (n : Int) ≤ j) ∨ (E j.toNat).k ≠ 8))) (tj := 23) rfl (fun hb23 => ?_) (fun hb23 => ?_) (fun f => ?_)
  · refine L.off rfl ?_
    refine L.off rfl ?_
    refine L.off rfl ?_
    refine L.off rfl ?_
    refine L.off rfl ?_
    refine L.off rfl ?_
    refine L.off rfl ?_
    refine L.va (x_pickT rfl) ?_
    refine L.nil ?_
    refine ⟨rfl, congrArg Value.bool (by first | exact or_t hb23 | (simp_all; done) | (rw [Bool.eq_iff_iff]; simp_all; omega)), ?_⟩
    exact Agree.upd rfl (Agree.upd rfl (Agree.upd rfl (Agree.upd rfl (Agree.upd rfl (Agree.upd rfl (Agree.upd rfl (Agree.upd rfl (Agree.upd rfl (Agree.refl _ _)))))))))
  · have hh := of_decide_eq_false hb23
    have hj0 : 0 ≤ j := by omega
    have hj1 : j < n := by omega
    refine L.on rfl ?_
    refine L.va (x_mvS rfl) ?_
    refine L.on rfl ?_
    refine L.va (x_mvI rfl) ?_
    refine L.on rfl ?_
    refine L.va (x_idxI rfl rfl Try.underlying25 sz53 (hE.sl) (by omega) (by omega)) ?_
    refine L.on rfl ?_
    refine L.va (x_field rfl Try.underlying53 rfl sz51 (by decide)) ?_
    refine L.on rfl ?_
    refine L.va (x_field rfl Try.underlying51 rfl sz3 (by decide)) ?_
    refine L.on rfl ?_
    refine L.va (x_load rfl Try.underlying3 rfl (bl0 hb (hE.k (by omega)))) ?_
    refine L.on rfl ?_
    refine L.va (x_neq rfl rfl) ?_
    refine L.va (x_pickF rfl) ?_
    refine L.nil ?_
    refine ⟨rfl, congrArg Value.bool (by first | exact or_f hb23 | (simp_all; done) | (rw [Bool.eq_iff_iff]; simp_all; omega)), ?_⟩
    exact Agree.upd rfl (Agree.upd rfl (Agree.upd rfl (Agree.upd rfl (Agree.upd rfl (Agree.upd rfl (Agree.upd rfl (Agree.upd rfl (Agree.upd rfl (Agree.refl _ _)))))))))
  refine L.nil ?_
  show W _ _ _ _ _ _
  refine W.condP rfl (fun h31 => ?_) (fun h31 => ?_)
  · refine W.seq ?_
    refine W.region rfl ?_
    refine L.va (x_asI rfl) ?_
    refine L.va (x_asB rfl) ?_
    refine L.nil ?_
    show W _ _ _ _ _ _
    refine W.ret ?_
    repeat (first | refine T.ret ?_ | refine B.ret ?_)
    refine ends.two (.inr rfl) rfl ?_
    exact ⟨by simp only [seesR, h31, if_true]; rfl, hb⟩
  · refine W.skip ?_
    show W _ _ _ _ _ _
    refine W.seq ?_
    refine W.seq ?_
    refine W.region rfl ?_
    refine L.va (x_mvI rfl) ?_
    refine L.va (x_subI rfl rfl (by omega)) ?_
    rw [show (j : Int) - 1 = ((j.toNat : Nat) : Int) - 1 by omega]
    refine L.va (x_asI rfl) ?_
    refine L.nil ?_
    show W _ _ _ _ _ _
    refine W.block ?_
    have hj0 : 0 ≤ j := by omega
    have hj1 : j < n := by omega
    refine W.loop (fun k e w => ∃ q : Nat, k = q ∧ e 0 = .slice a n c ∧ e 2 = .int .i64 j ∧ e 8 = .int .i64 ((q : Int) - 1) ∧ Below w0.heap.size w0 w ∧ q ≤ j.toNat ∧ seesAt E j.toNat j.toNat = seesAt E j.toNat q) _ ⟨j.toNat, rfl, rfl, rfl, rfl, hb, Nat.le_refl _, rfl⟩ ?_
    rintro k e w ⟨q, hk, s0, s2, s8, hb, hq, hs⟩
    rw [upd_id s0, upd_id s2, upd_id s8]
    clear s0 s2 s8
    refine W.seq ?_
    refine W.seq ?_
    refine W.region rfl ?_
    refine L.va (x_mvI rfl) ?_
    refine L.va (x_geq rfl rfl) ?_
    refine L.nil ?_
    show W _ _ _ _ _ _
    refine W.condP rfl (fun h35 => ?_) (fun h35 => ?_)
    · refine W.skip ?_
      show W _ _ _ _ _ _
      refine W.seq ?_
      refine W.block ?_
      refine W.seq ?_
      obtain ⟨p, rfl⟩ : ∃ p, q = p + 1 := ⟨q - 1, by omega⟩
      rw [show (((p + 1 : Nat) : Int) - 1) = ((p : Nat) : Int) by omega]
      refine W.quiet (fun w' => Below w0.heap.size w0 w') (by kernel_rfl) (by kernel_rfl) (hb.drew) ?_
      refine D.va (fun w' hw' => (x_mvS rfl)) ?_
      refine D.va (fun w' hw' => (x_mvI rfl)) ?_
      refine D.va (fun w' hw' => (x_idx rfl rfl Try.underlying25 sz53 (hE.sl) (by omega))) ?_
      refine D.va (fun w' hw' => (x_field rfl Try.underlying53 rfl sz51 (by decide))) ?_
      refine D.va (fun w' hw' => (x_field rfl Try.underlying51 rfl sz3 (by decide))) ?_
      refine D.va (fun w' hw' => (x_load rfl Try.underlying3 rfl (bl0 hw' (hE.k (by omega))))) ?_
      refine D.va (fun w' hw' => (x_eql rfl rfl)) ?_
      refine D.va (fun w' hw' => (x_mvB rfl)) ?_
      refine D.meetB 12 [45,46,47,48,49,50,51,52,53,54,55,56,57] 57 (.bool (decide ((E p).k = 9 ∧ ((E p).o = (E j.toNat).o ∧ (E p).n = (E j.toNat).n)))) (tj := 45) rfl (fun hb45 => ?_) (fun hb45 => ?_) (fun f => ?_)
      · refine D.on rfl ?_
        refine D.va (fun w' hw' => (x_mvS rfl)) ?_
        refine D.on rfl ?_
        refine D.va (fun w' hw' => (x_mvI rfl)) ?_
        refine D.on rfl ?_
        refine D.va (fun w' hw' => (x_idx rfl rfl Try.underlying25 sz53 (hE.sl) (by omega))) ?_
        refine D.on rfl ?_
        refine D.va (fun w' hw' => (x_field rfl Try.underlying53 rfl sz51 (by decide))) ?_
        refine D.on rfl ?_
        refine D.va (fun w' hw' => (x_loadAgg rfl Try.underlying51 rfl sz51 rfl (bagg hw' (hE.step (by omega))))) ?_
        refine D.on rfl ?_
        refine D.va (fun w' hw' => (x_mvS rfl)) ?_
        refine D.on rfl ?_
        refine D.va (fun w' hw' => (x_mvI rfl)) ?_
        refine D.on rfl ?_
        refine D.va (fun w' hw' => (x_idxI rfl rfl Try.underlying25 sz53 (hE.sl) (by omega) (by omega))) ?_
        refine D.on rfl ?_
        refine D.va (fun w' hw' => (x_field rfl Try.underlying53 rfl sz51 (by decide))) ?_
        refine D.on rfl ?_
        refine D.va (fun w' hw' => (x_loadAgg rfl Try.underlying51 rfl sz51 rfl (bagg hw' (hE.step (by omega))))) ?_
        refine D.on rfl ?_
        refine D.call (fun w' hw' => (x_call2 rfl rfl Try.func33 rfl nm33 rfl)) (fun w' hw' => (one_c _ _ _ _ _ _ w').mono (fun v w'' h => ⟨h.1, cl_step hw' h.2⟩)) ?_
        refine D.va (fun w' hw' => (x_pickT rfl)) ?_
        refine D.nil ?_
        refine ⟨congrArg Value.bool (by first | exact and_t hb45 | (simp_all; done) | (rw [Bool.eq_iff_iff]; simp_all; omega)), ?_⟩
        exact Agree.upd rfl (Agree.upd rfl (Agree.upd rfl (Agree.upd rfl (Agree.upd rfl (Agree.upd rfl (Agree.upd rfl (Agree.upd rfl (Agree.upd rfl (Agree.upd rfl (Agree.upd rfl (Agree.upd rfl (Agree.upd rfl (Agree.refl _ _)))))))))))))
      · refine D.off rfl ?_
        refine D.off rfl ?_
        refine D.off rfl ?_
        refine D.off rfl ?_
        refine D.off rfl ?_
        refine D.off rfl ?_
        refine D.off rfl ?_
        refine D.off rfl ?_
        refine D.off rfl ?_
        refine D.off rfl ?_
        refine D.off rfl ?_
        refine D.va (fun w' hw' => (x_pickF rfl)) ?_
        refine D.nil ?_
        refine ⟨congrArg Value.bool (by first | exact and_f hb45 | (simp_all; done) | (rw [Bool.eq_iff_iff]; simp_all; omega)), ?_⟩
        exact Agree.upd rfl (Agree.upd rfl (Agree.upd rfl (Agree.upd rfl (Agree.upd rfl (Agree.upd rfl (Agree.upd rfl (Agree.upd rfl (Agree.upd rfl (Agree.upd rfl (Agree.upd rfl (Agree.upd rfl (Agree.upd rfl (Agree.refl _ _)))))))))))))
      refine D.nil ?_
      intro w hb
      show W _ _ _ _ _ _
      refine W.condP rfl (fun h57 => ?_) (fun h57 => ?_)
      · refine W.seq ?_
        refine W.region rfl ?_
        refine L.va (x_mvI rfl) ?_
        refine L.va (x_asI rfl) ?_
        refine L.va (x_asB rfl) ?_
        refine L.nil ?_
        show W _ _ _ _ _ _
        refine W.ret ?_
        repeat (first | refine T.ret ?_ | refine B.ret ?_)
        refine ends.two (.inr rfl) rfl ?_
        exact ⟨by simp only [seesR, h31, if_false, hs, seesAt, if_pos h57]; rfl, hb⟩
      · refine W.skip ?_
        refine B.nrm ?_
        show W _ _ _ _ _ _
        refine W.region rfl ?_
        refine L.va (x_mvI rfl) ?_
        rw [show ((p : Nat) : Int) = ((p : Nat) : Int) from rfl]
        refine L.va (x_subI rfl rfl (by omega)) ?_
        refine L.va (x_asI rfl) ?_
        refine L.nil ?_
        refine T.nrm ?_
        have hse : seesAt E j.toNat (p + 1) = seesAt E j.toNat p := by simp only [seesAt, if_neg h57]
        exact ⟨_, by omega, ⟨p, rfl, rfl, rfl, rfl, hb, by omega, hs.trans hse⟩⟩
    · refine W.exit ?_
      repeat (first | refine T.exit ?_ | refine B.exitNe (by decide) ?_)
      refine B.exitEq ?_
      show W _ _ _ _ _ _
      refine W.seq ?_
      refine W.region rfl ?_
      refine L.va (x_asI rfl) ?_
      refine L.va (x_asB rfl) ?_
      refine L.nil ?_
      show W _ _ _ _ _ _
      refine W.ret ?_
      repeat (first | refine T.ret ?_ | refine B.ret ?_)
      refine ends.two (.inr rfl) rfl ?_
      obtain rfl : q = 0 := by omega
      exact ⟨by simp only [seesR, h31, if_false, hs, seesAt]; rfl, hb⟩

theorem own_c (a : Option Addr) (n c : Nat) (E : Nat → Ev) (w0 : World) (hE : EvAt w0 a n E) (hnil : a = none → n = 0 ∧ c = 0) (hn : n + 8 ≤ 4398046511104) :
    C Try.prog 14 #[.slice a n c] w0 fun v w' => ∃ fa fc, v = .slice fa n fc ∧ n + 8 ≤ fc ∧ EvAt w' fa (n + 8) (markE E n) ∧ Below w0.heap.size w0 w' := by
  refine C.enter (n := 22) Try.func14 rfl rfl ?_
  have hb := Below.refl w0.heap.size w0
  refine W.seq ?_
  refine W.region rfl ?_
  refine L.va (x_asS rfl) ?_
  refine L.nil ?_
  show W _ _ _ _ _ _
  refine W.seq ?_
  refine W.region rfl ?_
  refine L.build0 Try.underlying25 sz53 (fun w b5 F5 => ?_)
  have hb := cl_step hb F5.below
  have hO : Own w w0.heap.size 53 4 (some ⟨b5, 0, none⟩) 0 0 [] := ⟨rfl, .inr ⟨b5, 0, #[], rfl, by have := F5.here; omega, F5.blk, Nat.le_refl _, by simp [maxLen], rfl, rfl⟩⟩
  have hE := hE.below hb
  refine L.va (x_mvS rfl) ?_
  refine L.appendAny (B := w0.heap.size) rfl rfl Try.underlying25 in53 rfl (by decide) hO hnil (news := evC E n) (evC_len E n) (fun ad had => hE.news had) (evC_one E n) (by omega) (by omega) hb.size (fun fa fc w hO hg hbel _ => ?_)
  have hb := hb.trans hbel
  rw [Nat.zero_add] at hO ⊢
  rw [List.nil_append] at hO
  refine L.va (x_asS rfl) ?_
  refine L.nil ?_
  show W _ _ _ _ _ _
  refine W.seq ?_
  refine W.seq ?_
  refine W.region rfl ?_
  refine L.va (x_asI rfl) ?_
  refine L.nil ?_
  show W _ _ _ _ _ _
  refine W.block ?_
  refine W.loop (fun k e w => ∃ i : Nat, ∃ fa : Option Addr, ∃ fc : Nat, k = 8 - i ∧ e 0 = .slice a n c ∧ e 3 = .slice fa (n + i) fc ∧ e 4 = .int .i64 (i : Int) ∧ Below w0.heap.size w0 w ∧ i ≤ 8 ∧ Own w w0.heap.size 53 4 fa (n + i) fc (evC (markE E n) (n + i))) _ ⟨0, fa, fc, rfl, rfl, rfl, rfl, hb, Nat.zero_le _, by rw [Nat.add_zero, ← evC_congr (E := E) (fun i hi => (markE_lt hi).symm)]; exact hO⟩ ?_
  rintro k e w ⟨i, fa, fc, hk, s0, s3, s4, hb, hi, hO⟩
  rw [upd_id s0, upd_id s3, upd_id s4]
  clear s0 s3 s4
  refine W.seq ?_
  refine W.seq ?_
  refine W.region rfl ?_
  refine L.va (x_mvI rfl) ?_
  refine L.va (x_lss rfl rfl) ?_
  refine L.nil ?_
  show W _ _ _ _ _ _
  refine W.condP rfl (fun h9 => ?_) (fun h9 => ?_)
  · refine W.skip ?_
    show W _ _ _ _ _ _
    refine W.seq ?_
    refine W.block ?_
    refine W.region rfl ?_
    refine L.va (x_mvS rfl) ?_
    refine L.va (x_mvI rfl) ?_
    refine L.va (x_addI rfl rfl (by omega)) ?_
    refine L.va (x_build (parts := [(0, .tmp 14)]) rfl (bu53 _)) ?_
    refine L.build1 rfl rfl Try.underlying25 sz53 rfl ⟨_, zr53⟩ (by decide) (fun w b53 F53 => ?_)
    have hO := hO.keep F53.below
    have hb := cl_step hb F53.below
    have hbd : (n + i + 1) * 32 ≤ 140737488355328 := by omega
    have hbm : n + i + 1 ≤ 9223372036854775807 := by omega
    refine L.append (B := w0.heap.size) rfl rfl Try.underlying25 in53 rfl (by decide) hO (news := [.int .i64 (100 + (i : Int)), .int .i64 0, .int .i64 0, .int .i64 0]) rfl (fun q u hq => ?_) (fun u hu => by simp at hu; rcases hu with rfl | rfl <;> rfl) hbm hbd hb.size (fun fa2 fc2 w2 hO2 hg hbel _ => ?_)
    · rw [Addr.add_lit]
      match q, hq with
      | 0, hq => cases hq; exact F53.blk.cell rfl
      | 1, hq => cases hq; exact F53.blk.cell rfl
      | 2, hq => cases hq; exact F53.blk.cell rfl
      | 3, hq => cases hq; exact F53.blk.cell rfl
    have hb := hb.trans hbel
    have hev : evC (markE E n) (n + (i + 1)) = evC (markE E n) (n + i) ++ [.int .i64 (100 + (i : Int)), .int .i64 0, .int .i64 0, .int .i64 0] := by rw [← Nat.add_assoc, evC_succ, markE_at]
    rw [← hev] at hO2
    rw [show n + i + 1 = n + (i + 1) by omega] at hO2 ⊢
    refine L.va (x_asS rfl) ?_
    refine L.nil ?_
    refine B.nrm ?_
    show W _ _ _ _ _ _
    refine W.region rfl ?_
    refine L.va (x_mvI rfl) ?_
    refine L.va (x_inc rfl rfl (by omega)) ?_
    refine L.va (x_asI rfl) ?_
    refine L.nil ?_
    refine T.nrm ?_
    exact ⟨_, by omega, ⟨i + 1, fa2, fc2, rfl, rfl, rfl, rfl, hb, by omega, hO2⟩⟩
  · refine W.exit ?_
    repeat (first | refine T.exit ?_ | refine B.exitNe (by decide) ?_)
    refine B.exitEq ?_
    show W _ _ _ _ _ _
    refine W.seq ?_
    obtain rfl : i = 8 := by omega
    have hfc : n + 8 ≤ fc := (hO.row (hO.some_of (by omega))).choose_spec.2.2.1
    refine W.region rfl ?_
    refine L.va (x_mvS rfl) ?_
    refine L.va (x_mvS rfl) ?_
    refine L.va (x_len rfl Try.underlying25 rfl) ?_
    refine L.va (x_sliceTo rfl rfl Try.underlying25 sz53 (by omega)) ?_
    refine L.va (x_asS rfl) ?_
    refine L.nil ?_
    show W _ _ _ _ _ _
    refine W.ret ?_
    repeat (first | refine T.ret ?_ | refine B.ret ?_)
    refine ends.one (.inr rfl) rfl ?_
    exact ⟨fa, fc, rfl, hfc, EvAt.of_own hO, hb⟩

theorem kept_c (a : Option Addr) (n c : Nat) (E : Nat → Ev) (fa : Option Addr) (fc : Nat) (w0 : World) (hE : EvAt w0 a n E) (hF : EvAt w0 fa (n + 8) (markE E n)) (hfc : n + 8 ≤ fc) (hn : n ≤ 4611686018427387904) :
    C Try.prog 18 #[.slice fa n fc, .slice a n c] w0 fun v w' => v = .bool true ∧ Below w0.heap.size w0 w' := by
  refine C.enter (n := 43) Try.func18 rfl rfl ?_
  have hb := Below.refl w0.heap.size w0
  refine W.seq ?_
  refine W.region rfl ?_
  refine L.va (x_asB rfl) ?_
  refine L.nil ?_
  show W _ _ _ _ _ _
  refine W.seq ?_
  refine W.region rfl ?_
  refine L.va (x_mvS rfl) ?_
  refine L.va (x_mvS rfl) ?_
  refine L.va (x_len rfl Try.underlying25 rfl) ?_
  refine L.va (x_addI rfl rfl (by omega)) ?_
  rw [show ((n : Int) + 8) = ((n + 8 : Nat) : Int) by omega]
  refine L.va (x_sliceTo rfl rfl Try.underlying25 sz53 hfc) ?_
  refine L.va (x_asS rfl) ?_
  refine L.nil ?_
  show W _ _ _ _ _ _
  refine W.seq ?_
  refine W.seq ?_
  refine W.region rfl ?_
  refine L.va (x_asI rfl) ?_
  refine L.nil ?_
  show W _ _ _ _ _ _
  refine W.block ?_
  refine W.loop (fun k e w => ∃ i : Nat, k = n - i ∧ e 0 = .slice fa n fc ∧ e 1 = .slice a n c ∧ e 5 = .slice fa (n + 8) fc ∧ e 6 = .int .i64 (i : Int) ∧ Below w0.heap.size w0 w ∧ i ≤ n) _ ⟨0, rfl, rfl, rfl, rfl, rfl, hb, Nat.zero_le _⟩ ?_
  rintro k e w ⟨i, hk, s0, s1, s5, s6, hb, hi⟩
  rw [upd_id s0, upd_id s1, upd_id s5, upd_id s6]
  clear s0 s1 s5 s6
  refine W.seq ?_
  refine W.seq ?_
  refine W.region rfl ?_
  refine L.va (x_mvI rfl) ?_
  refine L.va (x_mvS rfl) ?_
  refine L.va (x_len rfl Try.underlying25 rfl) ?_
  refine L.va (x_lss rfl rfl) ?_
  refine L.nil ?_
  show W _ _ _ _ _ _
  refine W.condP rfl (fun h16 => ?_) (fun h16 => ?_)
  · refine W.skip ?_
    show W _ _ _ _ _ _
    refine W.seq ?_
    refine W.block ?_
    refine W.seq ?_
    refine W.quiet (fun w' => Below w0.heap.size w0 w') (by kernel_rfl) (by kernel_rfl) (hb.drew) ?_
    refine D.va (fun w' hw' => (x_mvS rfl)) ?_
    refine D.va (fun w' hw' => (x_mvI rfl)) ?_
    refine D.va (fun w' hw' => (x_idx rfl rfl Try.underlying25 sz53 (hF.sl) (by omega))) ?_
    refine D.va (fun w' hw' => (x_loadAgg rfl Try.underlying53 rfl sz53 rfl (bagg hw' (by have := hF.all (show i < n + 8 by omega); rw [markE_lt (show i < n by omega)] at this; exact this)))) ?_
    refine D.va (fun w' hw' => (x_mvS rfl)) ?_
    refine D.va (fun w' hw' => (x_mvI rfl)) ?_
    refine D.va (fun w' hw' => (x_idx rfl rfl Try.underlying25 sz53 (hE.sl) (by omega))) ?_
    refine D.va (fun w' hw' => (x_loadAgg rfl Try.underlying53 rfl sz53 rfl (bagg hw' (hE.all (by omega))))) ?_
    refine D.va (fun w' hw' => x_ne53 (e := E i) rfl rfl) ?_
    refine D.nil ?_
    intro w hb
    show W _ _ _ _ _ _
    refine W.condF rfl ?_
    refine W.skip ?_
    refine B.nrm ?_
    show W _ _ _ _ _ _
    refine W.region rfl ?_
    refine L.va (x_mvI rfl) ?_
    refine L.va (x_inc rfl rfl (by omega)) ?_
    refine L.va (x_asI rfl) ?_
    refine L.nil ?_
    refine T.nrm ?_
    exact ⟨_, by omega, ⟨i + 1, rfl, rfl, rfl, rfl, rfl, hb, by omega⟩⟩
  · refine W.exit ?_
    repeat (first | refine T.exit ?_ | refine B.exitNe (by decide) ?_)
    refine B.exitEq ?_
    show W _ _ _ _ _ _
    refine W.seq ?_
    refine W.seq ?_
    refine W.region rfl ?_
    refine L.va (x_asI rfl) ?_
    refine L.nil ?_
    show W _ _ _ _ _ _
    refine W.block ?_
    refine W.loop (fun k e w => ∃ i : Nat, k = 8 - i ∧ e 1 = .slice a n c ∧ e 5 = .slice fa (n + 8) fc ∧ e 7 = .int .i64 (i : Int) ∧ Below w0.heap.size w0 w ∧ i ≤ 8) _ ⟨0, rfl, rfl, rfl, rfl, hb, Nat.zero_le _⟩ ?_
    rintro k e w ⟨i, hk, s1, s5, s7, hb, hi⟩
    rw [upd_id s1, upd_id s5, upd_id s7]
    clear s1 s5 s7
    refine W.seq ?_
    refine W.seq ?_
    refine W.region rfl ?_
    refine L.va (x_mvI rfl) ?_
    refine L.va (x_lss rfl rfl) ?_
    refine L.nil ?_
    show W _ _ _ _ _ _
    refine W.condP rfl (fun h29 => ?_) (fun h29 => ?_)
    · refine W.skip ?_
      show W _ _ _ _ _ _
      refine W.seq ?_
      refine W.block ?_
      refine W.seq ?_
      refine W.region rfl ?_
      refine L.va (x_mvS rfl) ?_
      refine L.va (x_mvS rfl) ?_
      refine L.va (x_len rfl Try.underlying25 rfl) ?_
      refine L.va (x_mvI rfl) ?_
      refine L.va (x_addI rfl rfl (by omega)) ?_
      rw [show ((n : Int) + (i : Int)) = ((n + i : Nat) : Int) by omega]
      refine L.va (x_idx rfl rfl Try.underlying25 sz53 (hF.sl) (by omega)) ?_
      refine L.va (x_field rfl Try.underlying53 rfl sz3 (by decide)) ?_
      refine L.va (x_load rfl Try.underlying3 rfl (bl0 hb (by have := hF.c (show n + i < n + 8 by omega); rw [markE_at] at this; exact this))) ?_
      refine L.va (x_mvI rfl) ?_
      refine L.va (x_addI rfl rfl (by omega)) ?_
      refine L.va (x_neq rfl rfl) ?_
      refine L.nil ?_
      show W _ _ _ _ _ _
      refine W.condF (rb (decide_eq_false (by simp))) ?_
      refine W.skip ?_
      refine B.nrm ?_
      show W _ _ _ _ _ _
      refine W.region rfl ?_
      refine L.va (x_mvI rfl) ?_
      refine L.va (x_inc rfl rfl (by omega)) ?_
      refine L.va (x_asI rfl) ?_
      refine L.nil ?_
      refine T.nrm ?_
      exact ⟨_, by omega, ⟨i + 1, rfl, rfl, rfl, rfl, hb, by omega⟩⟩
    · refine W.exit ?_
      repeat (first | refine T.exit ?_ | refine B.exitNe (by decide) ?_)
      refine B.exitEq ?_
      show W _ _ _ _ _ _
      refine W.seq ?_
      refine W.region rfl ?_
      refine L.va (x_asB rfl) ?_
      refine L.nil ?_
      show W _ _ _ _ _ _
      refine W.ret ?_
      repeat (first | refine T.ret ?_ | refine B.ret ?_)
      refine ends.one (.inr rfl) rfl ?_
      exact ⟨rfl, hb⟩

end Go.Proofs.Ytlopdjbehhdmpaa
