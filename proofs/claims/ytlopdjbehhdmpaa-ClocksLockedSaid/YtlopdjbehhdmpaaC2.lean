/- Contracts: links, and what is ahead. -/
import Derived.Test.YtlopdjbehhdmpaaC1
namespace Go.Proofs.Ytlopdjbehhdmpaa
open Go.Vc Go.RowKit

theorem oneE_iff (x y : Ev) : oneE x y = decide (x.o = y.o ∧ x.n = y.n) := by rw [Bool.eq_iff_iff]; simp [oneE]
theorem lk_own {E : Nat → Ev} {i j : Nat} (h : (E i).c = (E j).c) : linkedE E i j = true := by simp [linkedE, h]
theorem lk_two {E : Nat → Ev} {i j : Nat} (h : ¬ (E i).c = (E j).c) (h1 : ¬ ((E i).o = (E j).o ∧ (E i).n = (E j).n)) : linkedE E i j = false := by
  simp [linkedE, h, oneE_iff, h1]
section
variable {E : Nat → Ev} {i j : Nat} (h : ¬ (E i).c = (E j).c) (h1 : (E i).o = (E j).o ∧ (E i).n = (E j).n)
include h h1
theorem lk_un (h2 : (E i).k = 2) : linkedE E i j = decide ((E j).k = 1 ∨ (E j).k = 3) := by
  rw [Bool.eq_iff_iff]; simp [linkedE, h, oneE_iff, h1, h2]
theorem lk_ru (h2 : ¬ (E i).k = 2) (h3 : (E i).k = 4) : linkedE E i j = decide ((E j).k = 1) := by
  rw [Bool.eq_iff_iff]; simp [linkedE, h, oneE_iff, h1, h3]
theorem lk_st (h2 : ¬ (E i).k = 2) (h3 : ¬ (E i).k = 4) (h4 : ((E i).k = 6 ∨ (E i).k = 7) ∧ ((E j).k = 5 ∨ (E j).k = 7)) : linkedE E i j = noSt E j i j := by
  simp [linkedE, h, oneE_iff, h1, h2, h3, h4]
theorem lk_no (h2 : ¬ (E i).k = 2) (h3 : ¬ (E i).k = 4) (h4 : ¬ (((E i).k = 6 ∨ (E i).k = 7) ∧ ((E j).k = 5 ∨ (E j).k = 7))) : linkedE E i j = false := by
  simp [linkedE, h, oneE_iff, h1, h2, h3, h4]
end
theorem noSt_hit {E : Nat → Ev} {i j x : Nat} (hx : i < x) (hxj : x < j) (h : ((E x).o = (E j).o ∧ (E x).n = (E j).n) ∧ (E x).k = 6) : noSt E j i j = false := by
  cases hh : noSt E j i j with
  | false => rfl
  | true => exact absurd ⟨h.2, h.1⟩ ((noSt_iff E j i j).1 hh x hx hxj)
theorem noSt_pass {E : Nat → Ev} {i j x : Nat} (h0 : noSt E j i x = true) (h : ¬ (((E x).o = (E j).o ∧ (E x).n = (E j).n) ∧ (E x).k = 6)) : noSt E j i (x + 1) = true := by
  refine (noSt_iff E j i (x + 1)).2 fun y hy hy' => ?_
  by_cases hyx : y = x
  · subst hyx; exact fun hh => h ⟨hh.2, hh.1⟩
  · exact (noSt_iff E j i x).1 h0 y hy (by omega)
theorem noSt_start (E : Nat → Ev) (i j : Nat) : noSt E j i (i + 1) = true := (noSt_iff E j i (i + 1)).2 fun y hy hy' => by omega

theorem linked_c (a : Option Addr) (n c : Nat) (E : Nat → Ev) (i j : Nat) (w0 : World) (hE : EvAt w0 a n E) (hn : n ≤ 9223372036854775807) (hij : i < j) (hj : j < n) : C Try.prog 30 #[.slice a n c, .int .i64 (i : Int), .int .i64 (j : Int)] w0 fun v w' => v = .bool (linkedE E i j) ∧ Below w0.heap.size w0 w' := by
  refine C.enter (n := 101) Try.func30 rfl rfl ?_
  have hi : i < n := by omega
  have hb := Below.refl w0.heap.size w0
  refine W.seq ?_
  refine W.region rfl ?_
  refine L.va (x_asB rfl) ?_
  refine L.nil ?_
  show W _ _ _ _ _ _
  refine W.seq ?_
  refine W.seq ?_
  refine W.quiet (fun w' => Below w0.heap.size w0 w') (by kernel_rfl) (by kernel_rfl) (hb.drew) ?_
  refine D.va (fun w' hw' => (x_mvS rfl)) ?_
  refine D.va (fun w' hw' => (x_mvI rfl)) ?_
  refine D.va (fun w' hw' => (x_idx rfl rfl Try.underlying25 sz53 (hE.sl) (by omega))) ?_
  refine D.va (fun w' hw' => (x_field rfl Try.underlying53 rfl sz3 (by decide))) ?_
  refine D.va (fun w' hw' => (x_load rfl Try.underlying3 rfl (by first | exact bl0 hw' (hE.c hi) | exact bl0 hw' (hE.k hi) | exact bagg hw' (hE.step hi) | exact bl0 hw' (hE.c hj) | exact bl0 hw' (hE.k hj) | exact bagg hw' (hE.step hj)))) ?_
  refine D.va (fun w' hw' => (x_mvS rfl)) ?_
  refine D.va (fun w' hw' => (x_mvI rfl)) ?_
  refine D.va (fun w' hw' => (x_idx rfl rfl Try.underlying25 sz53 (hE.sl) (by omega))) ?_
  refine D.va (fun w' hw' => (x_field rfl Try.underlying53 rfl sz3 (by decide))) ?_
  refine D.va (fun w' hw' => (x_load rfl Try.underlying3 rfl (by first | exact bl0 hw' (hE.c hi) | exact bl0 hw' (hE.k hi) | exact bagg hw' (hE.step hi) | exact bl0 hw' (hE.c hj) | exact bl0 hw' (hE.k hj) | exact bagg hw' (hE.step hj)))) ?_
  refine D.va (fun w' hw' => (x_eql rfl rfl)) ?_
  refine D.nil ?_
  intro w hb
  show W _ _ _ _ _ _
  refine W.condP rfl (fun h20 => ?_) (fun h20 => ?_)
  · refine W.seq ?_
    refine W.region rfl ?_
    refine L.va (x_asB rfl) ?_
    refine L.nil ?_
    show W _ _ _ _ _ _
    refine W.ret ?_
    repeat (first | refine T.ret ?_ | refine B.ret ?_)
    refine ends.one (.inr rfl) rfl ?_
    exact ⟨rb (lk_own h20).symm, hb⟩
  · refine W.skip ?_
    show W _ _ _ _ _ _
    refine W.seq ?_
    refine W.seq ?_
    refine W.quiet (fun w' => Below w0.heap.size w0 w') (by kernel_rfl) (by kernel_rfl) (hb.drew) ?_
    refine D.va (fun w' hw' => (x_mvS rfl)) ?_
    refine D.va (fun w' hw' => (x_mvI rfl)) ?_
    refine D.va (fun w' hw' => (x_idx rfl rfl Try.underlying25 sz53 (hE.sl) (by omega))) ?_
    refine D.va (fun w' hw' => (x_field rfl Try.underlying53 rfl sz51 (by decide))) ?_
    refine D.va (fun w' hw' => (x_loadAgg rfl Try.underlying51 rfl sz51 rfl (by first | exact bl0 hw' (hE.c hi) | exact bl0 hw' (hE.k hi) | exact bagg hw' (hE.step hi) | exact bl0 hw' (hE.c hj) | exact bl0 hw' (hE.k hj) | exact bagg hw' (hE.step hj)))) ?_
    refine D.va (fun w' hw' => (x_mvS rfl)) ?_
    refine D.va (fun w' hw' => (x_mvI rfl)) ?_
    refine D.va (fun w' hw' => (x_idx rfl rfl Try.underlying25 sz53 (hE.sl) (by omega))) ?_
    refine D.va (fun w' hw' => (x_field rfl Try.underlying53 rfl sz51 (by decide))) ?_
    refine D.va (fun w' hw' => (x_loadAgg rfl Try.underlying51 rfl sz51 rfl (by first | exact bl0 hw' (hE.c hi) | exact bl0 hw' (hE.k hi) | exact bagg hw' (hE.step hi) | exact bl0 hw' (hE.c hj) | exact bl0 hw' (hE.k hj) | exact bagg hw' (hE.step hj)))) ?_
    refine D.call (fun w' hw' => (x_call2 rfl rfl Try.func33 rfl nm33 rfl)) (fun w' hw' => (one_c _ _ _ _ _ _ w').mono (fun v w'' h => ⟨h.1, cl_step hw' h.2⟩)) ?_
    refine D.va (fun w' hw' => (x_not rfl)) ?_
    refine D.nil ?_
    intro w hb
    show W _ _ _ _ _ _
    refine W.cond rfl (fun h32 => ?_) (fun h32 => ?_)
    · refine W.seq ?_
      refine W.region rfl ?_
      refine L.va (x_asB rfl) ?_
      refine L.nil ?_
      show W _ _ _ _ _ _
      refine W.ret ?_
      repeat (first | refine T.ret ?_ | refine B.ret ?_)
      refine ends.one (.inr rfl) rfl ?_
      have h1 : ¬ ((E i).o = (E j).o ∧ (E i).n = (E j).n) := by intro hh; rw [decide_eq_true hh] at h32; cases h32
      exact ⟨rb (lk_two h20 h1).symm, hb⟩
    · refine W.skip ?_
      show W _ _ _ _ _ _
      refine W.seq ?_
      refine W.region rfl ?_
      refine L.va (x_mvS rfl) ?_
      refine L.va (x_mvI rfl) ?_
      refine L.va (x_idx rfl rfl Try.underlying25 sz53 (hE.sl) (by omega)) ?_
      refine L.va (x_field rfl Try.underlying53 rfl sz51 (by decide)) ?_
      refine L.va (x_field rfl Try.underlying51 rfl sz3 (by decide)) ?_
      refine L.va (x_load rfl Try.underlying3 rfl (by first | exact bl0 hb (hE.c hi) | exact bl0 hb (hE.k hi) | exact bagg hb (hE.step hi) | exact bl0 hb (hE.c hj) | exact bl0 hb (hE.k hj) | exact bagg hb (hE.step hj))) ?_
      refine L.va (x_asI rfl) ?_
      refine L.nil ?_
      show W _ _ _ _ _ _
      refine W.seq ?_
      refine W.region rfl ?_
      refine L.va (x_mvS rfl) ?_
      refine L.va (x_mvI rfl) ?_
      refine L.va (x_idx rfl rfl Try.underlying25 sz53 (hE.sl) (by omega)) ?_
      refine L.va (x_field rfl Try.underlying53 rfl sz51 (by decide)) ?_
      refine L.va (x_field rfl Try.underlying51 rfl sz3 (by decide)) ?_
      refine L.va (x_load rfl Try.underlying3 rfl (by first | exact bl0 hb (hE.c hi) | exact bl0 hb (hE.k hi) | exact bagg hb (hE.step hi) | exact bl0 hb (hE.c hj) | exact bl0 hb (hE.k hj) | exact bagg hb (hE.step hj))) ?_
      refine L.va (x_asI rfl) ?_
      refine L.nil ?_
      show W _ _ _ _ _ _
      refine W.seq ?_
      refine W.block ?_
      refine W.seq ?_
      refine W.region rfl ?_
      refine L.va (x_mvI rfl) ?_
      refine L.va (x_eql rfl rfl) ?_
      refine L.va (x_asB rfl) ?_
      refine L.nil ?_
      show W _ _ _ _ _ _
      refine W.condP rfl (fun h45 => ?_) (fun h45 => ?_)
      · refine W.seq ?_
        refine W.region rfl ?_
        refine L.va (x_mvI rfl) ?_
        refine L.va (x_eql rfl rfl) ?_
        refine L.va (x_mvB rfl) ?_
        refine L.meetB 3 [50,51,52,53] 53 (.bool (decide ((E j).k = 1 ∨ (E j).k = 3))) (tj := 50) rfl (fun hb50 => ?_) (fun hb50 => ?_) (fun f => ?_)
        · refine L.off rfl ?_
          refine L.off rfl ?_
          refine L.va (x_pickT rfl) ?_
          refine L.nil ?_
          refine ⟨rfl, congrArg Value.bool (by first | exact or_t hb50 | (simp_all; done) | (rw [Bool.eq_iff_iff]; simp_all; omega)), ?_⟩
          exact Agree.upd rfl (Agree.upd rfl (Agree.upd rfl (Agree.upd rfl (Agree.refl _ _))))
        · refine L.on rfl ?_
          refine L.va (x_mvI rfl) ?_
          refine L.on rfl ?_
          refine L.va (x_eql rfl rfl) ?_
          refine L.va (x_pickF rfl) ?_
          refine L.nil ?_
          refine ⟨rfl, congrArg Value.bool (by first | exact or_f hb50 | (simp_all; done) | (rw [Bool.eq_iff_iff]; simp_all; omega)), ?_⟩
          exact Agree.upd rfl (Agree.upd rfl (Agree.upd rfl (Agree.upd rfl (Agree.refl _ _))))
        refine L.va (x_asB rfl) ?_
        refine L.nil ?_
        show W _ _ _ _ _ _
        refine W.ret ?_
        repeat (first | refine T.ret ?_ | refine B.ret ?_)
        refine ends.one (.inr rfl) rfl ?_
        exact ⟨rb (lk_un h20 (by simpa using h32) h45).symm, hb⟩
      · refine W.seq ?_
        refine W.region rfl ?_
        refine L.va (x_mvI rfl) ?_
        refine L.va (x_eql rfl rfl) ?_
        refine L.va (x_asB rfl) ?_
        refine L.nil ?_
        show W _ _ _ _ _ _
        refine W.condP rfl (fun h54 => ?_) (fun h54 => ?_)
        · refine W.seq ?_
          refine W.region rfl ?_
          refine L.va (x_mvI rfl) ?_
          refine L.va (x_eql rfl rfl) ?_
          refine L.va (x_asB rfl) ?_
          refine L.nil ?_
          show W _ _ _ _ _ _
          refine W.ret ?_
          repeat (first | refine T.ret ?_ | refine B.ret ?_)
          refine ends.one (.inr rfl) rfl ?_
          exact ⟨rb (lk_ru h20 (by simpa using h32) h45 h54).symm, hb⟩
        · refine W.seq ?_
          refine W.region rfl ?_
          refine L.va (x_mvI rfl) ?_
          refine L.va (x_eql rfl rfl) ?_
          refine L.va (x_mvB rfl) ?_
          refine L.meetB 3 [62,63,64,65] 65 (.bool (decide ((E i).k = 6 ∨ (E i).k = 7))) (tj := 62) rfl (fun hb62 => ?_) (fun hb62 => ?_) (fun f => ?_)
          · refine L.off rfl ?_
            refine L.off rfl ?_
            refine L.va (x_pickT rfl) ?_
            refine L.nil ?_
            refine ⟨rfl, congrArg Value.bool (by first | exact or_t hb62 | (simp_all; done) | (rw [Bool.eq_iff_iff]; simp_all; omega)), ?_⟩
            exact Agree.upd rfl (Agree.upd rfl (Agree.upd rfl (Agree.upd rfl (Agree.refl _ _))))
          · refine L.on rfl ?_
            refine L.va (x_mvI rfl) ?_
            refine L.on rfl ?_
            refine L.va (x_eql rfl rfl) ?_
            refine L.va (x_pickF rfl) ?_
            refine L.nil ?_
            refine ⟨rfl, congrArg Value.bool (by first | exact or_f hb62 | (simp_all; done) | (rw [Bool.eq_iff_iff]; simp_all; omega)), ?_⟩
            exact Agree.upd rfl (Agree.upd rfl (Agree.upd rfl (Agree.upd rfl (Agree.refl _ _))))
          refine L.va (x_mvB rfl) ?_
          refine L.meetB 7 [66,67,68,69,70,71,72,73] 73 (.bool (decide (((E i).k = 6 ∨ (E i).k = 7) ∧ ((E j).k = 5 ∨ (E j).k = 7)))) (tj := 66) rfl (fun hb66 => ?_) (fun hb66 => ?_) (fun f => ?_)
          · refine L.on rfl ?_
            refine L.va (x_mvI rfl) ?_
            refine L.on rfl ?_
            refine L.va (x_eql rfl rfl) ?_
            refine L.on rfl ?_
            refine L.va (x_mvB rfl) ?_
            refine L.meetB 3 [69,70,71,72] 72 (.bool (decide ((E j).k = 5 ∨ (E j).k = 7))) (tj := 69) rfl (fun hb69 => ?_) (fun hb69 => ?_) (fun f => ?_)
            · refine L.off rfl ?_
              refine L.off rfl ?_
              refine L.on rfl ?_
              refine L.va (x_pickT rfl) ?_
              refine L.nil ?_
              refine ⟨rfl, congrArg Value.bool (by first | exact or_t hb69 | (simp_all; done) | (rw [Bool.eq_iff_iff]; simp_all; omega)), ?_⟩
              exact Agree.upd rfl (Agree.upd rfl (Agree.upd rfl (Agree.upd rfl (Agree.refl _ _))))
            · refine L.on rfl ?_
              refine L.va (x_mvI rfl) ?_
              refine L.on rfl ?_
              refine L.va (x_eql rfl rfl) ?_
              refine L.on rfl ?_
              refine L.va (x_pickF rfl) ?_
              refine L.nil ?_
              refine ⟨rfl, congrArg Value.bool (by first | exact or_f hb69 | (simp_all; done) | (rw [Bool.eq_iff_iff]; simp_all; omega)), ?_⟩
              exact Agree.upd rfl (Agree.upd rfl (Agree.upd rfl (Agree.upd rfl (Agree.refl _ _))))
            refine L.va (x_pickT rfl) ?_
            refine L.nil ?_
            refine ⟨rfl, congrArg Value.bool (by first | exact and_t hb66 | (simp_all; done) | (rw [Bool.eq_iff_iff]; simp_all; omega)), ?_⟩
            exact Agree.upd rfl (Agree.upd rfl (Agree.hav rfl (Agree.upd rfl (Agree.upd rfl (Agree.upd rfl (Agree.upd rfl (Agree.refl _ _)))))))
          · refine L.off rfl ?_
            refine L.off rfl ?_
            refine L.off rfl ?_
            refine L.off rfl ?_
            refine L.off rfl ?_
            refine L.off rfl ?_
            refine L.va (x_pickF rfl) ?_
            refine L.nil ?_
            refine ⟨rfl, congrArg Value.bool (by first | exact and_f hb66 | (simp_all; done) | (rw [Bool.eq_iff_iff]; simp_all; omega)), ?_⟩
            exact Agree.upd rfl (Agree.upd rfl (Agree.upd rfl (Agree.upd rfl (Agree.upd rfl (Agree.upd rfl (Agree.upd rfl (Agree.upd rfl (Agree.refl _ _))))))))
          refine L.va (x_asB rfl) ?_
          refine L.nil ?_
          show W _ _ _ _ _ _
          refine W.condP rfl (fun h59 => ?_) (fun h59 => ?_)
          · refine W.seq ?_
            refine W.seq ?_
            refine W.region rfl ?_
            refine L.va (x_mvI rfl) ?_
            refine L.va (x_inc rfl rfl (by omega)) ?_
            refine L.va (x_asI rfl) ?_
            refine L.nil ?_
            show W _ _ _ _ _ _
            refine W.block ?_
            refine W.loop (fun k e w => ∃ x : Nat, k = j - x ∧ e 0 = .slice a n c ∧ e 2 = .int .i64 (j : Int) ∧ e 9 = .int .i64 (x : Int) ∧ Below w0.heap.size w0 w ∧ i < x ∧ x ≤ j ∧ noSt E j i x = true) _ ⟨i + 1, rfl, rfl, rfl, rfl, hb, by omega, by omega, noSt_start E i j⟩ ?_
            rintro k e w ⟨x, rfl, s0, s2, s9, hb, hix, hxj, hno⟩
            rw [upd_id s0, upd_id s2, upd_id s9]
            clear s0 s2 s9
            refine W.seq ?_
            refine W.seq ?_
            refine W.region rfl ?_
            refine L.va (x_mvI rfl) ?_
            refine L.va (x_mvI rfl) ?_
            refine L.va (x_lss rfl rfl) ?_
            refine L.nil ?_
            show W _ _ _ _ _ _
            refine W.condP rfl (fun h78 => ?_) (fun h78 => ?_)
            · refine W.skip ?_
              show W _ _ _ _ _ _
              refine W.seq ?_
              refine W.block ?_
              refine W.seq ?_
              have hx : x < n := by omega
              refine W.quiet (fun w' => Below w0.heap.size w0 w') (by kernel_rfl) (by kernel_rfl) (hb.drew) ?_
              refine D.va (fun w' hw' => (x_mvS rfl)) ?_
              refine D.va (fun w' hw' => (x_mvI rfl)) ?_
              refine D.va (fun w' hw' => (x_idx rfl rfl Try.underlying25 sz53 (hE.sl) (by omega))) ?_
              refine D.va (fun w' hw' => (x_field rfl Try.underlying53 rfl sz51 (by decide))) ?_
              refine D.va (fun w' hw' => (x_loadAgg rfl Try.underlying51 rfl sz51 rfl (bagg hw' (hE.step hx)))) ?_
              refine D.va (fun w' hw' => (x_mvS rfl)) ?_
              refine D.va (fun w' hw' => (x_mvI rfl)) ?_
              refine D.va (fun w' hw' => (x_idx rfl rfl Try.underlying25 sz53 (hE.sl) (by omega))) ?_
              refine D.va (fun w' hw' => (x_field rfl Try.underlying53 rfl sz51 (by decide))) ?_
              refine D.va (fun w' hw' => (x_loadAgg rfl Try.underlying51 rfl sz51 rfl (bagg hw' (hE.step hj)))) ?_
              refine D.call (fun w' hw' => (x_call2 rfl rfl Try.func33 rfl nm33 rfl)) (fun w' hw' => (one_c _ _ _ _ _ _ w').mono (fun v w'' h => ⟨h.1, cl_step hw' h.2⟩)) ?_
              refine D.va (fun w' hw' => (x_mvB rfl)) ?_
              refine D.meetB 8 [92,93,94,95,96,97,98,99,100] 100 (.bool (decide (((E x).o = (E j).o ∧ (E x).n = (E j).n) ∧ (E x).k = 6))) (tj := 92) rfl (fun hb92 => ?_) (fun hb92 => ?_) (fun f => ?_)
              · refine D.on rfl ?_
                refine D.va (fun w' hw' => (x_mvS rfl)) ?_
                refine D.on rfl ?_
                refine D.va (fun w' hw' => (x_mvI rfl)) ?_
                refine D.on rfl ?_
                refine D.va (fun w' hw' => (x_idx rfl rfl Try.underlying25 sz53 (hE.sl) (by omega))) ?_
                refine D.on rfl ?_
                refine D.va (fun w' hw' => (x_field rfl Try.underlying53 rfl sz51 (by decide))) ?_
                refine D.on rfl ?_
                refine D.va (fun w' hw' => (x_field rfl Try.underlying51 rfl sz3 (by decide))) ?_
                refine D.on rfl ?_
                refine D.va (fun w' hw' => (x_load rfl Try.underlying3 rfl (bl0 hw' (hE.k hx)))) ?_
                refine D.on rfl ?_
                refine D.va (fun w' hw' => (x_eql rfl rfl)) ?_
                refine D.va (fun w' hw' => (x_pickT rfl)) ?_
                refine D.nil ?_
                refine ⟨congrArg Value.bool (by first | exact and_t hb92 | (simp_all; done) | (rw [Bool.eq_iff_iff]; simp_all; omega)), ?_⟩
                exact Agree.upd rfl (Agree.upd rfl (Agree.upd rfl (Agree.upd rfl (Agree.upd rfl (Agree.upd rfl (Agree.upd rfl (Agree.upd rfl (Agree.upd rfl (Agree.refl _ _)))))))))
              · refine D.off rfl ?_
                refine D.off rfl ?_
                refine D.off rfl ?_
                refine D.off rfl ?_
                refine D.off rfl ?_
                refine D.off rfl ?_
                refine D.off rfl ?_
                refine D.va (fun w' hw' => (x_pickF rfl)) ?_
                refine D.nil ?_
                refine ⟨congrArg Value.bool (by first | exact and_f hb92 | (simp_all; done) | (rw [Bool.eq_iff_iff]; simp_all; omega)), ?_⟩
                exact Agree.upd rfl (Agree.upd rfl (Agree.upd rfl (Agree.upd rfl (Agree.upd rfl (Agree.upd rfl (Agree.upd rfl (Agree.upd rfl (Agree.upd rfl (Agree.refl _ _)))))))))
              refine D.nil ?_
              intro w hb
              show W _ _ _ _ _ _
              refine W.condP rfl (fun h100 => ?_) (fun h100 => ?_)
              · refine W.seq ?_
                refine W.region rfl ?_
                refine L.va (x_asB rfl) ?_
                refine L.nil ?_
                show W _ _ _ _ _ _
                refine W.ret ?_
                repeat (first | refine T.ret ?_ | refine B.ret ?_)
                refine ends.one (.inr rfl) rfl ?_
                exact ⟨rb ((lk_st h20 (by simpa using h32) h45 h54 h59).trans (noSt_hit hix (by omega) h100)).symm, hb⟩
              · refine W.skip ?_
                refine B.nrm ?_
                show W _ _ _ _ _ _
                refine W.region rfl ?_
                refine L.va (x_mvI rfl) ?_
                refine L.va (x_inc rfl rfl (by omega)) ?_
                refine L.va (x_asI rfl) ?_
                refine L.nil ?_
                refine T.nrm ?_
                exact ⟨_, by omega, ⟨x + 1, rfl, rfl, rfl, rfl, hb, by omega, by omega, noSt_pass hno h100⟩⟩
            · refine W.exit ?_
              repeat (first | refine T.exit ?_ | refine B.exitNe (by decide) ?_)
              refine B.exitEq ?_
              show W _ _ _ _ _ _
              refine W.seq ?_
              refine W.region rfl ?_
              refine L.va (x_asB rfl) ?_
              refine L.nil ?_
              show W _ _ _ _ _ _
              refine W.ret ?_
              repeat (first | refine T.ret ?_ | refine B.ret ?_)
              refine ends.one (.inr rfl) rfl ?_
              obtain rfl : x = j := by omega
              exact ⟨rb ((lk_st h20 (by simpa using h32) h45 h54 h59).trans hno).symm, hb⟩
          · refine W.skip ?_
            refine B.nrm ?_
            show W _ _ _ _ _ _
            refine W.seq ?_
            refine W.region rfl ?_
            refine L.va (x_asB rfl) ?_
            refine L.nil ?_
            show W _ _ _ _ _ _
            refine W.ret ?_
            repeat (first | refine T.ret ?_ | refine B.ret ?_)
            refine ends.one (.inr rfl) rfl ?_
            exact ⟨rb (lk_no h20 (by simpa using h32) h45 h54 h59).symm, hb⟩

end Go.Proofs.Ytlopdjbehhdmpaa
