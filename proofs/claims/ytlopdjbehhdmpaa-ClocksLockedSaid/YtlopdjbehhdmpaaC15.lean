/- The law on order: what the Go text returns. -/
import Derived.Test.YtlopdjbehhdmpaaC14
namespace Go.Proofs.Ytlopdjbehhdmpaa
open Go.Vc Go.RowKit
theorem clk_less {E : Nat → Ev} {i j : Nat} (hji : j < i) (h : ∀ x, x ≤ i → 0 ≤ (E x).c) : clk E j (E i).c.toNat < clk E i (E i).c.toNat := by
  have h1 := (clk_ch E j (fun x hx => h x (by omega)) (E i).c.toNat).1
  have h2 := ((clk_ch E i h (E i).c.toNat).2 i (Nat.lt_succ_self i) (by have := h i (Nat.le_refl i); omega)).1 (.inl rfl)
  have h3 := tot_mono E (E i).c.toNat (show j + 1 ≤ i by omega)
  omega
theorem ahB_ne {E : Nat → Ev} {n i j : Nat} {cl : Int} (hok : okE E cl n) (hi : i < n) (hj : j < n) (hne : i ≠ j) : decide ((clk E j (E i).c.toNat : Int) ≥ (clk E i (E i).c.toNat : Int)) = ahB E i j := by
  rw [← ahB_clk E hok hi hj]
  by_cases h : i < j
  · rw [decide_eq_true h]; rfl
  · have := clk_less (E := E) (show j < i by omega) (fun x hx => (hok.at (by omega)).1)
    rw [decide_eq_false h, decide_eq_false (by omega)]; rfl

theorem order_l1 (a : Option Addr) (n c : Nat) (E : Nat → Ev) (cl i j k : Int) (w0 : World) (hE : EvAt w0 a n E) (hnil : a = none → n = 0 ∧ c = 0) (hn : n + 8 ≤ 4398046511104) (hc : check E n cl ≠ 0) :
    C Try.prog 8 #[.slice a n c, .int .i64 cl, .int .i64 i, .int .i64 j, .int .i64 k] w0 fun v w' => v = .bool true ∧ Below w0.heap.size w0 w' := by
  refine C.enter (n := 158) Try.func8 rfl rfl ?_
  have hb : Below w0.heap.size w0 w0 := Below.refl _ _
  refine W.seq ?_
  refine W.region rfl ?_
  refine L.va (x_asB rfl) ?_
  refine L.nil ?_
  show W _ _ _ _ _ _
  refine W.seq ?_
  refine W.region rfl ?_
  refine L.va (x_mvS rfl) ?_
  refine L.call (x_call1 rfl Try.func14 rfl nm14 rfl) (own_c a n c E w0 hE hnil hn) ?_
  rintro _ w ⟨fa, fc, rfl, hfc, hF8, hb⟩
  have hF := own_ev hF8
  have hE := hE.below hb
  refine L.va (x_mvI rfl) ?_
  refine L.call (x_call2 rfl rfl Try.func15 rfl nm15 rfl) (pclocks_no fa n fc E cl w hF (by omega) hc) ?_
  rintro _ w ⟨rfl, hbw⟩
  have hb := cl_step hb hbw
  have hE := hE.below hbw
  refine L.va (x_mvT rfl) ?_
  refine L.va (x_extract rfl rfl) ?_
  refine L.va (x_extract rfl rfl) ?_
  refine L.va (x_asS rfl) ?_
  refine L.va (x_asI rfl) ?_
  refine L.nil ?_
  show W _ _ _ _ _ _
  refine W.seq ?_
  refine W.seq ?_
  refine W.region rfl ?_
  refine L.va (x_mvS rfl) ?_
  refine L.va (x_len rfl Try.underlying25 rfl) ?_
  refine L.va (x_gtr rfl rfl) ?_
  refine L.va (x_mvB rfl) ?_
  refine L.meetB 4 [28,29,30,31,32] 32 (.bool true) (tj := 28) rfl (fun hb28 => ?_) (fun hb28 => ?_) (fun f => ?_)
  · refine L.off rfl ?_
    refine L.off rfl ?_
    refine L.off rfl ?_
    refine L.va (x_pickT rfl) ?_
    refine L.nil ?_
    refine ⟨rfl, congrArg Value.bool (rfl), ?_⟩
    exact Agree.upd rfl (Agree.upd rfl (Agree.upd rfl (Agree.upd rfl (Agree.upd rfl (Agree.refl _ _)))))
  · refine L.on rfl ?_
    refine L.va (x_mvI rfl) ?_
    refine L.on rfl ?_
    refine L.call (x_call1 rfl Try.func12 rfl nm12 rfl) (num_c _ _) ?_
    rintro _ w1 ⟨rfl, hw⟩
    rw [hw]
    clear hw w1
    refine L.on rfl ?_
    refine L.va (x_neq rfl rfl) ?_
    refine L.va (x_pickF rfl) ?_
    refine L.nil ?_
    refine ⟨rfl, congrArg Value.bool (decide_eq_true hc), ?_⟩
    exact Agree.upd rfl (Agree.upd rfl (Agree.upd rfl (Agree.upd rfl (Agree.upd rfl (Agree.refl _ _)))))
  refine L.nil ?_
  show W _ _ _ _ _ _
  refine W.condT rfl ?_
  refine W.seq ?_
  refine W.region rfl ?_
  refine L.call (x_call0  Try.func13 rfl nm13 rfl) (live_c w) ?_
  rintro _ w ⟨rfl, hbw⟩
  have hb := cl_step hb hbw
  refine L.va (x_asB rfl) ?_
  refine L.nil ?_
  show W _ _ _ _ _ _
  refine W.ret ?_
  repeat (first | refine T.ret ?_ | refine B.ret ?_)
  refine ends.one (.inr rfl) rfl ?_
  exact ⟨rfl, hb⟩

set_option maxHeartbeats 1000000 in
theorem order_l0 (a : Option Addr) (n c : Nat) (E : Nat → Ev) (m : Nat) (i j k : Int) (w0 : World) (hE : EvAt w0 a n E) (hnil : a = none → n = 0 ∧ c = 0) (hn : n + 8 ≤ 4398046511104) (hc : check E n (m : Int) = 0) :
    C Try.prog 8 #[.slice a n c, .int .i64 (m : Int), .int .i64 i, .int .i64 j, .int .i64 k] w0 fun v w' => v = .bool true ∧ Below w0.heap.size w0 w' := by
  refine C.enter (n := 158) Try.func8 rfl rfl ?_
  have hb : Below w0.heap.size w0 w0 := Below.refl _ _
  obtain ⟨-, hm16, hn20, hok⟩ := check_zero hc
  refine W.seq ?_
  refine W.region rfl ?_
  refine L.va (x_asB rfl) ?_
  refine L.nil ?_
  show W _ _ _ _ _ _
  refine W.seq ?_
  refine W.region rfl ?_
  refine L.va (x_mvS rfl) ?_
  refine L.call (x_call1 rfl Try.func14 rfl nm14 rfl) (own_c a n c E w0 hE hnil hn) ?_
  rintro _ w ⟨fa, fc, rfl, hfc, hF8, hb⟩
  have hF := own_ev hF8
  have hE := hE.below hb
  refine L.va (x_mvI rfl) ?_
  refine L.call (x_call2 rfl rfl Try.func15 rfl nm15 rfl) (pclocks_ok fa n fc E m w hF hc) ?_
  rintro _ w ⟨oa, oc, R, CC, rfl, hP, hbw⟩
  have hb := cl_step hb hbw
  have hE := hE.below hbw
  refine L.va (x_mvT rfl) ?_
  refine L.va (x_extract rfl rfl) ?_
  refine L.va (x_extract rfl rfl) ?_
  refine L.va (x_asS rfl) ?_
  refine L.va (x_asI rfl) ?_
  refine L.nil ?_
  show W _ _ _ _ _ _
  refine W.seq ?_
  refine W.seq ?_
  refine W.region rfl ?_
  refine L.va (x_mvS rfl) ?_
  refine L.va (x_len rfl Try.underlying25 rfl) ?_
  refine L.va (x_gtr rfl rfl) ?_
  refine L.va (x_mvB rfl) ?_
  refine L.meetB 4 [28,29,30,31,32] 32 (.bool (decide ((n : Int) > 200))) (tj := 28) rfl (fun hb28 => ?_) (fun hb28 => ?_) (fun f => ?_)
  · refine L.off rfl ?_
    refine L.off rfl ?_
    refine L.off rfl ?_
    refine L.va (x_pickT rfl) ?_
    refine L.nil ?_
    refine ⟨rfl, congrArg Value.bool (by rw [hb28]), ?_⟩
    exact Agree.upd rfl (Agree.upd rfl (Agree.upd rfl (Agree.upd rfl (Agree.upd rfl (Agree.refl _ _)))))
  · refine L.on rfl ?_
    refine L.va (x_mvI rfl) ?_
    refine L.on rfl ?_
    refine L.call (x_call1 rfl Try.func12 rfl nm12 rfl) (num_c _ _) ?_
    rintro _ w1 ⟨rfl, hw⟩
    rw [hw]
    clear hw w1
    refine L.on rfl ?_
    refine L.va (x_neq rfl rfl) ?_
    refine L.va (x_pickF rfl) ?_
    refine L.nil ?_
    refine ⟨rfl, congrArg Value.bool (by rw [hb28]; simp), ?_⟩
    exact Agree.upd rfl (Agree.upd rfl (Agree.upd rfl (Agree.upd rfl (Agree.upd rfl (Agree.refl _ _)))))
  refine L.nil ?_
  show W _ _ _ _ _ _
  refine W.condP rfl (fun h32 => ?_) (fun h32 => ?_)
  · refine W.seq ?_
    refine W.region rfl ?_
    refine L.call (x_call0  Try.func13 rfl nm13 rfl) (live_c w) ?_
    rintro _ w ⟨rfl, hbw⟩
    have hb := cl_step hb hbw
    refine L.va (x_asB rfl) ?_
    refine L.nil ?_
    show W _ _ _ _ _ _
    refine W.ret ?_
    repeat (first | refine T.ret ?_ | refine B.ret ?_)
    refine ends.one (.inr rfl) rfl ?_
    exact ⟨rfl, hb⟩
  · refine W.skip ?_
    show W _ _ _ _ _ _
    refine W.seq ?_
    refine W.region rfl ?_
    refine L.va (x_mvS rfl) ?_
    refine L.va (x_len rfl Try.underlying25 rfl) ?_
    refine L.va (x_asI rfl) ?_
    refine L.nil ?_
    show W _ _ _ _ _ _
    refine W.seq ?_
    refine W.seq ?_
    refine W.region rfl ?_
    refine L.va (x_mvS rfl) ?_
    refine L.va (x_len rfl Try.underlying27 rfl) ?_
    refine L.va (x_mvI rfl) ?_
    refine L.va (x_neq rfl rfl) ?_
    refine L.nil ?_
    show W _ _ _ _ _ _
    refine W.condF (rb (decide_eq_false (by simp))) ?_
    refine W.skip ?_
    show W _ _ _ _ _ _
    refine W.seq ?_
    refine W.seq ?_
    refine W.region rfl ?_
    refine L.va (x_mvI rfl) ?_
    refine L.va (x_lss rfl rfl) ?_
    refine L.va (x_mvB rfl) ?_
    refine L.meetB 3 [42,43,44,45] 45 (.bool (decide (i < 0 ∨ j < 0))) (tj := 42) rfl (fun hb42 => ?_) (fun hb42 => ?_) (fun f => ?_)
    · refine L.off rfl ?_
      refine L.off rfl ?_
      refine L.va (x_pickT rfl) ?_
      refine L.nil ?_
      refine ⟨rfl, congrArg Value.bool (by first | exact or_t hb42 | (simp_all; done) | (rw [Bool.eq_iff_iff]; simp_all; omega)), ?_⟩
      exact Agree.upd rfl (Agree.upd rfl (Agree.upd rfl (Agree.upd rfl (Agree.refl _ _))))
    · refine L.on rfl ?_
      refine L.va (x_mvI rfl) ?_
      refine L.on rfl ?_
      refine L.va (x_lss rfl rfl) ?_
      refine L.va (x_pickF rfl) ?_
      refine L.nil ?_
      refine ⟨rfl, congrArg Value.bool (by first | exact or_f hb42 | (simp_all; done) | (rw [Bool.eq_iff_iff]; simp_all; omega)), ?_⟩
      exact Agree.upd rfl (Agree.upd rfl (Agree.upd rfl (Agree.upd rfl (Agree.refl _ _))))
    refine L.va (x_mvB rfl) ?_
    refine L.meetB 3 [46,47,48,49] 49 (.bool (decide ((i < 0 ∨ j < 0) ∨ k < 0))) (tj := 46) rfl (fun hb46 => ?_) (fun hb46 => ?_) (fun f => ?_)
    · refine L.off rfl ?_
      refine L.off rfl ?_
      refine L.va (x_pickT rfl) ?_
      refine L.nil ?_
      refine ⟨rfl, congrArg Value.bool (by first | exact or_t hb46 | (simp_all; done) | (rw [Bool.eq_iff_iff]; simp_all; omega)), ?_⟩
      exact Agree.upd rfl (Agree.upd rfl (Agree.upd rfl (Agree.upd rfl (Agree.refl _ _))))
    · refine L.on rfl ?_
      refine L.va (x_mvI rfl) ?_
      refine L.on rfl ?_
      refine L.va (x_lss rfl rfl) ?_
      refine L.va (x_pickF rfl) ?_
      refine L.nil ?_
      refine ⟨rfl, congrArg Value.bool (by first | exact or_f hb46 | (simp_all; done) | (rw [Bool.eq_iff_iff]; simp_all; omega)), ?_⟩
      exact Agree.upd rfl (Agree.upd rfl (Agree.upd rfl (Agree.upd rfl (Agree.refl _ _))))
    refine L.va (x_mvB rfl) ?_
    refine L.meetB 4 [50,51,52,53,54] 54 (.bool (decide (((i < 0 ∨ j < 0) ∨ k < 0) ∨ (n : Int) ≤ i))) (tj := 50) rfl (fun hb50 => ?_) (fun hb50 => ?_) (fun f => ?_)
    · refine L.off rfl ?_
      refine L.off rfl ?_
      refine L.off rfl ?_
      refine L.va (x_pickT rfl) ?_
      refine L.nil ?_
      refine ⟨rfl, congrArg Value.bool (by first | exact or_t hb50 | (simp_all; done) | (rw [Bool.eq_iff_iff]; simp_all; omega)), ?_⟩
      exact Agree.upd rfl (Agree.upd rfl (Agree.upd rfl (Agree.upd rfl (Agree.upd rfl (Agree.refl _ _)))))
    · refine L.on rfl ?_
      refine L.va (x_mvI rfl) ?_
      refine L.on rfl ?_
      refine L.va (x_mvI rfl) ?_
      refine L.on rfl ?_
      refine L.va (x_geq rfl rfl) ?_
      refine L.va (x_pickF rfl) ?_
      refine L.nil ?_
      refine ⟨rfl, congrArg Value.bool (by first | exact or_f hb50 | (simp_all; done) | (rw [Bool.eq_iff_iff]; simp_all; omega)), ?_⟩
      exact Agree.upd rfl (Agree.upd rfl (Agree.upd rfl (Agree.upd rfl (Agree.upd rfl (Agree.refl _ _)))))
    refine L.va (x_mvB rfl) ?_
    refine L.meetB 4 [55,56,57,58,59] 59 (.bool (decide ((((i < 0 ∨ j < 0) ∨ k < 0) ∨ (n : Int) ≤ i) ∨ (n : Int) ≤ j))) (tj := 55) rfl (fun hb55 => ?_) (fun hb55 => ?_) (fun f => ?_)
    · refine L.off rfl ?_
      refine L.off rfl ?_
      refine L.off rfl ?_
      refine L.va (x_pickT rfl) ?_
      refine L.nil ?_
      refine ⟨rfl, congrArg Value.bool (by first | exact or_t hb55 | (simp_all; done) | (rw [Bool.eq_iff_iff]; simp_all; omega)), ?_⟩
      exact Agree.upd rfl (Agree.upd rfl (Agree.upd rfl (Agree.upd rfl (Agree.upd rfl (Agree.refl _ _)))))
    · refine L.on rfl ?_
      refine L.va (x_mvI rfl) ?_
      refine L.on rfl ?_
      refine L.va (x_mvI rfl) ?_
      refine L.on rfl ?_
      refine L.va (x_geq rfl rfl) ?_
      refine L.va (x_pickF rfl) ?_
      refine L.nil ?_
      refine ⟨rfl, congrArg Value.bool (by first | exact or_f hb55 | (simp_all; done) | (rw [Bool.eq_iff_iff]; simp_all; omega)), ?_⟩
      exact Agree.upd rfl (Agree.upd rfl (Agree.upd rfl (Agree.upd rfl (Agree.upd rfl (Agree.refl _ _)))))
    refine L.va (x_mvB rfl) ?_
    refine L.meetB 4 [60,61,62,63,64] 64 (.bool (decide (((((i < 0 ∨ j < 0) ∨ k < 0) ∨ (n : Int) ≤ i) ∨ (n : Int) ≤ j) ∨ (n : Int) ≤ k))) (tj := 60) rfl (fun hb60 => ?_) (fun hb60 => ?_) (fun f => ?_)
    · refine L.off rfl ?_
      refine L.off rfl ?_
      refine L.off rfl ?_
      refine L.va (x_pickT rfl) ?_
      refine L.nil ?_
      refine ⟨rfl, congrArg Value.bool (by first | exact or_t hb60 | (simp_all; done) | (rw [Bool.eq_iff_iff]; simp_all; omega)), ?_⟩
      exact Agree.upd rfl (Agree.upd rfl (Agree.upd rfl (Agree.upd rfl (Agree.upd rfl (Agree.refl _ _)))))
    · refine L.on rfl ?_
      refine L.va (x_mvI rfl) ?_
      refine L.on rfl ?_
      refine L.va (x_mvI rfl) ?_
      refine L.on rfl ?_
      refine L.va (x_geq rfl rfl) ?_
      refine L.va (x_pickF rfl) ?_
      refine L.nil ?_
      refine ⟨rfl, congrArg Value.bool (by first | exact or_f hb60 | (simp_all; done) | (rw [Bool.eq_iff_iff]; simp_all; omega)), ?_⟩
      exact Agree.upd rfl (Agree.upd rfl (Agree.upd rfl (Agree.upd rfl (Agree.upd rfl (Agree.refl _ _)))))
    refine L.nil ?_
    show W _ _ _ _ _ _
    refine W.condP rfl (fun h64 => ?_) (fun h64 => ?_)
    · refine W.seq ?_
      refine W.region rfl ?_
      refine L.call (x_call0  Try.func13 rfl nm13 rfl) (live_c w) ?_
      rintro _ w ⟨rfl, hbw⟩
      have hb := cl_step hb hbw
      refine L.va (x_asB rfl) ?_
      refine L.nil ?_
      show W _ _ _ _ _ _
      refine W.ret ?_
      repeat (first | refine T.ret ?_ | refine B.ret ?_)
      refine ends.one (.inr rfl) rfl ?_
      exact ⟨rfl, hb⟩
    · refine W.skip ?_
      show W _ _ _ _ _ _
      refine W.seq ?_
      obtain ⟨i, rfl⟩ := Int.eq_ofNat_of_zero_le (show 0 ≤ i by omega)
      obtain ⟨j, rfl⟩ := Int.eq_ofNat_of_zero_le (show 0 ≤ j by omega)
      obtain ⟨k, rfl⟩ := Int.eq_ofNat_of_zero_le (show 0 ≤ k by omega)
      obtain ⟨hi0, hi1, -, -⟩ := hok.at (show i < n by omega)
      refine W.region rfl ?_
      refine L.va (x_mvS rfl) ?_
      refine L.call (x_call1 rfl Try.func14 rfl nm14 rfl) (own_c a n c E w hE hnil hn) ?_
      rintro _ w ⟨fa, fc, rfl, hfc, hF8, hbw⟩
      have hF := own_ev hF8
      have hb := cl_step hb hbw
      have hE := hE.below hbw
      have hP := hP.keep hbw
      refine L.va (x_mvI rfl) ?_
      refine L.va (x_mvI rfl) ?_
      refine L.va (x_mvI rfl) ?_
      refine L.call (x_call4 rfl rfl rfl rfl Try.func19 rfl nm19 rfl) (before_c fa n fc E m i j w hF (by omega)) ?_
      rintro _ w ⟨rfl, hbw⟩
      rw [befA_in hc (show i < n by omega) (show j < n by omega)]
      have hb := cl_step hb hbw
      have hE := hE.below hbw
      have hP := hP.keep hbw
      refine L.va (x_asB rfl) ?_
      refine L.nil ?_
      show W _ _ _ _ _ _
      refine W.seq ?_
      refine W.region rfl ?_
      refine L.va (x_mvS rfl) ?_
      refine L.call (x_call1 rfl Try.func14 rfl nm14 rfl) (own_c a n c E w hE hnil hn) ?_
      rintro _ w ⟨fa, fc, rfl, hfc, hF8, hbw⟩
      have hF := own_ev hF8
      have hb := cl_step hb hbw
      have hE := hE.below hbw
      have hP := hP.keep hbw
      refine L.va (x_mvI rfl) ?_
      refine L.va (x_mvI rfl) ?_
      refine L.va (x_mvI rfl) ?_
      refine L.call (x_call4 rfl rfl rfl rfl Try.func19 rfl nm19 rfl) (before_c fa n fc E m j k w hF (by omega)) ?_
      rintro _ w ⟨rfl, hbw⟩
      rw [befA_in hc (show j < n by omega) (show k < n by omega)]
      have hb := cl_step hb hbw
      have hE := hE.below hbw
      have hP := hP.keep hbw
      refine L.va (x_asB rfl) ?_
      refine L.nil ?_
      show W _ _ _ _ _ _
      refine W.seq ?_
      refine W.region rfl ?_
      refine L.va (x_mvS rfl) ?_
      refine L.call (x_call1 rfl Try.func14 rfl nm14 rfl) (own_c a n c E w hE hnil hn) ?_
      rintro _ w ⟨fa, fc, rfl, hfc, hF8, hbw⟩
      have hF := own_ev hF8
      have hb := cl_step hb hbw
      have hE := hE.below hbw
      have hP := hP.keep hbw
      refine L.va (x_mvI rfl) ?_
      refine L.va (x_mvI rfl) ?_
      refine L.va (x_mvI rfl) ?_
      refine L.call (x_call4 rfl rfl rfl rfl Try.func19 rfl nm19 rfl) (before_c fa n fc E m i k w hF (by omega)) ?_
      rintro _ w ⟨rfl, hbw⟩
      rw [befA_in hc (show i < n by omega) (show k < n by omega)]
      have hb := cl_step hb hbw
      have hE := hE.below hbw
      have hP := hP.keep hbw
      refine L.va (x_asB rfl) ?_
      refine L.nil ?_
      show W _ _ _ _ _ _
      refine W.seq ?_
      refine W.seq ?_
      refine W.region rfl ?_
      refine L.va (x_mvB rfl) ?_
      refine L.va (x_mvB rfl) ?_
      refine L.meetB 2 [85,86,87] 87 (.bool (ahB E i j && ahB E j k)) (tj := 85) rfl (fun hb85 => ?_) (fun hb85 => ?_) (fun f => ?_)
      · refine L.on rfl ?_
        refine L.va (x_mvB rfl) ?_
        refine L.va (x_pickT rfl) ?_
        refine L.nil ?_
        refine ⟨rfl, congrArg Value.bool (by rw [hb85]; rfl), ?_⟩
        exact Agree.upd rfl (Agree.upd rfl (Agree.upd rfl (Agree.refl _ _)))
      · refine L.off rfl ?_
        refine L.va (x_pickF rfl) ?_
        refine L.nil ?_
        refine ⟨rfl, congrArg Value.bool (by rw [hb85]; rfl), ?_⟩
        exact Agree.upd rfl (Agree.upd rfl (Agree.upd rfl (Agree.refl _ _)))
      refine L.va (x_mvB rfl) ?_
      refine L.meetB 3 [88,89,90,91] 91 (.bool false) (tj := 88) rfl (fun hb88 => ?_) (fun hb88 => ?_) (fun f => ?_)
      · refine L.on rfl ?_
        refine L.va (x_mvB rfl) ?_
        refine L.on rfl ?_
        refine L.va (x_not rfl) ?_
        refine L.va (x_pickT rfl) ?_
        refine L.nil ?_
        refine ⟨rfl, congrArg Value.bool (by simp only [Bool.and_eq_true] at hb88; rw [ahB_trans hb88.1 hb88.2]; rfl), ?_⟩
        exact Agree.upd rfl (Agree.upd rfl (Agree.upd rfl (Agree.upd rfl (Agree.refl _ _))))
      · refine L.off rfl ?_
        refine L.off rfl ?_
        refine L.va (x_pickF rfl) ?_
        refine L.nil ?_
        refine ⟨rfl, congrArg Value.bool (rfl), ?_⟩
        exact Agree.upd rfl (Agree.upd rfl (Agree.upd rfl (Agree.upd rfl (Agree.refl _ _))))
      refine L.va (x_mvB rfl) ?_
      refine L.meetB 7 [92,93,94,95,96,97,98,99] 99 (.bool false) (tj := 92) rfl (fun hb92 => ?_) (fun hb92 => ?_) (fun f => ?_)
      · cases hb92
      · refine L.on rfl ?_
        refine L.va (x_mvB rfl) ?_
        refine L.on rfl ?_
        refine L.va (x_mvB rfl) ?_
        refine L.meetB 4 [94,95,96,97,98] 98 (.bool false) (tj := 94) rfl (fun hb94 => ?_) (fun hb94 => ?_) (fun f => ?_)
        · refine L.on rfl ?_
          refine L.va (x_mvI rfl) ?_
          refine L.on rfl ?_
          refine L.va (x_mvI rfl) ?_
          refine L.on rfl ?_
          refine L.va (x_geq rfl rfl) ?_
          refine L.on rfl ?_
          refine L.va (x_pickT rfl) ?_
          refine L.nil ?_
          refine ⟨rfl, congrArg Value.bool (decide_eq_false (by have := ahB_lt hb94; omega)), ?_⟩
          exact Agree.upd rfl (Agree.upd rfl (Agree.upd rfl (Agree.upd rfl (Agree.upd rfl (Agree.refl _ _)))))
        · refine L.off rfl ?_
          refine L.off rfl ?_
          refine L.off rfl ?_
          refine L.on rfl ?_
          refine L.va (x_pickF rfl) ?_
          refine L.nil ?_
          refine ⟨rfl, congrArg Value.bool (rfl), ?_⟩
          exact Agree.upd rfl (Agree.upd rfl (Agree.upd rfl (Agree.upd rfl (Agree.upd rfl (Agree.refl _ _)))))
        refine L.va (x_pickF rfl) ?_
        refine L.nil ?_
        refine ⟨rfl, congrArg Value.bool (rfl), ?_⟩
        exact Agree.upd rfl (Agree.upd rfl (Agree.hav rfl (Agree.upd rfl (Agree.upd rfl (Agree.upd rfl (Agree.refl _ _))))))
      refine L.va (x_mvB rfl) ?_
      refine L.meetW 7 [100,101,102,103,104,105,106,107] 107 (.bool false) (tj := 100) (fun w' => Below w.heap.size w w') rfl (fun hb100 => ?_) (fun hb100 => ?_) (fun f w hm => ?_)
      · cases hb100
      · have hm := Below.refl w.heap.size w
        refine L.on rfl ?_
        refine L.va (x_mvS rfl) ?_
        refine L.on rfl ?_
        refine L.call (x_call1 rfl Try.func14 rfl nm14 rfl) (own_c a n c E w hE hnil hn) ?_
        rintro _ w ⟨fa, fc, rfl, hfc, hF8, hbw⟩
        have hF := own_ev hF8
        have hm := cl_step hm hbw
        refine L.on rfl ?_
        refine L.va (x_mvI rfl) ?_
        refine L.on rfl ?_
        refine L.va (x_mvI rfl) ?_
        refine L.on rfl ?_
        refine L.va (x_mvI rfl) ?_
        refine L.on rfl ?_
        refine L.call (x_call4 rfl rfl rfl rfl Try.func19 rfl nm19 rfl) (before_c fa n fc E m i i w hF (by omega)) ?_
        rintro _ w ⟨rfl, hbw⟩
        have hm := cl_step hm hbw
        refine L.va (x_pickF rfl) ?_
        refine L.nil ?_
        refine ⟨hm, congrArg Value.bool (befA_irr), ?_⟩
        exact Agree.upd rfl (Agree.upd rfl (Agree.upd rfl (Agree.upd rfl (Agree.upd rfl (Agree.upd rfl (Agree.upd rfl (Agree.upd rfl (Agree.refl _ _))))))))
      have hb := cl_step hb hm
      have hE := hE.below hm
      have hP := hP.keep hm
      refine L.nil ?_
      show W _ _ _ _ _ _
      refine W.condF rfl ?_
      refine W.skip ?_
      show W _ _ _ _ _ _
      refine W.seq ?_
      refine W.region rfl ?_
      refine L.va (x_mvS rfl) ?_
      refine L.va (x_mvI rfl) ?_
      refine L.va (x_idx rfl rfl Try.underlying25 sz53 (hE.sl) (by omega)) ?_
      refine L.va (x_field rfl Try.underlying53 rfl sz3 (by decide)) ?_
      refine L.va (x_load rfl Try.underlying3 rfl (hE.c (by omega))) ?_
      refine L.va (x_asI rfl) ?_
      refine L.nil ?_
      show W _ _ _ _ _ _
      refine W.seq ?_
      refine W.seq ?_
      refine W.region rfl ?_
      refine L.va (x_mvI rfl) ?_
      refine L.va (x_lss rfl rfl) ?_
      refine L.va (x_mvB rfl) ?_
      refine L.meetB 8 [115,116,117,118,119,120,121,122,123] 123 (.bool false) (tj := 115) rfl (fun hb115 => ?_) (fun hb115 => ?_) (fun f => ?_)
      · exact absurd (of_decide_eq_true hb115) (by omega)
      · refine L.on rfl ?_
        refine L.va (x_mvI rfl) ?_
        refine L.on rfl ?_
        refine L.va (x_mvS rfl) ?_
        refine L.on rfl ?_
        refine L.va (x_mvI rfl) ?_
        refine L.on rfl ?_
        refine L.va (x_idx rfl rfl Try.underlying27 sz34 (hP.own.sl) (by omega)) ?_
        refine L.on rfl ?_
        refine L.va (x_load rfl Try.underlying34 rfl (by rw [hP.own.off, Nat.zero_add, Nat.mul_one]; exact hP.own.cell (rowsL_get (by omega)))) ?_
        refine L.on rfl ?_
        refine L.va (x_len rfl Try.underlying34 rfl) ?_
        refine L.on rfl ?_
        refine L.va (x_geq rfl rfl) ?_
        refine L.va (x_pickF rfl) ?_
        refine L.nil ?_
        refine ⟨rfl, congrArg Value.bool (decide_eq_false (by omega)), ?_⟩
        exact Agree.upd rfl (Agree.upd rfl (Agree.upd rfl (Agree.upd rfl (Agree.upd rfl (Agree.upd rfl (Agree.upd rfl (Agree.upd rfl (Agree.upd rfl (Agree.refl _ _)))))))))
      refine L.va (x_mvB rfl) ?_
      refine L.meetB 8 [124,125,126,127,128,129,130,131,132] 132 (.bool false) (tj := 124) rfl (fun hb124 => ?_) (fun hb124 => ?_) (fun f => ?_)
      · cases hb124
      · refine L.on rfl ?_
        refine L.va (x_mvI rfl) ?_
        refine L.on rfl ?_
        refine L.va (x_mvS rfl) ?_
        refine L.on rfl ?_
        refine L.va (x_mvI rfl) ?_
        refine L.on rfl ?_
        refine L.va (x_idx rfl rfl Try.underlying27 sz34 (hP.own.sl) (by omega)) ?_
        refine L.on rfl ?_
        refine L.va (x_load rfl Try.underlying34 rfl (by rw [hP.own.off, Nat.zero_add, Nat.mul_one]; exact hP.own.cell (rowsL_get (by omega)))) ?_
        refine L.on rfl ?_
        refine L.va (x_len rfl Try.underlying34 rfl) ?_
        refine L.on rfl ?_
        refine L.va (x_geq rfl rfl) ?_
        refine L.va (x_pickF rfl) ?_
        refine L.nil ?_
        refine ⟨rfl, congrArg Value.bool (decide_eq_false (by omega)), ?_⟩
        exact Agree.upd rfl (Agree.upd rfl (Agree.upd rfl (Agree.upd rfl (Agree.upd rfl (Agree.upd rfl (Agree.upd rfl (Agree.upd rfl (Agree.upd rfl (Agree.refl _ _)))))))))
      refine L.nil ?_
      show W _ _ _ _ _ _
      refine W.condF rfl ?_
      refine W.skip ?_
      show W _ _ _ _ _ _
      refine W.seq ?_
      refine W.quiet (fun w' => Below w.heap.size w w') (by kernel_rfl) (by kernel_rfl) ((Below.refl w.heap.size w).drew) ?_
      refine D.va (fun w' hw' => (x_mvB rfl)) ?_
      refine D.va (fun w' hw' => (x_mvI rfl)) ?_
      refine D.va (fun w' hw' => (x_mvI rfl)) ?_
      refine D.va (fun w' hw' => (x_neq rfl rfl)) ?_
      refine D.va (fun w' hw' => (x_mvB rfl)) ?_
      refine D.meetB 16 [137,138,139,140,141,142,143,144,145,146,147,148,149,150,151,152,153] 153 (.bool (ahB E i j)) (tj := 137) rfl (fun hb137 => ?_) (fun hb137 => ?_) (fun f => ?_)
      · refine D.on rfl ?_
        refine D.va (fun w' hw' => (x_mvS rfl)) ?_
        refine D.on rfl ?_
        refine D.va (fun w' hw' => (x_mvI rfl)) ?_
        refine D.on rfl ?_
        refine D.va (fun w' hw' => (x_idx rfl rfl Try.underlying27 sz34 (hP.own.sl) (by omega))) ?_
        refine D.on rfl ?_
        refine D.va (fun w' hw' => (x_load rfl Try.underlying34 rfl (bl0 hw' (by rw [hP.own.off, Nat.zero_add, Nat.mul_one]; exact hP.own.cell (rowsL_get (by omega)))))) ?_
        refine D.on rfl ?_
        refine D.va (fun w' hw' => (x_mvI rfl)) ?_
        refine D.on rfl ?_
        refine D.va (fun w' hw' => (x_idxI rfl rfl Try.underlying34 sz3 ((SL.mk _ _ _)) (by omega) (by omega))) ?_
        refine D.on rfl ?_
        refine D.va (fun w' hw' => (x_load rfl Try.underlying3 rfl (bl0 hw' (by show w.cell? ⟨R j, 0 + (E i).c.toNat * 1, none⟩ = some _; rw [Nat.zero_add, Nat.mul_one]; exact (hP.row j (by omega)).cell (by rw [Array.getElem?_toList]; exact arr_get (by omega)))))) ?_
        refine D.on rfl ?_
        refine D.va (fun w' hw' => (x_mvS rfl)) ?_
        refine D.on rfl ?_
        refine D.va (fun w' hw' => (x_mvI rfl)) ?_
        refine D.on rfl ?_
        refine D.va (fun w' hw' => (x_idx rfl rfl Try.underlying27 sz34 (hP.own.sl) (by omega))) ?_
        refine D.on rfl ?_
        refine D.va (fun w' hw' => (x_load rfl Try.underlying34 rfl (bl0 hw' (by rw [hP.own.off, Nat.zero_add, Nat.mul_one]; exact hP.own.cell (rowsL_get (by omega)))))) ?_
        refine D.on rfl ?_
        refine D.va (fun w' hw' => (x_mvI rfl)) ?_
        refine D.on rfl ?_
        refine D.va (fun w' hw' => (x_idxI rfl rfl Try.underlying34 sz3 ((SL.mk _ _ _)) (by omega) (by omega))) ?_
        refine D.on rfl ?_
        refine D.va (fun w' hw' => (x_load rfl Try.underlying3 rfl (bl0 hw' (by show w.cell? ⟨R i, 0 + (E i).c.toNat * 1, none⟩ = some _; rw [Nat.zero_add, Nat.mul_one]; exact (hP.row i (by omega)).cell (by rw [Array.getElem?_toList]; exact arr_get (by omega)))))) ?_
        refine D.on rfl ?_
        refine D.va (fun w' hw' => (x_geq rfl rfl)) ?_
        refine D.va (fun w' hw' => (x_pickT rfl)) ?_
        refine D.nil ?_
        refine ⟨congrArg Value.bool (ahB_ne hok (by omega) (by omega) (by have := of_decide_eq_true hb137; omega)), ?_⟩
        exact Agree.upd rfl (Agree.upd rfl (Agree.upd rfl (Agree.upd rfl (Agree.upd rfl (Agree.upd rfl (Agree.upd rfl (Agree.upd rfl (Agree.upd rfl (Agree.upd rfl (Agree.upd rfl (Agree.upd rfl (Agree.upd rfl (Agree.upd rfl (Agree.upd rfl (Agree.upd rfl (Agree.upd rfl (Agree.refl _ _)))))))))))))))))
      · refine D.off rfl ?_
        refine D.off rfl ?_
        refine D.off rfl ?_
        refine D.off rfl ?_
        refine D.off rfl ?_
        refine D.off rfl ?_
        refine D.off rfl ?_
        refine D.off rfl ?_
        refine D.off rfl ?_
        refine D.off rfl ?_
        refine D.off rfl ?_
        refine D.off rfl ?_
        refine D.off rfl ?_
        refine D.off rfl ?_
        refine D.off rfl ?_
        refine D.va (fun w' hw' => (x_pickF rfl)) ?_
        refine D.nil ?_
        refine ⟨congrArg Value.bool (by rw [show i = j by have h9 := of_decide_eq_false hb137; omega, ahB_irr]), ?_⟩
        exact Agree.upd rfl (Agree.upd rfl (Agree.upd rfl (Agree.upd rfl (Agree.upd rfl (Agree.upd rfl (Agree.upd rfl (Agree.upd rfl (Agree.upd rfl (Agree.upd rfl (Agree.upd rfl (Agree.upd rfl (Agree.upd rfl (Agree.upd rfl (Agree.upd rfl (Agree.upd rfl (Agree.upd rfl (Agree.refl _ _)))))))))))))))))
      refine D.va (fun w' hw' => x_eqB rfl rfl) ?_
      refine D.va (fun w' hw' => (x_mvB rfl)) ?_
      refine D.meetB 2 [155,156,157] 157 (.bool true) (tj := 155) rfl (fun hb155 => ?_) (fun hb155 => ?_) (fun f => ?_)
      · refine D.on rfl ?_
        refine D.call (fun w' hw' => (x_call0  Try.func13 rfl nm13 rfl)) (fun w' hw' => (live_c w').mono (fun v w'' h => ⟨h.1, cl_step hw' h.2⟩)) ?_
        refine D.va (fun w' hw' => (x_pickT rfl)) ?_
        refine D.nil ?_
        refine ⟨congrArg Value.bool (rfl), ?_⟩
        exact Agree.upd rfl (Agree.upd rfl (Agree.upd rfl (Agree.refl _ _)))
      · exact absurd hb155 (by simp)
      refine D.va (fun w' hw' => (x_asB rfl)) ?_
      refine D.nil ?_
      intro w' hw'
      have hb := cl_step hb hw'
      show W _ _ _ _ _ _
      refine W.ret ?_
      repeat (first | refine T.ret ?_ | refine B.ret ?_)
      refine ends.one (.inr rfl) rfl ?_
      exact ⟨rfl, hb⟩

end Go.Proofs.Ytlopdjbehhdmpaa
