/- The law on what the clocks tell: what the Go text returns. -/
import Derived.Test.YtlopdjbehhdmpaaBase11
namespace Go.Proofs.Ytlopdjbehhdmpaa
open Go.Vc Go.RowKit

theorem tells_l1 (a : Option Addr) (n c : Nat) (E : Nat → Ev) (cl : Int) (w0 : World) (hE : EvAt w0 a n E) (hnil : a = none → n = 0 ∧ c = 0) (hn : n + 8 ≤ 4398046511104) (hc : check E n cl ≠ 0) :
    C Try.prog 4 #[.slice a n c, .int .i64 cl] w0 fun v w' => v = .bool true ∧ Below w0.heap.size w0 w' := by
  refine C.enter (n := 105) Try.func4 rfl rfl ?_
  have hb : Below w0.heap.size w0 w0 := Below.refl _ _
  refine W.seq ?_
  refine W.region rfl ?_
  refine L.va (x_asB rfl) ?_
  refine L.nil ?_
  show W _ _ _ _ _ _
  refine W.seq ?_
  refine W.seq ?_
  refine W.region rfl ?_
  refine L.va (x_mvS rfl) ?_
  refine L.va (x_len rfl Try.underlying25 rfl) ?_
  refine L.va (x_gtr rfl rfl) ?_
  refine L.va (x_mvB rfl) ?_
  refine L.meetB 4 [18,19,20,21,22] 22 (.bool (decide ((n : Int) > 200 ∧ (n : Int) ≤ 1048576))) (tj := 18) rfl (fun hb18 => ?_) (fun hb18 => ?_) (fun f => ?_)
  · refine L.on rfl ?_
    refine L.va (x_mvS rfl) ?_
    refine L.on rfl ?_
    refine L.va (x_len rfl Try.underlying25 rfl) ?_
    refine L.on rfl ?_
    refine L.va (x_leq rfl rfl) ?_
    refine L.va (x_pickT rfl) ?_
    refine L.nil ?_
    refine ⟨rfl, congrArg Value.bool (by first | exact and_t hb18 | (simp_all; done) | (rw [Bool.eq_iff_iff]; simp_all; omega)), ?_⟩
    exact Agree.upd rfl (Agree.upd rfl (Agree.upd rfl (Agree.upd rfl (Agree.upd rfl (Agree.refl _ _)))))
  · refine L.off rfl ?_
    refine L.off rfl ?_
    refine L.off rfl ?_
    refine L.va (x_pickF rfl) ?_
    refine L.nil ?_
    refine ⟨rfl, congrArg Value.bool (by first | exact and_f hb18 | (simp_all; done) | (rw [Bool.eq_iff_iff]; simp_all; omega)), ?_⟩
    exact Agree.upd rfl (Agree.upd rfl (Agree.upd rfl (Agree.upd rfl (Agree.upd rfl (Agree.refl _ _)))))
  refine L.nil ?_
  show W _ _ _ _ _ _
  refine W.condP rfl (fun h22 => ?_) (fun h22 => ?_)
  · refine W.seq ?_
    refine W.region rfl ?_
    refine L.va (x_asB rfl) ?_
    refine L.nil ?_
    show W _ _ _ _ _ _
    refine W.ret ?_
    repeat (first | refine T.ret ?_ | refine B.ret ?_)
    refine ends.one (.inr rfl) rfl ?_
    exact ⟨rfl, hb⟩
  · refine W.skip ?_
    show W _ _ _ _ _ _
    refine W.seq ?_
    refine W.region rfl ?_
    refine L.va (x_mvS rfl) ?_
    refine L.call (x_call1 rfl Try.func14 rfl nm14 rfl) (own_c a n c E w0 hE hnil hn) ?_
    rintro _ w ⟨fa, fc, rfl, hfc, hF8, hb⟩
    have hF := own_ev hF8
    have hE := hE.below hb
    refine L.va (x_asS rfl) ?_
    refine L.nil ?_
    show W _ _ _ _ _ _
    refine W.seq ?_
    refine W.region rfl ?_
    refine L.va (x_mvS rfl) ?_
    refine L.va (x_mvI rfl) ?_
    refine L.call (x_call2 rfl rfl Try.func15 rfl nm15 rfl) (pclocks_no fa n fc E cl w hF (by omega) hc) ?_
    rintro _ w ⟨rfl, hbw⟩
    have hb := cl_step hb hbw
    have hE := hE.below hbw
    have hF8 := hF8.below hbw
    refine L.va (x_mvT rfl) ?_
    refine L.va (x_extract rfl rfl) ?_
    refine L.va (x_extract rfl rfl) ?_
    refine L.va (x_asS rfl) ?_
    refine L.va (x_asI rfl) ?_
    refine L.nil ?_
    show W _ _ _ _ _ _
    refine W.seq ?_
    refine W.region rfl ?_
    refine L.va (x_mvS rfl) ?_
    refine L.va (x_mvI rfl) ?_
    refine L.call (x_call2 rfl rfl Try.func15 rfl nm15 rfl) (pclocks_no fa n fc E cl w (own_ev hF8) (by omega) hc) ?_
    rintro _ w ⟨rfl, hbw⟩
    have hb := cl_step hb hbw
    have hE := hE.below hbw
    have hF8 := hF8.below hbw
    refine L.va (x_mvT rfl) ?_
    refine L.va (x_extract rfl rfl) ?_
    refine L.va (x_extract rfl rfl) ?_
    refine L.va (x_asS rfl) ?_
    refine L.va (x_asI rfl) ?_
    refine L.nil ?_
    show W _ _ _ _ _ _
    refine W.seq ?_
    refine W.region rfl ?_
    refine L.va (x_mvS rfl) ?_
    refine L.va (x_mvI rfl) ?_
    refine L.call (x_call2 rfl rfl Try.func16 rfl nm16 rfl) (rclocks_no a n c E cl w hE (by omega) hc) ?_
    rintro _ w ⟨rfl, hbw⟩
    have hb := cl_step hb hbw
    have hE := hE.below hbw
    have hF8 := hF8.below hbw
    refine L.va (x_mvT rfl) ?_
    refine L.va (x_extract rfl rfl) ?_
    refine L.va (x_extract rfl rfl) ?_
    refine L.va (x_asS rfl) ?_
    refine L.va (x_asI rfl) ?_
    refine L.nil ?_
    show W _ _ _ _ _ _
    refine W.seq ?_
    refine W.seq ?_
    refine W.region rfl ?_
    refine L.va (x_mvI rfl) ?_
    refine L.call (x_call1 rfl Try.func12 rfl nm12 rfl) (num_c _ _) ?_
    rintro _ w1 ⟨rfl, hw⟩
    rw [hw]
    clear hw w1
    refine L.va (x_mvI rfl) ?_
    refine L.va (x_neq rfl rfl) ?_
    refine L.va (x_mvB rfl) ?_
    refine L.meetW 5 [47,48,49,50,51,52] 52 (.bool false) (tj := 47) (fun w' => Below w.heap.size w w') rfl (fun hb47 => ?_) (fun hb47 => ?_) (fun f w hm => ?_)
    · exact absurd hb47 (by simp)
    · have hm := Below.refl w.heap.size w
      refine L.on rfl ?_
      refine L.va (x_mvS rfl) ?_
      refine L.on rfl ?_
      refine L.va (x_mvS rfl) ?_
      refine L.on rfl ?_
      refine L.call (x_call2 rfl rfl Try.func17 rfl nm17 rfl) (same_c none none 0 0 0 0 (fun _ _ => 0) w (RowsAt.nil _ _ _ _) (RowsAt.nil _ _ _ _) (by omega) (by omega)) ?_
      rintro _ w ⟨rfl, hbw⟩
      have hm := cl_step hm hbw
      refine L.on rfl ?_
      refine L.va (x_not rfl) ?_
      refine L.va (x_pickF rfl) ?_
      refine L.nil ?_
      refine ⟨hm, congrArg Value.bool (rfl), ?_⟩
      exact Agree.upd rfl (Agree.upd rfl (Agree.upd rfl (Agree.upd rfl (Agree.upd rfl (Agree.upd rfl (Agree.refl _ _))))))
    have hb := cl_step hb hm
    have hE := hE.below hm
    have hF8 := hF8.below hm
    refine L.va (x_mvB rfl) ?_
    refine L.meetW 5 [53,54,55,56,57,58] 58 (.bool false) (tj := 53) (fun w' => Below w.heap.size w w') rfl (fun hb53 => ?_) (fun hb53 => ?_) (fun f w hm => ?_)
    · cases hb53
    · have hm := Below.refl w.heap.size w
      refine L.on rfl ?_
      refine L.va (x_mvS rfl) ?_
      refine L.on rfl ?_
      refine L.va (x_mvS rfl) ?_
      refine L.on rfl ?_
      refine L.call (x_call2 rfl rfl Try.func17 rfl nm17 rfl) (same_c none none 0 0 0 0 (fun _ _ => 0) w (RowsAt.nil _ _ _ _) (RowsAt.nil _ _ _ _) (by omega) (by omega)) ?_
      rintro _ w ⟨rfl, hbw⟩
      have hm := cl_step hm hbw
      refine L.on rfl ?_
      refine L.va (x_not rfl) ?_
      refine L.va (x_pickF rfl) ?_
      refine L.nil ?_
      refine ⟨hm, congrArg Value.bool (rfl), ?_⟩
      exact Agree.upd rfl (Agree.upd rfl (Agree.upd rfl (Agree.upd rfl (Agree.upd rfl (Agree.upd rfl (Agree.refl _ _))))))
    have hb := cl_step hb hm
    have hE := hE.below hm
    have hF8 := hF8.below hm
    refine L.va (x_mvB rfl) ?_
    refine L.meetW 5 [59,60,61,62,63,64] 64 (.bool false) (tj := 59) (fun w' => Below w.heap.size w w') rfl (fun hb59 => ?_) (fun hb59 => ?_) (fun f w hm => ?_)
    · cases hb59
    · have hm := Below.refl w.heap.size w
      refine L.on rfl ?_
      refine L.va (x_mvS rfl) ?_
      refine L.on rfl ?_
      refine L.va (x_mvS rfl) ?_
      refine L.on rfl ?_
      refine L.call (x_call2 rfl rfl Try.func18 rfl nm18 rfl) (kept_c a n c E fa fc w hE hF8 hfc (by omega)) ?_
      rintro _ w ⟨rfl, hbw⟩
      have hm := cl_step hm hbw
      refine L.on rfl ?_
      refine L.va (x_not rfl) ?_
      refine L.va (x_pickF rfl) ?_
      refine L.nil ?_
      refine ⟨hm, congrArg Value.bool (rfl), ?_⟩
      exact Agree.upd rfl (Agree.upd rfl (Agree.upd rfl (Agree.upd rfl (Agree.upd rfl (Agree.upd rfl (Agree.refl _ _))))))
    have hb := cl_step hb hm
    have hE := hE.below hm
    have hF8 := hF8.below hm
    refine L.nil ?_
    show W _ _ _ _ _ _
    refine W.condF rfl ?_
    refine W.skip ?_
    show W _ _ _ _ _ _
    refine W.seq ?_
    refine W.seq ?_
    refine W.region rfl ?_
    refine L.va (x_asI rfl) ?_
    refine L.nil ?_
    show W _ _ _ _ _ _
    refine W.block ?_
    refine W.loop (fun k e w => k = 0 ∧ e 6 = .slice none 0 0 ∧ e 8 = .slice none 0 0 ∧ e 10 = .slice none 0 0 ∧ e 12 = .int .i64 ((0 : Nat) : Int) ∧ Below w0.heap.size w0 w) _ ⟨rfl, rfl, rfl, rfl, rfl, hb⟩ ?_
    rintro k e w ⟨hk, s6, s8, s10, s12, hb⟩
    rw [upd_id s6, upd_id s8, upd_id s10, upd_id s12]
    clear s6 s8 s10 s12
    clear hE hF8
    refine W.seq ?_
    refine W.seq ?_
    refine W.region rfl ?_
    refine L.va (x_mvI rfl) ?_
    refine L.va (x_mvS rfl) ?_
    refine L.va (x_len rfl Try.underlying27 rfl) ?_
    refine L.va (x_lss rfl rfl) ?_
    refine L.nil ?_
    show W _ _ _ _ _ _
    refine W.condF (rb (decide_eq_false (by omega))) ?_
    refine W.exit ?_
    repeat (first | refine T.exit ?_ | refine B.exitNe (by decide) ?_)
    refine B.exitEq ?_
    show W _ _ _ _ _ _
    refine W.seq ?_
    refine W.region rfl ?_
    refine L.va (x_mvS rfl) ?_
    refine L.va (x_mvS rfl) ?_
    refine L.call (x_call2 rfl rfl Try.func17 rfl nm17 rfl) (same_c none none 0 0 0 0 (fun _ _ => 0) w (RowsAt.nil _ _ _ _) (RowsAt.nil _ _ _ _) (by omega) (by omega)) ?_
    rintro _ w ⟨rfl, hbw⟩
    have hb := cl_step hb hbw
    refine L.va (x_mvB rfl) ?_
    refine L.meetW 2 [102,103,104] 104 (.bool true) (tj := 102) (fun w' => Below w.heap.size w w') rfl (fun hb102 => ?_) (fun hb102 => ?_) (fun f w hm => ?_)
    · have hm := Below.refl w.heap.size w
      refine L.on rfl ?_
      refine L.call (x_call0  Try.func13 rfl nm13 rfl) (live_c w) ?_
      rintro _ w ⟨rfl, hbw⟩
      have hm := cl_step hm hbw
      refine L.va (x_pickT rfl) ?_
      refine L.nil ?_
      refine ⟨hm, congrArg Value.bool (rfl), ?_⟩
      exact Agree.upd rfl (Agree.upd rfl (Agree.upd rfl (Agree.refl _ _)))
    · cases hb102
    have hb := cl_step hb hm
    refine L.va (x_asB rfl) ?_
    refine L.nil ?_
    show W _ _ _ _ _ _
    refine W.ret ?_
    repeat (first | refine T.ret ?_ | refine B.ret ?_)
    refine ends.one (.inr rfl) rfl ?_
    exact ⟨rfl, hb⟩

set_option maxHeartbeats 1000000 in
theorem tells_l0 (a : Option Addr) (n c : Nat) (E : Nat → Ev) (m : Nat) (w0 : World) (hE : EvAt w0 a n E) (hnil : a = none → n = 0 ∧ c = 0) (hn : n + 8 ≤ 4398046511104) (hc : check E n (m : Int) = 0) :
    C Try.prog 4 #[.slice a n c, .int .i64 (m : Int)] w0 fun v w' => v = .bool true ∧ Below w0.heap.size w0 w' := by
  refine C.enter (n := 105) Try.func4 rfl rfl ?_
  have hb : Below w0.heap.size w0 w0 := Below.refl _ _
  obtain ⟨-, hm16, hn20, hok⟩ := check_zero hc
  have hcl : ∀ i, i < n → 0 ≤ (E i).c := fun i hi => (hok.at hi).1
  refine W.seq ?_
  refine W.region rfl ?_
  refine L.va (x_asB rfl) ?_
  refine L.nil ?_
  show W _ _ _ _ _ _
  refine W.seq ?_
  refine W.seq ?_
  refine W.region rfl ?_
  refine L.va (x_mvS rfl) ?_
  refine L.va (x_len rfl Try.underlying25 rfl) ?_
  refine L.va (x_gtr rfl rfl) ?_
  refine L.va (x_mvB rfl) ?_
  refine L.meetB 4 [18,19,20,21,22] 22 (.bool (decide ((n : Int) > 200 ∧ (n : Int) ≤ 1048576))) (tj := 18) rfl (fun hb18 => ?_) (fun hb18 => ?_) (fun f => ?_)
  · refine L.on rfl ?_
    refine L.va (x_mvS rfl) ?_
    refine L.on rfl ?_
    refine L.va (x_len rfl Try.underlying25 rfl) ?_
    refine L.on rfl ?_
    refine L.va (x_leq rfl rfl) ?_
    refine L.va (x_pickT rfl) ?_
    refine L.nil ?_
    refine ⟨rfl, congrArg Value.bool (by first | exact and_t hb18 | (simp_all; done) | (rw [Bool.eq_iff_iff]; simp_all; omega)), ?_⟩
    exact Agree.upd rfl (Agree.upd rfl (Agree.upd rfl (Agree.upd rfl (Agree.upd rfl (Agree.refl _ _)))))
  · refine L.off rfl ?_
    refine L.off rfl ?_
    refine L.off rfl ?_
    refine L.va (x_pickF rfl) ?_
    refine L.nil ?_
    refine ⟨rfl, congrArg Value.bool (by first | exact and_f hb18 | (simp_all; done) | (rw [Bool.eq_iff_iff]; simp_all; omega)), ?_⟩
    exact Agree.upd rfl (Agree.upd rfl (Agree.upd rfl (Agree.upd rfl (Agree.upd rfl (Agree.refl _ _)))))
  refine L.nil ?_
  show W _ _ _ _ _ _
  refine W.condP rfl (fun h22 => ?_) (fun h22 => ?_)
  · refine W.seq ?_
    refine W.region rfl ?_
    refine L.va (x_asB rfl) ?_
    refine L.nil ?_
    show W _ _ _ _ _ _
    refine W.ret ?_
    repeat (first | refine T.ret ?_ | refine B.ret ?_)
    refine ends.one (.inr rfl) rfl ?_
    exact ⟨rfl, hb⟩
  · refine W.skip ?_
    show W _ _ _ _ _ _
    refine W.seq ?_
    refine W.region rfl ?_
    refine L.va (x_mvS rfl) ?_
    refine L.call (x_call1 rfl Try.func14 rfl nm14 rfl) (own_c a n c E w0 hE hnil hn) ?_
    rintro _ w ⟨fa, fc, rfl, hfc, hF8, hb⟩
    have hF := own_ev hF8
    have hE := hE.below hb
    obtain ⟨lo, hlo⟩ : ∃ x, x = w.heap.size := ⟨_, rfl⟩
    have hlo0 : w0.heap.size ≤ lo := by rw [hlo]; exact hb.size
    refine L.va (x_asS rfl) ?_
    refine L.nil ?_
    show W _ _ _ _ _ _
    refine W.seq ?_
    refine W.region rfl ?_
    refine L.va (x_mvS rfl) ?_
    refine L.va (x_mvI rfl) ?_
    refine L.call (x_call2 rfl rfl Try.func15 rfl nm15 rfl) (pclocks_ok fa n fc E m w hF hc) ?_
    rintro _ w ⟨oa, oc, R, CC, rfl, hP, hbw⟩
    rw [← hlo] at hP
    obtain ⟨hi, hhi⟩ : ∃ x, x = w.heap.size := ⟨_, rfl⟩
    have hA := fun h0 : 0 < n => AS.of1 hP h0 (Nat.le_of_eq hhi.symm)
    have hba := fun h0 : 0 < n => outer_in hP h0 (Nat.le_of_eq hhi.symm)
    have hoff := hP.own.off
    have hsl := hP.own.sl
    have hb := cl_step hb hbw
    have hE := hE.below hbw
    have hF8 := hF8.below hbw
    refine L.va (x_mvT rfl) ?_
    refine L.va (x_extract rfl rfl) ?_
    refine L.va (x_extract rfl rfl) ?_
    refine L.va (x_asS rfl) ?_
    refine L.va (x_asI rfl) ?_
    refine L.nil ?_
    show W _ _ _ _ _ _
    refine W.seq ?_
    refine W.region rfl ?_
    refine L.va (x_mvS rfl) ?_
    refine L.va (x_mvI rfl) ?_
    refine L.call (x_call2 rfl rfl Try.func15 rfl nm15 rfl) (pclocks_ok fa n fc E m w (own_ev hF8) hc) ?_
    rintro _ w ⟨ob, od, R2, CC2, rfl, hQ, hbw⟩
    rw [← hhi] at hQ
    have hsz : hi ≤ w.heap.size := by rw [hhi]; exact hbw.size
    have hb := cl_step hb hbw
    have hE := hE.below hbw
    have hF8 := hF8.below hbw
    have hA := fun h0 : 0 < n => (hA h0).keep hbw
    have hP := hP.keep hbw
    refine L.va (x_mvT rfl) ?_
    refine L.va (x_extract rfl rfl) ?_
    refine L.va (x_extract rfl rfl) ?_
    refine L.va (x_asS rfl) ?_
    refine L.va (x_asI rfl) ?_
    refine L.nil ?_
    show W _ _ _ _ _ _
    refine W.seq ?_
    refine W.region rfl ?_
    refine L.va (x_mvS rfl) ?_
    refine L.va (x_mvI rfl) ?_
    refine L.call (x_call2 rfl rfl Try.func16 rfl nm16 rfl) (rclocks_okm a n c E m w hE hc) ?_
    rintro _ w ⟨ow, oq, R3, CC3, Bq, hB0, rfl, hM, hbw⟩
    have hB : hi ≤ Bq := Nat.le_trans hsz hB0
    have hb := cl_step hb hbw
    have hE := hE.below hbw
    have hF8 := hF8.below hbw
    have hA := fun h0 : 0 < n => (hA h0).keep hbw
    have hP := hP.keep hbw
    have hQ := hQ.keep hbw
    refine L.va (x_mvT rfl) ?_
    refine L.va (x_extract rfl rfl) ?_
    refine L.va (x_extract rfl rfl) ?_
    refine L.va (x_asS rfl) ?_
    refine L.va (x_asI rfl) ?_
    refine L.nil ?_
    show W _ _ _ _ _ _
    refine W.seq ?_
    refine W.seq ?_
    refine W.region rfl ?_
    refine L.va (x_mvI rfl) ?_
    refine L.call (x_call1 rfl Try.func12 rfl nm12 rfl) (num_c _ _) ?_
    rintro _ w1 ⟨rfl, hw⟩
    rw [hw]
    clear hw w1
    refine L.va (x_mvI rfl) ?_
    refine L.va (x_neq rfl rfl) ?_
    refine L.va (x_mvB rfl) ?_
    refine L.meetW 5 [47,48,49,50,51,52] 52 (.bool false) (tj := 47) (fun w' => Below w.heap.size w w') rfl (fun hb47 => ?_) (fun hb47 => ?_) (fun f w hm => ?_)
    · exact absurd hb47 (by simp)
    · have hm := Below.refl w.heap.size w
      refine L.on rfl ?_
      refine L.va (x_mvS rfl) ?_
      refine L.on rfl ?_
      refine L.va (x_mvS rfl) ?_
      refine L.on rfl ?_
      refine L.call (x_call2 rfl rfl Try.func17 rfl nm17 rfl) (same_c oa ow n m oc oq (fun i k => (rclk E i k : Int)) w (clk_ints hcl hP.rows) (hM.rows (fun i k _ hk => arr_get hk)) (by omega) (by omega)) ?_
      rintro _ w ⟨rfl, hbw⟩
      have hm := cl_step hm hbw
      refine L.on rfl ?_
      refine L.va (x_not rfl) ?_
      refine L.va (x_pickF rfl) ?_
      refine L.nil ?_
      refine ⟨hm, congrArg Value.bool (rfl), ?_⟩
      exact Agree.upd rfl (Agree.upd rfl (Agree.upd rfl (Agree.upd rfl (Agree.upd rfl (Agree.upd rfl (Agree.refl _ _))))))
    have hb := cl_step hb hm
    have hE := hE.below hm
    have hF8 := hF8.below hm
    have hA := fun h0 : 0 < n => (hA h0).keep hm
    have hP := hP.keep hm
    have hQ := hQ.keep hm
    have hM := hM.keep hm
    refine L.va (x_mvB rfl) ?_
    refine L.meetW 5 [53,54,55,56,57,58] 58 (.bool false) (tj := 53) (fun w' => Below w.heap.size w w') rfl (fun hb53 => ?_) (fun hb53 => ?_) (fun f w hm => ?_)
    · cases hb53
    · have hm := Below.refl w.heap.size w
      refine L.on rfl ?_
      refine L.va (x_mvS rfl) ?_
      refine L.on rfl ?_
      refine L.va (x_mvS rfl) ?_
      refine L.on rfl ?_
      refine L.call (x_call2 rfl rfl Try.func17 rfl nm17 rfl) (same_c ob ow n m od oq (fun i k => (rclk E i k : Int)) w (clk_ints hcl hQ.rows) (hM.rows (fun i k _ hk => arr_get hk)) (by omega) (by omega)) ?_
      rintro _ w ⟨rfl, hbw⟩
      have hm := cl_step hm hbw
      refine L.on rfl ?_
      refine L.va (x_not rfl) ?_
      refine L.va (x_pickF rfl) ?_
      refine L.nil ?_
      refine ⟨hm, congrArg Value.bool (rfl), ?_⟩
      exact Agree.upd rfl (Agree.upd rfl (Agree.upd rfl (Agree.upd rfl (Agree.upd rfl (Agree.upd rfl (Agree.refl _ _))))))
    have hb := cl_step hb hm
    have hE := hE.below hm
    have hF8 := hF8.below hm
    have hA := fun h0 : 0 < n => (hA h0).keep hm
    have hP := hP.keep hm
    have hQ := hQ.keep hm
    have hM := hM.keep hm
    refine L.va (x_mvB rfl) ?_
    refine L.meetW 5 [59,60,61,62,63,64] 64 (.bool false) (tj := 59) (fun w' => Below w.heap.size w w') rfl (fun hb59 => ?_) (fun hb59 => ?_) (fun f w hm => ?_)
    · cases hb59
    · have hm := Below.refl w.heap.size w
      refine L.on rfl ?_
      refine L.va (x_mvS rfl) ?_
      refine L.on rfl ?_
      refine L.va (x_mvS rfl) ?_
      refine L.on rfl ?_
      refine L.call (x_call2 rfl rfl Try.func18 rfl nm18 rfl) (kept_c a n c E fa fc w hE hF8 hfc (by omega)) ?_
      rintro _ w ⟨rfl, hbw⟩
      have hm := cl_step hm hbw
      refine L.on rfl ?_
      refine L.va (x_not rfl) ?_
      refine L.va (x_pickF rfl) ?_
      refine L.nil ?_
      refine ⟨hm, congrArg Value.bool (rfl), ?_⟩
      exact Agree.upd rfl (Agree.upd rfl (Agree.upd rfl (Agree.upd rfl (Agree.upd rfl (Agree.upd rfl (Agree.refl _ _))))))
    have hb := cl_step hb hm
    have hE := hE.below hm
    have hF8 := hF8.below hm
    have hA := fun h0 : 0 < n => (hA h0).keep hm
    have hP := hP.keep hm
    have hQ := hQ.keep hm
    have hM := hM.keep hm
    refine L.nil ?_
    show W _ _ _ _ _ _
    refine W.condF rfl ?_
    refine W.skip ?_
    show W _ _ _ _ _ _
    refine W.seq ?_
    refine W.seq ?_
    refine W.region rfl ?_
    refine L.va (x_asI rfl) ?_
    refine L.nil ?_
    show W _ _ _ _ _ _
    refine W.block ?_
    clear hE hF hF8
    rename World => w2
    refine W.loop (fun k e w => ∃ i : Nat, k = n - i ∧ e 6 = .slice oa n oc ∧ e 8 = .slice ob n od ∧ e 10 = .slice ow n oq ∧ e 12 = .int .i64 (i : Int) ∧ Keep w2 w lo hi ∧ i ≤ n ∧ (i < n → AS w lo hi (ab oa) n m R CC i)) _ ⟨0, rfl, rfl, rfl, rfl, rfl, Keep.refl _ _ _, Nat.zero_le _, hA⟩ ?_
    rintro k e w ⟨i, hk, s6, s8, s10, s12, hk, hin, hA⟩
    rw [upd_id s6, upd_id s8, upd_id s10, upd_id s12]
    clear s6 s8 s10 s12
    refine W.seq ?_
    refine W.seq ?_
    refine W.region rfl ?_
    refine L.va (x_mvI rfl) ?_
    refine L.va (x_mvS rfl) ?_
    refine L.va (x_len rfl Try.underlying27 rfl) ?_
    refine L.va (x_lss rfl rfl) ?_
    refine L.nil ?_
    show W _ _ _ _ _ _
    refine W.condP rfl (fun h68 => ?_) (fun h68 => ?_)
    · refine W.skip ?_
      show W _ _ _ _ _ _
      refine W.seq ?_
      refine W.block ?_
      refine W.seq ?_
      refine W.seq ?_
      refine W.region rfl ?_
      refine L.va (x_asI rfl) ?_
      refine L.nil ?_
      show W _ _ _ _ _ _
      refine W.block ?_
      have hi_ : i < n := by omega
      have hA := hA hi_
      have hba := hba (by omega)
      refine W.loop (fun k e w => ∃ j : Nat, k = m - j ∧ e 6 = .slice oa n oc ∧ e 8 = .slice ob n od ∧ e 10 = .slice ow n oq ∧ e 12 = .int .i64 (i : Int) ∧ e 13 = .int .i64 (j : Int) ∧ Keep w2 w lo hi ∧ j ≤ m ∧ AS w lo hi (ab oa) n m R CC i) _ ⟨0, rfl, rfl, rfl, rfl, rfl, rfl, hk, Nat.zero_le _, hA⟩ ?_
      rintro k e w ⟨j, hk, s6, s8, s10, s12, s13, hk, hjm, hA⟩
      rw [upd_id s6, upd_id s8, upd_id s10, upd_id s12, upd_id s13]
      clear s6 s8 s10 s12 s13
      have hcell := hA.cell i (Nat.le_refl _) hi_
      obtain ⟨⟨hr1, hr2⟩, hr3, hr4, cur, hR, hRs⟩ := hA.rows i (Nat.le_refl _) hi_
      refine W.seq ?_
      refine W.seq ?_
      refine W.region rfl ?_
      refine L.va (x_mvI rfl) ?_
      refine L.va (x_mvS rfl) ?_
      refine L.va (x_mvI rfl) ?_
      refine L.va (x_idx rfl rfl Try.underlying27 sz34 (hsl) (by omega)) ?_
      refine L.va (x_load rfl Try.underlying34 rfl (by rw [hoff, Nat.zero_add, Nat.mul_one]; exact hcell)) ?_
      refine L.va (x_len rfl Try.underlying34 rfl) ?_
      refine L.va (x_lss rfl rfl) ?_
      refine L.nil ?_
      show W _ _ _ _ _ _
      refine W.condP rfl (fun h77 => ?_) (fun h77 => ?_)
      · refine W.skip ?_
        show W _ _ _ _ _ _
        refine W.seq ?_
        refine W.block ?_
        refine W.region rfl ?_
        refine L.va (x_mvS rfl) ?_
        refine L.va (x_mvI rfl) ?_
        refine L.va (x_idx rfl rfl Try.underlying27 sz34 (hsl) (by omega)) ?_
        refine L.va (x_load rfl Try.underlying34 rfl (by rw [hoff, Nat.zero_add, Nat.mul_one]; exact hcell)) ?_
        refine L.va (x_mvI rfl) ?_
        refine L.va (x_idx rfl rfl Try.underlying34 sz3 ((SL.mk _ _ _)) (by omega)) ?_
        refine L.store (b := R i) (o := 0 + j * 1) rfl rfl sz3 rfl hR (by omega) ?_
        have hA := hA.turn hR (o := 0 + j * 1) (.int .i64 (-1))
        have hk := hk.grown (grown_of_cell (b := R i) (o := 0 + j * 1) (.int .i64 (-1))) (.inl ⟨hr1, hr2⟩)
        refine L.nil ?_
        refine B.nrm ?_
        show W _ _ _ _ _ _
        refine W.region rfl ?_
        refine L.va (x_mvI rfl) ?_
        refine L.va (x_inc rfl rfl (by omega)) ?_
        refine L.va (x_asI rfl) ?_
        refine L.nil ?_
        refine T.nrm ?_
        exact ⟨_, by omega, ⟨j + 1, rfl, rfl, rfl, rfl, rfl, rfl, hk, by omega, hA⟩⟩
      · refine W.exit ?_
        repeat (first | refine T.exit ?_ | refine B.exitNe (by decide) ?_)
        refine B.exitEq ?_
        show W _ _ _ _ _ _
        refine W.seq ?_
        refine W.region rfl ?_
        refine L.va (x_asI rfl) ?_
        refine L.nil ?_
        show W _ _ _ _ _ _
        refine W.block ?_
        obtain ⟨xs, hO⟩ := hA.own (Nat.le_refl _) hi_
        have hcell := hA.cell i (Nat.le_refl _) hi_
        have hrr := (hA.rows i (Nat.le_refl _) hi_).1
        refine W.loop (fun k e w => ∃ j : Nat, ∃ r : Nat, ∃ cc : Nat, ∃ xs : List Value, k = 20 - j ∧ e 6 = .slice oa n oc ∧ e 8 = .slice ob n od ∧ e 10 = .slice ow n oq ∧ e 12 = .int .i64 (i : Int) ∧ e 14 = .int .i64 (j : Int) ∧ Keep w2 w lo hi ∧ j ≤ 20 ∧ AS w lo hi (ab oa) n m R CC (i + 1) ∧ w.cell? ⟨ab oa, i, none⟩ = some (.slice (some ⟨r, 0, none⟩) (m + j) cc) ∧ Own w lo 3 1 (some ⟨r, 0, none⟩) (m + j) cc xs ∧ ((lo ≤ r ∧ r < hi) ∨ w2.heap.size ≤ r)) _ ⟨0, R i, CC i, xs, rfl, rfl, rfl, rfl, rfl, rfl, hk, Nat.zero_le _, hA.next, hcell, hO, .inl hrr⟩ ?_
        rintro k e w ⟨j, r, cc, xs, hk, s6, s8, s10, s12, s14, hk, hj20, hA, hcell, hO, hr⟩
        rw [upd_id s6, upd_id s8, upd_id s10, upd_id s12, upd_id s14]
        clear s6 s8 s10 s12 s14
        have hA1 := hA
        refine W.seq ?_
        refine W.seq ?_
        refine W.region rfl ?_
        refine L.va (x_mvI rfl) ?_
        refine L.va (x_lss rfl rfl) ?_
        refine L.nil ?_
        show W _ _ _ _ _ _
        refine W.condP rfl (fun h87 => ?_) (fun h87 => ?_)
        · refine W.skip ?_
          show W _ _ _ _ _ _
          refine W.seq ?_
          refine W.block ?_
          refine W.region rfl ?_
          refine L.va (x_mvS rfl) ?_
          refine L.va (x_mvI rfl) ?_
          refine L.va (x_mvS rfl) ?_
          refine L.va (x_mvI rfl) ?_
          refine L.va (x_idx rfl rfl Try.underlying27 sz34 (hsl) (by omega)) ?_
          refine L.va (x_load rfl Try.underlying34 rfl (by rw [hoff, Nat.zero_add, Nat.mul_one]; exact hcell)) ?_
          refine L.build1 rfl rfl Try.underlying34 sz3 rfl ⟨_, zr3⟩ (by decide) (fun w b96 F96 => ?_)
          obtain ⟨co, hOo, hno⟩ := hA.outerCell hi_
          have hA := hA.keep F96.below
          have hO := hO.keep F96.below
          have hk := hk.below F96.below
          have hcell : w.cell? ⟨ab oa, i, none⟩ = _ := (World.cell?_of_block (F96.below.block (ab oa) hOo.lt)).trans hcell
          have hlw : lo ≤ w.heap.size := by have := hO.lt (by simp); have := (hO.row (by simp)).choose_spec.2.1; simp only [ab] at *; omega
          have hcm : cc ≤ maxLen := (hO.row (by simp)).choose_spec.2.2.2.1
          refine L.appendF (B := lo) rfl rfl Try.underlying34 in3 rfl (by decide) hO (news := [.int .i64 (-2)]) rfl (fun q u hq => ?_) (fun u hu => by simp at hu; subst hu; rfl) (by omega) (by omega) hlw (fun b2 c2 w2x hO2 hg hbb => ?_)
          · rw [Addr.add_lit]
            match q, hq with
            | 0, hq => cases hq; exact F96.blk.cell rfl
          have hA2 : AS w2x lo hi (ab oa) n m R CC (i + 1) := by
            rcases hbb with ⟨rfl, rfl⟩ | ⟨_, hbl⟩
            · exact hA.room hO hO2 hg
            · exact hA.keep hbl
          have hr2 : (lo ≤ b2 ∧ b2 < hi) ∨ w2.heap.size ≤ b2 := by
            rcases hbb with ⟨rfl, _⟩ | ⟨h9, _⟩
            · exact hr
            · right; rw [h9]; exact hk.size
          have hk := hk.grown hg hr
          clear hO hA hcell
          rename World => w
          refine L.va (x_idx rfl rfl Try.underlying27 sz34 (hsl) (by omega)) ?_
          obtain ⟨co, hOo, hno⟩ := hA2.outerCell hi_
          refine L.store (b := ab oa) (o := ao oa + i * 1) rfl rfl sz34 rfl hOo (by rw [hoff]; omega) ?_
          rw [hoff, Nat.zero_add, Nat.mul_one]
          obtain ⟨cu2, hB2, -⟩ := hO2.row (by simp)
          have hne : ab oa ≠ b2 := hOo.ne hB2 (by decide)
          have hA := hA2.outerTurn (Nat.lt_succ_self i) (.slice (some ⟨b2, 0, none⟩) (m + j + 1) c2)
          have hk := hk.grown (grown_of_cell (b := ab oa) (o := i) (.slice (some ⟨b2, 0, none⟩) (m + j + 1) c2)) (.inl hba)
          have hO := hO2.grown (grown_of_cell (b := ab oa) (o := i) (.slice (some ⟨b2, 0, none⟩) (m + j + 1) c2)) (by simp only [ab, Option.map_some, Option.getD_some, ne_eq, Option.some.injEq]; exact Ne.symm hne)
          have hcell : (w.setCell ⟨ab oa, i, none⟩ (.slice (some ⟨b2, 0, none⟩) (m + j + 1) c2)).cell? ⟨ab oa, i, none⟩ = some (.slice (some ⟨b2, 0, none⟩) (m + (j + 1)) c2) := (hOo.set _).cell (by rw [Array.getElem?_setIfInBounds_self_of_lt (by omega)]; rfl)
          refine L.nil ?_
          refine B.nrm ?_
          show W _ _ _ _ _ _
          refine W.region rfl ?_
          refine L.va (x_mvI rfl) ?_
          refine L.va (x_inc rfl rfl (by omega)) ?_
          refine L.va (x_asI rfl) ?_
          refine L.nil ?_
          refine T.nrm ?_
          exact ⟨_, by omega, ⟨j + 1, b2, c2, _, rfl, rfl, rfl, rfl, rfl, rfl, hk, by omega, hA, hcell, hO, hr2⟩⟩
        · refine W.exit ?_
          repeat (first | refine T.exit ?_ | refine B.exitNe (by decide) ?_)
          refine B.exitEq ?_
          refine B.nrm ?_
          show W _ _ _ _ _ _
          refine W.region rfl ?_
          refine L.va (x_mvI rfl) ?_
          refine L.va (x_inc rfl rfl (by omega)) ?_
          refine L.va (x_asI rfl) ?_
          refine L.nil ?_
          refine T.nrm ?_
          exact ⟨_, by omega, ⟨i + 1, rfl, rfl, rfl, rfl, rfl, hk, by omega, fun _ => hA1⟩⟩
    · refine W.exit ?_
      repeat (first | refine T.exit ?_ | refine B.exitNe (by decide) ?_)
      refine B.exitEq ?_
      show W _ _ _ _ _ _
      refine W.seq ?_
      have hb := Keep.toBelow hb hk hlo0
      have hQ := PRows.kept hQ hk (Nat.le_refl _)
      have hM := Made.kept hM hk hB
      refine W.region rfl ?_
      refine L.va (x_mvS rfl) ?_
      refine L.va (x_mvS rfl) ?_
      refine L.call (x_call2 rfl rfl Try.func17 rfl nm17 rfl) (same_c ob ow n m od oq (fun i k => (rclk E i k : Int)) w (clk_ints hcl hQ.rows) (hM.rows (fun i k _ hk => arr_get hk)) (by omega) (by omega)) ?_
      rintro _ w ⟨rfl, hbw⟩
      have hb := cl_step hb hbw
      refine L.va (x_mvB rfl) ?_
      refine L.meetW 2 [102,103,104] 104 (.bool true) (tj := 102) (fun w' => Below w.heap.size w w') rfl (fun hb102 => ?_) (fun hb102 => ?_) (fun f w hm => ?_)
      · have hm := Below.refl w.heap.size w
        refine L.on rfl ?_
        refine L.call (x_call0  Try.func13 rfl nm13 rfl) (live_c w) ?_
        rintro _ w ⟨rfl, hbw⟩
        have hm := cl_step hm hbw
        refine L.va (x_pickT rfl) ?_
        refine L.nil ?_
        refine ⟨hm, congrArg Value.bool (rfl), ?_⟩
        exact Agree.upd rfl (Agree.upd rfl (Agree.upd rfl (Agree.refl _ _)))
      · cases hb102
      have hb := cl_step hb hm
      refine L.va (x_asB rfl) ?_
      refine L.nil ?_
      show W _ _ _ _ _ _
      refine W.ret ?_
      repeat (first | refine T.ret ?_ | refine B.ret ?_)
      refine ends.one (.inr rfl) rfl ?_
      exact ⟨rfl, hb⟩

end Go.Proofs.Ytlopdjbehhdmpaa
