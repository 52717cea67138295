/- The laws on names, order, races and reads: what the Go text returns. -/
import Derived.Test.YtlopdjbehhdmpaaBase9
namespace Go.Proofs.Ytlopdjbehhdmpaa
open Go.Vc Go.RowKit
theorem PairsAt.none (w : World) : PairsAt w Option.none [] := ⟨SL.zero _, fun h => by simp at h⟩

theorem names_l (w : World) : C Try.prog 3 #[] w fun v w' => v = .bool true ∧ Below w.heap.size w w' := by
  refine C.enter (n := 10) Try.func3 rfl rfl ?_
  have hb : Below w.heap.size w w := Below.refl _ _
  refine W.seq ?_
  refine W.region rfl ?_
  refine L.va (x_asB rfl) ?_
  refine L.nil ?_
  show W _ _ _ _ _ _
  refine W.seq ?_
  refine W.region rfl ?_
  refine L.va (x_mvB rfl) ?_
  refine L.meetB 3 [1,2,3,4] 4 (.bool true) (tj := 1) rfl (fun hb1 => ?_) (fun hb1 => ?_) (fun f => ?_)
  · refine L.on rfl ?_
    refine L.call (x_call1 rfl Try.func12 rfl nm12 rfl) (num_c _ _) ?_
    rintro _ w1 ⟨rfl, hw⟩
    rw [hw]
    clear hw w1
    refine L.on rfl ?_
    refine L.va (x_eql rfl rfl) ?_
    refine L.va (x_pickT rfl) ?_
    refine L.nil ?_
    refine ⟨rfl, congrArg Value.bool (rfl), ?_⟩
    exact Agree.upd rfl (Agree.upd rfl (Agree.upd rfl (Agree.upd rfl (Agree.refl _ _))))
  · cases hb1
  refine L.va (x_mvB rfl) ?_
  refine L.va (x_pickT rfl) ?_
  refine L.va (x_mvB rfl) ?_
  refine L.meetW 2 [7,8,9] 9 (.bool true) (tj := 7) (fun w' => Below w.heap.size w w') rfl (fun hb7 => ?_) (fun hb7 => ?_) (fun f w hm => ?_)
  · have hm := Below.refl w.heap.size w
    refine L.on rfl ?_
    refine L.call (x_call0  Try.func13 rfl nm13 rfl) (live_c w) ?_
    rintro _ w ⟨rfl, hbw⟩
    have hm := cl_step hm hbw
    refine L.va (x_pickT rfl) ?_
    refine L.nil ?_
    refine ⟨hm, congrArg Value.bool (rfl), ?_⟩
    exact Agree.upd rfl (Agree.upd rfl (Agree.upd rfl (Agree.refl _ _)))
  · cases hb7
  have hb := cl_step hb hm
  refine L.va (x_asB rfl) ?_
  refine L.nil ?_
  show W _ _ _ _ _ _
  refine W.ret ?_
  repeat (first | refine T.ret ?_ | refine B.ret ?_)
  refine ends.one (.inr rfl) rfl ?_
  exact ⟨rfl, hb⟩

theorem sees_l (a : Option Addr) (n c : Nat) (E : Nat → Ev) (cl j : Int) (w0 : World) (hE : EvAt w0 a n E) (hnil : a = none → n = 0 ∧ c = 0) (hn : n + 8 ≤ 4398046511104) (hj : -9223372036854775808 ≤ j ∧ j ≤ 9223372036854775807) :
    C Try.prog 7 #[.slice a n c, .int .i64 cl, .int .i64 j] w0 fun v w' => v = .bool true ∧ Below w0.heap.size w0 w' := by
  refine C.enter (n := 40) Try.func7 rfl rfl ?_
  have hb : Below w0.heap.size w0 w0 := Below.refl _ _
  refine W.seq ?_
  refine W.region rfl ?_
  refine L.va (x_asB rfl) ?_
  refine L.nil ?_
  show W _ _ _ _ _ _
  refine W.seq ?_
  refine W.seq ?_
  refine W.region rfl ?_
  refine L.va (x_mvS rfl) ?_
  refine L.va (x_len rfl Try.underlying25 rfl) ?_
  refine L.va (x_gtr rfl rfl) ?_
  refine L.nil ?_
  show W _ _ _ _ _ _
  refine W.condP rfl (fun h13 => ?_) (fun h13 => ?_)
  · refine W.seq ?_
    refine W.region rfl ?_
    refine L.va (x_asB rfl) ?_
    refine L.nil ?_
    show W _ _ _ _ _ _
    refine W.ret ?_
    repeat (first | refine T.ret ?_ | refine B.ret ?_)
    refine ends.one (.inr rfl) rfl ?_
    exact ⟨rfl, hb⟩
  · refine W.skip ?_
    show W _ _ _ _ _ _
    refine W.seq ?_
    refine W.region rfl ?_
    refine L.va (x_mvS rfl) ?_
    refine L.call (x_call1 rfl Try.func14 rfl nm14 rfl) (own_c a n c E w0 hE hnil hn) ?_
    rintro _ w ⟨fa, fc, rfl, hfc, hF8, hb⟩
    have hF := own_ev hF8
    have hE := hE.below hb
    refine L.va (x_mvI rfl) ?_
    refine L.va (x_mvI rfl) ?_
    refine L.call (x_call3 rfl rfl rfl Try.func25 rfl nm25 rfl) (sees_c fa n fc E cl j w hF (by omega)) ?_
    rintro _ w ⟨rfl, hbw⟩
    have hb := cl_step hb hbw
    have hE := hE.below hbw
    have hF8 := hF8.below hbw
    refine L.va (x_mvT rfl) ?_
    refine L.va (x_extract rfl rfl) ?_
    refine L.va (x_extract rfl rfl) ?_
    refine L.va (x_asI rfl) ?_
    refine L.va (x_asB rfl) ?_
    refine L.nil ?_
    show W _ _ _ _ _ _
    refine W.seq ?_
    refine W.region rfl ?_
    refine L.va (x_mvS rfl) ?_
    refine L.va (x_mvI rfl) ?_
    refine L.va (x_mvI rfl) ?_
    refine L.call (x_call3 rfl rfl rfl Try.func26 rfl nm26 rfl) (rsees_c a n c E cl j w hE (by omega) hj) ?_
    rintro _ w ⟨rfl, hbw⟩
    have hb := cl_step hb hbw
    have hE := hE.below hbw
    have hF8 := hF8.below hbw
    refine L.va (x_mvT rfl) ?_
    refine L.va (x_extract rfl rfl) ?_
    refine L.va (x_extract rfl rfl) ?_
    refine L.va (x_asI rfl) ?_
    refine L.va (x_asB rfl) ?_
    refine L.nil ?_
    show W _ _ _ _ _ _
    refine W.seq ?_
    refine W.region rfl ?_
    refine L.va (x_mvI rfl) ?_
    refine L.va (x_mvI rfl) ?_
    refine L.va (x_eql rfl rfl) ?_
    refine L.va (x_mvB rfl) ?_
    refine L.meetB 4 [32,33,34,35,36] 36 (.bool true) (tj := 32) rfl (fun hb32 => ?_) (fun hb32 => ?_) (fun f => ?_)
    · refine L.on rfl ?_
      refine L.va (x_mvB rfl) ?_
      refine L.on rfl ?_
      refine L.va (x_mvB rfl) ?_
      refine L.on rfl ?_
      refine L.va (x_eqB rfl rfl) ?_
      refine L.va (x_pickT rfl) ?_
      refine L.nil ?_
      refine ⟨rfl, congrArg Value.bool (by simp), ?_⟩
      exact Agree.upd rfl (Agree.upd rfl (Agree.upd rfl (Agree.upd rfl (Agree.upd rfl (Agree.refl _ _)))))
    · exact absurd hb32 (by simp)
    refine L.va (x_mvB rfl) ?_
    refine L.meetW 2 [37,38,39] 39 (.bool true) (tj := 37) (fun w' => Below w.heap.size w w') rfl (fun hb37 => ?_) (fun hb37 => ?_) (fun f w hm => ?_)
    · have hm := Below.refl w.heap.size w
      refine L.on rfl ?_
      refine L.call (x_call0  Try.func13 rfl nm13 rfl) (live_c w) ?_
      rintro _ w ⟨rfl, hbw⟩
      have hm := cl_step hm hbw
      refine L.va (x_pickT rfl) ?_
      refine L.nil ?_
      refine ⟨hm, congrArg Value.bool (rfl), ?_⟩
      exact Agree.upd rfl (Agree.upd rfl (Agree.upd rfl (Agree.refl _ _)))
    · cases hb37
    have hb := cl_step hb hm
    have hE := hE.below hm
    have hF8 := hF8.below hm
    refine L.va (x_asB rfl) ?_
    refine L.nil ?_
    show W _ _ _ _ _ _
    refine W.ret ?_
    repeat (first | refine T.ret ?_ | refine B.ret ?_)
    refine ends.one (.inr rfl) rfl ?_
    exact ⟨rfl, hb⟩

theorem races_l0 (a : Option Addr) (n c : Nat) (E : Nat → Ev) (cl : Int) (w0 : World) (hE : EvAt w0 a n E) (hnil : a = none → n = 0 ∧ c = 0) (hn : n + 8 ≤ 4398046511104) (hc : check E n cl = 0) :
    C Try.prog 6 #[.slice a n c, .int .i64 cl] w0 fun v w' => v = .bool true ∧ Below w0.heap.size w0 w' := by
  refine C.enter (n := 49) Try.func6 rfl rfl ?_
  have hb : Below w0.heap.size w0 w0 := Below.refl _ _
  refine W.seq ?_
  refine W.region rfl ?_
  refine L.va (x_asB rfl) ?_
  refine L.nil ?_
  show W _ _ _ _ _ _
  refine W.seq ?_
  refine W.seq ?_
  refine W.region rfl ?_
  refine L.va (x_mvS rfl) ?_
  refine L.va (x_len rfl Try.underlying25 rfl) ?_
  refine L.va (x_gtr rfl rfl) ?_
  refine L.va (x_mvB rfl) ?_
  refine L.meetB 4 [13,14,15,16,17] 17 (.bool (decide ((n : Int) > 200 ∧ (n : Int) ≤ 1048576))) (tj := 13) rfl (fun hb13 => ?_) (fun hb13 => ?_) (fun f => ?_)
  · refine L.on rfl ?_
    refine L.va (x_mvS rfl) ?_
    refine L.on rfl ?_
    refine L.va (x_len rfl Try.underlying25 rfl) ?_
    refine L.on rfl ?_
    refine L.va (x_leq rfl rfl) ?_
    refine L.va (x_pickT rfl) ?_
    refine L.nil ?_
    refine ⟨rfl, congrArg Value.bool (by first | exact and_t hb13 | (simp_all; done) | (rw [Bool.eq_iff_iff]; simp_all; omega)), ?_⟩
    exact Agree.upd rfl (Agree.upd rfl (Agree.upd rfl (Agree.upd rfl (Agree.upd rfl (Agree.refl _ _)))))
  · refine L.off rfl ?_
    refine L.off rfl ?_
    refine L.off rfl ?_
    refine L.va (x_pickF rfl) ?_
    refine L.nil ?_
    refine ⟨rfl, congrArg Value.bool (by first | exact and_f hb13 | (simp_all; done) | (rw [Bool.eq_iff_iff]; simp_all; omega)), ?_⟩
    exact Agree.upd rfl (Agree.upd rfl (Agree.upd rfl (Agree.upd rfl (Agree.upd rfl (Agree.refl _ _)))))
  refine L.nil ?_
  show W _ _ _ _ _ _
  refine W.condP rfl (fun h17 => ?_) (fun h17 => ?_)
  · refine W.seq ?_
    refine W.region rfl ?_
    refine L.va (x_asB rfl) ?_
    refine L.nil ?_
    show W _ _ _ _ _ _
    refine W.ret ?_
    repeat (first | refine T.ret ?_ | refine B.ret ?_)
    refine ends.one (.inr rfl) rfl ?_
    exact ⟨rfl, hb⟩
  · refine W.skip ?_
    show W _ _ _ _ _ _
    refine W.seq ?_
    refine W.region rfl ?_
    refine L.va (x_mvS rfl) ?_
    refine L.call (x_call1 rfl Try.func14 rfl nm14 rfl) (own_c a n c E w0 hE hnil hn) ?_
    rintro _ w ⟨fa, fc, rfl, hfc, hF8, hb⟩
    have hF := own_ev hF8
    have hE := hE.below hb
    refine L.va (x_asS rfl) ?_
    refine L.nil ?_
    show W _ _ _ _ _ _
    refine W.seq ?_
    refine W.region rfl ?_
    refine L.va (x_mvS rfl) ?_
    refine L.va (x_mvI rfl) ?_
    refine L.call (x_call2 rfl rfl Try.func22 rfl nm22 rfl) (praces_ok fa n fc E cl w hF hc) ?_
    rintro _ w ⟨ra, rc, rfl, hA, hbw⟩
    have hb := cl_step hb hbw
    have hE := hE.below hbw
    have hF8 := hF8.below hbw
    refine L.va (x_mvT rfl) ?_
    refine L.va (x_extract rfl rfl) ?_
    refine L.va (x_extract rfl rfl) ?_
    refine L.va (x_asS rfl) ?_
    refine L.va (x_asI rfl) ?_
    refine L.nil ?_
    show W _ _ _ _ _ _
    refine W.seq ?_
    refine W.region rfl ?_
    refine L.va (x_mvS rfl) ?_
    refine L.va (x_mvI rfl) ?_
    refine L.call (x_call2 rfl rfl Try.func23 rfl nm23 rfl) (rraces_ok a n c E cl w hE hc) ?_
    rintro _ w ⟨rb, rd, rfl, hB, hbw⟩
    have hA := hA.keep hbw
    have hb := cl_step hb hbw
    have hE := hE.below hbw
    have hF8 := hF8.below hbw
    refine L.va (x_mvT rfl) ?_
    refine L.va (x_extract rfl rfl) ?_
    refine L.va (x_extract rfl rfl) ?_
    refine L.va (x_asS rfl) ?_
    refine L.va (x_asI rfl) ?_
    refine L.nil ?_
    show W _ _ _ _ _ _
    refine W.seq ?_
    refine W.region rfl ?_
    refine L.va (x_mvI rfl) ?_
    refine L.call (x_call1 rfl Try.func12 rfl nm12 rfl) (num_c _ _) ?_
    rintro _ w1 ⟨rfl, hw⟩
    rw [hw]
    clear hw w1
    refine L.va (x_mvI rfl) ?_
    refine L.va (x_eql rfl rfl) ?_
    refine L.va (x_mvB rfl) ?_
    refine L.meetW 4 [36,37,38,39,40] 40 (.bool true) (tj := 36) (fun w' => Below w.heap.size w w') rfl (fun hb36 => ?_) (fun hb36 => ?_) (fun f w hm => ?_)
    · have hm := Below.refl w.heap.size w
      refine L.on rfl ?_
      refine L.va (x_mvS rfl) ?_
      refine L.on rfl ?_
      refine L.va (x_mvS rfl) ?_
      refine L.on rfl ?_
      refine L.call (x_call2 rfl rfl Try.func24 rfl nm24 rfl) (races_c _ _ _ _ (racesL E n) w hA hB (by have := racesL_len E n; first | omega | simp)) ?_
      rintro _ w ⟨rfl, hbw⟩
      have hm := cl_step hm hbw
      have hA := hA.keep hbw
      refine L.va (x_pickT rfl) ?_
      refine L.nil ?_
      refine ⟨hm, congrArg Value.bool (rfl), ?_⟩
      exact Agree.upd rfl (Agree.upd rfl (Agree.upd rfl (Agree.upd rfl (Agree.upd rfl (Agree.refl _ _)))))
    · exact absurd hb36 (by simp)
    have hb := cl_step hb hm
    have hE := hE.below hm
    have hF8 := hF8.below hm
    refine L.va (x_mvB rfl) ?_
    refine L.meetW 4 [41,42,43,44,45] 45 (.bool true) (tj := 41) (fun w' => Below w.heap.size w w') rfl (fun hb41 => ?_) (fun hb41 => ?_) (fun f w hm => ?_)
    · have hm := Below.refl w.heap.size w
      refine L.on rfl ?_
      refine L.va (x_mvS rfl) ?_
      refine L.on rfl ?_
      refine L.va (x_mvS rfl) ?_
      refine L.on rfl ?_
      refine L.call (x_call2 rfl rfl Try.func18 rfl nm18 rfl) (kept_c a n c E fa fc w hE hF8 hfc (by omega)) ?_
      rintro _ w ⟨rfl, hbw⟩
      have hm := cl_step hm hbw
      refine L.va (x_pickT rfl) ?_
      refine L.nil ?_
      refine ⟨hm, congrArg Value.bool (rfl), ?_⟩
      exact Agree.upd rfl (Agree.upd rfl (Agree.upd rfl (Agree.upd rfl (Agree.upd rfl (Agree.refl _ _)))))
    · cases hb41
    have hb := cl_step hb hm
    have hE := hE.below hm
    have hF8 := hF8.below hm
    refine L.va (x_mvB rfl) ?_
    refine L.meetW 2 [46,47,48] 48 (.bool true) (tj := 46) (fun w' => Below w.heap.size w w') rfl (fun hb46 => ?_) (fun hb46 => ?_) (fun f w hm => ?_)
    · have hm := Below.refl w.heap.size w
      refine L.on rfl ?_
      refine L.call (x_call0  Try.func13 rfl nm13 rfl) (live_c w) ?_
      rintro _ w ⟨rfl, hbw⟩
      have hm := cl_step hm hbw
      refine L.va (x_pickT rfl) ?_
      refine L.nil ?_
      refine ⟨hm, congrArg Value.bool (rfl), ?_⟩
      exact Agree.upd rfl (Agree.upd rfl (Agree.upd rfl (Agree.refl _ _)))
    · cases hb46
    have hb := cl_step hb hm
    have hE := hE.below hm
    have hF8 := hF8.below hm
    refine L.va (x_asB rfl) ?_
    refine L.nil ?_
    show W _ _ _ _ _ _
    refine W.ret ?_
    repeat (first | refine T.ret ?_ | refine B.ret ?_)
    refine ends.one (.inr rfl) rfl ?_
    exact ⟨rfl, hb⟩

theorem races_l1 (a : Option Addr) (n c : Nat) (E : Nat → Ev) (cl : Int) (w0 : World) (hE : EvAt w0 a n E) (hnil : a = none → n = 0 ∧ c = 0) (hn : n + 8 ≤ 4398046511104) (hc : check E n cl ≠ 0) :
    C Try.prog 6 #[.slice a n c, .int .i64 cl] w0 fun v w' => v = .bool true ∧ Below w0.heap.size w0 w' := by
  refine C.enter (n := 49) Try.func6 rfl rfl ?_
  have hb : Below w0.heap.size w0 w0 := Below.refl _ _
  refine W.seq ?_
  refine W.region rfl ?_
  refine L.va (x_asB rfl) ?_
  refine L.nil ?_
  show W _ _ _ _ _ _
  refine W.seq ?_
  refine W.seq ?_
  refine W.region rfl ?_
  refine L.va (x_mvS rfl) ?_
  refine L.va (x_len rfl Try.underlying25 rfl) ?_
  refine L.va (x_gtr rfl rfl) ?_
  refine L.va (x_mvB rfl) ?_
  refine L.meetB 4 [13,14,15,16,17] 17 (.bool (decide ((n : Int) > 200 ∧ (n : Int) ≤ 1048576))) (tj := 13) rfl (fun hb13 => ?_) (fun hb13 => ?_) (fun f => ?_)
  · refine L.on rfl ?_
    refine L.va (x_mvS rfl) ?_
    refine L.on rfl ?_
    refine L.va (x_len rfl Try.underlying25 rfl) ?_
    refine L.on rfl ?_
    refine L.va (x_leq rfl rfl) ?_
    refine L.va (x_pickT rfl) ?_
    refine L.nil ?_
    refine ⟨rfl, congrArg Value.bool (by first | exact and_t hb13 | (simp_all; done) | (rw [Bool.eq_iff_iff]; simp_all; omega)), ?_⟩
    exact Agree.upd rfl (Agree.upd rfl (Agree.upd rfl (Agree.upd rfl (Agree.upd rfl (Agree.refl _ _)))))
  · refine L.off rfl ?_
    refine L.off rfl ?_
    refine L.off rfl ?_
    refine L.va (x_pickF rfl) ?_
    refine L.nil ?_
    refine ⟨rfl, congrArg Value.bool (by first | exact and_f hb13 | (simp_all; done) | (rw [Bool.eq_iff_iff]; simp_all; omega)), ?_⟩
    exact Agree.upd rfl (Agree.upd rfl (Agree.upd rfl (Agree.upd rfl (Agree.upd rfl (Agree.refl _ _)))))
  refine L.nil ?_
  show W _ _ _ _ _ _
  refine W.condP rfl (fun h17 => ?_) (fun h17 => ?_)
  · refine W.seq ?_
    refine W.region rfl ?_
    refine L.va (x_asB rfl) ?_
    refine L.nil ?_
    show W _ _ _ _ _ _
    refine W.ret ?_
    repeat (first | refine T.ret ?_ | refine B.ret ?_)
    refine ends.one (.inr rfl) rfl ?_
    exact ⟨rfl, hb⟩
  · refine W.skip ?_
    show W _ _ _ _ _ _
    refine W.seq ?_
    refine W.region rfl ?_
    refine L.va (x_mvS rfl) ?_
    refine L.call (x_call1 rfl Try.func14 rfl nm14 rfl) (own_c a n c E w0 hE hnil hn) ?_
    rintro _ w ⟨fa, fc, rfl, hfc, hF8, hb⟩
    have hF := own_ev hF8
    have hE := hE.below hb
    refine L.va (x_asS rfl) ?_
    refine L.nil ?_
    show W _ _ _ _ _ _
    refine W.seq ?_
    refine W.region rfl ?_
    refine L.va (x_mvS rfl) ?_
    refine L.va (x_mvI rfl) ?_
    refine L.call (x_call2 rfl rfl Try.func22 rfl nm22 rfl) (praces_no fa n fc E cl w hF (by omega) hc) ?_
    rintro _ w ⟨rfl, hbw⟩
    have hA := PairsAt.none w
    have hb := cl_step hb hbw
    have hE := hE.below hbw
    have hF8 := hF8.below hbw
    refine L.va (x_mvT rfl) ?_
    refine L.va (x_extract rfl rfl) ?_
    refine L.va (x_extract rfl rfl) ?_
    refine L.va (x_asS rfl) ?_
    refine L.va (x_asI rfl) ?_
    refine L.nil ?_
    show W _ _ _ _ _ _
    refine W.seq ?_
    refine W.region rfl ?_
    refine L.va (x_mvS rfl) ?_
    refine L.va (x_mvI rfl) ?_
    refine L.call (x_call2 rfl rfl Try.func23 rfl nm23 rfl) (rraces_no a n c E cl w hE (by omega) hc) ?_
    rintro _ w ⟨rfl, hbw⟩
    have hA := hA.keep hbw
    have hB := PairsAt.none w
    have hb := cl_step hb hbw
    have hE := hE.below hbw
    have hF8 := hF8.below hbw
    refine L.va (x_mvT rfl) ?_
    refine L.va (x_extract rfl rfl) ?_
    refine L.va (x_extract rfl rfl) ?_
    refine L.va (x_asS rfl) ?_
    refine L.va (x_asI rfl) ?_
    refine L.nil ?_
    show W _ _ _ _ _ _
    refine W.seq ?_
    refine W.region rfl ?_
    refine L.va (x_mvI rfl) ?_
    refine L.call (x_call1 rfl Try.func12 rfl nm12 rfl) (num_c _ _) ?_
    rintro _ w1 ⟨rfl, hw⟩
    rw [hw]
    clear hw w1
    refine L.va (x_mvI rfl) ?_
    refine L.va (x_eql rfl rfl) ?_
    refine L.va (x_mvB rfl) ?_
    refine L.meetW 4 [36,37,38,39,40] 40 (.bool true) (tj := 36) (fun w' => Below w.heap.size w w') rfl (fun hb36 => ?_) (fun hb36 => ?_) (fun f w hm => ?_)
    · have hm := Below.refl w.heap.size w
      refine L.on rfl ?_
      refine L.va (x_mvS rfl) ?_
      refine L.on rfl ?_
      refine L.va (x_mvS rfl) ?_
      refine L.on rfl ?_
      refine L.call (x_call2 rfl rfl Try.func24 rfl nm24 rfl) (races_c _ _ _ _ [] w hA hB (by have := racesL_len E n; first | omega | simp)) ?_
      rintro _ w ⟨rfl, hbw⟩
      have hm := cl_step hm hbw
      have hA := hA.keep hbw
      refine L.va (x_pickT rfl) ?_
      refine L.nil ?_
      refine ⟨hm, congrArg Value.bool (rfl), ?_⟩
      exact Agree.upd rfl (Agree.upd rfl (Agree.upd rfl (Agree.upd rfl (Agree.upd rfl (Agree.refl _ _)))))
    · exact absurd hb36 (by simp)
    have hb := cl_step hb hm
    have hE := hE.below hm
    have hF8 := hF8.below hm
    refine L.va (x_mvB rfl) ?_
    refine L.meetW 4 [41,42,43,44,45] 45 (.bool true) (tj := 41) (fun w' => Below w.heap.size w w') rfl (fun hb41 => ?_) (fun hb41 => ?_) (fun f w hm => ?_)
    · have hm := Below.refl w.heap.size w
      refine L.on rfl ?_
      refine L.va (x_mvS rfl) ?_
      refine L.on rfl ?_
      refine L.va (x_mvS rfl) ?_
      refine L.on rfl ?_
      refine L.call (x_call2 rfl rfl Try.func18 rfl nm18 rfl) (kept_c a n c E fa fc w hE hF8 hfc (by omega)) ?_
      rintro _ w ⟨rfl, hbw⟩
      have hm := cl_step hm hbw
      refine L.va (x_pickT rfl) ?_
      refine L.nil ?_
      refine ⟨hm, congrArg Value.bool (rfl), ?_⟩
      exact Agree.upd rfl (Agree.upd rfl (Agree.upd rfl (Agree.upd rfl (Agree.upd rfl (Agree.refl _ _)))))
    · cases hb41
    have hb := cl_step hb hm
    have hE := hE.below hm
    have hF8 := hF8.below hm
    refine L.va (x_mvB rfl) ?_
    refine L.meetW 2 [46,47,48] 48 (.bool true) (tj := 46) (fun w' => Below w.heap.size w w') rfl (fun hb46 => ?_) (fun hb46 => ?_) (fun f w hm => ?_)
    · have hm := Below.refl w.heap.size w
      refine L.on rfl ?_
      refine L.call (x_call0  Try.func13 rfl nm13 rfl) (live_c w) ?_
      rintro _ w ⟨rfl, hbw⟩
      have hm := cl_step hm hbw
      refine L.va (x_pickT rfl) ?_
      refine L.nil ?_
      refine ⟨hm, congrArg Value.bool (rfl), ?_⟩
      exact Agree.upd rfl (Agree.upd rfl (Agree.upd rfl (Agree.refl _ _)))
    · cases hb46
    have hb := cl_step hb hm
    have hE := hE.below hm
    have hF8 := hF8.below hm
    refine L.va (x_asB rfl) ?_
    refine L.nil ?_
    show W _ _ _ _ _ _
    refine W.ret ?_
    repeat (first | refine T.ret ?_ | refine B.ret ?_)
    refine ends.one (.inr rfl) rfl ?_
    exact ⟨rfl, hb⟩

theorem ahead_l (a : Option Addr) (n c : Nat) (E : Nat → Ev) (cl i j : Int) (w0 : World) (hE : EvAt w0 a n E) (hnil : a = none → n = 0 ∧ c = 0) (hn : n + 8 ≤ 4398046511104) :
    C Try.prog 5 #[.slice a n c, .int .i64 cl, .int .i64 i, .int .i64 j] w0 fun v w' => v = .bool true ∧ Below w0.heap.size w0 w' := by
  refine C.enter (n := 61) Try.func5 rfl rfl ?_
  have hb : Below w0.heap.size w0 w0 := Below.refl _ _
  refine W.seq ?_
  refine W.region rfl ?_
  refine L.va (x_asB rfl) ?_
  refine L.nil ?_
  show W _ _ _ _ _ _
  refine W.seq ?_
  refine W.seq ?_
  refine W.region rfl ?_
  refine L.va (x_mvS rfl) ?_
  refine L.va (x_len rfl Try.underlying25 rfl) ?_
  refine L.va (x_gtr rfl rfl) ?_
  refine L.nil ?_
  show W _ _ _ _ _ _
  refine W.condP rfl (fun h12 => ?_) (fun h12 => ?_)
  · refine W.seq ?_
    refine W.region rfl ?_
    refine L.va (x_asB rfl) ?_
    refine L.nil ?_
    show W _ _ _ _ _ _
    refine W.ret ?_
    repeat (first | refine T.ret ?_ | refine B.ret ?_)
    refine ends.one (.inr rfl) rfl ?_
    exact ⟨rfl, hb⟩
  · refine W.skip ?_
    show W _ _ _ _ _ _
    refine W.seq ?_
    refine W.region rfl ?_
    refine L.va (x_mvS rfl) ?_
    refine L.call (x_call1 rfl Try.func14 rfl nm14 rfl) (own_c a n c E w0 hE hnil hn) ?_
    rintro _ w ⟨fa, fc, rfl, hfc, hF8, hb⟩
    have hF := own_ev hF8
    have hE := hE.below hb
    refine L.va (x_mvI rfl) ?_
    refine L.va (x_mvI rfl) ?_
    refine L.va (x_mvI rfl) ?_
    refine L.call (x_call4 rfl rfl rfl rfl Try.func19 rfl nm19 rfl) (before_c fa n fc E cl i j w hF (by omega)) ?_
    rintro _ w ⟨rfl, hbw⟩
    have hb := cl_step hb hbw
    have hE := hE.below hbw
    have hF8 := hF8.below hbw
    refine L.va (x_asB rfl) ?_
    refine L.nil ?_
    show W _ _ _ _ _ _
    refine W.seq ?_
    refine W.seq ?_
    refine W.region rfl ?_
    refine L.va (x_mvS rfl) ?_
    refine L.va (x_mvI rfl) ?_
    refine L.call (x_call2 rfl rfl Try.func20 rfl nm20 rfl) (check_c a n c E cl w hE (by omega)) ?_
    rintro _ w1 ⟨rfl, hw⟩
    rw [hw]
    clear hw w1
    refine L.va (x_neq rfl rfl) ?_
    refine L.va (x_mvB rfl) ?_
    refine L.meetB 3 [23,24,25,26] 26 (.bool (decide (check E n cl ≠ 0 ∨ i < 0))) (tj := 23) rfl (fun hb23 => ?_) (fun hb23 => ?_) (fun f => ?_)
    · refine L.off rfl ?_
      refine L.off rfl ?_
      refine L.va (x_pickT rfl) ?_
      refine L.nil ?_
      refine ⟨rfl, congrArg Value.bool (by first | exact or_t hb23 | (simp_all; done) | (rw [Bool.eq_iff_iff]; simp_all; omega)), ?_⟩
      exact Agree.upd rfl (Agree.upd rfl (Agree.upd rfl (Agree.upd rfl (Agree.refl _ _))))
    · refine L.on rfl ?_
      refine L.va (x_mvI rfl) ?_
      refine L.on rfl ?_
      refine L.va (x_lss rfl rfl) ?_
      refine L.va (x_pickF rfl) ?_
      refine L.nil ?_
      refine ⟨rfl, congrArg Value.bool (by first | exact or_f hb23 | (simp_all; done) | (rw [Bool.eq_iff_iff]; simp_all; omega)), ?_⟩
      exact Agree.upd rfl (Agree.upd rfl (Agree.upd rfl (Agree.upd rfl (Agree.refl _ _))))
    refine L.va (x_mvB rfl) ?_
    refine L.meetB 3 [27,28,29,30] 30 (.bool (decide ((check E n cl ≠ 0 ∨ i < 0) ∨ j < 0))) (tj := 27) rfl (fun hb27 => ?_) (fun hb27 => ?_) (fun f => ?_)
    · refine L.off rfl ?_
      refine L.off rfl ?_
      refine L.va (x_pickT rfl) ?_
      refine L.nil ?_
      refine ⟨rfl, congrArg Value.bool (by first | exact or_t hb27 | (simp_all; done) | (rw [Bool.eq_iff_iff]; simp_all; omega)), ?_⟩
      exact Agree.upd rfl (Agree.upd rfl (Agree.upd rfl (Agree.upd rfl (Agree.refl _ _))))
    · refine L.on rfl ?_
      refine L.va (x_mvI rfl) ?_
      refine L.on rfl ?_
      refine L.va (x_lss rfl rfl) ?_
      refine L.va (x_pickF rfl) ?_
      refine L.nil ?_
      refine ⟨rfl, congrArg Value.bool (by first | exact or_f hb27 | (simp_all; done) | (rw [Bool.eq_iff_iff]; simp_all; omega)), ?_⟩
      exact Agree.upd rfl (Agree.upd rfl (Agree.upd rfl (Agree.upd rfl (Agree.refl _ _))))
    refine L.va (x_mvB rfl) ?_
    refine L.meetB 5 [31,32,33,34,35,36] 36 (.bool (decide (((check E n cl ≠ 0 ∨ i < 0) ∨ j < 0) ∨ (n : Int) ≤ i))) (tj := 31) rfl (fun hb31 => ?_) (fun hb31 => ?_) (fun f => ?_)
    · refine L.off rfl ?_
      refine L.off rfl ?_
      refine L.off rfl ?_
      refine L.off rfl ?_
      refine L.va (x_pickT rfl) ?_
      refine L.nil ?_
      refine ⟨rfl, congrArg Value.bool (by first | exact or_t hb31 | (simp_all; done) | (rw [Bool.eq_iff_iff]; simp_all; omega)), ?_⟩
      exact Agree.upd rfl (Agree.upd rfl (Agree.upd rfl (Agree.upd rfl (Agree.upd rfl (Agree.upd rfl (Agree.refl _ _))))))
    · refine L.on rfl ?_
      refine L.va (x_mvI rfl) ?_
      refine L.on rfl ?_
      refine L.va (x_mvS rfl) ?_
      refine L.on rfl ?_
      refine L.va (x_len rfl Try.underlying25 rfl) ?_
      refine L.on rfl ?_
      refine L.va (x_geq rfl rfl) ?_
      refine L.va (x_pickF rfl) ?_
      refine L.nil ?_
      refine ⟨rfl, congrArg Value.bool (by first | exact or_f hb31 | (simp_all; done) | (rw [Bool.eq_iff_iff]; simp_all; omega)), ?_⟩
      exact Agree.upd rfl (Agree.upd rfl (Agree.upd rfl (Agree.upd rfl (Agree.upd rfl (Agree.upd rfl (Agree.refl _ _))))))
    refine L.va (x_mvB rfl) ?_
    refine L.meetB 5 [37,38,39,40,41,42] 42 (.bool (decide ((((check E n cl ≠ 0 ∨ i < 0) ∨ j < 0) ∨ (n : Int) ≤ i) ∨ (n : Int) ≤ j))) (tj := 37) rfl (fun hb37 => ?_) (fun hb37 => ?_) (fun f => ?_)
    · refine L.off rfl ?_
      refine L.off rfl ?_
      refine L.off rfl ?_
      refine L.off rfl ?_
      refine L.va (x_pickT rfl) ?_
      refine L.nil ?_
      refine ⟨rfl, congrArg Value.bool (by first | exact or_t hb37 | (simp_all; done) | (rw [Bool.eq_iff_iff]; simp_all; omega)), ?_⟩
      exact Agree.upd rfl (Agree.upd rfl (Agree.upd rfl (Agree.upd rfl (Agree.upd rfl (Agree.upd rfl (Agree.refl _ _))))))
    · refine L.on rfl ?_
      refine L.va (x_mvI rfl) ?_
      refine L.on rfl ?_
      refine L.va (x_mvS rfl) ?_
      refine L.on rfl ?_
      refine L.va (x_len rfl Try.underlying25 rfl) ?_
      refine L.on rfl ?_
      refine L.va (x_geq rfl rfl) ?_
      refine L.va (x_pickF rfl) ?_
      refine L.nil ?_
      refine ⟨rfl, congrArg Value.bool (by first | exact or_f hb37 | (simp_all; done) | (rw [Bool.eq_iff_iff]; simp_all; omega)), ?_⟩
      exact Agree.upd rfl (Agree.upd rfl (Agree.upd rfl (Agree.upd rfl (Agree.upd rfl (Agree.upd rfl (Agree.refl _ _))))))
    refine L.nil ?_
    show W _ _ _ _ _ _
    refine W.condP rfl (fun h42 => ?_) (fun h42 => ?_)
    · refine W.seq ?_
      have hB : befA E n cl i j = false := by
        unfold befA befR
        by_cases hc : check E n cl = 0
        · rw [if_pos hc, if_pos]
          rcases h42 with (((h | h) | h) | h) | h
          · exact absurd hc h
          · exact .inl (.inl (.inl h))
          · exact .inl (.inl (.inr h))
          · exact .inl (.inr h)
          · exact .inr h
        · rw [if_neg hc]
      refine W.region rfl ?_
      refine L.va (x_mvB rfl) ?_
      refine L.va (x_not rfl) ?_
      refine L.va (x_mvB rfl) ?_
      refine L.meetW 2 [45,46,47] 47 (.bool true) (tj := 45) (fun w' => Below w.heap.size w w') rfl (fun hb45 => ?_) (fun hb45 => ?_) (fun f w hm => ?_)
      · have hm := Below.refl w.heap.size w
        refine L.on rfl ?_
        refine L.call (x_call0  Try.func13 rfl nm13 rfl) (live_c w) ?_
        rintro _ w ⟨rfl, hbw⟩
        have hm := cl_step hm hbw
        refine L.va (x_pickT rfl) ?_
        refine L.nil ?_
        refine ⟨hm, congrArg Value.bool (rfl), ?_⟩
        exact Agree.upd rfl (Agree.upd rfl (Agree.upd rfl (Agree.refl _ _)))
      · rw [hB] at hb45; cases hb45
      have hb := cl_step hb hm
      have hE := hE.below hm
      have hF8 := hF8.below hm
      refine L.va (x_asB rfl) ?_
      refine L.nil ?_
      show W _ _ _ _ _ _
      refine W.ret ?_
      repeat (first | refine T.ret ?_ | refine B.ret ?_)
      refine ends.one (.inr rfl) rfl ?_
      exact ⟨rfl, hb⟩
    · refine W.skip ?_
      show W _ _ _ _ _ _
      refine W.seq ?_
      have hB : befA E n cl i j = ahB E i.toNat j.toNat := by
        unfold befA befR
        rw [if_pos (Classical.byContradiction fun h => h42 (.inl (.inl (.inl (.inl h))))), if_neg]
        rintro (((h | h) | h) | h)
        · exact h42 (.inl (.inl (.inl (.inr h))))
        · exact h42 (.inl (.inl (.inr h)))
        · exact h42 (.inl (.inr h))
        · exact h42 (.inr h)
      refine W.region rfl ?_
      refine L.va (x_mvB rfl) ?_
      refine L.va (x_mvS rfl) ?_
      refine L.call (x_call1 rfl Try.func21 rfl nm21 rfl) (ahead_c a n c E w hE (by omega)) ?_
      rintro _ w ⟨xa, xc, rfl, hA, hbw⟩
      obtain ⟨r, rc, hr, hrs, hrc⟩ := hA.row (show j.toNat < n by omega)
      have hb := cl_step hb hbw
      have hE := hE.below hbw
      have hF8 := hF8.below hbw
      refine L.va (x_mvI rfl) ?_
      refine L.va (x_idxI rfl rfl Try.underlying39 sz38 (hA.sl) (by omega) (by omega)) ?_
      refine L.va (x_load rfl Try.underlying38 rfl (hr)) ?_
      refine L.va (x_mvI rfl) ?_
      refine L.va (x_idxI rfl rfl Try.underlying38 sz4 (hrs) (by omega) (by omega)) ?_
      refine L.va (x_load rfl Try.underlying4 rfl (hrc (by omega))) ?_
      refine L.va (x_eqB rfl rfl) ?_
      refine L.va (x_mvB rfl) ?_
      refine L.meetW 2 [58,59,60] 60 (.bool true) (tj := 58) (fun w' => Below w.heap.size w w') rfl (fun hb58 => ?_) (fun hb58 => ?_) (fun f w hm => ?_)
      · have hm := Below.refl w.heap.size w
        refine L.on rfl ?_
        refine L.call (x_call0  Try.func13 rfl nm13 rfl) (live_c w) ?_
        rintro _ w ⟨rfl, hbw⟩
        have hm := cl_step hm hbw
        refine L.va (x_pickT rfl) ?_
        refine L.nil ?_
        refine ⟨hm, congrArg Value.bool (rfl), ?_⟩
        exact Agree.upd rfl (Agree.upd rfl (Agree.upd rfl (Agree.refl _ _)))
      · rw [hB] at hb58; simp at hb58
      have hb := cl_step hb hm
      have hE := hE.below hm
      have hF8 := hF8.below hm
      refine L.va (x_asB rfl) ?_
      refine L.nil ?_
      show W _ _ _ _ _ _
      refine W.ret ?_
      repeat (first | refine T.ret ?_ | refine B.ret ?_)
      refine ends.one (.inr rfl) rfl ?_
      exact ⟨rfl, hb⟩

end Go.Proofs.Ytlopdjbehhdmpaa
