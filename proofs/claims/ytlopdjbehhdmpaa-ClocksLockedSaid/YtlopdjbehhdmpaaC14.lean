/- The laws on order and on traces that are free of races: what the Go text returns. -/
import Derived.Test.YtlopdjbehhdmpaaC13
namespace Go.Proofs.Ytlopdjbehhdmpaa
open Go.Vc Go.RowKit
theorem ahB_iff {E : Nat → Ev} {i j : Nat} : ahB E i j = true ↔ Ah E i j := by unfold ahB; simp only [decide_eq_true_eq]
theorem ahB_irr (E : Nat → Ev) (i : Nat) : ahB E i i = false := by
  cases h : ahB E i i with
  | false => rfl
  | true => exact absurd (ahB_iff.1 h).lt (Nat.lt_irrefl _)
theorem firstOf_noneE {p : Nat → Bool} : ∀ {m : Nat}, firstOf p m = none → ∀ i, i < m → p i = false
  | 0, _, i, hi => absurd hi (Nat.not_lt_zero i)
  | m + 1, h, i, hi => by
    unfold firstOf at h
    cases hf : firstOf p m with
    | some x => rw [hf] at h; cases h
    | none =>
      rw [hf] at h
      by_cases him : i = m
      · subst him
        cases hp : p i with
        | false => rfl
        | true => rw [hp] at h; cases h
      · exact firstOf_noneE hf i (by omega)
theorem racesL_nil {E : Nat → Ev} : ∀ {n : Nat}, (racesL E n).length = 0 → ∀ j, j < n → ∀ i, i < j → raceB E i j = false
  | 0, _, j, hj => absurd hj (Nat.not_lt_zero j)
  | n + 1, h, j, hj => by
    simp only [racesL, List.length_append] at h
    by_cases hjn : j = n
    · subst hjn
      refine firstOf_noneE ?_
      cases hf : firstOf (fun i => raceB E i j) j with
      | none => rfl
      | some x => rw [hf] at h; simp [optL] at h
    · exact racesL_nil (E := E) (n := n) (by omega) j (by omega)
/-- Where nothing races, a write and a read of one cell are ordered. -/
theorem free_ah {E : Nat → Ev} {n i j : Nat} (h : (racesL E n).length = 0) (hi : i < j) (hj : j < n) (h1 : (E i).o = (E j).o ∧ (E i).n = (E j).n) (h2 : ((E i).k = 9 ∧ (E j).k = 8) ∨ ((E i).k = 8 ∧ (E j).k = 9)) : ahB E i j = true := by
  by_cases hc : (E i).c = (E j).c
  · exact ahB_iff.2 (se_own E hi hc)
  · have := racesL_nil h j hj i hi
    unfold raceB at this
    rw [decide_eq_true (by
      refine ⟨⟨⟨⟨?_, ?_⟩, ?_⟩, h1⟩, hc⟩
      · unfold acc; omega
      · unfold acc; omega
      · omega)] at this
    simpa using this
theorem befA_in {E : Nat → Ev} {n i j : Nat} {cl : Int} (hc : check E n cl = 0) (hi : i < n) (hj : j < n) : befA E n cl (i : Int) (j : Int) = ahB E i j := by
  unfold befA befR
  rw [if_pos hc, if_neg (by omega)]; rfl
theorem befA_irr {E : Nat → Ev} {n : Nat} {cl i : Int} : befA E n cl i i = false := by
  unfold befA befR
  split
  · split
    · rfl
    · exact ahB_irr _ _
  · rfl
theorem ahB_trans {E : Nat → Ev} {i j k : Nat} (h1 : ahB E i j = true) (h2 : ahB E j k = true) : ahB E i k = true := ahB_iff.2 ((ahB_iff.1 h1).trans (ahB_iff.1 h2))
theorem ahB_lt {E : Nat → Ev} {i j : Nat} (h1 : ahB E i j = true) : i < j := (ahB_iff.1 h1).lt

theorem free_l1 (a : Option Addr) (n c : Nat) (E : Nat → Ev) (cl : Int) (w0 : World) (hE : EvAt w0 a n E) (hnil : a = none → n = 0 ∧ c = 0) (hn : n + 8 ≤ 4398046511104) (hc : check E n cl ≠ 0) :
    C Try.prog 9 #[.slice a n c, .int .i64 cl] w0 fun v w' => v = .bool true ∧ Below w0.heap.size w0 w' := by
  refine C.enter (n := 97) Try.func9 rfl rfl ?_
  have hb : Below w0.heap.size w0 w0 := Below.refl _ _
  refine W.seq ?_
  refine W.region rfl ?_
  refine L.va (x_asB rfl) ?_
  refine L.nil ?_
  show W _ _ _ _ _ _
  refine W.seq ?_
  refine W.region rfl ?_
  refine L.va (x_mvS rfl) ?_
  refine L.call (x_call1 rfl Try.func14 rfl nm14 rfl) (own_c a n c E w0 hE hnil hn) ?_
  rintro _ w ⟨fa, fc, rfl, hfc, hF8, hb⟩
  have hF := own_ev hF8
  have hE := hE.below hb
  refine L.va (x_mvI rfl) ?_
  refine L.call (x_call2 rfl rfl Try.func22 rfl nm22 rfl) (praces_no fa n fc E cl w hF (by omega) hc) ?_
  rintro _ w ⟨rfl, hbw⟩
  have hb := cl_step hb hbw
  have hE := hE.below hbw
  refine L.va (x_mvT rfl) ?_
  refine L.va (x_extract rfl rfl) ?_
  refine L.va (x_extract rfl rfl) ?_
  refine L.va (x_asS rfl) ?_
  refine L.va (x_asI rfl) ?_
  refine L.nil ?_
  show W _ _ _ _ _ _
  refine W.seq ?_
  refine W.seq ?_
  refine W.region rfl ?_
  refine L.va (x_mvS rfl) ?_
  refine L.va (x_len rfl Try.underlying25 rfl) ?_
  refine L.va (x_gtr rfl rfl) ?_
  refine L.va (x_mvB rfl) ?_
  refine L.meetB 4 [22,23,24,25,26] 26 (.bool true) (tj := 22) rfl (fun hb22 => ?_) (fun hb22 => ?_) (fun f => ?_)
  · refine L.off rfl ?_
    refine L.off rfl ?_
    refine L.off rfl ?_
    refine L.va (x_pickT rfl) ?_
    refine L.nil ?_
    refine ⟨rfl, congrArg Value.bool (rfl), ?_⟩
    exact Agree.upd rfl (Agree.upd rfl (Agree.upd rfl (Agree.upd rfl (Agree.upd rfl (Agree.refl _ _)))))
  · refine L.on rfl ?_
    refine L.va (x_mvI rfl) ?_
    refine L.on rfl ?_
    refine L.call (x_call1 rfl Try.func12 rfl nm12 rfl) (num_c _ _) ?_
    rintro _ w1 ⟨rfl, hw⟩
    rw [hw]
    clear hw w1
    refine L.on rfl ?_
    refine L.va (x_neq rfl rfl) ?_
    refine L.va (x_pickF rfl) ?_
    refine L.nil ?_
    refine ⟨rfl, congrArg Value.bool (decide_eq_true hc), ?_⟩
    exact Agree.upd rfl (Agree.upd rfl (Agree.upd rfl (Agree.upd rfl (Agree.upd rfl (Agree.refl _ _)))))
  refine L.va (x_mvB rfl) ?_
  refine L.meetB 4 [27,28,29,30,31] 31 (.bool true) (tj := 27) rfl (fun hb27 => ?_) (fun hb27 => ?_) (fun f => ?_)
  · refine L.off rfl ?_
    refine L.off rfl ?_
    refine L.off rfl ?_
    refine L.va (x_pickT rfl) ?_
    refine L.nil ?_
    refine ⟨rfl, congrArg Value.bool (rfl), ?_⟩
    exact Agree.upd rfl (Agree.upd rfl (Agree.upd rfl (Agree.upd rfl (Agree.upd rfl (Agree.refl _ _)))))
  · cases hb27
  refine L.nil ?_
  show W _ _ _ _ _ _
  refine W.condT rfl ?_
  refine W.seq ?_
  refine W.region rfl ?_
  refine L.call (x_call0  Try.func13 rfl nm13 rfl) (live_c w) ?_
  rintro _ w ⟨rfl, hbw⟩
  have hb := cl_step hb hbw
  refine L.va (x_asB rfl) ?_
  refine L.nil ?_
  show W _ _ _ _ _ _
  refine W.ret ?_
  repeat (first | refine T.ret ?_ | refine B.ret ?_)
  refine ends.one (.inr rfl) rfl ?_
  exact ⟨rfl, hb⟩

set_option maxHeartbeats 1000000 in
theorem free_l0 (a : Option Addr) (n c : Nat) (E : Nat → Ev) (cl : Int) (w0 : World) (hE : EvAt w0 a n E) (hnil : a = none → n = 0 ∧ c = 0) (hn : n + 8 ≤ 4398046511104) (hc : check E n cl = 0) :
    C Try.prog 9 #[.slice a n c, .int .i64 cl] w0 fun v w' => v = .bool true ∧ Below w0.heap.size w0 w' := by
  refine C.enter (n := 97) Try.func9 rfl rfl ?_
  have hb : Below w0.heap.size w0 w0 := Below.refl _ _
  have hE0 := hE
  refine W.seq ?_
  refine W.region rfl ?_
  refine L.va (x_asB rfl) ?_
  refine L.nil ?_
  show W _ _ _ _ _ _
  refine W.seq ?_
  refine W.region rfl ?_
  refine L.va (x_mvS rfl) ?_
  refine L.call (x_call1 rfl Try.func14 rfl nm14 rfl) (own_c a n c E w0 hE hnil hn) ?_
  rintro _ w ⟨fa, fc, rfl, hfc, hF8, hb⟩
  have hF := own_ev hF8
  have hE := hE.below hb
  refine L.va (x_mvI rfl) ?_
  refine L.call (x_call2 rfl rfl Try.func22 rfl nm22 rfl) (praces_ok fa n fc E cl w hF hc) ?_
  rintro _ w ⟨ra, rc, rfl, hA, hbw⟩
  have hb := cl_step hb hbw
  have hE := hE.below hbw
  refine L.va (x_mvT rfl) ?_
  refine L.va (x_extract rfl rfl) ?_
  refine L.va (x_extract rfl rfl) ?_
  refine L.va (x_asS rfl) ?_
  refine L.va (x_asI rfl) ?_
  refine L.nil ?_
  show W _ _ _ _ _ _
  refine W.seq ?_
  refine W.seq ?_
  refine W.region rfl ?_
  refine L.va (x_mvS rfl) ?_
  refine L.va (x_len rfl Try.underlying25 rfl) ?_
  refine L.va (x_gtr rfl rfl) ?_
  refine L.va (x_mvB rfl) ?_
  refine L.meetB 4 [22,23,24,25,26] 26 (.bool (decide ((n : Int) > 200))) (tj := 22) rfl (fun hb22 => ?_) (fun hb22 => ?_) (fun f => ?_)
  · refine L.off rfl ?_
    refine L.off rfl ?_
    refine L.off rfl ?_
    refine L.va (x_pickT rfl) ?_
    refine L.nil ?_
    refine ⟨rfl, congrArg Value.bool (by rw [hb22]), ?_⟩
    exact Agree.upd rfl (Agree.upd rfl (Agree.upd rfl (Agree.upd rfl (Agree.upd rfl (Agree.refl _ _)))))
  · refine L.on rfl ?_
    refine L.va (x_mvI rfl) ?_
    refine L.on rfl ?_
    refine L.call (x_call1 rfl Try.func12 rfl nm12 rfl) (num_c _ _) ?_
    rintro _ w1 ⟨rfl, hw⟩
    rw [hw]
    clear hw w1
    refine L.on rfl ?_
    refine L.va (x_neq rfl rfl) ?_
    refine L.va (x_pickF rfl) ?_
    refine L.nil ?_
    refine ⟨rfl, congrArg Value.bool (by rw [hb22]; simp), ?_⟩
    exact Agree.upd rfl (Agree.upd rfl (Agree.upd rfl (Agree.upd rfl (Agree.upd rfl (Agree.refl _ _)))))
  refine L.va (x_mvB rfl) ?_
  refine L.meetB 4 [27,28,29,30,31] 31 (.bool (decide ((n : Int) > 200 ∨ ((racesL E n).length : Int) > 0))) (tj := 27) rfl (fun hb27 => ?_) (fun hb27 => ?_) (fun f => ?_)
  · refine L.off rfl ?_
    refine L.off rfl ?_
    refine L.off rfl ?_
    refine L.va (x_pickT rfl) ?_
    refine L.nil ?_
    refine ⟨rfl, congrArg Value.bool (by first | exact or_t hb27 | (simp_all; done) | (rw [Bool.eq_iff_iff]; simp_all; omega)), ?_⟩
    exact Agree.upd rfl (Agree.upd rfl (Agree.upd rfl (Agree.upd rfl (Agree.upd rfl (Agree.refl _ _)))))
  · refine L.on rfl ?_
    refine L.va (x_mvS rfl) ?_
    refine L.on rfl ?_
    refine L.va (x_len rfl Try.underlying41 rfl) ?_
    refine L.on rfl ?_
    refine L.va (x_gtr rfl rfl) ?_
    refine L.va (x_pickF rfl) ?_
    refine L.nil ?_
    refine ⟨rfl, congrArg Value.bool (by first | exact or_f hb27 | (simp_all; done) | (rw [Bool.eq_iff_iff]; simp_all; omega)), ?_⟩
    exact Agree.upd rfl (Agree.upd rfl (Agree.upd rfl (Agree.upd rfl (Agree.upd rfl (Agree.refl _ _)))))
  refine L.nil ?_
  show W _ _ _ _ _ _
  refine W.condP rfl (fun h31 => ?_) (fun h31 => ?_)
  · refine W.seq ?_
    refine W.region rfl ?_
    refine L.call (x_call0  Try.func13 rfl nm13 rfl) (live_c w) ?_
    rintro _ w ⟨rfl, hbw⟩
    have hb := cl_step hb hbw
    refine L.va (x_asB rfl) ?_
    refine L.nil ?_
    show W _ _ _ _ _ _
    refine W.ret ?_
    repeat (first | refine T.ret ?_ | refine B.ret ?_)
    refine ends.one (.inr rfl) rfl ?_
    exact ⟨rfl, hb⟩
  · refine W.skip ?_
    show W _ _ _ _ _ _
    refine W.seq ?_
    refine W.seq ?_
    have hlen : (racesL E n).length = 0 := by omega
    refine W.region rfl ?_
    refine L.va (x_asI rfl) ?_
    refine L.nil ?_
    show W _ _ _ _ _ _
    refine W.block ?_
    refine W.loop (fun k e w => ∃ j : Nat, k = n - j ∧ e 0 = .slice a n c ∧ e 1 = .int .i64 cl ∧ e 7 = .int .i64 (j : Int) ∧ Below w0.heap.size w0 w ∧ j ≤ n) _ ⟨0, rfl, rfl, rfl, rfl, hb, Nat.zero_le _⟩ ?_
    rintro k e w ⟨j, hk, s0, s1, s7, hb, hjn⟩
    rw [upd_id s0, upd_id s1, upd_id s7]
    clear s0 s1 s7
    have hE := hE0.below hb
    refine W.seq ?_
    refine W.seq ?_
    refine W.region rfl ?_
    refine L.va (x_mvI rfl) ?_
    refine L.va (x_mvS rfl) ?_
    refine L.va (x_len rfl Try.underlying25 rfl) ?_
    refine L.va (x_lss rfl rfl) ?_
    refine L.nil ?_
    show W _ _ _ _ _ _
    refine W.condP rfl (fun h36 => ?_) (fun h36 => ?_)
    · refine W.skip ?_
      show W _ _ _ _ _ _
      refine W.seq ?_
      refine W.block ?_
      refine W.seq ?_
      refine W.region rfl ?_
      refine L.va (x_asI rfl) ?_
      refine L.nil ?_
      show W _ _ _ _ _ _
      refine W.block ?_
      refine W.loop (fun k e w => ∃ i : Nat, k = j - i ∧ e 0 = .slice a n c ∧ e 1 = .int .i64 cl ∧ e 7 = .int .i64 (j : Int) ∧ e 8 = .int .i64 (i : Int) ∧ Below w0.heap.size w0 w ∧ i ≤ j) _ ⟨0, rfl, rfl, rfl, rfl, rfl, hb, Nat.zero_le _⟩ ?_
      rintro k e w ⟨i, hk, s0, s1, s7, s8, hb, hij⟩
      rw [upd_id s0, upd_id s1, upd_id s7, upd_id s8]
      clear s0 s1 s7 s8
      have hE := hE0.below hb
      refine W.seq ?_
      refine W.seq ?_
      refine W.region rfl ?_
      refine L.va (x_mvI rfl) ?_
      refine L.va (x_mvI rfl) ?_
      refine L.va (x_lss rfl rfl) ?_
      refine L.nil ?_
      show W _ _ _ _ _ _
      refine W.condP rfl (fun h41 => ?_) (fun h41 => ?_)
      · refine W.skip ?_
        show W _ _ _ _ _ _
        refine W.seq ?_
        refine W.block ?_
        refine W.seq ?_
        have hj : j < n := by omega
        have hij : i < j := by omega
        refine W.region rfl ?_
        refine L.va (x_mvS rfl) ?_
        refine L.va (x_mvI rfl) ?_
        refine L.va (x_idx rfl rfl Try.underlying25 sz53 (hE.sl) (by omega)) ?_
        refine L.va (x_field rfl Try.underlying53 rfl sz51 (by decide)) ?_
        refine L.va (x_loadAgg rfl Try.underlying51 rfl sz51 rfl (bagg (Below.refl _ _) (hE.step (by omega)))) ?_
        refine L.alloc zr51 rfl (fun w b9 F9 => ?_)
        have h9 : w0.heap.size ≤ b9 := by have := F9.here; have := hb.size; omega
        have hb := cl_step hb F9.below
        have hE := hE.below F9.below
        have hE' := hE
        refine L.storeAll (vs := [Value.int .i64 (E i).k, .int .i64 (E i).o, .int .i64 (E i).n]) rfl rfl rfl sz51 rfl rfl (by simp [Value.oneCell']) F9.blk (fun w hB9 hg hsz => ?_)
        have hE := hE0.below (below_gr hb hb.size hg h9)
        have hb := below_gr hb hb.size hg h9
        refine L.nil ?_
        show W _ _ _ _ _ _
        refine W.seq ?_
        refine W.region rfl ?_
        refine L.va (x_mvS rfl) ?_
        refine L.va (x_mvI rfl) ?_
        refine L.va (x_idx rfl rfl Try.underlying25 sz53 (hE.sl) (by omega)) ?_
        refine L.va (x_field rfl Try.underlying53 rfl sz51 (by decide)) ?_
        refine L.va (x_loadAgg rfl Try.underlying51 rfl sz51 rfl (bagg (Below.refl _ _) (hE.step hj))) ?_
        refine L.alloc zr51 rfl (fun w b10 F10 => ?_)
        have h10 : w0.heap.size ≤ b10 := by have := F10.here; have := hb.size; omega
        have hn910 : b9 ≠ b10 := by have := F10.here; have := hB9.lt; omega
        have hb := cl_step hb F10.below
        have hE := hE.below F10.below
        have hB9 := hB9.keep F10.below
        refine L.storeAll (vs := [Value.int .i64 (E j).k, .int .i64 (E j).o, .int .i64 (E j).n]) rfl rfl rfl sz51 rfl rfl (by simp [Value.oneCell']) F10.blk (fun w hB10 hg hsz => ?_)
        have hB9 := hB9.grown hg (by simpa using hn910)
        have hE := hE0.below (below_gr hb hb.size hg h10)
        have hb := below_gr hb hb.size hg h10
        refine L.nil ?_
        show W _ _ _ _ _ _
        refine W.seq ?_
        refine W.region rfl ?_
        refine L.va (x_field rfl Try.underlying51 rfl sz3 (by decide)) ?_
        refine L.va (x_load rfl Try.underlying3 rfl (hB9.cell (v := .int .i64 (E i).o) rfl)) ?_
        refine L.va (x_field rfl Try.underlying51 rfl sz3 (by decide)) ?_
        refine L.va (x_load rfl Try.underlying3 rfl (hB10.cell (v := .int .i64 (E j).o) rfl)) ?_
        refine L.va (x_eql rfl rfl) ?_
        refine L.va (x_mvB rfl) ?_
        refine L.meetB 6 [59,60,61,62,63,64,65] 65 (.bool (decide ((E i).o = (E j).o ∧ (E i).n = (E j).n))) (tj := 59) rfl (fun hb59 => ?_) (fun hb59 => ?_) (fun f => ?_)
        · refine L.on rfl ?_
          refine L.va (x_field rfl Try.underlying51 rfl sz3 (by decide)) ?_
          refine L.on rfl ?_
          refine L.va (x_load rfl Try.underlying3 rfl (hB9.cell (v := .int .i64 (E i).n) rfl)) ?_
          refine L.on rfl ?_
          refine L.va (x_field rfl Try.underlying51 rfl sz3 (by decide)) ?_
          refine L.on rfl ?_
          refine L.va (x_load rfl Try.underlying3 rfl (hB10.cell (v := .int .i64 (E j).n) rfl)) ?_
          refine L.on rfl ?_
          refine L.va (x_eql rfl rfl) ?_
          refine L.va (x_pickT rfl) ?_
          refine L.nil ?_
          refine ⟨rfl, congrArg Value.bool (by first | exact and_t hb59 | (simp_all; done) | (rw [Bool.eq_iff_iff]; simp_all; omega)), ?_⟩
          exact Agree.upd rfl (Agree.upd rfl (Agree.upd rfl (Agree.upd rfl (Agree.upd rfl (Agree.upd rfl (Agree.upd rfl (Agree.refl _ _)))))))
        · refine L.off rfl ?_
          refine L.off rfl ?_
          refine L.off rfl ?_
          refine L.off rfl ?_
          refine L.off rfl ?_
          refine L.va (x_pickF rfl) ?_
          refine L.nil ?_
          refine ⟨rfl, congrArg Value.bool (by first | exact and_f hb59 | (simp_all; done) | (rw [Bool.eq_iff_iff]; simp_all; omega)), ?_⟩
          exact Agree.upd rfl (Agree.upd rfl (Agree.upd rfl (Agree.upd rfl (Agree.upd rfl (Agree.upd rfl (Agree.upd rfl (Agree.refl _ _)))))))
        refine L.va (x_mvB rfl) ?_
        refine L.meetB 19 [66,67,68,69,70,71,72,73,74,75,76,77,78,79,80,81,82,83,84,85] 85 (.bool (decide (((E i).o = (E j).o ∧ (E i).n = (E j).n) ∧ (((E i).k = 9 ∧ (E j).k = 8) ∨ ((E i).k = 8 ∧ (E j).k = 9))))) (tj := 66) rfl (fun hb66 => ?_) (fun hb66 => ?_) (fun f => ?_)
        · refine L.on rfl ?_
          refine L.va (x_field rfl Try.underlying51 rfl sz3 (by decide)) ?_
          refine L.on rfl ?_
          refine L.va (x_load rfl Try.underlying3 rfl (hB9.cell (v := .int .i64 (E i).k) rfl)) ?_
          refine L.on rfl ?_
          refine L.va (x_eql rfl rfl) ?_
          refine L.on rfl ?_
          refine L.va (x_mvB rfl) ?_
          refine L.meetB 4 [70,71,72,73,74] 74 (.bool (decide ((E i).k = 9 ∧ (E j).k = 8))) (tj := 70) rfl (fun hb70 => ?_) (fun hb70 => ?_) (fun f => ?_)
          · refine L.on rfl ?_
            refine L.va (x_field rfl Try.underlying51 rfl sz3 (by decide)) ?_
            refine L.on rfl ?_
            refine L.va (x_load rfl Try.underlying3 rfl (hB10.cell (v := .int .i64 (E j).k) rfl)) ?_
            refine L.on rfl ?_
            refine L.va (x_eql rfl rfl) ?_
            refine L.on rfl ?_
            refine L.va (x_pickT rfl) ?_
            refine L.nil ?_
            refine ⟨rfl, congrArg Value.bool (by first | exact and_t hb70 | (simp_all; done) | (rw [Bool.eq_iff_iff]; simp_all; omega)), ?_⟩
            exact Agree.upd rfl (Agree.upd rfl (Agree.upd rfl (Agree.upd rfl (Agree.upd rfl (Agree.refl _ _)))))
          · refine L.off rfl ?_
            refine L.off rfl ?_
            refine L.off rfl ?_
            refine L.on rfl ?_
            refine L.va (x_pickF rfl) ?_
            refine L.nil ?_
            refine ⟨rfl, congrArg Value.bool (by first | exact and_f hb70 | (simp_all; done) | (rw [Bool.eq_iff_iff]; simp_all; omega)), ?_⟩
            exact Agree.upd rfl (Agree.upd rfl (Agree.upd rfl (Agree.upd rfl (Agree.upd rfl (Agree.refl _ _)))))
          refine L.on rfl ?_
          refine L.va (x_mvB rfl) ?_
          refine L.meetB 9 [75,76,77,78,79,80,81,82,83,84] 84 (.bool (decide (((E i).k = 9 ∧ (E j).k = 8) ∨ ((E i).k = 8 ∧ (E j).k = 9)))) (tj := 75) rfl (fun hb75 => ?_) (fun hb75 => ?_) (fun f => ?_)
          · refine L.off rfl ?_
            refine L.off rfl ?_
            refine L.off rfl ?_
            refine L.off rfl ?_
            refine L.off rfl ?_
            refine L.off rfl ?_
            refine L.off rfl ?_
            refine L.off rfl ?_
            refine L.on rfl ?_
            refine L.va (x_pickT rfl) ?_
            refine L.nil ?_
            refine ⟨rfl, congrArg Value.bool (by first | exact or_t hb75 | (simp_all; done) | (rw [Bool.eq_iff_iff]; simp_all; omega)), ?_⟩
            exact Agree.upd rfl (Agree.upd rfl (Agree.upd rfl (Agree.upd rfl (Agree.upd rfl (Agree.upd rfl (Agree.upd rfl (Agree.upd rfl (Agree.upd rfl (Agree.upd rfl (Agree.refl _ _))))))))))
          · refine L.on rfl ?_
            refine L.va (x_field rfl Try.underlying51 rfl sz3 (by decide)) ?_
            refine L.on rfl ?_
            refine L.va (x_load rfl Try.underlying3 rfl (hB9.cell (v := .int .i64 (E i).k) rfl)) ?_
            refine L.on rfl ?_
            refine L.va (x_eql rfl rfl) ?_
            refine L.on rfl ?_
            refine L.va (x_mvB rfl) ?_
            refine L.meetB 4 [79,80,81,82,83] 83 (.bool (decide ((E i).k = 8 ∧ (E j).k = 9))) (tj := 79) rfl (fun hb79 => ?_) (fun hb79 => ?_) (fun f => ?_)
            · refine L.on rfl ?_
              refine L.va (x_field rfl Try.underlying51 rfl sz3 (by decide)) ?_
              refine L.on rfl ?_
              refine L.va (x_load rfl Try.underlying3 rfl (hB10.cell (v := .int .i64 (E j).k) rfl)) ?_
              refine L.on rfl ?_
              refine L.va (x_eql rfl rfl) ?_
              refine L.on rfl ?_
              refine L.va (x_pickT rfl) ?_
              refine L.nil ?_
              refine ⟨rfl, congrArg Value.bool (by first | exact and_t hb79 | (simp_all; done) | (rw [Bool.eq_iff_iff]; simp_all; omega)), ?_⟩
              exact Agree.upd rfl (Agree.upd rfl (Agree.upd rfl (Agree.upd rfl (Agree.upd rfl (Agree.refl _ _)))))
            · refine L.off rfl ?_
              refine L.off rfl ?_
              refine L.off rfl ?_
              refine L.on rfl ?_
              refine L.va (x_pickF rfl) ?_
              refine L.nil ?_
              refine ⟨rfl, congrArg Value.bool (by first | exact and_f hb79 | (simp_all; done) | (rw [Bool.eq_iff_iff]; simp_all; omega)), ?_⟩
              exact Agree.upd rfl (Agree.upd rfl (Agree.upd rfl (Agree.upd rfl (Agree.upd rfl (Agree.refl _ _)))))
            refine L.on rfl ?_
            refine L.va (x_pickF rfl) ?_
            refine L.nil ?_
            refine ⟨rfl, congrArg Value.bool (by first | exact or_f hb75 | (simp_all; done) | (rw [Bool.eq_iff_iff]; simp_all; omega)), ?_⟩
            exact Agree.upd rfl (Agree.upd rfl (Agree.hav rfl (Agree.upd rfl (Agree.upd rfl (Agree.upd rfl (Agree.upd rfl (Agree.upd rfl (Agree.refl _ _))))))))
          refine L.va (x_pickT rfl) ?_
          refine L.nil ?_
          refine ⟨rfl, congrArg Value.bool (by first | exact and_t hb66 | (simp_all; done) | (rw [Bool.eq_iff_iff]; simp_all; omega)), ?_⟩
          exact Agree.upd rfl (Agree.upd rfl (Agree.hav rfl (Agree.upd rfl (Agree.upd rfl (Agree.hav rfl (Agree.upd rfl (Agree.upd rfl (Agree.upd rfl (Agree.upd rfl (Agree.upd rfl (Agree.refl _ _)))))))))))
        · refine L.off rfl ?_
          refine L.off rfl ?_
          refine L.off rfl ?_
          refine L.off rfl ?_
          refine L.off rfl ?_
          refine L.off rfl ?_
          refine L.off rfl ?_
          refine L.off rfl ?_
          refine L.off rfl ?_
          refine L.off rfl ?_
          refine L.off rfl ?_
          refine L.off rfl ?_
          refine L.off rfl ?_
          refine L.off rfl ?_
          refine L.off rfl ?_
          refine L.off rfl ?_
          refine L.off rfl ?_
          refine L.off rfl ?_
          refine L.va (x_pickF rfl) ?_
          refine L.nil ?_
          refine ⟨rfl, congrArg Value.bool (by first | exact and_f hb66 | (simp_all; done) | (rw [Bool.eq_iff_iff]; simp_all; omega)), ?_⟩
          exact Agree.upd rfl (Agree.upd rfl (Agree.upd rfl (Agree.upd rfl (Agree.upd rfl (Agree.upd rfl (Agree.upd rfl (Agree.upd rfl (Agree.upd rfl (Agree.upd rfl (Agree.upd rfl (Agree.upd rfl (Agree.upd rfl (Agree.upd rfl (Agree.upd rfl (Agree.upd rfl (Agree.upd rfl (Agree.upd rfl (Agree.upd rfl (Agree.upd rfl (Agree.refl _ _))))))))))))))))))))
        refine L.va (x_asB rfl) ?_
        refine L.nil ?_
        show W _ _ _ _ _ _
        refine W.seq ?_
        refine W.region rfl ?_
        refine L.va (x_mvB rfl) ?_
        refine L.va (x_mvB rfl) ?_
        refine L.meetW 8 [87,88,89,90,91,92,93,94,95] 95 (.bool false) (tj := 87) (fun w' => Below w.heap.size w w') rfl (fun hb87 => ?_) (fun hb87 => ?_) (fun f w hm => ?_)
        · have hm := Below.refl w.heap.size w
          refine L.on rfl ?_
          refine L.va (x_mvS rfl) ?_
          refine L.on rfl ?_
          refine L.call (x_call1 rfl Try.func14 rfl nm14 rfl) (own_c a n c E w hE hnil hn) ?_
          rintro _ w ⟨fa, fc, rfl, hfc, hF8, hbw⟩
          have hF := own_ev hF8
          have hm := cl_step hm hbw
          refine L.on rfl ?_
          refine L.va (x_mvI rfl) ?_
          refine L.on rfl ?_
          refine L.va (x_mvI rfl) ?_
          refine L.on rfl ?_
          refine L.va (x_mvI rfl) ?_
          refine L.on rfl ?_
          refine L.call (x_call4 rfl rfl rfl rfl Try.func19 rfl nm19 rfl) (before_c fa n fc E cl i j w hF (by omega)) ?_
          rintro _ w ⟨rfl, hbw⟩
          have hm := cl_step hm hbw
          refine L.on rfl ?_
          refine L.va (x_not rfl) ?_
          refine L.va (x_pickT rfl) ?_
          refine L.nil ?_
          refine ⟨hm, congrArg Value.bool (by have h9 := of_decide_eq_true hb87; rw [befA_in hc (by omega) hj, free_ah hlen hij hj h9.1 h9.2]; rfl), ?_⟩
          exact Agree.upd rfl (Agree.upd rfl (Agree.upd rfl (Agree.upd rfl (Agree.upd rfl (Agree.upd rfl (Agree.upd rfl (Agree.upd rfl (Agree.upd rfl (Agree.refl _ _)))))))))
        · have hm := Below.refl w.heap.size w
          refine L.off rfl ?_
          refine L.off rfl ?_
          refine L.off rfl ?_
          refine L.off rfl ?_
          refine L.off rfl ?_
          refine L.off rfl ?_
          refine L.off rfl ?_
          refine L.va (x_pickF rfl) ?_
          refine L.nil ?_
          refine ⟨hm, congrArg Value.bool (rfl), ?_⟩
          exact Agree.upd rfl (Agree.upd rfl (Agree.upd rfl (Agree.upd rfl (Agree.upd rfl (Agree.upd rfl (Agree.upd rfl (Agree.upd rfl (Agree.upd rfl (Agree.refl _ _)))))))))
        have hb := cl_step hb hm
        have hE := hE.below hm
        refine L.nil ?_
        show W _ _ _ _ _ _
        refine W.condF rfl ?_
        refine W.skip ?_
        refine B.nrm ?_
        show W _ _ _ _ _ _
        refine W.region rfl ?_
        refine L.va (x_mvI rfl) ?_
        refine L.va (x_inc rfl rfl (by omega)) ?_
        refine L.va (x_asI rfl) ?_
        refine L.nil ?_
        refine T.nrm ?_
        exact ⟨_, by omega, ⟨i + 1, rfl, rfl, rfl, rfl, rfl, hb, by omega⟩⟩
      · refine W.exit ?_
        repeat (first | refine T.exit ?_ | refine B.exitNe (by decide) ?_)
        refine B.exitEq ?_
        refine B.nrm ?_
        show W _ _ _ _ _ _
        refine W.region rfl ?_
        refine L.va (x_mvI rfl) ?_
        refine L.va (x_inc rfl rfl (by omega)) ?_
        refine L.va (x_asI rfl) ?_
        refine L.nil ?_
        refine T.nrm ?_
        exact ⟨_, by omega, ⟨j + 1, rfl, rfl, rfl, rfl, hb, by omega⟩⟩
    · refine W.exit ?_
      repeat (first | refine T.exit ?_ | refine B.exitNe (by decide) ?_)
      refine B.exitEq ?_
      show W _ _ _ _ _ _
      refine W.seq ?_
      refine W.region rfl ?_
      refine L.call (x_call0  Try.func13 rfl nm13 rfl) (live_c w) ?_
      rintro _ w ⟨rfl, hbw⟩
      have hb := cl_step hb hbw
      refine L.va (x_asB rfl) ?_
      refine L.nil ?_
      show W _ _ _ _ _ _
      refine W.ret ?_
      repeat (first | refine T.ret ?_ | refine B.ret ?_)
      refine ends.one (.inr rfl) rfl ?_
      exact ⟨rfl, hb⟩

end Go.Proofs.Ytlopdjbehhdmpaa
