/- The law on cells under one lock: what the Go text returns. -/
import Derived.Test.YtlopdjbehhdmpaaBase12
namespace Go.Proofs.Ytlopdjbehhdmpaa
open Go.Vc Go.RowKit

set_option maxHeartbeats 1000000 in
theorem locked_l (a : Option Addr) (n c : Nat) (b : Option Addr) (kn d : Nat) (F G : Nat → Int) (cl : Int) (w0 : World) (hF : IntsAt w0 a n F) (hG : IntsAt w0 b kn G) :
    C Try.prog 11 #[.slice a n c, .slice b kn d, .int .i64 cl] w0 fun v w' => v = .bool true ∧ Below w0.heap.size w0 w' := by
  refine C.enter (n := 97) Try.func11 rfl rfl ?_
  have hb : Below w0.heap.size w0 w0 := Below.refl _ _
  refine W.seq ?_
  refine W.region rfl ?_
  refine L.va (x_asB rfl) ?_
  refine L.nil ?_
  show W _ _ _ _ _ _
  refine W.seq ?_
  refine W.seq ?_
  refine W.region rfl ?_
  refine L.va (x_mvI rfl) ?_
  refine L.va (x_lss rfl rfl) ?_
  refine L.va (x_mvB rfl) ?_
  refine L.meetB 3 [16,17,18,19] 19 (.bool (decide (cl < 1 ∨ 16 < cl))) (tj := 16) rfl (fun hb16 => ?_) (fun hb16 => ?_) (fun f => ?_)
  · refine L.off rfl ?_
    refine L.off rfl ?_
    refine L.va (x_pickT rfl) ?_
    refine L.nil ?_
    refine ⟨rfl, congrArg Value.bool (by first | exact or_t hb16 | (simp_all; done) | (rw [Bool.eq_iff_iff]; simp_all; omega)), ?_⟩
    exact Agree.upd rfl (Agree.upd rfl (Agree.upd rfl (Agree.upd rfl (Agree.refl _ _))))
  · refine L.on rfl ?_
    refine L.va (x_mvI rfl) ?_
    refine L.on rfl ?_
    refine L.va (x_gtr rfl rfl) ?_
    refine L.va (x_pickF rfl) ?_
    refine L.nil ?_
    refine ⟨rfl, congrArg Value.bool (by first | exact or_f hb16 | (simp_all; done) | (rw [Bool.eq_iff_iff]; simp_all; omega)), ?_⟩
    exact Agree.upd rfl (Agree.upd rfl (Agree.upd rfl (Agree.upd rfl (Agree.refl _ _))))
  refine L.va (x_mvB rfl) ?_
  refine L.meetB 4 [20,21,22,23,24] 24 (.bool (decide ((cl < 1 ∨ 16 < cl) ∨ (40 : Int) < (n : Int)))) (tj := 20) rfl (fun hb20 => ?_) (fun hb20 => ?_) (fun f => ?_)
  · refine L.off rfl ?_
    refine L.off rfl ?_
    refine L.off rfl ?_
    refine L.va (x_pickT rfl) ?_
    refine L.nil ?_
    refine ⟨rfl, congrArg Value.bool (by first | exact or_t hb20 | (simp_all; done) | (rw [Bool.eq_iff_iff]; simp_all; omega)), ?_⟩
    exact Agree.upd rfl (Agree.upd rfl (Agree.upd rfl (Agree.upd rfl (Agree.upd rfl (Agree.refl _ _)))))
  · refine L.on rfl ?_
    refine L.va (x_mvS rfl) ?_
    refine L.on rfl ?_
    refine L.va (x_len rfl Try.underlying34 rfl) ?_
    refine L.on rfl ?_
    refine L.va (x_gtr rfl rfl) ?_
    refine L.va (x_pickF rfl) ?_
    refine L.nil ?_
    refine ⟨rfl, congrArg Value.bool (by first | exact or_f hb20 | (simp_all; done) | (rw [Bool.eq_iff_iff]; simp_all; omega)), ?_⟩
    exact Agree.upd rfl (Agree.upd rfl (Agree.upd rfl (Agree.upd rfl (Agree.upd rfl (Agree.refl _ _)))))
  refine L.nil ?_
  show W _ _ _ _ _ _
  refine W.condP rfl (fun h24 => ?_) (fun h24 => ?_)
  · refine W.seq ?_
    refine W.region rfl ?_
    refine L.call (x_call0  Try.func13 rfl nm13 rfl) (live_c w0) ?_
    rintro _ w ⟨rfl, hbw⟩
    have hb := cl_step hb hbw
    refine L.va (x_asB rfl) ?_
    refine L.nil ?_
    show W _ _ _ _ _ _
    refine W.ret ?_
    repeat (first | refine T.ret ?_ | refine B.ret ?_)
    refine ends.one (.inr rfl) rfl ?_
    exact ⟨rfl, hb⟩
  · refine W.skip ?_
    show W _ _ _ _ _ _
    refine W.seq ?_
    refine W.region rfl ?_
    refine L.va (x_asS rfl) ?_
    refine L.nil ?_
    show W _ _ _ _ _ _
    refine W.seq ?_
    refine W.seq ?_
    refine W.region rfl ?_
    refine L.va (x_asI rfl) ?_
    refine L.nil ?_
    show W _ _ _ _ _ _
    refine W.block ?_
    have hcl1 : 1 ≤ cl := by omega
    have hcl2 : cl ≤ 16 := by omega
    have hn40 : n ≤ 40 := by omega
    refine W.loop (fun k e w => ∃ i : Nat, ∃ N : Nat, ∃ la : Option Addr, ∃ lc : Nat, ∃ E : Nat → Ev, k = n - i ∧ e 0 = .slice a n c ∧ e 1 = .slice b kn d ∧ e 2 = .int .i64 cl ∧ e 7 = .slice la N lc ∧ e 8 = .int .i64 (i : Int) ∧ Below w0.heap.size w0 w ∧ i ≤ n ∧ N = i * ((min kn 3) + 2) ∧ Own w w0.heap.size 53 4 la N lc (evC E N) ∧ Turns E cl (min kn 3) N) _ ⟨0, 0, none, 0, fun _ => ⟨0, 0, 0, 0⟩, rfl, rfl, rfl, rfl, rfl, rfl, hb, Nat.zero_le _, (Nat.zero_mul _).symm, Own.nil _ _ _ _, Turns.nil _ _ _⟩ ?_
    rintro k e w ⟨i, N, la, lc, E, hk, s0, s1, s2, s7, s8, hb, hin, hN, hO, hT⟩
    rw [upd_id s0, upd_id s1, upd_id s2, upd_id s7, upd_id s8]
    clear s0 s1 s2 s7 s8
    have hmul : i * ((min kn 3) + 2) ≤ 40 * 5 := Nat.mul_le_mul (by omega) (by omega)
    refine W.seq ?_
    refine W.seq ?_
    refine W.region rfl ?_
    refine L.va (x_mvI rfl) ?_
    refine L.va (x_mvS rfl) ?_
    refine L.va (x_len rfl Try.underlying34 rfl) ?_
    refine L.va (x_lss rfl rfl) ?_
    refine L.nil ?_
    show W _ _ _ _ _ _
    refine W.condP rfl (fun h29 => ?_) (fun h29 => ?_)
    · refine W.skip ?_
      show W _ _ _ _ _ _
      refine W.seq ?_
      refine W.block ?_
      refine W.seq ?_
      have hi_ : i < n := by omega
      have htm := tmod_range (a := F i) hcl1 hcl2
      have hcc := tmod_pos (a := (F i).tmod cl + cl) hcl1 (by omega)
      have hc1 := hcc.1
      have hc2 := hcc.2
      refine W.region rfl ?_
      refine L.va (x_mvS rfl) ?_
      refine L.va (x_mvI rfl) ?_
      refine L.va (x_idx rfl rfl Try.underlying34 sz3 (hF.sl) (by omega)) ?_
      refine L.va (x_load rfl Try.underlying3 rfl (bl0 hb (hF.at' hi_))) ?_
      refine L.va (x_mvI rfl) ?_
      refine L.va (x_rem rfl rfl (by omega)) ?_
      refine L.va (x_mvI rfl) ?_
      refine L.va (x_addI rfl rfl (by omega)) ?_
      refine L.va (x_mvI rfl) ?_
      refine L.va (x_rem rfl rfl (by omega)) ?_
      refine L.va (x_asI rfl) ?_
      refine L.nil ?_
      show W _ _ _ _ _ _
      refine W.seq ?_
      refine W.region rfl ?_
      refine L.va (x_mvS rfl) ?_
      refine L.va (x_mvI rfl) ?_
      refine L.va (x_build (parts := [(0, .const (.int .i64 1)), (1, .const (.int .i64 1))]) rfl (bu51 _ _)) ?_
      refine L.va (x_build (parts := [(0, .tmp 43), (1, .tmp 44)]) rfl (bu53k _ _ _ _)) ?_
      refine L.build1 rfl rfl Try.underlying25 sz53 rfl ⟨_, zr53⟩ (by decide) (fun w b46 F46 => ?_)
      have hO := hO.keep F46.below
      have hb := cl_step hb F46.below
      refine L.append (B := w0.heap.size) rfl rfl Try.underlying25 in53 rfl (by decide) hO (news := [.int .i64 (((F i).tmod cl + cl).tmod cl), .int .i64 1, .int .i64 1, .int .i64 0]) rfl (fun q u hq => ?_) (fun u hu => by simp at hu; rcases hu with rfl | rfl | rfl | rfl <;> rfl) (by omega) (by omega) hb.size (fun la2 lc2 w2 hO2 hg hbel _ => ?_)
      · rw [Addr.add_lit]
        match q, hq with
        | 0, hq => cases hq; exact F46.blk.cell rfl
        | 1, hq => cases hq; exact F46.blk.cell rfl
        | 2, hq => cases hq; exact F46.blk.cell rfl
        | 3, hq => cases hq; exact F46.blk.cell rfl
      have hb := hb.trans hbel
      have hT2 := hT.put (e := ⟨(((F i).tmod cl + cl).tmod cl), 1, 1, 0⟩) (i := i) (r := 0) (by rw [Nat.add_zero]; exact hN) (by omega) ⟨hc1, hc2⟩ (fun h => absurd h (by decide)) (fun _ => ⟨rfl, rfl, rfl⟩) (fun h => absurd h (by decide)) (fun h => by omega)
      have hO3 := hO2
      rw [← evC_put E N ⟨(((F i).tmod cl + cl).tmod cl), 1, 1, 0⟩] at hO3
      clear hO2 hO hT
      refine L.va (x_asS rfl) ?_
      refine L.nil ?_
      show W _ _ _ _ _ _
      refine W.seq ?_
      refine W.seq ?_
      refine W.region rfl ?_
      refine L.va (x_asI rfl) ?_
      refine L.nil ?_
      show W _ _ _ _ _ _
      refine W.block ?_
      refine W.loop (fun k e w => ∃ j : Nat, ∃ N : Nat, ∃ la : Option Addr, ∃ lc : Nat, ∃ E : Nat → Ev, k = (min kn 3) - j ∧ e 0 = .slice a n c ∧ e 1 = .slice b kn d ∧ e 2 = .int .i64 cl ∧ e 7 = .slice la N lc ∧ e 8 = .int .i64 (i : Int) ∧ e 9 = .int .i64 (((F i).tmod cl + cl).tmod cl) ∧ e 10 = .int .i64 (j : Int) ∧ Below w0.heap.size w0 w ∧ j ≤ (min kn 3) ∧ N = i * ((min kn 3) + 2) + 1 + j ∧ Own w w0.heap.size 53 4 la N lc (evC E N) ∧ Turns E cl (min kn 3) N ∧ (E (i * ((min kn 3) + 2))).c = (((F i).tmod cl + cl).tmod cl)) _ ⟨0, _, _, _, _, rfl, rfl, rfl, rfl, rfl, rfl, rfl, rfl, hb, Nat.zero_le _, by omega, hO3, hT2, by rw [show i * ((min kn 3) + 2) = N from hN.symm, put_self]⟩ ?_
      rintro k e w ⟨j, N, la, lc, E, hk, s0, s1, s2, s7, s8, s9, s10, hb, hjk, hN, hO, hT, hcl⟩
      rw [upd_id s0, upd_id s1, upd_id s2, upd_id s7, upd_id s8, upd_id s9, upd_id s10]
      clear s0 s1 s2 s7 s8 s9 s10
      refine W.seq ?_
      refine W.seq ?_
      refine W.region rfl ?_
      refine L.va (x_mvI rfl) ?_
      refine L.va (x_mvS rfl) ?_
      refine L.va (x_len rfl Try.underlying34 rfl) ?_
      refine L.va (x_lss rfl rfl) ?_
      refine L.va (x_mvB rfl) ?_
      refine L.meetB 3 [52,53,54,55] 55 (.bool (decide ((j : Int) < (kn : Int) ∧ (j : Int) < 3))) (tj := 52) rfl (fun hb52 => ?_) (fun hb52 => ?_) (fun f => ?_)
      · refine L.on rfl ?_
        refine L.va (x_mvI rfl) ?_
        refine L.on rfl ?_
        refine L.va (x_lss rfl rfl) ?_
        refine L.va (x_pickT rfl) ?_
        refine L.nil ?_
        refine ⟨rfl, congrArg Value.bool (by first | exact and_t hb52 | (simp_all; done) | (rw [Bool.eq_iff_iff]; simp_all; omega)), ?_⟩
        exact Agree.upd rfl (Agree.upd rfl (Agree.upd rfl (Agree.upd rfl (Agree.refl _ _))))
      · refine L.off rfl ?_
        refine L.off rfl ?_
        refine L.va (x_pickF rfl) ?_
        refine L.nil ?_
        refine ⟨rfl, congrArg Value.bool (by first | exact and_f hb52 | (simp_all; done) | (rw [Bool.eq_iff_iff]; simp_all; omega)), ?_⟩
        exact Agree.upd rfl (Agree.upd rfl (Agree.upd rfl (Agree.upd rfl (Agree.refl _ _))))
      refine L.nil ?_
      show W _ _ _ _ _ _
      refine W.condP rfl (fun h55 => ?_) (fun h55 => ?_)
      · refine W.skip ?_
        show W _ _ _ _ _ _
        refine W.seq ?_
        refine W.block ?_
        refine W.seq ?_
        refine W.region rfl ?_
        refine L.va (x_asI rfl) ?_
        refine L.nil ?_
        show W _ _ _ _ _ _
        refine W.seq ?_
        refine W.seq ?_
        refine W.region rfl ?_
        refine L.va (x_mvS rfl) ?_
        refine L.va (x_mvI rfl) ?_
        refine L.va (x_idx rfl rfl Try.underlying34 sz3 (hG.sl) (by omega)) ?_
        refine L.va (x_load rfl Try.underlying3 rfl (bl0 hb (hG.at' (by omega)))) ?_
        refine L.va (x_mvI rfl) ?_
        refine L.va (x_add rfl rfl) ?_
        refine L.va (x_rem rfl rfl (by decide)) ?_
        refine L.va (x_eql rfl rfl) ?_
        refine L.nil ?_
        show W _ _ _ _ _ _
        refine W.condP rfl (fun h65 => ?_) (fun h65 => ?_)
        · refine W.region rfl ?_
          refine L.va (x_asI rfl) ?_
          refine L.nil ?_
          show W _ _ _ _ _ _
          refine W.region rfl ?_
          refine L.va (x_mvS rfl) ?_
          refine L.va (x_mvI rfl) ?_
          refine L.va (x_mvI rfl) ?_
          refine L.va (x_mvI rfl) ?_
          refine L.va (x_build (parts := [(0, .tmp 68), (1, .const (.int .i64 2)), (2, .tmp 69)]) rfl (bu51k _ _ _)) ?_
          refine L.va (x_build (parts := [(0, .tmp 67), (1, .tmp 70)]) rfl (bu53k _ _ _ _)) ?_
          refine L.build1 rfl rfl Try.underlying25 sz53 rfl ⟨_, zr53⟩ (by decide) (fun w b72 F72 => ?_)
          have hO := hO.keep F72.below
          have hb := cl_step hb F72.below
          refine L.append (B := w0.heap.size) rfl rfl Try.underlying25 in53 rfl (by decide) hO (news := [.int .i64 (((F i).tmod cl + cl).tmod cl), .int .i64 9, .int .i64 2, .int .i64 (j : Int)]) rfl (fun q u hq => ?_) (fun u hu => by simp at hu; rcases hu with rfl | rfl | rfl | rfl <;> rfl) (by omega) (by omega) hb.size (fun la2 lc2 w2 hO2 hg hbel _ => ?_)
          · rw [Addr.add_lit]
            match q, hq with
            | 0, hq => cases hq; exact F72.blk.cell rfl
            | 1, hq => cases hq; exact F72.blk.cell rfl
            | 2, hq => cases hq; exact F72.blk.cell rfl
            | 3, hq => cases hq; exact F72.blk.cell rfl
          have hb := hb.trans hbel
          have hT2 := hT.put (e := ⟨(((F i).tmod cl + cl).tmod cl), 9, 2, (j : Int)⟩) (i := i) (r := 1 + j) (by omega) (by omega) ⟨hc1, hc2⟩ (fun _ => hcl.symm) (fun h => by omega) (fun _ _ => (.inr rfl)) (fun h => by omega)
          have hO3 := hO2
          rw [← evC_put E N ⟨(((F i).tmod cl + cl).tmod cl), 9, 2, (j : Int)⟩] at hO3
          clear hO2 hO hT
          refine L.va (x_asS rfl) ?_
          refine L.nil ?_
          refine B.nrm ?_
          show W _ _ _ _ _ _
          refine W.region rfl ?_
          refine L.va (x_mvI rfl) ?_
          refine L.va (x_inc rfl rfl (by omega)) ?_
          refine L.va (x_asI rfl) ?_
          refine L.nil ?_
          refine T.nrm ?_
          exact ⟨_, by omega, ⟨j + 1, _, _, _, _, rfl, rfl, rfl, rfl, rfl, rfl, rfl, rfl, hb, by omega, by omega, hO3, hT2, by rw [put_ne (by omega)]; exact hcl⟩⟩
        · refine W.skip ?_
          show W _ _ _ _ _ _
          refine W.region rfl ?_
          refine L.va (x_mvS rfl) ?_
          refine L.va (x_mvI rfl) ?_
          refine L.va (x_mvI rfl) ?_
          refine L.va (x_mvI rfl) ?_
          refine L.va (x_build (parts := [(0, .tmp 68), (1, .const (.int .i64 2)), (2, .tmp 69)]) rfl (bu51k _ _ _)) ?_
          refine L.va (x_build (parts := [(0, .tmp 67), (1, .tmp 70)]) rfl (bu53k _ _ _ _)) ?_
          refine L.build1 rfl rfl Try.underlying25 sz53 rfl ⟨_, zr53⟩ (by decide) (fun w b72 F72 => ?_)
          have hO := hO.keep F72.below
          have hb := cl_step hb F72.below
          refine L.append (B := w0.heap.size) rfl rfl Try.underlying25 in53 rfl (by decide) hO (news := [.int .i64 (((F i).tmod cl + cl).tmod cl), .int .i64 8, .int .i64 2, .int .i64 (j : Int)]) rfl (fun q u hq => ?_) (fun u hu => by simp at hu; rcases hu with rfl | rfl | rfl | rfl <;> rfl) (by omega) (by omega) hb.size (fun la2 lc2 w2 hO2 hg hbel _ => ?_)
          · rw [Addr.add_lit]
            match q, hq with
            | 0, hq => cases hq; exact F72.blk.cell rfl
            | 1, hq => cases hq; exact F72.blk.cell rfl
            | 2, hq => cases hq; exact F72.blk.cell rfl
            | 3, hq => cases hq; exact F72.blk.cell rfl
          have hb := hb.trans hbel
          have hT2 := hT.put (e := ⟨(((F i).tmod cl + cl).tmod cl), 8, 2, (j : Int)⟩) (i := i) (r := 1 + j) (by omega) (by omega) ⟨hc1, hc2⟩ (fun _ => hcl.symm) (fun h => by omega) (fun _ _ => (.inl rfl)) (fun h => by omega)
          have hO3 := hO2
          rw [← evC_put E N ⟨(((F i).tmod cl + cl).tmod cl), 8, 2, (j : Int)⟩] at hO3
          clear hO2 hO hT
          refine L.va (x_asS rfl) ?_
          refine L.nil ?_
          refine B.nrm ?_
          show W _ _ _ _ _ _
          refine W.region rfl ?_
          refine L.va (x_mvI rfl) ?_
          refine L.va (x_inc rfl rfl (by omega)) ?_
          refine L.va (x_asI rfl) ?_
          refine L.nil ?_
          refine T.nrm ?_
          exact ⟨_, by omega, ⟨j + 1, _, _, _, _, rfl, rfl, rfl, rfl, rfl, rfl, rfl, rfl, hb, by omega, by omega, hO3, hT2, by rw [put_ne (by omega)]; exact hcl⟩⟩
      · refine W.exit ?_
        repeat (first | refine T.exit ?_ | refine B.exitNe (by decide) ?_)
        refine B.exitEq ?_
        show W _ _ _ _ _ _
        refine W.region rfl ?_
        refine L.va (x_mvS rfl) ?_
        refine L.va (x_mvI rfl) ?_
        obtain rfl : j = (min kn 3) := by omega
        refine L.va (x_build (parts := [(0, .const (.int .i64 2)), (1, .const (.int .i64 1))]) rfl (bu51 _ _)) ?_
        refine L.va (x_build (parts := [(0, .tmp 75), (1, .tmp 76)]) rfl (bu53k _ _ _ _)) ?_
        refine L.build1 rfl rfl Try.underlying25 sz53 rfl ⟨_, zr53⟩ (by decide) (fun w b78 F78 => ?_)
        have hO := hO.keep F78.below
        have hb := cl_step hb F78.below
        refine L.append (B := w0.heap.size) rfl rfl Try.underlying25 in53 rfl (by decide) hO (news := [.int .i64 (((F i).tmod cl + cl).tmod cl), .int .i64 2, .int .i64 1, .int .i64 0]) rfl (fun q u hq => ?_) (fun u hu => by simp at hu; rcases hu with rfl | rfl | rfl | rfl <;> rfl) (by omega) (by omega) hb.size (fun la2 lc2 w2 hO2 hg hbel _ => ?_)
        · rw [Addr.add_lit]
          match q, hq with
          | 0, hq => cases hq; exact F78.blk.cell rfl
          | 1, hq => cases hq; exact F78.blk.cell rfl
          | 2, hq => cases hq; exact F78.blk.cell rfl
          | 3, hq => cases hq; exact F78.blk.cell rfl
        have hb := hb.trans hbel
        have hT2 := hT.put (e := ⟨(((F i).tmod cl + cl).tmod cl), 2, 1, 0⟩) (i := i) (r := (min kn 3) + 1) (by omega) (by omega) ⟨hc1, hc2⟩ (fun _ => hcl.symm) (fun h => by omega) (fun h1 h2 => by omega) (fun _ => ⟨rfl, rfl, rfl⟩)
        have hO3 := hO2
        rw [← evC_put E N ⟨(((F i).tmod cl + cl).tmod cl), 2, 1, 0⟩] at hO3
        clear hO2 hO hT
        refine L.va (x_asS rfl) ?_
        refine L.nil ?_
        refine B.nrm ?_
        show W _ _ _ _ _ _
        refine W.region rfl ?_
        refine L.va (x_mvI rfl) ?_
        refine L.va (x_inc rfl rfl (by omega)) ?_
        refine L.va (x_asI rfl) ?_
        refine L.nil ?_
        refine T.nrm ?_
        exact ⟨_, by omega, ⟨i + 1, _, _, _, _, rfl, rfl, rfl, rfl, rfl, rfl, hb, by omega, by rw [Nat.succ_mul]; omega, hO3, hT2⟩⟩
    · refine W.exit ?_
      repeat (first | refine T.exit ?_ | refine B.exitNe (by decide) ?_)
      refine B.exitEq ?_
      show W _ _ _ _ _ _
      refine W.seq ?_
      obtain rfl : i = n := by omega
      subst hN
      have hE := EvAt.of_own hO
      have hck := hT.check hcl1 hcl2 (by have : i * ((min kn 3) + 2) ≤ 40 * 5 := Nat.mul_le_mul (by omega) (by omega); omega)
      have hfree := racesL_free (fun x y h1 h2 => hT.free h1 h2)
      refine W.region rfl ?_
      refine L.va (x_mvS rfl) ?_
      refine L.va (x_mvI rfl) ?_
      refine L.call (x_call2 rfl rfl Try.func22 rfl nm22 rfl) (praces_ok la _ lc E cl w hE hck) ?_
      rintro _ w ⟨oa, oc, rfl, hP, hbw⟩
      have hb := cl_step hb hbw
      rw [hfree]
      refine L.va (x_mvT rfl) ?_
      refine L.va (x_extract rfl rfl) ?_
      refine L.va (x_extract rfl rfl) ?_
      refine L.va (x_asS rfl) ?_
      refine L.va (x_asI rfl) ?_
      refine L.nil ?_
      show W _ _ _ _ _ _
      refine W.seq ?_
      refine W.region rfl ?_
      refine L.va (x_mvI rfl) ?_
      refine L.call (x_call1 rfl Try.func12 rfl nm12 rfl) (num_c _ _) ?_
      rintro _ w1 ⟨rfl, hw⟩
      rw [hw]
      clear hw w1
      refine L.va (x_eql rfl rfl) ?_
      refine L.va (x_mvB rfl) ?_
      refine L.meetB 4 [89,90,91,92,93] 93 (.bool true) (tj := 89) rfl (fun hb89 => ?_) (fun hb89 => ?_) (fun f => ?_)
      · refine L.on rfl ?_
        refine L.va (x_mvS rfl) ?_
        refine L.on rfl ?_
        refine L.va (x_len rfl Try.underlying41 rfl) ?_
        refine L.on rfl ?_
        refine L.va (x_eql rfl rfl) ?_
        refine L.va (x_pickT rfl) ?_
        refine L.nil ?_
        refine ⟨rfl, congrArg Value.bool (by simp), ?_⟩
        exact Agree.upd rfl (Agree.upd rfl (Agree.upd rfl (Agree.upd rfl (Agree.upd rfl (Agree.refl _ _)))))
      · exact absurd hb89 (by simp)
      refine L.va (x_mvB rfl) ?_
      refine L.meetW 2 [94,95,96] 96 (.bool true) (tj := 94) (fun w' => Below w.heap.size w w') rfl (fun hb94 => ?_) (fun hb94 => ?_) (fun f w hm => ?_)
      · have hm := Below.refl w.heap.size w
        refine L.on rfl ?_
        refine L.call (x_call0  Try.func13 rfl nm13 rfl) (live_c w) ?_
        rintro _ w ⟨rfl, hbw⟩
        have hm := cl_step hm hbw
        refine L.va (x_pickT rfl) ?_
        refine L.nil ?_
        refine ⟨hm, congrArg Value.bool (rfl), ?_⟩
        exact Agree.upd rfl (Agree.upd rfl (Agree.upd rfl (Agree.refl _ _)))
      · cases hb94
      have hb := cl_step hb hm
      refine L.va (x_asB rfl) ?_
      refine L.nil ?_
      show W _ _ _ _ _ _
      refine W.ret ?_
      repeat (first | refine T.ret ?_ | refine B.ret ?_)
      refine ends.one (.inr rfl) rfl ?_
      exact ⟨rfl, hb⟩

end Go.Proofs.Ytlopdjbehhdmpaa
