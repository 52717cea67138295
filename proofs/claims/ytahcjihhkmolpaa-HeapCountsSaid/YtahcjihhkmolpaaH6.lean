/- HeapCounts: what the Go text returns. -/
import Derived.Test.YtahcjihhkmolpaaH5
namespace Go.Proofs.Ytahcjihhkmolpaa
open Go.Vc Go.RowKit
theorem in197 : (Try.prog.info? 197).map (fun i => (i.zero, i.size, i.bytes)) = some (some (.slice none 0 0), 1, 24) := by kernel_rfl

theorem buF_0 (x0 : Option Addr) (x1 : Option Addr) (x2 : Nat) (x3 : Nat) : Try.prog.built 54 [(1, .pointer x0), (2, .slice x1 x2 x3)] = some #[.slice none 0 0, .slice none 0 0, .slice none 0 0, .slice none 0 0, .bool false, .int .i64 0, .pointer x0, .slice x1 x2 x3, .slice none 0 0] := by kernel_rfl
set_option maxHeartbeats 4000000 in
theorem counts_l (a : Option Addr) (n c : Nat) (O : Nat → Opn) (most : Int) (w0 : World) (hE : OpsAt w0 a n O) (hmr : -9223372036854775808 ≤ most ∧ most ≤ 9223372036854775807) :
    C Try.prog 4 #[.int .i64 most, .slice a n c] w0 fun v w => v = .bool true ∧ Below w0.heap.size w0 w := by
  refine C.enter (n := 141) Try.func4 rfl rfl ?_
  obtain ⟨Bs, hBe⟩ : ∃ x, x = w0.heap.size := ⟨_, rfl⟩
  have hBs : Bs ≤ w0.heap.size := Nat.le_of_eq hBe
  have hm : ModT w0 w0 Bs [78, 126, 132, 85, 35, 2, 4, 54] := ModT.refl _ _ _
  refine W.seq ?_
  refine W.region rfl ?_
  refine L.va (x_asB rfl) ?_
  refine L.nil ?_
  show W _ _ _ _ _ _
  refine W.seq ?_
  refine W.seq ?_
  refine W.region rfl ?_
  refine L.va (x_mvS rfl) ?_
  refine L.va (x_len rfl Try.underlying22 rfl) ?_
  refine L.va (x_gtr rfl rfl) ?_
  refine L.va (x_mvB rfl) ?_
  refine L.meetB 3 [17,18,19,20] 20 (.bool (decide ((2000 : Int) < (n : Int) ∨ most < 1))) (tj := 17) rfl (fun hb17 => ?_) (fun hb17 => ?_) (fun f => ?_)
  · refine L.off rfl ?_
    refine L.off rfl ?_
    refine L.va (x_pickT rfl) ?_
    refine L.nil ?_
    refine ⟨rfl, congrArg Value.bool (by first | exact or_t hb17 | rfl | (simp_all; done) | (rw [Bool.eq_iff_iff]; simp_all; omega)), ?_⟩
    exact Agree.upd rfl (Agree.upd rfl (Agree.upd rfl (Agree.upd rfl (Agree.refl _ _))))
  · refine L.on rfl ?_
    refine L.va (x_mvI rfl) ?_
    refine L.on rfl ?_
    refine L.va (x_lss rfl rfl) ?_
    refine L.va (x_pickF rfl) ?_
    refine L.nil ?_
    refine ⟨rfl, congrArg Value.bool (by first | exact or_f hb17 | rfl | (simp_all; done) | (rw [Bool.eq_iff_iff]; simp_all; omega)), ?_⟩
    exact Agree.upd rfl (Agree.upd rfl (Agree.upd rfl (Agree.upd rfl (Agree.refl _ _))))
  refine L.va (x_mvB rfl) ?_
  refine L.meetB 3 [21,22,23,24] 24 (.bool (decide (((2000 : Int) < (n : Int) ∨ most < 1) ∨ (1048576 : Int) < most))) (tj := 21) rfl (fun hb21 => ?_) (fun hb21 => ?_) (fun f => ?_)
  · refine L.off rfl ?_
    refine L.off rfl ?_
    refine L.va (x_pickT rfl) ?_
    refine L.nil ?_
    refine ⟨rfl, congrArg Value.bool (by first | exact or_t hb21 | rfl | (simp_all; done) | (rw [Bool.eq_iff_iff]; simp_all; omega)), ?_⟩
    exact Agree.upd rfl (Agree.upd rfl (Agree.upd rfl (Agree.upd rfl (Agree.refl _ _))))
  · refine L.on rfl ?_
    refine L.va (x_mvI rfl) ?_
    refine L.on rfl ?_
    refine L.va (x_gtr rfl rfl) ?_
    refine L.va (x_pickF rfl) ?_
    refine L.nil ?_
    refine ⟨rfl, congrArg Value.bool (by first | exact or_f hb21 | rfl | (simp_all; done) | (rw [Bool.eq_iff_iff]; simp_all; omega)), ?_⟩
    exact Agree.upd rfl (Agree.upd rfl (Agree.upd rfl (Agree.upd rfl (Agree.refl _ _))))
  refine L.nil ?_
  show W _ _ _ _ _ _
  refine W.condP rfl (fun h24 => ?_) (fun h24 => ?_)
  · refine W.seq ?_
    refine W.region rfl ?_
    refine L.call (x_call0  Try.func7 rfl nm7 rfl) (live_c w0) ?_
    rintro _ w ⟨rfl, hbw⟩
    have hm := hm.step hbw (Nat.le_trans hBs hm.size)
    refine L.va (x_asB rfl) ?_
    refine L.nil ?_
    show W _ _ _ _ _ _
    refine W.ret ?_
    repeat (first | refine T.ret ?_ | refine B.ret ?_)
    refine ends.one (.inr rfl) rfl ?_
    exact ⟨rfl, hm.toBelow hBe⟩
  · refine W.skip ?_
    show W _ _ _ _ _ _
    refine W.seq ?_
    have hm1 : 1 ≤ most ∧ most ≤ 1048576 ∧ n ≤ 2000 := by omega
    refine W.region rfl ?_
    refine L.call (x_call0  Try.func9 rfl nm9 rfl) (scripted_c w0) ?_
    rintro _ w ⟨wb, rfl, _, hW, hbw⟩
    have hm := hm.step hbw (Nat.le_trans hBs hm.size)
    refine L.va (x_mvI rfl) ?_
    refine L.call (x_call3 rfl rfl rfl Try.func8 rfl nm8 rfl) (new_ok Bs wb 5 most w (Nat.le_trans hBs hm.size) hW (by omega)) ?_
    rintro _ w ⟨hp, rfl, hS, hbw⟩
    have hm := hm.step hbw (Nat.le_trans hBs hm.size)
    have hW := hW.keep hbw
    have hS : HT w Bs hp 5 most hs0 := hS
    refine L.va (x_mvT rfl) ?_
    refine L.va (x_extract rfl rfl) ?_
    refine L.va (x_extract rfl rfl) ?_
    refine L.va (x_asP rfl) ?_
    refine L.va (x_asI rfl) ?_
    refine L.nil ?_
    show W _ _ _ _ _ _
    refine W.seq ?_
    refine W.seq ?_
    refine W.region rfl ?_
    refine L.va (x_mvI rfl) ?_
    refine L.call (x_call1 rfl Try.func10 rfl nm10 rfl) (num_c _ w) ?_
    rintro _ w1 ⟨rfl, hw⟩
    rw [hw]
    clear hw w1
    refine L.va (x_neq rfl rfl) ?_
    refine L.va (x_mvB rfl) ?_
    refine L.on rfl ?_
    refine L.va (x_mvP rfl) ?_
    refine L.on rfl ?_
    refine L.va (x_eqPtrNil rfl rfl Try.underlying24) ?_
    refine L.va (x_pickF rfl) ?_
    refine L.nil ?_
    show W _ _ _ _ _ _
    refine W.condF rfl ?_
    refine W.skip ?_
    show W _ _ _ _ _ _
    refine W.seq ?_
    refine W.region rfl ?_
    refine L.va (x_mvP rfl) ?_
    refine L.make (m := 1) rfl rfl Try.underlying46 in197 rfl (by decide) (by omega) (by omega) (fun w b40 F40 => ?_)
    have lt40 : w0.heap.size ≤ b40 := by have h9 := F40.here; have h8 := hm.size; omega
    have hm := hm.step F40.below (Nat.le_trans hBs hm.size)
    have hW := hW.keep F40.below
    have hS := hS.keep F40.below
    have hB40 := F40.blk
    refine L.va (x_build (parts := [(1, .tmp 39), (2, .tmp 40)]) rfl (buF_0 ((some (⟨hp, 0, none⟩))) (some ⟨b40, 0, none⟩) 1 1)) ?_
    refine L.box (cs := #[.slice none 0 0, .slice none 0 0, .slice none 0 0, .slice none 0 0, .bool false, .int .i64 0, .pointer (some (⟨hp, 0, none⟩)), .slice (some ⟨b40, 0, none⟩) 1 1, .slice none 0 0]) rfl rfl (fun w b42 F42 => ?_)
    have lt42 : w0.heap.size ≤ b42 := by have h9 := F42.here; have h8 := hm.size; omega
    have hm := hm.step F42.below (Nat.le_trans hBs hm.size)
    have hW := hW.keep F42.below
    have hS := hS.keep F42.below
    have hB40 := hB40.keep F42.below
    have hB42 := F42.blk
    refine L.va (x_asP rfl) ?_
    refine L.nil ?_
    show W _ _ _ _ _ _
    refine W.seq ?_
    refine W.region rfl ?_
    refine L.va (x_asI rfl) ?_
    refine L.va (x_asI rfl) ?_
    refine L.nil ?_
    show W _ _ _ _ _ _
    refine W.seq ?_
    refine W.seq ?_
    refine W.region rfl ?_
    refine L.va (x_asI rfl) ?_
    refine L.nil ?_
    show W _ _ _ _ _ _
    refine W.block ?_
    have hQ := hB42
    refine W.loop (fun k e w => ∃ i : Nat, ∃ cnt : Int, ∃ high : Int, ∃ s : Hs, ∃ ta : Option Addr, ∃ len : Nat, ∃ tc : Nat, ∃ R : Nat → Int × Int, k = n - i ∧ e 0 = .int .i64 most ∧ e 1 = .slice a n c ∧ e 5 = .pointer (some (⟨hp, 0, none⟩)) ∧ e 7 = .pointer (some ⟨b42, 0, none⟩) ∧ e 8 = .int .i64 cnt ∧ e 9 = .int .i64 high ∧ e 10 = .int .i64 (i : Nat) ∧ ModT w0 w Bs [78, 126, 132, 85, 35, 2, 4, 54] ∧ HT w Bs hp 5 most s ∧ Blk w b42 #[.slice none 0 0, .slice none 0 0, .slice none 0 0, .slice none 0 0, .bool false, .int .i64 0, .pointer (some (⟨hp, 0, none⟩)), .slice (some ⟨b40, 0, none⟩) 1 1, .slice ta len tc] 54 ∧ Own w Bs 35 2 ta len tc (refC R len) ∧ i ≤ n ∧ Small s (2 * i) ∧ cnt = (s.n : Int) - (s.m : Int) ∧ high = (s.n : Int) ∧ (s.n : Int) ≤ most ∧ len ≤ i) _ ⟨0, 0, 0, hs0, none, 0, 0, fun _ => (0, 0), rfl, rfl, rfl, rfl, rfl, rfl, rfl, rfl, hm, hS, hQ, Own.nil _ _ _ _, Nat.zero_le _, ⟨Nat.le_refl 0, Nat.le_refl 0, fun i hi => absurd hi (Nat.not_lt_zero i)⟩, rfl, rfl, by show ((0 : Nat) : Int) ≤ most; omega, Nat.le_refl 0⟩ ?_
    rintro k e w ⟨i, cnt, high, s, ta, len, tc, R, hk, s0, s1, s5, s7, s8, s9, s10, hm, hS, hQ, hO, hin, hsm, hcn, hhi, hnm, hlen⟩
    rw [upd_id s0, upd_id s1, upd_id s5, upd_id s7, upd_id s8, upd_id s9, upd_id s10]
    clear s0 s1 s5 s7 s8 s9 s10
    have hsn := hsm.1
    have hsmm := hsm.2.1
    refine W.seq ?_
    refine W.seq ?_
    refine W.region rfl ?_
    refine L.va (x_mvI rfl) ?_
    refine L.va (x_mvS rfl) ?_
    refine L.va (x_len rfl Try.underlying22 rfl) ?_
    refine L.va (x_lss rfl rfl) ?_
    refine L.nil ?_
    show W _ _ _ _ _ _
    refine W.condP rfl (fun h46 => ?_) (fun h46 => ?_)
    · refine W.skip ?_
      show W _ _ _ _ _ _
      refine W.seq ?_
      refine W.block ?_
      refine W.seq ?_
      have hi_ : i < n := by omega
      refine W.region rfl ?_
      refine L.va (x_mvS rfl) ?_
      refine L.va (x_mvI rfl) ?_
      refine L.va (x_idx (i := i) rfl rfl Try.underlying22 sz37 (hE.sl) (hi_)) ?_
      refine L.va (x_loadAgg (cs := [.int .i64 ((O i).k), .int .i64 ((O i).v), .int .i64 ((O i).wh), .int .i64 ((O i).rn), .int .i64 ((O i).rg)]) rfl Try.underlying37 rfl sz37 rfl ((hE.low hm (Nat.le_of_eq hBe.symm)).at' hi_)) ?_
      refine L.alloc (cs := #[.int .i64 0, .int .i64 0, .int .i64 0, .int .i64 0, .int .i64 0]) zr37 rfl (fun w b11 F11 => ?_)
      have lt11 : w0.heap.size ≤ b11 := by have h9 := F11.here; have h8 := hm.size; omega
      have hm := hm.step F11.below (Nat.le_trans hBs hm.size)
      have hS := hS.keep F11.below
      have hQ := hQ.keep F11.below
      have hO := hO.keep F11.below
      have hB11 := F11.blk
      refine L.put (b := b11) (o := 0) (vs := [.int .i64 ((O i).k), .int .i64 ((O i).v), .int .i64 ((O i).wh), .int .i64 ((O i).rn), .int .i64 ((O i).rg)]) #[.int .i64 ((O i).k), .int .i64 ((O i).v), .int .i64 ((O i).wh), .int .i64 ((O i).rn), .int .i64 ((O i).rg)] rfl rfl rfl sz37 rfl rfl hB11 (Nat.le_of_ble_eq_true rfl) rfl (fun w hnew hg hsz => ?_)
      have hm0 := ModT.put0 hB11 hg
      have hm := hm.own hg lt11 hBs
      have hS := hS.mod hm0 rfl
      have hQ := hQ.mod hm0 rfl
      have hO := hO.mod hm0 rfl
      have hB11 := hnew
      clear hm0
      refine L.nil ?_
      show W _ _ _ _ _ _
      refine W.seq ?_
      refine W.seq ?_
      refine W.region rfl ?_
      refine L.va (x_field rfl Try.underlying37 rfl sz3 (by decide)) ?_
      refine L.va (x_load rfl Try.underlying3 rfl (hB11.cellAt 0 (v := .int .i64 ((O i).k)) rfl)) ?_
      refine L.va (x_eql rfl rfl) ?_
      refine L.nil ?_
      show W _ _ _ _ _ _
      refine W.cutE (fun E0 e' w' => ∃ cnt2 : Int, ∃ s2 : Hs, ∃ ta2 : Option Addr, ∃ len2 : Nat, ∃ tc2 : Nat, ∃ R2 : Nat → Int × Int, e' 8 = .int .i64 cnt2 ∧ Agree [8,12,13,56,57,58,59,60,61,62,63,64,65,66,67,68,69,70,71,72,73,74,75,76,77,78,79,80,81,82,83,84,85,86,87,88,89,90,91,92,93,94] e' E0 ∧ ModT w0 w' Bs [78, 126, 132, 85, 35, 2, 4, 54] ∧ HT w' Bs hp 5 most s2 ∧ Blk w' b42 #[.slice none 0 0, .slice none 0 0, .slice none 0 0, .slice none 0 0, .bool false, .int .i64 0, .pointer (some (⟨hp, 0, none⟩)), .slice (some ⟨b40, 0, none⟩) 1 1, .slice ta2 len2 tc2] 54 ∧ Own w' Bs 35 2 ta2 len2 tc2 (refC R2 len2) ∧ Blk w' b11 #[.int .i64 ((O i).k), .int .i64 ((O i).v), .int .i64 ((O i).wh), .int .i64 ((O i).rn), .int .i64 ((O i).rg)] 37 ∧ Small s2 (2 * i + 1) ∧ cnt2 = (s2.n : Int) - (s2.m : Int) ∧ ((s2.n : Int) = high ∨ ((s2.n : Int) = high + 1 ∧ s2.m = 0 ∧ (O i).k = 1)) ∧ (s2.n : Int) ≤ most ∧ len2 ≤ i + 1) ?_ ?_
      · refine W.condP rfl (fun h55 => ?_) (fun h55 => ?_)
        · refine W.seq ?_
          refine W.region rfl ?_
          refine L.va (x_mvP rfl) ?_
          refine L.va (x_field rfl Try.underlying37 rfl sz2 (by decide)) ?_
          refine L.va (x_load rfl Try.underlying2 rfl (hB11.cellAt 1 (v := .int .i64 ((O i).v)) rfl)) ?_
          refine L.call (x_call3 rfl rfl rfl Try.func12 rfl nm12 rfl) (alloc_x Bs hp 5 most _ s w hS (Nat.le_trans hBs hm.size) (by omega) (by omega)) ?_
          rintro _ w ⟨num, gen, err, s2, hal, rfl, hS2, hmo⟩
          have hm := hm.trans (hmo.wide rfl)
          have hQ := hQ.mod hmo rfl
          have hO := hO.mod hmo rfl
          have hB11 := hB11.mod hmo rfl
          clear hmo
          have hac := allocR_counts hal hnm
          have hsm2 : Small s2 (2 * i + 1) := by
            have h9 := hsm.alloc most (O i).v (fun h0 => by obtain ⟨q, hq, he⟩ := hS.pl (j := s.m - 1) (by omega); omega)
            rw [hal] at h9; exact h9
          have h84 : (decide (err = 0) != decide (0 < num)) = false := by rcases hac with ⟨h1, h2, _⟩ | ⟨h1, h2, _⟩ <;> simp [h1, h2]
          have hS := hS2
          refine L.va (x_mvT rfl) ?_
          refine L.va (x_extract rfl rfl) ?_
          refine L.va (x_extract rfl rfl) ?_
          refine L.alloc (cs := #[.int .i64 0, .int .i64 0]) zr35 rfl (fun w b12 F12 => ?_)
          have lt12 : w0.heap.size ≤ b12 := by have h9 := F12.here; have h8 := hm.size; omega
          have hto12 : ta ≠ none → ab ta ≠ b12 := fun h => by have h8 := hO.lt h; have h9 := F12.here; omega
          have hm := hm.step F12.below (Nat.le_trans hBs hm.size)
          have hQ := hQ.keep F12.below
          have hO := hO.keep F12.below
          have hB11 := hB11.keep F12.below
          have hS := hS.keep F12.below
          have hB12 := F12.blk
          refine L.put (b := b12) (o := 0) (vs := [.int .i64 num, .int .i64 gen]) #[.int .i64 num, .int .i64 gen] rfl rfl rfl sz35 rfl rfl hB12 (Nat.le_of_ble_eq_true rfl) rfl (fun w hnew hg hsz => ?_)
          have hm0 := ModT.put0 hB12 hg
          have hm := hm.own hg lt12 hBs
          have hQ := hQ.mod hm0 rfl
          have hO := hO.otherB hg hto12
          have hB11 := hB11.mod hm0 rfl
          have hS := hS.mod hm0 rfl
          have hB12 := hnew
          clear hm0
          refine L.va (x_asI rfl) ?_
          refine L.nil ?_
          show W _ _ _ _ _ _
          refine W.seq ?_
          refine W.seq ?_
          refine W.region rfl ?_
          refine L.va (x_mvI rfl) ?_
          refine L.call (x_call1 rfl Try.func10 rfl nm10 rfl) (num_c _ w) ?_
          rintro _ w1 ⟨rfl, hw⟩
          rw [hw]
          clear hw w1
          refine L.va (x_eql rfl rfl) ?_
          refine L.nil ?_
          show W _ _ _ _ _ _
          refine W.condP rfl (fun h65 => ?_) (fun h65 => ?_)
          · refine W.seq ?_
            have hdr : Below w.heap.size w w.drew := (Below.refl w.heap.size w).drew
            obtain ⟨w1, e1⟩ : ∃ x, x = w.drew.alloc (.cells #[.int .i64 num, .int .i64 gen] 35) := ⟨_, rfl⟩
            have hb1 : Below w.heap.size w w1 := by rw [e1]; exact hdr.alloc (Nat.le_refl _) _
            have hn1 : Blk w1 w.heap.size #[.int .i64 num, .int .i64 gen] 35 := by rw [e1]; exact (fresh_alloc w.drew _ 35).blk
            have hsz1 := hb1.size
            have hsz0 := hm.size
            have hO1 := hO.keep hb1
            obtain ⟨ta2, tc2, w2, hO2, hg2, hbel2, hr2⟩ := run_append_ex (P := Try.prog) (m := 1) (c' := 1) (news := [.int .i64 num, .int .i64 gen]) (ad := ⟨w.heap.size, 0, none⟩) 31 Try.underlying31 in35 rfl (by decide) hO1 rfl (fun q u hq => by
              rw [Addr.add_lit]
              match q, hq with
              | 0, hq => cases hq; exact hn1.cellAt 0 rfl
              | 1, hq => cases hq; exact hn1.cellAt 1 rfl) (fun u hu => by simp at hu; rcases hu with rfl | rfl <;> rfl) (by omega) (by omega) (by omega)
            have hm2 : ModT w1 w2 Bs [35] := ModT.app hO1 hg2 hbel2 rfl hO2
            have hB12w : ∀ {x : World}, x = w2 → Blk x b12 #[.int .i64 num, .int .i64 gen] 35 := fun hx => by subst hx; exact (hB12.keep hb1).grownOwn hg2 hto12
            refine W.mid 10 [6, 7] (fun s => match s with | 0 => w.drew | 1 => w1 | _ => w2) (by kernel_rfl) (by kernel_rfl) (by kernel_rfl) (by kernel_rfl) (by kernel_rfl) rfl ?_
            have all_hQ : ∀ s, s ≤ [6, 7].length → Blk ((fun s => match s with | 0 => w.drew | 1 => w1 | _ => w2 : Nat → World) s) b42 #[.slice none 0 0, .slice none 0 0, .slice none 0 0, .slice none 0 0, .bool false, .int .i64 0, .pointer (some (⟨hp, 0, none⟩)), .slice (some ⟨b40, 0, none⟩) 1 1, .slice ta len tc] 54 := fun s _ => by
              match s with
              | 0 => exact (hQ.keep hdr)
              | 1 => exact (hQ.keep hb1)
              | s + 2 => exact ((hQ.keep hb1).mod hm2 rfl)
            have all_hB12 : ∀ s, s ≤ [6, 7].length → Blk ((fun s => match s with | 0 => w.drew | 1 => w1 | _ => w2 : Nat → World) s) b12 #[.int .i64 num, .int .i64 gen] 35 := fun s _ => by
              match s with
              | 0 => exact (hB12.keep hdr)
              | 1 => exact (hB12.keep hb1)
              | s + 2 => exact hB12w rfl
            refine E.va rfl (fun s hs => (x_mvP rfl)) ?_
            refine E.va rfl (fun s hs => (x_mvP rfl)) ?_
            refine E.va rfl (fun s hs => (x_nilCheck rfl)) ?_
            refine E.va rfl (fun s hs => (x_field rfl Try.underlying54 rfl sz31 (by decide))) ?_
            refine E.va rfl (fun s hs => (x_load rfl Try.underlying31 rfl ((all_hQ s hs).cellAt 8 (v := .slice ta len tc) rfl))) ?_
            refine E.va rfl (fun s hs => (x_loadAgg (cs := [.int .i64 num, .int .i64 gen]) rfl Try.underlying35 rfl sz35 rfl ((all_hB12 s hs).aggAt rfl))) ?_
            refine E.eff 0 (v := .slice (some ⟨w.heap.size, 0, none⟩) 1 1) (by kernel_rfl) rfl rfl ((x_buildOne rfl rfl Try.underlying31 sz35 rfl ⟨_, zr35⟩ (by decide)).trans (by rw [e1]; rfl)) ?_
            refine E.eff 1 (v := .slice ta2 (len + 1) tc2) (by kernel_rfl) rfl rfl (hr2 _ _ _ _ _ _ _ rfl rfl) ?_
            refine E.va rfl (fun s hs => (x_nilCheck rfl)) ?_
            refine E.va rfl (fun s hs => (x_field rfl Try.underlying54 rfl sz31 (by decide))) ?_
            refine E.nil ?_
            show L _ _ _ _ _ _ w2
            have hm := hm.step hb1 (Nat.le_trans hBs hm.size)
            have hQ := hQ.keep hb1
            have hO := hO.keep hb1
            have hB11 := hB11.keep hb1
            have hS := hS.keep hb1
            have hB12 := hB12.keep hb1
            have hm := hm.trans (hm2.wide rfl)
            have hQ := hQ.mod hm2 rfl
            have hS := hS.mod hm2 rfl
            have hB12 := hB12w rfl
            have hB11 := hB11.mod hm2 rfl
            have hO := hO2
            rw [refC_put] at hO
            clear hO1 hO2
            refine L.put (b := b42) (o := 8) (vs := [.slice ta2 (len + 1) tc2]) #[.slice none 0 0, .slice none 0 0, .slice none 0 0, .slice none 0 0, .bool false, .int .i64 0, .pointer (some (⟨hp, 0, none⟩)), .slice (some ⟨b40, 0, none⟩) 1 1, .slice ta2 (len + 1) tc2] rfl rfl rfl sz31 rfl rfl hQ (Nat.le_of_ble_eq_true rfl) rfl (fun w hnew hg hsz => ?_)
            have hm0 := ModT.put0 hQ hg
            have hm := hm.own hg lt42 hBs
            have hS := hS.mod hm0 rfl
            have hB12 := hB12.mod hm0 rfl
            have hO := hO.mod hm0 rfl
            have hB11 := hB11.mod hm0 rfl
            have hQ := hnew
            clear hm0
            refine L.nil ?_
            show W _ _ _ _ _ _
            refine W.region rfl ?_
            refine L.va (x_mvI rfl) ?_
            refine L.va (x_addI rfl rfl (by omega)) ?_
            refine L.va (x_asI rfl) ?_
            refine L.nil ?_
            show W _ _ _ _ _ _
            refine W.seq ?_
            refine W.quiet (fun w' => Below w.heap.size w w') (by kernel_rfl) (by kernel_rfl) ((Below.refl w.heap.size w).drew) ?_
            refine D.va (fun w' hw' => (x_mvI rfl)) ?_
            refine D.call (fun w' hw' => (x_call1 rfl Try.func10 rfl nm10 rfl)) (fun w' hw' => (num_c _ w').mono fun r w h => ⟨h.1, by rw [h.2]; exact hw'⟩) ?_
            refine D.va (fun w' hw' => (x_eql rfl rfl)) ?_
            refine D.va (fun w' hw' => (x_field rfl Try.underlying35 rfl sz3 (by decide))) ?_
            refine D.va (fun w' hw' => (x_load rfl Try.underlying3 rfl ((hB12.keep hw').cellAt 0 (v := .int .i64 num) rfl))) ?_
            refine D.va (fun w' hw' => (x_gtr rfl rfl)) ?_
            refine D.va (fun w' hw' => neB (r := false) h84 rfl rfl) ?_
            refine D.va (fun w' hw' => (x_mvB rfl)) ?_
            refine D.on rfl ?_
            refine D.va (fun w' hw' => (x_mvI rfl)) ?_
            refine D.on rfl ?_
            refine D.call (fun w' hw' => (x_call1 rfl Try.func10 rfl nm10 rfl)) (fun w' hw' => (num_c _ w').mono fun r w h => ⟨h.1, by rw [h.2]; exact hw'⟩) ?_
            refine D.on rfl ?_
            refine D.va (fun w' hw' => (x_neq rfl rfl)) ?_
            refine D.on rfl ?_
            refine D.va (fun w' hw' => (x_mvB rfl)) ?_
            refine D.meetB 4 [89,90,91,92,93] 93 (.bool false) (tj := 89) rfl (fun hb89 => ?_) (fun hb89 => ?_) (fun f => ?_)
            · refine D.on rfl ?_
              refine D.va (fun w' hw' => (x_mvI rfl)) ?_
              refine D.on rfl ?_
              refine D.va (fun w' hw' => (x_mvI rfl)) ?_
              refine D.on rfl ?_
              refine D.va (fun w' hw' => (x_neq rfl rfl)) ?_
              refine D.on rfl ?_
              refine D.va (fun w' hw' => (x_pickT rfl)) ?_
              refine D.nil ?_
              refine ⟨congrArg Value.bool ((by have h9 := of_decide_eq_true hb89; rcases hac with ⟨h1, -⟩ | ⟨h1, -, -, h4, h5⟩; exact absurd h1 h9; exact decide_eq_false (by omega))), ?_⟩
              exact Agree.upd rfl (Agree.upd rfl (Agree.upd rfl (Agree.upd rfl (Agree.upd rfl (Agree.refl _ _)))))
            · refine D.off rfl ?_
              refine D.off rfl ?_
              refine D.off rfl ?_
              refine D.on rfl ?_
              refine D.va (fun w' hw' => (x_pickF rfl)) ?_
              refine D.nil ?_
              refine ⟨congrArg Value.bool (rfl), ?_⟩
              exact Agree.upd rfl (Agree.upd rfl (Agree.upd rfl (Agree.upd rfl (Agree.upd rfl (Agree.refl _ _)))))
            refine D.va (fun w' hw' => (x_pickF rfl)) ?_
            refine D.nil (fun w hbw => ?_)
            have hm := hm.step hbw (Nat.le_trans hBs hm.size)
            have hQ := hQ.keep hbw
            have hS := hS.keep hbw
            have hB12 := hB12.keep hbw
            have hO := hO.keep hbw
            have hB11 := hB11.keep hbw
            clear hbw
            show W _ _ _ _ _ _
            refine W.condF rfl ?_
            refine W.skip ?_
            repeat (first | refine T.nrm ?_ | refine B.nrm ?_)
            have hac2 : (s2.n : Int) - s2.m = s.n - s.m + 1 ∧ (s2.n = s.n ∨ (s2.n = s.n + 1 ∧ s2.m = 0)) ∧ (s2.n : Int) ≤ most := by
              rcases hac with ⟨-, -, h⟩ | ⟨h, -⟩
              · exact h
              · omega
            exact ⟨_, s2, ta2, len + 1, tc2, _, rfl, by repeat (first | exact Agree.refl _ _ | refine Agree.upd (by rfl) ?_ | refine Agree.hav (by rfl) ?_), hm, hS, hQ, hO, hB11, hsm2, by omega, by omega, hac2.2.2, by omega⟩
          · refine W.skip ?_
            show W _ _ _ _ _ _
            refine W.seq ?_
            refine W.quiet (fun w' => Below w.heap.size w w') (by kernel_rfl) (by kernel_rfl) ((Below.refl w.heap.size w).drew) ?_
            refine D.va (fun w' hw' => (x_mvI rfl)) ?_
            refine D.call (fun w' hw' => (x_call1 rfl Try.func10 rfl nm10 rfl)) (fun w' hw' => (num_c _ w').mono fun r w h => ⟨h.1, by rw [h.2]; exact hw'⟩) ?_
            refine D.va (fun w' hw' => (x_eql rfl rfl)) ?_
            refine D.va (fun w' hw' => (x_field rfl Try.underlying35 rfl sz3 (by decide))) ?_
            refine D.va (fun w' hw' => (x_load rfl Try.underlying3 rfl ((hB12.keep hw').cellAt 0 (v := .int .i64 num) rfl))) ?_
            refine D.va (fun w' hw' => (x_gtr rfl rfl)) ?_
            refine D.va (fun w' hw' => neB (r := false) h84 rfl rfl) ?_
            refine D.va (fun w' hw' => (x_mvB rfl)) ?_
            refine D.on rfl ?_
            refine D.va (fun w' hw' => (x_mvI rfl)) ?_
            refine D.on rfl ?_
            refine D.call (fun w' hw' => (x_call1 rfl Try.func10 rfl nm10 rfl)) (fun w' hw' => (num_c _ w').mono fun r w h => ⟨h.1, by rw [h.2]; exact hw'⟩) ?_
            refine D.on rfl ?_
            refine D.va (fun w' hw' => (x_neq rfl rfl)) ?_
            refine D.on rfl ?_
            refine D.va (fun w' hw' => (x_mvB rfl)) ?_
            refine D.meetB 4 [89,90,91,92,93] 93 (.bool false) (tj := 89) rfl (fun hb89 => ?_) (fun hb89 => ?_) (fun f => ?_)
            · refine D.on rfl ?_
              refine D.va (fun w' hw' => (x_mvI rfl)) ?_
              refine D.on rfl ?_
              refine D.va (fun w' hw' => (x_mvI rfl)) ?_
              refine D.on rfl ?_
              refine D.va (fun w' hw' => (x_neq rfl rfl)) ?_
              refine D.on rfl ?_
              refine D.va (fun w' hw' => (x_pickT rfl)) ?_
              refine D.nil ?_
              refine ⟨congrArg Value.bool ((by have h9 := of_decide_eq_true hb89; rcases hac with ⟨h1, -⟩ | ⟨h1, -, -, h4, h5⟩; exact absurd h1 h9; exact decide_eq_false (by omega))), ?_⟩
              exact Agree.upd rfl (Agree.upd rfl (Agree.upd rfl (Agree.upd rfl (Agree.upd rfl (Agree.refl _ _)))))
            · refine D.off rfl ?_
              refine D.off rfl ?_
              refine D.off rfl ?_
              refine D.on rfl ?_
              refine D.va (fun w' hw' => (x_pickF rfl)) ?_
              refine D.nil ?_
              refine ⟨congrArg Value.bool (rfl), ?_⟩
              exact Agree.upd rfl (Agree.upd rfl (Agree.upd rfl (Agree.upd rfl (Agree.upd rfl (Agree.refl _ _)))))
            refine D.va (fun w' hw' => (x_pickF rfl)) ?_
            refine D.nil (fun w hbw => ?_)
            have hm := hm.step hbw (Nat.le_trans hBs hm.size)
            have hQ := hQ.keep hbw
            have hO := hO.keep hbw
            have hB11 := hB11.keep hbw
            have hS := hS.keep hbw
            have hB12 := hB12.keep hbw
            clear hbw
            show W _ _ _ _ _ _
            refine W.condF rfl ?_
            refine W.skip ?_
            repeat (first | refine T.nrm ?_ | refine B.nrm ?_)
            have hac2 : s2 = s := by
              rcases hac with ⟨h, -⟩ | ⟨-, -, h, -⟩
              · exact absurd h h65
              · exact h
            exact ⟨_, s2, ta, len, tc, R, rfl, by repeat (first | exact Agree.refl _ _ | refine Agree.upd (by rfl) ?_ | refine Agree.hav (by rfl) ?_), hm, hS, hQ, hO, hB11, hsm2, by rw [hac2]; exact hcn, .inl (by rw [hac2]; omega), by rw [hac2]; exact hnm, by omega⟩
        · refine W.skip ?_
          repeat (first | refine T.nrm ?_ | refine B.nrm ?_)
          exact ⟨_, s, ta, len, tc, R, rfl, by repeat (first | exact Agree.refl _ _ | refine Agree.upd (by rfl) ?_ | refine Agree.hav (by rfl) ?_), hm, hS, hQ, hO, hB11, hsm.more, hcn, .inl (by omega), hnm, by omega⟩
      · rintro e' w ⟨cnt2, s2, ta2, len2, tc2, R2, s8, hA, hm, hS, hQ, hO, hB11, hsm, hcn, hhi, hnm, hlen⟩
        obtain ⟨fq, hfq⟩ := hA.out
        subst hfq
        rw [upd_id s8]
        clear s8
        have hsn := hsm.1
        have hsmm := hsm.2.1
        show W _ _ _ _ _ _
        refine W.seq ?_
        refine W.seq ?_
        by_cases hk2 : (O i).k = 2
        · refine W.lastL 11 (fun w' => Below w.heap.size w w') (by kernel_rfl) (by kernel_rfl) (by kernel_rfl) (by kernel_rfl) ((Below.refl w.heap.size w).drew) ?_
          refine D.va (fun w' hw' => (x_field rfl Try.underlying37 rfl sz3 (by decide))) ?_
          refine D.va (fun w' hw' => (x_load rfl Try.underlying3 rfl ((hB11.keep hw').cellAt 0 (v := .int .i64 ((O i).k)) rfl))) ?_
          refine D.va (v := .bool true) (fun w' hw' => (x_eql rfl rfl).trans (by rw [decide_eq_true hk2])) ?_
          refine D.va (fun w' hw' => (x_mvB rfl)) ?_
          refine D.on rfl ?_
          refine D.va (fun w' hw' => (x_mvP rfl)) ?_
          refine D.on rfl ?_
          refine D.va (fun w' hw' => (x_mvP rfl)) ?_
          refine D.on rfl ?_
          refine D.va (fun w' hw' => (x_nilCheck rfl)) ?_
          refine D.on rfl ?_
          refine D.va (fun w' hw' => (x_field rfl Try.underlying54 rfl sz31 (by decide))) ?_
          refine D.on rfl ?_
          refine D.va (fun w' hw' => (x_load rfl Try.underlying31 rfl ((hQ.keep hw').cellAt 8 (v := .slice ta2 len2 tc2) rfl))) ?_
          refine D.on rfl ?_
          refine D.va (fun w' hw' => (x_loadAgg (cs := [.int .i64 ((O i).k), .int .i64 ((O i).v), .int .i64 ((O i).wh), .int .i64 ((O i).rn), .int .i64 ((O i).rg)]) rfl Try.underlying37 rfl sz37 rfl ((hB11.keep hw').aggAt rfl))) ?_
          refine D.on rfl ?_
          refine D.call (fun w' hw' => (x_call2 rfl rfl Try.func11 rfl nm11 rfl)) (fun w' hw' => (named_c ta2 len2 tc2 R2 (O i) w' (RefsAt.of_own (hO.keep hw'))).mono fun r w h => ⟨h.1, cl_step hw' h.2⟩) ?_
          refine D.nil (fun w hbw => ?_)
          have hm := hm.step hbw (Nat.le_trans hBs hm.size)
          have hS := hS.keep hbw
          have hQ := hQ.keep hbw
          have hO := hO.keep hbw
          have hB11 := hB11.keep hbw
          clear hbw
          refine L.on rfl ?_
          refine L.call (x_call3 rfl rfl rfl Try.func13 rfl nm13 rfl) (free_x Bs hp 5 most _ _ s2 w hS (Nat.le_trans hBs hm.size) (by omega) (hsm.gens (by omega))) ?_
          rintro _ w ⟨b, s3, hbv, hs3, rfl, hS2, hmo⟩
          have hm := hm.trans (hmo.wide rfl)
          have hQ := hQ.mod hmo rfl
          have hO := hO.mod hmo rfl
          have hB11 := hB11.mod hmo rfl
          clear hmo
          have hsm3 : Small s3 (2 * (i + 1)) := by rw [hs3]; exact hsm.free _ _
          have hfc := freeR_counts (s := s2) (num := (namedR R2 len2 (O i)).1) (gen := (namedR R2 len2 (O i)).2)
          rw [← hs3] at hfc
          have hS := hS2
          refine L.va (x_pickT rfl) ?_
          refine L.nil ?_
          have hfc : s3.n = s2.n ∧ (b = true → s3.m = s2.m + 1) ∧ (b = false → s3.m = s2.m) := ⟨hfc.1, fun h => hfc.2.1 (of_decide_eq_true (by rw [← hbv]; exact h)), fun h => hfc.2.2 (of_decide_eq_false (by rw [← hbv]; exact h))⟩
          show W _ _ _ _ _ _
          refine W.cond rfl (fun h107 => ?_) (fun h107 => ?_)
          · have hfc2 := hfc.2.1 h107
            have hfc1 := hfc.1
            refine W.region rfl ?_
            refine L.va (x_mvI rfl) ?_
            refine L.va (x_subI rfl rfl (by omega)) ?_
            refine L.va (x_asI rfl) ?_
            refine L.nil ?_
            show W _ _ _ _ _ _
            refine W.seq ?_
            refine W.seq ?_
            have hsn3 := hsm3.1
            have hsm3m := hsm3.2.1
            refine W.region rfl ?_
            refine L.va (x_mvI rfl) ?_
            refine L.va (x_mvI rfl) ?_
            refine L.va (x_gtr rfl rfl) ?_
            refine L.nil ?_
            show W _ _ _ _ _ _
            refine W.condP rfl (fun h112 => ?_) (fun h112 => ?_)
            · refine W.region rfl ?_
              refine L.va (x_mvI rfl) ?_
              refine L.va (x_asI rfl) ?_
              refine L.nil ?_
              show W _ _ _ _ _ _
              refine W.seq ?_
              refine W.region rfl ?_
              refine L.va (x_mvP rfl) ?_
              refine L.call (x_call1 rfl Try.func15 rfl nm15 rfl) (live_c0 Bs hp 5 most s3.n s3.nd s3.m s3.pool w hS (by omega) (by omega)) ?_
              rintro _ w ⟨rfl, hbw⟩
              have hm := hm.step hbw (Nat.le_trans hBs hm.size)
              have hQ := hQ.keep hbw
              have hO := hO.keep hbw
              have hB11 := hB11.keep hbw
              have hS := hS.keep hbw
              refine L.va (x_mvI rfl) ?_
              refine L.va (x_neq rfl rfl) ?_
              refine L.va (x_mvB rfl) ?_
              refine L.meetW 9 [118,119,120,121,122,123,124,125,126,127] 127 (.bool false) (tj := 118) (fun w' => Below w.heap.size w w') rfl (fun hb118 => ?_) (fun hb118 => ?_) (fun f w hmw => ?_)
              · exact absurd (of_decide_eq_true hb118) (by omega)
              · have hmw := Below.refl w.heap.size w
                refine L.on rfl ?_
                refine L.va (x_mvP rfl) ?_
                refine L.on rfl ?_
                refine L.call (x_call1 rfl Try.func16 rfl nm16 rfl) (made_c Bs hp 5 most s3.n s3.nd s3.m s3.pool w hS) ?_
                rintro _ w ⟨rfl, hbw⟩
                have hm := hm.step hbw (Nat.le_trans hBs hm.size)
                have hmw := cl_step hmw hbw
                have hQ := hQ.keep hbw
                have hO := hO.keep hbw
                have hB11 := hB11.keep hbw
                have hS := hS.keep hbw
                refine L.on rfl ?_
                refine L.va (x_mvP rfl) ?_
                refine L.on rfl ?_
                refine L.call (x_call1 rfl Try.func17 rfl nm17 rfl) (pooled_c Bs hp 5 most s3.n s3.nd s3.m s3.pool w hS) ?_
                rintro _ w ⟨rfl, hbw⟩
                have hm := hm.step hbw (Nat.le_trans hBs hm.size)
                have hmw := cl_step hmw hbw
                have hQ := hQ.keep hbw
                have hO := hO.keep hbw
                have hB11 := hB11.keep hbw
                have hS := hS.keep hbw
                refine L.on rfl ?_
                refine L.va (x_mvP rfl) ?_
                refine L.on rfl ?_
                refine L.call (x_call1 rfl Try.func15 rfl nm15 rfl) (live_c0 Bs hp 5 most s3.n s3.nd s3.m s3.pool w hS (by omega) (by omega)) ?_
                rintro _ w ⟨rfl, hbw⟩
                have hm := hm.step hbw (Nat.le_trans hBs hm.size)
                have hmw := cl_step hmw hbw
                have hQ := hQ.keep hbw
                have hO := hO.keep hbw
                have hB11 := hB11.keep hbw
                have hS := hS.keep hbw
                refine L.on rfl ?_
                refine L.va (x_addI rfl rfl (by omega)) ?_
                refine L.on rfl ?_
                refine L.va (x_neq rfl rfl) ?_
                refine L.va (x_pickF rfl) ?_
                refine L.nil ?_
                refine ⟨hmw, congrArg Value.bool (decide_eq_false (by omega)), ?_⟩
                exact Agree.upd rfl (Agree.upd rfl (Agree.upd rfl (Agree.upd rfl (Agree.upd rfl (Agree.upd rfl (Agree.upd rfl (Agree.upd rfl (Agree.upd rfl (Agree.upd rfl (Agree.refl _ _))))))))))
              have hm := hm.step hmw (Nat.le_trans hBs hm.size)
              have hQ := hQ.keep hmw
              have hO := hO.keep hmw
              have hB11 := hB11.keep hmw
              have hS := hS.keep hmw
              refine L.va (x_mvB rfl) ?_
              refine L.on rfl ?_
              refine L.va (x_mvP rfl) ?_
              refine L.on rfl ?_
              refine L.call (x_call1 rfl Try.func16 rfl nm16 rfl) (made_c Bs hp 5 most s3.n s3.nd s3.m s3.pool w hS) ?_
              rintro _ w ⟨rfl, hbw⟩
              have hm := hm.step hbw (Nat.le_trans hBs hm.size)
              have hQ := hQ.keep hbw
              have hO := hO.keep hbw
              have hB11 := hB11.keep hbw
              have hS := hS.keep hbw
              refine L.on rfl ?_
              refine L.va (x_mvI rfl) ?_
              refine L.on rfl ?_
              refine L.va (x_neq rfl rfl) ?_
              refine L.va (x_pickF rfl) ?_
              refine L.va (x_mvB rfl) ?_
              refine L.meetW 5 [134,135,136,137,138,139] 139 (.bool false) (tj := 134) (fun w' => Below w.heap.size w w') rfl (fun hb134 => ?_) (fun hb134 => ?_) (fun f w hmw => ?_)
              · exact absurd (of_decide_eq_true hb134) (by omega)
              · have hmw := Below.refl w.heap.size w
                refine L.on rfl ?_
                refine L.va (x_mvP rfl) ?_
                refine L.on rfl ?_
                refine L.call (x_call1 rfl Try.func16 rfl nm16 rfl) (made_c Bs hp 5 most s3.n s3.nd s3.m s3.pool w hS) ?_
                rintro _ w ⟨rfl, hbw⟩
                have hm := hm.step hbw (Nat.le_trans hBs hm.size)
                have hmw := cl_step hmw hbw
                have hQ := hQ.keep hbw
                have hO := hO.keep hbw
                have hB11 := hB11.keep hbw
                have hS := hS.keep hbw
                refine L.on rfl ?_
                refine L.va (x_mvI rfl) ?_
                refine L.on rfl ?_
                refine L.va (x_gtr rfl rfl) ?_
                refine L.va (x_pickF rfl) ?_
                refine L.nil ?_
                refine ⟨hmw, congrArg Value.bool (decide_eq_false (by omega)), ?_⟩
                exact Agree.upd rfl (Agree.upd rfl (Agree.upd rfl (Agree.upd rfl (Agree.upd rfl (Agree.upd rfl (Agree.refl _ _))))))
              have hm := hm.step hmw (Nat.le_trans hBs hm.size)
              have hQ := hQ.keep hmw
              have hO := hO.keep hmw
              have hB11 := hB11.keep hmw
              have hS := hS.keep hmw
              refine L.nil ?_
              show W _ _ _ _ _ _
              refine W.condF rfl ?_
              refine W.skip ?_
              refine B.nrm ?_
              show W _ _ _ _ _ _
              refine W.region rfl ?_
              refine L.va (x_mvI rfl) ?_
              refine L.va (x_inc rfl rfl (by omega)) ?_
              refine L.va (x_asI rfl) ?_
              refine L.nil ?_
              refine T.nrm ?_
              exact ⟨_, by omega, ⟨i + 1, _, _, s3, ta2, len2, tc2, R2, rfl, rfl, rfl, rfl, rfl, rfl, rfl, rfl, hm, hS, hQ, hO, by omega, hsm3, by omega, by omega, by omega, hlen⟩⟩
            · refine W.skip ?_
              show W _ _ _ _ _ _
              refine W.seq ?_
              refine W.region rfl ?_
              refine L.va (x_mvP rfl) ?_
              refine L.call (x_call1 rfl Try.func15 rfl nm15 rfl) (live_c0 Bs hp 5 most s3.n s3.nd s3.m s3.pool w hS (by omega) (by omega)) ?_
              rintro _ w ⟨rfl, hbw⟩
              have hm := hm.step hbw (Nat.le_trans hBs hm.size)
              have hQ := hQ.keep hbw
              have hO := hO.keep hbw
              have hB11 := hB11.keep hbw
              have hS := hS.keep hbw
              refine L.va (x_mvI rfl) ?_
              refine L.va (x_neq rfl rfl) ?_
              refine L.va (x_mvB rfl) ?_
              refine L.meetW 9 [118,119,120,121,122,123,124,125,126,127] 127 (.bool false) (tj := 118) (fun w' => Below w.heap.size w w') rfl (fun hb118 => ?_) (fun hb118 => ?_) (fun f w hmw => ?_)
              · exact absurd (of_decide_eq_true hb118) (by omega)
              · have hmw := Below.refl w.heap.size w
                refine L.on rfl ?_
                refine L.va (x_mvP rfl) ?_
                refine L.on rfl ?_
                refine L.call (x_call1 rfl Try.func16 rfl nm16 rfl) (made_c Bs hp 5 most s3.n s3.nd s3.m s3.pool w hS) ?_
                rintro _ w ⟨rfl, hbw⟩
                have hm := hm.step hbw (Nat.le_trans hBs hm.size)
                have hmw := cl_step hmw hbw
                have hQ := hQ.keep hbw
                have hO := hO.keep hbw
                have hB11 := hB11.keep hbw
                have hS := hS.keep hbw
                refine L.on rfl ?_
                refine L.va (x_mvP rfl) ?_
                refine L.on rfl ?_
                refine L.call (x_call1 rfl Try.func17 rfl nm17 rfl) (pooled_c Bs hp 5 most s3.n s3.nd s3.m s3.pool w hS) ?_
                rintro _ w ⟨rfl, hbw⟩
                have hm := hm.step hbw (Nat.le_trans hBs hm.size)
                have hmw := cl_step hmw hbw
                have hQ := hQ.keep hbw
                have hO := hO.keep hbw
                have hB11 := hB11.keep hbw
                have hS := hS.keep hbw
                refine L.on rfl ?_
                refine L.va (x_mvP rfl) ?_
                refine L.on rfl ?_
                refine L.call (x_call1 rfl Try.func15 rfl nm15 rfl) (live_c0 Bs hp 5 most s3.n s3.nd s3.m s3.pool w hS (by omega) (by omega)) ?_
                rintro _ w ⟨rfl, hbw⟩
                have hm := hm.step hbw (Nat.le_trans hBs hm.size)
                have hmw := cl_step hmw hbw
                have hQ := hQ.keep hbw
                have hO := hO.keep hbw
                have hB11 := hB11.keep hbw
                have hS := hS.keep hbw
                refine L.on rfl ?_
                refine L.va (x_addI rfl rfl (by omega)) ?_
                refine L.on rfl ?_
                refine L.va (x_neq rfl rfl) ?_
                refine L.va (x_pickF rfl) ?_
                refine L.nil ?_
                refine ⟨hmw, congrArg Value.bool (decide_eq_false (by omega)), ?_⟩
                exact Agree.upd rfl (Agree.upd rfl (Agree.upd rfl (Agree.upd rfl (Agree.upd rfl (Agree.upd rfl (Agree.upd rfl (Agree.upd rfl (Agree.upd rfl (Agree.upd rfl (Agree.refl _ _))))))))))
              have hm := hm.step hmw (Nat.le_trans hBs hm.size)
              have hQ := hQ.keep hmw
              have hO := hO.keep hmw
              have hB11 := hB11.keep hmw
              have hS := hS.keep hmw
              refine L.va (x_mvB rfl) ?_
              refine L.on rfl ?_
              refine L.va (x_mvP rfl) ?_
              refine L.on rfl ?_
              refine L.call (x_call1 rfl Try.func16 rfl nm16 rfl) (made_c Bs hp 5 most s3.n s3.nd s3.m s3.pool w hS) ?_
              rintro _ w ⟨rfl, hbw⟩
              have hm := hm.step hbw (Nat.le_trans hBs hm.size)
              have hQ := hQ.keep hbw
              have hO := hO.keep hbw
              have hB11 := hB11.keep hbw
              have hS := hS.keep hbw
              refine L.on rfl ?_
              refine L.va (x_mvI rfl) ?_
              refine L.on rfl ?_
              refine L.va (x_neq rfl rfl) ?_
              refine L.va (x_pickF rfl) ?_
              refine L.va (x_mvB rfl) ?_
              refine L.meetW 5 [134,135,136,137,138,139] 139 (.bool false) (tj := 134) (fun w' => Below w.heap.size w w') rfl (fun hb134 => ?_) (fun hb134 => ?_) (fun f w hmw => ?_)
              · exact absurd (of_decide_eq_true hb134) (by omega)
              · have hmw := Below.refl w.heap.size w
                refine L.on rfl ?_
                refine L.va (x_mvP rfl) ?_
                refine L.on rfl ?_
                refine L.call (x_call1 rfl Try.func16 rfl nm16 rfl) (made_c Bs hp 5 most s3.n s3.nd s3.m s3.pool w hS) ?_
                rintro _ w ⟨rfl, hbw⟩
                have hm := hm.step hbw (Nat.le_trans hBs hm.size)
                have hmw := cl_step hmw hbw
                have hQ := hQ.keep hbw
                have hO := hO.keep hbw
                have hB11 := hB11.keep hbw
                have hS := hS.keep hbw
                refine L.on rfl ?_
                refine L.va (x_mvI rfl) ?_
                refine L.on rfl ?_
                refine L.va (x_gtr rfl rfl) ?_
                refine L.va (x_pickF rfl) ?_
                refine L.nil ?_
                refine ⟨hmw, congrArg Value.bool (decide_eq_false (by omega)), ?_⟩
                exact Agree.upd rfl (Agree.upd rfl (Agree.upd rfl (Agree.upd rfl (Agree.upd rfl (Agree.upd rfl (Agree.refl _ _))))))
              have hm := hm.step hmw (Nat.le_trans hBs hm.size)
              have hQ := hQ.keep hmw
              have hO := hO.keep hmw
              have hB11 := hB11.keep hmw
              have hS := hS.keep hmw
              refine L.nil ?_
              show W _ _ _ _ _ _
              refine W.condF rfl ?_
              refine W.skip ?_
              refine B.nrm ?_
              show W _ _ _ _ _ _
              refine W.region rfl ?_
              refine L.va (x_mvI rfl) ?_
              refine L.va (x_inc rfl rfl (by omega)) ?_
              refine L.va (x_asI rfl) ?_
              refine L.nil ?_
              refine T.nrm ?_
              exact ⟨_, by omega, ⟨i + 1, _, _, s3, ta2, len2, tc2, R2, rfl, rfl, rfl, rfl, rfl, rfl, rfl, rfl, hm, hS, hQ, hO, by omega, hsm3, by omega, by omega, by omega, hlen⟩⟩
          · have hfc2 := hfc.2.2 h107
            have hfc1 := hfc.1
            refine W.skip ?_
            show W _ _ _ _ _ _
            refine W.seq ?_
            refine W.seq ?_
            have hsn3 := hsm3.1
            have hsm3m := hsm3.2.1
            refine W.region rfl ?_
            refine L.va (x_mvI rfl) ?_
            refine L.va (x_mvI rfl) ?_
            refine L.va (x_gtr rfl rfl) ?_
            refine L.nil ?_
            show W _ _ _ _ _ _
            refine W.condP rfl (fun h112 => ?_) (fun h112 => ?_)
            · refine W.region rfl ?_
              refine L.va (x_mvI rfl) ?_
              refine L.va (x_asI rfl) ?_
              refine L.nil ?_
              show W _ _ _ _ _ _
              refine W.seq ?_
              refine W.region rfl ?_
              refine L.va (x_mvP rfl) ?_
              refine L.call (x_call1 rfl Try.func15 rfl nm15 rfl) (live_c0 Bs hp 5 most s3.n s3.nd s3.m s3.pool w hS (by omega) (by omega)) ?_
              rintro _ w ⟨rfl, hbw⟩
              have hm := hm.step hbw (Nat.le_trans hBs hm.size)
              have hQ := hQ.keep hbw
              have hO := hO.keep hbw
              have hB11 := hB11.keep hbw
              have hS := hS.keep hbw
              refine L.va (x_mvI rfl) ?_
              refine L.va (x_neq rfl rfl) ?_
              refine L.va (x_mvB rfl) ?_
              refine L.meetW 9 [118,119,120,121,122,123,124,125,126,127] 127 (.bool false) (tj := 118) (fun w' => Below w.heap.size w w') rfl (fun hb118 => ?_) (fun hb118 => ?_) (fun f w hmw => ?_)
              · exact absurd (of_decide_eq_true hb118) (by omega)
              · have hmw := Below.refl w.heap.size w
                refine L.on rfl ?_
                refine L.va (x_mvP rfl) ?_
                refine L.on rfl ?_
                refine L.call (x_call1 rfl Try.func16 rfl nm16 rfl) (made_c Bs hp 5 most s3.n s3.nd s3.m s3.pool w hS) ?_
                rintro _ w ⟨rfl, hbw⟩
                have hm := hm.step hbw (Nat.le_trans hBs hm.size)
                have hmw := cl_step hmw hbw
                have hQ := hQ.keep hbw
                have hO := hO.keep hbw
                have hB11 := hB11.keep hbw
                have hS := hS.keep hbw
                refine L.on rfl ?_
                refine L.va (x_mvP rfl) ?_
                refine L.on rfl ?_
                refine L.call (x_call1 rfl Try.func17 rfl nm17 rfl) (pooled_c Bs hp 5 most s3.n s3.nd s3.m s3.pool w hS) ?_
                rintro _ w ⟨rfl, hbw⟩
                have hm := hm.step hbw (Nat.le_trans hBs hm.size)
                have hmw := cl_step hmw hbw
                have hQ := hQ.keep hbw
                have hO := hO.keep hbw
                have hB11 := hB11.keep hbw
                have hS := hS.keep hbw
                refine L.on rfl ?_
                refine L.va (x_mvP rfl) ?_
                refine L.on rfl ?_
                refine L.call (x_call1 rfl Try.func15 rfl nm15 rfl) (live_c0 Bs hp 5 most s3.n s3.nd s3.m s3.pool w hS (by omega) (by omega)) ?_
                rintro _ w ⟨rfl, hbw⟩
                have hm := hm.step hbw (Nat.le_trans hBs hm.size)
                have hmw := cl_step hmw hbw
                have hQ := hQ.keep hbw
                have hO := hO.keep hbw
                have hB11 := hB11.keep hbw
                have hS := hS.keep hbw
                refine L.on rfl ?_
                refine L.va (x_addI rfl rfl (by omega)) ?_
                refine L.on rfl ?_
                refine L.va (x_neq rfl rfl) ?_
                refine L.va (x_pickF rfl) ?_
                refine L.nil ?_
                refine ⟨hmw, congrArg Value.bool (decide_eq_false (by omega)), ?_⟩
                exact Agree.upd rfl (Agree.upd rfl (Agree.upd rfl (Agree.upd rfl (Agree.upd rfl (Agree.upd rfl (Agree.upd rfl (Agree.upd rfl (Agree.upd rfl (Agree.upd rfl (Agree.refl _ _))))))))))
              have hm := hm.step hmw (Nat.le_trans hBs hm.size)
              have hQ := hQ.keep hmw
              have hO := hO.keep hmw
              have hB11 := hB11.keep hmw
              have hS := hS.keep hmw
              refine L.va (x_mvB rfl) ?_
              refine L.on rfl ?_
              refine L.va (x_mvP rfl) ?_
              refine L.on rfl ?_
              refine L.call (x_call1 rfl Try.func16 rfl nm16 rfl) (made_c Bs hp 5 most s3.n s3.nd s3.m s3.pool w hS) ?_
              rintro _ w ⟨rfl, hbw⟩
              have hm := hm.step hbw (Nat.le_trans hBs hm.size)
              have hQ := hQ.keep hbw
              have hO := hO.keep hbw
              have hB11 := hB11.keep hbw
              have hS := hS.keep hbw
              refine L.on rfl ?_
              refine L.va (x_mvI rfl) ?_
              refine L.on rfl ?_
              refine L.va (x_neq rfl rfl) ?_
              refine L.va (x_pickF rfl) ?_
              refine L.va (x_mvB rfl) ?_
              refine L.meetW 5 [134,135,136,137,138,139] 139 (.bool false) (tj := 134) (fun w' => Below w.heap.size w w') rfl (fun hb134 => ?_) (fun hb134 => ?_) (fun f w hmw => ?_)
              · exact absurd (of_decide_eq_true hb134) (by omega)
              · have hmw := Below.refl w.heap.size w
                refine L.on rfl ?_
                refine L.va (x_mvP rfl) ?_
                refine L.on rfl ?_
                refine L.call (x_call1 rfl Try.func16 rfl nm16 rfl) (made_c Bs hp 5 most s3.n s3.nd s3.m s3.pool w hS) ?_
                rintro _ w ⟨rfl, hbw⟩
                have hm := hm.step hbw (Nat.le_trans hBs hm.size)
                have hmw := cl_step hmw hbw
                have hQ := hQ.keep hbw
                have hO := hO.keep hbw
                have hB11 := hB11.keep hbw
                have hS := hS.keep hbw
                refine L.on rfl ?_
                refine L.va (x_mvI rfl) ?_
                refine L.on rfl ?_
                refine L.va (x_gtr rfl rfl) ?_
                refine L.va (x_pickF rfl) ?_
                refine L.nil ?_
                refine ⟨hmw, congrArg Value.bool (decide_eq_false (by omega)), ?_⟩
                exact Agree.upd rfl (Agree.upd rfl (Agree.upd rfl (Agree.upd rfl (Agree.upd rfl (Agree.upd rfl (Agree.refl _ _))))))
              have hm := hm.step hmw (Nat.le_trans hBs hm.size)
              have hQ := hQ.keep hmw
              have hO := hO.keep hmw
              have hB11 := hB11.keep hmw
              have hS := hS.keep hmw
              refine L.nil ?_
              show W _ _ _ _ _ _
              refine W.condF rfl ?_
              refine W.skip ?_
              refine B.nrm ?_
              show W _ _ _ _ _ _
              refine W.region rfl ?_
              refine L.va (x_mvI rfl) ?_
              refine L.va (x_inc rfl rfl (by omega)) ?_
              refine L.va (x_asI rfl) ?_
              refine L.nil ?_
              refine T.nrm ?_
              exact ⟨_, by omega, ⟨i + 1, _, _, s3, ta2, len2, tc2, R2, rfl, rfl, rfl, rfl, rfl, rfl, rfl, rfl, hm, hS, hQ, hO, by omega, hsm3, by omega, by omega, by omega, hlen⟩⟩
            · refine W.skip ?_
              show W _ _ _ _ _ _
              refine W.seq ?_
              refine W.region rfl ?_
              refine L.va (x_mvP rfl) ?_
              refine L.call (x_call1 rfl Try.func15 rfl nm15 rfl) (live_c0 Bs hp 5 most s3.n s3.nd s3.m s3.pool w hS (by omega) (by omega)) ?_
              rintro _ w ⟨rfl, hbw⟩
              have hm := hm.step hbw (Nat.le_trans hBs hm.size)
              have hQ := hQ.keep hbw
              have hO := hO.keep hbw
              have hB11 := hB11.keep hbw
              have hS := hS.keep hbw
              refine L.va (x_mvI rfl) ?_
              refine L.va (x_neq rfl rfl) ?_
              refine L.va (x_mvB rfl) ?_
              refine L.meetW 9 [118,119,120,121,122,123,124,125,126,127] 127 (.bool false) (tj := 118) (fun w' => Below w.heap.size w w') rfl (fun hb118 => ?_) (fun hb118 => ?_) (fun f w hmw => ?_)
              · exact absurd (of_decide_eq_true hb118) (by omega)
              · have hmw := Below.refl w.heap.size w
                refine L.on rfl ?_
                refine L.va (x_mvP rfl) ?_
                refine L.on rfl ?_
                refine L.call (x_call1 rfl Try.func16 rfl nm16 rfl) (made_c Bs hp 5 most s3.n s3.nd s3.m s3.pool w hS) ?_
                rintro _ w ⟨rfl, hbw⟩
                have hm := hm.step hbw (Nat.le_trans hBs hm.size)
                have hmw := cl_step hmw hbw
                have hQ := hQ.keep hbw
                have hO := hO.keep hbw
                have hB11 := hB11.keep hbw
                have hS := hS.keep hbw
                refine L.on rfl ?_
                refine L.va (x_mvP rfl) ?_
                refine L.on rfl ?_
                refine L.call (x_call1 rfl Try.func17 rfl nm17 rfl) (pooled_c Bs hp 5 most s3.n s3.nd s3.m s3.pool w hS) ?_
                rintro _ w ⟨rfl, hbw⟩
                have hm := hm.step hbw (Nat.le_trans hBs hm.size)
                have hmw := cl_step hmw hbw
                have hQ := hQ.keep hbw
                have hO := hO.keep hbw
                have hB11 := hB11.keep hbw
                have hS := hS.keep hbw
                refine L.on rfl ?_
                refine L.va (x_mvP rfl) ?_
                refine L.on rfl ?_
                refine L.call (x_call1 rfl Try.func15 rfl nm15 rfl) (live_c0 Bs hp 5 most s3.n s3.nd s3.m s3.pool w hS (by omega) (by omega)) ?_
                rintro _ w ⟨rfl, hbw⟩
                have hm := hm.step hbw (Nat.le_trans hBs hm.size)
                have hmw := cl_step hmw hbw
                have hQ := hQ.keep hbw
                have hO := hO.keep hbw
                have hB11 := hB11.keep hbw
                have hS := hS.keep hbw
                refine L.on rfl ?_
                refine L.va (x_addI rfl rfl (by omega)) ?_
                refine L.on rfl ?_
                refine L.va (x_neq rfl rfl) ?_
                refine L.va (x_pickF rfl) ?_
                refine L.nil ?_
                refine ⟨hmw, congrArg Value.bool (decide_eq_false (by omega)), ?_⟩
                exact Agree.upd rfl (Agree.upd rfl (Agree.upd rfl (Agree.upd rfl (Agree.upd rfl (Agree.upd rfl (Agree.upd rfl (Agree.upd rfl (Agree.upd rfl (Agree.upd rfl (Agree.refl _ _))))))))))
              have hm := hm.step hmw (Nat.le_trans hBs hm.size)
              have hQ := hQ.keep hmw
              have hO := hO.keep hmw
              have hB11 := hB11.keep hmw
              have hS := hS.keep hmw
              refine L.va (x_mvB rfl) ?_
              refine L.on rfl ?_
              refine L.va (x_mvP rfl) ?_
              refine L.on rfl ?_
              refine L.call (x_call1 rfl Try.func16 rfl nm16 rfl) (made_c Bs hp 5 most s3.n s3.nd s3.m s3.pool w hS) ?_
              rintro _ w ⟨rfl, hbw⟩
              have hm := hm.step hbw (Nat.le_trans hBs hm.size)
              have hQ := hQ.keep hbw
              have hO := hO.keep hbw
              have hB11 := hB11.keep hbw
              have hS := hS.keep hbw
              refine L.on rfl ?_
              refine L.va (x_mvI rfl) ?_
              refine L.on rfl ?_
              refine L.va (x_neq rfl rfl) ?_
              refine L.va (x_pickF rfl) ?_
              refine L.va (x_mvB rfl) ?_
              refine L.meetW 5 [134,135,136,137,138,139] 139 (.bool false) (tj := 134) (fun w' => Below w.heap.size w w') rfl (fun hb134 => ?_) (fun hb134 => ?_) (fun f w hmw => ?_)
              · exact absurd (of_decide_eq_true hb134) (by omega)
              · have hmw := Below.refl w.heap.size w
                refine L.on rfl ?_
                refine L.va (x_mvP rfl) ?_
                refine L.on rfl ?_
                refine L.call (x_call1 rfl Try.func16 rfl nm16 rfl) (made_c Bs hp 5 most s3.n s3.nd s3.m s3.pool w hS) ?_
                rintro _ w ⟨rfl, hbw⟩
                have hm := hm.step hbw (Nat.le_trans hBs hm.size)
                have hmw := cl_step hmw hbw
                have hQ := hQ.keep hbw
                have hO := hO.keep hbw
                have hB11 := hB11.keep hbw
                have hS := hS.keep hbw
                refine L.on rfl ?_
                refine L.va (x_mvI rfl) ?_
                refine L.on rfl ?_
                refine L.va (x_gtr rfl rfl) ?_
                refine L.va (x_pickF rfl) ?_
                refine L.nil ?_
                refine ⟨hmw, congrArg Value.bool (decide_eq_false (by omega)), ?_⟩
                exact Agree.upd rfl (Agree.upd rfl (Agree.upd rfl (Agree.upd rfl (Agree.upd rfl (Agree.upd rfl (Agree.refl _ _))))))
              have hm := hm.step hmw (Nat.le_trans hBs hm.size)
              have hQ := hQ.keep hmw
              have hO := hO.keep hmw
              have hB11 := hB11.keep hmw
              have hS := hS.keep hmw
              refine L.nil ?_
              show W _ _ _ _ _ _
              refine W.condF rfl ?_
              refine W.skip ?_
              refine B.nrm ?_
              show W _ _ _ _ _ _
              refine W.region rfl ?_
              refine L.va (x_mvI rfl) ?_
              refine L.va (x_inc rfl rfl (by omega)) ?_
              refine L.va (x_asI rfl) ?_
              refine L.nil ?_
              refine T.nrm ?_
              exact ⟨_, by omega, ⟨i + 1, _, _, s3, ta2, len2, tc2, R2, rfl, rfl, rfl, rfl, rfl, rfl, rfl, rfl, hm, hS, hQ, hO, by omega, hsm3, by omega, by omega, by omega, hlen⟩⟩
        · refine W.lastL 11 (fun w' => Below w.heap.size w w') (by kernel_rfl) (by kernel_rfl) (by kernel_rfl) (by kernel_rfl) ((Below.refl w.heap.size w).drew) ?_
          refine D.va (fun w' hw' => (x_field rfl Try.underlying37 rfl sz3 (by decide))) ?_
          refine D.va (fun w' hw' => (x_load rfl Try.underlying3 rfl ((hB11.keep hw').cellAt 0 (v := .int .i64 ((O i).k)) rfl))) ?_
          refine D.va (v := .bool false) (fun w' hw' => (x_eql rfl rfl).trans (by rw [decide_eq_false hk2])) ?_
          refine D.va (fun w' hw' => (x_mvB rfl)) ?_
          refine D.off rfl ?_
          refine D.off rfl ?_
          refine D.off rfl ?_
          refine D.off rfl ?_
          refine D.off rfl ?_
          refine D.off rfl ?_
          refine D.off rfl ?_
          refine D.nil (fun w hbw => ?_)
          have hm := hm.step hbw (Nat.le_trans hBs hm.size)
          have hS := hS.keep hbw
          have hQ := hQ.keep hbw
          have hO := hO.keep hbw
          have hB11 := hB11.keep hbw
          clear hbw
          refine L.off rfl ?_
          refine L.va (x_pickF rfl) ?_
          refine L.nil ?_
          obtain ⟨s3, hs3⟩ : ∃ x, x = s2 := ⟨_, rfl⟩
          have hfc : s3.n = s2.n ∧ s3.m = s2.m := by rw [hs3]; exact ⟨rfl, rfl⟩
          have hsm3 : Small s3 (2 * (i + 1)) := by rw [hs3]; exact hsm.more
          rw [← hs3] at hS
          show W _ _ _ _ _ _
          refine W.condF rfl ?_
          refine W.skip ?_
          show W _ _ _ _ _ _
          refine W.seq ?_
          refine W.seq ?_
          have hsn3 := hsm3.1
          have hsm3m := hsm3.2.1
          refine W.region rfl ?_
          refine L.va (x_mvI rfl) ?_
          refine L.va (x_mvI rfl) ?_
          refine L.va (x_gtr rfl rfl) ?_
          refine L.nil ?_
          show W _ _ _ _ _ _
          refine W.condP rfl (fun h112 => ?_) (fun h112 => ?_)
          · refine W.region rfl ?_
            refine L.va (x_mvI rfl) ?_
            refine L.va (x_asI rfl) ?_
            refine L.nil ?_
            show W _ _ _ _ _ _
            refine W.seq ?_
            refine W.region rfl ?_
            refine L.va (x_mvP rfl) ?_
            refine L.call (x_call1 rfl Try.func15 rfl nm15 rfl) (live_c0 Bs hp 5 most s3.n s3.nd s3.m s3.pool w hS (by omega) (by omega)) ?_
            rintro _ w ⟨rfl, hbw⟩
            have hm := hm.step hbw (Nat.le_trans hBs hm.size)
            have hS := hS.keep hbw
            have hQ := hQ.keep hbw
            have hO := hO.keep hbw
            have hB11 := hB11.keep hbw
            refine L.va (x_mvI rfl) ?_
            refine L.va (x_neq rfl rfl) ?_
            refine L.va (x_mvB rfl) ?_
            refine L.meetW 9 [118,119,120,121,122,123,124,125,126,127] 127 (.bool false) (tj := 118) (fun w' => Below w.heap.size w w') rfl (fun hb118 => ?_) (fun hb118 => ?_) (fun f w hmw => ?_)
            · exact absurd (of_decide_eq_true hb118) (by omega)
            · have hmw := Below.refl w.heap.size w
              refine L.on rfl ?_
              refine L.va (x_mvP rfl) ?_
              refine L.on rfl ?_
              refine L.call (x_call1 rfl Try.func16 rfl nm16 rfl) (made_c Bs hp 5 most s3.n s3.nd s3.m s3.pool w hS) ?_
              rintro _ w ⟨rfl, hbw⟩
              have hm := hm.step hbw (Nat.le_trans hBs hm.size)
              have hmw := cl_step hmw hbw
              have hS := hS.keep hbw
              have hQ := hQ.keep hbw
              have hO := hO.keep hbw
              have hB11 := hB11.keep hbw
              refine L.on rfl ?_
              refine L.va (x_mvP rfl) ?_
              refine L.on rfl ?_
              refine L.call (x_call1 rfl Try.func17 rfl nm17 rfl) (pooled_c Bs hp 5 most s3.n s3.nd s3.m s3.pool w hS) ?_
              rintro _ w ⟨rfl, hbw⟩
              have hm := hm.step hbw (Nat.le_trans hBs hm.size)
              have hmw := cl_step hmw hbw
              have hS := hS.keep hbw
              have hQ := hQ.keep hbw
              have hO := hO.keep hbw
              have hB11 := hB11.keep hbw
              refine L.on rfl ?_
              refine L.va (x_mvP rfl) ?_
              refine L.on rfl ?_
              refine L.call (x_call1 rfl Try.func15 rfl nm15 rfl) (live_c0 Bs hp 5 most s3.n s3.nd s3.m s3.pool w hS (by omega) (by omega)) ?_
              rintro _ w ⟨rfl, hbw⟩
              have hm := hm.step hbw (Nat.le_trans hBs hm.size)
              have hmw := cl_step hmw hbw
              have hS := hS.keep hbw
              have hQ := hQ.keep hbw
              have hO := hO.keep hbw
              have hB11 := hB11.keep hbw
              refine L.on rfl ?_
              refine L.va (x_addI rfl rfl (by omega)) ?_
              refine L.on rfl ?_
              refine L.va (x_neq rfl rfl) ?_
              refine L.va (x_pickF rfl) ?_
              refine L.nil ?_
              refine ⟨hmw, congrArg Value.bool (decide_eq_false (by omega)), ?_⟩
              exact Agree.upd rfl (Agree.upd rfl (Agree.upd rfl (Agree.upd rfl (Agree.upd rfl (Agree.upd rfl (Agree.upd rfl (Agree.upd rfl (Agree.upd rfl (Agree.upd rfl (Agree.refl _ _))))))))))
            have hm := hm.step hmw (Nat.le_trans hBs hm.size)
            have hS := hS.keep hmw
            have hQ := hQ.keep hmw
            have hO := hO.keep hmw
            have hB11 := hB11.keep hmw
            refine L.va (x_mvB rfl) ?_
            refine L.on rfl ?_
            refine L.va (x_mvP rfl) ?_
            refine L.on rfl ?_
            refine L.call (x_call1 rfl Try.func16 rfl nm16 rfl) (made_c Bs hp 5 most s3.n s3.nd s3.m s3.pool w hS) ?_
            rintro _ w ⟨rfl, hbw⟩
            have hm := hm.step hbw (Nat.le_trans hBs hm.size)
            have hS := hS.keep hbw
            have hQ := hQ.keep hbw
            have hO := hO.keep hbw
            have hB11 := hB11.keep hbw
            refine L.on rfl ?_
            refine L.va (x_mvI rfl) ?_
            refine L.on rfl ?_
            refine L.va (x_neq rfl rfl) ?_
            refine L.va (x_pickF rfl) ?_
            refine L.va (x_mvB rfl) ?_
            refine L.meetW 5 [134,135,136,137,138,139] 139 (.bool false) (tj := 134) (fun w' => Below w.heap.size w w') rfl (fun hb134 => ?_) (fun hb134 => ?_) (fun f w hmw => ?_)
            · exact absurd (of_decide_eq_true hb134) (by omega)
            · have hmw := Below.refl w.heap.size w
              refine L.on rfl ?_
              refine L.va (x_mvP rfl) ?_
              refine L.on rfl ?_
              refine L.call (x_call1 rfl Try.func16 rfl nm16 rfl) (made_c Bs hp 5 most s3.n s3.nd s3.m s3.pool w hS) ?_
              rintro _ w ⟨rfl, hbw⟩
              have hm := hm.step hbw (Nat.le_trans hBs hm.size)
              have hmw := cl_step hmw hbw
              have hS := hS.keep hbw
              have hQ := hQ.keep hbw
              have hO := hO.keep hbw
              have hB11 := hB11.keep hbw
              refine L.on rfl ?_
              refine L.va (x_mvI rfl) ?_
              refine L.on rfl ?_
              refine L.va (x_gtr rfl rfl) ?_
              refine L.va (x_pickF rfl) ?_
              refine L.nil ?_
              refine ⟨hmw, congrArg Value.bool (decide_eq_false (by omega)), ?_⟩
              exact Agree.upd rfl (Agree.upd rfl (Agree.upd rfl (Agree.upd rfl (Agree.upd rfl (Agree.upd rfl (Agree.refl _ _))))))
            have hm := hm.step hmw (Nat.le_trans hBs hm.size)
            have hS := hS.keep hmw
            have hQ := hQ.keep hmw
            have hO := hO.keep hmw
            have hB11 := hB11.keep hmw
            refine L.nil ?_
            show W _ _ _ _ _ _
            refine W.condF rfl ?_
            refine W.skip ?_
            refine B.nrm ?_
            show W _ _ _ _ _ _
            refine W.region rfl ?_
            refine L.va (x_mvI rfl) ?_
            refine L.va (x_inc rfl rfl (by omega)) ?_
            refine L.va (x_asI rfl) ?_
            refine L.nil ?_
            refine T.nrm ?_
            exact ⟨_, by omega, ⟨i + 1, _, _, s3, ta2, len2, tc2, R2, rfl, rfl, rfl, rfl, rfl, rfl, rfl, rfl, hm, hS, hQ, hO, by omega, hsm3, by omega, by omega, by omega, hlen⟩⟩
          · refine W.skip ?_
            show W _ _ _ _ _ _
            refine W.seq ?_
            refine W.region rfl ?_
            refine L.va (x_mvP rfl) ?_
            refine L.call (x_call1 rfl Try.func15 rfl nm15 rfl) (live_c0 Bs hp 5 most s3.n s3.nd s3.m s3.pool w hS (by omega) (by omega)) ?_
            rintro _ w ⟨rfl, hbw⟩
            have hm := hm.step hbw (Nat.le_trans hBs hm.size)
            have hS := hS.keep hbw
            have hQ := hQ.keep hbw
            have hO := hO.keep hbw
            have hB11 := hB11.keep hbw
            refine L.va (x_mvI rfl) ?_
            refine L.va (x_neq rfl rfl) ?_
            refine L.va (x_mvB rfl) ?_
            refine L.meetW 9 [118,119,120,121,122,123,124,125,126,127] 127 (.bool false) (tj := 118) (fun w' => Below w.heap.size w w') rfl (fun hb118 => ?_) (fun hb118 => ?_) (fun f w hmw => ?_)
            · exact absurd (of_decide_eq_true hb118) (by omega)
            · have hmw := Below.refl w.heap.size w
              refine L.on rfl ?_
              refine L.va (x_mvP rfl) ?_
              refine L.on rfl ?_
              refine L.call (x_call1 rfl Try.func16 rfl nm16 rfl) (made_c Bs hp 5 most s3.n s3.nd s3.m s3.pool w hS) ?_
              rintro _ w ⟨rfl, hbw⟩
              have hm := hm.step hbw (Nat.le_trans hBs hm.size)
              have hmw := cl_step hmw hbw
              have hS := hS.keep hbw
              have hQ := hQ.keep hbw
              have hO := hO.keep hbw
              have hB11 := hB11.keep hbw
              refine L.on rfl ?_
              refine L.va (x_mvP rfl) ?_
              refine L.on rfl ?_
              refine L.call (x_call1 rfl Try.func17 rfl nm17 rfl) (pooled_c Bs hp 5 most s3.n s3.nd s3.m s3.pool w hS) ?_
              rintro _ w ⟨rfl, hbw⟩
              have hm := hm.step hbw (Nat.le_trans hBs hm.size)
              have hmw := cl_step hmw hbw
              have hS := hS.keep hbw
              have hQ := hQ.keep hbw
              have hO := hO.keep hbw
              have hB11 := hB11.keep hbw
              refine L.on rfl ?_
              refine L.va (x_mvP rfl) ?_
              refine L.on rfl ?_
              refine L.call (x_call1 rfl Try.func15 rfl nm15 rfl) (live_c0 Bs hp 5 most s3.n s3.nd s3.m s3.pool w hS (by omega) (by omega)) ?_
              rintro _ w ⟨rfl, hbw⟩
              have hm := hm.step hbw (Nat.le_trans hBs hm.size)
              have hmw := cl_step hmw hbw
              have hS := hS.keep hbw
              have hQ := hQ.keep hbw
              have hO := hO.keep hbw
              have hB11 := hB11.keep hbw
              refine L.on rfl ?_
              refine L.va (x_addI rfl rfl (by omega)) ?_
              refine L.on rfl ?_
              refine L.va (x_neq rfl rfl) ?_
              refine L.va (x_pickF rfl) ?_
              refine L.nil ?_
              refine ⟨hmw, congrArg Value.bool (decide_eq_false (by omega)), ?_⟩
              exact Agree.upd rfl (Agree.upd rfl (Agree.upd rfl (Agree.upd rfl (Agree.upd rfl (Agree.upd rfl (Agree.upd rfl (Agree.upd rfl (Agree.upd rfl (Agree.upd rfl (Agree.refl _ _))))))))))
            have hm := hm.step hmw (Nat.le_trans hBs hm.size)
            have hS := hS.keep hmw
            have hQ := hQ.keep hmw
            have hO := hO.keep hmw
            have hB11 := hB11.keep hmw
            refine L.va (x_mvB rfl) ?_
            refine L.on rfl ?_
            refine L.va (x_mvP rfl) ?_
            refine L.on rfl ?_
            refine L.call (x_call1 rfl Try.func16 rfl nm16 rfl) (made_c Bs hp 5 most s3.n s3.nd s3.m s3.pool w hS) ?_
            rintro _ w ⟨rfl, hbw⟩
            have hm := hm.step hbw (Nat.le_trans hBs hm.size)
            have hS := hS.keep hbw
            have hQ := hQ.keep hbw
            have hO := hO.keep hbw
            have hB11 := hB11.keep hbw
            refine L.on rfl ?_
            refine L.va (x_mvI rfl) ?_
            refine L.on rfl ?_
            refine L.va (x_neq rfl rfl) ?_
            refine L.va (x_pickF rfl) ?_
            refine L.va (x_mvB rfl) ?_
            refine L.meetW 5 [134,135,136,137,138,139] 139 (.bool false) (tj := 134) (fun w' => Below w.heap.size w w') rfl (fun hb134 => ?_) (fun hb134 => ?_) (fun f w hmw => ?_)
            · exact absurd (of_decide_eq_true hb134) (by omega)
            · have hmw := Below.refl w.heap.size w
              refine L.on rfl ?_
              refine L.va (x_mvP rfl) ?_
              refine L.on rfl ?_
              refine L.call (x_call1 rfl Try.func16 rfl nm16 rfl) (made_c Bs hp 5 most s3.n s3.nd s3.m s3.pool w hS) ?_
              rintro _ w ⟨rfl, hbw⟩
              have hm := hm.step hbw (Nat.le_trans hBs hm.size)
              have hmw := cl_step hmw hbw
              have hS := hS.keep hbw
              have hQ := hQ.keep hbw
              have hO := hO.keep hbw
              have hB11 := hB11.keep hbw
              refine L.on rfl ?_
              refine L.va (x_mvI rfl) ?_
              refine L.on rfl ?_
              refine L.va (x_gtr rfl rfl) ?_
              refine L.va (x_pickF rfl) ?_
              refine L.nil ?_
              refine ⟨hmw, congrArg Value.bool (decide_eq_false (by omega)), ?_⟩
              exact Agree.upd rfl (Agree.upd rfl (Agree.upd rfl (Agree.upd rfl (Agree.upd rfl (Agree.upd rfl (Agree.refl _ _))))))
            have hm := hm.step hmw (Nat.le_trans hBs hm.size)
            have hS := hS.keep hmw
            have hQ := hQ.keep hmw
            have hO := hO.keep hmw
            have hB11 := hB11.keep hmw
            refine L.nil ?_
            show W _ _ _ _ _ _
            refine W.condF rfl ?_
            refine W.skip ?_
            refine B.nrm ?_
            show W _ _ _ _ _ _
            refine W.region rfl ?_
            refine L.va (x_mvI rfl) ?_
            refine L.va (x_inc rfl rfl (by omega)) ?_
            refine L.va (x_asI rfl) ?_
            refine L.nil ?_
            refine T.nrm ?_
            exact ⟨_, by omega, ⟨i + 1, _, _, s3, ta2, len2, tc2, R2, rfl, rfl, rfl, rfl, rfl, rfl, rfl, rfl, hm, hS, hQ, hO, by omega, hsm3, by omega, by omega, by omega, hlen⟩⟩
    · refine W.exit ?_
      repeat (first | refine T.exit ?_ | refine B.exitNe (by decide) ?_)
      refine B.exitEq ?_
      show W _ _ _ _ _ _
      refine W.seq ?_
      refine W.region rfl ?_
      refine L.call (x_call0  Try.func7 rfl nm7 rfl) (live_c w) ?_
      rintro _ w ⟨rfl, hbw⟩
      have hm := hm.step hbw (Nat.le_trans hBs hm.size)
      have hS := hS.keep hbw
      have hQ := hQ.keep hbw
      have hO := hO.keep hbw
      refine L.va (x_asB rfl) ?_
      refine L.nil ?_
      show W _ _ _ _ _ _
      refine W.ret ?_
      repeat (first | refine T.ret ?_ | refine B.ret ?_)
      refine ends.one (.inr rfl) rfl ?_
      exact ⟨rfl, hm.toBelow hBe⟩

end Go.Proofs.Ytahcjihhkmolpaa
