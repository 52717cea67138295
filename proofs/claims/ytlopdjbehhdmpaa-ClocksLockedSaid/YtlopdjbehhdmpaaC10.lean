/- Contracts: what the program's reads see. -/
import Derived.Test.YtlopdjbehhdmpaaC9
namespace Go.Proofs.Ytlopdjbehhdmpaa
open Go.Vc Go.RowKit

theorem sees_no (a : Option Addr) (n c : Nat) (E : Nat → Ev) (cl j : Int) (w0 : World) (hE : EvAt w0 a n E) (hn : n ≤ 9223372036854775807) (hc : check E n cl ≠ 0) :
    C Try.prog 25 #[.slice a n c, .int .i64 cl, .int .i64 j] w0 fun v w' => v = .tuple #[.int .i64 0, .bool false] ∧ Below w0.heap.size w0 w' := by
  refine C.enter (n := 74) Try.func25 rfl rfl ?_
  refine W.seq ?_
  refine W.region rfl ?_
  refine L.va (x_asI rfl) ?_
  refine L.va (x_asB rfl) ?_
  refine L.nil ?_
  show W _ _ _ _ _ _
  refine W.seq ?_
  refine W.region rfl ?_
  refine L.va (x_mvS rfl) ?_
  refine L.va (x_mvI rfl) ?_
  refine L.call (x_call2 rfl rfl Try.func27 rfl nm27 rfl) (clocked_no a n c E cl w0 hE hn hc) ?_
  rintro _ w ⟨rfl, hb⟩
  refine L.va (x_mvT rfl) ?_
  refine L.va (x_extract rfl rfl) ?_
  refine L.va (x_extract rfl rfl) ?_
  refine L.va (x_asS rfl) ?_
  refine L.va (x_asI rfl) ?_
  refine L.nil ?_
  show W _ _ _ _ _ _
  refine W.seq ?_
  refine W.seq ?_
  refine W.region rfl ?_
  refine L.va (x_mvI rfl) ?_
  refine L.va (x_neq rfl rfl) ?_
  refine L.va (x_mvB rfl) ?_
  refine L.meetB 3 [21,22,23,24] 24 (.bool true) (tj := 21) rfl (fun hb21 => ?_) (fun hb21 => ?_) (fun f => ?_)
  · refine L.off rfl ?_
    refine L.off rfl ?_
    refine L.va (x_pickT rfl) ?_
    refine L.nil ?_
    refine ⟨rfl, congrArg Value.bool (rfl), ?_⟩
    exact Agree.upd rfl (Agree.upd rfl (Agree.upd rfl (Agree.upd rfl (Agree.refl _ _))))
  · exact absurd hc (of_decide_eq_false hb21)
  refine L.va (x_mvB rfl) ?_
  refine L.meetB 5 [25,26,27,28,29,30] 30 (.bool true) (tj := 25) rfl (fun hb25 => ?_) (fun hb25 => ?_) (fun f => ?_)
  · refine L.off rfl ?_
    refine L.off rfl ?_
    refine L.off rfl ?_
    refine L.off rfl ?_
    refine L.va (x_pickT rfl) ?_
    refine L.nil ?_
    refine ⟨rfl, congrArg Value.bool (rfl), ?_⟩
    exact Agree.upd rfl (Agree.upd rfl (Agree.upd rfl (Agree.upd rfl (Agree.upd rfl (Agree.upd rfl (Agree.refl _ _))))))
  · cases hb25
  refine L.va (x_mvB rfl) ?_
  refine L.meetB 8 [31,32,33,34,35,36,37,38,39] 39 (.bool true) (tj := 31) rfl (fun hb31 => ?_) (fun hb31 => ?_) (fun f => ?_)
  · refine L.off rfl ?_
    refine L.off rfl ?_
    refine L.off rfl ?_
    refine L.off rfl ?_
    refine L.off rfl ?_
    refine L.off rfl ?_
    refine L.off rfl ?_
    refine L.va (x_pickT rfl) ?_
    refine L.nil ?_
    refine ⟨rfl, congrArg Value.bool (rfl), ?_⟩
    exact Agree.upd rfl (Agree.upd rfl (Agree.upd rfl (Agree.upd rfl (Agree.upd rfl (Agree.upd rfl (Agree.upd rfl (Agree.upd rfl (Agree.upd rfl (Agree.refl _ _)))))))))
  · cases hb31
  refine L.nil ?_
  show W _ _ _ _ _ _
  refine W.condT rfl ?_
  refine W.seq ?_
  refine W.region rfl ?_
  refine L.va (x_asI rfl) ?_
  refine L.va (x_asB rfl) ?_
  refine L.nil ?_
  show W _ _ _ _ _ _
  refine W.ret ?_
  repeat (first | refine T.ret ?_ | refine B.ret ?_)
  refine ends.two (.inr rfl) rfl ?_
  exact ⟨rfl, hb⟩

theorem sees_ok (a : Option Addr) (n c : Nat) (E : Nat → Ev) (cl j : Int) (w0 : World) (hE : EvAt w0 a n E) (hn : n ≤ 9223372036854775807) (hc : check E n cl = 0) :
    C Try.prog 25 #[.slice a n c, .int .i64 cl, .int .i64 j] w0 fun v w' => v = .tuple #[.int .i64 (seesR E n cl j).1, .bool (seesR E n cl j).2] ∧ Below w0.heap.size w0 w' := by
  refine C.enter (n := 74) Try.func25 rfl rfl ?_
  refine W.seq ?_
  refine W.region rfl ?_
  refine L.va (x_asI rfl) ?_
  refine L.va (x_asB rfl) ?_
  refine L.nil ?_
  show W _ _ _ _ _ _
  refine W.seq ?_
  refine W.region rfl ?_
  refine L.va (x_mvS rfl) ?_
  refine L.va (x_mvI rfl) ?_
  refine L.call (x_call2 rfl rfl Try.func27 rfl nm27 rfl) (clocked_ok a n c E cl w0 hE hn hc) ?_
  rintro _ w ⟨bl, rfl, hL, hb⟩
  refine L.va (x_mvT rfl) ?_
  refine L.va (x_extract rfl rfl) ?_
  refine L.va (x_extract rfl rfl) ?_
  refine L.va (x_asS rfl) ?_
  refine L.va (x_asI rfl) ?_
  refine L.nil ?_
  show W _ _ _ _ _ _
  refine W.seq ?_
  refine W.seq ?_
  refine W.region rfl ?_
  refine L.va (x_mvI rfl) ?_
  refine L.va (x_neq rfl rfl) ?_
  refine L.va (x_mvB rfl) ?_
  refine L.meetB 3 [21,22,23,24] 24 (.bool (decide (j < 0))) (tj := 21) rfl (fun hb21 => ?_) (fun hb21 => ?_) (fun f => ?_)
  · refine L.off rfl ?_
    refine L.off rfl ?_
    refine L.va (x_pickT rfl) ?_
    refine L.nil ?_
    refine ⟨rfl, congrArg Value.bool (by simp at hb21), ?_⟩
    exact Agree.upd rfl (Agree.upd rfl (Agree.upd rfl (Agree.upd rfl (Agree.refl _ _))))
  · refine L.on rfl ?_
    refine L.va (x_mvI rfl) ?_
    refine L.on rfl ?_
    refine L.va (x_lss rfl rfl) ?_
    refine L.va (x_pickF rfl) ?_
    refine L.nil ?_
    refine ⟨rfl, congrArg Value.bool (rfl), ?_⟩
    exact Agree.upd rfl (Agree.upd rfl (Agree.upd rfl (Agree.upd rfl (Agree.refl _ _))))
  refine L.va (x_mvB rfl) ?_
  refine L.meetB 5 [25,26,27,28,29,30] 30 (.bool (decide (j < 0 ∨ (n : Int) ≤ j))) (tj := 25) rfl (fun hb25 => ?_) (fun hb25 => ?_) (fun f => ?_)
  · refine L.off rfl ?_
    refine L.off rfl ?_
    refine L.off rfl ?_
    refine L.off rfl ?_
    refine L.va (x_pickT rfl) ?_
    refine L.nil ?_
    refine ⟨rfl, congrArg Value.bool (by first | exact or_t hb25 | (simp_all; done) | (rw [Bool.eq_iff_iff]; simp_all; omega)), ?_⟩
    exact Agree.upd rfl (Agree.upd rfl (Agree.upd rfl (Agree.upd rfl (Agree.upd rfl (Agree.upd rfl (Agree.refl _ _))))))
  · refine L.on rfl ?_
    refine L.va (x_mvI rfl) ?_
    refine L.on rfl ?_
    refine L.va (x_mvS rfl) ?_
    refine L.on rfl ?_
    refine L.va (x_len rfl Try.underlying25 rfl) ?_
    refine L.on rfl ?_
    refine L.va (x_geq rfl rfl) ?_
    refine L.va (x_pickF rfl) ?_
    refine L.nil ?_
    refine ⟨rfl, congrArg Value.bool (by first | exact or_f hb25 | (simp_all; done) | (rw [Bool.eq_iff_iff]; simp_all; omega)), ?_⟩
    exact Agree.upd rfl (Agree.upd rfl (Agree.upd rfl (Agree.upd rfl (Agree.upd rfl (Agree.upd rfl (Agree.refl _ _))))))
  refine L.va (x_mvB rfl) ?_
  refine L.meetB 8 [31,32,33,34,35,36,37,38,39] 39 (.bool (decide ((j < 0 ∨ (n : Int) ≤ j) ∨ (E j.toNat).k ≠ 8))) (tj := 31) rfl (fun hb31 => ?_) (fun hb31 => ?_) (fun f => ?_)
  · refine L.off rfl ?_
    refine L.off rfl ?_
    refine L.off rfl ?_
    refine L.off rfl ?_
    refine L.off rfl ?_
    refine L.off rfl ?_
    refine L.off rfl ?_
    refine L.va (x_pickT rfl) ?_
    refine L.nil ?_
    refine ⟨rfl, congrArg Value.bool (by first | exact or_t hb31 | (simp_all; done) | (rw [Bool.eq_iff_iff]; simp_all; omega)), ?_⟩
    exact Agree.upd rfl (Agree.upd rfl (Agree.upd rfl (Agree.upd rfl (Agree.upd rfl (Agree.upd rfl (Agree.upd rfl (Agree.upd rfl (Agree.upd rfl (Agree.refl _ _)))))))))
  · have hh := of_decide_eq_false hb31
    have hj0 : 0 ≤ j := by omega
    have hj1 : j < n := by omega
    refine L.on rfl ?_
    refine L.va (x_mvS rfl) ?_
    refine L.on rfl ?_
    refine L.va (x_mvI rfl) ?_
    refine L.on rfl ?_
    refine L.va (x_idxI rfl rfl Try.underlying25 sz53 (hE.sl) (by omega) (by omega)) ?_
    refine L.on rfl ?_
    refine L.va (x_field rfl Try.underlying53 rfl sz51 (by decide)) ?_
    refine L.on rfl ?_
    refine L.va (x_field rfl Try.underlying51 rfl sz3 (by decide)) ?_
    refine L.on rfl ?_
    refine L.va (x_load rfl Try.underlying3 rfl (bl0 hb (hE.k (by omega)))) ?_
    refine L.on rfl ?_
    refine L.va (x_neq rfl rfl) ?_
    refine L.va (x_pickF rfl) ?_
    refine L.nil ?_
    refine ⟨rfl, congrArg Value.bool (by first | exact or_f hb31 | (simp_all; done) | (rw [Bool.eq_iff_iff]; simp_all; omega)), ?_⟩
    exact Agree.upd rfl (Agree.upd rfl (Agree.upd rfl (Agree.upd rfl (Agree.upd rfl (Agree.upd rfl (Agree.upd rfl (Agree.upd rfl (Agree.upd rfl (Agree.refl _ _)))))))))
  refine L.nil ?_
  show W _ _ _ _ _ _
  refine W.condP rfl (fun h39 => ?_) (fun h39 => ?_)
  · refine W.seq ?_
    refine W.region rfl ?_
    refine L.va (x_asI rfl) ?_
    refine L.va (x_asB rfl) ?_
    refine L.nil ?_
    show W _ _ _ _ _ _
    refine W.ret ?_
    repeat (first | refine T.ret ?_ | refine B.ret ?_)
    refine ends.two (.inr rfl) rfl ?_
    have hR : seesR E n cl j = (0, false) := by unfold seesR; rw [hc]; rw [if_pos (by rcases h39 with (q | q) | q; exact .inl (.inl (.inr q)); exact .inl (.inr q); exact .inr q)]
    exact ⟨by rw [hR]; rfl, hb⟩
  · refine W.skip ?_
    show W _ _ _ _ _ _
    refine W.seq ?_
    refine W.seq ?_
    refine W.region rfl ?_
    refine L.va (x_mvI rfl) ?_
    refine L.va (x_subI rfl rfl (by omega)) ?_
    rw [show (j : Int) - 1 = ((j.toNat : Nat) : Int) - 1 by omega]
    refine L.va (x_asI rfl) ?_
    refine L.nil ?_
    show W _ _ _ _ _ _
    refine W.block ?_
    have hj0 : 0 ≤ j := by omega
    have hj1 : j < n := by omega
    refine W.loop (fun k e w => ∃ q : Nat, k = q ∧ e 0 = .slice a n c ∧ e 2 = .int .i64 j ∧ e 10 = .int .i64 ((q : Int) - 1) ∧ Below w0.heap.size w0 w ∧ q ≤ j.toNat ∧ seesAt E j.toNat j.toNat = seesAt E j.toNat q) _ ⟨j.toNat, rfl, rfl, rfl, rfl, hb, Nat.le_refl _, rfl⟩ ?_
    rintro k e w ⟨q, hk, s0, s2, s10, hb, hq, hs⟩
    rw [upd_id s0, upd_id s2, upd_id s10]
    clear s0 s2 s10
    refine W.seq ?_
    refine W.seq ?_
    refine W.region rfl ?_
    refine L.va (x_mvI rfl) ?_
    refine L.va (x_geq rfl rfl) ?_
    refine L.nil ?_
    show W _ _ _ _ _ _
    refine W.condP rfl (fun h43 => ?_) (fun h43 => ?_)
    · refine W.skip ?_
      show W _ _ _ _ _ _
      refine W.seq ?_
      refine W.block ?_
      refine W.seq ?_
      obtain ⟨p, rfl⟩ : ∃ p, q = p + 1 := ⟨q - 1, by omega⟩
      rw [show (((p + 1 : Nat) : Int) - 1) = ((p : Nat) : Int) by omega]
      refine W.draws (by kernel_rfl) (by kernel_rfl) fun V hch hV => ?_
      obtain ⟨b11, b12, hne, hg11, hg12, hX, hY⟩ := two_allocs hch (i := 10) (j := 11) (by decide) w.heap.size
      refine ⟨fun D w' => Below w.heap.size w w' ∧ w'.heap.size = w.heap.size + (if D 10 = true then 1 else 0) + (if D 11 = true then 1 else 0) ∧ (D 10 = true → ∃ cs : Array Value, cs.size = 3 ∧ Blk w' b11 cs 51) ∧ (D 11 = true → ∃ cs : Array Value, cs.size = 3 ∧ Blk w' b12 cs 51) ∧ (D 12 = true → Blk w' b11 #[Value.int .i64 (E p).k, .int .i64 (E p).o, .int .i64 (E p).n] 51) ∧ (D 13 = true → Blk w' b12 #[Value.int .i64 (E j.toNat).k, .int .i64 (E j.toNat).o, .int .i64 (E j.toNat).n] 51), ⟨(Below.refl _ _).drew, rfl, (fun h => by cases h), (fun h => by cases h), (fun h => by cases h), (fun h => by cases h)⟩, ?_⟩
      refine J.va (fun D w' _ _ _ hJ => x_mvS rfl) (fun D w' hJ => hJ) ?_
      refine J.va (fun D w' _ _ _ hJ => x_mvI rfl) (fun D w' hJ => hJ) ?_
      refine J.va (fun D w' _ _ _ hJ => x_idx rfl rfl Try.underlying25 sz53 hE.sl (by omega)) (fun D w' hJ => hJ) ?_
      refine J.va (fun D w' _ _ _ hJ => x_field rfl Try.underlying53 rfl sz51 (by decide)) (fun D w' hJ => hJ) ?_
      refine J.va (fun D w' _ _ _ hJ => x_loadAgg rfl Try.underlying51 rfl sz51 rfl (bagg (cl_step hb hJ.1) (hE.step (by omega)))) (fun D w' hJ => hJ) ?_
      refine J.va (fun D w' _ _ _ hJ => x_mvS rfl) (fun D w' hJ => hJ) ?_
      refine J.va (fun D w' _ _ _ hJ => x_mvI rfl) (fun D w' hJ => hJ) ?_
      refine J.va (fun D w' _ _ _ hJ => x_idxI rfl rfl Try.underlying25 sz53 hE.sl (by omega) (by omega)) (fun D w' hJ => hJ) ?_
      refine J.va (fun D w' _ _ _ hJ => x_field rfl Try.underlying53 rfl sz51 (by decide)) (fun D w' hJ => hJ) ?_
      refine J.va (fun D w' _ _ _ hJ => x_loadAgg rfl Try.underlying51 rfl sz51 rfl (bagg (cl_step hb hJ.1) (hE.step (by omega)))) (fun D w' hJ => hJ) ?_
      refine J.vw (v := .pointer (some ⟨b11, 0, none⟩)) (fun D w' hD hVV _ hJ => ?_) ?_
      · obtain ⟨h1, h2, h3, h4, h5, h6⟩ := hJ
        have hsz : w'.heap.size = b11 := by have := hX D hVV hD; simp only [hD, Bool.false_eq_true, if_false, Nat.add_zero] at h2; omega
        have F := fresh_alloc w' #[.int .i64 0, .int .i64 0, .int .i64 0] 51
        rw [hsz] at F
        refine ⟨w'.alloc (.cells #[.int .i64 0, .int .i64 0, .int .i64 0] 51), (x_alloc zr51).trans (by rw [hsz]; rfl), cl_step h1 F.below, ?_, fun h => ⟨_, rfl, F.blk⟩, fun h => (let ⟨cs, hc, hB⟩ := h4 h; ⟨cs, hc, hB.keep F.below⟩), fun h => (h5 h).keep F.below, fun h => (h6 h).keep F.below⟩
        rw [F.size]
        show _ = w.heap.size + 1 + (if D 11 = true then 1 else 0)
        simp only [hD, Bool.false_eq_true, if_false, Nat.add_zero] at h2
        omega
      refine J.vw (v := .pointer (some ⟨b12, 0, none⟩)) (fun D w' hD hVV _ hJ => ?_) ?_
      · obtain ⟨h1, h2, h3, h4, h5, h6⟩ := hJ
        have hsz : w'.heap.size = b12 := by have := hY D hVV hD; simp only [hD, Bool.false_eq_true, if_false, Nat.add_zero] at h2; omega
        have F := fresh_alloc w' #[.int .i64 0, .int .i64 0, .int .i64 0] 51
        rw [hsz] at F
        refine ⟨w'.alloc (.cells #[.int .i64 0, .int .i64 0, .int .i64 0] 51), (x_alloc zr51).trans (by rw [hsz]; rfl), cl_step h1 F.below, ?_, fun h => (let ⟨cs, hc, hB⟩ := h3 h; ⟨cs, hc, hB.keep F.below⟩), fun h => ⟨_, rfl, F.blk⟩, fun h => (h5 h).keep F.below, fun h => (h6 h).keep F.below⟩
        rw [F.size]
        show _ = w.heap.size + (if D 10 = true then 1 else 0) + 1
        simp only [hD, Bool.false_eq_true, if_false, Nat.add_zero] at h2
        omega
      refine J.st (fun D w' hD _ hdep hJ => ?_) ?_
      · obtain ⟨h1, h2, h3, h4, h5, h6⟩ := hJ
        obtain ⟨cs, hc, hB⟩ := h3 (hdep ⟨10, .data⟩ (by simp) rfl)
        refine ⟨_, x_storeAll (vs := [Value.int .i64 (E p).k, .int .i64 (E p).o, .int .i64 (E p).n]) rfl rfl rfl sz51 rfl hc (by simp [Value.oneCell']) hB, Below.setBlk h1 hg11 _ _, by rw [setBlk_size]; exact h2, fun h => ⟨_, rfl, setBlk_self _ _ _ hB⟩, fun h => (let ⟨cs, hc, hB⟩ := h4 h; ⟨cs, hc, hB.setBlkOther (Ne.symm hne) _ _⟩), fun h => setBlk_self _ _ _ hB, fun h => (h6 h).setBlkOther (Ne.symm hne) _ _⟩
      refine J.st (fun D w' hD _ hdep hJ => ?_) ?_
      · obtain ⟨h1, h2, h3, h4, h5, h6⟩ := hJ
        obtain ⟨cs, hc, hB⟩ := h4 (hdep ⟨11, .data⟩ (by simp) rfl)
        refine ⟨_, x_storeAll (vs := [Value.int .i64 (E j.toNat).k, .int .i64 (E j.toNat).o, .int .i64 (E j.toNat).n]) rfl rfl rfl sz51 rfl hc (by simp [Value.oneCell']) hB, Below.setBlk h1 hg12 _ _, by rw [setBlk_size]; exact h2, fun h => (let ⟨cs, hc, hB⟩ := h3 h; ⟨cs, hc, hB.setBlkOther hne _ _⟩), fun h => ⟨_, rfl, setBlk_self _ _ _ hB⟩, fun h => (h5 h).setBlkOther hne _ _, fun h => setBlk_self _ _ _ hB⟩
      refine J.nil ?_
      rintro D w' hD ⟨h1, -, -, -, h5, h6⟩
      have hB11 := h5 (hD 12 (by decide))
      have hB12 := h6 (hD 13 (by decide))
      have hb := cl_step hb h1
      show W _ _ _ _ _ _
      refine W.seq ?_
      refine W.region rfl ?_
      refine L.va (x_field rfl Try.underlying51 rfl sz3 (by decide)) ?_
      refine L.va (x_load rfl Try.underlying3 rfl (hB11.cell (v := .int .i64 (E p).k) rfl)) ?_
      refine L.va (x_eql rfl rfl) ?_
      refine L.va (x_mvB rfl) ?_
      refine L.meetB 6 [59,60,61,62,63,64,65] 65 (.bool (decide ((E p).k = 9 ∧ (E p).o = (E j.toNat).o))) (tj := 59) rfl (fun hb59 => ?_) (fun hb59 => ?_) (fun f => ?_)
      · refine L.on rfl ?_
        refine L.va (x_field rfl Try.underlying51 rfl sz3 (by decide)) ?_
        refine L.on rfl ?_
        refine L.va (x_load rfl Try.underlying3 rfl (hB11.cell (v := .int .i64 (E p).o) rfl)) ?_
        refine L.on rfl ?_
        refine L.va (x_field rfl Try.underlying51 rfl sz3 (by decide)) ?_
        refine L.on rfl ?_
        refine L.va (x_load rfl Try.underlying3 rfl (hB12.cell (v := .int .i64 (E j.toNat).o) rfl)) ?_
        refine L.on rfl ?_
        refine L.va (x_eql rfl rfl) ?_
        refine L.va (x_pickT rfl) ?_
        refine L.nil ?_
        refine ⟨rfl, congrArg Value.bool (by first | exact and_t hb59 | (simp_all; done) | (rw [Bool.eq_iff_iff]; simp_all; omega)), ?_⟩
        exact Agree.upd rfl (Agree.upd rfl (Agree.upd rfl (Agree.upd rfl (Agree.upd rfl (Agree.upd rfl (Agree.upd rfl (Agree.refl _ _)))))))
      · refine L.off rfl ?_
        refine L.off rfl ?_
        refine L.off rfl ?_
        refine L.off rfl ?_
        refine L.off rfl ?_
        refine L.va (x_pickF rfl) ?_
        refine L.nil ?_
        refine ⟨rfl, congrArg Value.bool (by first | exact and_f hb59 | (simp_all; done) | (rw [Bool.eq_iff_iff]; simp_all; omega)), ?_⟩
        exact Agree.upd rfl (Agree.upd rfl (Agree.upd rfl (Agree.upd rfl (Agree.upd rfl (Agree.upd rfl (Agree.upd rfl (Agree.refl _ _)))))))
      refine L.va (x_mvB rfl) ?_
      refine L.meetB 6 [66,67,68,69,70,71,72] 72 (.bool (decide (((E p).k = 9 ∧ (E p).o = (E j.toNat).o) ∧ (E p).n = (E j.toNat).n))) (tj := 66) rfl (fun hb66 => ?_) (fun hb66 => ?_) (fun f => ?_)
      · refine L.on rfl ?_
        refine L.va (x_field rfl Try.underlying51 rfl sz3 (by decide)) ?_
        refine L.on rfl ?_
        refine L.va (x_load rfl Try.underlying3 rfl (hB11.cell (v := .int .i64 (E p).n) rfl)) ?_
        refine L.on rfl ?_
        refine L.va (x_field rfl Try.underlying51 rfl sz3 (by decide)) ?_
        refine L.on rfl ?_
        refine L.va (x_load rfl Try.underlying3 rfl (hB12.cell (v := .int .i64 (E j.toNat).n) rfl)) ?_
        refine L.on rfl ?_
        refine L.va (x_eql rfl rfl) ?_
        refine L.va (x_pickT rfl) ?_
        refine L.nil ?_
        refine ⟨rfl, congrArg Value.bool (by first | exact and_t hb66 | (simp_all; done) | (rw [Bool.eq_iff_iff]; simp_all; omega)), ?_⟩
        exact Agree.upd rfl (Agree.upd rfl (Agree.upd rfl (Agree.upd rfl (Agree.upd rfl (Agree.upd rfl (Agree.upd rfl (Agree.refl _ _)))))))
      · refine L.off rfl ?_
        refine L.off rfl ?_
        refine L.off rfl ?_
        refine L.off rfl ?_
        refine L.off rfl ?_
        refine L.va (x_pickF rfl) ?_
        refine L.nil ?_
        refine ⟨rfl, congrArg Value.bool (by first | exact and_f hb66 | (simp_all; done) | (rw [Bool.eq_iff_iff]; simp_all; omega)), ?_⟩
        exact Agree.upd rfl (Agree.upd rfl (Agree.upd rfl (Agree.upd rfl (Agree.upd rfl (Agree.upd rfl (Agree.upd rfl (Agree.refl _ _)))))))
      refine L.nil ?_
      show W _ _ _ _ _ _
      refine W.condP rfl (fun h72 => ?_) (fun h72 => ?_)
      · refine W.seq ?_
        refine W.region rfl ?_
        refine L.va (x_mvI rfl) ?_
        refine L.va (x_asI rfl) ?_
        refine L.va (x_asB rfl) ?_
        refine L.nil ?_
        show W _ _ _ _ _ _
        refine W.ret ?_
        repeat (first | refine T.ret ?_ | refine B.ret ?_)
        refine ends.two (.inr rfl) rfl ?_
        have hR : seesR E n cl j = ((p : Int), true) := by unfold seesR; rw [hc]; rw [if_neg (by rintro (((q | q) | q) | q); exact q rfl; exact h39 (.inl (.inl q)); exact h39 (.inl (.inr q)); exact h39 (.inr q)), hs]; simp only [seesAt, if_pos (show ((E p).k = 9 ∧ ((E p).o = (E j.toNat).o ∧ (E p).n = (E j.toNat).n)) by rw [← and_assoc]; exact h72)]
        exact ⟨by rw [hR]; rfl, hb⟩
      · refine W.skip ?_
        refine B.nrm ?_
        show W _ _ _ _ _ _
        refine W.region rfl ?_
        refine L.va (x_mvI rfl) ?_
        refine L.va (x_subI rfl rfl (by omega)) ?_
        refine L.va (x_asI rfl) ?_
        refine L.nil ?_
        refine T.nrm ?_
        have hse : seesAt E j.toNat (p + 1) = seesAt E j.toNat p := by simp only [seesAt, if_neg (show ¬ ((E p).k = 9 ∧ ((E p).o = (E j.toNat).o ∧ (E p).n = (E j.toNat).n)) by rw [← and_assoc]; exact h72)]
        exact ⟨_, by omega, ⟨p, rfl, rfl, rfl, rfl, hb, by omega, hs.trans hse⟩⟩
    · refine W.exit ?_
      repeat (first | refine T.exit ?_ | refine B.exitNe (by decide) ?_)
      refine B.exitEq ?_
      show W _ _ _ _ _ _
      refine W.seq ?_
      refine W.region rfl ?_
      refine L.va (x_asI rfl) ?_
      refine L.va (x_asB rfl) ?_
      refine L.nil ?_
      show W _ _ _ _ _ _
      refine W.ret ?_
      repeat (first | refine T.ret ?_ | refine B.ret ?_)
      refine ends.two (.inr rfl) rfl ?_
      obtain rfl : q = 0 := by omega
      have hR : seesR E n cl j = (0, false) := by unfold seesR; rw [hc]; rw [if_neg (by rintro (((q | q) | q) | q); exact q rfl; exact h39 (.inl (.inl q)); exact h39 (.inl (.inr q)); exact h39 (.inr q)), hs]; rfl
      exact ⟨by rw [hR]; rfl, hb⟩

end Go.Proofs.Ytlopdjbehhdmpaa
