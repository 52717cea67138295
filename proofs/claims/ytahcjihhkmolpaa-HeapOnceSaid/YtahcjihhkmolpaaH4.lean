/- The laws on a heap: what the Go text returns. -/
import Derived.Test.YtahcjihhkmolpaaHD
namespace Go.Proofs.Ytahcjihhkmolpaa
open Go.Vc Go.RowKit
theorem st35 : Try.prog.stoodInHeld 35 = false := by kernel_rfl
theorem eg35 : Try.prog.eqGuardType Try.prog.depth 35 = false := by kernel_rfl
theorem eq35 {ρ : Operand → Value} {w : World} {d : Option Nat} {ty T' : TypeId} {ps : String} {af : Array Edge} {g : Option (Nat × Bool)} {x y : Operand} (a b a' b' : Int) {r : Bool} (hr : decide (a = a' ∧ b = b') = r) (hx : ρ x = .agg #[.int .i64 a, .int .i64 b]) (hy : ρ y = .agg #[.int .i64 a', .int .i64 b']) :
    (execOp ρ ⟨d, .binOp .eql 35 x y T', ty, ps, af, g⟩).run Try.prog w = .ok (.value (.bool r)) w := by
  rw [← hr]
  exact x_eqPair hx hy Try.underlying35 ⟨by decide, rfl, rfl⟩ ⟨by decide, rfl, rfl⟩ Try.underlying3 st35 eg35
theorem l1 : allocR 1 hs0 7 = ((1, 1, 0), ⟨1, upf hs0.nd 0 ⟨1, true, 7⟩, 0, hs0.pool⟩) := by simp [allocR, hs0]
abbrev hs1 : Hs := ⟨1, upf hs0.nd 0 ⟨1, true, 7⟩, 0, hs0.pool⟩
theorem l2 : getR hs1 1 1 = (7, true) := by decide
theorem l3 : allocR 1 hs1 8 = ((0, 0, 5), hs1) := by simp [allocR]
theorem l4 : freeR hs1 1 1 = ⟨1, upf hs1.nd 0 ⟨2, false, 0⟩, 1, upf hs1.pool 0 1⟩ := by simp [freeR, freeS, isR, inR, upf]
theorem l4b : decide (isR hs1 1 1) = true := by decide
abbrev hs2 : Hs := ⟨1, upf hs1.nd 0 ⟨2, false, 0⟩, 1, upf hs1.pool 0 1⟩
theorem l5 : allocR 1 hs2 9 = ((1, 2, 0), ⟨1, upf hs2.nd 0 ⟨2, true, 9⟩, 0, hs2.pool⟩) := by simp [allocR, upf]
abbrev hs3 : Hs := ⟨1, upf hs2.nd 0 ⟨2, true, 9⟩, 0, hs2.pool⟩
theorem l6 : getR hs3 1 1 = (0, false) := by decide
theorem l7 : getR hs3 1 2 = (9, true) := by decide
theorem small1 : Small hs1 1 := ⟨Nat.le_refl 1, Nat.zero_le 1, fun i hi => by
  have h9 : i < 1 := hi
  obtain rfl : i = 0 := by omega
  decide⟩

theorem buD_0 (x0 : Int) (x1 : Int) : Try.prog.built 35 [(0, .int .i64 x0), (1, .int .i64 x1)] = some #[.int .i64 x0, .int .i64 x1] := by kernel_rfl
theorem named_c (a : Option Addr) (len c : Nat) (R : Nat → Int × Int) (o : Opn) (w0 : World) (hR : RefsAt w0 a len R) :
    C Try.prog 11 #[.slice a len c, .agg #[.int .i64 o.k, .int .i64 o.v, .int .i64 o.wh, .int .i64 o.rn, .int .i64 o.rg]] w0 fun r w => r = .agg #[.int .i64 (namedR R len o).1, .int .i64 (namedR R len o).2] ∧ Below w0.heap.size w0 w := by
  refine C.enter (n := 22) Try.func11 rfl rfl ?_
  have hb : Below w0.heap.size w0 w0 := Below.refl _ _
  refine W.seq ?_
  refine W.region rfl ?_
  refine L.box (cs := #[.int .i64 (o.k), .int .i64 (o.v), .int .i64 (o.wh), .int .i64 (o.rn), .int .i64 (o.rg)]) rfl rfl (fun w b3 F3 => ?_)
  have lt3 : w0.heap.size ≤ b3 := by have h9 := F3.here; have h8 := hb.size; omega
  have hb := cl_step hb F3.below
  have hB3 := F3.blk
  refine L.alloc (cs := #[.int .i64 0, .int .i64 0]) zr35 rfl (fun w b4 F4 => ?_)
  have lt4 : w0.heap.size ≤ b4 := by have h9 := F4.here; have h8 := hb.size; omega
  have hb := cl_step hb F4.below
  have hB3 := hB3.keep F4.below
  have hB4 := F4.blk
  refine L.nil ?_
  show W _ _ _ _ _ _
  refine W.seq ?_
  refine W.seq ?_
  refine W.region rfl ?_
  refine L.va (x_field rfl Try.underlying37 rfl sz3 (by decide)) ?_
  refine L.va (x_load rfl Try.underlying3 rfl (hB3.cellAt 2 (v := .int .i64 (o.wh)) rfl)) ?_
  refine L.va (x_geq rfl rfl) ?_
  refine L.va (x_mvB rfl) ?_
  refine L.meetB 6 [8,9,10,11,12,13,14] 14 (.bool (decide (0 ≤ o.wh ∧ o.wh < (len : Int)))) (tj := 8) rfl (fun hb8 => ?_) (fun hb8 => ?_) (fun f => ?_)
  · refine L.on rfl ?_
    refine L.va (x_field rfl Try.underlying37 rfl sz3 (by decide)) ?_
    refine L.on rfl ?_
    refine L.va (x_load rfl Try.underlying3 rfl (hB3.cellAt 2 (v := .int .i64 (o.wh)) rfl)) ?_
    refine L.on rfl ?_
    refine L.va (x_mvS rfl) ?_
    refine L.on rfl ?_
    refine L.va (x_len rfl Try.underlying31 rfl) ?_
    refine L.on rfl ?_
    refine L.va (x_lss rfl rfl) ?_
    refine L.va (x_pickT rfl) ?_
    refine L.nil ?_
    refine ⟨rfl, congrArg Value.bool (by first | exact and_t hb8 | rfl | (simp_all; done) | (rw [Bool.eq_iff_iff]; simp_all; omega)), ?_⟩
    exact Agree.upd rfl (Agree.upd rfl (Agree.upd rfl (Agree.upd rfl (Agree.upd rfl (Agree.upd rfl (Agree.upd rfl (Agree.refl _ _)))))))
  · refine L.off rfl ?_
    refine L.off rfl ?_
    refine L.off rfl ?_
    refine L.off rfl ?_
    refine L.off rfl ?_
    refine L.va (x_pickF rfl) ?_
    refine L.nil ?_
    refine ⟨rfl, congrArg Value.bool (by first | exact and_f hb8 | rfl | (simp_all; done) | (rw [Bool.eq_iff_iff]; simp_all; omega)), ?_⟩
    exact Agree.upd rfl (Agree.upd rfl (Agree.upd rfl (Agree.upd rfl (Agree.upd rfl (Agree.upd rfl (Agree.upd rfl (Agree.refl _ _)))))))
  refine L.nil ?_
  show W _ _ _ _ _ _
  refine W.condP rfl (fun h14 => ?_) (fun h14 => ?_)
  · refine W.seq ?_
    refine W.region rfl ?_
    refine L.va (x_mvS rfl) ?_
    refine L.va (x_field rfl Try.underlying37 rfl sz3 (by decide)) ?_
    refine L.va (x_load rfl Try.underlying3 rfl (hB3.cellAt 2 (v := .int .i64 (o.wh)) rfl)) ?_
    refine L.va (x_idxI rfl rfl Try.underlying31 sz35 (hR.sl) (by omega) (by omega)) ?_
    refine L.va (x_loadAgg (cs := [.int .i64 ((R o.wh.toNat).1), .int .i64 ((R o.wh.toNat).2)]) rfl Try.underlying35 rfl sz35 rfl (fun j v hj => bl0 hb (hR.at' (i := o.wh.toNat) (by omega) j v hj))) ?_
    refine L.put (b := b4) (o := 0) (vs := [.int .i64 ((R o.wh.toNat).1), .int .i64 ((R o.wh.toNat).2)]) #[.int .i64 ((R o.wh.toNat).1), .int .i64 ((R o.wh.toNat).2)] rfl rfl rfl sz35 rfl rfl hB4 (Nat.le_of_ble_eq_true rfl) rfl (fun w hnew hg hsz => ?_)
    have hm0 := ModT.put0 hB4 hg
    have hb := below_gr hb hb.size hg lt4
    have hB3 := hB3.mod hm0 rfl
    have hB4 := hnew
    clear hm0
    refine L.nil ?_
    show W _ _ _ _ _ _
    refine W.ret ?_
    repeat (first | refine T.ret ?_ | refine B.ret ?_)
    refine ends.cell (cs := #[.int .i64 ((R o.wh.toNat).1), .int .i64 ((R o.wh.toNat).2)]) (.inr rfl) rfl rfl Try.underlying35 rfl sz35 hB4 ?_
    exact ⟨by unfold namedR; rw [if_pos h14], hb⟩
  · refine W.skip ?_
    show W _ _ _ _ _ _
    refine W.seq ?_
    refine W.region rfl ?_
    refine L.va (x_field rfl Try.underlying37 rfl sz35 (by decide)) ?_
    refine L.va (x_loadAgg (cs := [.int .i64 (o.rn), .int .i64 (o.rg)]) rfl Try.underlying35 rfl sz35 rfl (hB3.aggAt rfl)) ?_
    refine L.put (b := b4) (o := 0) (vs := [.int .i64 (o.rn), .int .i64 (o.rg)]) #[.int .i64 (o.rn), .int .i64 (o.rg)] rfl rfl rfl sz35 rfl rfl hB4 (Nat.le_of_ble_eq_true rfl) rfl (fun w hnew hg hsz => ?_)
    have hm0 := ModT.put0 hB4 hg
    have hb := below_gr hb hb.size hg lt4
    have hB3 := hB3.mod hm0 rfl
    have hB4 := hnew
    clear hm0
    refine L.nil ?_
    show W _ _ _ _ _ _
    refine W.ret ?_
    repeat (first | refine T.ret ?_ | refine B.ret ?_)
    refine ends.cell (cs := #[.int .i64 (o.rn), .int .i64 (o.rg)]) (.inr rfl) rfl rfl Try.underlying35 rfl sz35 hB4 ?_
    exact ⟨by unfold namedR; rw [if_neg h14], hb⟩

set_option maxHeartbeats 1000000 in
theorem live_c (w0 : World) : C Try.prog 7 #[] w0 fun v w => v = .bool true ∧ Below w0.heap.size w0 w := by
  refine C.enter (n := 108) Try.func7 rfl rfl ?_
  obtain ⟨Bs, hBe⟩ : ∃ x, x = w0.heap.size := ⟨_, rfl⟩
  have hBs : Bs ≤ w0.heap.size := Nat.le_of_eq hBe
  have hm : ModT w0 w0 Bs [78, 126, 132, 85, 35, 2, 4, 54] := ModT.refl _ _ _
  refine W.seq ?_
  refine W.region rfl ?_
  refine L.va (x_asB rfl) ?_
  refine L.nil ?_
  show W _ _ _ _ _ _
  refine W.seq ?_
  refine W.region rfl ?_
  refine L.call (x_call0  Try.func9 rfl nm9 rfl) (scripted_c w0) ?_
  rintro _ w ⟨wb, rfl, _, hW, hbw⟩
  have hm := hm.step hbw (Nat.le_trans hBs hm.size)
  refine L.call (x_call3 rfl rfl rfl Try.func8 rfl nm8 rfl) (new_ok Bs wb 5 1 w (Nat.le_trans hBs hm.size) hW (by omega)) ?_
  rintro _ w ⟨hp, rfl, hS, hbw⟩
  have hm := hm.step hbw (Nat.le_trans hBs hm.size)
  have hW := hW.keep hbw
  have hS : HT w Bs hp 5 1 hs0 := hS
  refine L.va (x_mvT rfl) ?_
  refine L.va (x_extract rfl rfl) ?_
  refine L.va (x_extract rfl rfl) ?_
  refine L.va (x_asP rfl) ?_
  refine L.va (x_asI rfl) ?_
  refine L.nil ?_
  show W _ _ _ _ _ _
  refine W.seq ?_
  refine W.seq ?_
  refine W.region rfl ?_
  refine L.va (x_mvI rfl) ?_
  refine L.call (x_call1 rfl Try.func10 rfl nm10 rfl) (num_c _ w) ?_
  rintro _ w1 ⟨rfl, hw⟩
  rw [hw]
  clear hw w1
  refine L.va (x_neq rfl rfl) ?_
  refine L.va (x_mvB rfl) ?_
  refine L.on rfl ?_
  refine L.va (x_mvP rfl) ?_
  refine L.on rfl ?_
  refine L.va (x_eqPtrNil rfl rfl Try.underlying24) ?_
  refine L.va (x_pickF rfl) ?_
  refine L.nil ?_
  show W _ _ _ _ _ _
  refine W.condF rfl ?_
  refine W.skip ?_
  show W _ _ _ _ _ _
  refine W.seq ?_
  refine W.region rfl ?_
  refine L.va (x_mvP rfl) ?_
  refine L.call (x_call3 rfl rfl rfl Try.func12 rfl nm12 rfl) (by have h9 := alloc_c Bs hp 5 1 7 hs0 w hS (Nat.le_trans hBs hm.size) (by decide) (by decide); rw [l1] at h9; exact h9) ?_
  rintro _ w ⟨rfl, hS2, hmo⟩
  have hm := hm.trans (hmo.wide rfl)
  have hW := hW.mod hmo rfl
  clear hmo
  have hS := hS2
  refine L.va (x_mvT rfl) ?_
  refine L.va (x_extract rfl rfl) ?_
  refine L.va (x_extract rfl rfl) ?_
  refine L.alloc (cs := #[.int .i64 0, .int .i64 0]) zr35 rfl (fun w b3 F3 => ?_)
  have lt3 : w0.heap.size ≤ b3 := by have h9 := F3.here; have h8 := hm.size; omega
  have hm := hm.step F3.below (Nat.le_trans hBs hm.size)
  have hW := hW.keep F3.below
  have hS := hS.keep F3.below
  have hB3 := F3.blk
  refine L.put (b := b3) (o := 0) (vs := [.int .i64 1, .int .i64 1]) #[.int .i64 1, .int .i64 1] rfl rfl rfl sz35 rfl rfl hB3 (Nat.le_of_ble_eq_true rfl) rfl (fun w hnew hg hsz => ?_)
  have hm0 := ModT.put0 hB3 hg
  have hm := hm.own hg lt3 hBs
  have hW := hW.mod hm0 rfl
  have hS := hS.mod hm0 rfl
  have hB3 := hnew
  clear hm0
  refine L.va (x_asI rfl) ?_
  refine L.nil ?_
  show W _ _ _ _ _ _
  refine W.seq ?_
  refine W.region rfl ?_
  refine L.va (x_mvP rfl) ?_
  refine L.va (x_loadAgg (cs := [.int .i64 1, .int .i64 1]) rfl Try.underlying35 rfl sz35 rfl (hB3.aggAt rfl)) ?_
  refine L.call (x_call3 rfl rfl rfl Try.func14 rfl nm14 rfl) (by have h9 := get_c Bs hp 5 1 1 1 hs1 w hS; rw [l2] at h9; exact h9) ?_
  rintro _ w ⟨rfl, hbw⟩
  have hm := hm.step hbw (Nat.le_trans hBs hm.size)
  have hW := hW.keep hbw
  have hS := hS.keep hbw
  have hB3 := hB3.keep hbw
  refine L.va (x_mvT rfl) ?_
  refine L.va (x_extract rfl rfl) ?_
  refine L.va (x_extract rfl rfl) ?_
  refine L.va (x_asI rfl) ?_
  refine L.va (x_asB rfl) ?_
  refine L.nil ?_
  show W _ _ _ _ _ _
  refine W.seq ?_
  refine W.region rfl ?_
  refine L.va (x_mvP rfl) ?_
  refine L.call (x_call3 rfl rfl rfl Try.func12 rfl nm12 rfl) (by have h9 := alloc_c Bs hp 5 1 8 hs1 w hS (Nat.le_trans hBs hm.size) (by decide) (by decide); rw [l3] at h9; exact h9) ?_
  rintro _ w ⟨rfl, hS2, hmo⟩
  have hm := hm.trans (hmo.wide rfl)
  have hW := hW.mod hmo rfl
  have hB3 := hB3.mod hmo rfl
  clear hmo
  have hS := hS2
  refine L.va (x_mvT rfl) ?_
  refine L.va (x_extract rfl rfl) ?_
  refine L.va (x_extract rfl rfl) ?_
  refine L.alloc (cs := #[.int .i64 0, .int .i64 0]) zr35 rfl (fun w b7 F7 => ?_)
  have lt7 : w0.heap.size ≤ b7 := by have h9 := F7.here; have h8 := hm.size; omega
  have ne7hB3 := F7.ne hB3
  have hm := hm.step F7.below (Nat.le_trans hBs hm.size)
  have hW := hW.keep F7.below
  have hB3 := hB3.keep F7.below
  have hS := hS.keep F7.below
  have hB7 := F7.blk
  refine L.put (b := b7) (o := 0) (vs := [.int .i64 0, .int .i64 0]) #[.int .i64 0, .int .i64 0] rfl rfl rfl sz35 rfl rfl hB7 (Nat.le_of_ble_eq_true rfl) rfl (fun w hnew hg hsz => ?_)
  have hm0 := ModT.put0 hB7 hg
  have hm := hm.own hg lt7 hBs
  have hW := hW.mod hm0 rfl
  have hB3 := hB3.other hg ne7hB3
  have hS := hS.mod hm0 rfl
  have hB7 := hnew
  clear hm0
  refine L.va (x_asI rfl) ?_
  refine L.nil ?_
  show W _ _ _ _ _ _
  refine W.seq ?_
  refine W.region rfl ?_
  refine L.va (x_mvP rfl) ?_
  refine L.va (x_loadAgg (cs := [.int .i64 1, .int .i64 1]) rfl Try.underlying35 rfl sz35 rfl (hB3.aggAt rfl)) ?_
  refine L.call (x_call3 rfl rfl rfl Try.func13 rfl nm13 rfl) (by have h9 := free_c Bs hp 5 1 1 1 hs1 w hS (Nat.le_trans hBs hm.size) (by decide) (small1.gens (by decide)); rw [l4, l4b] at h9; exact h9) ?_
  rintro _ w ⟨rfl, hS2, hmo⟩
  have hm := hm.trans (hmo.wide rfl)
  have hW := hW.mod hmo rfl
  have hB3 := hB3.mod hmo rfl
  have hB7 := hB7.mod hmo rfl
  clear hmo
  have hS := hS2
  refine L.va (x_asB rfl) ?_
  refine L.nil ?_
  show W _ _ _ _ _ _
  refine W.seq ?_
  refine W.region rfl ?_
  refine L.va (x_mvP rfl) ?_
  refine L.call (x_call3 rfl rfl rfl Try.func12 rfl nm12 rfl) (by have h9 := alloc_c Bs hp 5 1 9 hs2 w hS (Nat.le_trans hBs hm.size) (by decide) (by decide); rw [l5] at h9; exact h9) ?_
  rintro _ w ⟨rfl, hS2, hmo⟩
  have hm := hm.trans (hmo.wide rfl)
  have hW := hW.mod hmo rfl
  have hB3 := hB3.mod hmo rfl
  have hB7 := hB7.mod hmo rfl
  clear hmo
  have hS := hS2
  refine L.va (x_mvT rfl) ?_
  refine L.va (x_extract rfl rfl) ?_
  refine L.va (x_extract rfl rfl) ?_
  refine L.alloc (cs := #[.int .i64 0, .int .i64 0]) zr35 rfl (fun w b10 F10 => ?_)
  have lt10 : w0.heap.size ≤ b10 := by have h9 := F10.here; have h8 := hm.size; omega
  have ne10hB3 := F10.ne hB3
  have ne10hB7 := F10.ne hB7
  have hm := hm.step F10.below (Nat.le_trans hBs hm.size)
  have hW := hW.keep F10.below
  have hB3 := hB3.keep F10.below
  have hB7 := hB7.keep F10.below
  have hS := hS.keep F10.below
  have hB10 := F10.blk
  refine L.put (b := b10) (o := 0) (vs := [.int .i64 1, .int .i64 2]) #[.int .i64 1, .int .i64 2] rfl rfl rfl sz35 rfl rfl hB10 (Nat.le_of_ble_eq_true rfl) rfl (fun w hnew hg hsz => ?_)
  have hm0 := ModT.put0 hB10 hg
  have hm := hm.own hg lt10 hBs
  have hW := hW.mod hm0 rfl
  have hB3 := hB3.other hg ne10hB3
  have hB7 := hB7.other hg ne10hB7
  have hS := hS.mod hm0 rfl
  have hB10 := hnew
  clear hm0
  refine L.va (x_asI rfl) ?_
  refine L.nil ?_
  show W _ _ _ _ _ _
  refine W.seq ?_
  refine W.region rfl ?_
  refine L.va (x_mvP rfl) ?_
  refine L.va (x_loadAgg (cs := [.int .i64 1, .int .i64 1]) rfl Try.underlying35 rfl sz35 rfl (hB3.aggAt rfl)) ?_
  refine L.call (x_call3 rfl rfl rfl Try.func14 rfl nm14 rfl) (by have h9 := get_c Bs hp 5 1 1 1 hs3 w hS; rw [l6] at h9; exact h9) ?_
  rintro _ w ⟨rfl, hbw⟩
  have hm := hm.step hbw (Nat.le_trans hBs hm.size)
  have hW := hW.keep hbw
  have hB3 := hB3.keep hbw
  have hB7 := hB7.keep hbw
  have hS := hS.keep hbw
  have hB10 := hB10.keep hbw
  refine L.va (x_mvT rfl) ?_
  refine L.va (x_extract rfl rfl) ?_
  refine L.va (x_extract rfl rfl) ?_
  refine L.va (x_asI rfl) ?_
  refine L.va (x_asB rfl) ?_
  refine L.nil ?_
  show W _ _ _ _ _ _
  refine W.seq ?_
  refine W.region rfl ?_
  refine L.va (x_mvP rfl) ?_
  refine L.va (x_loadAgg (cs := [.int .i64 1, .int .i64 2]) rfl Try.underlying35 rfl sz35 rfl (hB10.aggAt rfl)) ?_
  refine L.call (x_call3 rfl rfl rfl Try.func14 rfl nm14 rfl) (by have h9 := get_c Bs hp 5 1 1 2 hs3 w hS; rw [l7] at h9; exact h9) ?_
  rintro _ w ⟨rfl, hbw⟩
  have hm := hm.step hbw (Nat.le_trans hBs hm.size)
  have hW := hW.keep hbw
  have hB3 := hB3.keep hbw
  have hB7 := hB7.keep hbw
  have hS := hS.keep hbw
  have hB10 := hB10.keep hbw
  refine L.va (x_mvT rfl) ?_
  refine L.va (x_extract rfl rfl) ?_
  refine L.va (x_extract rfl rfl) ?_
  refine L.va (x_asI rfl) ?_
  refine L.va (x_asB rfl) ?_
  refine L.nil ?_
  show W _ _ _ _ _ _
  refine W.seq ?_
  refine W.region rfl ?_
  refine L.va (x_mvI rfl) ?_
  refine L.call (x_call1 rfl Try.func10 rfl nm10 rfl) (num_c _ w) ?_
  rintro _ w1 ⟨rfl, hw⟩
  rw [hw]
  clear hw w1
  refine L.va (x_eql rfl rfl) ?_
  refine L.va (x_mvB rfl) ?_
  refine L.on rfl ?_
  refine L.va (x_loadAgg (cs := [.int .i64 1, .int .i64 1]) rfl Try.underlying35 rfl sz35 rfl (hB3.aggAt rfl)) ?_
  refine L.on rfl ?_
  refine L.va (x_build (parts := [(0, .const (.int .i64 1)), (1, .const (.int .i64 1))]) rfl (buD_0 1 1)) ?_
  refine L.on rfl ?_
  refine L.va (eq35 1 1 1 1 (r := true) (by decide) rfl rfl) ?_
  refine L.va (x_pickT rfl) ?_
  refine L.va (x_mvB rfl) ?_
  refine L.on rfl ?_
  refine L.va (x_mvB rfl) ?_
  refine L.va (x_pickT rfl) ?_
  refine L.va (x_mvB rfl) ?_
  refine L.on rfl ?_
  refine L.va (x_mvI rfl) ?_
  refine L.on rfl ?_
  refine L.va (x_eql rfl rfl) ?_
  refine L.va (x_pickT rfl) ?_
  refine L.va (x_mvB rfl) ?_
  refine L.on rfl ?_
  refine L.va (x_mvI rfl) ?_
  refine L.on rfl ?_
  refine L.call (x_call1 rfl Try.func10 rfl nm10 rfl) (num_c _ w) ?_
  rintro _ w1 ⟨rfl, hw⟩
  rw [hw]
  clear hw w1
  refine L.on rfl ?_
  refine L.va (x_eql rfl rfl) ?_
  refine L.va (x_pickT rfl) ?_
  refine L.va (x_mvB rfl) ?_
  refine L.on rfl ?_
  refine L.va (x_mvB rfl) ?_
  refine L.va (x_pickT rfl) ?_
  refine L.va (x_mvB rfl) ?_
  refine L.on rfl ?_
  refine L.va (x_mvI rfl) ?_
  refine L.on rfl ?_
  refine L.call (x_call1 rfl Try.func10 rfl nm10 rfl) (num_c _ w) ?_
  rintro _ w1 ⟨rfl, hw⟩
  rw [hw]
  clear hw w1
  refine L.on rfl ?_
  refine L.va (x_eql rfl rfl) ?_
  refine L.va (x_pickT rfl) ?_
  refine L.va (x_mvB rfl) ?_
  refine L.on rfl ?_
  refine L.va (x_loadAgg (cs := [.int .i64 1, .int .i64 2]) rfl Try.underlying35 rfl sz35 rfl (hB10.aggAt rfl)) ?_
  refine L.on rfl ?_
  refine L.va (x_build (parts := [(0, .const (.int .i64 1)), (1, .const (.int .i64 2))]) rfl (buD_0 1 2)) ?_
  refine L.on rfl ?_
  refine L.va (eq35 1 2 1 2 (r := true) (by decide) rfl rfl) ?_
  refine L.va (x_pickT rfl) ?_
  refine L.va (x_mvB rfl) ?_
  refine L.on rfl ?_
  refine L.va (x_mvB rfl) ?_
  refine L.on rfl ?_
  refine L.va (x_not rfl) ?_
  refine L.va (x_pickT rfl) ?_
  refine L.va (x_mvB rfl) ?_
  refine L.on rfl ?_
  refine L.va (x_mvB rfl) ?_
  refine L.va (x_pickT rfl) ?_
  refine L.va (x_mvB rfl) ?_
  refine L.on rfl ?_
  refine L.va (x_mvI rfl) ?_
  refine L.on rfl ?_
  refine L.va (x_eql rfl rfl) ?_
  refine L.va (x_pickT rfl) ?_
  refine L.va (x_asB rfl) ?_
  refine L.nil ?_
  show W _ _ _ _ _ _
  refine W.ret ?_
  repeat (first | refine T.ret ?_ | refine B.ret ?_)
  refine ends.one (.inr rfl) rfl ?_
  exact ⟨rfl, hm.toBelow hBe⟩

end Go.Proofs.Ytahcjihhkmolpaa
