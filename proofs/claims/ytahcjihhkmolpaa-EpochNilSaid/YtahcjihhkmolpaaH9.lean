/- A keeper's calls without a client: what each returns, and what becomes of the keeper. -/
import Derived.Test.YtahcjihhkmolpaaHK
namespace Go.Proofs.Ytahcjihhkmolpaa
open Go.Vc Go.RowKit
theorem nm88 : (Try.f88.name == "runtime.NumGoroutine") = false := by kernel_rfl


theorem stamp_c (s : Int) (a : Option Addr) (n c : Nat) (tg : Int) (w0 : World) : C Try.prog 88 #[.agg #[.int .i64 s, .slice a n c, .int .i64 tg]] w0 fun v w => v = .int .i64 s ∧ Below w0.heap.size w0 w := by
  refine C.enter (n := 5) Try.func88 rfl rfl ?_
  have hb : Below w0.heap.size w0 w0 := Below.refl _ _
  refine W.seq ?_
  refine W.region rfl ?_
  refine L.box (cs := #[.int .i64 s, .slice a n c, .int .i64 tg]) rfl rfl (fun w b1 F1 => ?_)
  have lt1 : w0.heap.size ≤ b1 := by have h9 := F1.here; have h8 := hb.size; omega
  have hb := cl_step hb F1.below
  have hB1 := F1.blk
  refine L.va (x_asI rfl) ?_
  refine L.nil ?_
  show W _ _ _ _ _ _
  refine W.seq ?_
  refine W.region rfl ?_
  refine L.va (x_field rfl Try.underlying61 rfl sz2 (by decide)) ?_
  refine L.va (x_load rfl Try.underlying2 rfl (hB1.cellAt 0 (v := .int .i64 s) rfl)) ?_
  refine L.va (x_asI rfl) ?_
  refine L.nil ?_
  show W _ _ _ _ _ _
  refine W.ret ?_
  repeat (first | refine T.ret ?_ | refine B.ret ?_)
  refine ends.one (.inr rfl) rfl ?_
  exact ⟨rfl, hb⟩

theorem num14_c (x : Int) (w0 : World) : C Try.prog 28 #[.int .i64 x] w0 fun v w => v = .int .i64 x ∧ w = w0 := by
  refine C.enter (n := 4) Try.func28 rfl rfl ?_
  refine W.seq ?_
  refine W.region rfl ?_
  refine L.va (x_asI rfl) ?_
  refine L.nil ?_
  show W _ _ _ _ _ _
  refine W.seq ?_
  refine W.region rfl ?_
  refine L.va (x_mvI rfl) ?_
  refine L.va (x_asI rfl) ?_
  refine L.nil ?_
  show W _ _ _ _ _ _
  refine W.ret ?_
  repeat (first | refine T.ret ?_ | refine B.ret ?_)
  refine ends.one (.inr rfl) rfl ?_
  exact ⟨rfl, rfl⟩

theorem has_nil (i : Int) (w0 : World) : C Try.prog 41 #[.pointer none, .int .i64 i] w0 fun v w => v = .bool false ∧ w = w0 := by
  refine C.enter (n := 20) Try.func41 rfl rfl ?_
  refine W.seq ?_
  refine W.region rfl ?_
  refine L.va (x_asB rfl) ?_
  refine L.nil ?_
  show W _ _ _ _ _ _
  refine W.seq ?_
  refine W.region rfl ?_
  refine L.va (x_mvP rfl) ?_
  refine L.va (x_neqPtrNil rfl rfl Try.underlying57) ?_
  refine L.va (x_mvB rfl) ?_
  refine L.off rfl ?_
  refine L.off rfl ?_
  refine L.va (x_pickF rfl) ?_
  refine L.va (x_mvB rfl) ?_
  refine L.off rfl ?_
  refine L.off rfl ?_
  refine L.off rfl ?_
  refine L.off rfl ?_
  refine L.off rfl ?_
  refine L.off rfl ?_
  refine L.off rfl ?_
  refine L.va (x_pickF rfl) ?_
  refine L.va (x_asB rfl) ?_
  refine L.nil ?_
  show W _ _ _ _ _ _
  refine W.ret ?_
  repeat (first | refine T.ret ?_ | refine B.ret ?_)
  refine ends.one (.inr rfl) rfl ?_
  exact ⟨rfl, rfl⟩

theorem has_c (kb hp rob lb : Nat) (psa : Option Addr) (np psc : Nat) (i : Int) (w0 : World) (hK : Blk w0 kb #[.pointer (some ⟨hp, 0, none⟩), .pointer (some ⟨rob, 0, none⟩), .slice psa np psc, .pointer (some ⟨lb, 0, none⟩)] 101) :
    C Try.prog 41 #[.pointer (some ⟨kb, 0, none⟩), .int .i64 i] w0 fun v w => v = .bool (decide (0 ≤ i ∧ i < (np : Int))) ∧ w = w0 := by
  refine C.enter (n := 20) Try.func41 rfl rfl ?_
  refine W.seq ?_
  refine W.region rfl ?_
  refine L.va (x_asB rfl) ?_
  refine L.nil ?_
  show W _ _ _ _ _ _
  refine W.seq ?_
  refine W.region rfl ?_
  refine L.va (x_mvP rfl) ?_
  refine L.va (x_neqPtrNil rfl rfl Try.underlying57) ?_
  refine L.va (x_mvB rfl) ?_
  refine L.on rfl ?_
  refine L.va (x_mvI rfl) ?_
  refine L.on rfl ?_
  refine L.va (x_geq rfl rfl) ?_
  refine L.va (x_pickT rfl) ?_
  refine L.va (x_mvB rfl) ?_
  refine L.meetB 8 [11,12,13,14,15,16,17,18,19] 19 (.bool (decide (0 ≤ i ∧ i < (np : Int)))) (tj := 11) rfl (fun hb11 => ?_) (fun hb11 => ?_) (fun f => ?_)
  · refine L.on rfl ?_
    refine L.va (x_mvI rfl) ?_
    refine L.on rfl ?_
    refine L.va (x_mvP rfl) ?_
    refine L.on rfl ?_
    refine L.va (x_nilCheck rfl) ?_
    refine L.on rfl ?_
    refine L.va (x_field rfl Try.underlying101 rfl sz99 (by decide)) ?_
    refine L.on rfl ?_
    refine L.va (x_load rfl Try.underlying99 rfl (hK.cellAt 2 (v := .slice psa np psc) rfl)) ?_
    refine L.on rfl ?_
    refine L.va (x_len rfl Try.underlying99 rfl) ?_
    refine L.on rfl ?_
    refine L.va (x_lss rfl rfl) ?_
    refine L.va (x_pickT rfl) ?_
    refine L.nil ?_
    refine ⟨rfl, congrArg Value.bool (by first | exact and_t hb11 | rfl | (simp_all; done) | (rw [Bool.eq_iff_iff]; simp_all; omega)), ?_⟩
    exact Agree.upd rfl (Agree.upd rfl (Agree.upd rfl (Agree.upd rfl (Agree.upd rfl (Agree.upd rfl (Agree.upd rfl (Agree.upd rfl (Agree.upd rfl (Agree.refl _ _)))))))))
  · refine L.off rfl ?_
    refine L.off rfl ?_
    refine L.off rfl ?_
    refine L.off rfl ?_
    refine L.off rfl ?_
    refine L.off rfl ?_
    refine L.off rfl ?_
    refine L.va (x_pickF rfl) ?_
    refine L.nil ?_
    refine ⟨rfl, congrArg Value.bool (by first | exact and_f hb11 | rfl | (simp_all; done) | (rw [Bool.eq_iff_iff]; simp_all; omega)), ?_⟩
    exact Agree.upd rfl (Agree.upd rfl (Agree.upd rfl (Agree.upd rfl (Agree.upd rfl (Agree.upd rfl (Agree.upd rfl (Agree.upd rfl (Agree.upd rfl (Agree.refl _ _)))))))))
  refine L.va (x_asB rfl) ?_
  refine L.nil ?_
  show W _ _ _ _ _ _
  refine W.ret ?_
  repeat (first | refine T.ret ?_ | refine B.ret ?_)
  refine ends.one (.inr rfl) rfl ?_
  exact ⟨rfl, rfl⟩

theorem unpin_nil (i : Int) (w0 : World) : C Try.prog 20 #[.pointer none, .pointer none, .int .i64 i] w0 fun _ w => Below w0.heap.size w0 w := by
  refine C.enter (n := 18) Try.func20 rfl rfl ?_
  have hb : Below w0.heap.size w0 w0 := Below.refl _ _
  refine W.seq ?_
  refine W.region rfl ?_
  refine L.va (x_mvP rfl) ?_
  refine L.va (x_mvI rfl) ?_
  refine L.call (x_call2 rfl rfl Try.func41 rfl nm41 rfl) (has_nil i w0) ?_
  rintro _ w1 ⟨rfl, hw⟩
  rw [hw]
  clear hw w1
  refine L.nil ?_
  show W _ _ _ _ _ _
  refine W.condF rfl ?_
  refine W.skip ?_
  repeat (first | refine T.nrm ?_ | refine B.nrm ?_)
  refine ends.none (.inl rfl) rfl ?_
  exact hb

theorem root_nil (w0 : World) : C Try.prog 21 #[.pointer none, .pointer none] w0 fun v w => v = .agg #[.int .i64 0, .slice none 0 0, .int .i64 0] ∧ Below w0.heap.size w0 w := by
  refine C.enter (n := 15) Try.func21 rfl rfl ?_
  have hb : Below w0.heap.size w0 w0 := Below.refl _ _
  refine W.seq ?_
  refine W.region rfl ?_
  refine L.alloc (cs := #[.int .i64 0, .slice none 0 0, .int .i64 0]) zr61 rfl (fun w b4 F4 => ?_)
  have lt4 : w0.heap.size ≤ b4 := by have h9 := F4.here; have h8 := hb.size; omega
  have hb := cl_step hb F4.below
  have hB4 := F4.blk
  refine L.nil ?_
  show W _ _ _ _ _ _
  refine W.seq ?_
  refine W.seq ?_
  refine W.region rfl ?_
  refine L.va (x_mvP rfl) ?_
  refine L.va (x_eqPtrNil rfl rfl Try.underlying57) ?_
  refine L.nil ?_
  show W _ _ _ _ _ _
  refine W.condT rfl ?_
  refine W.seq ?_
  refine W.region rfl ?_
  refine L.alloc (cs := #[.int .i64 0, .slice none 0 0, .int .i64 0]) zr61 rfl (fun w b5 F5 => ?_)
  have lt5 : w0.heap.size ≤ b5 := by have h9 := F5.here; have h8 := hb.size; omega
  have ne5hB4 := F5.ne hB4
  have hb := cl_step hb F5.below
  have hB4 := hB4.keep F5.below
  have hB5 := F5.blk
  refine L.nil ?_
  show W _ _ _ _ _ _
  refine W.seq ?_
  refine W.region rfl ?_
  refine L.va (x_loadAgg (cs := [.int .i64 0, .slice none 0 0, .int .i64 0]) rfl Try.underlying61 rfl sz61 rfl (hB5.aggAt rfl)) ?_
  refine L.put (b := b4) (o := 0) (vs := [.int .i64 0, .slice none 0 0, .int .i64 0]) #[.int .i64 0, .slice none 0 0, .int .i64 0] rfl rfl rfl sz61 rfl rfl hB4 (Nat.le_of_ble_eq_true rfl) rfl (fun w hnew hg hsz => ?_)
  have hm0 := ModT.put0 hB4 hg
  have hb := below_gr hb hb.size hg lt4
  have hB5 := hB5.other hg (Ne.symm ne5hB4)
  have hB4 := hnew
  clear hm0
  refine L.nil ?_
  show W _ _ _ _ _ _
  refine W.ret ?_
  repeat (first | refine T.ret ?_ | refine B.ret ?_)
  refine ends.cell (cs := #[.int .i64 0, .slice none 0 0, .int .i64 0]) (.inr rfl) rfl rfl Try.underlying61 rfl sz61 hB4 ?_
  exact ⟨rfl, hb⟩

theorem pin_nil (i : Int) (w0 : World) : C Try.prog 22 #[.pointer none, .pointer none, .int .i64 i] w0 fun v w => v = .agg #[.int .i64 0, .slice none 0 0, .int .i64 0] ∧ Below w0.heap.size w0 w := by
  refine C.enter (n := 38) Try.func22 rfl rfl ?_
  have hb : Below w0.heap.size w0 w0 := Below.refl _ _
  refine W.seq ?_
  refine W.region rfl ?_
  refine L.alloc (cs := #[.int .i64 0, .slice none 0 0, .int .i64 0]) zr61 rfl (fun w b6 F6 => ?_)
  have lt6 : w0.heap.size ≤ b6 := by have h9 := F6.here; have h8 := hb.size; omega
  have hb := cl_step hb F6.below
  have hB6 := F6.blk
  refine L.nil ?_
  show W _ _ _ _ _ _
  refine W.seq ?_
  refine W.seq ?_
  refine W.region rfl ?_
  refine L.va (x_mvP rfl) ?_
  refine L.va (x_mvI rfl) ?_
  refine L.call (x_call2 rfl rfl Try.func41 rfl nm41 rfl) (has_nil i w) ?_
  rintro _ w1 ⟨rfl, hw⟩
  rw [hw]
  clear hw w1
  refine L.va (x_not rfl) ?_
  refine L.nil ?_
  show W _ _ _ _ _ _
  refine W.condT rfl ?_
  refine W.seq ?_
  refine W.region rfl ?_
  refine L.va (x_mvP rfl) ?_
  refine L.va (x_mvP rfl) ?_
  refine L.call (x_call2 rfl rfl Try.func21 rfl nm21 rfl) (root_nil w) ?_
  rintro _ w ⟨rfl, hbw⟩
  have hb := cl_step hb hbw
  have hB6 := hB6.keep hbw
  refine L.put (b := b6) (o := 0) (vs := [.int .i64 0, .slice none 0 0, .int .i64 0]) #[.int .i64 0, .slice none 0 0, .int .i64 0] rfl rfl rfl sz61 rfl rfl hB6 (Nat.le_of_ble_eq_true rfl) rfl (fun w hnew hg hsz => ?_)
  have hm0 := ModT.put0 hB6 hg
  have hb := below_gr hb hb.size hg lt6
  have hB6 := hnew
  clear hm0
  refine L.nil ?_
  show W _ _ _ _ _ _
  refine W.ret ?_
  repeat (first | refine T.ret ?_ | refine B.ret ?_)
  refine ends.cell (cs := #[.int .i64 0, .slice none 0 0, .int .i64 0]) (.inr rfl) rfl rfl Try.underlying61 rfl sz61 hB6 ?_
  exact ⟨rfl, hb⟩

theorem publish_nil (s : Int) (a : Option Addr) (n c : Nat) (tg : Int) (fa : Option Addr) (fn fc : Nat) (w0 : World) : C Try.prog 23 #[.pointer none, .pointer none, .agg #[.int .i64 s, .slice a n c, .int .i64 tg], .slice fa fn fc] w0 fun v w => v = .int .i64 0 ∧ Below w0.heap.size w0 w := by
  refine C.enter (n := 69) Try.func23 rfl rfl ?_
  have hb : Below w0.heap.size w0 w0 := Below.refl _ _
  refine W.seq ?_
  refine W.region rfl ?_
  refine L.box (cs := #[.int .i64 s, .slice a n c, .int .i64 tg]) rfl rfl (fun w b6 F6 => ?_)
  have lt6 : w0.heap.size ≤ b6 := by have h9 := F6.here; have h8 := hb.size; omega
  have hb := cl_step hb F6.below
  have hB6 := F6.blk
  refine L.va (x_asI rfl) ?_
  refine L.nil ?_
  show W _ _ _ _ _ _
  refine W.seq ?_
  refine W.seq ?_
  refine W.region rfl ?_
  refine L.va (x_mvP rfl) ?_
  refine L.va (x_eqPtrNil rfl rfl Try.underlying57) ?_
  refine L.nil ?_
  show W _ _ _ _ _ _
  refine W.condT rfl ?_
  refine W.seq ?_
  refine W.region rfl ?_
  refine L.va (x_asI rfl) ?_
  refine L.nil ?_
  show W _ _ _ _ _ _
  refine W.ret ?_
  repeat (first | refine T.ret ?_ | refine B.ret ?_)
  refine ends.one (.inr rfl) rfl ?_
  exact ⟨rfl, hb⟩

theorem pass_nil (w0 : World) : C Try.prog 24 #[.pointer none, .pointer none] w0 fun v w => v = .int .i64 0 ∧ Below w0.heap.size w0 w := by
  refine C.enter (n := 16) Try.func24 rfl rfl ?_
  have hb : Below w0.heap.size w0 w0 := Below.refl _ _
  refine W.seq ?_
  refine W.region rfl ?_
  refine L.va (x_asI rfl) ?_
  refine L.nil ?_
  show W _ _ _ _ _ _
  refine W.seq ?_
  refine W.seq ?_
  refine W.region rfl ?_
  refine L.va (x_mvP rfl) ?_
  refine L.va (x_eqPtrNil rfl rfl Try.underlying57) ?_
  refine L.nil ?_
  show W _ _ _ _ _ _
  refine W.condT rfl ?_
  refine W.seq ?_
  refine W.region rfl ?_
  refine L.va (x_asI rfl) ?_
  refine L.nil ?_
  show W _ _ _ _ _ _
  refine W.ret ?_
  repeat (first | refine T.ret ?_ | refine B.ret ?_)
  refine ends.one (.inr rfl) rfl ?_
  exact ⟨rfl, hb⟩

theorem pins_nil (w0 : World) : C Try.prog 25 #[.pointer none] w0 fun v w => v = .slice none 0 0 ∧ Below w0.heap.size w0 w := by
  refine C.enter (n := 24) Try.func25 rfl rfl ?_
  have hb : Below w0.heap.size w0 w0 := Below.refl _ _
  refine W.seq ?_
  refine W.region rfl ?_
  refine L.va (x_asS rfl) ?_
  refine L.nil ?_
  show W _ _ _ _ _ _
  refine W.seq ?_
  refine W.seq ?_
  refine W.region rfl ?_
  refine L.va (x_mvP rfl) ?_
  refine L.va (x_eqPtrNil rfl rfl Try.underlying57) ?_
  refine L.nil ?_
  show W _ _ _ _ _ _
  refine W.condT rfl ?_
  refine W.seq ?_
  refine W.region rfl ?_
  refine L.va (x_asS rfl) ?_
  refine L.nil ?_
  show W _ _ _ _ _ _
  refine W.ret ?_
  repeat (first | refine T.ret ?_ | refine B.ret ?_)
  refine ends.one (.inr rfl) rfl ?_
  exact ⟨rfl, hb⟩

theorem retired_nil (w0 : World) : C Try.prog 26 #[.pointer none] w0 fun v w => v = .int .i64 0 ∧ Below w0.heap.size w0 w := by
  refine C.enter (n := 11) Try.func26 rfl rfl ?_
  have hb : Below w0.heap.size w0 w0 := Below.refl _ _
  refine W.seq ?_
  refine W.region rfl ?_
  refine L.va (x_asI rfl) ?_
  refine L.nil ?_
  show W _ _ _ _ _ _
  refine W.seq ?_
  refine W.seq ?_
  refine W.region rfl ?_
  refine L.va (x_mvP rfl) ?_
  refine L.va (x_eqPtrNil rfl rfl Try.underlying57) ?_
  refine L.nil ?_
  show W _ _ _ _ _ _
  refine W.condT rfl ?_
  refine W.seq ?_
  refine W.region rfl ?_
  refine L.va (x_asI rfl) ?_
  refine L.nil ?_
  show W _ _ _ _ _ _
  refine W.ret ?_
  repeat (first | refine T.ret ?_ | refine B.ret ?_)
  refine ends.one (.inr rfl) rfl ?_
  exact ⟨rfl, hb⟩

theorem root_c (Bs kb hp : Nat) (obj : Int) (np : Nat) (pin : Nat → Int) (r : Rt) (la : Option Addr) (ln lc : Nat) (w0 : World) (hS : KT w0 Bs kb hp obj np pin r la ln lc) : C Try.prog 21 #[.pointer (some ⟨kb, 0, none⟩), .pointer none] w0 fun v w => v = .agg #[.int .i64 r.s, .slice r.a r.n r.c, .int .i64 r.tg] ∧ Below w0.heap.size w0 w := by
  refine C.enter (n := 15) Try.func21 rfl rfl ?_
  have hb : Below w0.heap.size w0 w0 := Below.refl _ _
  obtain ⟨rob, wb, lb, psa, psc, PX, av, hK, hW, hR, hL, hP, hX, lK, lR, lL, hnp⟩ := hS
  refine W.seq ?_
  refine W.region rfl ?_
  refine L.alloc (cs := #[.int .i64 0, .slice none 0 0, .int .i64 0]) zr61 rfl (fun w b4 F4 => ?_)
  have lt4 : w0.heap.size ≤ b4 := by have h9 := F4.here; have h8 := hb.size; omega
  have hb := cl_step hb F4.below
  have hK := hK.keep F4.below
  have hW := hW.keep F4.below
  have hR := hR.keep F4.below
  have hL := hL.keep F4.below
  have hP := hP.keep F4.below
  have hX := hX.keep F4.below
  have hB4 := F4.blk
  refine L.nil ?_
  show W _ _ _ _ _ _
  refine W.seq ?_
  refine W.seq ?_
  refine W.region rfl ?_
  refine L.va (x_mvP rfl) ?_
  refine L.va (x_eqPtrNil rfl rfl Try.underlying57) ?_
  refine L.nil ?_
  show W _ _ _ _ _ _
  refine W.condF rfl ?_
  refine W.skip ?_
  show W _ _ _ _ _ _
  refine W.seq ?_
  refine W.region rfl ?_
  refine L.va (x_mvP rfl) ?_
  refine L.va (x_nilCheck rfl) ?_
  refine L.va (x_field rfl Try.underlying101 rfl sz94 (by decide)) ?_
  refine L.va (x_load rfl Try.underlying94 rfl (hK.cellAt 1 (v := .pointer (some ⟨rob, 0, none⟩)) rfl)) ?_
  refine L.va (x_mvP rfl) ?_
  refine L.call (x_call2 rfl rfl Try.func43 rfl nm43 rfl) (arget rob wb obj 0 av r.s r.a r.n r.c r.tg w hR hW) ?_
  rintro _ w ⟨rfl, hbw⟩
  have hb := cl_step hb hbw
  have hK := hK.keep hbw
  have hW := hW.keep hbw
  have hR := hR.keep hbw
  have hL := hL.keep hbw
  have hP := hP.keep hbw
  have hX := hX.keep hbw
  have hB4 := hB4.keep hbw
  refine L.put (b := b4) (o := 0) (vs := [.int .i64 (r.s), .slice (r.a) (r.n) (r.c), .int .i64 (r.tg)]) #[.int .i64 (r.s), .slice (r.a) (r.n) (r.c), .int .i64 (r.tg)] rfl rfl rfl sz61 rfl rfl hB4 (Nat.le_of_ble_eq_true rfl) rfl (fun w hnew hg hsz => ?_)
  have hm0 := ModT.put0 hB4 hg
  have hb := below_gr hb hb.size hg lt4
  have hK := hK.mod hm0 rfl
  have hW := hW.mod hm0 rfl
  have hR := hR.mod hm0 rfl
  have hL := hL.mod hm0 rfl
  have hP := hP.mod hm0 rfl
  have hX := hX.mod hm0 rfl
  have hB4 := hnew
  clear hm0
  refine L.nil ?_
  show W _ _ _ _ _ _
  refine W.ret ?_
  repeat (first | refine T.ret ?_ | refine B.ret ?_)
  refine ends.cell (cs := #[.int .i64 (r.s), .slice (r.a) (r.n) (r.c), .int .i64 (r.tg)]) (.inr rfl) rfl rfl Try.underlying61 rfl sz61 hB4 ?_
  exact ⟨rfl, hb⟩

theorem retired_c (Bs kb hp : Nat) (obj : Int) (np : Nat) (pin : Nat → Int) (r : Rt) (la : Option Addr) (ln lc : Nat) (w0 : World) (hS : KT w0 Bs kb hp obj np pin r la ln lc) : C Try.prog 26 #[.pointer (some ⟨kb, 0, none⟩)] w0 fun v w => v = .int .i64 (ln : Int) ∧ Below w0.heap.size w0 w := by
  refine C.enter (n := 11) Try.func26 rfl rfl ?_
  have hb : Below w0.heap.size w0 w0 := Below.refl _ _
  obtain ⟨rob, wb, lb, psa, psc, PX, av, hK, hW, hR, hL, hP, hX, lK, lR, lL, hnp⟩ := hS
  refine W.seq ?_
  refine W.region rfl ?_
  refine L.va (x_asI rfl) ?_
  refine L.nil ?_
  show W _ _ _ _ _ _
  refine W.seq ?_
  refine W.seq ?_
  refine W.region rfl ?_
  refine L.va (x_mvP rfl) ?_
  refine L.va (x_eqPtrNil rfl rfl Try.underlying57) ?_
  refine L.nil ?_
  show W _ _ _ _ _ _
  refine W.condF rfl ?_
  refine W.skip ?_
  show W _ _ _ _ _ _
  refine W.seq ?_
  refine W.region rfl ?_
  refine L.va (x_mvP rfl) ?_
  refine L.va (x_nilCheck rfl) ?_
  refine L.va (x_field rfl Try.underlying101 rfl sz96 (by decide)) ?_
  refine L.va (x_load rfl Try.underlying96 rfl (hK.cellAt 3 (v := .pointer (some ⟨lb, 0, none⟩)) rfl)) ?_
  refine L.call (x_call2 rfl rfl Try.func45 rfl nm45 rfl) (rlget lb wb obj _ la ln lc w0 hL hW) ?_
  rintro _ w ⟨rfl, hbw⟩
  have hb := cl_step hb hbw
  have hK := hK.keep hbw
  have hW := hW.keep hbw
  have hR := hR.keep hbw
  have hL := hL.keep hbw
  have hP := hP.keep hbw
  have hX := hX.keep hbw
  refine L.va (x_len rfl Try.underlying98 rfl) ?_
  refine L.va (x_asI rfl) ?_
  refine L.nil ?_
  show W _ _ _ _ _ _
  refine W.ret ?_
  repeat (first | refine T.ret ?_ | refine B.ret ?_)
  refine ends.one (.inr rfl) rfl ?_
  exact ⟨rfl, hb⟩

theorem unpin_c (Bs kb hp : Nat) (obj : Int) (np : Nat) (pin : Nat → Int) (r : Rt) (la : Option Addr) (ln lc : Nat) (w0 : World) (hS : KT w0 Bs kb hp obj np pin r la ln lc) (i : Nat) (hi : i < np) (hBs : Bs ≤ w0.heap.size) : C Try.prog 20 #[.pointer (some ⟨kb, 0, none⟩), .pointer none, .int .i64 (i : Int)] w0 fun _ w => KT w Bs kb hp obj np (upf pin i 0) r la ln lc ∧ ModT w0 w Bs [148] := by
  refine C.enter (n := 18) Try.func20 rfl rfl ?_
  have hm : ModT w0 w0 Bs [148] := ModT.refl _ _ _
  obtain ⟨rob, wb, lb, psa, psc, PX, av, hK, hW, hR, hL, hP, hX, lK, lR, lL, hnp⟩ := hS
  obtain ⟨pav, hXi⟩ := hX.blk i hi
  refine W.seq ?_
  refine W.region rfl ?_
  refine L.va (x_mvP rfl) ?_
  refine L.va (x_mvI rfl) ?_
  refine L.call (x_call2 rfl rfl Try.func41 rfl nm41 rfl) (has_c kb hp rob lb psa np psc i w0 hK) ?_
  rintro _ w1 ⟨rfl, hw⟩
  rw [hw]
  clear hw w1
  refine L.nil ?_
  show W _ _ _ _ _ _
  refine W.condT (rb (decide_eq_true (by omega))) ?_
  refine W.region rfl ?_
  refine L.va (x_mvP rfl) ?_
  refine L.va (x_nilCheck rfl) ?_
  refine L.va (x_field rfl Try.underlying101 rfl sz99 (by decide)) ?_
  refine L.va (x_load rfl Try.underlying99 rfl (hK.cellAt 2 (v := .slice psa np psc) rfl)) ?_
  refine L.va (x_mvI rfl) ?_
  refine L.va (x_idx (i := i) rfl rfl Try.underlying99 sz102 hP.sl hi) ?_
  refine L.va (x_load (v := .pointer (some ⟨PX i, 0, none⟩)) rfl Try.underlying102 rfl (by rw [hP.off, Nat.zero_add, Nat.mul_one]; exact hP.cell (ptrs_get hi))) ?_
  refine L.va (x_mvP rfl) ?_
  refine L.call (x_call3 rfl rfl rfl Try.func42 rfl nm42 rfl) (aiset (PX i) wb obj _ pav 0 (pin i) w0 hXi hW) ?_
  rintro _ w ⟨hnew, hg⟩
  have hm0 := ModT.put0 hXi hg
  have hm := hm.trans (ModT.put hXi hg (hX.le i hi) rfl)
  have hK := hK.mod hm0 rfl
  have hW := hW.mod hm0 rfl
  have hR := hR.mod hm0 rfl
  have hL := hL.mod hm0 rfl
  have hP := hP.mod hm0 rfl
  -- LOST hX
  have hXi := hnew
  clear hm0
  have hX := hX.put hi hg hXi
  refine L.nil ?_
  repeat (first | refine T.nrm ?_ | refine B.nrm ?_)
  refine ends.none (.inl rfl) rfl ?_
  exact ⟨⟨rob, wb, lb, psa, psc, PX, av, hK, hW, hR, hL, hP, hX, lK, lR, lL, hnp⟩, hm⟩

theorem pin_c (Bs kb hp : Nat) (obj : Int) (np : Nat) (pin : Nat → Int) (r : Rt) (la : Option Addr) (ln lc : Nat) (w0 : World) (hS : KT w0 Bs kb hp obj np pin r la ln lc) (i : Nat) (hi : i < np) (hBs : Bs ≤ w0.heap.size) (hs : -1000000000000 ≤ r.s ∧ r.s ≤ 1000000000000000) : C Try.prog 22 #[.pointer (some ⟨kb, 0, none⟩), .pointer none, .int .i64 (i : Int)] w0 fun v w => v = .agg #[.int .i64 r.s, .slice r.a r.n r.c, .int .i64 r.tg] ∧ KT w Bs kb hp obj np (upf pin i (r.s + 1)) r la ln lc ∧ ModT w0 w Bs [148] := by
  refine C.enter (n := 38) Try.func22 rfl rfl ?_
  have hm : ModT w0 w0 Bs [148] := ModT.refl _ _ _
  obtain ⟨rob, wb, lb, psa, psc, PX, av, hK, hW, hR, hL, hP, hX, lK, lR, lL, hnp⟩ := hS
  obtain ⟨pav, hXi⟩ := hX.blk i hi
  refine W.seq ?_
  refine W.region rfl ?_
  refine L.alloc (cs := #[.int .i64 0, .slice none 0 0, .int .i64 0]) zr61 rfl (fun w b6 F6 => ?_)
  have lt6 : w0.heap.size ≤ b6 := by have h9 := F6.here; have h8 := hm.size; omega
  have hm := hm.step F6.below (Nat.le_trans hBs hm.size)
  have hK := hK.keep F6.below
  have hW := hW.keep F6.below
  have hR := hR.keep F6.below
  have hL := hL.keep F6.below
  have hXi := hXi.keep F6.below
  have hP := hP.keep F6.below
  have hX := hX.keep F6.below
  have hB6 := F6.blk
  refine L.nil ?_
  show W _ _ _ _ _ _
  refine W.seq ?_
  refine W.seq ?_
  refine W.region rfl ?_
  refine L.va (x_mvP rfl) ?_
  refine L.va (x_mvI rfl) ?_
  refine L.call (x_call2 rfl rfl Try.func41 rfl nm41 rfl) (has_c kb hp rob lb psa np psc i w hK) ?_
  rintro _ w1 ⟨rfl, hw⟩
  rw [hw]
  clear hw w1
  refine L.va (x_not rfl) ?_
  refine L.nil ?_
  show W _ _ _ _ _ _
  refine W.condF (rb (by rw [decide_eq_true (by omega)]; rfl)) ?_
  refine W.skip ?_
  show W _ _ _ _ _ _
  refine W.seq ?_
  refine W.lastL 17 (fun w' => Below w.heap.size w w') (by kernel_rfl) (by kernel_rfl) (by kernel_rfl) (by kernel_rfl) ((Below.refl w.heap.size w).drew) ?_
  refine D.va (fun w' hw' => (x_mvP rfl)) ?_
  refine D.va (fun w' hw' => (x_nilCheck rfl)) ?_
  refine D.va (fun w' hw' => (x_field rfl Try.underlying101 rfl sz99 (by decide))) ?_
  refine D.va (fun w' hw' => (x_load rfl Try.underlying99 rfl ((hK.keep hw').cellAt 2 (v := .slice psa np psc) rfl))) ?_
  refine D.va (fun w' hw' => (x_mvI rfl)) ?_
  refine D.va (fun w' hw' => x_idx (i := i) rfl rfl Try.underlying99 sz102 hP.sl hi) ?_
  refine D.va (fun w' hw' => (x_load (v := .pointer (some ⟨PX i, 0, none⟩)) rfl Try.underlying102 rfl (by rw [hP.off, Nat.zero_add, Nat.mul_one]; exact (hP.keep hw').cell (ptrs_get hi)))) ?_
  refine D.va (fun w' hw' => (x_mvP rfl)) ?_
  refine D.va (fun w' hw' => (x_mvP rfl)) ?_
  refine D.va (fun w' hw' => (x_nilCheck rfl)) ?_
  refine D.va (fun w' hw' => (x_field rfl Try.underlying101 rfl sz94 (by decide))) ?_
  refine D.va (fun w' hw' => (x_load rfl Try.underlying94 rfl ((hK.keep hw').cellAt 1 (v := .pointer (some ⟨rob, 0, none⟩)) rfl))) ?_
  refine D.va (fun w' hw' => (x_mvP rfl)) ?_
  refine D.call (fun w' hw' => (x_call2 rfl rfl Try.func43 rfl nm43 rfl)) (fun w' hw' => (arget rob wb obj 0 av r.s r.a r.n r.c r.tg w' (hR.keep hw') (hW.keep hw')).mono fun r w h => ⟨h.1, cl_step hw' h.2⟩) ?_
  refine D.va (fun w' hw' => (x_makeIface (v := .agg #[.int .i64 (r.s), .slice (r.a) (r.n) (r.c), .int .i64 (r.tg)]) rfl Try.underlying61 rfl)) ?_
  refine D.call (fun w' hw' => (x_invoke0 rfl mt61 Try.func88 rfl nm88)) (fun w' hw' => (stamp_c r.s r.a r.n r.c r.tg w').mono fun r w h => ⟨h.1, cl_step hw' h.2⟩) ?_
  refine D.va (fun w' hw' => (x_addI rfl rfl (by omega))) ?_
  refine D.nil (fun w hbw => ?_)
  have hm := hm.step hbw (Nat.le_trans hBs hm.size)
  have hK := hK.keep hbw
  have hW := hW.keep hbw
  have hR := hR.keep hbw
  have hL := hL.keep hbw
  have hXi := hXi.keep hbw
  have hP := hP.keep hbw
  have hX := hX.keep hbw
  have hB6 := hB6.keep hbw
  clear hbw
  refine L.call (x_call3 rfl rfl rfl Try.func42 rfl nm42 rfl) (aiset (PX i) wb obj _ pav (r.s + 1) (pin i) w hXi hW) ?_
  rintro _ w ⟨hnew, hg⟩
  have hm0 := ModT.put0 hXi hg
  have hm := hm.trans (ModT.put hXi hg (hX.le i hi) rfl)
  have hK := hK.mod hm0 rfl
  have hW := hW.mod hm0 rfl
  have hR := hR.mod hm0 rfl
  have hL := hL.mod hm0 rfl
  have hP := hP.mod hm0 rfl
  -- LOST hX
  have hB6 := hB6.mod hm0 rfl
  have hXi := hnew
  clear hm0
  have hX := hX.put hi hg hXi
  refine L.nil ?_
  show W _ _ _ _ _ _
  refine W.seq ?_
  refine W.region rfl ?_
  refine L.va (x_mvP rfl) ?_
  refine L.va (x_nilCheck rfl) ?_
  refine L.va (x_field rfl Try.underlying101 rfl sz94 (by decide)) ?_
  refine L.va (x_load rfl Try.underlying94 rfl (hK.cellAt 1 (v := .pointer (some ⟨rob, 0, none⟩)) rfl)) ?_
  refine L.va (x_mvP rfl) ?_
  refine L.call (x_call2 rfl rfl Try.func43 rfl nm43 rfl) (arget rob wb obj 0 av r.s r.a r.n r.c r.tg w hR hW) ?_
  rintro _ w ⟨rfl, hbw⟩
  have hm := hm.step hbw (Nat.le_trans hBs hm.size)
  have hK := hK.keep hbw
  have hW := hW.keep hbw
  have hR := hR.keep hbw
  have hL := hL.keep hbw
  have hXi := hXi.keep hbw
  have hP := hP.keep hbw
  have hB6 := hB6.keep hbw
  have hX := hX.keep hbw
  refine L.put (b := b6) (o := 0) (vs := [.int .i64 (r.s), .slice (r.a) (r.n) (r.c), .int .i64 (r.tg)]) #[.int .i64 (r.s), .slice (r.a) (r.n) (r.c), .int .i64 (r.tg)] rfl rfl rfl sz61 rfl rfl hB6 (Nat.le_of_ble_eq_true rfl) rfl (fun w hnew hg hsz => ?_)
  have hm0 := ModT.put0 hB6 hg
  have hm := hm.own hg lt6 hBs
  have hK := hK.mod hm0 rfl
  have hW := hW.mod hm0 rfl
  have hR := hR.mod hm0 rfl
  have hL := hL.mod hm0 rfl
  have hXi := hXi.mod hm0 rfl
  have hP := hP.mod hm0 rfl
  have hX := hX.mod hm0 rfl
  have hB6 := hnew
  clear hm0
  refine L.nil ?_
  show W _ _ _ _ _ _
  refine W.ret ?_
  repeat (first | refine T.ret ?_ | refine B.ret ?_)
  refine ends.cell (cs := #[.int .i64 (r.s), .slice (r.a) (r.n) (r.c), .int .i64 (r.tg)]) (.inr rfl) rfl rfl Try.underlying61 rfl sz61 hB6 ?_
  exact ⟨rfl, ⟨rob, wb, lb, psa, psc, PX, av, hK, hW, hR, hL, hP, hX, lK, lR, lL, hnp⟩, hm⟩

theorem enew_nil (wb : Nat) (obj sl : Int) (s : Int) (a : Option Addr) (n c : Nat) (tg : Int) (w0 : World) : C Try.prog 19 #[.pointer (some ⟨wb, 0, none⟩), .int .i64 obj, .pointer none, .int .i64 sl, .agg #[.int .i64 s, .slice a n c, .int .i64 tg]] w0 fun v w => v = .tuple #[.pointer none, .int .i64 2] ∧ Below w0.heap.size w0 w := by
  refine C.enter (n := 56) Try.func19 rfl rfl ?_
  have hb : Below w0.heap.size w0 w0 := Below.refl _ _
  refine W.seq ?_
  refine W.region rfl ?_
  refine L.box (cs := #[.int .i64 s, .slice a n c, .int .i64 tg]) rfl rfl (fun w b9 F9 => ?_)
  have lt9 : w0.heap.size ≤ b9 := by have h9 := F9.here; have h8 := hb.size; omega
  have hb := cl_step hb F9.below
  have hB9 := F9.blk
  refine L.va (x_asP rfl) ?_
  refine L.va (x_asI rfl) ?_
  refine L.nil ?_
  show W _ _ _ _ _ _
  refine W.seq ?_
  refine W.seq ?_
  refine W.region rfl ?_
  refine L.va (x_mvI rfl) ?_
  refine L.va (x_lss rfl rfl) ?_
  refine L.va (x_mvB rfl) ?_
  refine L.meetB 3 [16,17,18,19] 19 (.bool (decide (sl < 1 ∨ 256 < sl))) (tj := 16) rfl (fun hb16 => ?_) (fun hb16 => ?_) (fun f => ?_)
  · refine L.off rfl ?_
    refine L.off rfl ?_
    refine L.va (x_pickT rfl) ?_
    refine L.nil ?_
    refine ⟨rfl, congrArg Value.bool (by first | exact or_t hb16 | rfl | (simp_all; done) | (rw [Bool.eq_iff_iff]; simp_all; omega)), ?_⟩
    exact Agree.upd rfl (Agree.upd rfl (Agree.upd rfl (Agree.upd rfl (Agree.refl _ _))))
  · refine L.on rfl ?_
    refine L.va (x_mvI rfl) ?_
    refine L.on rfl ?_
    refine L.va (x_gtr rfl rfl) ?_
    refine L.va (x_pickF rfl) ?_
    refine L.nil ?_
    refine ⟨rfl, congrArg Value.bool (by first | exact or_f hb16 | rfl | (simp_all; done) | (rw [Bool.eq_iff_iff]; simp_all; omega)), ?_⟩
    exact Agree.upd rfl (Agree.upd rfl (Agree.upd rfl (Agree.upd rfl (Agree.refl _ _))))
  refine L.va (x_mvB rfl) ?_
  refine L.meetB 3 [20,21,22,23] 23 (.bool true) (tj := 20) rfl (fun hb20 => ?_) (fun hb20 => ?_) (fun f => ?_)
  · refine L.off rfl ?_
    refine L.off rfl ?_
    refine L.va (x_pickT rfl) ?_
    refine L.nil ?_
    refine ⟨rfl, congrArg Value.bool (rfl), ?_⟩
    exact Agree.upd rfl (Agree.upd rfl (Agree.upd rfl (Agree.upd rfl (Agree.refl _ _))))
  · refine L.on rfl ?_
    refine L.va (x_mvP rfl) ?_
    refine L.on rfl ?_
    refine L.va (x_eqPtrNil rfl rfl Try.underlying24) ?_
    refine L.va (x_pickF rfl) ?_
    refine L.nil ?_
    refine ⟨rfl, congrArg Value.bool (rfl), ?_⟩
    exact Agree.upd rfl (Agree.upd rfl (Agree.upd rfl (Agree.upd rfl (Agree.refl _ _))))
  refine L.nil ?_
  show W _ _ _ _ _ _
  refine W.condT rfl ?_
  refine W.seq ?_
  refine W.region rfl ?_
  refine L.va (x_asP rfl) ?_
  refine L.va (x_asI rfl) ?_
  refine L.nil ?_
  show W _ _ _ _ _ _
  refine W.ret ?_
  repeat (first | refine T.ret ?_ | refine B.ret ?_)
  refine ends.two (.inr rfl) rfl ?_
  exact ⟨rfl, hb⟩

end Go.Proofs.Ytahcjihhkmolpaa
