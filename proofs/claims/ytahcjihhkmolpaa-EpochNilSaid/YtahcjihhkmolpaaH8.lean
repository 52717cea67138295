/- Atomics and the list's cell without a client: what each access returns. -/
import Derived.Test.YtahcjihhkmolpaaH3
namespace Go.Proofs.Ytahcjihhkmolpaa
open Go.Vc Go.RowKit
theorem nz61 : (Try.prog.info? 61).map (fun i => decide (i.size = 0)) = some false := by kernel_rfl
theorem nz2 : (Try.prog.info? 2).map (fun i => decide (i.size = 0)) = some false := by kernel_rfl

theorem buH_0 (x0 : Int) (x1 : Int) : Try.prog.built 124 [(0, .int .i64 x0), (1, .int .i64 x1)] = some #[.int .i64 x0, .int .i64 x1] := by kernel_rfl
theorem buH_1 (x0 : Int) (x1 : Int) (x2 : Option Addr) (x3 : Option Addr) (x4 : Nat) (x5 : Nat) : Try.prog.built 142 [(0, .agg #[.int .i64 x0, .int .i64 x1]), (1, .pointer x2), (2, .slice x3 x4 x5)] = some #[.int .i64 x0, .int .i64 x1, .pointer x2, .slice x3 x4 x5] := by kernel_rfl
theorem buH_2 (x0 : Int) (x1 : Int) (x2 : Option Addr) (x3 : Int) : Try.prog.built 148 [(0, .agg #[.int .i64 x0, .int .i64 x1]), (1, .pointer x2), (2, .int .i64 x3)] = some #[.int .i64 x0, .int .i64 x1, .pointer x2, .int .i64 x3, .pointer none] := by kernel_rfl
theorem buH_3 (x0 : Int) (x1 : Int) (x2 : Option Addr) (x3 : Int) (x4 : Option Addr) (x5 : Nat) (x6 : Nat) (x7 : Int) : Try.prog.built 139 [(0, .agg #[.int .i64 x0, .int .i64 x1]), (1, .pointer x2), (2, .agg #[.int .i64 x3, .slice x4 x5 x6, .int .i64 x7])] = some #[.int .i64 x0, .int .i64 x1, .pointer x2, .int .i64 x3, .slice x4 x5 x6, .int .i64 x7, .pointer none] := by kernel_rfl
theorem rlget1 (b0 b1 cb : Nat) (obj num : Int) (q : Value) (pa : Option Addr) (pn : Nat) (pc : Nat) (qa : Option Addr) (qn : Nat) (qc : Nat) (w0 : World) (hB0 : Blk w0 b0 #[.pointer (some ⟨cb, 0, none⟩)] 96) (hB1 : Blk w0 b1 #[.slice qa qn qc] 98) (hC : Blk w0 cb #[.int .i64 obj, .int .i64 num, q, .slice pa pn pc] 142) :
    C Try.prog 65 #[.pointer (some ⟨b0, 0, none⟩), .pointer (some ⟨b1, 0, none⟩)] w0 fun _ w => Blk w b1 #[.slice pa pn pc] 98 ∧ w0.grownBy w (some b1) := by
  refine C.enter (n := 6) Try.func65 rfl rfl ?_
  refine W.region rfl ?_
  refine L.va (x_load rfl Try.underlying96 rfl (hB0.cellAt 0 (v := .pointer (some ⟨cb, 0, none⟩)) rfl)) ?_
  refine L.va (x_nilCheck rfl) ?_
  refine L.va (x_field rfl Try.underlying142 rfl sz98 (by decide)) ?_
  refine L.va (x_load rfl Try.underlying98 rfl (hC.cellAt 3 (v := .slice pa pn pc) rfl)) ?_
  refine L.put (b := b1) (o := 0) (vs := [.slice pa pn pc]) #[.slice pa pn pc] rfl rfl rfl sz98 rfl rfl hB1 (Nat.le_of_ble_eq_true rfl) rfl (fun w hnew hg hsz => ?_)
  have hm0 := ModT.put0 hB1 hg
  have hC := hC.mod hm0 rfl
  have hB0 := hB0.mod hm0 rfl
  have hB1 := hnew
  clear hm0
  refine L.nil ?_
  repeat (first | refine T.nrm ?_ | refine B.nrm ?_)
  refine ends.none (.inl rfl) rfl ?_
  exact ⟨hB1, hg⟩

theorem rlget (cb wb : Nat) (obj num : Int) (pa : Option Addr) (pn : Nat) (pc : Nat) (w0 : World) (hC : Blk w0 cb #[.int .i64 obj, .int .i64 num, .pointer (some ⟨wb, 0, none⟩), .slice pa pn pc] 142) (hW : Blk w0 wb #[.bool false] 82) :
    C Try.prog 45 #[.pointer (some ⟨cb, 0, none⟩), .pointer none] w0 fun v w => v = .slice pa pn pc ∧ Below w0.heap.size w0 w := by
  refine C.enter (n := 26) Try.func45 rfl rfl ?_
  have hb : Below w0.heap.size w0 w0 := Below.refl _ _
  refine W.seq ?_
  refine W.region rfl ?_
  refine L.box (cs := #[.pointer (some ⟨cb, 0, none⟩)]) rfl rfl (fun w b2 F2 => ?_)
  have lt2 : w0.heap.size ≤ b2 := by have h9 := F2.here; have h8 := hb.size; omega
  have hb := cl_step hb F2.below
  have hW := hW.keep F2.below
  have hC := hC.keep F2.below
  have hB2 := F2.blk
  refine L.va (x_asS rfl) ?_
  refine L.nil ?_
  show W _ _ _ _ _ _
  refine W.seq ?_
  refine W.region rfl ?_
  refine L.alloc (cs := #[.slice none 0 0]) zr98 rfl (fun w b5 F5 => ?_)
  have lt5 : w0.heap.size ≤ b5 := by have h9 := F5.here; have h8 := hb.size; omega
  have hb := cl_step hb F5.below
  have hW := hW.keep F5.below
  have hC := hC.keep F5.below
  have hB2 := hB2.keep F5.below
  have hB5 := F5.blk
  refine L.nil ?_
  show W _ _ _ _ _ _
  refine W.seq ?_
  refine W.seq ?_
  refine W.region rfl ?_
  refine L.va (x_load rfl Try.underlying96 rfl (hB2.cellAt 0 (v := .pointer (some ⟨cb, 0, none⟩)) rfl)) ?_
  refine L.va (x_eqPtrNil rfl rfl Try.underlying96) ?_
  refine L.nil ?_
  show W _ _ _ _ _ _
  refine W.condF rfl ?_
  refine W.skip ?_
  show W _ _ _ _ _ _
  refine W.seq ?_
  refine W.seq ?_
  refine W.region rfl ?_
  refine L.va (x_load rfl Try.underlying96 rfl (hB2.cellAt 0 (v := .pointer (some ⟨cb, 0, none⟩)) rfl)) ?_
  refine L.va (x_nilCheck rfl) ?_
  refine L.va (x_field rfl Try.underlying142 rfl sz28 (by decide)) ?_
  refine L.va (x_load rfl Try.underlying28 rfl (hC.cellAt 2 (v := .pointer (some ⟨wb, 0, none⟩)) rfl)) ?_
  refine L.call (x_call1 rfl Try.func52 rfl nm52 rfl) (isreal_c wb w hW) ?_
  rintro _ w1 ⟨rfl, hw⟩
  rw [hw]
  clear hw w1
  refine L.nil ?_
  show W _ _ _ _ _ _
  refine W.condF rfl ?_
  refine W.skip ?_
  show W _ _ _ _ _ _
  refine W.seq ?_
  refine W.region rfl ?_
  refine L.va (x_load rfl Try.underlying96 rfl (hB2.cellAt 0 (v := .pointer (some ⟨cb, 0, none⟩)) rfl)) ?_
  refine L.va (x_nilCheck rfl) ?_
  refine L.va (x_field rfl Try.underlying142 rfl sz124 (by decide)) ?_
  refine L.va (x_loadAgg (cs := [.int .i64 obj, .int .i64 num]) rfl Try.underlying124 rfl sz124 rfl (hC.aggAt rfl)) ?_
  refine L.va (x_mvP rfl) ?_
  refine L.va (x_makeFuncL (l := [.tmp 2, .tmp 5]) (vs := [.pointer (some ⟨b2, 0, none⟩), .pointer (some ⟨b5, 0, none⟩)]) rfl) ?_
  refine L.call (x_call5 rfl rfl rfl rfl rfl Try.func53 rfl nm53 rfl) (place_nil (ys := #[.pointer (some ⟨b2, 0, none⟩), .pointer (some ⟨b5, 0, none⟩)]) Try.func65 rfl nm65 obj num 8 _ w (fun w' => Blk w' b5 #[.slice pa pn pc] 98 ∧ w.grownBy w' (some b5)) (fun w1 hb1 => (rlget1 b2 b5 cb obj num _ pa pn pc _ _ _ w1 (hB2.keep hb1) (hB5.keep hb1) (hC.keep hb1)).mono fun _ w' h => ⟨h.1, gr_trans (gr_step (gr_refl _ _) hb1) h.2⟩)) ?_
  rintro _ w ⟨hnew, hg⟩
  have hm0 := ModT.put0 hB5 hg
  have hb := below_gr hb hb.size hg lt5
  have hW := hW.mod hm0 rfl
  have hC := hC.mod hm0 rfl
  have hB2 := hB2.mod hm0 rfl
  have hB5 := hnew
  clear hm0
  refine L.nil ?_
  show W _ _ _ _ _ _
  refine W.seq ?_
  refine W.region rfl ?_
  refine L.va (x_load rfl Try.underlying98 rfl (hB5.cellAt 0 (v := .slice pa pn pc) rfl)) ?_
  refine L.va (x_asS rfl) ?_
  refine L.nil ?_
  show W _ _ _ _ _ _
  refine W.ret ?_
  repeat (first | refine T.ret ?_ | refine B.ret ?_)
  refine ends.one (.inr rfl) rfl ?_
  exact ⟨rfl, hb⟩

theorem rlset1 (b0 b1 cb : Nat) (obj num : Int) (q : Value) (pa : Option Addr) (pn : Nat) (pc : Nat) (qa : Option Addr) (qn : Nat) (qc : Nat) (w0 : World) (hB0 : Blk w0 b0 #[.slice pa pn pc] 98) (hB1 : Blk w0 b1 #[.pointer (some ⟨cb, 0, none⟩)] 96) (hC : Blk w0 cb #[.int .i64 obj, .int .i64 num, q, .slice qa qn qc] 142) :
    C Try.prog 66 #[.pointer (some ⟨b0, 0, none⟩), .pointer (some ⟨b1, 0, none⟩)] w0 fun _ w => Blk w cb #[.int .i64 obj, .int .i64 num, q, .slice pa pn pc] 142 ∧ w0.grownBy w (some cb) := by
  refine C.enter (n := 6) Try.func66 rfl rfl ?_
  refine W.region rfl ?_
  refine L.va (x_load rfl Try.underlying96 rfl (hB1.cellAt 0 (v := .pointer (some ⟨cb, 0, none⟩)) rfl)) ?_
  refine L.va (x_load rfl Try.underlying98 rfl (hB0.cellAt 0 (v := .slice pa pn pc) rfl)) ?_
  refine L.va (x_nilCheck rfl) ?_
  refine L.va (x_field rfl Try.underlying142 rfl sz98 (by decide)) ?_
  refine L.put (b := cb) (o := 3) (vs := [.slice pa pn pc]) #[.int .i64 obj, .int .i64 num, q, .slice pa pn pc] rfl rfl rfl sz98 rfl rfl hC (Nat.le_of_ble_eq_true rfl) rfl (fun w hnew hg hsz => ?_)
  have hm0 := ModT.put0 hC hg
  have hB0 := hB0.mod hm0 rfl
  have hB1 := hB1.mod hm0 rfl
  have hC := hnew
  clear hm0
  refine L.nil ?_
  repeat (first | refine T.nrm ?_ | refine B.nrm ?_)
  refine ends.none (.inl rfl) rfl ?_
  exact ⟨hC, hg⟩

theorem rlset (cb wb : Nat) (obj num : Int) (pa : Option Addr) (pn : Nat) (pc : Nat) (qa : Option Addr) (qn : Nat) (qc : Nat) (w0 : World) (hC : Blk w0 cb #[.int .i64 obj, .int .i64 num, .pointer (some ⟨wb, 0, none⟩), .slice qa qn qc] 142) (hW : Blk w0 wb #[.bool false] 82) :
    C Try.prog 46 #[.pointer (some ⟨cb, 0, none⟩), .pointer none, .slice pa pn pc] w0 fun _ w => Blk w cb #[.int .i64 obj, .int .i64 num, .pointer (some ⟨wb, 0, none⟩), .slice pa pn pc] 142 ∧ w0.grownBy w (some cb) := by
  refine C.enter (n := 26) Try.func46 rfl rfl ?_
  have hgr := gr_refl w0 (some cb)
  refine W.seq ?_
  refine W.region rfl ?_
  refine L.box (cs := #[.pointer (some ⟨cb, 0, none⟩)]) rfl rfl (fun w b3 F3 => ?_)
  have lt3 : w0.heap.size ≤ b3 := by have h9 := F3.here; have h8 := hgr.size; omega
  have hgr := gr_step hgr F3.below
  have hW := hW.keep F3.below
  have hC := hC.keep F3.below
  have hB3 := F3.blk
  refine L.box (cs := #[.slice pa pn pc]) rfl rfl (fun w b5 F5 => ?_)
  have lt5 : w0.heap.size ≤ b5 := by have h9 := F5.here; have h8 := hgr.size; omega
  have hgr := gr_step hgr F5.below
  have hW := hW.keep F5.below
  have hC := hC.keep F5.below
  have hB3 := hB3.keep F5.below
  have hB5 := F5.blk
  refine L.nil ?_
  show W _ _ _ _ _ _
  refine W.block ?_
  refine W.seq ?_
  refine W.region rfl ?_
  refine L.va (x_load rfl Try.underlying96 rfl (hB3.cellAt 0 (v := .pointer (some ⟨cb, 0, none⟩)) rfl)) ?_
  refine L.va (x_eqPtrNil rfl rfl Try.underlying96) ?_
  refine L.va (x_asB rfl) ?_
  refine L.nil ?_
  show W _ _ _ _ _ _
  refine W.condF rfl ?_
  refine W.seq ?_
  refine W.region rfl ?_
  refine L.va (x_load rfl Try.underlying96 rfl (hB3.cellAt 0 (v := .pointer (some ⟨cb, 0, none⟩)) rfl)) ?_
  refine L.va (x_nilCheck rfl) ?_
  refine L.va (x_field rfl Try.underlying142 rfl sz28 (by decide)) ?_
  refine L.va (x_load rfl Try.underlying28 rfl (hC.cellAt 2 (v := .pointer (some ⟨wb, 0, none⟩)) rfl)) ?_
  refine L.call (x_call1 rfl Try.func52 rfl nm52 rfl) (isreal_c wb w hW) ?_
  rintro _ w1 ⟨rfl, hw⟩
  rw [hw]
  clear hw w1
  refine L.va (x_asB rfl) ?_
  refine L.nil ?_
  show W _ _ _ _ _ _
  refine W.condF rfl ?_
  refine W.region rfl ?_
  refine L.va (x_load rfl Try.underlying96 rfl (hB3.cellAt 0 (v := .pointer (some ⟨cb, 0, none⟩)) rfl)) ?_
  refine L.va (x_nilCheck rfl) ?_
  refine L.va (x_field rfl Try.underlying142 rfl sz124 (by decide)) ?_
  refine L.va (x_loadAgg (cs := [.int .i64 obj, .int .i64 num]) rfl Try.underlying124 rfl sz124 rfl (hC.aggAt rfl)) ?_
  refine L.va (x_mvP rfl) ?_
  refine L.va (x_makeFuncL (l := [.tmp 5, .tmp 3]) (vs := [.pointer (some ⟨b5, 0, none⟩), .pointer (some ⟨b3, 0, none⟩)]) rfl) ?_
  refine L.call (x_call5 rfl rfl rfl rfl rfl Try.func53 rfl nm53 rfl) (place_nil (ys := #[.pointer (some ⟨b5, 0, none⟩), .pointer (some ⟨b3, 0, none⟩)]) Try.func66 rfl nm66 obj num 9 _ w (fun w' => Blk w' cb #[.int .i64 obj, .int .i64 num, .pointer (some ⟨wb, 0, none⟩), .slice pa pn pc] 142 ∧ w.grownBy w' (some cb)) (fun w1 hb1 => (rlset1 b5 b3 cb obj num _ pa pn pc qa qn qc w1 (hB5.keep hb1) (hB3.keep hb1) (hC.keep hb1)).mono fun _ w' h => ⟨h.1, gr_trans (gr_step (gr_refl _ _) hb1) h.2⟩)) ?_
  rintro _ w ⟨hnew, hg⟩
  have hm0 := ModT.put0 hC hg
  have hgr := gr_trans hgr hg
  have hW := hW.mod hm0 rfl
  have hB3 := hB3.mod hm0 rfl
  have hB5 := hB5.mod hm0 rfl
  have hC := hnew
  clear hm0
  refine L.nil ?_
  refine B.nrm ?_
  repeat (first | refine T.nrm ?_ | refine B.nrm ?_)
  refine ends.none (.inl rfl) rfl ?_
  exact ⟨hC, hgr⟩

theorem rlnew (wb : Nat) (obj num : Int) (pa : Option Addr) (pn : Nat) (pc : Nat) (w0 : World) :
    C Try.prog 39 #[.pointer (some ⟨wb, 0, none⟩), .int .i64 obj, .int .i64 num, .slice pa pn pc] w0 fun v w => ∃ cb, v = .pointer (some ⟨cb, 0, none⟩) ∧ w0.heap.size ≤ cb ∧ Blk w cb #[.int .i64 obj, .int .i64 num, .pointer (some ⟨wb, 0, none⟩), .slice pa pn pc] 142 ∧ Below w0.heap.size w0 w := by
  refine C.enter (n := 16) Try.func39 rfl rfl ?_
  have hb : Below w0.heap.size w0 w0 := Below.refl _ _
  refine W.seq ?_
  refine W.region rfl ?_
  refine L.va (x_asP rfl) ?_
  refine L.nil ?_
  show W _ _ _ _ _ _
  refine W.seq ?_
  refine W.region rfl ?_
  refine L.va (x_mvI rfl) ?_
  refine L.va (x_mvI rfl) ?_
  refine L.va (x_build (parts := [(0, .tmp 9), (1, .tmp 10)]) rfl (buH_0 obj num)) ?_
  refine L.va (x_mvP rfl) ?_
  refine L.va (x_mvS rfl) ?_
  refine L.va (x_build (parts := [(0, .tmp 11), (1, .tmp 12), (2, .tmp 13)]) rfl (buH_1 obj num ((some (⟨wb, 0, none⟩))) pa pn pc)) ?_
  refine L.box (cs := #[.int .i64 obj, .int .i64 num, .pointer (some (⟨wb, 0, none⟩)), .slice pa pn pc]) rfl rfl (fun w b15 F15 => ?_)
  have lt15 : w0.heap.size ≤ b15 := by have h9 := F15.here; have h8 := hb.size; omega
  have hb := cl_step hb F15.below
  have hB15 := F15.blk
  refine L.va (x_asP rfl) ?_
  refine L.nil ?_
  show W _ _ _ _ _ _
  refine W.ret ?_
  repeat (first | refine T.ret ?_ | refine B.ret ?_)
  refine ends.one (.inr rfl) rfl ?_
  exact ⟨b15, rfl, lt15, hB15, hb⟩

theorem aistorep (hp lb : Nat) (x0 x1 x2 x3 e f0 : Value) (w0 : World) (hH : Blk w0 hp #[x0, x1, x2, x3, e] 148) (hL : Blk w0 lb #[f0] 2) :
    C Try.prog 60 #[.pointer (some ⟨hp, 4, none⟩), .pointer (some ⟨lb, 0, none⟩)] w0 fun _ w => Blk w hp #[x0, x1, x2, x3, .pointer (some ⟨lb, 0, none⟩)] 148 ∧ w0.grownBy w (some hp) := by
  refine C.enter (n := 10) Try.func60 rfl rfl ?_
  refine W.region rfl ?_
  refine L.va (x_mvP rfl) ?_
  refine L.va (x_nilCheck rfl) ?_
  refine L.va (x_field rfl Try.underlying146 rfl sz74 (by decide)) ?_
  refine L.va (x_mvP rfl) ?_
  refine L.va (x_toUnsafe rfl Try.underlying143 Try.underlying74 nz2 (hL.cellAt 0 (v := f0) rfl)) ?_
  refine L.va (x_storeP (u := e) rfl rfl Try.func51 nm51 rfl en51 ex51 (hH.cellAt 4 rfl) hH.frozen rfl) ?_
  refine L.nil ?_
  repeat (first | refine T.nrm ?_ | refine B.nrm ?_)
  refine ends.none (.inl rfl) rfl ?_
  exact ⟨hH.set (o := 4) (.pointer (some ⟨lb, 0, none⟩)), grown_setCell w0 ⟨hp, 4, none⟩ _⟩

theorem ainew (wb : Nat) (obj num : Int) (x : Int) (w0 : World) :
    C Try.prog 40 #[.pointer (some ⟨wb, 0, none⟩), .int .i64 obj, .int .i64 num, .int .i64 x] w0 fun v w => ∃ cb av, v = .pointer (some ⟨cb, 0, none⟩) ∧ w0.heap.size ≤ cb ∧ Blk w cb #[.int .i64 obj, .int .i64 num, .pointer (some ⟨wb, 0, none⟩), .int .i64 x, av] 148 ∧ Below w0.heap.size w0 w := by
  refine C.enter (n := 22) Try.func40 rfl rfl ?_
  have hb : Below w0.heap.size w0 w0 := Below.refl _ _
  refine W.seq ?_
  refine W.region rfl ?_
  refine L.box (cs := #[.int .i64 x]) rfl rfl (fun w b7 F7 => ?_)
  have lt7 : w0.heap.size ≤ b7 := by have h9 := F7.here; have h8 := hb.size; omega
  have hb := cl_step hb F7.below
  have hB7 := F7.blk
  refine L.va (x_asP rfl) ?_
  refine L.nil ?_
  show W _ _ _ _ _ _
  refine W.seq ?_
  refine W.region rfl ?_
  refine L.va (x_mvI rfl) ?_
  refine L.va (x_mvI rfl) ?_
  refine L.va (x_build (parts := [(0, .tmp 10), (1, .tmp 11)]) rfl (buH_0 obj num)) ?_
  refine L.va (x_mvP rfl) ?_
  refine L.va (x_load rfl Try.underlying2 rfl (hB7.cellAt 0 (v := .int .i64 x) rfl)) ?_
  refine L.va (x_build (parts := [(0, .tmp 12), (1, .tmp 13), (2, .tmp 14)]) rfl (buH_2 obj num ((some (⟨wb, 0, none⟩))) x)) ?_
  refine L.box (cs := #[.int .i64 obj, .int .i64 num, .pointer (some (⟨wb, 0, none⟩)), .int .i64 x, .pointer none]) rfl rfl (fun w b16 F16 => ?_)
  have lt16 : w0.heap.size ≤ b16 := by have h9 := F16.here; have h8 := hb.size; omega
  have hb := cl_step hb F16.below
  have hB7 := hB7.keep F16.below
  have hB16 := F16.blk
  refine L.va (x_asP rfl) ?_
  refine L.nil ?_
  show W _ _ _ _ _ _
  refine W.seq ?_
  refine W.region rfl ?_
  refine L.va (x_mvP rfl) ?_
  refine L.va (x_nilCheck rfl) ?_
  refine L.va (x_field rfl Try.underlying148 rfl sz146 (by decide)) ?_
  refine L.call (x_call2 rfl rfl Try.func60 rfl nm60 rfl) (aistorep b16 b7 _ _ _ _ _ _ w hB16 hB7) ?_
  rintro _ w ⟨hnew, hg⟩
  have hm0 := ModT.put0 hB16 hg
  have hb := below_gr hb hb.size hg lt16
  have hB7 := hB7.mod hm0 rfl
  have hB16 := hnew
  clear hm0
  refine L.nil ?_
  show W _ _ _ _ _ _
  refine W.seq ?_
  refine W.region rfl ?_
  refine L.va (x_mvP rfl) ?_
  refine L.va (x_asP rfl) ?_
  refine L.nil ?_
  show W _ _ _ _ _ _
  refine W.ret ?_
  repeat (first | refine T.ret ?_ | refine B.ret ?_)
  refine ends.one (.inr rfl) rfl ?_
  exact ⟨b16, _, rfl, lt16, hB16, hb⟩

theorem aiget1 (b0 b1 cb : Nat) (obj num : Int) (q av : Value) (x : Int) (x2 : Int) (w0 : World) (hB0 : Blk w0 b0 #[.pointer (some ⟨cb, 0, none⟩)] 102) (hB1 : Blk w0 b1 #[.int .i64 x2] 2) (hC : Blk w0 cb #[.int .i64 obj, .int .i64 num, q, .int .i64 x, av] 148) :
    C Try.prog 68 #[.pointer (some ⟨b0, 0, none⟩), .pointer (some ⟨b1, 0, none⟩)] w0 fun _ w => Blk w b1 #[.int .i64 x] 2 ∧ w0.grownBy w (some b1) := by
  refine C.enter (n := 6) Try.func68 rfl rfl ?_
  refine W.region rfl ?_
  refine L.va (x_load rfl Try.underlying102 rfl (hB0.cellAt 0 (v := .pointer (some ⟨cb, 0, none⟩)) rfl)) ?_
  refine L.va (x_nilCheck rfl) ?_
  refine L.va (x_field rfl Try.underlying148 rfl sz2 (by decide)) ?_
  refine L.va (x_load rfl Try.underlying2 rfl (hC.cellAt 3 (v := .int .i64 x) rfl)) ?_
  refine L.put (b := b1) (o := 0) (vs := [.int .i64 x]) #[.int .i64 x] rfl rfl rfl sz2 rfl rfl hB1 (Nat.le_of_ble_eq_true rfl) rfl (fun w hnew hg hsz => ?_)
  have hm0 := ModT.put0 hB1 hg
  have hC := hC.mod hm0 rfl
  have hB0 := hB0.mod hm0 rfl
  have hB1 := hnew
  clear hm0
  refine L.nil ?_
  repeat (first | refine T.nrm ?_ | refine B.nrm ?_)
  refine ends.none (.inl rfl) rfl ?_
  exact ⟨hB1, hg⟩

theorem aiget (cb wb : Nat) (obj num : Int) (av : Value) (x : Int) (w0 : World) (hC : Blk w0 cb #[.int .i64 obj, .int .i64 num, .pointer (some ⟨wb, 0, none⟩), .int .i64 x, av] 148) (hW : Blk w0 wb #[.bool false] 82) :
    C Try.prog 48 #[.pointer (some ⟨cb, 0, none⟩), .pointer none] w0 fun v w => v = .int .i64 x ∧ Below w0.heap.size w0 w := by
  refine C.enter (n := 28) Try.func48 rfl rfl ?_
  have hb : Below w0.heap.size w0 w0 := Below.refl _ _
  refine W.seq ?_
  refine W.region rfl ?_
  refine L.box (cs := #[.pointer (some ⟨cb, 0, none⟩)]) rfl rfl (fun w b2 F2 => ?_)
  have lt2 : w0.heap.size ≤ b2 := by have h9 := F2.here; have h8 := hb.size; omega
  have hb := cl_step hb F2.below
  have hW := hW.keep F2.below
  have hC := hC.keep F2.below
  have hB2 := F2.blk
  refine L.va (x_asI rfl) ?_
  refine L.nil ?_
  show W _ _ _ _ _ _
  refine W.seq ?_
  refine W.region rfl ?_
  refine L.alloc (cs := #[.int .i64 0]) zr2 rfl (fun w b5 F5 => ?_)
  have lt5 : w0.heap.size ≤ b5 := by have h9 := F5.here; have h8 := hb.size; omega
  have hb := cl_step hb F5.below
  have hW := hW.keep F5.below
  have hC := hC.keep F5.below
  have hB2 := hB2.keep F5.below
  have hB5 := F5.blk
  refine L.nil ?_
  show W _ _ _ _ _ _
  refine W.seq ?_
  refine W.seq ?_
  refine W.region rfl ?_
  refine L.va (x_load rfl Try.underlying102 rfl (hB2.cellAt 0 (v := .pointer (some ⟨cb, 0, none⟩)) rfl)) ?_
  refine L.va (x_eqPtrNil rfl rfl Try.underlying102) ?_
  refine L.nil ?_
  show W _ _ _ _ _ _
  refine W.condF rfl ?_
  refine W.skip ?_
  show W _ _ _ _ _ _
  refine W.seq ?_
  refine W.seq ?_
  refine W.region rfl ?_
  refine L.va (x_load rfl Try.underlying102 rfl (hB2.cellAt 0 (v := .pointer (some ⟨cb, 0, none⟩)) rfl)) ?_
  refine L.va (x_nilCheck rfl) ?_
  refine L.va (x_field rfl Try.underlying148 rfl sz28 (by decide)) ?_
  refine L.va (x_load rfl Try.underlying28 rfl (hC.cellAt 2 (v := .pointer (some ⟨wb, 0, none⟩)) rfl)) ?_
  refine L.call (x_call1 rfl Try.func52 rfl nm52 rfl) (isreal_c wb w hW) ?_
  rintro _ w1 ⟨rfl, hw⟩
  rw [hw]
  clear hw w1
  refine L.nil ?_
  show W _ _ _ _ _ _
  refine W.condF rfl ?_
  refine W.skip ?_
  show W _ _ _ _ _ _
  refine W.seq ?_
  refine W.region rfl ?_
  refine L.va (x_load rfl Try.underlying102 rfl (hB2.cellAt 0 (v := .pointer (some ⟨cb, 0, none⟩)) rfl)) ?_
  refine L.va (x_nilCheck rfl) ?_
  refine L.va (x_field rfl Try.underlying148 rfl sz124 (by decide)) ?_
  refine L.va (x_loadAgg (cs := [.int .i64 obj, .int .i64 num]) rfl Try.underlying124 rfl sz124 rfl (hC.aggAt rfl)) ?_
  refine L.va (x_mvP rfl) ?_
  refine L.va (x_makeFuncL (l := [.tmp 2, .tmp 5]) (vs := [.pointer (some ⟨b2, 0, none⟩), .pointer (some ⟨b5, 0, none⟩)]) rfl) ?_
  refine L.call (x_call5 rfl rfl rfl rfl rfl Try.func53 rfl nm53 rfl) (place_nil (ys := #[.pointer (some ⟨b2, 0, none⟩), .pointer (some ⟨b5, 0, none⟩)]) Try.func68 rfl nm68 obj num 5 _ w (fun w' => Blk w' b5 #[.int .i64 x] 2 ∧ w.grownBy w' (some b5)) (fun w1 hb1 => (aiget1 b2 b5 cb obj num _ av x _ w1 (hB2.keep hb1) (hB5.keep hb1) (hC.keep hb1)).mono fun _ w' h => ⟨h.1, gr_trans (gr_step (gr_refl _ _) hb1) h.2⟩)) ?_
  rintro _ w ⟨hnew, hg⟩
  have hm0 := ModT.put0 hB5 hg
  have hb := below_gr hb hb.size hg lt5
  have hW := hW.mod hm0 rfl
  have hC := hC.mod hm0 rfl
  have hB2 := hB2.mod hm0 rfl
  have hB5 := hnew
  clear hm0
  refine L.nil ?_
  show W _ _ _ _ _ _
  refine W.seq ?_
  refine W.region rfl ?_
  refine L.va (x_load rfl Try.underlying2 rfl (hB5.cellAt 0 (v := .int .i64 x) rfl)) ?_
  refine L.va (x_asI rfl) ?_
  refine L.nil ?_
  show W _ _ _ _ _ _
  refine W.ret ?_
  repeat (first | refine T.ret ?_ | refine B.ret ?_)
  refine ends.one (.inr rfl) rfl ?_
  exact ⟨rfl, hb⟩

theorem aiset1 (b0 b1 cb : Nat) (obj num : Int) (q av : Value) (x : Int) (x2 : Int) (w0 : World) (hB0 : Blk w0 b0 #[.int .i64 x] 2) (hB1 : Blk w0 b1 #[.pointer (some ⟨cb, 0, none⟩)] 102) (hC : Blk w0 cb #[.int .i64 obj, .int .i64 num, q, .int .i64 x2, av] 148) :
    C Try.prog 61 #[.pointer (some ⟨b0, 0, none⟩), .pointer (some ⟨b1, 0, none⟩)] w0 fun _ w => Blk w cb #[.int .i64 obj, .int .i64 num, q, .int .i64 x, av] 148 ∧ w0.grownBy w (some cb) := by
  refine C.enter (n := 6) Try.func61 rfl rfl ?_
  refine W.region rfl ?_
  refine L.va (x_load rfl Try.underlying102 rfl (hB1.cellAt 0 (v := .pointer (some ⟨cb, 0, none⟩)) rfl)) ?_
  refine L.va (x_load rfl Try.underlying2 rfl (hB0.cellAt 0 (v := .int .i64 x) rfl)) ?_
  refine L.va (x_nilCheck rfl) ?_
  refine L.va (x_field rfl Try.underlying148 rfl sz2 (by decide)) ?_
  refine L.put (b := cb) (o := 3) (vs := [.int .i64 x]) #[.int .i64 obj, .int .i64 num, q, .int .i64 x, av] rfl rfl rfl sz2 rfl rfl hC (Nat.le_of_ble_eq_true rfl) rfl (fun w hnew hg hsz => ?_)
  have hm0 := ModT.put0 hC hg
  have hB0 := hB0.mod hm0 rfl
  have hB1 := hB1.mod hm0 rfl
  have hC := hnew
  clear hm0
  refine L.nil ?_
  repeat (first | refine T.nrm ?_ | refine B.nrm ?_)
  refine ends.none (.inl rfl) rfl ?_
  exact ⟨hC, hg⟩

theorem aiset (cb wb : Nat) (obj num : Int) (av : Value) (x : Int) (x2 : Int) (w0 : World) (hC : Blk w0 cb #[.int .i64 obj, .int .i64 num, .pointer (some ⟨wb, 0, none⟩), .int .i64 x2, av] 148) (hW : Blk w0 wb #[.bool false] 82) :
    C Try.prog 42 #[.pointer (some ⟨cb, 0, none⟩), .pointer none, .int .i64 x] w0 fun _ w => Blk w cb #[.int .i64 obj, .int .i64 num, .pointer (some ⟨wb, 0, none⟩), .int .i64 x, av] 148 ∧ w0.grownBy w (some cb) := by
  refine C.enter (n := 26) Try.func42 rfl rfl ?_
  have hgr := gr_refl w0 (some cb)
  refine W.seq ?_
  refine W.region rfl ?_
  refine L.box (cs := #[.pointer (some ⟨cb, 0, none⟩)]) rfl rfl (fun w b3 F3 => ?_)
  have lt3 : w0.heap.size ≤ b3 := by have h9 := F3.here; have h8 := hgr.size; omega
  have hgr := gr_step hgr F3.below
  have hW := hW.keep F3.below
  have hC := hC.keep F3.below
  have hB3 := F3.blk
  refine L.box (cs := #[.int .i64 x]) rfl rfl (fun w b5 F5 => ?_)
  have lt5 : w0.heap.size ≤ b5 := by have h9 := F5.here; have h8 := hgr.size; omega
  have hgr := gr_step hgr F5.below
  have hW := hW.keep F5.below
  have hC := hC.keep F5.below
  have hB3 := hB3.keep F5.below
  have hB5 := F5.blk
  refine L.nil ?_
  show W _ _ _ _ _ _
  refine W.block ?_
  refine W.seq ?_
  refine W.region rfl ?_
  refine L.va (x_load rfl Try.underlying102 rfl (hB3.cellAt 0 (v := .pointer (some ⟨cb, 0, none⟩)) rfl)) ?_
  refine L.va (x_eqPtrNil rfl rfl Try.underlying102) ?_
  refine L.va (x_asB rfl) ?_
  refine L.nil ?_
  show W _ _ _ _ _ _
  refine W.condF rfl ?_
  refine W.seq ?_
  refine W.region rfl ?_
  refine L.va (x_load rfl Try.underlying102 rfl (hB3.cellAt 0 (v := .pointer (some ⟨cb, 0, none⟩)) rfl)) ?_
  refine L.va (x_nilCheck rfl) ?_
  refine L.va (x_field rfl Try.underlying148 rfl sz28 (by decide)) ?_
  refine L.va (x_load rfl Try.underlying28 rfl (hC.cellAt 2 (v := .pointer (some ⟨wb, 0, none⟩)) rfl)) ?_
  refine L.call (x_call1 rfl Try.func52 rfl nm52 rfl) (isreal_c wb w hW) ?_
  rintro _ w1 ⟨rfl, hw⟩
  rw [hw]
  clear hw w1
  refine L.va (x_asB rfl) ?_
  refine L.nil ?_
  show W _ _ _ _ _ _
  refine W.condF rfl ?_
  refine W.region rfl ?_
  refine L.va (x_load rfl Try.underlying102 rfl (hB3.cellAt 0 (v := .pointer (some ⟨cb, 0, none⟩)) rfl)) ?_
  refine L.va (x_nilCheck rfl) ?_
  refine L.va (x_field rfl Try.underlying148 rfl sz124 (by decide)) ?_
  refine L.va (x_loadAgg (cs := [.int .i64 obj, .int .i64 num]) rfl Try.underlying124 rfl sz124 rfl (hC.aggAt rfl)) ?_
  refine L.va (x_mvP rfl) ?_
  refine L.va (x_makeFuncL (l := [.tmp 5, .tmp 3]) (vs := [.pointer (some ⟨b5, 0, none⟩), .pointer (some ⟨b3, 0, none⟩)]) rfl) ?_
  refine L.call (x_call5 rfl rfl rfl rfl rfl Try.func53 rfl nm53 rfl) (place_nil (ys := #[.pointer (some ⟨b5, 0, none⟩), .pointer (some ⟨b3, 0, none⟩)]) Try.func61 rfl nm61 obj num 6 _ w (fun w' => Blk w' cb #[.int .i64 obj, .int .i64 num, .pointer (some ⟨wb, 0, none⟩), .int .i64 x, av] 148 ∧ w.grownBy w' (some cb)) (fun w1 hb1 => (aiset1 b5 b3 cb obj num _ av x x2 w1 (hB5.keep hb1) (hB3.keep hb1) (hC.keep hb1)).mono fun _ w' h => ⟨h.1, gr_trans (gr_step (gr_refl _ _) hb1) h.2⟩)) ?_
  rintro _ w ⟨hnew, hg⟩
  have hm0 := ModT.put0 hC hg
  have hgr := gr_trans hgr hg
  have hW := hW.mod hm0 rfl
  have hB3 := hB3.mod hm0 rfl
  have hB5 := hB5.mod hm0 rfl
  have hC := hnew
  clear hm0
  refine L.nil ?_
  refine B.nrm ?_
  repeat (first | refine T.nrm ?_ | refine B.nrm ?_)
  refine ends.none (.inl rfl) rfl ?_
  exact ⟨hC, hgr⟩

theorem arstorep (hp lb : Nat) (x0 x1 x2 x3 x4 x5 e f0 f1 f2 : Value) (w0 : World) (hH : Blk w0 hp #[x0, x1, x2, x3, x4, x5, e] 139) (hL : Blk w0 lb #[f0, f1, f2] 61) :
    C Try.prog 59 #[.pointer (some ⟨hp, 6, none⟩), .pointer (some ⟨lb, 0, none⟩)] w0 fun _ w => Blk w hp #[x0, x1, x2, x3, x4, x5, .pointer (some ⟨lb, 0, none⟩)] 139 ∧ w0.grownBy w (some hp) := by
  refine C.enter (n := 10) Try.func59 rfl rfl ?_
  refine W.region rfl ?_
  refine L.va (x_mvP rfl) ?_
  refine L.va (x_nilCheck rfl) ?_
  refine L.va (x_field rfl Try.underlying137 rfl sz74 (by decide)) ?_
  refine L.va (x_mvP rfl) ?_
  refine L.va (x_toUnsafe rfl Try.underlying134 Try.underlying74 nz61 (hL.cellAt 0 (v := f0) rfl)) ?_
  refine L.va (x_storeP (u := e) rfl rfl Try.func51 nm51 rfl en51 ex51 (hH.cellAt 6 rfl) hH.frozen rfl) ?_
  refine L.nil ?_
  repeat (first | refine T.nrm ?_ | refine B.nrm ?_)
  refine ends.none (.inl rfl) rfl ?_
  exact ⟨hH.set (o := 6) (.pointer (some ⟨lb, 0, none⟩)), grown_setCell w0 ⟨hp, 6, none⟩ _⟩

theorem arnew (wb : Nat) (obj num : Int) (s : Int) (ra : Option Addr) (rn : Nat) (rc : Nat) (tg : Int) (w0 : World) :
    C Try.prog 38 #[.pointer (some ⟨wb, 0, none⟩), .int .i64 obj, .int .i64 num, .agg #[.int .i64 s, .slice ra rn rc, .int .i64 tg]] w0 fun v w => ∃ cb av, v = .pointer (some ⟨cb, 0, none⟩) ∧ w0.heap.size ≤ cb ∧ Blk w cb #[.int .i64 obj, .int .i64 num, .pointer (some ⟨wb, 0, none⟩), .int .i64 s, .slice ra rn rc, .int .i64 tg, av] 139 ∧ Below w0.heap.size w0 w := by
  refine C.enter (n := 22) Try.func38 rfl rfl ?_
  have hb : Below w0.heap.size w0 w0 := Below.refl _ _
  refine W.seq ?_
  refine W.region rfl ?_
  refine L.box (cs := #[.int .i64 s, .slice ra rn rc, .int .i64 tg]) rfl rfl (fun w b7 F7 => ?_)
  have lt7 : w0.heap.size ≤ b7 := by have h9 := F7.here; have h8 := hb.size; omega
  have hb := cl_step hb F7.below
  have hB7 := F7.blk
  refine L.va (x_asP rfl) ?_
  refine L.nil ?_
  show W _ _ _ _ _ _
  refine W.seq ?_
  refine W.region rfl ?_
  refine L.va (x_mvI rfl) ?_
  refine L.va (x_mvI rfl) ?_
  refine L.va (x_build (parts := [(0, .tmp 10), (1, .tmp 11)]) rfl (buH_0 obj num)) ?_
  refine L.va (x_mvP rfl) ?_
  refine L.va (x_loadAgg (cs := [.int .i64 s, .slice ra rn rc, .int .i64 tg]) rfl Try.underlying61 rfl sz61 rfl (hB7.aggAt rfl)) ?_
  refine L.va (x_build (parts := [(0, .tmp 12), (1, .tmp 13), (2, .tmp 14)]) rfl (buH_3 obj num ((some (⟨wb, 0, none⟩))) s ra rn rc tg)) ?_
  refine L.box (cs := #[.int .i64 obj, .int .i64 num, .pointer (some (⟨wb, 0, none⟩)), .int .i64 s, .slice ra rn rc, .int .i64 tg, .pointer none]) rfl rfl (fun w b16 F16 => ?_)
  have lt16 : w0.heap.size ≤ b16 := by have h9 := F16.here; have h8 := hb.size; omega
  have hb := cl_step hb F16.below
  have hB7 := hB7.keep F16.below
  have hB16 := F16.blk
  refine L.va (x_asP rfl) ?_
  refine L.nil ?_
  show W _ _ _ _ _ _
  refine W.seq ?_
  refine W.region rfl ?_
  refine L.va (x_mvP rfl) ?_
  refine L.va (x_nilCheck rfl) ?_
  refine L.va (x_field rfl Try.underlying139 rfl sz137 (by decide)) ?_
  refine L.call (x_call2 rfl rfl Try.func59 rfl nm59 rfl) (arstorep b16 b7 _ _ _ _ _ _ _ _ _ _ w hB16 hB7) ?_
  rintro _ w ⟨hnew, hg⟩
  have hm0 := ModT.put0 hB16 hg
  have hb := below_gr hb hb.size hg lt16
  have hB7 := hB7.mod hm0 rfl
  have hB16 := hnew
  clear hm0
  refine L.nil ?_
  show W _ _ _ _ _ _
  refine W.seq ?_
  refine W.region rfl ?_
  refine L.va (x_mvP rfl) ?_
  refine L.va (x_asP rfl) ?_
  refine L.nil ?_
  show W _ _ _ _ _ _
  refine W.ret ?_
  repeat (first | refine T.ret ?_ | refine B.ret ?_)
  refine ends.one (.inr rfl) rfl ?_
  exact ⟨b16, _, rfl, lt16, hB16, hb⟩

theorem arget1 (b0 b1 cb : Nat) (obj num : Int) (q av : Value) (s : Int) (ra : Option Addr) (rn : Nat) (rc : Nat) (tg : Int) (s2 : Int) (ra2 : Option Addr) (rn2 : Nat) (rc2 : Nat) (tg2 : Int) (w0 : World) (hB0 : Blk w0 b0 #[.pointer (some ⟨cb, 0, none⟩)] 94) (hB1 : Blk w0 b1 #[.int .i64 s2, .slice ra2 rn2 rc2, .int .i64 tg2] 61) (hC : Blk w0 cb #[.int .i64 obj, .int .i64 num, q, .int .i64 s, .slice ra rn rc, .int .i64 tg, av] 139) :
    C Try.prog 63 #[.pointer (some ⟨b0, 0, none⟩), .pointer (some ⟨b1, 0, none⟩)] w0 fun _ w => Blk w b1 #[.int .i64 s, .slice ra rn rc, .int .i64 tg] 61 ∧ w0.grownBy w (some b1) := by
  refine C.enter (n := 6) Try.func63 rfl rfl ?_
  refine W.region rfl ?_
  refine L.va (x_load rfl Try.underlying94 rfl (hB0.cellAt 0 (v := .pointer (some ⟨cb, 0, none⟩)) rfl)) ?_
  refine L.va (x_nilCheck rfl) ?_
  refine L.va (x_field rfl Try.underlying139 rfl sz61 (by decide)) ?_
  refine L.va (x_loadAgg (cs := [.int .i64 s, .slice ra rn rc, .int .i64 tg]) rfl Try.underlying61 rfl sz61 rfl (hC.aggAt rfl)) ?_
  refine L.put (b := b1) (o := 0) (vs := [.int .i64 s, .slice ra rn rc, .int .i64 tg]) #[.int .i64 s, .slice ra rn rc, .int .i64 tg] rfl rfl rfl sz61 rfl rfl hB1 (Nat.le_of_ble_eq_true rfl) rfl (fun w hnew hg hsz => ?_)
  have hm0 := ModT.put0 hB1 hg
  have hC := hC.mod hm0 rfl
  have hB0 := hB0.mod hm0 rfl
  have hB1 := hnew
  clear hm0
  refine L.nil ?_
  repeat (first | refine T.nrm ?_ | refine B.nrm ?_)
  refine ends.none (.inl rfl) rfl ?_
  exact ⟨hB1, hg⟩

theorem arget (cb wb : Nat) (obj num : Int) (av : Value) (s : Int) (ra : Option Addr) (rn : Nat) (rc : Nat) (tg : Int) (w0 : World) (hC : Blk w0 cb #[.int .i64 obj, .int .i64 num, .pointer (some ⟨wb, 0, none⟩), .int .i64 s, .slice ra rn rc, .int .i64 tg, av] 139) (hW : Blk w0 wb #[.bool false] 82) :
    C Try.prog 43 #[.pointer (some ⟨cb, 0, none⟩), .pointer none] w0 fun v w => v = .agg #[.int .i64 s, .slice ra rn rc, .int .i64 tg] ∧ Below w0.heap.size w0 w := by
  refine C.enter (n := 28) Try.func43 rfl rfl ?_
  have hb : Below w0.heap.size w0 w0 := Below.refl _ _
  refine W.seq ?_
  refine W.region rfl ?_
  refine L.box (cs := #[.pointer (some ⟨cb, 0, none⟩)]) rfl rfl (fun w b2 F2 => ?_)
  have lt2 : w0.heap.size ≤ b2 := by have h9 := F2.here; have h8 := hb.size; omega
  have hb := cl_step hb F2.below
  have hW := hW.keep F2.below
  have hC := hC.keep F2.below
  have hB2 := F2.blk
  refine L.alloc (cs := #[.int .i64 0, .slice none 0 0, .int .i64 0]) zr61 rfl (fun w b4 F4 => ?_)
  have lt4 : w0.heap.size ≤ b4 := by have h9 := F4.here; have h8 := hb.size; omega
  have hb := cl_step hb F4.below
  have hW := hW.keep F4.below
  have hC := hC.keep F4.below
  have hB2 := hB2.keep F4.below
  have hB4 := F4.blk
  refine L.nil ?_
  show W _ _ _ _ _ _
  refine W.seq ?_
  refine W.region rfl ?_
  refine L.alloc (cs := #[.int .i64 0, .slice none 0 0, .int .i64 0]) zr61 rfl (fun w b5 F5 => ?_)
  have lt5 : w0.heap.size ≤ b5 := by have h9 := F5.here; have h8 := hb.size; omega
  have ne5hB4 := F5.ne hB4
  have hb := cl_step hb F5.below
  have hW := hW.keep F5.below
  have hC := hC.keep F5.below
  have hB2 := hB2.keep F5.below
  have hB4 := hB4.keep F5.below
  have hB5 := F5.blk
  refine L.nil ?_
  show W _ _ _ _ _ _
  refine W.seq ?_
  refine W.seq ?_
  refine W.region rfl ?_
  refine L.va (x_load rfl Try.underlying94 rfl (hB2.cellAt 0 (v := .pointer (some ⟨cb, 0, none⟩)) rfl)) ?_
  refine L.va (x_eqPtrNil rfl rfl Try.underlying94) ?_
  refine L.nil ?_
  show W _ _ _ _ _ _
  refine W.condF rfl ?_
  refine W.skip ?_
  show W _ _ _ _ _ _
  refine W.seq ?_
  refine W.seq ?_
  refine W.region rfl ?_
  refine L.va (x_load rfl Try.underlying94 rfl (hB2.cellAt 0 (v := .pointer (some ⟨cb, 0, none⟩)) rfl)) ?_
  refine L.va (x_nilCheck rfl) ?_
  refine L.va (x_field rfl Try.underlying139 rfl sz28 (by decide)) ?_
  refine L.va (x_load rfl Try.underlying28 rfl (hC.cellAt 2 (v := .pointer (some ⟨wb, 0, none⟩)) rfl)) ?_
  refine L.call (x_call1 rfl Try.func52 rfl nm52 rfl) (isreal_c wb w hW) ?_
  rintro _ w1 ⟨rfl, hw⟩
  rw [hw]
  clear hw w1
  refine L.nil ?_
  show W _ _ _ _ _ _
  refine W.condF rfl ?_
  refine W.skip ?_
  show W _ _ _ _ _ _
  refine W.seq ?_
  refine W.region rfl ?_
  refine L.va (x_load rfl Try.underlying94 rfl (hB2.cellAt 0 (v := .pointer (some ⟨cb, 0, none⟩)) rfl)) ?_
  refine L.va (x_nilCheck rfl) ?_
  refine L.va (x_field rfl Try.underlying139 rfl sz124 (by decide)) ?_
  refine L.va (x_loadAgg (cs := [.int .i64 obj, .int .i64 num]) rfl Try.underlying124 rfl sz124 rfl (hC.aggAt rfl)) ?_
  refine L.va (x_mvP rfl) ?_
  refine L.va (x_makeFuncL (l := [.tmp 2, .tmp 5]) (vs := [.pointer (some ⟨b2, 0, none⟩), .pointer (some ⟨b5, 0, none⟩)]) rfl) ?_
  refine L.call (x_call5 rfl rfl rfl rfl rfl Try.func53 rfl nm53 rfl) (place_nil (ys := #[.pointer (some ⟨b2, 0, none⟩), .pointer (some ⟨b5, 0, none⟩)]) Try.func63 rfl nm63 obj num 5 _ w (fun w' => Blk w' b5 #[.int .i64 s, .slice ra rn rc, .int .i64 tg] 61 ∧ w.grownBy w' (some b5)) (fun w1 hb1 => (arget1 b2 b5 cb obj num _ av s ra rn rc tg _ _ _ _ _ w1 (hB2.keep hb1) (hB5.keep hb1) (hC.keep hb1)).mono fun _ w' h => ⟨h.1, gr_trans (gr_step (gr_refl _ _) hb1) h.2⟩)) ?_
  rintro _ w ⟨hnew, hg⟩
  have hm0 := ModT.put0 hB5 hg
  have hb := below_gr hb hb.size hg lt5
  have hW := hW.mod hm0 rfl
  have hC := hC.mod hm0 rfl
  have hB2 := hB2.mod hm0 rfl
  have hB4 := hB4.other hg ne5hB4
  have hB5 := hnew
  clear hm0
  refine L.nil ?_
  show W _ _ _ _ _ _
  refine W.seq ?_
  refine W.region rfl ?_
  refine L.va (x_loadAgg (cs := [.int .i64 s, .slice ra rn rc, .int .i64 tg]) rfl Try.underlying61 rfl sz61 rfl (hB5.aggAt rfl)) ?_
  refine L.put (b := b4) (o := 0) (vs := [.int .i64 s, .slice ra rn rc, .int .i64 tg]) #[.int .i64 s, .slice ra rn rc, .int .i64 tg] rfl rfl rfl sz61 rfl rfl hB4 (Nat.le_of_ble_eq_true rfl) rfl (fun w hnew hg hsz => ?_)
  have hm0 := ModT.put0 hB4 hg
  have hb := below_gr hb hb.size hg lt4
  have hW := hW.mod hm0 rfl
  have hC := hC.mod hm0 rfl
  have hB2 := hB2.mod hm0 rfl
  have hB5 := hB5.other hg (Ne.symm ne5hB4)
  have hB4 := hnew
  clear hm0
  refine L.nil ?_
  show W _ _ _ _ _ _
  refine W.ret ?_
  repeat (first | refine T.ret ?_ | refine B.ret ?_)
  refine ends.cell (cs := #[.int .i64 s, .slice ra rn rc, .int .i64 tg]) (.inr rfl) rfl rfl Try.underlying61 rfl sz61 hB4 ?_
  exact ⟨rfl, hb⟩

theorem arset1 (b0 b1 cb : Nat) (obj num : Int) (q av : Value) (s : Int) (ra : Option Addr) (rn : Nat) (rc : Nat) (tg : Int) (s2 : Int) (ra2 : Option Addr) (rn2 : Nat) (rc2 : Nat) (tg2 : Int) (w0 : World) (hB0 : Blk w0 b0 #[.int .i64 s, .slice ra rn rc, .int .i64 tg] 61) (hB1 : Blk w0 b1 #[.pointer (some ⟨cb, 0, none⟩)] 94) (hC : Blk w0 cb #[.int .i64 obj, .int .i64 num, q, .int .i64 s2, .slice ra2 rn2 rc2, .int .i64 tg2, av] 139) :
    C Try.prog 64 #[.pointer (some ⟨b0, 0, none⟩), .pointer (some ⟨b1, 0, none⟩)] w0 fun _ w => Blk w cb #[.int .i64 obj, .int .i64 num, q, .int .i64 s, .slice ra rn rc, .int .i64 tg, av] 139 ∧ w0.grownBy w (some cb) := by
  refine C.enter (n := 6) Try.func64 rfl rfl ?_
  refine W.region rfl ?_
  refine L.va (x_load rfl Try.underlying94 rfl (hB1.cellAt 0 (v := .pointer (some ⟨cb, 0, none⟩)) rfl)) ?_
  refine L.va (x_loadAgg (cs := [.int .i64 s, .slice ra rn rc, .int .i64 tg]) rfl Try.underlying61 rfl sz61 rfl (hB0.aggAt rfl)) ?_
  refine L.va (x_nilCheck rfl) ?_
  refine L.va (x_field rfl Try.underlying139 rfl sz61 (by decide)) ?_
  refine L.put (b := cb) (o := 3) (vs := [.int .i64 s, .slice ra rn rc, .int .i64 tg]) #[.int .i64 obj, .int .i64 num, q, .int .i64 s, .slice ra rn rc, .int .i64 tg, av] rfl rfl rfl sz61 rfl rfl hC (Nat.le_of_ble_eq_true rfl) rfl (fun w hnew hg hsz => ?_)
  have hm0 := ModT.put0 hC hg
  have hB0 := hB0.mod hm0 rfl
  have hB1 := hB1.mod hm0 rfl
  have hC := hnew
  clear hm0
  refine L.nil ?_
  repeat (first | refine T.nrm ?_ | refine B.nrm ?_)
  refine ends.none (.inl rfl) rfl ?_
  exact ⟨hC, hg⟩

theorem arset (cb wb : Nat) (obj num : Int) (av : Value) (s : Int) (ra : Option Addr) (rn : Nat) (rc : Nat) (tg : Int) (s2 : Int) (ra2 : Option Addr) (rn2 : Nat) (rc2 : Nat) (tg2 : Int) (w0 : World) (hC : Blk w0 cb #[.int .i64 obj, .int .i64 num, .pointer (some ⟨wb, 0, none⟩), .int .i64 s2, .slice ra2 rn2 rc2, .int .i64 tg2, av] 139) (hW : Blk w0 wb #[.bool false] 82) :
    C Try.prog 44 #[.pointer (some ⟨cb, 0, none⟩), .pointer none, .agg #[.int .i64 s, .slice ra rn rc, .int .i64 tg]] w0 fun _ w => Blk w cb #[.int .i64 obj, .int .i64 num, .pointer (some ⟨wb, 0, none⟩), .int .i64 s, .slice ra rn rc, .int .i64 tg, av] 139 ∧ w0.grownBy w (some cb) := by
  refine C.enter (n := 26) Try.func44 rfl rfl ?_
  have hgr := gr_refl w0 (some cb)
  refine W.seq ?_
  refine W.region rfl ?_
  refine L.box (cs := #[.pointer (some ⟨cb, 0, none⟩)]) rfl rfl (fun w b3 F3 => ?_)
  have lt3 : w0.heap.size ≤ b3 := by have h9 := F3.here; have h8 := hgr.size; omega
  have hgr := gr_step hgr F3.below
  have hW := hW.keep F3.below
  have hC := hC.keep F3.below
  have hB3 := F3.blk
  refine L.box (cs := #[.int .i64 s, .slice ra rn rc, .int .i64 tg]) rfl rfl (fun w b5 F5 => ?_)
  have lt5 : w0.heap.size ≤ b5 := by have h9 := F5.here; have h8 := hgr.size; omega
  have hgr := gr_step hgr F5.below
  have hW := hW.keep F5.below
  have hC := hC.keep F5.below
  have hB3 := hB3.keep F5.below
  have hB5 := F5.blk
  refine L.nil ?_
  show W _ _ _ _ _ _
  refine W.block ?_
  refine W.seq ?_
  refine W.region rfl ?_
  refine L.va (x_load rfl Try.underlying94 rfl (hB3.cellAt 0 (v := .pointer (some ⟨cb, 0, none⟩)) rfl)) ?_
  refine L.va (x_eqPtrNil rfl rfl Try.underlying94) ?_
  refine L.va (x_asB rfl) ?_
  refine L.nil ?_
  show W _ _ _ _ _ _
  refine W.condF rfl ?_
  refine W.seq ?_
  refine W.region rfl ?_
  refine L.va (x_load rfl Try.underlying94 rfl (hB3.cellAt 0 (v := .pointer (some ⟨cb, 0, none⟩)) rfl)) ?_
  refine L.va (x_nilCheck rfl) ?_
  refine L.va (x_field rfl Try.underlying139 rfl sz28 (by decide)) ?_
  refine L.va (x_load rfl Try.underlying28 rfl (hC.cellAt 2 (v := .pointer (some ⟨wb, 0, none⟩)) rfl)) ?_
  refine L.call (x_call1 rfl Try.func52 rfl nm52 rfl) (isreal_c wb w hW) ?_
  rintro _ w1 ⟨rfl, hw⟩
  rw [hw]
  clear hw w1
  refine L.va (x_asB rfl) ?_
  refine L.nil ?_
  show W _ _ _ _ _ _
  refine W.condF rfl ?_
  refine W.region rfl ?_
  refine L.va (x_load rfl Try.underlying94 rfl (hB3.cellAt 0 (v := .pointer (some ⟨cb, 0, none⟩)) rfl)) ?_
  refine L.va (x_nilCheck rfl) ?_
  refine L.va (x_field rfl Try.underlying139 rfl sz124 (by decide)) ?_
  refine L.va (x_loadAgg (cs := [.int .i64 obj, .int .i64 num]) rfl Try.underlying124 rfl sz124 rfl (hC.aggAt rfl)) ?_
  refine L.va (x_mvP rfl) ?_
  refine L.va (x_makeFuncL (l := [.tmp 5, .tmp 3]) (vs := [.pointer (some ⟨b5, 0, none⟩), .pointer (some ⟨b3, 0, none⟩)]) rfl) ?_
  refine L.call (x_call5 rfl rfl rfl rfl rfl Try.func53 rfl nm53 rfl) (place_nil (ys := #[.pointer (some ⟨b5, 0, none⟩), .pointer (some ⟨b3, 0, none⟩)]) Try.func64 rfl nm64 obj num 6 _ w (fun w' => Blk w' cb #[.int .i64 obj, .int .i64 num, .pointer (some ⟨wb, 0, none⟩), .int .i64 s, .slice ra rn rc, .int .i64 tg, av] 139 ∧ w.grownBy w' (some cb)) (fun w1 hb1 => (arset1 b5 b3 cb obj num _ av s ra rn rc tg s2 ra2 rn2 rc2 tg2 w1 (hB5.keep hb1) (hB3.keep hb1) (hC.keep hb1)).mono fun _ w' h => ⟨h.1, gr_trans (gr_step (gr_refl _ _) hb1) h.2⟩)) ?_
  rintro _ w ⟨hnew, hg⟩
  have hm0 := ModT.put0 hC hg
  have hgr := gr_trans hgr hg
  have hW := hW.mod hm0 rfl
  have hB3 := hB3.mod hm0 rfl
  have hB5 := hB5.mod hm0 rfl
  have hC := hnew
  clear hm0
  refine L.nil ?_
  refine B.nrm ?_
  repeat (first | refine T.nrm ?_ | refine B.nrm ?_)
  refine ends.none (.inl rfl) rfl ?_
  exact ⟨hC, hgr⟩

end Go.Proofs.Ytahcjihhkmolpaa
