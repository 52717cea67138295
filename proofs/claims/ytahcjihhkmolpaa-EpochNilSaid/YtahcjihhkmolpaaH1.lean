/- Cells and atomic pointers without a client: what each access returns. -/
import Derived.Test.YtahcjihhkmolpaaVc10
import Derived.Test.YtahcjihhkmolpaaFacts
namespace Go.Proofs.Ytahcjihhkmolpaa
open Go.Vc Go.RowKit

theorem buA_0 : Try.prog.built 82 [] = some #[.bool false] := by kernel_rfl
theorem buA_1 (x0 : Int) (x1 : Int) (x2 : Int) : Try.prog.built 161 [(0, .int .i64 x0), (1, .int .i64 x1), (2, .int .i64 x2)] = some #[.int .i64 x0, .int .i64 x1, .int .i64 x2] := by kernel_rfl
theorem buA_2 (x0 : Int) (x1 : Int) : Try.prog.built 124 [(0, .int .i64 x0), (1, .int .i64 x1)] = some #[.int .i64 x0, .int .i64 x1] := by kernel_rfl
theorem buA_3 (x0 : Int) (x1 : Int) (x2 : Option Addr) (x3 : Option Addr) (x4 : Nat) (x5 : Nat) : Try.prog.built 126 [(0, .agg #[.int .i64 x0, .int .i64 x1]), (1, .pointer x2), (2, .slice x3 x4 x5)] = some #[.int .i64 x0, .int .i64 x1, .pointer x2, .slice x3 x4 x5] := by kernel_rfl
theorem buA_4 (x0 : Int) (x1 : Int) (x2 : Option Addr) (x3 : Int) (x4 : Bool) (x5 : Int) : Try.prog.built 132 [(0, .agg #[.int .i64 x0, .int .i64 x1]), (1, .pointer x2), (2, .agg #[.int .i64 x3, .bool x4, .int .i64 x5])] = some #[.int .i64 x0, .int .i64 x1, .pointer x2, .int .i64 x3, .bool x4, .int .i64 x5] := by kernel_rfl
theorem num_c (x : Int) (w0 : World) : C Try.prog 10 #[.int .i64 x] w0 fun v w => v = .int .i64 x ∧ w = w0 := by
  refine C.enter (n := 4) Try.func10 rfl rfl ?_
  refine W.seq ?_
  refine W.region rfl ?_
  refine L.va (x_asI rfl) ?_
  refine L.nil ?_
  show W _ _ _ _ _ _
  refine W.seq ?_
  refine W.region rfl ?_
  refine L.va (x_mvI rfl) ?_
  refine L.va (x_asI rfl) ?_
  refine L.nil ?_
  show W _ _ _ _ _ _
  refine W.ret ?_
  repeat (first | refine T.ret ?_ | refine B.ret ?_)
  refine ends.one (.inr rfl) rfl ?_
  exact ⟨rfl, rfl⟩

theorem scripted_c (w0 : World) : C Try.prog 9 #[] w0 fun v w => ∃ wb, v = .pointer (some ⟨wb, 0, none⟩) ∧ w0.heap.size ≤ wb ∧ Blk w wb #[.bool false] 82 ∧ Below w0.heap.size w0 w := by
  refine C.enter (n := 3) Try.func9 rfl rfl ?_
  have hb : Below w0.heap.size w0 w0 := Below.refl _ _
  refine W.seq ?_
  refine W.region rfl ?_
  refine L.va (x_asP rfl) ?_
  refine L.nil ?_
  show W _ _ _ _ _ _
  refine W.seq ?_
  refine W.region rfl ?_
  refine L.va (x_build (parts := []) rfl buA_0) ?_
  refine L.box (cs := #[.bool false]) rfl rfl (fun w b2 F2 => ?_)
  have lt2 : w0.heap.size ≤ b2 := by have h9 := F2.here; have h8 := hb.size; omega
  have hb := cl_step hb F2.below
  have hB2 := F2.blk
  refine L.va (x_asP rfl) ?_
  refine L.nil ?_
  show W _ _ _ _ _ _
  refine W.ret ?_
  repeat (first | refine T.ret ?_ | refine B.ret ?_)
  refine ends.one (.inr rfl) rfl ?_
  exact ⟨b2, rfl, lt2, hB2, hb⟩

theorem isreal_c (wb : Nat) (w0 : World) (hW : Blk w0 wb #[.bool false] 82) : C Try.prog 52 #[.pointer (some ⟨wb, 0, none⟩)] w0 fun v w => v = .bool false ∧ w = w0 := by
  refine C.enter (n := 11) Try.func52 rfl rfl ?_
  refine W.seq ?_
  refine W.region rfl ?_
  refine L.va (x_asB rfl) ?_
  refine L.nil ?_
  show W _ _ _ _ _ _
  refine W.seq ?_
  refine W.region rfl ?_
  refine L.va (x_mvP rfl) ?_
  refine L.va (x_neqPtrNil rfl rfl Try.underlying28) ?_
  refine L.va (x_mvB rfl) ?_
  refine L.on rfl ?_
  refine L.va (x_mvP rfl) ?_
  refine L.on rfl ?_
  refine L.va (x_nilCheck rfl) ?_
  refine L.on rfl ?_
  refine L.va (x_field rfl Try.underlying82 rfl sz4 (by decide)) ?_
  refine L.on rfl ?_
  refine L.va (x_load rfl Try.underlying4 rfl (hW.cellAt 0 (v := .bool false) rfl)) ?_
  refine L.va (x_pickT rfl) ?_
  refine L.va (x_asB rfl) ?_
  refine L.nil ?_
  show W _ _ _ _ _ _
  refine W.ret ?_
  repeat (first | refine T.ret ?_ | refine B.ret ?_)
  refine ends.one (.inr rfl) rfl ?_
  exact ⟨rfl, rfl⟩

theorem step_nil {f : FuncId} {fn : Func} {ys : Array Value} (hf : Try.prog.funcs[f]? = some fn) (hbd : fn.body.isSome = true) (hnm : (fn.name == "runtime.NumGoroutine") = false) (k o n : Int) (rd : Value) (w0 : World) (R : World → Prop) (hdo : ∀ w, Below w0.heap.size w0 w → C Try.prog f ys w fun _ w' => R w') :
    C Try.prog 70 #[.pointer none, .agg #[.int .i64 k, .int .i64 o, .int .i64 n], rd, .func (.func f) #[] ys] w0 fun _ w => R w := by
  refine C.enter (n := 63) Try.func70 rfl rfl ?_
  have hb : Below w0.heap.size w0 w0 := Below.refl _ _
  refine W.seq ?_
  refine W.region rfl ?_
  refine L.box (cs := #[.int .i64 k, .int .i64 o, .int .i64 n]) rfl rfl (fun w b5 F5 => ?_)
  have lt5 : w0.heap.size ≤ b5 := by have h9 := F5.here; have h8 := hb.size; omega
  have hb := cl_step hb F5.below
  have hB5 := F5.blk
  refine L.nil ?_
  show W _ _ _ _ _ _
  refine W.seq ?_
  refine W.seq ?_
  refine W.region rfl ?_
  refine L.va (x_mvP rfl) ?_
  refine L.va (x_eqPtrNil rfl rfl Try.underlying83) ?_
  refine L.nil ?_
  show W _ _ _ _ _ _
  refine W.condT rfl ?_
  refine W.seq ?_
  refine W.seq ?_
  refine W.region rfl ?_
  refine L.va (x_mvF rfl) ?_
  refine L.va (x_neqFnNil (v := .func (.func f) #[] ys) (b := true) rfl (.inr ⟨_, _, _, rfl, rfl⟩) rfl Try.underlying1 ⟨_, _, _, rfl⟩) ?_
  refine L.nil ?_
  show W _ _ _ _ _ _
  refine W.condT rfl ?_
  refine W.region rfl ?_
  refine L.va (x_mvF rfl) ?_
  refine L.call (x_callV0 rfl hf hbd hnm) (hdo _ hb) ?_
  rintro _ w hR
  refine L.nil ?_
  show W _ _ _ _ _ _
  refine W.ret ?_
  repeat (first | refine T.ret ?_ | refine B.ret ?_)
  refine ends.none (.inr rfl) rfl ?_
  exact hR

theorem place_nil {f : FuncId} {fn : Func} {ys : Array Value} (hf : Try.prog.funcs[f]? = some fn) (hbd : fn.body.isSome = true) (hnm : (fn.name == "runtime.NumGoroutine") = false) (o n k : Int) (rd : Value) (w0 : World) (R : World → Prop) (hdo : ∀ w, Below w0.heap.size w0 w → C Try.prog f ys w fun _ w' => R w') :
    C Try.prog 53 #[.agg #[.int .i64 o, .int .i64 n], .pointer none, .int .i64 k, rd, .func (.func f) #[] ys] w0 fun _ w => R w := by
  refine C.enter (n := 20) Try.func53 rfl rfl ?_
  have hb : Below w0.heap.size w0 w0 := Below.refl _ _
  refine W.seq ?_
  refine W.region rfl ?_
  refine L.box (cs := #[.int .i64 o, .int .i64 n]) rfl rfl (fun w b5 F5 => ?_)
  have lt5 : w0.heap.size ≤ b5 := by have h9 := F5.here; have h8 := hb.size; omega
  have hb := cl_step hb F5.below
  have hB5 := F5.blk
  refine L.nil ?_
  show W _ _ _ _ _ _
  refine W.region rfl ?_
  refine L.va (x_mvP rfl) ?_
  refine L.va (x_mvI rfl) ?_
  refine L.va (x_field rfl Try.underlying124 rfl sz3 (by decide)) ?_
  refine L.va (x_load rfl Try.underlying3 rfl (hB5.cellAt 0 (v := .int .i64 o) rfl)) ?_
  refine L.va (x_field rfl Try.underlying124 rfl sz3 (by decide)) ?_
  refine L.va (x_load rfl Try.underlying3 rfl (hB5.cellAt 1 (v := .int .i64 n) rfl)) ?_
  refine L.va (x_build (parts := [(0, .tmp 11), (1, .tmp 13), (2, .tmp 15)]) rfl (buA_1 k o n)) ?_
  refine L.va x_move ?_
  refine L.va (x_mvF rfl) ?_
  refine L.call (x_call4 rfl rfl rfl rfl Try.func70 rfl nm70 rfl) (step_nil hf hbd hnm k o n rd w R (fun w1 hb1 => hdo w1 (cl_step hb hb1))) ?_
  rintro _ w hR
  refine L.nil ?_
  repeat (first | refine T.nrm ?_ | refine B.nrm ?_)
  refine ends.none (.inl rfl) rfl ?_
  exact hR

theorem plget1 (b0 b1 cb : Nat) (obj num : Int) (q : Value) (pa : Option Addr) (pn : Nat) (pc : Nat) (qa : Option Addr) (qn : Nat) (qc : Nat) (w0 : World) (hB0 : Blk w0 b0 #[.pointer (some ⟨cb, 0, none⟩)] 68) (hB1 : Blk w0 b1 #[.slice qa qn qc] 49) (hC : Blk w0 cb #[.int .i64 obj, .int .i64 num, q, .slice pa pn pc] 126) :
    C Try.prog 54 #[.pointer (some ⟨b0, 0, none⟩), .pointer (some ⟨b1, 0, none⟩)] w0 fun _ w => Blk w b1 #[.slice pa pn pc] 49 ∧ w0.grownBy w (some b1) := by
  refine C.enter (n := 6) Try.func54 rfl rfl ?_
  refine W.region rfl ?_
  refine L.va (x_load rfl Try.underlying68 rfl (hB0.cellAt 0 (v := .pointer (some ⟨cb, 0, none⟩)) rfl)) ?_
  refine L.va (x_nilCheck rfl) ?_
  refine L.va (x_field rfl Try.underlying126 rfl sz49 (by decide)) ?_
  refine L.va (x_load rfl Try.underlying49 rfl (hC.cellAt 3 (v := .slice pa pn pc) rfl)) ?_
  refine L.put (b := b1) (o := 0) (vs := [.slice pa pn pc]) #[.slice pa pn pc] rfl rfl rfl sz49 rfl rfl hB1 (Nat.le_of_ble_eq_true rfl) rfl (fun w hnew hg hsz => ?_)
  have hm0 := ModT.put0 hB1 hg
  have hC := hC.mod hm0 rfl
  have hB0 := hB0.mod hm0 rfl
  have hB1 := hnew
  clear hm0
  refine L.nil ?_
  repeat (first | refine T.nrm ?_ | refine B.nrm ?_)
  refine ends.none (.inl rfl) rfl ?_
  exact ⟨hB1, hg⟩

theorem plget (cb wb : Nat) (obj num : Int) (pa : Option Addr) (pn : Nat) (pc : Nat) (w0 : World) (hC : Blk w0 cb #[.int .i64 obj, .int .i64 num, .pointer (some ⟨wb, 0, none⟩), .slice pa pn pc] 126) (hW : Blk w0 wb #[.bool false] 82) :
    C Try.prog 31 #[.pointer (some ⟨cb, 0, none⟩), .pointer none] w0 fun v w => v = .slice pa pn pc ∧ Below w0.heap.size w0 w := by
  refine C.enter (n := 26) Try.func31 rfl rfl ?_
  have hb : Below w0.heap.size w0 w0 := Below.refl _ _
  refine W.seq ?_
  refine W.region rfl ?_
  refine L.box (cs := #[.pointer (some ⟨cb, 0, none⟩)]) rfl rfl (fun w b2 F2 => ?_)
  have lt2 : w0.heap.size ≤ b2 := by have h9 := F2.here; have h8 := hb.size; omega
  have hb := cl_step hb F2.below
  have hW := hW.keep F2.below
  have hC := hC.keep F2.below
  have hB2 := F2.blk
  refine L.va (x_asS rfl) ?_
  refine L.nil ?_
  show W _ _ _ _ _ _
  refine W.seq ?_
  refine W.region rfl ?_
  refine L.alloc (cs := #[.slice none 0 0]) zr49 rfl (fun w b5 F5 => ?_)
  have lt5 : w0.heap.size ≤ b5 := by have h9 := F5.here; have h8 := hb.size; omega
  have hb := cl_step hb F5.below
  have hW := hW.keep F5.below
  have hC := hC.keep F5.below
  have hB2 := hB2.keep F5.below
  have hB5 := F5.blk
  refine L.nil ?_
  show W _ _ _ _ _ _
  refine W.seq ?_
  refine W.seq ?_
  refine W.region rfl ?_
  refine L.va (x_load rfl Try.underlying68 rfl (hB2.cellAt 0 (v := .pointer (some ⟨cb, 0, none⟩)) rfl)) ?_
  refine L.va (x_eqPtrNil rfl rfl Try.underlying68) ?_
  refine L.nil ?_
  show W _ _ _ _ _ _
  refine W.condF rfl ?_
  refine W.skip ?_
  show W _ _ _ _ _ _
  refine W.seq ?_
  refine W.seq ?_
  refine W.region rfl ?_
  refine L.va (x_load rfl Try.underlying68 rfl (hB2.cellAt 0 (v := .pointer (some ⟨cb, 0, none⟩)) rfl)) ?_
  refine L.va (x_nilCheck rfl) ?_
  refine L.va (x_field rfl Try.underlying126 rfl sz28 (by decide)) ?_
  refine L.va (x_load rfl Try.underlying28 rfl (hC.cellAt 2 (v := .pointer (some ⟨wb, 0, none⟩)) rfl)) ?_
  refine L.call (x_call1 rfl Try.func52 rfl nm52 rfl) (isreal_c wb w hW) ?_
  rintro _ w1 ⟨rfl, hw⟩
  rw [hw]
  clear hw w1
  refine L.nil ?_
  show W _ _ _ _ _ _
  refine W.condF rfl ?_
  refine W.skip ?_
  show W _ _ _ _ _ _
  refine W.seq ?_
  refine W.region rfl ?_
  refine L.va (x_load rfl Try.underlying68 rfl (hB2.cellAt 0 (v := .pointer (some ⟨cb, 0, none⟩)) rfl)) ?_
  refine L.va (x_nilCheck rfl) ?_
  refine L.va (x_field rfl Try.underlying126 rfl sz124 (by decide)) ?_
  refine L.va (x_loadAgg (cs := [.int .i64 obj, .int .i64 num]) rfl Try.underlying124 rfl sz124 rfl (hC.aggAt rfl)) ?_
  refine L.va (x_mvP rfl) ?_
  refine L.va (x_makeFuncL (l := [.tmp 2, .tmp 5]) (vs := [.pointer (some ⟨b2, 0, none⟩), .pointer (some ⟨b5, 0, none⟩)]) rfl) ?_
  refine L.call (x_call5 rfl rfl rfl rfl rfl Try.func53 rfl nm53 rfl) (place_nil (ys := #[.pointer (some ⟨b2, 0, none⟩), .pointer (some ⟨b5, 0, none⟩)]) Try.func54 rfl nm54 obj num 8 _ w (fun w' => Blk w' b5 #[.slice pa pn pc] 49 ∧ w.grownBy w' (some b5)) (fun w1 hb1 => (plget1 b2 b5 cb obj num _ pa pn pc _ _ _ w1 (hB2.keep hb1) (hB5.keep hb1) (hC.keep hb1)).mono fun _ w' h => ⟨h.1, gr_trans (gr_step (gr_refl _ _) hb1) h.2⟩)) ?_
  rintro _ w ⟨hnew, hg⟩
  have hm0 := ModT.put0 hB5 hg
  have hb := below_gr hb hb.size hg lt5
  have hW := hW.mod hm0 rfl
  have hC := hC.mod hm0 rfl
  have hB2 := hB2.mod hm0 rfl
  have hB5 := hnew
  clear hm0
  refine L.nil ?_
  show W _ _ _ _ _ _
  refine W.seq ?_
  refine W.region rfl ?_
  refine L.va (x_load rfl Try.underlying49 rfl (hB5.cellAt 0 (v := .slice pa pn pc) rfl)) ?_
  refine L.va (x_asS rfl) ?_
  refine L.nil ?_
  show W _ _ _ _ _ _
  refine W.ret ?_
  repeat (first | refine T.ret ?_ | refine B.ret ?_)
  refine ends.one (.inr rfl) rfl ?_
  exact ⟨rfl, hb⟩

theorem plset1 (b0 b1 cb : Nat) (obj num : Int) (q : Value) (pa : Option Addr) (pn : Nat) (pc : Nat) (qa : Option Addr) (qn : Nat) (qc : Nat) (w0 : World) (hB0 : Blk w0 b0 #[.slice pa pn pc] 49) (hB1 : Blk w0 b1 #[.pointer (some ⟨cb, 0, none⟩)] 68) (hC : Blk w0 cb #[.int .i64 obj, .int .i64 num, q, .slice qa qn qc] 126) :
    C Try.prog 55 #[.pointer (some ⟨b0, 0, none⟩), .pointer (some ⟨b1, 0, none⟩)] w0 fun _ w => Blk w cb #[.int .i64 obj, .int .i64 num, q, .slice pa pn pc] 126 ∧ w0.grownBy w (some cb) := by
  refine C.enter (n := 6) Try.func55 rfl rfl ?_
  refine W.region rfl ?_
  refine L.va (x_load rfl Try.underlying68 rfl (hB1.cellAt 0 (v := .pointer (some ⟨cb, 0, none⟩)) rfl)) ?_
  refine L.va (x_load rfl Try.underlying49 rfl (hB0.cellAt 0 (v := .slice pa pn pc) rfl)) ?_
  refine L.va (x_nilCheck rfl) ?_
  refine L.va (x_field rfl Try.underlying126 rfl sz49 (by decide)) ?_
  refine L.put (b := cb) (o := 3) (vs := [.slice pa pn pc]) #[.int .i64 obj, .int .i64 num, q, .slice pa pn pc] rfl rfl rfl sz49 rfl rfl hC (Nat.le_of_ble_eq_true rfl) rfl (fun w hnew hg hsz => ?_)
  have hm0 := ModT.put0 hC hg
  have hB0 := hB0.mod hm0 rfl
  have hB1 := hB1.mod hm0 rfl
  have hC := hnew
  clear hm0
  refine L.nil ?_
  repeat (first | refine T.nrm ?_ | refine B.nrm ?_)
  refine ends.none (.inl rfl) rfl ?_
  exact ⟨hC, hg⟩

theorem plset (cb wb : Nat) (obj num : Int) (pa : Option Addr) (pn : Nat) (pc : Nat) (qa : Option Addr) (qn : Nat) (qc : Nat) (w0 : World) (hC : Blk w0 cb #[.int .i64 obj, .int .i64 num, .pointer (some ⟨wb, 0, none⟩), .slice qa qn qc] 126) (hW : Blk w0 wb #[.bool false] 82) :
    C Try.prog 33 #[.pointer (some ⟨cb, 0, none⟩), .pointer none, .slice pa pn pc] w0 fun _ w => Blk w cb #[.int .i64 obj, .int .i64 num, .pointer (some ⟨wb, 0, none⟩), .slice pa pn pc] 126 ∧ w0.grownBy w (some cb) := by
  refine C.enter (n := 26) Try.func33 rfl rfl ?_
  have hgr := gr_refl w0 (some cb)
  refine W.seq ?_
  refine W.region rfl ?_
  refine L.box (cs := #[.pointer (some ⟨cb, 0, none⟩)]) rfl rfl (fun w b3 F3 => ?_)
  have lt3 : w0.heap.size ≤ b3 := by have h9 := F3.here; have h8 := hgr.size; omega
  have hgr := gr_step hgr F3.below
  have hW := hW.keep F3.below
  have hC := hC.keep F3.below
  have hB3 := F3.blk
  refine L.box (cs := #[.slice pa pn pc]) rfl rfl (fun w b5 F5 => ?_)
  have lt5 : w0.heap.size ≤ b5 := by have h9 := F5.here; have h8 := hgr.size; omega
  have hgr := gr_step hgr F5.below
  have hW := hW.keep F5.below
  have hC := hC.keep F5.below
  have hB3 := hB3.keep F5.below
  have hB5 := F5.blk
  refine L.nil ?_
  show W _ _ _ _ _ _
  refine W.block ?_
  refine W.seq ?_
  refine W.region rfl ?_
  refine L.va (x_load rfl Try.underlying68 rfl (hB3.cellAt 0 (v := .pointer (some ⟨cb, 0, none⟩)) rfl)) ?_
  refine L.va (x_eqPtrNil rfl rfl Try.underlying68) ?_
  refine L.va (x_asB rfl) ?_
  refine L.nil ?_
  show W _ _ _ _ _ _
  refine W.condF rfl ?_
  refine W.seq ?_
  refine W.region rfl ?_
  refine L.va (x_load rfl Try.underlying68 rfl (hB3.cellAt 0 (v := .pointer (some ⟨cb, 0, none⟩)) rfl)) ?_
  refine L.va (x_nilCheck rfl) ?_
  refine L.va (x_field rfl Try.underlying126 rfl sz28 (by decide)) ?_
  refine L.va (x_load rfl Try.underlying28 rfl (hC.cellAt 2 (v := .pointer (some ⟨wb, 0, none⟩)) rfl)) ?_
  refine L.call (x_call1 rfl Try.func52 rfl nm52 rfl) (isreal_c wb w hW) ?_
  rintro _ w1 ⟨rfl, hw⟩
  rw [hw]
  clear hw w1
  refine L.va (x_asB rfl) ?_
  refine L.nil ?_
  show W _ _ _ _ _ _
  refine W.condF rfl ?_
  refine W.region rfl ?_
  refine L.va (x_load rfl Try.underlying68 rfl (hB3.cellAt 0 (v := .pointer (some ⟨cb, 0, none⟩)) rfl)) ?_
  refine L.va (x_nilCheck rfl) ?_
  refine L.va (x_field rfl Try.underlying126 rfl sz124 (by decide)) ?_
  refine L.va (x_loadAgg (cs := [.int .i64 obj, .int .i64 num]) rfl Try.underlying124 rfl sz124 rfl (hC.aggAt rfl)) ?_
  refine L.va (x_mvP rfl) ?_
  refine L.va (x_makeFuncL (l := [.tmp 5, .tmp 3]) (vs := [.pointer (some ⟨b5, 0, none⟩), .pointer (some ⟨b3, 0, none⟩)]) rfl) ?_
  refine L.call (x_call5 rfl rfl rfl rfl rfl Try.func53 rfl nm53 rfl) (place_nil (ys := #[.pointer (some ⟨b5, 0, none⟩), .pointer (some ⟨b3, 0, none⟩)]) Try.func55 rfl nm55 obj num 9 _ w (fun w' => Blk w' cb #[.int .i64 obj, .int .i64 num, .pointer (some ⟨wb, 0, none⟩), .slice pa pn pc] 126 ∧ w.grownBy w' (some cb)) (fun w1 hb1 => (plset1 b5 b3 cb obj num _ pa pn pc qa qn qc w1 (hB5.keep hb1) (hB3.keep hb1) (hC.keep hb1)).mono fun _ w' h => ⟨h.1, gr_trans (gr_step (gr_refl _ _) hb1) h.2⟩)) ?_
  rintro _ w ⟨hnew, hg⟩
  have hm0 := ModT.put0 hC hg
  have hgr := gr_trans hgr hg
  have hW := hW.mod hm0 rfl
  have hB3 := hB3.mod hm0 rfl
  have hB5 := hB5.mod hm0 rfl
  have hC := hnew
  clear hm0
  refine L.nil ?_
  refine B.nrm ?_
  repeat (first | refine T.nrm ?_ | refine B.nrm ?_)
  refine ends.none (.inl rfl) rfl ?_
  exact ⟨hC, hgr⟩

theorem plnew (wb : Nat) (obj num : Int) (pa : Option Addr) (pn : Nat) (pc : Nat) (w0 : World) :
    C Try.prog 29 #[.pointer (some ⟨wb, 0, none⟩), .int .i64 obj, .int .i64 num, .slice pa pn pc] w0 fun v w => ∃ cb, v = .pointer (some ⟨cb, 0, none⟩) ∧ w0.heap.size ≤ cb ∧ Blk w cb #[.int .i64 obj, .int .i64 num, .pointer (some ⟨wb, 0, none⟩), .slice pa pn pc] 126 ∧ Below w0.heap.size w0 w := by
  refine C.enter (n := 16) Try.func29 rfl rfl ?_
  have hb : Below w0.heap.size w0 w0 := Below.refl _ _
  refine W.seq ?_
  refine W.region rfl ?_
  refine L.va (x_asP rfl) ?_
  refine L.nil ?_
  show W _ _ _ _ _ _
  refine W.seq ?_
  refine W.region rfl ?_
  refine L.va (x_mvI rfl) ?_
  refine L.va (x_mvI rfl) ?_
  refine L.va (x_build (parts := [(0, .tmp 9), (1, .tmp 10)]) rfl (buA_2 obj num)) ?_
  refine L.va (x_mvP rfl) ?_
  refine L.va (x_mvS rfl) ?_
  refine L.va (x_build (parts := [(0, .tmp 11), (1, .tmp 12), (2, .tmp 13)]) rfl (buA_3 obj num ((some (⟨wb, 0, none⟩))) pa pn pc)) ?_
  refine L.box (cs := #[.int .i64 obj, .int .i64 num, .pointer (some (⟨wb, 0, none⟩)), .slice pa pn pc]) rfl rfl (fun w b15 F15 => ?_)
  have lt15 : w0.heap.size ≤ b15 := by have h9 := F15.here; have h8 := hb.size; omega
  have hb := cl_step hb F15.below
  have hB15 := F15.blk
  refine L.va (x_asP rfl) ?_
  refine L.nil ?_
  show W _ _ _ _ _ _
  refine W.ret ?_
  repeat (first | refine T.ret ?_ | refine B.ret ?_)
  refine ends.one (.inr rfl) rfl ?_
  exact ⟨b15, rfl, lt15, hB15, hb⟩

theorem ndget1 (b0 b1 cb : Nat) (obj num : Int) (q : Value) (g : Int) (l : Bool) (x : Int) (g2 : Int) (l2 : Bool) (x2 : Int) (w0 : World) (hB0 : Blk w0 b0 #[.pointer (some ⟨cb, 0, none⟩)] 85) (hB1 : Blk w0 b1 #[.int .i64 g2, .bool l2, .int .i64 x2] 90) (hC : Blk w0 cb #[.int .i64 obj, .int .i64 num, q, .int .i64 g, .bool l, .int .i64 x] 132) :
    C Try.prog 58 #[.pointer (some ⟨b0, 0, none⟩), .pointer (some ⟨b1, 0, none⟩)] w0 fun _ w => Blk w b1 #[.int .i64 g, .bool l, .int .i64 x] 90 ∧ w0.grownBy w (some b1) := by
  refine C.enter (n := 6) Try.func58 rfl rfl ?_
  refine W.region rfl ?_
  refine L.va (x_load rfl Try.underlying85 rfl (hB0.cellAt 0 (v := .pointer (some ⟨cb, 0, none⟩)) rfl)) ?_
  refine L.va (x_nilCheck rfl) ?_
  refine L.va (x_field rfl Try.underlying132 rfl sz90 (by decide)) ?_
  refine L.va (x_loadAgg (cs := [.int .i64 g, .bool l, .int .i64 x]) rfl Try.underlying90 rfl sz90 rfl (hC.aggAt rfl)) ?_
  refine L.put (b := b1) (o := 0) (vs := [.int .i64 g, .bool l, .int .i64 x]) #[.int .i64 g, .bool l, .int .i64 x] rfl rfl rfl sz90 rfl rfl hB1 (Nat.le_of_ble_eq_true rfl) rfl (fun w hnew hg hsz => ?_)
  have hm0 := ModT.put0 hB1 hg
  have hC := hC.mod hm0 rfl
  have hB0 := hB0.mod hm0 rfl
  have hB1 := hnew
  clear hm0
  refine L.nil ?_
  repeat (first | refine T.nrm ?_ | refine B.nrm ?_)
  refine ends.none (.inl rfl) rfl ?_
  exact ⟨hB1, hg⟩

theorem ndget (cb wb : Nat) (obj num : Int) (g : Int) (l : Bool) (x : Int) (w0 : World) (hC : Blk w0 cb #[.int .i64 obj, .int .i64 num, .pointer (some ⟨wb, 0, none⟩), .int .i64 g, .bool l, .int .i64 x] 132) (hW : Blk w0 wb #[.bool false] 82) :
    C Try.prog 37 #[.pointer (some ⟨cb, 0, none⟩), .pointer none] w0 fun v w => v = .agg #[.int .i64 g, .bool l, .int .i64 x] ∧ Below w0.heap.size w0 w := by
  refine C.enter (n := 26) Try.func37 rfl rfl ?_
  have hb : Below w0.heap.size w0 w0 := Below.refl _ _
  refine W.seq ?_
  refine W.region rfl ?_
  refine L.box (cs := #[.pointer (some ⟨cb, 0, none⟩)]) rfl rfl (fun w b2 F2 => ?_)
  have lt2 : w0.heap.size ≤ b2 := by have h9 := F2.here; have h8 := hb.size; omega
  have hb := cl_step hb F2.below
  have hW := hW.keep F2.below
  have hC := hC.keep F2.below
  have hB2 := F2.blk
  refine L.alloc (cs := #[.int .i64 0, .bool false, .int .i64 0]) zr90 rfl (fun w b4 F4 => ?_)
  have lt4 : w0.heap.size ≤ b4 := by have h9 := F4.here; have h8 := hb.size; omega
  have hb := cl_step hb F4.below
  have hW := hW.keep F4.below
  have hC := hC.keep F4.below
  have hB2 := hB2.keep F4.below
  have hB4 := F4.blk
  refine L.nil ?_
  show W _ _ _ _ _ _
  refine W.seq ?_
  refine W.region rfl ?_
  refine L.alloc (cs := #[.int .i64 0, .bool false, .int .i64 0]) zr90 rfl (fun w b5 F5 => ?_)
  have lt5 : w0.heap.size ≤ b5 := by have h9 := F5.here; have h8 := hb.size; omega
  have ne5hB4 := F5.ne hB4
  have hb := cl_step hb F5.below
  have hW := hW.keep F5.below
  have hC := hC.keep F5.below
  have hB2 := hB2.keep F5.below
  have hB4 := hB4.keep F5.below
  have hB5 := F5.blk
  refine L.nil ?_
  show W _ _ _ _ _ _
  refine W.seq ?_
  refine W.seq ?_
  refine W.region rfl ?_
  refine L.va (x_load rfl Try.underlying85 rfl (hB2.cellAt 0 (v := .pointer (some ⟨cb, 0, none⟩)) rfl)) ?_
  refine L.va (x_eqPtrNil rfl rfl Try.underlying85) ?_
  refine L.nil ?_
  show W _ _ _ _ _ _
  refine W.condF rfl ?_
  refine W.skip ?_
  show W _ _ _ _ _ _
  refine W.seq ?_
  refine W.seq ?_
  refine W.region rfl ?_
  refine L.va (x_load rfl Try.underlying85 rfl (hB2.cellAt 0 (v := .pointer (some ⟨cb, 0, none⟩)) rfl)) ?_
  refine L.va (x_nilCheck rfl) ?_
  refine L.va (x_field rfl Try.underlying132 rfl sz28 (by decide)) ?_
  refine L.va (x_load rfl Try.underlying28 rfl (hC.cellAt 2 (v := .pointer (some ⟨wb, 0, none⟩)) rfl)) ?_
  refine L.call (x_call1 rfl Try.func52 rfl nm52 rfl) (isreal_c wb w hW) ?_
  rintro _ w1 ⟨rfl, hw⟩
  rw [hw]
  clear hw w1
  refine L.nil ?_
  show W _ _ _ _ _ _
  refine W.condF rfl ?_
  refine W.skip ?_
  show W _ _ _ _ _ _
  refine W.seq ?_
  refine W.region rfl ?_
  refine L.va (x_load rfl Try.underlying85 rfl (hB2.cellAt 0 (v := .pointer (some ⟨cb, 0, none⟩)) rfl)) ?_
  refine L.va (x_nilCheck rfl) ?_
  refine L.va (x_field rfl Try.underlying132 rfl sz124 (by decide)) ?_
  refine L.va (x_loadAgg (cs := [.int .i64 obj, .int .i64 num]) rfl Try.underlying124 rfl sz124 rfl (hC.aggAt rfl)) ?_
  refine L.va (x_mvP rfl) ?_
  refine L.va (x_makeFuncL (l := [.tmp 2, .tmp 5]) (vs := [.pointer (some ⟨b2, 0, none⟩), .pointer (some ⟨b5, 0, none⟩)]) rfl) ?_
  refine L.call (x_call5 rfl rfl rfl rfl rfl Try.func53 rfl nm53 rfl) (place_nil (ys := #[.pointer (some ⟨b2, 0, none⟩), .pointer (some ⟨b5, 0, none⟩)]) Try.func58 rfl nm58 obj num 8 _ w (fun w' => Blk w' b5 #[.int .i64 g, .bool l, .int .i64 x] 90 ∧ w.grownBy w' (some b5)) (fun w1 hb1 => (ndget1 b2 b5 cb obj num _ g l x _ _ _ w1 (hB2.keep hb1) (hB5.keep hb1) (hC.keep hb1)).mono fun _ w' h => ⟨h.1, gr_trans (gr_step (gr_refl _ _) hb1) h.2⟩)) ?_
  rintro _ w ⟨hnew, hg⟩
  have hm0 := ModT.put0 hB5 hg
  have hb := below_gr hb hb.size hg lt5
  have hW := hW.mod hm0 rfl
  have hC := hC.mod hm0 rfl
  have hB2 := hB2.mod hm0 rfl
  have hB4 := hB4.other hg ne5hB4
  have hB5 := hnew
  clear hm0
  refine L.nil ?_
  show W _ _ _ _ _ _
  refine W.seq ?_
  refine W.region rfl ?_
  refine L.va (x_loadAgg (cs := [.int .i64 g, .bool l, .int .i64 x]) rfl Try.underlying90 rfl sz90 rfl (hB5.aggAt rfl)) ?_
  refine L.put (b := b4) (o := 0) (vs := [.int .i64 g, .bool l, .int .i64 x]) #[.int .i64 g, .bool l, .int .i64 x] rfl rfl rfl sz90 rfl rfl hB4 (Nat.le_of_ble_eq_true rfl) rfl (fun w hnew hg hsz => ?_)
  have hm0 := ModT.put0 hB4 hg
  have hb := below_gr hb hb.size hg lt4
  have hW := hW.mod hm0 rfl
  have hC := hC.mod hm0 rfl
  have hB2 := hB2.mod hm0 rfl
  have hB5 := hB5.other hg (Ne.symm ne5hB4)
  have hB4 := hnew
  clear hm0
  refine L.nil ?_
  show W _ _ _ _ _ _
  refine W.ret ?_
  repeat (first | refine T.ret ?_ | refine B.ret ?_)
  refine ends.cell (cs := #[.int .i64 g, .bool l, .int .i64 x]) (.inr rfl) rfl rfl Try.underlying90 rfl sz90 hB4 ?_
  exact ⟨rfl, hb⟩

theorem ndset1 (b0 b1 cb : Nat) (obj num : Int) (q : Value) (g : Int) (l : Bool) (x : Int) (g2 : Int) (l2 : Bool) (x2 : Int) (w0 : World) (hB0 : Blk w0 b0 #[.int .i64 g, .bool l, .int .i64 x] 90) (hB1 : Blk w0 b1 #[.pointer (some ⟨cb, 0, none⟩)] 85) (hC : Blk w0 cb #[.int .i64 obj, .int .i64 num, q, .int .i64 g2, .bool l2, .int .i64 x2] 132) :
    C Try.prog 56 #[.pointer (some ⟨b0, 0, none⟩), .pointer (some ⟨b1, 0, none⟩)] w0 fun _ w => Blk w cb #[.int .i64 obj, .int .i64 num, q, .int .i64 g, .bool l, .int .i64 x] 132 ∧ w0.grownBy w (some cb) := by
  refine C.enter (n := 6) Try.func56 rfl rfl ?_
  refine W.region rfl ?_
  refine L.va (x_load rfl Try.underlying85 rfl (hB1.cellAt 0 (v := .pointer (some ⟨cb, 0, none⟩)) rfl)) ?_
  refine L.va (x_loadAgg (cs := [.int .i64 g, .bool l, .int .i64 x]) rfl Try.underlying90 rfl sz90 rfl (hB0.aggAt rfl)) ?_
  refine L.va (x_nilCheck rfl) ?_
  refine L.va (x_field rfl Try.underlying132 rfl sz90 (by decide)) ?_
  refine L.put (b := cb) (o := 3) (vs := [.int .i64 g, .bool l, .int .i64 x]) #[.int .i64 obj, .int .i64 num, q, .int .i64 g, .bool l, .int .i64 x] rfl rfl rfl sz90 rfl rfl hC (Nat.le_of_ble_eq_true rfl) rfl (fun w hnew hg hsz => ?_)
  have hm0 := ModT.put0 hC hg
  have hB0 := hB0.mod hm0 rfl
  have hB1 := hB1.mod hm0 rfl
  have hC := hnew
  clear hm0
  refine L.nil ?_
  repeat (first | refine T.nrm ?_ | refine B.nrm ?_)
  refine ends.none (.inl rfl) rfl ?_
  exact ⟨hC, hg⟩

theorem ndset (cb wb : Nat) (obj num : Int) (g : Int) (l : Bool) (x : Int) (g2 : Int) (l2 : Bool) (x2 : Int) (w0 : World) (hC : Blk w0 cb #[.int .i64 obj, .int .i64 num, .pointer (some ⟨wb, 0, none⟩), .int .i64 g2, .bool l2, .int .i64 x2] 132) (hW : Blk w0 wb #[.bool false] 82) :
    C Try.prog 34 #[.pointer (some ⟨cb, 0, none⟩), .pointer none, .agg #[.int .i64 g, .bool l, .int .i64 x]] w0 fun _ w => Blk w cb #[.int .i64 obj, .int .i64 num, .pointer (some ⟨wb, 0, none⟩), .int .i64 g, .bool l, .int .i64 x] 132 ∧ w0.grownBy w (some cb) := by
  refine C.enter (n := 26) Try.func34 rfl rfl ?_
  have hgr := gr_refl w0 (some cb)
  refine W.seq ?_
  refine W.region rfl ?_
  refine L.box (cs := #[.pointer (some ⟨cb, 0, none⟩)]) rfl rfl (fun w b3 F3 => ?_)
  have lt3 : w0.heap.size ≤ b3 := by have h9 := F3.here; have h8 := hgr.size; omega
  have hgr := gr_step hgr F3.below
  have hW := hW.keep F3.below
  have hC := hC.keep F3.below
  have hB3 := F3.blk
  refine L.box (cs := #[.int .i64 g, .bool l, .int .i64 x]) rfl rfl (fun w b5 F5 => ?_)
  have lt5 : w0.heap.size ≤ b5 := by have h9 := F5.here; have h8 := hgr.size; omega
  have hgr := gr_step hgr F5.below
  have hW := hW.keep F5.below
  have hC := hC.keep F5.below
  have hB3 := hB3.keep F5.below
  have hB5 := F5.blk
  refine L.nil ?_
  show W _ _ _ _ _ _
  refine W.block ?_
  refine W.seq ?_
  refine W.region rfl ?_
  refine L.va (x_load rfl Try.underlying85 rfl (hB3.cellAt 0 (v := .pointer (some ⟨cb, 0, none⟩)) rfl)) ?_
  refine L.va (x_eqPtrNil rfl rfl Try.underlying85) ?_
  refine L.va (x_asB rfl) ?_
  refine L.nil ?_
  show W _ _ _ _ _ _
  refine W.condF rfl ?_
  refine W.seq ?_
  refine W.region rfl ?_
  refine L.va (x_load rfl Try.underlying85 rfl (hB3.cellAt 0 (v := .pointer (some ⟨cb, 0, none⟩)) rfl)) ?_
  refine L.va (x_nilCheck rfl) ?_
  refine L.va (x_field rfl Try.underlying132 rfl sz28 (by decide)) ?_
  refine L.va (x_load rfl Try.underlying28 rfl (hC.cellAt 2 (v := .pointer (some ⟨wb, 0, none⟩)) rfl)) ?_
  refine L.call (x_call1 rfl Try.func52 rfl nm52 rfl) (isreal_c wb w hW) ?_
  rintro _ w1 ⟨rfl, hw⟩
  rw [hw]
  clear hw w1
  refine L.va (x_asB rfl) ?_
  refine L.nil ?_
  show W _ _ _ _ _ _
  refine W.condF rfl ?_
  refine W.region rfl ?_
  refine L.va (x_load rfl Try.underlying85 rfl (hB3.cellAt 0 (v := .pointer (some ⟨cb, 0, none⟩)) rfl)) ?_
  refine L.va (x_nilCheck rfl) ?_
  refine L.va (x_field rfl Try.underlying132 rfl sz124 (by decide)) ?_
  refine L.va (x_loadAgg (cs := [.int .i64 obj, .int .i64 num]) rfl Try.underlying124 rfl sz124 rfl (hC.aggAt rfl)) ?_
  refine L.va (x_mvP rfl) ?_
  refine L.va (x_makeFuncL (l := [.tmp 5, .tmp 3]) (vs := [.pointer (some ⟨b5, 0, none⟩), .pointer (some ⟨b3, 0, none⟩)]) rfl) ?_
  refine L.call (x_call5 rfl rfl rfl rfl rfl Try.func53 rfl nm53 rfl) (place_nil (ys := #[.pointer (some ⟨b5, 0, none⟩), .pointer (some ⟨b3, 0, none⟩)]) Try.func56 rfl nm56 obj num 9 _ w (fun w' => Blk w' cb #[.int .i64 obj, .int .i64 num, .pointer (some ⟨wb, 0, none⟩), .int .i64 g, .bool l, .int .i64 x] 132 ∧ w.grownBy w' (some cb)) (fun w1 hb1 => (ndset1 b5 b3 cb obj num _ g l x g2 l2 x2 w1 (hB5.keep hb1) (hB3.keep hb1) (hC.keep hb1)).mono fun _ w' h => ⟨h.1, gr_trans (gr_step (gr_refl _ _) hb1) h.2⟩)) ?_
  rintro _ w ⟨hnew, hg⟩
  have hm0 := ModT.put0 hC hg
  have hgr := gr_trans hgr hg
  have hW := hW.mod hm0 rfl
  have hB3 := hB3.mod hm0 rfl
  have hB5 := hB5.mod hm0 rfl
  have hC := hnew
  clear hm0
  refine L.nil ?_
  refine B.nrm ?_
  repeat (first | refine T.nrm ?_ | refine B.nrm ?_)
  refine ends.none (.inl rfl) rfl ?_
  exact ⟨hC, hgr⟩

theorem ndnew (wb : Nat) (obj num : Int) (g : Int) (l : Bool) (x : Int) (w0 : World) :
    C Try.prog 36 #[.pointer (some ⟨wb, 0, none⟩), .int .i64 obj, .int .i64 num, .agg #[.int .i64 g, .bool l, .int .i64 x]] w0 fun v w => ∃ cb, v = .pointer (some ⟨cb, 0, none⟩) ∧ w0.heap.size ≤ cb ∧ Blk w cb #[.int .i64 obj, .int .i64 num, .pointer (some ⟨wb, 0, none⟩), .int .i64 g, .bool l, .int .i64 x] 132 ∧ Below w0.heap.size w0 w := by
  refine C.enter (n := 16) Try.func36 rfl rfl ?_
  have hb : Below w0.heap.size w0 w0 := Below.refl _ _
  refine W.seq ?_
  refine W.region rfl ?_
  refine L.box (cs := #[.int .i64 g, .bool l, .int .i64 x]) rfl rfl (fun w b7 F7 => ?_)
  have lt7 : w0.heap.size ≤ b7 := by have h9 := F7.here; have h8 := hb.size; omega
  have hb := cl_step hb F7.below
  have hB7 := F7.blk
  refine L.va (x_asP rfl) ?_
  refine L.nil ?_
  show W _ _ _ _ _ _
  refine W.seq ?_
  refine W.region rfl ?_
  refine L.va (x_mvI rfl) ?_
  refine L.va (x_mvI rfl) ?_
  refine L.va (x_build (parts := [(0, .tmp 9), (1, .tmp 10)]) rfl (buA_2 obj num)) ?_
  refine L.va (x_mvP rfl) ?_
  refine L.va (x_loadAgg (cs := [.int .i64 g, .bool l, .int .i64 x]) rfl Try.underlying90 rfl sz90 rfl (hB7.aggAt rfl)) ?_
  refine L.va (x_build (parts := [(0, .tmp 11), (1, .tmp 12), (2, .tmp 13)]) rfl (buA_4 obj num ((some (⟨wb, 0, none⟩))) g l x)) ?_
  refine L.box (cs := #[.int .i64 obj, .int .i64 num, .pointer (some (⟨wb, 0, none⟩)), .int .i64 g, .bool l, .int .i64 x]) rfl rfl (fun w b15 F15 => ?_)
  have lt15 : w0.heap.size ≤ b15 := by have h9 := F15.here; have h8 := hb.size; omega
  have hb := cl_step hb F15.below
  have hB7 := hB7.keep F15.below
  have hB15 := F15.blk
  refine L.va (x_asP rfl) ?_
  refine L.nil ?_
  show W _ _ _ _ _ _
  refine W.ret ?_
  repeat (first | refine T.ret ?_ | refine B.ret ?_)
  refine ends.one (.inr rfl) rfl ?_
  exact ⟨b15, rfl, lt15, hB15, hb⟩

end Go.Proofs.Ytahcjihhkmolpaa
