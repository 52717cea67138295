/- HeapNil and HeapCounts: what the Go text returns. -/
import Derived.Test.YtahcjihhkmolpaaH4
namespace Go.Proofs.Ytahcjihhkmolpaa
open Go.Vc Go.RowKit
theorem eqB {ρ : Operand → Value} {w : World} {d : Option Nat} {ty T' : TypeId} {ps : String} {af : Array Edge} {g : Option (Nat × Bool)} {x y : Operand} {b c r : Bool} (hr : (b == c) = r) (hx : ρ x = .bool b) (hy : ρ y = .bool c) :
    (execOp ρ ⟨d, .binOp .eql 4 x y T', ty, ps, af, g⟩).run Try.prog w = .ok (.value (.bool r)) w := by
  subst hr
  have h1 : (Op.equalIn 10000 4 (.bool b) (.bool c)).run Try.prog w = .ok (b == c) w := run_equalIn_bool w 9999 4 b c Try.underlying4
  have h2 : (eqGuard .eql 4 x y (.bool b) (.bool c)).run Try.prog w = .ok () w := by simp [eqGuard]
  have h3 : (binOp .eql 4 (.bool b) (.bool c)).run Try.prog w = .ok (.bool (b == c)) w := by
    simp only [binOp, Op.equal, Op.maxDepth, Sem.run_bind, h1, Result.andThen_ok, Sem.run_pure]
  simp only [execOp, hx, hy, Sem.run_bind, h2, h3, Result.andThen_ok, Sem.run_pure]
theorem neB {ρ : Operand → Value} {w : World} {d : Option Nat} {ty T' : TypeId} {ps : String} {af : Array Edge} {g : Option (Nat × Bool)} {x y : Operand} {b c r : Bool} (hr : (b != c) = r) (hx : ρ x = .bool b) (hy : ρ y = .bool c) :
    (execOp ρ ⟨d, .binOp .neq 4 x y T', ty, ps, af, g⟩).run Try.prog w = .ok (.value (.bool r)) w := by
  subst hr
  have h1 : (Op.equalIn 10000 4 (.bool b) (.bool c)).run Try.prog w = .ok (b == c) w := run_equalIn_bool w 9999 4 b c Try.underlying4
  have h2 : (eqGuard .neq 4 x y (.bool b) (.bool c)).run Try.prog w = .ok () w := by simp [eqGuard]
  have h3 : (binOp .neq 4 (.bool b) (.bool c)).run Try.prog w = .ok (.bool (b != c)) w := by
    simp only [binOp, Op.equal, Op.maxDepth, Sem.run_bind, h1, Result.andThen_ok, Sem.run_pure]; rfl
  simp only [execOp, hx, hy, Sem.run_bind, h2, h3, Result.andThen_ok, Sem.run_pure]

theorem buE_0 : Try.prog.built 35 [] = some #[.int .i64 0, .int .i64 0] := by kernel_rfl
theorem buE_1 (x0 : Int) (x1 : Int) : Try.prog.built 35 [(0, .int .i64 x0), (1, .int .i64 x1)] = some #[.int .i64 x0, .int .i64 x1] := by kernel_rfl
theorem alloc_nil (v : Int) (w0 : World) : C Try.prog 12 #[.pointer none, .pointer none, .int .i64 v] w0 fun r w => r = .tuple #[.agg #[.int .i64 0, .int .i64 0], .int .i64 0] ∧ Below w0.heap.size w0 w := by
  refine C.enter (n := 102) Try.func12 rfl rfl ?_
  have hb : Below w0.heap.size w0 w0 := Below.refl _ _
  refine W.seq ?_
  refine W.region rfl ?_
  refine L.alloc (cs := #[.int .i64 0, .int .i64 0]) zr35 rfl (fun w b6 F6 => ?_)
  have lt6 : w0.heap.size ≤ b6 := by have h9 := F6.here; have h8 := hb.size; omega
  have hb := cl_step hb F6.below
  have hB6 := F6.blk
  refine L.va (x_asI rfl) ?_
  refine L.nil ?_
  show W _ _ _ _ _ _
  refine W.seq ?_
  refine W.seq ?_
  refine W.region rfl ?_
  refine L.va (x_mvP rfl) ?_
  refine L.va (x_eqPtrNil rfl rfl Try.underlying24) ?_
  refine L.nil ?_
  show W _ _ _ _ _ _
  refine W.condT rfl ?_
  refine W.seq ?_
  refine W.region rfl ?_
  refine L.va (x_build (parts := []) rfl buE_0) ?_
  refine L.put (b := b6) (o := 0) (vs := [.int .i64 0, .int .i64 0]) #[.int .i64 0, .int .i64 0] rfl rfl rfl sz35 rfl rfl hB6 (Nat.le_of_ble_eq_true rfl) rfl (fun w hnew hg hsz => ?_)
  have hm0 := ModT.put0 hB6 hg
  have hb := below_gr hb hb.size hg lt6
  have hB6 := hnew
  clear hm0
  refine L.va (x_asI rfl) ?_
  refine L.nil ?_
  show W _ _ _ _ _ _
  refine W.ret ?_
  repeat (first | refine T.ret ?_ | refine B.ret ?_)
  refine ends.cellTmp (cs := #[.int .i64 0, .int .i64 0]) (.inr rfl) rfl rfl Try.underlying35 rfl sz35 hB6 ?_
  exact ⟨rfl, hb⟩

theorem get_nil (a b : Int) (w0 : World) : C Try.prog 14 #[.pointer none, .pointer none, .agg #[.int .i64 a, .int .i64 b]] w0 fun r w => r = .tuple #[.int .i64 0, .bool false] ∧ Below w0.heap.size w0 w := by
  refine C.enter (n := 37) Try.func14 rfl rfl ?_
  have hb : Below w0.heap.size w0 w0 := Below.refl _ _
  refine W.seq ?_
  refine W.region rfl ?_
  refine L.box (cs := #[.int .i64 a, .int .i64 b]) rfl rfl (fun w b5 F5 => ?_)
  have lt5 : w0.heap.size ≤ b5 := by have h9 := F5.here; have h8 := hb.size; omega
  have hb := cl_step hb F5.below
  have hB5 := F5.blk
  refine L.va (x_asI rfl) ?_
  refine L.va (x_asB rfl) ?_
  refine L.nil ?_
  show W _ _ _ _ _ _
  refine W.seq ?_
  refine W.region rfl ?_
  refine L.va (x_asI rfl) ?_
  refine L.nil ?_
  show W _ _ _ _ _ _
  refine W.seq ?_
  refine W.seq ?_
  refine W.region rfl ?_
  refine L.va (x_mvP rfl) ?_
  refine L.va (x_eqPtrNil rfl rfl Try.underlying24) ?_
  refine L.nil ?_
  show W _ _ _ _ _ _
  refine W.condT rfl ?_
  refine W.seq ?_
  refine W.region rfl ?_
  refine L.va (x_mvI rfl) ?_
  refine L.va (x_asI rfl) ?_
  refine L.va (x_asB rfl) ?_
  refine L.nil ?_
  show W _ _ _ _ _ _
  refine W.ret ?_
  repeat (first | refine T.ret ?_ | refine B.ret ?_)
  refine ends.two (.inr rfl) rfl ?_
  exact ⟨rfl, hb⟩

theorem free_nil (a b : Int) (w0 : World) : C Try.prog 13 #[.pointer none, .pointer none, .agg #[.int .i64 a, .int .i64 b]] w0 fun r w => r = .bool false ∧ Below w0.heap.size w0 w := by
  refine C.enter (n := 65) Try.func13 rfl rfl ?_
  have hb : Below w0.heap.size w0 w0 := Below.refl _ _
  refine W.seq ?_
  refine W.region rfl ?_
  refine L.box (cs := #[.int .i64 a, .int .i64 b]) rfl rfl (fun w b5 F5 => ?_)
  have lt5 : w0.heap.size ≤ b5 := by have h9 := F5.here; have h8 := hb.size; omega
  have hb := cl_step hb F5.below
  have hB5 := F5.blk
  refine L.va (x_asB rfl) ?_
  refine L.nil ?_
  show W _ _ _ _ _ _
  refine W.seq ?_
  refine W.seq ?_
  refine W.region rfl ?_
  refine L.va (x_mvP rfl) ?_
  refine L.va (x_eqPtrNil rfl rfl Try.underlying24) ?_
  refine L.nil ?_
  show W _ _ _ _ _ _
  refine W.condT rfl ?_
  refine W.seq ?_
  refine W.region rfl ?_
  refine L.va (x_asB rfl) ?_
  refine L.nil ?_
  show W _ _ _ _ _ _
  refine W.ret ?_
  repeat (first | refine T.ret ?_ | refine B.ret ?_)
  refine ends.one (.inr rfl) rfl ?_
  exact ⟨rfl, hb⟩

theorem made_nil (w0 : World) : C Try.prog 16 #[.pointer none] w0 fun r w => r = .int .i64 0 ∧ Below w0.heap.size w0 w := by
  refine C.enter (n := 12) Try.func16 rfl rfl ?_
  have hb : Below w0.heap.size w0 w0 := Below.refl _ _
  refine W.seq ?_
  refine W.region rfl ?_
  refine L.va (x_asI rfl) ?_
  refine L.nil ?_
  show W _ _ _ _ _ _
  refine W.seq ?_
  refine W.seq ?_
  refine W.region rfl ?_
  refine L.va (x_mvP rfl) ?_
  refine L.va (x_eqPtrNil rfl rfl Try.underlying24) ?_
  refine L.nil ?_
  show W _ _ _ _ _ _
  refine W.condT rfl ?_
  refine W.seq ?_
  refine W.region rfl ?_
  refine L.va (x_asI rfl) ?_
  refine L.nil ?_
  show W _ _ _ _ _ _
  refine W.ret ?_
  repeat (first | refine T.ret ?_ | refine B.ret ?_)
  refine ends.one (.inr rfl) rfl ?_
  exact ⟨rfl, hb⟩

theorem pooled_nil (w0 : World) : C Try.prog 17 #[.pointer none] w0 fun r w => r = .int .i64 0 ∧ Below w0.heap.size w0 w := by
  refine C.enter (n := 11) Try.func17 rfl rfl ?_
  have hb : Below w0.heap.size w0 w0 := Below.refl _ _
  refine W.seq ?_
  refine W.region rfl ?_
  refine L.va (x_asI rfl) ?_
  refine L.nil ?_
  show W _ _ _ _ _ _
  refine W.seq ?_
  refine W.seq ?_
  refine W.region rfl ?_
  refine L.va (x_mvP rfl) ?_
  refine L.va (x_eqPtrNil rfl rfl Try.underlying24) ?_
  refine L.nil ?_
  show W _ _ _ _ _ _
  refine W.condT rfl ?_
  refine W.seq ?_
  refine W.region rfl ?_
  refine L.va (x_asI rfl) ?_
  refine L.nil ?_
  show W _ _ _ _ _ _
  refine W.ret ?_
  repeat (first | refine T.ret ?_ | refine B.ret ?_)
  refine ends.one (.inr rfl) rfl ?_
  exact ⟨rfl, hb⟩

theorem live_nil (w0 : World) : C Try.prog 15 #[.pointer none] w0 fun r w => r = .int .i64 0 ∧ Below w0.heap.size w0 w := by
  refine C.enter (n := 8) Try.func15 rfl rfl ?_
  have hb : Below w0.heap.size w0 w0 := Below.refl _ _
  refine W.seq ?_
  refine W.region rfl ?_
  refine L.va (x_asI rfl) ?_
  refine L.nil ?_
  show W _ _ _ _ _ _
  refine W.seq ?_
  refine W.region rfl ?_
  refine L.va (x_mvP rfl) ?_
  refine L.call (x_call1 rfl Try.func16 rfl nm16 rfl) (made_nil w0) ?_
  rintro _ w ⟨rfl, hbw⟩
  have hb := cl_step hb hbw
  refine L.va (x_mvP rfl) ?_
  refine L.call (x_call1 rfl Try.func17 rfl nm17 rfl) (pooled_nil w) ?_
  rintro _ w ⟨rfl, hbw⟩
  have hb := cl_step hb hbw
  refine L.va (x_subI rfl rfl (by omega)) ?_
  refine L.va (x_asI rfl) ?_
  refine L.nil ?_
  show W _ _ _ _ _ _
  refine W.ret ?_
  repeat (first | refine T.ret ?_ | refine B.ret ?_)
  refine ends.one (.inr rfl) rfl ?_
  exact ⟨rfl, hb⟩

theorem gen_nil (z : Int) (w0 : World) : C Try.prog 18 #[.pointer none, .int .i64 z] w0 fun r w => r = .int .i64 0 ∧ Below w0.heap.size w0 w := by
  refine C.enter (n := 16) Try.func18 rfl rfl ?_
  have hb : Below w0.heap.size w0 w0 := Below.refl _ _
  refine W.seq ?_
  refine W.region rfl ?_
  refine L.va (x_asI rfl) ?_
  refine L.nil ?_
  show W _ _ _ _ _ _
  refine W.seq ?_
  refine W.seq ?_
  refine W.region rfl ?_
  refine L.va (x_mvP rfl) ?_
  refine L.va (x_eqPtrNil rfl rfl Try.underlying24) ?_
  refine L.nil ?_
  show W _ _ _ _ _ _
  refine W.condT rfl ?_
  refine W.seq ?_
  refine W.region rfl ?_
  refine L.va (x_asI rfl) ?_
  refine L.nil ?_
  show W _ _ _ _ _ _
  refine W.ret ?_
  repeat (first | refine T.ret ?_ | refine B.ret ?_)
  refine ends.one (.inr rfl) rfl ?_
  exact ⟨rfl, hb⟩

theorem nil_l (w0 : World) : C Try.prog 5 #[] w0 fun v w => v = .bool true ∧ Below w0.heap.size w0 w := by
  refine C.enter (n := 62) Try.func5 rfl rfl ?_
  have hb : Below w0.heap.size w0 w0 := Below.refl _ _
  refine W.seq ?_
  refine W.region rfl ?_
  refine L.va (x_asB rfl) ?_
  refine L.nil ?_
  show W _ _ _ _ _ _
  refine W.seq ?_
  refine W.region rfl ?_
  refine L.va (x_asP rfl) ?_
  refine L.nil ?_
  show W _ _ _ _ _ _
  refine W.seq ?_
  refine W.region rfl ?_
  refine L.va (x_mvP rfl) ?_
  refine L.call (x_call3 rfl rfl rfl Try.func12 rfl nm12 rfl) (alloc_nil 1 w0) ?_
  rintro _ w ⟨rfl, hbw⟩
  have hb := cl_step hb hbw
  refine L.va (x_mvT rfl) ?_
  refine L.va (x_extract rfl rfl) ?_
  refine L.va (x_extract rfl rfl) ?_
  refine L.alloc (cs := #[.int .i64 0, .int .i64 0]) zr35 rfl (fun w b2 F2 => ?_)
  have lt2 : w0.heap.size ≤ b2 := by have h9 := F2.here; have h8 := hb.size; omega
  have hb := cl_step hb F2.below
  have hB2 := F2.blk
  refine L.put (b := b2) (o := 0) (vs := [.int .i64 0, .int .i64 0]) #[.int .i64 0, .int .i64 0] rfl rfl rfl sz35 rfl rfl hB2 (Nat.le_of_ble_eq_true rfl) rfl (fun w hnew hg hsz => ?_)
  have hm0 := ModT.put0 hB2 hg
  have hb := below_gr hb hb.size hg lt2
  have hB2 := hnew
  clear hm0
  refine L.va (x_asI rfl) ?_
  refine L.nil ?_
  show W _ _ _ _ _ _
  refine W.seq ?_
  refine W.region rfl ?_
  refine L.va (x_mvP rfl) ?_
  refine L.va (x_build (parts := [(0, .const (.int .i64 1)), (1, .const (.int .i64 1))]) rfl (buE_1 1 1)) ?_
  refine L.call (x_call3 rfl rfl rfl Try.func14 rfl nm14 rfl) (get_nil 1 1 w) ?_
  rintro _ w ⟨rfl, hbw⟩
  have hb := cl_step hb hbw
  have hB2 := hB2.keep hbw
  refine L.va (x_mvT rfl) ?_
  refine L.va (x_extract rfl rfl) ?_
  refine L.va (x_extract rfl rfl) ?_
  refine L.va (x_asI rfl) ?_
  refine L.va (x_asB rfl) ?_
  refine L.nil ?_
  show W _ _ _ _ _ _
  refine W.seq ?_
  refine W.region rfl ?_
  refine L.call (x_call0  Try.func7 rfl nm7 rfl) (live_c w) ?_
  rintro _ w ⟨rfl, hbw⟩
  have hb := cl_step hb hbw
  have hB2 := hB2.keep hbw
  refine L.va (x_mvB rfl) ?_
  refine L.on rfl ?_
  refine L.va (x_loadAgg (cs := [.int .i64 0, .int .i64 0]) rfl Try.underlying35 rfl sz35 rfl (hB2.aggAt rfl)) ?_
  refine L.on rfl ?_
  refine L.va (x_build (parts := []) rfl buE_0) ?_
  refine L.on rfl ?_
  refine L.va (eq35 0 0 0 0 (r := true) (by decide) rfl rfl) ?_
  refine L.va (x_pickT rfl) ?_
  refine L.va (x_mvB rfl) ?_
  refine L.on rfl ?_
  refine L.va (x_mvI rfl) ?_
  refine L.on rfl ?_
  refine L.call (x_call1 rfl Try.func10 rfl nm10 rfl) (num_c _ w) ?_
  rintro _ w1 ⟨rfl, hw⟩
  rw [hw]
  clear hw w1
  refine L.on rfl ?_
  refine L.va (x_eql rfl rfl) ?_
  refine L.va (x_pickT rfl) ?_
  refine L.va (x_mvB rfl) ?_
  refine L.on rfl ?_
  refine L.va (x_mvI rfl) ?_
  refine L.on rfl ?_
  refine L.va (x_eql rfl rfl) ?_
  refine L.va (x_pickT rfl) ?_
  refine L.va (x_mvB rfl) ?_
  refine L.on rfl ?_
  refine L.va (x_mvB rfl) ?_
  refine L.on rfl ?_
  refine L.va (x_not rfl) ?_
  refine L.va (x_pickT rfl) ?_
  refine L.va (x_mvB rfl) ?_
  refine L.on rfl ?_
  refine L.va (x_mvP rfl) ?_
  refine L.on rfl ?_
  refine L.va (x_loadAgg (cs := [.int .i64 0, .int .i64 0]) rfl Try.underlying35 rfl sz35 rfl (hB2.aggAt rfl)) ?_
  refine L.on rfl ?_
  refine L.call (x_call3 rfl rfl rfl Try.func13 rfl nm13 rfl) (free_nil 0 0 w) ?_
  rintro _ w ⟨rfl, hbw⟩
  have hb := cl_step hb hbw
  have hB2 := hB2.keep hbw
  refine L.on rfl ?_
  refine L.va (x_not rfl) ?_
  refine L.va (x_pickT rfl) ?_
  refine L.va (x_mvB rfl) ?_
  refine L.on rfl ?_
  refine L.va (x_mvP rfl) ?_
  refine L.on rfl ?_
  refine L.call (x_call1 rfl Try.func16 rfl nm16 rfl) (made_nil w) ?_
  rintro _ w ⟨rfl, hbw⟩
  have hb := cl_step hb hbw
  have hB2 := hB2.keep hbw
  refine L.on rfl ?_
  refine L.va (x_eql rfl rfl) ?_
  refine L.va (x_pickT rfl) ?_
  refine L.va (x_mvB rfl) ?_
  refine L.on rfl ?_
  refine L.va (x_mvP rfl) ?_
  refine L.on rfl ?_
  refine L.call (x_call1 rfl Try.func17 rfl nm17 rfl) (pooled_nil w) ?_
  rintro _ w ⟨rfl, hbw⟩
  have hb := cl_step hb hbw
  have hB2 := hB2.keep hbw
  refine L.on rfl ?_
  refine L.va (x_eql rfl rfl) ?_
  refine L.va (x_pickT rfl) ?_
  refine L.va (x_mvB rfl) ?_
  refine L.on rfl ?_
  refine L.va (x_mvP rfl) ?_
  refine L.on rfl ?_
  refine L.call (x_call1 rfl Try.func15 rfl nm15 rfl) (live_nil w) ?_
  rintro _ w ⟨rfl, hbw⟩
  have hb := cl_step hb hbw
  have hB2 := hB2.keep hbw
  refine L.on rfl ?_
  refine L.va (x_eql rfl rfl) ?_
  refine L.va (x_pickT rfl) ?_
  refine L.va (x_mvB rfl) ?_
  refine L.on rfl ?_
  refine L.va (x_mvP rfl) ?_
  refine L.on rfl ?_
  refine L.call (x_call2 rfl rfl Try.func18 rfl nm18 rfl) (gen_nil 1 w) ?_
  rintro _ w ⟨rfl, hbw⟩
  have hb := cl_step hb hbw
  have hB2 := hB2.keep hbw
  refine L.on rfl ?_
  refine L.va (x_eql rfl rfl) ?_
  refine L.va (x_pickT rfl) ?_
  refine L.va (x_asB rfl) ?_
  refine L.nil ?_
  show W _ _ _ _ _ _
  refine W.ret ?_
  repeat (first | refine T.ret ?_ | refine B.ret ?_)
  refine ends.one (.inr rfl) rfl ?_
  exact ⟨rfl, hb⟩

end Go.Proofs.Ytahcjihhkmolpaa
