/- A heap's calls without a client: what each returns, and what becomes of the heap. -/
import Derived.Test.YtahcjihhkmolpaaHB
namespace Go.Proofs.Ytahcjihhkmolpaa
open Go.Vc Go.RowKit

theorem buB_0 (x0 : Option Addr) (x1 : Int) (x2 : Int) (x3 : Option Addr) : Try.prog.built 78 [(0, .pointer x0), (1, .int .i64 x1), (2, .int .i64 x2), (3, .pointer x3)] = some #[.pointer x0, .int .i64 x1, .int .i64 x2, .pointer x3, .pointer none] := by kernel_rfl
theorem buB_1 : Try.prog.built 35 [] = some #[.int .i64 0, .int .i64 0] := by kernel_rfl
theorem buB_2 : Try.prog.built 90 [] = some #[.int .i64 0, .bool false, .int .i64 0] := by kernel_rfl
theorem buB_3 (x0 : Int) (x1 : Bool) (x2 : Int) : Try.prog.built 90 [(0, .int .i64 x0), (1, .bool x1), (2, .int .i64 x2)] = some #[.int .i64 x0, .bool x1, .int .i64 x2] := by kernel_rfl
theorem buB_4 (x0 : Int) (x1 : Int) : Try.prog.built 35 [(0, .int .i64 x0), (1, .int .i64 x1)] = some #[.int .i64 x0, .int .i64 x1] := by kernel_rfl
theorem storep_c (hp lb : Nat) (a b c d e f : Value) (w0 : World) (hH : Blk w0 hp #[a, b, c, d, e] 78) (hL : Blk w0 lb #[f] 80) :
    C Try.prog 30 #[.pointer (some ⟨hp, 4, none⟩), .pointer (some ⟨lb, 0, none⟩)] w0 fun _ w => Blk w hp #[a, b, c, d, .pointer (some ⟨lb, 0, none⟩)] 78 ∧ w0.grownBy w (some hp) := by
  refine C.enter (n := 10) Try.func30 rfl rfl ?_
  refine W.region rfl ?_
  refine L.va (x_mvP rfl) ?_
  refine L.va (x_nilCheck rfl) ?_
  refine L.va (x_field rfl Try.underlying76 rfl sz74 (by decide)) ?_
  refine L.va (x_mvP rfl) ?_
  refine L.va (x_toUnsafe rfl Try.underlying70 Try.underlying74 nz80 (hL.cellAt 0 (v := f) rfl)) ?_
  refine L.va (x_storeP (u := e) rfl rfl Try.func51 nm51 rfl en51 ex51 (hH.cellAt 4 rfl) hH.frozen rfl) ?_
  refine L.nil ?_
  repeat (first | refine T.nrm ?_ | refine B.nrm ?_)
  refine ends.none (.inl rfl) rfl ?_
  exact ⟨hH.set (o := 4) (.pointer (some ⟨lb, 0, none⟩)), grown_setCell w0 ⟨hp, 4, none⟩ _⟩

theorem loadp_c (hp lb : Nat) (a b c d f : Value) (w0 : World) (hH : Blk w0 hp #[a, b, c, d, .pointer (some ⟨lb, 0, none⟩)] 78) (hL : Blk w0 lb #[f] 80) :
    C Try.prog 35 #[.pointer (some ⟨hp, 4, none⟩)] w0 fun v w => v = .pointer (some ⟨lb, 0, none⟩) ∧ w = w0 := by
  refine C.enter (n := 8) Try.func35 rfl rfl ?_
  refine W.seq ?_
  refine W.region rfl ?_
  refine L.va (x_asP rfl) ?_
  refine L.nil ?_
  show W _ _ _ _ _ _
  refine W.seq ?_
  refine W.region rfl ?_
  refine L.va (x_mvP rfl) ?_
  refine L.va (x_nilCheck rfl) ?_
  refine L.va (x_field rfl Try.underlying76 rfl sz74 (by decide)) ?_
  refine L.va (x_loadP (p := some ⟨lb, 0, none⟩) rfl Try.func57 nm57 rfl en57 ex57 (hH.cellAt 4 rfl) rfl) ?_
  refine L.va (x_ofUnsafe rfl Try.underlying74 Try.underlying70 hL (la80 f) sz80) ?_
  refine L.va (x_asP rfl) ?_
  refine L.nil ?_
  show W _ _ _ _ _ _
  refine W.ret ?_
  repeat (first | refine T.ret ?_ | refine B.ret ?_)
  refine ends.one (.inr rfl) rfl ?_
  exact ⟨rfl, rfl⟩

theorem cell_in (hp wb pb lb : Nat) (la pa : Option Addr) (lc pc : Nat) (X : Nat → Nat) (obj most : Int) (n m : Nat) (w0 : World) (hH : Blk w0 hp #[.pointer (some ⟨wb, 0, none⟩), .int .i64 obj, .int .i64 most, .pointer (some ⟨pb, 0, none⟩), .pointer (some ⟨lb, 0, none⟩)] 78) (hL : Blk w0 lb #[.slice la n lc] 80) {Bs : Nat} (hO : Own w0 Bs 85 1 la n lc (ptrs X n)) (i : Nat) (hi : i < n) :
    C Try.prog 32 #[.pointer (some ⟨hp, 0, none⟩), .int .i64 ((i : Int) + 1)] w0 fun v w => v = .pointer (some ⟨X i, 0, none⟩) ∧ w = w0 := by
  refine C.enter (n := 25) Try.func32 rfl rfl ?_
  have hn : n ≤ 9223372036854775807 := by
    obtain ⟨cur, _, _, h1, h2, _⟩ := hO.row (hO.some_of (by omega))
    simp only [maxLen] at h2; omega
  refine W.seq ?_
  refine W.region rfl ?_
  refine L.va (x_asP rfl) ?_
  refine L.nil ?_
  show W _ _ _ _ _ _
  refine W.seq ?_
  refine W.region rfl ?_
  refine L.va (x_mvP rfl) ?_
  refine L.va (x_nilCheck rfl) ?_
  refine L.va (x_field rfl Try.underlying78 rfl sz76 (by decide)) ?_
  refine L.call (x_call1 rfl Try.func35 rfl nm35 rfl) (loadp_c hp lb _ _ _ _ _ w0 hH hL) ?_
  rintro _ w1 ⟨rfl, hw⟩
  rw [hw]
  clear hw w1
  refine L.va (x_nilCheck rfl) ?_
  refine L.va (x_load rfl Try.underlying80 rfl (hL.cellAt 0 (v := .slice la n lc) rfl)) ?_
  refine L.va (x_asS rfl) ?_
  refine L.nil ?_
  show W _ _ _ _ _ _
  refine W.seq ?_
  refine W.seq ?_
  refine W.region rfl ?_
  refine L.va (x_mvI rfl) ?_
  refine L.va (x_lss rfl rfl) ?_
  refine L.va (x_mvB rfl) ?_
  refine L.meetB 5 [14,15,16,17,18,19] 19 (.bool false) (tj := 14) rfl (fun hb14 => ?_) (fun hb14 => ?_) (fun f => ?_)
  · exact absurd (of_decide_eq_true hb14) (by omega)
  · refine L.on rfl ?_
    refine L.va (x_mvI rfl) ?_
    refine L.on rfl ?_
    refine L.va (x_mvS rfl) ?_
    refine L.on rfl ?_
    refine L.va (x_len rfl Try.underlying80 rfl) ?_
    refine L.on rfl ?_
    refine L.va (x_gtr rfl rfl) ?_
    refine L.va (x_pickF rfl) ?_
    refine L.nil ?_
    refine ⟨rfl, congrArg Value.bool (decide_eq_false (by omega)), ?_⟩
    exact Agree.upd rfl (Agree.upd rfl (Agree.upd rfl (Agree.upd rfl (Agree.upd rfl (Agree.upd rfl (Agree.refl _ _))))))
  refine L.nil ?_
  show W _ _ _ _ _ _
  refine W.condF rfl ?_
  refine W.skip ?_
  show W _ _ _ _ _ _
  refine W.seq ?_
  refine W.region rfl ?_
  refine L.va (x_mvS rfl) ?_
  refine L.va (x_mvI rfl) ?_
  refine L.va (x_subI rfl rfl (by omega)) ?_
  rw [show ((i : Int) + 1 - 1) = (i : Int) by omega]
  refine L.va (x_idx (i := i) rfl rfl Try.underlying80 sz85 hO.sl hi) ?_
  refine L.va (x_load (v := .pointer (some (⟨X i, 0, none⟩))) rfl Try.underlying85 rfl (by rw [hO.off, Nat.zero_add, Nat.mul_one]; exact hO.cell (ptrs_get hi))) ?_
  refine L.va (x_asP rfl) ?_
  refine L.nil ?_
  show W _ _ _ _ _ _
  refine W.ret ?_
  repeat (first | refine T.ret ?_ | refine B.ret ?_)
  refine ends.one (.inr rfl) rfl ?_
  exact ⟨rfl, rfl⟩

theorem cell_out (hp wb pb lb : Nat) (la pa : Option Addr) (lc pc : Nat) (X : Nat → Nat) (obj most : Int) (n m : Nat) (w0 : World) (hH : Blk w0 hp #[.pointer (some ⟨wb, 0, none⟩), .int .i64 obj, .int .i64 most, .pointer (some ⟨pb, 0, none⟩), .pointer (some ⟨lb, 0, none⟩)] 78) (hL : Blk w0 lb #[.slice la n lc] 80) (z : Int) (hz : z < 1 ∨ (n : Int) < z) :
    C Try.prog 32 #[.pointer (some ⟨hp, 0, none⟩), .int .i64 z] w0 fun v w => v = .pointer none ∧ w = w0 := by
  refine C.enter (n := 25) Try.func32 rfl rfl ?_
  refine W.seq ?_
  refine W.region rfl ?_
  refine L.va (x_asP rfl) ?_
  refine L.nil ?_
  show W _ _ _ _ _ _
  refine W.seq ?_
  refine W.region rfl ?_
  refine L.va (x_mvP rfl) ?_
  refine L.va (x_nilCheck rfl) ?_
  refine L.va (x_field rfl Try.underlying78 rfl sz76 (by decide)) ?_
  refine L.call (x_call1 rfl Try.func35 rfl nm35 rfl) (loadp_c hp lb _ _ _ _ _ w0 hH hL) ?_
  rintro _ w1 ⟨rfl, hw⟩
  rw [hw]
  clear hw w1
  refine L.va (x_nilCheck rfl) ?_
  refine L.va (x_load rfl Try.underlying80 rfl (hL.cellAt 0 (v := .slice la n lc) rfl)) ?_
  refine L.va (x_asS rfl) ?_
  refine L.nil ?_
  show W _ _ _ _ _ _
  refine W.seq ?_
  refine W.seq ?_
  refine W.region rfl ?_
  refine L.va (x_mvI rfl) ?_
  refine L.va (x_lss rfl rfl) ?_
  refine L.va (x_mvB rfl) ?_
  refine L.meetB 5 [14,15,16,17,18,19] 19 (.bool true) (tj := 14) rfl (fun hb14 => ?_) (fun hb14 => ?_) (fun f => ?_)
  · refine L.off rfl ?_
    refine L.off rfl ?_
    refine L.off rfl ?_
    refine L.off rfl ?_
    refine L.va (x_pickT rfl) ?_
    refine L.nil ?_
    refine ⟨rfl, congrArg Value.bool (rfl), ?_⟩
    exact Agree.upd rfl (Agree.upd rfl (Agree.upd rfl (Agree.upd rfl (Agree.upd rfl (Agree.upd rfl (Agree.refl _ _))))))
  · refine L.on rfl ?_
    refine L.va (x_mvI rfl) ?_
    refine L.on rfl ?_
    refine L.va (x_mvS rfl) ?_
    refine L.on rfl ?_
    refine L.va (x_len rfl Try.underlying80 rfl) ?_
    refine L.on rfl ?_
    refine L.va (x_gtr rfl rfl) ?_
    refine L.va (x_pickF rfl) ?_
    refine L.nil ?_
    refine ⟨rfl, congrArg Value.bool (decide_eq_true (by have := of_decide_eq_false hb14; omega)), ?_⟩
    exact Agree.upd rfl (Agree.upd rfl (Agree.upd rfl (Agree.upd rfl (Agree.upd rfl (Agree.upd rfl (Agree.refl _ _))))))
  refine L.nil ?_
  show W _ _ _ _ _ _
  refine W.condT rfl ?_
  refine W.seq ?_
  refine W.region rfl ?_
  refine L.va (x_asP rfl) ?_
  refine L.nil ?_
  show W _ _ _ _ _ _
  refine W.ret ?_
  repeat (first | refine T.ret ?_ | refine B.ret ?_)
  refine ends.one (.inr rfl) rfl ?_
  exact ⟨rfl, rfl⟩

theorem new_no (wb : Nat) (obj most : Int) (w0 : World) (h : most < 1 ∨ 1048576 < most) : C Try.prog 8 #[.pointer (some ⟨wb, 0, none⟩), .int .i64 obj, .int .i64 most] w0 fun v w => v = .tuple #[.pointer none, .int .i64 2] ∧ w = w0 := by
  refine C.enter (n := 30) Try.func8 rfl rfl ?_
  refine W.seq ?_
  refine W.region rfl ?_
  refine L.va (x_asP rfl) ?_
  refine L.va (x_asI rfl) ?_
  refine L.nil ?_
  show W _ _ _ _ _ _
  refine W.seq ?_
  refine W.seq ?_
  refine W.region rfl ?_
  refine L.va (x_mvI rfl) ?_
  refine L.va (x_lss rfl rfl) ?_
  refine L.va (x_mvB rfl) ?_
  refine L.meetB 3 [11,12,13,14] 14 (.bool true) (tj := 11) rfl (fun hb11 => ?_) (fun hb11 => ?_) (fun f => ?_)
  · refine L.off rfl ?_
    refine L.off rfl ?_
    refine L.va (x_pickT rfl) ?_
    refine L.nil ?_
    refine ⟨rfl, congrArg Value.bool (rfl), ?_⟩
    exact Agree.upd rfl (Agree.upd rfl (Agree.upd rfl (Agree.upd rfl (Agree.refl _ _))))
  · refine L.on rfl ?_
    refine L.va (x_mvI rfl) ?_
    refine L.on rfl ?_
    refine L.va (x_gtr rfl rfl) ?_
    refine L.va (x_pickF rfl) ?_
    refine L.nil ?_
    refine ⟨rfl, congrArg Value.bool (decide_eq_true (by have := of_decide_eq_false hb11; omega)), ?_⟩
    exact Agree.upd rfl (Agree.upd rfl (Agree.upd rfl (Agree.upd rfl (Agree.refl _ _))))
  refine L.nil ?_
  show W _ _ _ _ _ _
  refine W.condT rfl ?_
  refine W.seq ?_
  refine W.region rfl ?_
  refine L.va (x_asP rfl) ?_
  refine L.va (x_asI rfl) ?_
  refine L.nil ?_
  show W _ _ _ _ _ _
  refine W.ret ?_
  repeat (first | refine T.ret ?_ | refine B.ret ?_)
  refine ends.two (.inr rfl) rfl ?_
  exact ⟨rfl, rfl⟩

theorem new_ok (Bs wb : Nat) (obj most : Int) (w0 : World) (hBs : Bs ≤ w0.heap.size) (hW : Blk w0 wb #[.bool false] 82) (h : ¬ (most < 1 ∨ 1048576 < most)) : C Try.prog 8 #[.pointer (some ⟨wb, 0, none⟩), .int .i64 obj, .int .i64 most] w0 fun v w => ∃ hp, v = .tuple #[.pointer (some ⟨hp, 0, none⟩), .int .i64 0] ∧ H w Bs hp obj most 0 (fun _ => ⟨0, false, 0⟩) 0 (fun _ => 0) ∧ Below w0.heap.size w0 w := by
  refine C.enter (n := 30) Try.func8 rfl rfl ?_
  have hb : Below w0.heap.size w0 w0 := Below.refl _ _
  refine W.seq ?_
  refine W.region rfl ?_
  refine L.va (x_asP rfl) ?_
  refine L.va (x_asI rfl) ?_
  refine L.nil ?_
  show W _ _ _ _ _ _
  refine W.seq ?_
  refine W.seq ?_
  refine W.region rfl ?_
  refine L.va (x_mvI rfl) ?_
  refine L.va (x_lss rfl rfl) ?_
  refine L.va (x_mvB rfl) ?_
  refine L.meetB 3 [11,12,13,14] 14 (.bool false) (tj := 11) rfl (fun hb11 => ?_) (fun hb11 => ?_) (fun f => ?_)
  · exact absurd (of_decide_eq_true hb11) (by omega)
  · refine L.on rfl ?_
    refine L.va (x_mvI rfl) ?_
    refine L.on rfl ?_
    refine L.va (x_gtr rfl rfl) ?_
    refine L.va (x_pickF rfl) ?_
    refine L.nil ?_
    refine ⟨rfl, congrArg Value.bool (decide_eq_false (by omega)), ?_⟩
    exact Agree.upd rfl (Agree.upd rfl (Agree.upd rfl (Agree.upd rfl (Agree.refl _ _))))
  refine L.nil ?_
  show W _ _ _ _ _ _
  refine W.condF rfl ?_
  refine W.skip ?_
  show W _ _ _ _ _ _
  refine W.seq ?_
  refine W.region rfl ?_
  refine L.va (x_mvP rfl) ?_
  refine L.va (x_mvI rfl) ?_
  refine L.va (x_mvI rfl) ?_
  refine L.va (x_mvP rfl) ?_
  refine L.va (x_mvI rfl) ?_
  refine L.call (x_call4 rfl rfl rfl rfl Try.func29 rfl nm29 rfl) (plnew wb obj 0 none 0 0 w0) ?_
  rintro _ w ⟨pb, rfl, ltp, hP, hbw⟩
  have ltp := Nat.le_trans hb.size ltp
  have hb := cl_step hb hbw
  have hW := hW.keep hbw
  refine L.va (x_build (parts := [(0, .tmp 15), (1, .tmp 16), (2, .tmp 17), (3, .tmp 20)]) rfl (buB_0 ((some ⟨wb, 0, none⟩)) obj most ((some ⟨pb, 0, none⟩)))) ?_
  refine L.box (cs := #[.pointer (some ⟨wb, 0, none⟩), .int .i64 obj, .int .i64 most, .pointer (some ⟨pb, 0, none⟩), .pointer none]) rfl rfl (fun w b22 F22 => ?_)
  have lt22 : w0.heap.size ≤ b22 := by have h9 := F22.here; have h8 := hb.size; omega
  have hb := cl_step hb F22.below
  have hW := hW.keep F22.below
  have hP := hP.keep F22.below
  have hB22 := F22.blk
  refine L.va (x_asP rfl) ?_
  refine L.nil ?_
  show W _ _ _ _ _ _
  refine W.seq ?_
  refine W.region rfl ?_
  refine L.va (x_mvP rfl) ?_
  refine L.va (x_nilCheck rfl) ?_
  refine L.va (x_field rfl Try.underlying78 rfl sz76 (by decide)) ?_
  refine L.build0 Try.underlying80 sz85 (fun w b26 F26 => ?_)
  have lt26 : w0.heap.size ≤ b26 := by have h9 := F26.here; have h8 := hb.size; omega
  have hb := cl_step hb F26.below
  have hW := hW.keep F26.below
  have hP := hP.keep F26.below
  have hB22 := hB22.keep F26.below
  have hB26 := F26.blk
  refine L.box (cs := #[.slice (some ⟨b26, 0, none⟩) 0 0]) rfl rfl (fun w b27 F27 => ?_)
  have lt27 : w0.heap.size ≤ b27 := by have h9 := F27.here; have h8 := hb.size; omega
  have hb := cl_step hb F27.below
  have hW := hW.keep F27.below
  have hP := hP.keep F27.below
  have hB22 := hB22.keep F27.below
  have hB26 := hB26.keep F27.below
  have hB27 := F27.blk
  refine L.call (x_call2 rfl rfl Try.func30 rfl nm30 rfl) (storep_c b22 b27 _ _ _ _ _ _ w hB22 hB27) ?_
  rintro _ w ⟨hnew, hg⟩
  have hm0 := ModT.put0 hB22 hg
  have hb := below_gr hb hb.size hg lt22
  have hW := hW.mod hm0 rfl
  have hP := hP.mod hm0 rfl
  have hB26 := hB26.mod hm0 rfl
  have hB27 := hB27.mod hm0 rfl
  have hB22 := hnew
  clear hm0
  refine L.nil ?_
  show W _ _ _ _ _ _
  refine W.seq ?_
  refine W.region rfl ?_
  refine L.va (x_mvP rfl) ?_
  refine L.va (x_asP rfl) ?_
  refine L.va (x_asI rfl) ?_
  refine L.nil ?_
  show W _ _ _ _ _ _
  refine W.ret ?_
  repeat (first | refine T.ret ?_ | refine B.ret ?_)
  refine ends.two (.inr rfl) rfl ?_
  exact ⟨b22, rfl, ⟨wb, pb, b27, some ⟨b26, 0, none⟩, none, 0, 0, fun _ => 0, hB22, hW, hP, hB27, ⟨rfl, .inr ⟨b26, 0, #[], rfl, by omega, hB26, Nat.le_refl _, by simp [maxLen], rfl, rfl⟩⟩, ⟨fun i hi => absurd hi (Nat.not_lt_zero i), fun i hi => absurd hi (Nat.not_lt_zero i), fun i j hi => absurd hi (Nat.not_lt_zero i)⟩, ⟨SL.zero _, fun h0 => absurd h0 (Nat.lt_irrefl 0)⟩, Nat.le_refl _, by omega, by omega, by omega, fun j hj => absurd hj (Nat.not_lt_zero j), fun _ => ⟨rfl, rfl⟩⟩, hb⟩

theorem gen_in (Bs hp : Nat) (obj most : Int) (n : Nat) (nd : Nat → Nd) (m : Nat) (pool : Nat → Int) (w0 : World) (hS : H w0 Bs hp obj most n nd m pool) (i : Nat) (hi : i < n) : C Try.prog 18 #[.pointer (some ⟨hp, 0, none⟩), .int .i64 ((i : Int) + 1)] w0 fun v w => v = .int .i64 (nd i).g ∧ Below w0.heap.size w0 w := by
  refine C.enter (n := 16) Try.func18 rfl rfl ?_
  have hb : Below w0.heap.size w0 w0 := Below.refl _ _
  obtain ⟨wb, pb, lb, la, pa, lc, pc, X, hH, hW, hP, hL, hO, hX, hPl, hpc, lH, lP, lL, hpl, hnil⟩ := hS
  refine W.seq ?_
  refine W.region rfl ?_
  refine L.va (x_asI rfl) ?_
  refine L.nil ?_
  show W _ _ _ _ _ _
  refine W.seq ?_
  refine W.seq ?_
  refine W.region rfl ?_
  refine L.va (x_mvP rfl) ?_
  refine L.va (x_eqPtrNil rfl rfl Try.underlying24) ?_
  refine L.nil ?_
  show W _ _ _ _ _ _
  refine W.condF rfl ?_
  refine W.skip ?_
  show W _ _ _ _ _ _
  refine W.seq ?_
  refine W.region rfl ?_
  refine L.va (x_mvP rfl) ?_
  refine L.va (x_mvI rfl) ?_
  refine L.call (x_call2 rfl rfl Try.func32 rfl nm32 rfl) (cell_in hp wb pb lb la pa lc pc X obj most n 0 w0 hH hL hO i hi) ?_
  rintro _ w1 ⟨rfl, hw⟩
  rw [hw]
  clear hw w1
  have hXi := hX.blk i hi
  refine L.va (x_asP rfl) ?_
  refine L.nil ?_
  show W _ _ _ _ _ _
  refine W.seq ?_
  refine W.seq ?_
  refine W.region rfl ?_
  refine L.va (x_mvP rfl) ?_
  refine L.va (x_eqPtrNil rfl rfl Try.underlying85) ?_
  refine L.nil ?_
  show W _ _ _ _ _ _
  refine W.condF rfl ?_
  refine W.skip ?_
  show W _ _ _ _ _ _
  refine W.seq ?_
  refine W.region rfl ?_
  refine L.va (x_mvP rfl) ?_
  refine L.call (x_call2 rfl rfl Try.func37 rfl nm37 rfl) (ndget (X i) wb obj _ (nd i).g (nd i).l (nd i).v w0 hXi hW) ?_
  rintro _ w ⟨rfl, hbw⟩
  have hb := cl_step hb hbw
  have hH := hH.keep hbw
  have hW := hW.keep hbw
  have hP := hP.keep hbw
  have hL := hL.keep hbw
  have hO := hO.keep hbw
  have hX := hX.keep hbw
  have hPl := hPl.keep hbw
  have hXi := hXi.keep hbw
  refine L.va (x_fieldV (v := .int .i64 (nd i).g) rfl Try.underlying90 rfl (by kernel_rfl) rfl) ?_
  refine L.va (x_asI rfl) ?_
  refine L.nil ?_
  show W _ _ _ _ _ _
  refine W.ret ?_
  repeat (first | refine T.ret ?_ | refine B.ret ?_)
  refine ends.one (.inr rfl) rfl ?_
  exact ⟨rfl, hb⟩

theorem made_c (Bs hp : Nat) (obj most : Int) (n : Nat) (nd : Nat → Nd) (m : Nat) (pool : Nat → Int) (w0 : World) (hS : H w0 Bs hp obj most n nd m pool) : C Try.prog 16 #[.pointer (some ⟨hp, 0, none⟩)] w0 fun v w => v = .int .i64 (n : Int) ∧ Below w0.heap.size w0 w := by
  refine C.enter (n := 12) Try.func16 rfl rfl ?_
  have hb : Below w0.heap.size w0 w0 := Below.refl _ _
  obtain ⟨wb, pb, lb, la, pa, lc, pc, X, hH, hW, hP, hL, hO, hX, hPl, hpc, lH, lP, lL, hpl, hnil⟩ := hS
  refine W.seq ?_
  refine W.region rfl ?_
  refine L.va (x_asI rfl) ?_
  refine L.nil ?_
  show W _ _ _ _ _ _
  refine W.seq ?_
  refine W.seq ?_
  refine W.region rfl ?_
  refine L.va (x_mvP rfl) ?_
  refine L.va (x_eqPtrNil rfl rfl Try.underlying24) ?_
  refine L.nil ?_
  show W _ _ _ _ _ _
  refine W.condF rfl ?_
  refine W.skip ?_
  show W _ _ _ _ _ _
  refine W.seq ?_
  refine W.region rfl ?_
  refine L.va (x_mvP rfl) ?_
  refine L.va (x_nilCheck rfl) ?_
  refine L.va (x_field rfl Try.underlying78 rfl sz76 (by decide)) ?_
  refine L.call (x_call1 rfl Try.func35 rfl nm35 rfl) (loadp_c hp lb _ _ _ _ _ w0 hH hL) ?_
  rintro _ w1 ⟨rfl, hw⟩
  rw [hw]
  clear hw w1
  refine L.va (x_nilCheck rfl) ?_
  refine L.va (x_load rfl Try.underlying80 rfl (hL.cellAt 0 (v := .slice la n lc) rfl)) ?_
  refine L.va (x_len rfl Try.underlying80 rfl) ?_
  refine L.va (x_asI rfl) ?_
  refine L.nil ?_
  show W _ _ _ _ _ _
  refine W.ret ?_
  repeat (first | refine T.ret ?_ | refine B.ret ?_)
  refine ends.one (.inr rfl) rfl ?_
  exact ⟨rfl, hb⟩

theorem pooled_c (Bs hp : Nat) (obj most : Int) (n : Nat) (nd : Nat → Nd) (m : Nat) (pool : Nat → Int) (w0 : World) (hS : H w0 Bs hp obj most n nd m pool) : C Try.prog 17 #[.pointer (some ⟨hp, 0, none⟩)] w0 fun v w => v = .int .i64 (m : Int) ∧ Below w0.heap.size w0 w := by
  refine C.enter (n := 11) Try.func17 rfl rfl ?_
  have hb : Below w0.heap.size w0 w0 := Below.refl _ _
  obtain ⟨wb, pb, lb, la, pa, lc, pc, X, hH, hW, hP, hL, hO, hX, hPl, hpc, lH, lP, lL, hpl, hnil⟩ := hS
  refine W.seq ?_
  refine W.region rfl ?_
  refine L.va (x_asI rfl) ?_
  refine L.nil ?_
  show W _ _ _ _ _ _
  refine W.seq ?_
  refine W.seq ?_
  refine W.region rfl ?_
  refine L.va (x_mvP rfl) ?_
  refine L.va (x_eqPtrNil rfl rfl Try.underlying24) ?_
  refine L.nil ?_
  show W _ _ _ _ _ _
  refine W.condF rfl ?_
  refine W.skip ?_
  show W _ _ _ _ _ _
  refine W.seq ?_
  refine W.region rfl ?_
  refine L.va (x_mvP rfl) ?_
  refine L.va (x_nilCheck rfl) ?_
  refine L.va (x_field rfl Try.underlying78 rfl sz68 (by decide)) ?_
  refine L.va (x_load rfl Try.underlying68 rfl (hH.cellAt 3 (v := .pointer (some ⟨pb, 0, none⟩)) rfl)) ?_
  refine L.call (x_call2 rfl rfl Try.func31 rfl nm31 rfl) (plget pb wb obj 0 pa m pc w0 hP hW) ?_
  rintro _ w ⟨rfl, hbw⟩
  have hb := cl_step hb hbw
  have hH := hH.keep hbw
  have hW := hW.keep hbw
  have hP := hP.keep hbw
  have hL := hL.keep hbw
  have hO := hO.keep hbw
  have hX := hX.keep hbw
  have hPl := hPl.keep hbw
  refine L.va (x_len rfl Try.underlying49 rfl) ?_
  refine L.va (x_asI rfl) ?_
  refine L.nil ?_
  show W _ _ _ _ _ _
  refine W.ret ?_
  repeat (first | refine T.ret ?_ | refine B.ret ?_)
  refine ends.one (.inr rfl) rfl ?_
  exact ⟨rfl, hb⟩

theorem live_c0 (Bs hp : Nat) (obj most : Int) (n : Nat) (nd : Nat → Nd) (m : Nat) (pool : Nat → Int) (w0 : World) (hS : H w0 Bs hp obj most n nd m pool) (hn : n ≤ 4611686018427387904) (hm_ : m ≤ 4611686018427387904) : C Try.prog 15 #[.pointer (some ⟨hp, 0, none⟩)] w0 fun v w => v = .int .i64 ((n : Int) - (m : Int)) ∧ Below w0.heap.size w0 w := by
  refine C.enter (n := 8) Try.func15 rfl rfl ?_
  have hb : Below w0.heap.size w0 w0 := Below.refl _ _
  refine W.seq ?_
  refine W.region rfl ?_
  refine L.va (x_asI rfl) ?_
  refine L.nil ?_
  show W _ _ _ _ _ _
  refine W.seq ?_
  refine W.region rfl ?_
  refine L.va (x_mvP rfl) ?_
  refine L.call (x_call1 rfl Try.func16 rfl nm16 rfl) (made_c Bs hp obj most n nd m pool w0 hS) ?_
  rintro _ w ⟨rfl, hbw⟩
  have hb := cl_step hb hbw
  have hS := hS.keep hbw
  refine L.va (x_mvP rfl) ?_
  refine L.call (x_call1 rfl Try.func17 rfl nm17 rfl) (pooled_c Bs hp obj most n nd m pool w hS) ?_
  rintro _ w ⟨rfl, hbw⟩
  have hb := cl_step hb hbw
  have hS := hS.keep hbw
  refine L.va (x_subI rfl rfl (by omega)) ?_
  refine L.va (x_asI rfl) ?_
  refine L.nil ?_
  show W _ _ _ _ _ _
  refine W.ret ?_
  repeat (first | refine T.ret ?_ | refine B.ret ?_)
  refine ends.one (.inr rfl) rfl ?_
  exact ⟨rfl, hb⟩

theorem get_out (Bs hp : Nat) (obj most : Int) (n : Nat) (nd : Nat → Nd) (m : Nat) (pool : Nat → Int) (w0 : World) (hS : H w0 Bs hp obj most n nd m pool) (num gen : Int) (hz : num < 1 ∨ (n : Int) < num) : C Try.prog 14 #[.pointer (some ⟨hp, 0, none⟩), .pointer none, .agg #[.int .i64 num, .int .i64 gen]] w0 fun v w => v = .tuple #[.int .i64 0, .bool false] ∧ Below w0.heap.size w0 w := by
  refine C.enter (n := 37) Try.func14 rfl rfl ?_
  have hb : Below w0.heap.size w0 w0 := Below.refl _ _
  obtain ⟨wb, pb, lb, la, pa, lc, pc, X, hH, hW, hP, hL, hO, hX, hPl, hpc, lH, lP, lL, hpl, hnil⟩ := hS
  refine W.seq ?_
  refine W.region rfl ?_
  refine L.box (cs := #[.int .i64 num, .int .i64 gen]) rfl rfl (fun w b5 F5 => ?_)
  have lt5 : w0.heap.size ≤ b5 := by have h9 := F5.here; have h8 := hb.size; omega
  have hb := cl_step hb F5.below
  have hH := hH.keep F5.below
  have hW := hW.keep F5.below
  have hP := hP.keep F5.below
  have hL := hL.keep F5.below
  have hO := hO.keep F5.below
  have hX := hX.keep F5.below
  have hPl := hPl.keep F5.below
  have hB5 := F5.blk
  refine L.va (x_asI rfl) ?_
  refine L.va (x_asB rfl) ?_
  refine L.nil ?_
  show W _ _ _ _ _ _
  refine W.seq ?_
  refine W.region rfl ?_
  refine L.va (x_asI rfl) ?_
  refine L.nil ?_
  show W _ _ _ _ _ _
  refine W.seq ?_
  refine W.seq ?_
  refine W.region rfl ?_
  refine L.va (x_mvP rfl) ?_
  refine L.va (x_eqPtrNil rfl rfl Try.underlying24) ?_
  refine L.nil ?_
  show W _ _ _ _ _ _
  refine W.condF rfl ?_
  refine W.skip ?_
  show W _ _ _ _ _ _
  refine W.seq ?_
  refine W.region rfl ?_
  refine L.va (x_mvP rfl) ?_
  refine L.va (x_field rfl Try.underlying35 rfl sz3 (by decide)) ?_
  refine L.va (x_load rfl Try.underlying3 rfl (hB5.cellAt 0 (v := .int .i64 num) rfl)) ?_
  refine L.call (x_call2 rfl rfl Try.func32 rfl nm32 rfl) (cell_out hp wb pb lb la pa lc pc X obj most n 0 w hH hL num hz) ?_
  rintro _ w1 ⟨rfl, hw⟩
  rw [hw]
  clear hw w1
  refine L.va (x_asP rfl) ?_
  refine L.nil ?_
  show W _ _ _ _ _ _
  refine W.seq ?_
  refine W.seq ?_
  refine W.region rfl ?_
  refine L.va (x_mvP rfl) ?_
  refine L.va (x_eqPtrNil rfl rfl Try.underlying85) ?_
  refine L.nil ?_
  show W _ _ _ _ _ _
  refine W.condT rfl ?_
  refine W.seq ?_
  refine W.region rfl ?_
  refine L.va (x_mvI rfl) ?_
  refine L.va (x_asI rfl) ?_
  refine L.va (x_asB rfl) ?_
  refine L.nil ?_
  show W _ _ _ _ _ _
  refine W.ret ?_
  repeat (first | refine T.ret ?_ | refine B.ret ?_)
  refine ends.two (.inr rfl) rfl ?_
  exact ⟨rfl, hb⟩

theorem get_in (Bs hp : Nat) (obj most : Int) (n : Nat) (nd : Nat → Nd) (m : Nat) (pool : Nat → Int) (w0 : World) (hS : H w0 Bs hp obj most n nd m pool) (i : Nat) (hi : i < n) (gen : Int) : C Try.prog 14 #[.pointer (some ⟨hp, 0, none⟩), .pointer none, .agg #[.int .i64 ((i : Int) + 1), .int .i64 gen]] w0 fun v w => v = (if (nd i).l = true ∧ (nd i).g = gen then .tuple #[.int .i64 (nd i).v, .bool true] else .tuple #[.int .i64 0, .bool false]) ∧ Below w0.heap.size w0 w := by
  refine C.enter (n := 37) Try.func14 rfl rfl ?_
  have hb : Below w0.heap.size w0 w0 := Below.refl _ _
  obtain ⟨wb, pb, lb, la, pa, lc, pc, X, hH, hW, hP, hL, hO, hX, hPl, hpc, lH, lP, lL, hpl, hnil⟩ := hS
  refine W.seq ?_
  refine W.region rfl ?_
  refine L.box (cs := #[.int .i64 ((i : Nat) + 1), .int .i64 gen]) rfl rfl (fun w b5 F5 => ?_)
  have lt5 : w0.heap.size ≤ b5 := by have h9 := F5.here; have h8 := hb.size; omega
  have hb := cl_step hb F5.below
  have hH := hH.keep F5.below
  have hW := hW.keep F5.below
  have hP := hP.keep F5.below
  have hL := hL.keep F5.below
  have hO := hO.keep F5.below
  have hX := hX.keep F5.below
  have hPl := hPl.keep F5.below
  have hB5 := F5.blk
  refine L.va (x_asI rfl) ?_
  refine L.va (x_asB rfl) ?_
  refine L.nil ?_
  show W _ _ _ _ _ _
  refine W.seq ?_
  refine W.region rfl ?_
  refine L.va (x_asI rfl) ?_
  refine L.nil ?_
  show W _ _ _ _ _ _
  refine W.seq ?_
  refine W.seq ?_
  refine W.region rfl ?_
  refine L.va (x_mvP rfl) ?_
  refine L.va (x_eqPtrNil rfl rfl Try.underlying24) ?_
  refine L.nil ?_
  show W _ _ _ _ _ _
  refine W.condF rfl ?_
  refine W.skip ?_
  show W _ _ _ _ _ _
  refine W.seq ?_
  refine W.region rfl ?_
  refine L.va (x_mvP rfl) ?_
  refine L.va (x_field rfl Try.underlying35 rfl sz3 (by decide)) ?_
  refine L.va (x_load rfl Try.underlying3 rfl (hB5.cellAt 0 (v := .int .i64 ((i : Nat) + 1)) rfl)) ?_
  refine L.call (x_call2 rfl rfl Try.func32 rfl nm32 rfl) (cell_in hp wb pb lb la pa lc pc X obj most n 0 w hH hL hO i hi) ?_
  rintro _ w1 ⟨rfl, hw⟩
  rw [hw]
  clear hw w1
  have hXi := hX.blk i hi
  refine L.va (x_asP rfl) ?_
  refine L.nil ?_
  show W _ _ _ _ _ _
  refine W.seq ?_
  refine W.seq ?_
  refine W.region rfl ?_
  refine L.va (x_mvP rfl) ?_
  refine L.va (x_eqPtrNil rfl rfl Try.underlying85) ?_
  refine L.nil ?_
  show W _ _ _ _ _ _
  refine W.condF rfl ?_
  refine W.skip ?_
  show W _ _ _ _ _ _
  refine W.seq ?_
  refine W.region rfl ?_
  refine L.va (x_mvP rfl) ?_
  refine L.va (x_mvP rfl) ?_
  refine L.call (x_call2 rfl rfl Try.func37 rfl nm37 rfl) (ndget (X i) wb obj _ (nd i).g (nd i).l (nd i).v w hXi hW) ?_
  rintro _ w ⟨rfl, hbw⟩
  have hb := cl_step hb hbw
  have hH := hH.keep hbw
  have hW := hW.keep hbw
  have hP := hP.keep hbw
  have hL := hL.keep hbw
  have hO := hO.keep hbw
  have hX := hX.keep hbw
  have hPl := hPl.keep hbw
  have hB5 := hB5.keep hbw
  have hXi := hXi.keep hbw
  refine L.alloc (cs := #[.int .i64 0, .bool false, .int .i64 0]) zr90 rfl (fun w b10 F10 => ?_)
  have lt10 : w0.heap.size ≤ b10 := by have h9 := F10.here; have h8 := hb.size; omega
  have hb := cl_step hb F10.below
  have hH := hH.keep F10.below
  have hW := hW.keep F10.below
  have hP := hP.keep F10.below
  have hL := hL.keep F10.below
  have hO := hO.keep F10.below
  have hX := hX.keep F10.below
  have hPl := hPl.keep F10.below
  have hB5 := hB5.keep F10.below
  have hXi := hXi.keep F10.below
  have hB10 := F10.blk
  refine L.put (b := b10) (o := 0) (vs := [.int .i64 ((nd i).g), .bool ((nd i).l), .int .i64 ((nd i).v)]) #[.int .i64 ((nd i).g), .bool ((nd i).l), .int .i64 ((nd i).v)] rfl rfl rfl sz90 rfl rfl hB10 (Nat.le_of_ble_eq_true rfl) rfl (fun w hnew hg hsz => ?_)
  have hm0 := ModT.put0 hB10 hg
  have hb := below_gr hb hb.size hg lt10
  have hH := hH.mod hm0 rfl
  have hW := hW.mod hm0 rfl
  have hP := hP.mod hm0 rfl
  have hL := hL.mod hm0 rfl
  have hO := hO.mod hm0 rfl
  have hX := hX.mod hm0 rfl
  have hPl := hPl.mod hm0 rfl
  have hB5 := hB5.mod hm0 rfl
  have hXi := hXi.mod hm0 rfl
  have hB10 := hnew
  clear hm0
  refine L.nil ?_
  show W _ _ _ _ _ _
  refine W.seq ?_
  refine W.seq ?_
  refine W.region rfl ?_
  refine L.va (x_field rfl Try.underlying90 rfl sz4 (by decide)) ?_
  refine L.va (x_load rfl Try.underlying4 rfl (hB10.cellAt 1 (v := .bool ((nd i).l)) rfl)) ?_
  refine L.va (x_not rfl) ?_
  refine L.va (x_mvB rfl) ?_
  refine L.meetB 6 [27,28,29,30,31,32,33] 33 (.bool (!decide ((nd i).l = true ∧ (nd i).g = gen))) (tj := 27) rfl (fun hb27 => ?_) (fun hb27 => ?_) (fun f => ?_)
  · refine L.off rfl ?_
    refine L.off rfl ?_
    refine L.off rfl ?_
    refine L.off rfl ?_
    refine L.off rfl ?_
    refine L.va (x_pickT rfl) ?_
    refine L.nil ?_
    refine ⟨rfl, congrArg Value.bool (by simp only [Bool.not_eq_true'] at hb27; simp [hb27]), ?_⟩
    exact Agree.upd rfl (Agree.upd rfl (Agree.upd rfl (Agree.upd rfl (Agree.upd rfl (Agree.upd rfl (Agree.upd rfl (Agree.refl _ _)))))))
  · refine L.on rfl ?_
    refine L.va (x_field rfl Try.underlying90 rfl sz3 (by decide)) ?_
    refine L.on rfl ?_
    refine L.va (x_load rfl Try.underlying3 rfl (hB10.cellAt 0 (v := .int .i64 ((nd i).g)) rfl)) ?_
    refine L.on rfl ?_
    refine L.va (x_field rfl Try.underlying35 rfl sz3 (by decide)) ?_
    refine L.on rfl ?_
    refine L.va (x_load rfl Try.underlying3 rfl (hB5.cellAt 1 (v := .int .i64 gen) rfl)) ?_
    refine L.on rfl ?_
    refine L.va (x_neq rfl rfl) ?_
    refine L.va (x_pickF rfl) ?_
    refine L.nil ?_
    refine ⟨rfl, congrArg Value.bool (by simp only [Bool.not_eq_false'] at hb27; simp [hb27]), ?_⟩
    exact Agree.upd rfl (Agree.upd rfl (Agree.upd rfl (Agree.upd rfl (Agree.upd rfl (Agree.upd rfl (Agree.upd rfl (Agree.refl _ _)))))))
  refine L.nil ?_
  show W _ _ _ _ _ _
  refine W.cond rfl (fun h33 => ?_) (fun h33 => ?_)
  · refine W.seq ?_
    refine W.region rfl ?_
    refine L.va (x_mvI rfl) ?_
    refine L.va (x_asI rfl) ?_
    refine L.va (x_asB rfl) ?_
    refine L.nil ?_
    show W _ _ _ _ _ _
    refine W.ret ?_
    repeat (first | refine T.ret ?_ | refine B.ret ?_)
    refine ends.two (.inr rfl) rfl ?_
    exact ⟨(if_neg (fun h9 => by simp [h9] at h33)).symm, hb⟩
  · refine W.skip ?_
    show W _ _ _ _ _ _
    refine W.seq ?_
    refine W.region rfl ?_
    refine L.va (x_field rfl Try.underlying90 rfl sz2 (by decide)) ?_
    refine L.va (x_load rfl Try.underlying2 rfl (hB10.cellAt 2 (v := .int .i64 ((nd i).v)) rfl)) ?_
    refine L.va (x_asI rfl) ?_
    refine L.va (x_asB rfl) ?_
    refine L.nil ?_
    show W _ _ _ _ _ _
    refine W.ret ?_
    repeat (first | refine T.ret ?_ | refine B.ret ?_)
    refine ends.two (.inr rfl) rfl ?_
    exact ⟨(if_pos (by simpa using h33)).symm, hb⟩

theorem free_out (Bs hp : Nat) (obj most : Int) (n : Nat) (nd : Nat → Nd) (m : Nat) (pool : Nat → Int) (w0 : World) (hS : H w0 Bs hp obj most n nd m pool) (num gen : Int) (hz : num < 1 ∨ (n : Int) < num) : C Try.prog 13 #[.pointer (some ⟨hp, 0, none⟩), .pointer none, .agg #[.int .i64 num, .int .i64 gen]] w0 fun v w => v = .bool false ∧ Below w0.heap.size w0 w := by
  refine C.enter (n := 65) Try.func13 rfl rfl ?_
  have hb : Below w0.heap.size w0 w0 := Below.refl _ _
  obtain ⟨wb, pb, lb, la, pa, lc, pc, X, hH, hW, hP, hL, hO, hX, hPl, hpc, lH, lP, lL, hpl, hnil⟩ := hS
  refine W.seq ?_
  refine W.region rfl ?_
  refine L.box (cs := #[.int .i64 num, .int .i64 gen]) rfl rfl (fun w b5 F5 => ?_)
  have lt5 : w0.heap.size ≤ b5 := by have h9 := F5.here; have h8 := hb.size; omega
  have hb := cl_step hb F5.below
  have hH := hH.keep F5.below
  have hW := hW.keep F5.below
  have hP := hP.keep F5.below
  have hL := hL.keep F5.below
  have hO := hO.keep F5.below
  have hX := hX.keep F5.below
  have hPl := hPl.keep F5.below
  have hB5 := F5.blk
  refine L.va (x_asB rfl) ?_
  refine L.nil ?_
  show W _ _ _ _ _ _
  refine W.seq ?_
  refine W.seq ?_
  refine W.region rfl ?_
  refine L.va (x_mvP rfl) ?_
  refine L.va (x_eqPtrNil rfl rfl Try.underlying24) ?_
  refine L.nil ?_
  show W _ _ _ _ _ _
  refine W.condF rfl ?_
  refine W.skip ?_
  show W _ _ _ _ _ _
  refine W.seq ?_
  refine W.region rfl ?_
  refine L.va (x_mvP rfl) ?_
  refine L.va (x_field rfl Try.underlying35 rfl sz3 (by decide)) ?_
  refine L.va (x_load rfl Try.underlying3 rfl (hB5.cellAt 0 (v := .int .i64 num) rfl)) ?_
  refine L.call (x_call2 rfl rfl Try.func32 rfl nm32 rfl) (cell_out hp wb pb lb la pa lc pc X obj most n 0 w hH hL num hz) ?_
  rintro _ w1 ⟨rfl, hw⟩
  rw [hw]
  clear hw w1
  refine L.va (x_asP rfl) ?_
  refine L.nil ?_
  show W _ _ _ _ _ _
  refine W.seq ?_
  refine W.seq ?_
  refine W.region rfl ?_
  refine L.va (x_mvP rfl) ?_
  refine L.va (x_eqPtrNil rfl rfl Try.underlying85) ?_
  refine L.nil ?_
  show W _ _ _ _ _ _
  refine W.condT rfl ?_
  refine W.seq ?_
  refine W.region rfl ?_
  refine L.va (x_asB rfl) ?_
  refine L.nil ?_
  show W _ _ _ _ _ _
  refine W.ret ?_
  repeat (first | refine T.ret ?_ | refine B.ret ?_)
  refine ends.one (.inr rfl) rfl ?_
  exact ⟨rfl, hb⟩

theorem free_no (Bs hp : Nat) (obj most : Int) (n : Nat) (nd : Nat → Nd) (m : Nat) (pool : Nat → Int) (w0 : World) (hS : H w0 Bs hp obj most n nd m pool) (i : Nat) (hi : i < n) (gen : Int) (hno : ¬ ((nd i).l = true ∧ (nd i).g = gen)) : C Try.prog 13 #[.pointer (some ⟨hp, 0, none⟩), .pointer none, .agg #[.int .i64 ((i : Int) + 1), .int .i64 gen]] w0 fun v w => v = .bool false ∧ Below w0.heap.size w0 w := by
  refine C.enter (n := 65) Try.func13 rfl rfl ?_
  have hb : Below w0.heap.size w0 w0 := Below.refl _ _
  obtain ⟨wb, pb, lb, la, pa, lc, pc, X, hH, hW, hP, hL, hO, hX, hPl, hpc, lH, lP, lL, hpl, hnil⟩ := hS
  refine W.seq ?_
  refine W.region rfl ?_
  refine L.box (cs := #[.int .i64 ((i : Nat) + 1), .int .i64 gen]) rfl rfl (fun w b5 F5 => ?_)
  have lt5 : w0.heap.size ≤ b5 := by have h9 := F5.here; have h8 := hb.size; omega
  have hb := cl_step hb F5.below
  have hH := hH.keep F5.below
  have hW := hW.keep F5.below
  have hP := hP.keep F5.below
  have hL := hL.keep F5.below
  have hO := hO.keep F5.below
  have hX := hX.keep F5.below
  have hPl := hPl.keep F5.below
  have hB5 := F5.blk
  refine L.va (x_asB rfl) ?_
  refine L.nil ?_
  show W _ _ _ _ _ _
  refine W.seq ?_
  refine W.seq ?_
  refine W.region rfl ?_
  refine L.va (x_mvP rfl) ?_
  refine L.va (x_eqPtrNil rfl rfl Try.underlying24) ?_
  refine L.nil ?_
  show W _ _ _ _ _ _
  refine W.condF rfl ?_
  refine W.skip ?_
  show W _ _ _ _ _ _
  refine W.seq ?_
  refine W.region rfl ?_
  refine L.va (x_mvP rfl) ?_
  refine L.va (x_field rfl Try.underlying35 rfl sz3 (by decide)) ?_
  refine L.va (x_load rfl Try.underlying3 rfl (hB5.cellAt 0 (v := .int .i64 ((i : Nat) + 1)) rfl)) ?_
  refine L.call (x_call2 rfl rfl Try.func32 rfl nm32 rfl) (cell_in hp wb pb lb la pa lc pc X obj most n 0 w hH hL hO i hi) ?_
  rintro _ w1 ⟨rfl, hw⟩
  rw [hw]
  clear hw w1
  have hXi := hX.blk i hi
  refine L.va (x_asP rfl) ?_
  refine L.nil ?_
  show W _ _ _ _ _ _
  refine W.seq ?_
  refine W.seq ?_
  refine W.region rfl ?_
  refine L.va (x_mvP rfl) ?_
  refine L.va (x_eqPtrNil rfl rfl Try.underlying85) ?_
  refine L.nil ?_
  show W _ _ _ _ _ _
  refine W.condF rfl ?_
  refine W.skip ?_
  show W _ _ _ _ _ _
  refine W.seq ?_
  refine W.region rfl ?_
  refine L.va (x_mvP rfl) ?_
  refine L.va (x_mvP rfl) ?_
  refine L.call (x_call2 rfl rfl Try.func37 rfl nm37 rfl) (ndget (X i) wb obj _ (nd i).g (nd i).l (nd i).v w hXi hW) ?_
  rintro _ w ⟨rfl, hbw⟩
  have hb := cl_step hb hbw
  have hH := hH.keep hbw
  have hW := hW.keep hbw
  have hP := hP.keep hbw
  have hL := hL.keep hbw
  have hO := hO.keep hbw
  have hX := hX.keep hbw
  have hPl := hPl.keep hbw
  have hB5 := hB5.keep hbw
  have hXi := hXi.keep hbw
  refine L.alloc (cs := #[.int .i64 0, .bool false, .int .i64 0]) zr90 rfl (fun w b8 F8 => ?_)
  have lt8 : w0.heap.size ≤ b8 := by have h9 := F8.here; have h8 := hb.size; omega
  have hb := cl_step hb F8.below
  have hH := hH.keep F8.below
  have hW := hW.keep F8.below
  have hP := hP.keep F8.below
  have hL := hL.keep F8.below
  have hO := hO.keep F8.below
  have hX := hX.keep F8.below
  have hPl := hPl.keep F8.below
  have hB5 := hB5.keep F8.below
  have hXi := hXi.keep F8.below
  have hB8 := F8.blk
  refine L.put (b := b8) (o := 0) (vs := [.int .i64 ((nd i).g), .bool ((nd i).l), .int .i64 ((nd i).v)]) #[.int .i64 ((nd i).g), .bool ((nd i).l), .int .i64 ((nd i).v)] rfl rfl rfl sz90 rfl rfl hB8 (Nat.le_of_ble_eq_true rfl) rfl (fun w hnew hg hsz => ?_)
  have hm0 := ModT.put0 hB8 hg
  have hb := below_gr hb hb.size hg lt8
  have hH := hH.mod hm0 rfl
  have hW := hW.mod hm0 rfl
  have hP := hP.mod hm0 rfl
  have hL := hL.mod hm0 rfl
  have hO := hO.mod hm0 rfl
  have hX := hX.mod hm0 rfl
  have hPl := hPl.mod hm0 rfl
  have hB5 := hB5.mod hm0 rfl
  have hXi := hXi.mod hm0 rfl
  have hB8 := hnew
  clear hm0
  refine L.nil ?_
  show W _ _ _ _ _ _
  refine W.seq ?_
  refine W.seq ?_
  refine W.region rfl ?_
  refine L.va (x_field rfl Try.underlying90 rfl sz4 (by decide)) ?_
  refine L.va (x_load rfl Try.underlying4 rfl (hB8.cellAt 1 (v := .bool ((nd i).l)) rfl)) ?_
  refine L.va (x_not rfl) ?_
  refine L.va (x_mvB rfl) ?_
  refine L.meetB 6 [25,26,27,28,29,30,31] 31 (.bool (!decide ((nd i).l = true ∧ (nd i).g = gen))) (tj := 25) rfl (fun hb25 => ?_) (fun hb25 => ?_) (fun f => ?_)
  · refine L.off rfl ?_
    refine L.off rfl ?_
    refine L.off rfl ?_
    refine L.off rfl ?_
    refine L.off rfl ?_
    refine L.va (x_pickT rfl) ?_
    refine L.nil ?_
    refine ⟨rfl, congrArg Value.bool (by simp only [Bool.not_eq_true'] at hb25; simp [hb25]), ?_⟩
    exact Agree.upd rfl (Agree.upd rfl (Agree.upd rfl (Agree.upd rfl (Agree.upd rfl (Agree.upd rfl (Agree.upd rfl (Agree.refl _ _)))))))
  · refine L.on rfl ?_
    refine L.va (x_field rfl Try.underlying90 rfl sz3 (by decide)) ?_
    refine L.on rfl ?_
    refine L.va (x_load rfl Try.underlying3 rfl (hB8.cellAt 0 (v := .int .i64 ((nd i).g)) rfl)) ?_
    refine L.on rfl ?_
    refine L.va (x_field rfl Try.underlying35 rfl sz3 (by decide)) ?_
    refine L.on rfl ?_
    refine L.va (x_load rfl Try.underlying3 rfl (hB5.cellAt 1 (v := .int .i64 gen) rfl)) ?_
    refine L.on rfl ?_
    refine L.va (x_neq rfl rfl) ?_
    refine L.va (x_pickF rfl) ?_
    refine L.nil ?_
    refine ⟨rfl, congrArg Value.bool (by simp only [Bool.not_eq_false'] at hb25; simp [hb25]), ?_⟩
    exact Agree.upd rfl (Agree.upd rfl (Agree.upd rfl (Agree.upd rfl (Agree.upd rfl (Agree.upd rfl (Agree.upd rfl (Agree.refl _ _)))))))
  refine L.nil ?_
  show W _ _ _ _ _ _
  refine W.condT (rb (by simp [hno])) ?_
  refine W.seq ?_
  refine W.region rfl ?_
  refine L.va (x_asB rfl) ?_
  refine L.nil ?_
  show W _ _ _ _ _ _
  refine W.ret ?_
  repeat (first | refine T.ret ?_ | refine B.ret ?_)
  refine ends.one (.inr rfl) rfl ?_
  exact ⟨rfl, hb⟩

set_option maxHeartbeats 400000 in
theorem alloc_full (Bs hp : Nat) (obj most : Int) (n : Nat) (nd : Nat → Nd) (m : Nat) (pool : Nat → Int) (w0 : World) (hS : H w0 Bs hp obj most n nd m pool) (v : Int) (hm0' : m = 0) (hfull : most ≤ (n : Int)) : C Try.prog 12 #[.pointer (some ⟨hp, 0, none⟩), .pointer none, .int .i64 v] w0 fun r w => r = .tuple #[.agg #[.int .i64 0, .int .i64 0], .int .i64 5] ∧ Below w0.heap.size w0 w := by
  refine C.enter (n := 102) Try.func12 rfl rfl ?_
  have hb : Below w0.heap.size w0 w0 := Below.refl _ _
  obtain ⟨wb, pb, lb, la, pa, lc, pc, X, hH, hW, hP, hL, hO, hX, hPl, hpc, lH, lP, lL, hpl, hnil⟩ := hS
  subst hm0'
  refine W.seq ?_
  refine W.region rfl ?_
  refine L.alloc (cs := #[.int .i64 0, .int .i64 0]) zr35 rfl (fun w b6 F6 => ?_)
  have lt6 : w0.heap.size ≤ b6 := by have h9 := F6.here; have h8 := hb.size; omega
  have hb := cl_step hb F6.below
  have hH := hH.keep F6.below
  have hW := hW.keep F6.below
  have hP := hP.keep F6.below
  have hL := hL.keep F6.below
  have hO := hO.keep F6.below
  have hX := hX.keep F6.below
  have hPl := hPl.keep F6.below
  have hB6 := F6.blk
  refine L.va (x_asI rfl) ?_
  refine L.nil ?_
  show W _ _ _ _ _ _
  refine W.seq ?_
  refine W.seq ?_
  refine W.region rfl ?_
  refine L.va (x_mvP rfl) ?_
  refine L.va (x_eqPtrNil rfl rfl Try.underlying24) ?_
  refine L.nil ?_
  show W _ _ _ _ _ _
  refine W.condF rfl ?_
  refine W.skip ?_
  show W _ _ _ _ _ _
  refine W.seq ?_
  refine W.region rfl ?_
  refine L.va (x_mvP rfl) ?_
  refine L.va (x_nilCheck rfl) ?_
  refine L.va (x_field rfl Try.underlying78 rfl sz68 (by decide)) ?_
  refine L.va (x_load rfl Try.underlying68 rfl (hH.cellAt 3 (v := .pointer (some ⟨pb, 0, none⟩)) rfl)) ?_
  refine L.va (x_mvP rfl) ?_
  refine L.call (x_call2 rfl rfl Try.func31 rfl nm31 rfl) (plget pb wb obj 0 pa 0 pc w hP hW) ?_
  rintro _ w ⟨rfl, hbw⟩
  have hb := cl_step hb hbw
  have hH := hH.keep hbw
  have hW := hW.keep hbw
  have hP := hP.keep hbw
  have hL := hL.keep hbw
  have hO := hO.keep hbw
  have hX := hX.keep hbw
  have hPl := hPl.keep hbw
  have hB6 := hB6.keep hbw
  refine L.va (x_asS rfl) ?_
  refine L.nil ?_
  show W _ _ _ _ _ _
  refine W.seq ?_
  refine W.seq ?_
  refine W.region rfl ?_
  refine L.va (x_mvS rfl) ?_
  refine L.va (x_len rfl Try.underlying49 rfl) ?_
  refine L.va (x_subI rfl rfl (by omega)) ?_
  refine L.va (x_asI rfl) ?_
  refine L.nil ?_
  show W _ _ _ _ _ _
  refine W.seq ?_
  refine W.region rfl ?_
  refine L.va (x_mvI rfl) ?_
  refine L.va (x_geq rfl rfl) ?_
  refine L.nil ?_
  show W _ _ _ _ _ _
  refine W.condF (rb (decide_eq_false (by omega))) ?_
  refine W.skip ?_
  show W _ _ _ _ _ _
  refine W.seq ?_
  refine W.region rfl ?_
  refine L.va (x_mvP rfl) ?_
  refine L.va (x_nilCheck rfl) ?_
  refine L.va (x_field rfl Try.underlying78 rfl sz76 (by decide)) ?_
  refine L.call (x_call1 rfl Try.func35 rfl nm35 rfl) (loadp_c hp lb _ _ _ _ _ w hH hL) ?_
  rintro _ w1 ⟨rfl, hw⟩
  rw [hw]
  clear hw w1
  refine L.va (x_nilCheck rfl) ?_
  refine L.va (x_load rfl Try.underlying80 rfl (hL.cellAt 0 (v := .slice la n lc) rfl)) ?_
  refine L.alloc (cs := #[.slice none 0 0]) zr80 rfl (fun w b13 F13 => ?_)
  have lt13 : w0.heap.size ≤ b13 := by have h9 := F13.here; have h8 := hb.size; omega
  have ne13hL := F13.ne hL
  have hb := cl_step hb F13.below
  have hH := hH.keep F13.below
  have hW := hW.keep F13.below
  have hP := hP.keep F13.below
  have hL := hL.keep F13.below
  have hO := hO.keep F13.below
  have hX := hX.keep F13.below
  have hPl := hPl.keep F13.below
  have hB6 := hB6.keep F13.below
  have hB13 := F13.blk
  refine L.put (b := b13) (o := 0) (vs := [.slice la n lc]) #[.slice la n lc] rfl rfl rfl sz80 rfl rfl hB13 (Nat.le_of_ble_eq_true rfl) rfl (fun w hnew hg hsz => ?_)
  have hm0 := ModT.put0 hB13 hg
  have hb := below_gr hb hb.size hg lt13
  have hH := hH.mod hm0 rfl
  have hW := hW.mod hm0 rfl
  have hP := hP.mod hm0 rfl
  have hL := hL.other hg ne13hL
  have hO := hO.mod hm0 rfl
  have hX := hX.mod hm0 rfl
  have hPl := hPl.mod hm0 rfl
  have hB6 := hB6.mod hm0 rfl
  have hB13 := hnew
  clear hm0
  refine L.nil ?_
  show W _ _ _ _ _ _
  refine W.seq ?_
  refine W.seq ?_
  refine W.quiet (fun w' => Below w.heap.size w w') (by kernel_rfl) (by kernel_rfl) ((Below.refl w.heap.size w).drew) ?_
  refine D.va (fun w' hw' => (x_load rfl Try.underlying80 rfl ((hB13.keep hw').cellAt 0 (v := .slice la n lc) rfl))) ?_
  refine D.va (fun w' hw' => (x_len rfl Try.underlying80 rfl)) ?_
  refine D.va (fun w' hw' => (x_mvP rfl)) ?_
  refine D.va (fun w' hw' => (x_nilCheck rfl)) ?_
  refine D.va (fun w' hw' => (x_field rfl Try.underlying78 rfl sz3 (by decide))) ?_
  refine D.va (fun w' hw' => (x_load rfl Try.underlying3 rfl ((hH.keep hw').cellAt 2 (v := .int .i64 most) rfl))) ?_
  refine D.va (fun w' hw' => (x_geq rfl rfl)) ?_
  refine D.nil (fun w hbw => ?_)
  have hb := cl_step hb hbw
  have hH := hH.keep hbw
  have hW := hW.keep hbw
  have hP := hP.keep hbw
  have hL := hL.keep hbw
  have hO := hO.keep hbw
  have hX := hX.keep hbw
  have hPl := hPl.keep hbw
  have hB6 := hB6.keep hbw
  have hB13 := hB13.keep hbw
  clear hbw
  show W _ _ _ _ _ _
  refine W.condT (rb (decide_eq_true hfull)) ?_
  refine W.seq ?_
  refine W.region rfl ?_
  refine L.va (x_build (parts := []) rfl buB_1) ?_
  refine L.put (b := b6) (o := 0) (vs := [.int .i64 0, .int .i64 0]) #[.int .i64 0, .int .i64 0] rfl rfl rfl sz35 rfl rfl hB6 (Nat.le_of_ble_eq_true rfl) rfl (fun w hnew hg hsz => ?_)
  have hm0 := ModT.put0 hB6 hg
  have hb := below_gr hb hb.size hg lt6
  have hH := hH.mod hm0 rfl
  have hW := hW.mod hm0 rfl
  have hP := hP.mod hm0 rfl
  have hL := hL.mod hm0 rfl
  have hO := hO.mod hm0 rfl
  have hX := hX.mod hm0 rfl
  have hPl := hPl.mod hm0 rfl
  have hB13 := hB13.mod hm0 rfl
  have hB6 := hnew
  clear hm0
  refine L.va (x_asI rfl) ?_
  refine L.nil ?_
  show W _ _ _ _ _ _
  refine W.ret ?_
  repeat (first | refine T.ret ?_ | refine B.ret ?_)
  refine ends.cellTmp (cs := #[.int .i64 0, .int .i64 0]) (.inr rfl) rfl rfl Try.underlying35 rfl sz35 hB6 ?_
  exact ⟨rfl, hb⟩

set_option maxHeartbeats 400000 in
theorem alloc_new (Bs hp : Nat) (obj most : Int) (n : Nat) (nd : Nat → Nd) (m : Nat) (pool : Nat → Int) (w0 : World) (hS : H w0 Bs hp obj most n nd m pool) (v : Int) (hBs : Bs ≤ w0.heap.size) (hm0' : m = 0) (hfull : (n : Int) < most) (hmost : most ≤ 1048576) : C Try.prog 12 #[.pointer (some ⟨hp, 0, none⟩), .pointer none, .int .i64 v] w0 fun r w => r = .tuple #[.agg #[.int .i64 ((n : Int) + 1), .int .i64 1], .int .i64 0] ∧ H w Bs hp obj most (n + 1) (upf nd n ⟨1, true, v⟩) 0 pool ∧ ModT w0 w Bs [78, 126, 132, 85] := by
  refine C.enter (n := 102) Try.func12 rfl rfl ?_
  have hm : ModT w0 w0 Bs [78, 126, 132, 85] := ModT.refl _ _ _
  obtain ⟨wb, pb, lb, la, pa, lc, pc, X, hH, hW, hP, hL, hO, hX, hPl, hpc, lH, lP, lL, hpl, hnil⟩ := hS
  subst hm0'
  refine W.seq ?_
  refine W.region rfl ?_
  refine L.alloc (cs := #[.int .i64 0, .int .i64 0]) zr35 rfl (fun w b6 F6 => ?_)
  have lt6 : w0.heap.size ≤ b6 := by have h9 := F6.here; have h8 := hm.size; omega
  have hm := hm.step F6.below (Nat.le_trans hBs hm.size)
  have hH := hH.keep F6.below
  have hW := hW.keep F6.below
  have hP := hP.keep F6.below
  have hL := hL.keep F6.below
  have hO := hO.keep F6.below
  have hX := hX.keep F6.below
  have hPl := hPl.keep F6.below
  have hB6 := F6.blk
  refine L.va (x_asI rfl) ?_
  refine L.nil ?_
  show W _ _ _ _ _ _
  refine W.seq ?_
  refine W.seq ?_
  refine W.region rfl ?_
  refine L.va (x_mvP rfl) ?_
  refine L.va (x_eqPtrNil rfl rfl Try.underlying24) ?_
  refine L.nil ?_
  show W _ _ _ _ _ _
  refine W.condF rfl ?_
  refine W.skip ?_
  show W _ _ _ _ _ _
  refine W.seq ?_
  refine W.region rfl ?_
  refine L.va (x_mvP rfl) ?_
  refine L.va (x_nilCheck rfl) ?_
  refine L.va (x_field rfl Try.underlying78 rfl sz68 (by decide)) ?_
  refine L.va (x_load rfl Try.underlying68 rfl (hH.cellAt 3 (v := .pointer (some ⟨pb, 0, none⟩)) rfl)) ?_
  refine L.va (x_mvP rfl) ?_
  refine L.call (x_call2 rfl rfl Try.func31 rfl nm31 rfl) (plget pb wb obj 0 pa 0 pc w hP hW) ?_
  rintro _ w ⟨rfl, hbw⟩
  have hm := hm.step hbw (Nat.le_trans hBs hm.size)
  have hH := hH.keep hbw
  have hW := hW.keep hbw
  have hP := hP.keep hbw
  have hL := hL.keep hbw
  have hO := hO.keep hbw
  have hX := hX.keep hbw
  have hPl := hPl.keep hbw
  have hB6 := hB6.keep hbw
  refine L.va (x_asS rfl) ?_
  refine L.nil ?_
  show W _ _ _ _ _ _
  refine W.seq ?_
  refine W.seq ?_
  refine W.region rfl ?_
  refine L.va (x_mvS rfl) ?_
  refine L.va (x_len rfl Try.underlying49 rfl) ?_
  refine L.va (x_subI rfl rfl (by omega)) ?_
  refine L.va (x_asI rfl) ?_
  refine L.nil ?_
  show W _ _ _ _ _ _
  refine W.seq ?_
  refine W.region rfl ?_
  refine L.va (x_mvI rfl) ?_
  refine L.va (x_geq rfl rfl) ?_
  refine L.nil ?_
  show W _ _ _ _ _ _
  refine W.condF (rb (decide_eq_false (by omega))) ?_
  refine W.skip ?_
  show W _ _ _ _ _ _
  refine W.seq ?_
  refine W.region rfl ?_
  refine L.va (x_mvP rfl) ?_
  refine L.va (x_nilCheck rfl) ?_
  refine L.va (x_field rfl Try.underlying78 rfl sz76 (by decide)) ?_
  refine L.call (x_call1 rfl Try.func35 rfl nm35 rfl) (loadp_c hp lb _ _ _ _ _ w hH hL) ?_
  rintro _ w1 ⟨rfl, hw⟩
  rw [hw]
  clear hw w1
  refine L.va (x_nilCheck rfl) ?_
  refine L.va (x_load rfl Try.underlying80 rfl (hL.cellAt 0 (v := .slice la n lc) rfl)) ?_
  refine L.alloc (cs := #[.slice none 0 0]) zr80 rfl (fun w b13 F13 => ?_)
  have lt13 : w0.heap.size ≤ b13 := by have h9 := F13.here; have h8 := hm.size; omega
  have ne13hL := F13.ne hL
  have hm := hm.step F13.below (Nat.le_trans hBs hm.size)
  have hH := hH.keep F13.below
  have hW := hW.keep F13.below
  have hP := hP.keep F13.below
  have hL := hL.keep F13.below
  have hO := hO.keep F13.below
  have hX := hX.keep F13.below
  have hPl := hPl.keep F13.below
  have hB6 := hB6.keep F13.below
  have hB13 := F13.blk
  refine L.put (b := b13) (o := 0) (vs := [.slice la n lc]) #[.slice la n lc] rfl rfl rfl sz80 rfl rfl hB13 (Nat.le_of_ble_eq_true rfl) rfl (fun w hnew hg hsz => ?_)
  have hm0 := ModT.put0 hB13 hg
  have hm := hm.own hg lt13 hBs
  have hH := hH.mod hm0 rfl
  have hW := hW.mod hm0 rfl
  have hP := hP.mod hm0 rfl
  have hL := hL.other hg ne13hL
  have hO := hO.mod hm0 rfl
  have hX := hX.mod hm0 rfl
  have hPl := hPl.mod hm0 rfl
  have hB6 := hB6.mod hm0 rfl
  have hB13 := hnew
  clear hm0
  refine L.nil ?_
  show W _ _ _ _ _ _
  refine W.seq ?_
  refine W.seq ?_
  refine W.quiet (fun w' => Below w.heap.size w w') (by kernel_rfl) (by kernel_rfl) ((Below.refl w.heap.size w).drew) ?_
  refine D.va (fun w' hw' => (x_load rfl Try.underlying80 rfl ((hB13.keep hw').cellAt 0 (v := .slice la n lc) rfl))) ?_
  refine D.va (fun w' hw' => (x_len rfl Try.underlying80 rfl)) ?_
  refine D.va (fun w' hw' => (x_mvP rfl)) ?_
  refine D.va (fun w' hw' => (x_nilCheck rfl)) ?_
  refine D.va (fun w' hw' => (x_field rfl Try.underlying78 rfl sz3 (by decide))) ?_
  refine D.va (fun w' hw' => (x_load rfl Try.underlying3 rfl ((hH.keep hw').cellAt 2 (v := .int .i64 most) rfl))) ?_
  refine D.va (fun w' hw' => (x_geq rfl rfl)) ?_
  refine D.nil (fun w hbw => ?_)
  have hm := hm.step hbw (Nat.le_trans hBs hm.size)
  have hH := hH.keep hbw
  have hW := hW.keep hbw
  have hP := hP.keep hbw
  have hL := hL.keep hbw
  have hO := hO.keep hbw
  have hX := hX.keep hbw
  have hPl := hPl.keep hbw
  have hB6 := hB6.keep hbw
  have hB13 := hB13.keep hbw
  clear hbw
  show W _ _ _ _ _ _
  refine W.condF (rb (decide_eq_false (by omega))) ?_
  refine W.skip ?_
  show W _ _ _ _ _ _
  refine W.seq ?_
  refine W.region rfl ?_
  refine L.va (x_load rfl Try.underlying80 rfl (hB13.cellAt 0 (v := .slice la n lc) rfl)) ?_
  refine L.va (x_len rfl Try.underlying80 rfl) ?_
  refine L.va (x_addI rfl rfl (by omega)) ?_
  refine L.va (x_asI rfl) ?_
  refine L.nil ?_
  show W _ _ _ _ _ _
  refine W.seq ?_
  refine W.lastL 10 (fun w' => Below w.heap.size w w') (by kernel_rfl) (by kernel_rfl) (by kernel_rfl) (by kernel_rfl) ((Below.refl w.heap.size w).drew) ?_
  refine D.va (fun w' hw' => (x_mvP rfl)) ?_
  refine D.va (fun w' hw' => (x_nilCheck rfl)) ?_
  refine D.va (fun w' hw' => (x_field rfl Try.underlying78 rfl sz28 (by decide))) ?_
  refine D.va (fun w' hw' => (x_load rfl Try.underlying28 rfl ((hH.keep hw').cellAt 0 (v := .pointer (some ⟨wb, 0, none⟩)) rfl))) ?_
  refine D.va (fun w' hw' => (x_mvP rfl)) ?_
  refine D.va (fun w' hw' => (x_nilCheck rfl)) ?_
  refine D.va (fun w' hw' => (x_field rfl Try.underlying78 rfl sz3 (by decide))) ?_
  refine D.va (fun w' hw' => (x_load rfl Try.underlying3 rfl ((hH.keep hw').cellAt 1 (v := .int .i64 obj) rfl))) ?_
  refine D.va (fun w' hw' => (x_mvI rfl)) ?_
  refine D.va (fun w' hw' => (x_build (parts := []) rfl buB_2)) ?_
  refine D.nil (fun w hbw => ?_)
  have hm := hm.step hbw (Nat.le_trans hBs hm.size)
  have hH := hH.keep hbw
  have hW := hW.keep hbw
  have hP := hP.keep hbw
  have hL := hL.keep hbw
  have hO := hO.keep hbw
  have hX := hX.keep hbw
  have hPl := hPl.keep hbw
  have hB6 := hB6.keep hbw
  have hB13 := hB13.keep hbw
  clear hbw
  refine L.call (x_call4 rfl rfl rfl rfl Try.func36 rfl nm36 rfl) (ndnew wb obj _ 0 false 0 w) ?_
  rintro _ w ⟨xb, rfl, ltx0, hXb, hbw⟩
  have ltx := Nat.le_trans hm.size ltx0
  have hnx : ∀ i, i < n → X i ≠ xb := fun i hi => by have := (hX.blk i hi).lt; omega
  have hm := hm.step hbw (Nat.le_trans hBs hm.size)
  have hH := hH.keep hbw
  have hW := hW.keep hbw
  have hP := hP.keep hbw
  have hL := hL.keep hbw
  have hO := hO.keep hbw
  have hX := hX.keep hbw
  have hPl := hPl.keep hbw
  have hB6 := hB6.keep hbw
  have hB13 := hB13.keep hbw
  refine L.va (x_asP rfl) ?_
  refine L.nil ?_
  show W _ _ _ _ _ _
  refine W.seq ?_
  refine W.region rfl ?_
  refine L.va (x_mvP rfl) ?_
  refine L.va (x_mvP rfl) ?_
  refine L.va (x_mvI rfl) ?_
  refine L.va (x_build (parts := [(0, .const (.int .i64 1)), (1, .const (.bool true)), (2, .tmp 89)]) rfl (buB_3 1 true v)) ?_
  refine L.call (x_call3 rfl rfl rfl Try.func34 rfl nm34 rfl) (ndset xb wb obj _ 1 true v 0 false 0 w hXb hW) ?_
  rintro _ w ⟨hnew, hg⟩
  have hm0 := ModT.put0 hXb hg
  have hm := hm.own hg ltx hBs
  have hH := hH.mod hm0 rfl
  have hW := hW.mod hm0 rfl
  have hP := hP.mod hm0 rfl
  have hL := hL.mod hm0 rfl
  have hO := hO.mod hm0 rfl
  -- LOST hX
  have hPl := hPl.mod hm0 rfl
  have hB6 := hB6.mod hm0 rfl
  have hB13 := hB13.mod hm0 rfl
  have hXb := hnew
  clear hm0
  have hX := hX.other hg hnx
  refine L.nil ?_
  show W _ _ _ _ _ _
  refine W.seq ?_
  refine W.region rfl ?_
  refine L.va (x_load rfl Try.underlying80 rfl (hB13.cellAt 0 (v := .slice la n lc) rfl)) ?_
  refine L.va (x_mvP rfl) ?_
  refine L.build1 (cs := #[.pointer (some ⟨xb, 0, none⟩)]) rfl rfl Try.underlying80 sz85 rfl ⟨_, zr85⟩ (by decide) (fun w b94 F94 => ?_)
  have lt94 : w0.heap.size ≤ b94 := by have h9 := F94.here; have h8 := hm.size; omega
  have hm := hm.step F94.below (Nat.le_trans hBs hm.size)
  have hH := hH.keep F94.below
  have hW := hW.keep F94.below
  have hP := hP.keep F94.below
  have hL := hL.keep F94.below
  have hO := hO.keep F94.below
  have hPl := hPl.keep F94.below
  have hB6 := hB6.keep F94.below
  have hB13 := hB13.keep F94.below
  have hXb := hXb.keep F94.below
  have hX := hX.keep F94.below
  have hB94 := F94.blk
  have hsz0 := hm.size
  refine L.append (B := Bs) rfl rfl Try.underlying80 in85 rfl (by decide) hO (news := [.pointer (some ⟨xb, 0, none⟩)]) rfl (fun q u hq => ?_) (fun u hu => by simp at hu; subst hu; rfl) (by omega) (by omega) (by omega) (fun la2 lc2 w2 hO2 hg hbel _ => ?_)
  · rw [Addr.add_lit]
    match q, hq with
    | 0, hq => cases hq; exact hB94.cellAt 0 rfl
  have hmo : ModT w w2 Bs [85] := ModT.app hO hg hbel rfl hO2
  have hm := hm.trans (hmo.wide rfl)
  have hH := hH.mod hmo rfl
  have hW := hW.mod hmo rfl
  have hP := hP.mod hmo rfl
  have hL := hL.mod hmo rfl
  have hPl := hPl.mod hmo rfl
  have hB6 := hB6.mod hmo rfl
  have hB13 := hB13.mod hmo rfl
  have hXb := hXb.mod hmo rfl
  have hX := hX.mod hmo rfl
  clear hmo hbel hg hO hnew
  rename World => w
  refine L.put (b := b13) (o := 0) (vs := [.slice la2 (n + 1) lc2]) #[.slice la2 (n + 1) lc2] rfl rfl rfl sz80 rfl rfl hB13 (Nat.le_of_ble_eq_true rfl) rfl (fun w hnew hg hsz => ?_)
  have hm0 := ModT.put0 hB13 hg
  have hm := hm.own hg lt13 hBs
  have hH := hH.mod hm0 rfl
  have hW := hW.mod hm0 rfl
  have hP := hP.mod hm0 rfl
  have hL := hL.other hg ne13hL
  have hPl := hPl.mod hm0 rfl
  have hB6 := hB6.mod hm0 rfl
  have hXb := hXb.mod hm0 rfl
  have hX := hX.mod hm0 rfl
  have hO2 := hO2.mod hm0 rfl
  have hB13 := hnew
  clear hm0
  refine L.nil ?_
  show W _ _ _ _ _ _
  refine W.seq ?_
  refine W.region rfl ?_
  refine L.va (x_mvP rfl) ?_
  refine L.va (x_nilCheck rfl) ?_
  refine L.va (x_field rfl Try.underlying78 rfl sz76 (by decide)) ?_
  refine L.call (x_call2 rfl rfl Try.func30 rfl nm30 rfl) (storep_c hp b13 _ _ _ _ _ _ w hH hB13) ?_
  rintro _ w ⟨hnew, hg⟩
  have hm0 := ModT.put0 hH hg
  have hm := hm.trans (ModT.put hH hg lH rfl)
  have hW := hW.mod hm0 rfl
  have hP := hP.mod hm0 rfl
  have hL := hL.mod hm0 rfl
  have hPl := hPl.mod hm0 rfl
  have hB6 := hB6.mod hm0 rfl
  have hB13 := hB13.mod hm0 rfl
  have hXb := hXb.mod hm0 rfl
  have hX := hX.mod hm0 rfl
  have hO2 := hO2.mod hm0 rfl
  have hH := hnew
  clear hm0
  refine L.nil ?_
  show W _ _ _ _ _ _
  refine W.seq ?_
  refine W.region rfl ?_
  refine L.va (x_mvI rfl) ?_
  refine L.va (x_build (parts := [(0, .tmp 100), (1, .const (.int .i64 1))]) rfl (buB_4 ((n : Nat) + 1) 1)) ?_
  refine L.put (b := b6) (o := 0) (vs := [.int .i64 ((n : Nat) + 1), .int .i64 1]) #[.int .i64 ((n : Nat) + 1), .int .i64 1] rfl rfl rfl sz35 rfl rfl hB6 (Nat.le_of_ble_eq_true rfl) rfl (fun w hnew hg hsz => ?_)
  have hm0 := ModT.put0 hB6 hg
  have hm := hm.own hg lt6 hBs
  have hH := hH.mod hm0 rfl
  have hW := hW.mod hm0 rfl
  have hP := hP.mod hm0 rfl
  have hL := hL.mod hm0 rfl
  have hPl := hPl.mod hm0 rfl
  have hB13 := hB13.mod hm0 rfl
  have hXb := hXb.mod hm0 rfl
  have hX := hX.mod hm0 rfl
  have hO2 := hO2.mod hm0 rfl
  have hB6 := hnew
  clear hm0
  refine L.va (x_asI rfl) ?_
  refine L.nil ?_
  show W _ _ _ _ _ _
  refine W.ret ?_
  repeat (first | refine T.ret ?_ | refine B.ret ?_)
  refine ends.cellTmp (cs := #[.int .i64 ((n : Nat) + 1), .int .i64 1]) (.inr rfl) rfl rfl Try.underlying35 rfl sz35 hB6 ?_
  have hX2 := hX.snoc (d := ⟨1, true, v⟩) hXb (by omega) hnx
  exact ⟨rfl, ⟨wb, pb, b13, la2, pa, lc2, pc, _, hH, hW, hP, hB13, by rw [← ptrs_snoc]; exact hO2, hX2, hPl, hpc, lH, lP, by omega, fun j hj => absurd hj (Nat.not_lt_zero j), hnil⟩, hm⟩

end Go.Proofs.Ytahcjihhkmolpaa
