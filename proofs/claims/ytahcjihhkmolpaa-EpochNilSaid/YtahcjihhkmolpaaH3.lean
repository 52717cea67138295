/- A heap's Alloc out of the pool, and its Free: what each returns, and what becomes of the heap. -/
import Derived.Test.YtahcjihhkmolpaaH2
import Derived.Test.YtahcjihhkmolpaaVc11
namespace Go.Proofs.Ytahcjihhkmolpaa
open Go.Vc Go.RowKit

theorem buC_0 (x0 : Int) (x1 : Bool) (x2 : Int) : Try.prog.built 90 [(0, .int .i64 x0), (1, .bool x1), (2, .int .i64 x2)] = some #[.int .i64 x0, .bool x1, .int .i64 x2] := by kernel_rfl
theorem buC_1 (x0 : Int) (x1 : Int) : Try.prog.built 35 [(0, .int .i64 x0), (1, .int .i64 x1)] = some #[.int .i64 x0, .int .i64 x1] := by kernel_rfl
theorem buC_2 (x0 : Int) : Try.prog.built 90 [(0, .int .i64 x0)] = some #[.int .i64 x0, .bool false, .int .i64 0] := by kernel_rfl
set_option maxHeartbeats 400000 in
theorem alloc_pool (Bs hp : Nat) (obj most : Int) (n : Nat) (nd : Nat → Nd) (k : Nat) (pool : Nat → Int) (w0 : World) (hS : H w0 Bs hp obj most n nd (k + 1) pool) (v : Int) (hBs : Bs ≤ w0.heap.size) (hk40 : k ≤ 1099511627776) (i : Nat) (hi : i < n) (hik : pool k = (i : Int) + 1) : C Try.prog 12 #[.pointer (some ⟨hp, 0, none⟩), .pointer none, .int .i64 v] w0 fun r w => r = .tuple #[.agg #[.int .i64 ((i : Int) + 1), .int .i64 (nd i).g], .int .i64 0] ∧ H w Bs hp obj most n (upf nd i ⟨(nd i).g, true, v⟩) k pool ∧ ModT w0 w Bs [78, 126, 132, 85] := by
  refine C.enter (n := 102) Try.func12 rfl rfl ?_
  have hm : ModT w0 w0 Bs [78, 126, 132, 85] := ModT.refl _ _ _
  have hS0 := hS
  obtain ⟨wb, pb, lb, la, pa, lc, pc, X, hH, hW, hP, hL, hO, hX, hPl, hpc, lH, lP, lL, hpl, hnil⟩ := hS
  refine W.seq ?_
  refine W.region rfl ?_
  refine L.alloc (cs := #[.int .i64 0, .int .i64 0]) zr35 rfl (fun w b6 F6 => ?_)
  have lt6 : w0.heap.size ≤ b6 := by have h9 := F6.here; have h8 := hm.size; omega
  have hm := hm.step F6.below (Nat.le_trans hBs hm.size)
  have hH := hH.keep F6.below
  have hW := hW.keep F6.below
  have hP := hP.keep F6.below
  have hL := hL.keep F6.below
  have hO := hO.keep F6.below
  have hX := hX.keep F6.below
  have hPl := hPl.keep F6.below
  have hB6 := F6.blk
  refine L.va (x_asI rfl) ?_
  refine L.nil ?_
  show W _ _ _ _ _ _
  refine W.seq ?_
  refine W.seq ?_
  refine W.region rfl ?_
  refine L.va (x_mvP rfl) ?_
  refine L.va (x_eqPtrNil rfl rfl Try.underlying24) ?_
  refine L.nil ?_
  show W _ _ _ _ _ _
  refine W.condF rfl ?_
  refine W.skip ?_
  show W _ _ _ _ _ _
  refine W.seq ?_
  refine W.region rfl ?_
  refine L.va (x_mvP rfl) ?_
  refine L.va (x_nilCheck rfl) ?_
  refine L.va (x_field rfl Try.underlying78 rfl sz68 (by decide)) ?_
  refine L.va (x_load rfl Try.underlying68 rfl (hH.cellAt 3 (v := .pointer (some ⟨pb, 0, none⟩)) rfl)) ?_
  refine L.va (x_mvP rfl) ?_
  refine L.call (x_call2 rfl rfl Try.func31 rfl nm31 rfl) (plget pb wb obj 0 pa (k + 1) pc w hP hW) ?_
  rintro _ w ⟨rfl, hbw⟩
  have hm := hm.step hbw (Nat.le_trans hBs hm.size)
  have hH := hH.keep hbw
  have hW := hW.keep hbw
  have hP := hP.keep hbw
  have hL := hL.keep hbw
  have hO := hO.keep hbw
  have hX := hX.keep hbw
  have hPl := hPl.keep hbw
  have hB6 := hB6.keep hbw
  refine L.va (x_asS rfl) ?_
  refine L.nil ?_
  show W _ _ _ _ _ _
  refine W.seq ?_
  refine W.seq ?_
  refine W.region rfl ?_
  refine L.va (x_mvS rfl) ?_
  refine L.va (x_len rfl Try.underlying49 rfl) ?_
  refine L.va (x_dec (m := k) rfl rfl (by omega)) ?_
  refine L.va (x_asI rfl) ?_
  refine L.nil ?_
  show W _ _ _ _ _ _
  refine W.seq ?_
  refine W.region rfl ?_
  refine L.va (x_mvI rfl) ?_
  refine L.va (x_geq rfl rfl) ?_
  refine L.nil ?_
  show W _ _ _ _ _ _
  refine W.condT (rb (decide_eq_true (by omega))) ?_
  refine W.seq ?_
  refine W.region rfl ?_
  refine L.va (x_mvS rfl) ?_
  refine L.va (x_mvI rfl) ?_
  refine L.va (x_idx (i := k) rfl rfl Try.underlying49 sz3 hPl.sl (Nat.lt_succ_self k)) ?_
  refine L.va (x_load (v := .int .i64 ((i : Nat) + 1)) rfl Try.underlying3 rfl (by rw [← hik]; exact hPl.cell (Nat.lt_succ_self k))) ?_
  refine L.va (x_asI rfl) ?_
  refine L.nil ?_
  show W _ _ _ _ _ _
  refine W.seq ?_
  refine W.region rfl ?_
  refine L.va (x_mvP rfl) ?_
  refine L.va (x_mvI rfl) ?_
  refine L.call (x_call2 rfl rfl Try.func32 rfl nm32 rfl) (cell_in hp wb pb lb la pa lc pc X obj most n 0 w hH hL hO i hi) ?_
  rintro _ w1 ⟨rfl, hw⟩
  rw [hw]
  clear hw w1
  have hXi := hX.blk i hi
  refine L.va (x_asP rfl) ?_
  refine L.nil ?_
  show W _ _ _ _ _ _
  refine W.seq ?_
  refine W.lastL 9 (fun w' => Below w.heap.size w w') (by kernel_rfl) (by kernel_rfl) (by kernel_rfl) (by kernel_rfl) ((Below.refl w.heap.size w).drew) ?_
  refine D.va (fun w' hw' => (x_mvP rfl)) ?_
  refine D.va (fun w' hw' => (x_nilCheck rfl)) ?_
  refine D.va (fun w' hw' => (x_field rfl Try.underlying78 rfl sz68 (by decide))) ?_
  refine D.va (fun w' hw' => (x_load rfl Try.underlying68 rfl ((hH.keep hw').cellAt 3 (v := .pointer (some ⟨pb, 0, none⟩)) rfl))) ?_
  refine D.va (fun w' hw' => (x_mvP rfl)) ?_
  refine D.va (fun w' hw' => (x_mvS rfl)) ?_
  refine D.va (fun w' hw' => (x_mvI rfl)) ?_
  refine D.va (fun w' hw' => (x_mvI rfl)) ?_
  refine D.va (fun w' hw' => x_slice3 (k := k) (m := k) rfl rfl rfl Try.underlying49 sz3 (Nat.le_refl k) (by omega)) ?_
  refine D.nil (fun w hbw => ?_)
  have hm := hm.step hbw (Nat.le_trans hBs hm.size)
  have hH := hH.keep hbw
  have hW := hW.keep hbw
  have hP := hP.keep hbw
  have hL := hL.keep hbw
  have hO := hO.keep hbw
  have hX := hX.keep hbw
  have hPl := hPl.keep hbw
  have hB6 := hB6.keep hbw
  have hXi := hXi.keep hbw
  clear hbw
  refine L.call (x_call3 rfl rfl rfl Try.func33 rfl nm33 rfl) (plset pb wb obj 0 pa k k pa (k + 1) pc w hP hW) ?_
  rintro _ w ⟨hnew, hg⟩
  have hm0 := ModT.put0 hP hg
  have hm := hm.trans (ModT.put hP hg lP rfl)
  have hH := hH.mod hm0 rfl
  have hW := hW.mod hm0 rfl
  have hL := hL.mod hm0 rfl
  have hO := hO.mod hm0 rfl
  have hX := hX.mod hm0 rfl
  have hPl := hPl.mod hm0 rfl
  have hB6 := hB6.mod hm0 rfl
  have hXi := hXi.mod hm0 rfl
  have hP := hnew
  clear hm0
  refine L.nil ?_
  show W _ _ _ _ _ _
  refine W.seq ?_
  refine W.region rfl ?_
  refine L.va (x_mvP rfl) ?_
  refine L.va (x_mvI rfl) ?_
  refine L.call (x_call2 rfl rfl Try.func18 rfl nm18 rfl) (gen_in Bs hp obj most n nd k pool w ⟨wb, pb, lb, la, pa, lc, k, X, hH, hW, hP, hL, hO, hX, hPl.le (Nat.le_succ k), Nat.le_refl k, lH, lP, lL, fun j hj => hpl j (by omega), fun h => absurd (hnil h).1 (by omega)⟩ i hi) ?_
  rintro _ w ⟨rfl, hbw⟩
  have hm := hm.step hbw (Nat.le_trans hBs hm.size)
  have hH := hH.keep hbw
  have hW := hW.keep hbw
  have hP := hP.keep hbw
  have hL := hL.keep hbw
  have hO := hO.keep hbw
  have hX := hX.keep hbw
  have hPl := hPl.keep hbw
  have hB6 := hB6.keep hbw
  have hXi := hXi.keep hbw
  refine L.va (x_asI rfl) ?_
  refine L.nil ?_
  show W _ _ _ _ _ _
  refine W.seq ?_
  refine W.region rfl ?_
  refine L.va (x_mvP rfl) ?_
  refine L.va (x_mvP rfl) ?_
  refine L.va (x_mvI rfl) ?_
  refine L.va (x_mvI rfl) ?_
  refine L.va (x_build (parts := [(0, .tmp 52), (1, .const (.bool true)), (2, .tmp 53)]) rfl (buC_0 ((nd i).g) true v)) ?_
  refine L.call (x_call3 rfl rfl rfl Try.func34 rfl nm34 rfl) (ndset (X i) wb obj _ (nd i).g true v (nd i).g (nd i).l (nd i).v w hXi hW) ?_
  rintro _ w ⟨hnew, hg⟩
  have hm0 := ModT.put0 hXi hg
  have hm := hm.trans (ModT.put hXi hg (hX.le i hi) rfl)
  have hH := hH.mod hm0 rfl
  have hW := hW.mod hm0 rfl
  have hP := hP.mod hm0 rfl
  have hL := hL.mod hm0 rfl
  have hO := hO.mod hm0 rfl
  -- LOST hX
  have hPl := hPl.mod hm0 rfl
  have hB6 := hB6.mod hm0 rfl
  have hXi := hnew
  clear hm0
  have hX := hX.put (d := ⟨(nd i).g, true, v⟩) hi hg hXi
  refine L.nil ?_
  show W _ _ _ _ _ _
  refine W.seq ?_
  refine W.region rfl ?_
  refine L.va (x_mvI rfl) ?_
  refine L.va (x_mvI rfl) ?_
  refine L.va (x_build (parts := [(0, .tmp 56), (1, .tmp 57)]) rfl (buC_1 ((i : Nat) + 1) ((nd i).g))) ?_
  refine L.put (b := b6) (o := 0) (vs := [.int .i64 ((i : Nat) + 1), .int .i64 ((nd i).g)]) #[.int .i64 ((i : Nat) + 1), .int .i64 ((nd i).g)] rfl rfl rfl sz35 rfl rfl hB6 (Nat.le_of_ble_eq_true rfl) rfl (fun w hnew hg hsz => ?_)
  have hm0 := ModT.put0 hB6 hg
  have hm := hm.own hg lt6 hBs
  have hH := hH.mod hm0 rfl
  have hW := hW.mod hm0 rfl
  have hP := hP.mod hm0 rfl
  have hL := hL.mod hm0 rfl
  have hO := hO.mod hm0 rfl
  have hPl := hPl.mod hm0 rfl
  have hXi := hXi.mod hm0 rfl
  have hX := hX.mod hm0 rfl
  have hB6 := hnew
  clear hm0
  refine L.va (x_asI rfl) ?_
  refine L.nil ?_
  show W _ _ _ _ _ _
  refine W.ret ?_
  repeat (first | refine T.ret ?_ | refine B.ret ?_)
  refine ends.cellTmp (cs := #[.int .i64 ((i : Nat) + 1), .int .i64 ((nd i).g)]) (.inr rfl) rfl rfl Try.underlying35 rfl sz35 hB6 ?_
  exact ⟨rfl, ⟨wb, pb, lb, la, pa, lc, k, X, hH, hW, hP, hL, hO, hX, hPl.le (Nat.le_succ k), Nat.le_refl k, lH, lP, lL, fun j hj => hpl j (by omega), fun h => absurd (hnil h).1 (by omega)⟩, hm⟩

set_option maxHeartbeats 1000000 in
theorem free_ok (Bs hp : Nat) (obj most : Int) (n : Nat) (nd : Nat → Nd) (m : Nat) (pool : Nat → Int) (w0 : World) (hS : H w0 Bs hp obj most n nd m pool) (hBs : Bs ≤ w0.heap.size) (hm40 : m ≤ 1099511627776) (i : Nat) (hi : i < n) (hg1 : -4611686018427387904 ≤ (nd i).g ∧ (nd i).g ≤ 4611686018427387904) (hl : (nd i).l = true) : C Try.prog 13 #[.pointer (some ⟨hp, 0, none⟩), .pointer none, .agg #[.int .i64 ((i : Int) + 1), .int .i64 (nd i).g]] w0 fun v w => v = .bool true ∧ H w Bs hp obj most n (upf nd i ⟨(nd i).g + 1, false, 0⟩) (m + 1) (upf pool m ((i : Int) + 1)) ∧ ModT w0 w Bs [78, 126, 132, 85] := by
  refine C.enter (n := 65) Try.func13 rfl rfl ?_
  have hm : ModT w0 w0 Bs [78, 126, 132, 85] := ModT.refl _ _ _
  obtain ⟨wb, pb, lb, la, pa, lc, pc, X, hH, hW, hP, hL, hO, hX, hPl, hpc, lH, lP, lL, hpl, hnil⟩ := hS
  refine W.seq ?_
  refine W.region rfl ?_
  refine L.box (cs := #[.int .i64 ((i : Nat) + 1), .int .i64 ((nd i).g)]) rfl rfl (fun w b5 F5 => ?_)
  have lt5 : w0.heap.size ≤ b5 := by have h9 := F5.here; have h8 := hm.size; omega
  have hm := hm.step F5.below (Nat.le_trans hBs hm.size)
  have hH := hH.keep F5.below
  have hW := hW.keep F5.below
  have hP := hP.keep F5.below
  have hL := hL.keep F5.below
  have hO := hO.keep F5.below
  have hX := hX.keep F5.below
  have hPl := hPl.keep F5.below
  have hB5 := F5.blk
  refine L.va (x_asB rfl) ?_
  refine L.nil ?_
  show W _ _ _ _ _ _
  refine W.seq ?_
  refine W.seq ?_
  refine W.region rfl ?_
  refine L.va (x_mvP rfl) ?_
  refine L.va (x_eqPtrNil rfl rfl Try.underlying24) ?_
  refine L.nil ?_
  show W _ _ _ _ _ _
  refine W.condF rfl ?_
  refine W.skip ?_
  show W _ _ _ _ _ _
  refine W.seq ?_
  refine W.region rfl ?_
  refine L.va (x_mvP rfl) ?_
  refine L.va (x_field rfl Try.underlying35 rfl sz3 (by decide)) ?_
  refine L.va (x_load rfl Try.underlying3 rfl (hB5.cellAt 0 (v := .int .i64 ((i : Nat) + 1)) rfl)) ?_
  refine L.call (x_call2 rfl rfl Try.func32 rfl nm32 rfl) (cell_in hp wb pb lb la pa lc pc X obj most n 0 w hH hL hO i hi) ?_
  rintro _ w1 ⟨rfl, hw⟩
  rw [hw]
  clear hw w1
  have hXi := hX.blk i hi
  refine L.va (x_asP rfl) ?_
  refine L.nil ?_
  show W _ _ _ _ _ _
  refine W.seq ?_
  refine W.seq ?_
  refine W.region rfl ?_
  refine L.va (x_mvP rfl) ?_
  refine L.va (x_eqPtrNil rfl rfl Try.underlying85) ?_
  refine L.nil ?_
  show W _ _ _ _ _ _
  refine W.condF rfl ?_
  refine W.skip ?_
  show W _ _ _ _ _ _
  refine W.seq ?_
  refine W.region rfl ?_
  refine L.va (x_mvP rfl) ?_
  refine L.va (x_mvP rfl) ?_
  refine L.call (x_call2 rfl rfl Try.func37 rfl nm37 rfl) (ndget (X i) wb obj _ (nd i).g (nd i).l (nd i).v w hXi hW) ?_
  rintro _ w ⟨rfl, hbw⟩
  have hm := hm.step hbw (Nat.le_trans hBs hm.size)
  have hH := hH.keep hbw
  have hW := hW.keep hbw
  have hP := hP.keep hbw
  have hL := hL.keep hbw
  have hO := hO.keep hbw
  have hX := hX.keep hbw
  have hPl := hPl.keep hbw
  have hB5 := hB5.keep hbw
  have hXi := hXi.keep hbw
  refine L.alloc (cs := #[.int .i64 0, .bool false, .int .i64 0]) zr90 rfl (fun w b8 F8 => ?_)
  have lt8 : w0.heap.size ≤ b8 := by have h9 := F8.here; have h8 := hm.size; omega
  have hm := hm.step F8.below (Nat.le_trans hBs hm.size)
  have hH := hH.keep F8.below
  have hW := hW.keep F8.below
  have hP := hP.keep F8.below
  have hL := hL.keep F8.below
  have hO := hO.keep F8.below
  have hX := hX.keep F8.below
  have hPl := hPl.keep F8.below
  have hB5 := hB5.keep F8.below
  have hXi := hXi.keep F8.below
  have hB8 := F8.blk
  refine L.put (b := b8) (o := 0) (vs := [.int .i64 ((nd i).g), .bool ((nd i).l), .int .i64 ((nd i).v)]) #[.int .i64 ((nd i).g), .bool ((nd i).l), .int .i64 ((nd i).v)] rfl rfl rfl sz90 rfl rfl hB8 (Nat.le_of_ble_eq_true rfl) rfl (fun w hnew hg hsz => ?_)
  have hm0 := ModT.put0 hB8 hg
  have hm := hm.own hg lt8 hBs
  have hH := hH.mod hm0 rfl
  have hW := hW.mod hm0 rfl
  have hP := hP.mod hm0 rfl
  have hL := hL.mod hm0 rfl
  have hO := hO.mod hm0 rfl
  have hX := hX.mod hm0 rfl
  have hPl := hPl.mod hm0 rfl
  have hB5 := hB5.mod hm0 rfl
  have hXi := hXi.mod hm0 rfl
  have hB8 := hnew
  clear hm0
  refine L.nil ?_
  show W _ _ _ _ _ _
  refine W.seq ?_
  refine W.seq ?_
  refine W.region rfl ?_
  refine L.va (x_field rfl Try.underlying90 rfl sz4 (by decide)) ?_
  refine L.va (x_load rfl Try.underlying4 rfl (hB8.cellAt 1 (v := .bool ((nd i).l)) rfl)) ?_
  refine L.va (x_not rfl) ?_
  refine L.va (x_mvB rfl) ?_
  refine L.meetB 6 [25,26,27,28,29,30,31] 31 (.bool false) (tj := 25) rfl (fun hb25 => ?_) (fun hb25 => ?_) (fun f => ?_)
  · simp [hl] at hb25
  · refine L.on rfl ?_
    refine L.va (x_field rfl Try.underlying90 rfl sz3 (by decide)) ?_
    refine L.on rfl ?_
    refine L.va (x_load rfl Try.underlying3 rfl (hB8.cellAt 0 (v := .int .i64 ((nd i).g)) rfl)) ?_
    refine L.on rfl ?_
    refine L.va (x_field rfl Try.underlying35 rfl sz3 (by decide)) ?_
    refine L.on rfl ?_
    refine L.va (x_load rfl Try.underlying3 rfl (hB5.cellAt 1 (v := .int .i64 ((nd i).g)) rfl)) ?_
    refine L.on rfl ?_
    refine L.va (x_neq rfl rfl) ?_
    refine L.va (x_pickF rfl) ?_
    refine L.nil ?_
    refine ⟨rfl, congrArg Value.bool (by simp), ?_⟩
    exact Agree.upd rfl (Agree.upd rfl (Agree.upd rfl (Agree.upd rfl (Agree.upd rfl (Agree.upd rfl (Agree.upd rfl (Agree.refl _ _)))))))
  refine L.nil ?_
  show W _ _ _ _ _ _
  refine W.condF rfl ?_
  refine W.skip ?_
  show W _ _ _ _ _ _
  refine W.seq ?_
  refine W.region rfl ?_
  refine L.va (x_mvP rfl) ?_
  refine L.va (x_mvP rfl) ?_
  refine L.va (x_field rfl Try.underlying90 rfl sz3 (by decide)) ?_
  refine L.va (x_load rfl Try.underlying3 rfl (hB8.cellAt 0 (v := .int .i64 ((nd i).g)) rfl)) ?_
  refine L.va (x_addI rfl rfl (by omega)) ?_
  refine L.va (x_build (parts := [(0, .tmp 36)]) rfl (buC_2 ((nd i).g + 1))) ?_
  refine L.call (x_call3 rfl rfl rfl Try.func34 rfl nm34 rfl) (ndset (X i) wb obj _ ((nd i).g + 1) false 0 (nd i).g (nd i).l (nd i).v w hXi hW) ?_
  rintro _ w ⟨hnew, hg⟩
  have hm0 := ModT.put0 hXi hg
  have hm := hm.trans (ModT.put hXi hg (hX.le i hi) rfl)
  have hH := hH.mod hm0 rfl
  have hW := hW.mod hm0 rfl
  have hP := hP.mod hm0 rfl
  have hL := hL.mod hm0 rfl
  have hO := hO.mod hm0 rfl
  -- LOST hX
  have hPl := hPl.mod hm0 rfl
  have hB5 := hB5.mod hm0 rfl
  have hB8 := hB8.mod hm0 rfl
  have hXi := hnew
  clear hm0
  have hX := hX.put (d := ⟨(nd i).g + 1, false, 0⟩) hi hg hXi
  refine L.nil ?_
  show W _ _ _ _ _ _
  refine W.seq ?_
  refine W.region rfl ?_
  refine L.va (x_mvP rfl) ?_
  refine L.va (x_nilCheck rfl) ?_
  refine L.va (x_field rfl Try.underlying78 rfl sz68 (by decide)) ?_
  refine L.va (x_load rfl Try.underlying68 rfl (hH.cellAt 3 (v := .pointer (some ⟨pb, 0, none⟩)) rfl)) ?_
  refine L.va (x_mvP rfl) ?_
  refine L.call (x_call2 rfl rfl Try.func31 rfl nm31 rfl) (plget pb wb obj 0 pa m pc w hP hW) ?_
  rintro _ w ⟨rfl, hbw⟩
  have hm := hm.step hbw (Nat.le_trans hBs hm.size)
  have hH := hH.keep hbw
  have hW := hW.keep hbw
  have hP := hP.keep hbw
  have hL := hL.keep hbw
  have hO := hO.keep hbw
  have hPl := hPl.keep hbw
  have hB5 := hB5.keep hbw
  have hXi := hXi.keep hbw
  have hB8 := hB8.keep hbw
  have hX := hX.keep hbw
  refine L.va (x_asS rfl) ?_
  refine L.nil ?_
  show W _ _ _ _ _ _
  refine W.seq ?_
  refine W.region rfl ?_
  refine L.va (x_mvS rfl) ?_
  refine L.va (x_len rfl Try.underlying49 rfl) ?_
  refine L.va (x_mvS rfl) ?_
  refine L.va (x_len rfl Try.underlying49 rfl) ?_
  refine L.va (x_inc rfl rfl (by omega)) ?_
  refine L.makeCap (m := m) (c := m + 1) rfl rfl Try.underlying49 in3 rfl (by decide) (by omega) (by omega) (by omega) (fun w b50 F50 => ?_)
  have lt50 : w0.heap.size ≤ b50 := by have h9 := F50.here; have h8 := hm.size; omega
  have hm := hm.step F50.below (Nat.le_trans hBs hm.size)
  have hH := hH.keep F50.below
  have hW := hW.keep F50.below
  have hP := hP.keep F50.below
  have hL := hL.keep F50.below
  have hO := hO.keep F50.below
  have hPl := hPl.keep F50.below
  have hB5 := hB5.keep F50.below
  have hXi := hXi.keep F50.below
  have hB8 := hB8.keep F50.below
  have hX := hX.keep F50.below
  have hB50 := F50.blk
  rw [Nat.mul_one, arr_rep] at hB50
  refine L.va (x_asS rfl) ?_
  refine L.nil ?_
  show W _ _ _ _ _ _
  refine W.seq ?_
  refine W.region rfl ?_
  refine L.va (x_mvS rfl) ?_
  refine L.va (x_mvS rfl) ?_
  refine L.copy (dl := m) (m := m) (g := fun j => .int .i64 (pool j)) rfl rfl Try.underlying49 sz3 hB50 (Nat.le_refl _) (by omega) hPl.sl hnil (fun j hj => hPl.cell hj) (fun _ _ => rfl) (fun w hnew hg hsz => ?_)
  have hm0 := ModT.put0 hB50 hg
  have hm := hm.own hg lt50 hBs
  have hH := hH.mod hm0 rfl
  have hW := hW.mod hm0 rfl
  have hP := hP.mod hm0 rfl
  have hL := hL.mod hm0 rfl
  have hO := hO.mod hm0 rfl
  -- LOST hPl
  have hB5 := hB5.mod hm0 rfl
  have hXi := hXi.mod hm0 rfl
  have hB8 := hB8.mod hm0 rfl
  have hX := hX.mod hm0 rfl
  have hB50 := hnew
  refine L.nil ?_
  show W _ _ _ _ _ _
  refine W.seq ?_
  obtain ⟨w1, e1⟩ : ∃ x, x = w.drew.alloc (.cells #[.int .i64 ((i : Int) + 1)] 3) := ⟨_, rfl⟩
  obtain ⟨w2, e2⟩ : ∃ x, x = setBlk w1 b50 (arr (m + 1) (fun j => if j = m then .int .i64 ((i : Int) + 1) else if j < m then .int .i64 (pool j) else .int .i64 0)) 3 := ⟨_, rfl⟩
  refine W.mid 10 [8, 9] (fun s => match s with | 0 => w.drew | 1 => w1 | _ => w2) (by kernel_rfl) (by kernel_rfl) (by kernel_rfl) (by kernel_rfl) (by kernel_rfl) rfl ?_
  have hdr : Below w.heap.size w w.drew := (Below.refl w.heap.size w).drew
  have hb1 : Below w.heap.size w w1 := by rw [e1]; exact hdr.alloc (Nat.le_refl _) _
  have hn1 : w1.cell? ⟨w.heap.size, 0, none⟩ = some (.int .i64 ((i : Int) + 1)) := by rw [e1]; exact (fresh_alloc w.drew _ 3).blk.cellAt 0 rfl
  have hg12 : w1.grownBy w2 (some b50) := by rw [e2]; exact gr_set (gr_refl _ _) (.inl rfl) _ _
  have hmo := ModT.put0 (hB50.keep hb1) hg12
  have hB2 : Blk w2 b50 (arr (m + 1) (fun j => if j = m then .int .i64 ((i : Int) + 1) else if j < m then .int .i64 (pool j) else .int .i64 0)) 3 := by rw [e2]; exact setBlk_self _ _ _ (hB50.keep hb1)
  have lH0 : ∀ s, s ≤ [8, 9].length → Blk ((fun s => match s with | 0 => w.drew | 1 => w1 | _ => w2 : Nat → World) s) hp #[.pointer (some ⟨wb, 0, none⟩), .int .i64 obj, .int .i64 most, .pointer (some ⟨pb, 0, none⟩), .pointer (some ⟨lb, 0, none⟩)] 78 := fun s _ => by
    match s with
    | 0 => exact hH.keep hdr
    | 1 => exact hH.keep hb1
    | s + 2 => exact (hH.keep hb1).mod hmo rfl
  have l50 : ∀ s, s ≤ [8, 9].length → Blk ((fun s => match s with | 0 => w.drew | 1 => w1 | _ => w2 : Nat → World) s) b5 #[.int .i64 ((i : Int) + 1), .int .i64 (nd i).g] 35 := fun s _ => by
    match s with
    | 0 => exact hB5.keep hdr
    | 1 => exact hB5.keep hb1
    | s + 2 => exact (hB5.keep hb1).mod hmo rfl
  refine E.va rfl (fun s hs => x_mvP rfl) ?_
  refine E.va rfl (fun s hs => x_nilCheck rfl) ?_
  refine E.va rfl (fun s hs => x_field rfl Try.underlying78 rfl sz68 (by decide)) ?_
  refine E.va rfl (fun s hs => x_load rfl Try.underlying68 rfl ((lH0 s hs).cellAt 3 (v := .pointer (some ⟨pb, 0, none⟩)) rfl)) ?_
  refine E.va rfl (fun s hs => x_mvP rfl) ?_
  refine E.va rfl (fun s hs => x_mvS rfl) ?_
  refine E.va rfl (fun s hs => x_field rfl Try.underlying35 rfl sz3 (by decide)) ?_
  refine E.va rfl (fun s hs => x_load rfl Try.underlying3 rfl ((l50 s hs).cellAt 0 (v := .int .i64 ((i : Int) + 1)) rfl)) ?_
  refine E.eff 0 (v := .slice (some ⟨w.heap.size, 0, none⟩) 1 1) (by kernel_rfl) rfl rfl ((x_build1 (v := .int .i64 ((i : Int) + 1)) rfl rfl Try.underlying49 sz3 zr3 rfl).trans (by rw [e1]; rfl)) ?_
  refine E.eff 1 (v := .slice (some ⟨b50, 0, none⟩) (m + 1) (m + 1)) (by kernel_rfl) rfl rfl ((x_appendRoom (v := .int .i64 ((i : Int) + 1)) rfl rfl Try.underlying49 sz3 (hB50.keep hb1) hn1 rfl (Nat.le_refl _) (Nat.le_refl _)).trans (by rw [e2]; rfl)) ?_
  refine E.nil ?_
  show L _ _ _ _ _ _ w2
  have hm := hm.step hb1 (Nat.le_trans hBs hm.size)
  have hH := hH.keep hb1
  have hW := hW.keep hb1
  have hP := hP.keep hb1
  have hL := hL.keep hb1
  have hO := hO.keep hb1
  have hB5 := hB5.keep hb1
  have hXi := hXi.keep hb1
  have hB8 := hB8.keep hb1
  have hX := hX.keep hb1
  have hB50 := hB50.keep hb1
  have hm0 := ModT.put0 hB50 hg12
  have hm := hm.own hg12 lt50 hBs
  have hH := hH.mod hm0 rfl
  have hW := hW.mod hm0 rfl
  have hP := hP.mod hm0 rfl
  have hL := hL.mod hm0 rfl
  have hO := hO.mod hm0 rfl
  have hB5 := hB5.mod hm0 rfl
  have hXi := hXi.mod hm0 rfl
  have hB8 := hB8.mod hm0 rfl
  have hX := hX.mod hm0 rfl
  have hB50 := hB2
  refine L.call (x_call3 rfl rfl rfl Try.func33 rfl nm33 rfl) (plset pb wb obj 0 (some ⟨b50, 0, none⟩) (m + 1) (m + 1) pa m pc _ hP hW) ?_
  rintro _ w ⟨hnew, hg⟩
  have hm0 := ModT.put0 hP hg
  have hm := hm.trans (ModT.put hP hg lP rfl)
  have hH := hH.mod hm0 rfl
  have hW := hW.mod hm0 rfl
  have hL := hL.mod hm0 rfl
  have hO := hO.mod hm0 rfl
  have hB5 := hB5.mod hm0 rfl
  have hXi := hXi.mod hm0 rfl
  have hB8 := hB8.mod hm0 rfl
  have hX := hX.mod hm0 rfl
  have hB50 := hB50.mod hm0 rfl
  have hP := hnew
  clear hm0
  refine L.nil ?_
  show W _ _ _ _ _ _
  refine W.seq ?_
  refine W.region rfl ?_
  refine L.va (x_asB rfl) ?_
  refine L.nil ?_
  show W _ _ _ _ _ _
  refine W.ret ?_
  repeat (first | refine T.ret ?_ | refine B.ret ?_)
  refine ends.one (.inr rfl) rfl ?_
  exact ⟨rfl, ⟨wb, pb, lb, la, some ⟨b50, 0, none⟩, lc, m + 1, X, hH, hW, hP, hL, hO, hX, ⟨SL.mk _ _ _, fun _ => ⟨_, hB50, by simp only [ab, Option.map_some, Option.getD_some]; omega, fun j hj => by
    show (arr (m + 1) _)[0 + j * 1]? = _
    rw [Nat.zero_add, Nat.mul_one, arr_get hj]
    by_cases hjm : j = m
    · simp [upf, hjm]
    · rw [if_neg hjm, if_pos (by omega)]; simp [upf, hjm]⟩⟩, Nat.le_refl _, lH, lP, lL, fun j hj => by
    unfold upf
    split
    · exact ⟨i, hi, rfl⟩
    · exact hpl j (by omega), fun h => by cases h⟩, hm⟩

end Go.Proofs.Ytahcjihhkmolpaa
