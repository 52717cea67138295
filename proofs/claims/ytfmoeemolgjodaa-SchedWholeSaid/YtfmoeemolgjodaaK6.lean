/- What the claim leans on, part 6. The law of what is not divided. -/
import Derived.Test.YtfmoeemolgjodaaK5
set_option linter.unusedVariables false
section
namespace Go.Vy.Sc
open Go Go.Conc Go.Yc Go.RowKit Go.Proofs Go.Proofs.Ytfmoeemolgjodaa
open Go.Vc Go.Wg
theorem d_val {P : Program} {S : Sem Next} {w : World} {v r : Value} (h : v = r) (hd : Does P S w (.val v) w) : Does P S w (.val r) w := h ▸ hd
theorem d_cmp {P : Program} {S : Sem Next} {w : World} {p q : Prop} [Decidable p] [Decidable q] (h : p ↔ q) (hd : Does P S w (.val (.bool (decide p))) w) : Does P S w (.val (.bool (decide q))) w := by
  have : decide p = decide q := by rw [decide_eq_decide]; exact h
  rw [← this]; exact hd
theorem cntB_take {r i : Nat} {l : List (Nat × Stp)} {e : Nat × Stp} (h : l[i]? = some e) : cntB r (l.take (i + 1)) = cntB r (l.take i) + if e.2.kind < (r : Int) - 1 then 1 else 0 := by
  rw [List.take_add_one, h, Option.toList_some, cntB_app]

theorem buWH_0 (x0 : Int) : Try.prog.built 43 [(0, .int .i64 x0)] = some #[.int .i64 x0, .int .i64 0, .int .i64 0] := by kernel_rfl
set_option maxHeartbeats 1000000 in
theorem whbody_p {m r c rb t lb n cb : Nat} {pl : Nat → Plug} {fb : Nat → FuncId} {q : PR (whSys m r c rb t lb pl)} {wb : World} {top : List Frame} (hcr : rb ≠ c) (hr40 : r ≤ 40) (s0 : Int) (w : World) (hok : -9223372036854775808 ≤ s0 ∧ s0 ≤ 9223372036854775807) (hC : Blk w c #[.int .i64 s0] 3) (hR : Blk w rb #[.int .i64 (r : Int)] 3) (hT : Blk w t #[.bool false] 4) (hs : CSt ((whSys m r c rb t lb pl).cfg fb q wb n cb top) w (whO r 0 s0)) :
    @Calls Try.prog (procCtx ((whSys m r c rb t lb pl).cfg fb q wb n cb top)) 17 #[.pointer (some ⟨cb, 0, none⟩), .pointer (some ⟨rb, 0, none⟩), .pointer (some ⟨c, 0, none⟩), .pointer (some ⟨t, 0, none⟩)] w (fun e u2 => ∃ F, ((whSys m r c rb t lb pl).cfg fb q wb n cb top).Done u2 F e) := by
  letI : Ctx Try.prog := procCtx ((whSys m r c rb t lb pl).cfg fb q wb n cb top)
  refine Calls.enterP (n := 31) Try.func17 rfl rfl ?_
  refine W.seq ?_
  refine W.region rfl ?_
  refine L.va (x_asI rfl) ?_
  refine L.nil ?_
  show W _ _ _ _ _ _
  refine W.block ?_
  refine W.loop (fun k e w => ∃ (ki : Nat), ∃ (s : Int), k = r - ki ∧ e 0 = .pointer (some (⟨cb, 0, none⟩)) ∧ e 1 = .pointer (some ⟨rb, 0, none⟩) ∧ e 2 = .pointer (some ⟨c, 0, none⟩) ∧ e 3 = .pointer (some ⟨t, 0, none⟩) ∧ e 5 = .int .i64 (ki : Int) ∧ ki ≤ r ∧ (-9223372036854775808 ≤ s ∧ s ≤ 9223372036854775807) ∧ Blk w c #[.int .i64 s] 3 ∧ Blk w rb #[.int .i64 (r : Int)] 3 ∧ Blk w t #[.bool false] 4 ∧ CSt ((whSys m r c rb t lb pl).cfg fb q wb n cb top) w (whO r ki s)) _ ⟨0, s0, rfl, rfl, rfl, rfl, rfl, rfl, Nat.zero_le _, hok, hC, hR, hT, hs⟩ ?_
  rintro k e w ⟨ki, s, hk, s0, s1, s2, s3, s5, hki, hok, hC, hR, hT, hs⟩
  rw [upd_id s0, upd_id s1, upd_id s2, upd_id s3, upd_id s5]
  clear s0 s1 s2 s3 s5
  refine W.seq ?_
  refine W.seq ?_
  refine W.region rfl ?_
  refine L.va (x_mvI rfl) ?_
  refine L.va (x_load rfl Try.underlying3 rfl (hR.cellAt 0 (v := .int .i64 (r : Int)) rfl)) ?_
  refine L.va (x_lss (m := (ki : Int)) (k := (r : Int)) rfl rfl) ?_
  refine L.nil ?_
  show W _ _ _ _ _ _
  refine W.condP rfl (fun h10 => ?_) (fun h10 => ?_)
  · have hlt : ki < r := by omega
    rw [whO_lt hlt] at hs
    refine W.skip ?_
    show W _ _ _ _ _ _
    refine W.seq ?_
    refine W.block ?_
    refine W.seq ?_
    refine W.region rfl ?_
    refine L.va (x_load rfl Try.underlying3 rfl (hC.cellAt 0 (v := .int .i64 s) rfl)) ?_
    refine L.va (x_asI rfl) ?_
    refine L.nil ?_
    show W _ _ _ _ _ _
    refine W.seq ?_
    refine W.seq ?_
    refine W.region rfl ?_
    refine L.va (x_asI rfl) ?_
    refine L.nil ?_
    show W _ _ _ _ _ _
    refine W.block ?_
    refine W.loop (fun k e w => ∃ (j : Nat), k = 50 - j ∧ e 0 = .pointer (some (⟨cb, 0, none⟩)) ∧ e 1 = .pointer (some ⟨rb, 0, none⟩) ∧ e 2 = .pointer (some ⟨c, 0, none⟩) ∧ e 3 = .pointer (some ⟨t, 0, none⟩) ∧ e 5 = .int .i64 (ki : Int) ∧ e 6 = .int .i64 s ∧ e 7 = .int .i64 (j : Int) ∧ j ≤ 50 ∧ Blk w c #[.int .i64 (wr s j)] 3 ∧ Blk w rb #[.int .i64 (r : Int)] 3 ∧ Blk w t #[.bool false] 4 ∧ CSt ((whSys m r c rb t lb pl).cfg fb q wb n cb top) w ⟨IntKind.i64.wrap (s + 50), [], .inl ki⟩) _ ⟨0, rfl, rfl, rfl, rfl, rfl, rfl, rfl, rfl, Nat.zero_le _, hC, hR, hT, hs⟩ ?_
    rintro k e w ⟨j, hk, s0, s1, s2, s3, s5, s6, s7, hj, hC, hR, hT, hs⟩
    rw [upd_id s0, upd_id s1, upd_id s2, upd_id s3, upd_id s5, upd_id s6, upd_id s7]
    clear s0 s1 s2 s3 s5 s6 s7
    refine W.seq ?_
    refine W.seq ?_
    refine W.region rfl ?_
    refine L.va (x_mvI rfl) ?_
    refine L.va (x_lss rfl rfl) ?_
    refine L.nil ?_
    show W _ _ _ _ _ _
    refine W.condP rfl (fun h15 => ?_) (fun h15 => ?_)
    · refine W.skip ?_
      show W _ _ _ _ _ _
      refine W.seq ?_
      refine W.block ?_
      refine W.region rfl ?_
      refine L.va (x_load rfl Try.underlying3 rfl (hC.cellAt 0 (v := .int .i64 (wr s j)) rfl)) ?_
      refine L.va (x_add (κ := .i64) (m := wr s j) (k := 1) rfl rfl) ?_
      rw [wr_succ hok]
      refine L.put (b := c) (o := 0) (vs := [.int .i64 (wr s (j + 1))]) #[.int .i64 (wr s (j + 1))] rfl rfl rfl sz3 rfl rfl hC (Nat.le_of_ble_eq_true rfl) rfl (fun w hnew hg hsz => ?_)
      have hm0 := ModT.put0 hC hg
      have hR := hR.otherB hg hcr
      have hT := hT.mod hm0 rfl
      have hs := hs.otherB hg trivial
      have hC := hnew
      clear hm0
      refine L.nil ?_
      refine B.nrm ?_
      show W _ _ _ _ _ _
      refine W.region rfl ?_
      refine L.va (x_mvI rfl) ?_
      refine L.va (x_inc rfl rfl (by omega)) ?_
      refine L.va (x_asI rfl) ?_
      refine L.nil ?_
      refine T.nrm ?_
      exact ⟨_, by omega, ⟨j + 1, rfl, rfl, rfl, rfl, rfl, rfl, rfl, rfl, (by omega), hC, hR, hT, hs⟩⟩
    · obtain rfl : j = 50 := by omega
      refine W.exit ?_
      repeat (first | refine T.exit ?_ | refine N.exit ?_ | refine B.exitNe (by decide) ?_)
      refine B.exitEq ?_
      show W _ _ _ _ _ _
      refine W.seq ?_
      refine W.region rfl ?_
      refine L.va (x_load rfl Try.underlying4 rfl (hT.cellAt 0 (v := .bool false) rfl)) ?_
      refine L.va (x_mvB rfl) ?_
      refine L.on rfl ?_
      refine L.va (x_load rfl Try.underlying3 rfl (hC.cellAt 0 (v := .int .i64 (IntKind.i64.wrap (s + 50))) rfl)) ?_
      refine L.on rfl ?_
      refine L.va (x_mvI rfl) ?_
      refine L.on rfl ?_
      refine L.va (x_add (κ := .i64) (m := s) (k := 50) rfl rfl) ?_
      refine L.on rfl ?_
      refine L.va (d_bool (r := false) (decide_eq_false (fun h => h rfl)) (x_neq (m := IntKind.i64.wrap (s + 50)) (k := IntKind.i64.wrap (s + 50)) rfl rfl)) ?_
      refine L.va (x_pickF rfl) ?_
      refine L.put (b := t) (o := 0) (vs := [.bool false]) #[.bool false] rfl rfl rfl sz4 rfl rfl hT (Nat.le_of_ble_eq_true rfl) rfl (fun w hnew hg hsz => ?_)
      have hm0 := ModT.put0 hT hg
      have hC := hC.mod hm0 rfl
      have hR := hR.mod hm0 rfl
      have hs := hs.otherB hg trivial
      have hT := hnew
      clear hm0
      refine L.nil ?_
      show W _ _ _ _ _ _
      refine W.region rfl ?_
      refine L.va (x_mvP rfl) ?_
      refine L.va (x_mvI rfl) ?_
      refine L.va (x_build (parts := [(0, .tmp 28)]) rfl (buWH_0 (ki : Int))) ?_
      refine L.callP' rfl (x_call4 rfl rfl rfl rfl Try.func18 rfl nm18 rfl) (step00 (K := ((whSys m r c rb t lb pl).cfg fb q wb n cb top)) (l := (ki : Nat)) (o := ⟨IntKind.i64.wrap (s + 50), [], .inl ki⟩) hs rfl ⟨rfl, hC, hR, hT, wrap_ok _⟩ (fun _ => whO_nts _ _ _) rfl (.inl ⟨rfl, fun _ => rfl⟩)) ?_ ?_ (fun _ h => h)
      · rintro v w1 ⟨rfl, (s1 : Int), F1, ⟨_, hC, hR, hT, hok⟩, hs, _⟩
        rename World => w
        refine L.nil ?_
        refine B.nrm ?_
        show W _ _ _ _ _ _
        refine W.region rfl ?_
        refine L.va (x_mvI rfl) ?_
        refine L.va (x_inc rfl rfl (by omega)) ?_
        refine L.va (x_asI rfl) ?_
        refine L.nil ?_
        refine T.nrm ?_
        exact ⟨_, by omega, ⟨ki + 1, s1, rfl, rfl, rfl, rfl, rfl, rfl, (by omega), hok, hC, hR, hT, hs⟩⟩
      · rintro ch w ⟨hra, F', hd⟩; exact ⟨F', hd⟩
  · have hge : ¬ ki < r := by omega
    rw [whO_ge hge] at hs
    refine W.exit ?_
    repeat (first | refine T.exit ?_ | refine N.exit ?_ | refine B.exitNe (by decide) ?_)
    refine B.exitEq ?_
    repeat (first | refine T.nrm ?_ | refine B.nrm ?_ | refine N.nrm ?_)
    refine ends.none (.inl rfl) rfl ?_
    have hi : (whSys m r c rb t lb pl).Inv s w (fun k => k = c ∨ k = rb ∨ k = t) := ⟨rfl, hC, hR, hT, hok⟩
    exact ⟨_, @CSt.done ((whSys m r c rb t lb pl).cfg fb q wb n cb top) w ⟨s, [], .inr 1⟩ (fun k => k = c ∨ k = rb ∨ k = t) _ hs rfl hi⟩

set_option maxHeartbeats 2000000 in
theorem whole_ok {lb sn scp m r : Nat} {pl : Nat → Plug} {sa : Option Addr} {sc : Nat → Int} (w0 : World) (hSc : ScAt w0 sa sn scp sc) (hm : m ≤ 16) (hr : r ≤ 40) (hsn : sn ≤ 5000) : @C Try.prog (loneCtx lb pl) 7 #[.int .i64 (m : Int), .int .i64 (r : Int), .slice sa sn scp] w0 fun v w => v = .bool true ∧ Below w0.heap.size w0 w := by
  letI : Ctx Try.prog := loneCtx lb pl
  refine C.enter (n := 116) Try.func7 rfl rfl ?_
  have hb : Below w0.heap.size w0 w0 := Below.refl _ _
  refine W.seq ?_
  refine W.region rfl ?_
  refine L.box (cs := #[.int .i64 (r : Int)]) rfl rfl (fun w b4 F4 => ?_)
  have lt4 : w0.heap.size ≤ b4 := by have h9 := F4.here; have h8 := hb.size; omega
  have hb := cl_step hb F4.below
  have hB4 := F4.blk
  refine L.va (x_asB rfl) ?_
  refine L.nil ?_
  show W _ _ _ _ _ _
  refine W.seq ?_
  refine W.seq ?_
  refine W.region rfl ?_
  refine L.va (x_mvI rfl) ?_
  refine L.va (d_bool (r := false) (decide_eq_false (by omega)) (x_lss (m := (m : Int)) (k := 0) rfl rfl)) ?_
  refine L.va (x_mvB rfl) ?_
  refine L.on rfl ?_
  refine L.va (x_mvI rfl) ?_
  refine L.on rfl ?_
  refine L.va (d_bool (r := false) (decide_eq_false (by omega)) (x_gtr (m := (m : Int)) (k := 16) rfl rfl)) ?_
  refine L.va (x_pickF rfl) ?_
  refine L.va (x_mvB rfl) ?_
  refine L.on rfl ?_
  refine L.va (x_load rfl Try.underlying3 rfl (hB4.cellAt 0 (v := .int .i64 (r : Int)) rfl)) ?_
  refine L.on rfl ?_
  refine L.va (d_bool (r := false) (decide_eq_false (by omega)) (x_lss (m := (r : Int)) (k := 0) rfl rfl)) ?_
  refine L.va (x_pickF rfl) ?_
  refine L.va (x_mvB rfl) ?_
  refine L.on rfl ?_
  refine L.va (x_load rfl Try.underlying3 rfl (hB4.cellAt 0 (v := .int .i64 (r : Int)) rfl)) ?_
  refine L.on rfl ?_
  refine L.va (d_bool (r := false) (decide_eq_false (by omega)) (x_gtr (m := (r : Int)) (k := 40) rfl rfl)) ?_
  refine L.va (x_pickF rfl) ?_
  refine L.va (x_mvB rfl) ?_
  refine L.on rfl ?_
  refine L.va (x_mvS rfl) ?_
  refine L.on rfl ?_
  refine L.va (x_len rfl Try.underlying26 rfl) ?_
  refine L.on rfl ?_
  refine L.va (d_bool (r := false) (decide_eq_false (by omega)) (x_gtr (m := (sn : Int)) (k := 5000) rfl rfl)) ?_
  refine L.va (x_pickF rfl) ?_
  refine L.nil ?_
  show W _ _ _ _ _ _
  refine W.condF rfl ?_
  refine W.skip ?_
  show W _ _ _ _ _ _
  refine W.seq ?_
  refine W.region rfl ?_
  refine L.alloc (cs := #[.int .i64 0]) zr3 rfl (fun w b7 F7 => ?_)
  have lt7 : w0.heap.size ≤ b7 := by have h9 := F7.here; have h8 := hb.size; omega
  have ne7hB4 := F7.ne hB4
  have ne47 : b4 ≠ b7 := F7.ne hB4
  have hb := cl_step hb F7.below
  have hB4 := hB4.keep F7.below
  have hB7 := F7.blk
  refine L.put (b := b7) (o := 0) (vs := [.int .i64 0]) #[.int .i64 0] rfl rfl rfl sz3 rfl rfl hB7 (Nat.le_of_ble_eq_true rfl) rfl (fun w hnew hg hsz => ?_)
  have hm0 := ModT.put0 hB7 hg
  have hb := below_gr hb hb.size hg lt7
  have hB4 := hB4.other hg ne7hB4
  have hB7 := hnew
  clear hm0
  refine L.nil ?_
  show W _ _ _ _ _ _
  refine W.seq ?_
  refine W.region rfl ?_
  refine L.alloc (cs := #[.bool false]) zr4 rfl (fun w b8 F8 => ?_)
  have lt8 : w0.heap.size ≤ b8 := by have h9 := F8.here; have h8 := hb.size; omega
  have hb := cl_step hb F8.below
  have hB4 := hB4.keep F8.below
  have hB7 := hB7.keep F8.below
  have hB8 := F8.blk
  refine L.put (b := b8) (o := 0) (vs := [.bool false]) #[.bool false] rfl rfl rfl sz4 rfl rfl hB8 (Nat.le_of_ble_eq_true rfl) rfl (fun w hnew hg hsz => ?_)
  have hm0 := ModT.put0 hB8 hg
  have hb := below_gr hb hb.size hg lt8
  have hB4 := hB4.mod hm0 rfl
  have hB7 := hB7.mod hm0 rfl
  have hB8 := hnew
  clear hm0
  refine L.nil ?_
  show W _ _ _ _ _ _
  refine W.seq ?_
  refine W.region rfl ?_
  refine L.va (x_asS rfl) ?_
  refine L.nil ?_
  show W _ _ _ _ _ _
  refine W.seq ?_
  refine W.seq ?_
  refine W.region rfl ?_
  refine L.va (x_asI rfl) ?_
  refine L.nil ?_
  show W _ _ _ _ _ _
  refine W.block ?_
  refine W.loop (fun k e w => ∃ (i : Nat), ∃ (l : Option Addr), ∃ (lc : Nat), k = m - i ∧ e 0 = .int .i64 (m : Int) ∧ e 2 = .slice sa sn scp ∧ e 4 = .pointer (some ⟨b4, 0, none⟩) ∧ e 7 = .pointer (some ⟨b7, 0, none⟩) ∧ e 8 = .pointer (some ⟨b8, 0, none⟩) ∧ e 9 = .slice l i lc ∧ e 10 = .int .i64 (i : Int) ∧ i ≤ m ∧ Own w w0.heap.size 52 1 l i lc (List.replicate i (.func (.func 17) #[] #[.pointer (some ⟨b4, 0, none⟩), .pointer (some ⟨b7, 0, none⟩), .pointer (some ⟨b8, 0, none⟩)])) ∧ Blk w b7 #[.int .i64 0] 3 ∧ Blk w b4 #[.int .i64 (r : Int)] 3 ∧ Blk w b8 #[.bool false] 4 ∧ Below w0.heap.size w0 w) _ ⟨0, none, 0, rfl, rfl, rfl, rfl, rfl, rfl, rfl, rfl, Nat.zero_le _, Own.nil _ _ _ _, hB7, hB4, hB8, hb⟩ ?_
  rintro k e w ⟨i, l, lc, hk, s0, s2, s4, s7, s8, s9, s10, hi, hl, hB7, hB4, hB8, hb⟩
  rw [upd_id s0, upd_id s2, upd_id s4, upd_id s7, upd_id s8, upd_id s9, upd_id s10]
  clear s0 s2 s4 s7 s8 s9 s10
  refine W.seq ?_
  refine W.seq ?_
  refine W.region rfl ?_
  refine L.va (x_mvI rfl) ?_
  refine L.va (x_mvI rfl) ?_
  refine L.va (x_lss rfl rfl) ?_
  refine L.nil ?_
  show W _ _ _ _ _ _
  refine W.condP rfl (fun h39 => ?_) (fun h39 => ?_)
  · have hlt : i < m := by omega
    refine W.skip ?_
    show W _ _ _ _ _ _
    refine W.seq ?_
    refine W.block ?_
    refine W.region rfl ?_
    refine L.va (x_mvS rfl) ?_
    refine L.va (x_makeFuncL (l := [.tmp 4, .tmp 7, .tmp 8]) (vs := [.pointer (some ⟨b4, 0, none⟩), .pointer (some ⟨b7, 0, none⟩), .pointer (some ⟨b8, 0, none⟩)]) rfl) ?_
    refine L.build1 (cs := #[.func (.func 17) #[] #[.pointer (some ⟨b4, 0, none⟩), .pointer (some ⟨b7, 0, none⟩), .pointer (some ⟨b8, 0, none⟩)]]) rfl rfl Try.underlying49 sz52 rfl ⟨_, zr52⟩ (by decide) (fun w b44 F44 => ?_)
    have lt44 : w0.heap.size ≤ b44 := by have h9 := F44.here; have h8 := hb.size; omega
    have hb := cl_step hb F44.below
    have hl := hl.keep F44.below
    have hB7 := hB7.keep F44.below
    have hB4 := hB4.keep F44.below
    have hB8 := hB8.keep F44.below
    have hB44 := F44.blk
    refine L.appendAny (B := w0.heap.size) (m := 1) rfl rfl Try.underlying49 in52 rfl (by decide) hl (fun h => by cases h) (news := [.func (.func 17) #[] #[.pointer (some ⟨b4, 0, none⟩), .pointer (some ⟨b7, 0, none⟩), .pointer (some ⟨b8, 0, none⟩)]]) rfl (fun ad had j u hj => by
      cases had
      rw [Addr.add_lit]
      match j, hj with
      | 0, hj => cases hj; exact hB44.cellAt 0 rfl) (fun u hu => by simp only [List.mem_cons, List.not_mem_nil, or_false] at hu; subst hu; rfl) (by omega) (by omega) hb.size (fun l2 lc2 w2 hO2 hg2 hbel _ => ?_)
    have hmo : ModT w w2 w0.heap.size [52] := ModT.app hl hg2 hbel rfl hO2
    have hb := hb.trans hbel
    have hB7 := hB7.mod hmo rfl
    have hB4 := hB4.mod hmo rfl
    have hB8 := hB8.mod hmo rfl
    -- LOST hB44
    clear hmo hg2 hbel hl
    rename World => w
    refine L.va (x_asS rfl) ?_
    refine L.nil ?_
    refine B.nrm ?_
    show W _ _ _ _ _ _
    refine W.region rfl ?_
    refine L.va (x_mvI rfl) ?_
    refine L.va (x_inc rfl rfl (by omega)) ?_
    refine L.va (x_asI rfl) ?_
    refine L.nil ?_
    refine T.nrm ?_
    exact ⟨_, by omega, ⟨i + 1, l2, lc2, rfl, rfl, rfl, rfl, rfl, rfl, rfl, rfl, (by omega), (by rw [rep_succ]; exact hO2), hB7, hB4, hB8, hb⟩⟩
  · obtain rfl : m = i := by omega
    refine W.exit ?_
    repeat (first | refine T.exit ?_ | refine N.exit ?_ | refine B.exitNe (by decide) ?_)
    refine B.exitEq ?_
    show W _ _ _ _ _ _
    refine W.seq ?_
    refine W.region rfl ?_
    refine L.va (x_mvS rfl) ?_
    refine L.va (x_mvS rfl) ?_
    have hO : RunOk (whSys m r b7 b4 b8 lb pl) (fun _ => 17) (fun _ => #[.pointer (some ⟨b4, 0, none⟩), .pointer (some ⟨b7, 0, none⟩), .pointer (some ⟨b8, 0, none⟩)]) (fun _ => .func (.func 17) #[] #[.pointer (some ⟨b4, 0, none⟩), .pointer (some ⟨b7, 0, none⟩), .pointer (some ⟨b8, 0, none⟩)]) l sa sn sc := by
      refine ⟨wh_ok, hm, by omega, hl.sl, hSc.sl, fun i hi => .inr ⟨rfl, rfl, _, Try.func17, rfl, nm17⟩, by rw [(wh_pn sc sn).nts]; exact Nat.zero_le _, fun base i cb top u F hi _ hst => ?_⟩
      obtain ⟨s0, ⟨_, hC0, hR0, hT0, hk0⟩, hs0⟩ := CSt.start hst (fun _ => whO_nts _ _ _)
      exact whbody_p ne47 hr s0 u hk0 hC0 hR0 hT0 hs0 (Proc ((whSys m r b7 b4 b8 lb pl).cfg (fun _ => 17) ((whSys m r b7 b4 b8 lb pl).pn sc sn) base i cb top)) rfl top fun e u2 fr he hf hl => by obtain ⟨F2, hd⟩ := he; exact .done hf hl hd
    have hScw := hSc.keep hb
    refine L.call (x_call2 rfl rfl Try.func19 rfl nm19 rfl) (run_any (Y := (whSys m r b7 b4 b8 lb pl)) (lc := lc) hO ⟨rfl, hB7, hB4, hB8, by show (_ : Int) ≤ 0; decide, by show (0 : Int) ≤ _; decide⟩ (fun j hj => by rw [hl.off, Nat.zero_add, Nat.mul_one]; exact hl.cell (by rw [List.getElem?_replicate, if_pos hj])) (fun h0 e => by rcases e with e | e | e; exact Own.neBlk' hl (blkF_of hB7) (by decide) h0 e; exact Own.neBlk' hl (blkF_of hB4) (by decide) h0 e; exact Own.neBlk' hl (blkF_of hB8) (by decide) h0 e) hScw (fun h0 e => by have h2 := cell_lt (hSc.cell 0 h0); have h2 : ab sa < w0.heap.size := h2; rcases e with e | e | e <;> omega)) ?_
    rintro _ w1 ⟨R, rfl, hX, ⟨F', ⟨rfl, hB7n, hB4n, hB8n, _⟩, hns⟩, ho1, ho2, ho3, hsz, hkp⟩
    have hbs0 := hb.size
    have hb : Below w0.heap.size w0 w1 := ⟨ho1.trans hb.os, ho3.trans hb.tape, ho2.trans hb.output, Nat.le_trans hb.size hsz, fun k hk => (hkp k (Nat.lt_of_lt_of_le hk hb.size) (by rintro (e | e | e) <;> omega)).trans (hb.block k hk)⟩
    have hX := hX.down hbs0
    have hpn := wh_pn (m := m) (r := r) (c := b7) (rb := b4) (t := b8) (lb := lb) (pl := pl) sc sn
    have hlen : R.evs.length ≤ 5000 := by rw [hX.evs]; exact Nat.le_trans (Sys.evs_pn sc sn).1 hsn
    have hcn : cntB r R.evs ≤ 5000 := Nat.le_trans (cntB_le r R.evs) hlen
    have hB7n : Blk w1 b7 #[.int .i64 (50 * (((if 0 < r then m else 0) + cntB r R.evs : Nat) : Int))] 3 := by
      have h0 := Sys.len_pn (Y := (whSys m r b7 b4 b8 lb pl)) sc sn
      have h1 := hpn.s (by rw [h0]; exact hm) (by rw [← hX.evs]; omega)
      rw [h0, ← hX.evs] at h1
      rw [← h1]; exact hB7n
    have hns7 := hns b7 (.inl rfl)
    have hns4 := hns b4 (.inr (.inl rfl))
    have hns8 := hns b8 (.inr (.inr rfl))
    have hB7 := hB7n
    have hB4 : Blk w1 b4 #[.int .i64 (r : Int)] 3 := hB4n
    have hB8 : Blk w1 b8 #[.bool false] 4 := hB8n
    clear hB7n hB4n hB8n hO hScw hl ho1 ho2 ho3 hsz hkp
    have hmm : R.m = m := hX.hm
    have hz0 : r = 0 → cntB r R.evs = 0 := fun h0 => by rw [hX.evs, hpn.none h0]; rfl
    have hen : ∀ j, j < m → ∃ x : Int, R.ends[j]? = some x ∧ (r = 0 → x = 1) := fun j hj => by
      rw [hX.ends j hj]
      refine ⟨_, rfl, fun h0 => ?_⟩
      obtain ⟨f, hf⟩ : ∃ f, ((whSys m r b7 b4 b8 lb pl).pn sc sn).ft[j]? = some f := ⟨_, List.getElem?_eq_getElem (by rw [Sys.len_pn]; exact hj)⟩
      rw [hf, hpn.zero h0 j f hf]; rfl
    rename World => w
    refine L.va (x_mvT rfl) ?_
    refine L.va (x_extract rfl rfl) ?_
    refine L.va (x_extract rfl rfl) ?_
    refine L.alloc (cs := #[.slice none 0 0, .slice none 0 0, .slice none 0 0, .slice none 0 0, .bool false, .int .i64 0]) zr31 rfl (fun w b11 F11 => ?_)
    have lt11 : w0.heap.size ≤ b11 := by have h9 := F11.here; have h8 := hb.size; omega
    have hn11 : ¬ R.fp b11 := fun z => by have := hX.mem.lt z; have := F11.here; omega
    have hb := cl_step hb F11.below
    have hX := hX.keep F11.below
    have hB7 := hB7.keep F11.below
    have hB4 := hB4.keep F11.below
    have hB8 := hB8.keep F11.below
    have hB11 := F11.blk
    refine L.put (b := b11) (o := 0) (vs := [.slice (R.ea) (R.evs.length) (R.ec), .slice (R.na) (R.nts.length) (R.nc), .slice (some ⟨R.eb, 0, none⟩) (R.m) (R.m), .slice (some ⟨R.wb, 0, none⟩) (R.m) (R.m), .bool (R.stuck), .int .i64 (R.used : Int)]) #[.slice (R.ea) (R.evs.length) (R.ec), .slice (R.na) (R.nts.length) (R.nc), .slice (some ⟨R.eb, 0, none⟩) (R.m) (R.m), .slice (some ⟨R.wb, 0, none⟩) (R.m) (R.m), .bool (R.stuck), .int .i64 (R.used : Int)] rfl rfl rfl sz31 rfl rfl hB11 (Nat.le_of_ble_eq_true rfl) rfl (fun w hnew hg hsz => ?_)
    have hm0 := ModT.put0 hB11 hg
    have hb := below_gr hb hb.size hg lt11
    have hX := hX.otherB hg hn11
    have hB7 := hB7.mod hm0 rfl
    have hB4 := hB4.mod hm0 rfl
    have hB8 := hB8.mod hm0 rfl
    have hB11 := hnew
    clear hm0
    refine L.va (x_asI rfl) ?_
    refine L.nil ?_
    show W _ _ _ _ _ _
    refine W.seq ?_
    refine W.region rfl ?_
    refine L.va (x_asI rfl) ?_
    refine L.nil ?_
    show W _ _ _ _ _ _
    refine W.seq ?_
    refine W.seq ?_
    refine W.region rfl ?_
    refine L.va (x_asI rfl) ?_
    refine L.nil ?_
    show W _ _ _ _ _ _
    refine W.block ?_
    refine W.loop (fun k e w => ∃ (i : Nat), ∃ (d : Int), k = m - i ∧ e 0 = .int .i64 (m : Int) ∧ e 4 = .pointer (some ⟨b4, 0, none⟩) ∧ e 7 = .pointer (some ⟨b7, 0, none⟩) ∧ e 8 = .pointer (some ⟨b8, 0, none⟩) ∧ e 11 = .pointer (some ⟨b11, 0, none⟩) ∧ e 12 = .int .i64 0 ∧ e 13 = .int .i64 d ∧ e 14 = .int .i64 (i : Int) ∧ i ≤ m ∧ (r = 0 → d = i) ∧ RunX (whSys m r b7 b4 b8 lb pl) sc sn w0.heap.size R w ∧ Blk w b7 #[.int .i64 (50 * (((if 0 < r then m else 0) + cntB r R.evs : Nat) : Int))] 3 ∧ Blk w b4 #[.int .i64 (r : Int)] 3 ∧ Blk w b8 #[.bool false] 4 ∧ Blk w b11 #[.slice R.ea R.evs.length R.ec, .slice R.na R.nts.length R.nc, .slice (some ⟨R.eb, 0, none⟩) R.m R.m, .slice (some ⟨R.wb, 0, none⟩) R.m R.m, .bool R.stuck, .int .i64 (R.used : Int)] 31 ∧ Below w0.heap.size w0 w) _ ⟨0, 0, rfl, rfl, rfl, rfl, rfl, rfl, rfl, rfl, rfl, Nat.zero_le _, fun _ => rfl, hX, hB7, hB4, hB8, hB11, hb⟩ ?_
    rintro k e w ⟨i, d, hk, s0, s4, s7, s8, s11, s12, s13, s14, hi, hd, hX, hB7, hB4, hB8, hB11, hb⟩
    rw [upd_id s0, upd_id s4, upd_id s7, upd_id s8, upd_id s11, upd_id s12, upd_id s13, upd_id s14]
    clear s0 s4 s7 s8 s11 s12 s13 s14
    refine W.seq ?_
    refine W.seq ?_
    refine W.region rfl ?_
    refine L.va (x_mvI rfl) ?_
    refine L.va (x_field rfl Try.underlying31 rfl sz26 (by decide)) ?_
    refine L.va (x_load rfl Try.underlying26 rfl (hB11.cellAt 2 (v := .slice (some ⟨R.eb, 0, none⟩) (R.m) (R.m)) rfl)) ?_
    refine L.va (x_len rfl Try.underlying26 rfl) ?_
    refine L.va (d_cmp (q := (i : Int) < (m : Int)) (by rw [hmm]) (x_lss (m := (i : Int)) (k := (R.m : Int)) rfl rfl)) ?_
    refine L.nil ?_
    show W _ _ _ _ _ _
    refine W.condP rfl (fun h56 => ?_) (fun h56 => ?_)
    · have hlt : i < m := by omega
      obtain ⟨x, hx1, hx2⟩ := hen i hlt
      refine W.skip ?_
      show W _ _ _ _ _ _
      refine W.seq ?_
      refine W.block ?_
      refine W.region rfl ?_
      refine L.va (x_mvI rfl) ?_
      refine L.va (x_field rfl Try.underlying31 rfl sz26 (by decide)) ?_
      refine L.va (x_load rfl Try.underlying26 rfl (hB11.cellAt 2 (v := .slice (some ⟨R.eb, 0, none⟩) (R.m) (R.m)) rfl)) ?_
      refine L.va (x_mvI rfl) ?_
      refine L.va (x_idx (a := some ⟨R.eb, 0, none⟩) (i := i) rfl rfl Try.underlying26 sz3 (SL.mk _ _ _) (by rw [hmm]; exact hlt)) ?_
      refine L.va (x_load (v := .int .i64 x) rfl Try.underlying3 rfl (by show w.cell? ⟨R.eb, 0 + i * 1, none⟩ = _; rw [Nat.zero_add, Nat.mul_one]; exact hX.mem.ends_at hx1)) ?_
      refine L.va (x_add (κ := .i64) (m := d) (k := x) rfl rfl) ?_
      refine L.va (x_asI rfl) ?_
      refine L.nil ?_
      refine B.nrm ?_
      show W _ _ _ _ _ _
      refine W.region rfl ?_
      refine L.va (x_mvI rfl) ?_
      refine L.va (x_inc rfl rfl (by omega)) ?_
      refine L.va (x_asI rfl) ?_
      refine L.nil ?_
      refine T.nrm ?_
      exact ⟨_, by omega, ⟨i + 1, (IntKind.i64.wrap (d + x)), rfl, rfl, rfl, rfl, rfl, rfl, rfl, rfl, rfl, (by omega), (fun h0 => by rw [hd h0, hx2 h0, wrap_small (by omega)]; rfl), hX, hB7, hB4, hB8, hB11, hb⟩⟩
    · have him : i = m := by omega
      refine W.exit ?_
      repeat (first | refine T.exit ?_ | refine N.exit ?_ | refine B.exitNe (by decide) ?_)
      refine B.exitEq ?_
      show W _ _ _ _ _ _
      refine W.seq ?_
      refine W.seq ?_
      refine W.region rfl ?_
      refine L.va (x_mvI rfl) ?_
      refine L.call (x_call1 rfl Try.func12 rfl nm12 rfl) (errno_c 0 _) ?_
      rintro _ w1 ⟨rfl, hw1⟩
      rw [hw1]
      clear hw1 w1
      refine L.va (d_bool (r := false) (by decide) (x_neq (m := 0) (k := 0) rfl rfl)) ?_
      refine L.va (x_mvB rfl) ?_
      refine L.on rfl ?_
      refine L.va (x_load rfl Try.underlying4 rfl (hB8.cellAt 0 (v := .bool false) rfl)) ?_
      refine L.va (x_pickF rfl) ?_
      refine L.va (x_mvB rfl) ?_
      refine L.on rfl ?_
      refine L.va (x_field rfl Try.underlying31 rfl sz26 (by decide)) ?_
      refine L.on rfl ?_
      refine L.va (x_load rfl Try.underlying26 rfl (hB11.cellAt 2 (v := .slice (some ⟨R.eb, 0, none⟩) (R.m) (R.m)) rfl)) ?_
      refine L.on rfl ?_
      refine L.va (x_len rfl Try.underlying26 rfl) ?_
      refine L.on rfl ?_
      refine L.va (x_mvI rfl) ?_
      refine L.on rfl ?_
      refine L.va (d_bool (r := false) (decide_eq_false (by rw [hmm]; omega)) (x_neq (m := (R.m : Int)) (k := (m : Int)) rfl rfl)) ?_
      refine L.va (x_pickF rfl) ?_
      refine L.va (x_mvB rfl) ?_
      refine L.on rfl ?_
      refine L.call (x_call0 Try.func13 rfl nm13 rfl) (live_c _) ?_
      rintro _ w1 ⟨rfl, hbw⟩
      have hb := cl_step hb hbw
      have hX := hX.keep hbw
      have hB7 := hB7.keep hbw
      have hB4 := hB4.keep hbw
      have hB8 := hB8.keep hbw
      have hB11 := hB11.keep hbw
      clear hbw
      rename World => w
      refine L.on rfl ?_
      refine L.va (x_not rfl) ?_
      refine L.va (x_pickF rfl) ?_
      refine L.nil ?_
      show W _ _ _ _ _ _
      refine W.condF rfl ?_
      refine W.skip ?_
      show W _ _ _ _ _ _
      refine W.seq ?_
      refine W.seq ?_
      refine W.region rfl ?_
      refine L.va (x_load rfl Try.underlying3 rfl (hB4.cellAt 0 (v := .int .i64 (r : Int)) rfl)) ?_
      refine L.va (x_eql rfl rfl) ?_
      refine L.nil ?_
      show W _ _ _ _ _ _
      refine W.condP rfl (fun h84 => ?_) (fun h84 => ?_)
      · have hr0 : r = 0 := by omega
        refine W.seq ?_
        refine W.region rfl ?_
        refine L.va (x_load rfl Try.underlying3 rfl (hB7.cellAt 0 (v := .int .i64 (50 * (((if 0 < r then m else 0) + cntB r R.evs : Nat) : Int))) rfl)) ?_
        refine L.va (d_bool (r := true) (decide_eq_true (by rw [if_neg (by omega), hz0 hr0]; rfl)) (x_eql (m := (50 * (((if 0 < r then m else 0) + cntB r R.evs : Nat) : Int))) (k := 0) rfl rfl)) ?_
        refine L.va (x_mvB rfl) ?_
        refine L.on rfl ?_
        refine L.va (x_mvI rfl) ?_
        refine L.on rfl ?_
        refine L.va (x_mvI rfl) ?_
        refine L.on rfl ?_
        refine L.va (d_bool (r := true) (decide_eq_true (by have := hd hr0; omega)) (x_eql (m := d) (k := (m : Int)) rfl rfl)) ?_
        refine L.va (x_pickT rfl) ?_
        refine L.va (x_asB rfl) ?_
        refine L.nil ?_
        show W _ _ _ _ _ _
        refine W.ret ?_
        repeat (first | refine T.ret ?_ | refine B.ret ?_ | refine N.ret ?_)
        refine ends.one (.inr rfl) rfl ?_
        exact ⟨rfl, hb⟩
      · have hr0 : 0 < r := by omega
        refine W.skip ?_
        show W _ _ _ _ _ _
        refine W.seq ?_
        refine W.region rfl ?_
        refine L.va (x_mvI rfl) ?_
        have h4 : IntKind.i64.wrap (50 * (m : Int)) = 50 * (m : Int) := wrap_small (by omega)
        refine L.va (d_val (congrArg (Value.int .i64) h4) (x_mul (κ := .i64) (m := 50) (k := (m : Int)) rfl rfl)) ?_
        refine L.va (x_asI rfl) ?_
        refine L.nil ?_
        show W _ _ _ _ _ _
        refine W.seq ?_
        refine W.seq ?_
        refine W.region rfl ?_
        refine L.va (x_asI rfl) ?_
        refine L.nil ?_
        show W _ _ _ _ _ _
        refine W.block ?_
        refine W.loop (fun k e w => ∃ (i : Nat), ∃ (z : Int), k = R.evs.length - i ∧ e 0 = .int .i64 (m : Int) ∧ e 4 = .pointer (some ⟨b4, 0, none⟩) ∧ e 7 = .pointer (some ⟨b7, 0, none⟩) ∧ e 11 = .pointer (some ⟨b11, 0, none⟩) ∧ e 15 = .int .i64 z ∧ e 16 = .int .i64 (i : Int) ∧ i ≤ R.evs.length ∧ z = 50 * ((m + cntB r (R.evs.take i) : Nat) : Int) ∧ RunX (whSys m r b7 b4 b8 lb pl) sc sn w0.heap.size R w ∧ Blk w b7 #[.int .i64 (50 * (((if 0 < r then m else 0) + cntB r R.evs : Nat) : Int))] 3 ∧ Blk w b4 #[.int .i64 (r : Int)] 3 ∧ Blk w b8 #[.bool false] 4 ∧ Blk w b11 #[.slice R.ea R.evs.length R.ec, .slice R.na R.nts.length R.nc, .slice (some ⟨R.eb, 0, none⟩) R.m R.m, .slice (some ⟨R.wb, 0, none⟩) R.m R.m, .bool R.stuck, .int .i64 (R.used : Int)] 31 ∧ Below w0.heap.size w0 w) _ ⟨0, (50 * (m : Int)), rfl, rfl, rfl, rfl, rfl, rfl, rfl, Nat.zero_le _, rfl, hX, hB7, hB4, hB8, hB11, hb⟩ ?_
        rintro k e w ⟨i, z, hk, s0, s4, s7, s11, s15, s16, hi, hz, hX, hB7, hB4, hB8, hB11, hb⟩
        rw [upd_id s0, upd_id s4, upd_id s7, upd_id s11, upd_id s15, upd_id s16]
        clear s0 s4 s7 s11 s15 s16
        refine W.seq ?_
        refine W.seq ?_
        refine W.region rfl ?_
        refine L.va (x_mvI rfl) ?_
        refine L.va (x_field rfl Try.underlying31 rfl sz27 (by decide)) ?_
        refine L.va (x_load rfl Try.underlying27 rfl (hB11.cellAt 0 (v := .slice (R.ea) (R.evs.length) (R.ec)) rfl)) ?_
        refine L.va (x_len rfl Try.underlying27 rfl) ?_
        refine L.va (x_lss rfl rfl) ?_
        refine L.nil ?_
        show W _ _ _ _ _ _
        refine W.condP rfl (fun h98 => ?_) (fun h98 => ?_)
        · have hlt : i < R.evs.length := by omega
          refine W.skip ?_
          show W _ _ _ _ _ _
          refine W.seq ?_
          refine W.block ?_
          refine W.seq ?_
          obtain ⟨ev, hev⟩ : ∃ ev, R.evs[i]? = some ev := ⟨_, List.getElem?_eq_getElem hlt⟩
          refine W.quiet (fun w' => Below w.heap.size w w') (by kernel_rfl) (by kernel_rfl) ((Below.refl w.heap.size w).drew) ?_
          refine D.va (fun w' hw' => (x_field rfl Try.underlying31 rfl sz27 (by decide))) ?_
          refine D.va (fun w' hw' => (x_load rfl Try.underlying27 rfl ((hB11.keep hw').cellAt 0 (v := .slice (R.ea) (R.evs.length) (R.ec)) rfl))) ?_
          refine D.va (fun w' hw' => (x_mvI rfl)) ?_
          refine D.va (fun w' hw' => (x_idx (i := i) rfl rfl Try.underlying27 sz45 hX.mem.evs.sl hlt)) ?_
          refine D.va (fun w' hw' => (x_field rfl Try.underlying45 rfl sz43 (by decide))) ?_
          refine D.va (fun w' hw' => (x_field rfl Try.underlying43 rfl sz3 (by decide))) ?_
          refine D.va (fun w' hw' => (x_load (v := .int .i64 ev.2.kind) rfl Try.underlying3 rfl ((hX.keep hw').mem.evs_at (k := 1) hev rfl))) ?_
          refine D.va (fun w' hw' => (x_load rfl Try.underlying3 rfl ((hB4.keep hw').cellAt 0 (v := .int .i64 (r : Int)) rfl))) ?_
          refine D.va (fun w' hw' => (x_subI rfl rfl (by omega))) ?_
          refine D.va (fun w' hw' => (x_lss rfl rfl)) ?_
          refine D.nil (fun w hbw => ?_)
          have hb := cl_step hb hbw
          have hX := hX.keep hbw
          have hB7 := hB7.keep hbw
          have hB4 := hB4.keep hbw
          have hB8 := hB8.keep hbw
          have hB11 := hB11.keep hbw
          clear hbw
          show W _ _ _ _ _ _
          refine W.condP rfl (fun h110 => ?_) (fun h110 => ?_)
          · refine W.region rfl ?_
            refine L.va (x_mvI rfl) ?_
            refine L.va (x_add (κ := .i64) (m := z) (k := 50) rfl rfl) ?_
            refine L.va (x_asI rfl) ?_
            refine L.nil ?_
            refine B.nrm ?_
            show W _ _ _ _ _ _
            refine W.region rfl ?_
            refine L.va (x_mvI rfl) ?_
            refine L.va (x_inc rfl rfl (by omega)) ?_
            refine L.va (x_asI rfl) ?_
            refine L.nil ?_
            refine T.nrm ?_
            have htk := cntB_take (r := r) hev
            rw [if_pos h110] at htk
            have h2 := cntB_le r (R.evs.take (i + 1))
            have h3 : (R.evs.take (i + 1)).length ≤ R.evs.length := by rw [List.length_take]; exact Nat.min_le_right _ _
            exact ⟨_, by omega, ⟨i + 1, (IntKind.i64.wrap (z + 50)), rfl, rfl, rfl, rfl, rfl, rfl, rfl, (by omega), (by rw [wrap_small (by omega)]; omega), hX, hB7, hB4, hB8, hB11, hb⟩⟩
          · refine W.skip ?_
            refine B.nrm ?_
            show W _ _ _ _ _ _
            refine W.region rfl ?_
            refine L.va (x_mvI rfl) ?_
            refine L.va (x_inc rfl rfl (by omega)) ?_
            refine L.va (x_asI rfl) ?_
            refine L.nil ?_
            refine T.nrm ?_
            have htk := cntB_take (r := r) hev
            rw [if_neg h110] at htk
            exact ⟨_, by omega, ⟨i + 1, z, rfl, rfl, rfl, rfl, rfl, rfl, rfl, (by omega), (by omega), hX, hB7, hB4, hB8, hB11, hb⟩⟩
        · obtain rfl : i = R.evs.length := by omega
          rw [List.take_length] at hz
          refine W.exit ?_
          repeat (first | refine T.exit ?_ | refine N.exit ?_ | refine B.exitNe (by decide) ?_)
          refine B.exitEq ?_
          show W _ _ _ _ _ _
          refine W.seq ?_
          refine W.region rfl ?_
          refine L.va (x_load rfl Try.underlying3 rfl (hB7.cellAt 0 (v := .int .i64 (50 * (((if 0 < r then m else 0) + cntB r R.evs : Nat) : Int))) rfl)) ?_
          refine L.va (x_mvI rfl) ?_
          refine L.va (d_bool (r := true) (decide_eq_true (by rw [if_pos hr0, hz])) (x_eql (m := (50 * (((if 0 < r then m else 0) + cntB r R.evs : Nat) : Int))) (k := z) rfl rfl)) ?_
          refine L.va (x_asB rfl) ?_
          refine L.nil ?_
          show W _ _ _ _ _ _
          refine W.ret ?_
          repeat (first | refine T.ret ?_ | refine B.ret ?_ | refine N.ret ?_)
          refine ends.one (.inr rfl) rfl ?_
          exact ⟨rfl, hb⟩

theorem whole_no {lb sn scp : Nat} {pl : Nat → Plug} {n r : Int} {sa : Option Addr} (w0 : World) (hno : n < 0 ∨ 16 < n ∨ r < 0 ∨ 40 < r ∨ 5000 < sn) : @C Try.prog (loneCtx lb pl) 7 #[.int .i64 n, .int .i64 r, .slice sa sn scp] w0 fun v w => v = .bool true ∧ Below w0.heap.size w0 w := by
  letI : Ctx Try.prog := loneCtx lb pl
  refine C.enter (n := 116) Try.func7 rfl rfl ?_
  have hb : Below w0.heap.size w0 w0 := Below.refl _ _
  refine W.seq ?_
  refine W.region rfl ?_
  refine L.box (cs := #[.int .i64 r]) rfl rfl (fun w b4 F4 => ?_)
  have lt4 : w0.heap.size ≤ b4 := by have h9 := F4.here; have h8 := hb.size; omega
  have hb := cl_step hb F4.below
  have hB4 := F4.blk
  refine L.va (x_asB rfl) ?_
  refine L.nil ?_
  show W _ _ _ _ _ _
  refine W.seq ?_
  refine W.seq ?_
  refine W.region rfl ?_
  refine L.va (x_mvI rfl) ?_
  refine L.va (x_lss rfl rfl) ?_
  refine L.va (x_mvB rfl) ?_
  refine L.meetB 3 [19,20,21,22] 22 (.bool (decide (n < 0 ∨ 16 < n))) (tj := 19) rfl (fun hb19 => ?_) (fun hb19 => ?_) (fun f => ?_)
  · refine L.off rfl ?_
    refine L.off rfl ?_
    refine L.va (x_pickT rfl) ?_
    refine L.nil ?_
    refine ⟨rfl, congrArg Value.bool (by first | exact or_t hb19 | rfl | (simp_all; done) | (rw [Bool.eq_iff_iff]; simp_all; omega)), ?_⟩
    exact Agree.upd rfl (Agree.upd rfl (Agree.upd rfl (Agree.upd rfl (Agree.refl _ _))))
  · refine L.on rfl ?_
    refine L.va (x_mvI rfl) ?_
    refine L.on rfl ?_
    refine L.va (x_gtr rfl rfl) ?_
    refine L.va (x_pickF rfl) ?_
    refine L.nil ?_
    refine ⟨rfl, congrArg Value.bool (by first | exact or_f hb19 | rfl | (simp_all; done) | (rw [Bool.eq_iff_iff]; simp_all; omega)), ?_⟩
    exact Agree.upd rfl (Agree.upd rfl (Agree.upd rfl (Agree.upd rfl (Agree.refl _ _))))
  refine L.va (x_mvB rfl) ?_
  refine L.meetB 3 [23,24,25,26] 26 (.bool (decide (n < 0 ∨ 16 < n ∨ r < 0))) (tj := 23) rfl (fun hb23 => ?_) (fun hb23 => ?_) (fun f => ?_)
  · refine L.off rfl ?_
    refine L.off rfl ?_
    refine L.va (x_pickT rfl) ?_
    refine L.nil ?_
    refine ⟨rfl, congrArg Value.bool (by first | exact or_t hb23 | rfl | (simp_all; done) | (rw [Bool.eq_iff_iff]; simp_all; omega)), ?_⟩
    exact Agree.upd rfl (Agree.upd rfl (Agree.upd rfl (Agree.upd rfl (Agree.refl _ _))))
  · refine L.on rfl ?_
    refine L.va (x_load rfl Try.underlying3 rfl (hB4.cellAt 0 (v := .int .i64 r) rfl)) ?_
    refine L.on rfl ?_
    refine L.va (x_lss rfl rfl) ?_
    refine L.va (x_pickF rfl) ?_
    refine L.nil ?_
    refine ⟨rfl, congrArg Value.bool (by first | exact or_f hb23 | rfl | (simp_all; done) | (rw [Bool.eq_iff_iff]; simp_all; omega)), ?_⟩
    exact Agree.upd rfl (Agree.upd rfl (Agree.upd rfl (Agree.upd rfl (Agree.refl _ _))))
  refine L.va (x_mvB rfl) ?_
  refine L.meetB 3 [27,28,29,30] 30 (.bool (decide (n < 0 ∨ 16 < n ∨ r < 0 ∨ 40 < r))) (tj := 27) rfl (fun hb27 => ?_) (fun hb27 => ?_) (fun f => ?_)
  · refine L.off rfl ?_
    refine L.off rfl ?_
    refine L.va (x_pickT rfl) ?_
    refine L.nil ?_
    refine ⟨rfl, congrArg Value.bool (by first | exact or_t hb27 | rfl | (simp_all; done) | (rw [Bool.eq_iff_iff]; simp_all; omega)), ?_⟩
    exact Agree.upd rfl (Agree.upd rfl (Agree.upd rfl (Agree.upd rfl (Agree.refl _ _))))
  · refine L.on rfl ?_
    refine L.va (x_load rfl Try.underlying3 rfl (hB4.cellAt 0 (v := .int .i64 r) rfl)) ?_
    refine L.on rfl ?_
    refine L.va (x_gtr rfl rfl) ?_
    refine L.va (x_pickF rfl) ?_
    refine L.nil ?_
    refine ⟨rfl, congrArg Value.bool (by first | exact or_f hb27 | rfl | (simp_all; done) | (rw [Bool.eq_iff_iff]; simp_all; omega)), ?_⟩
    exact Agree.upd rfl (Agree.upd rfl (Agree.upd rfl (Agree.upd rfl (Agree.refl _ _))))
  refine L.va (x_mvB rfl) ?_
  refine L.meetB 4 [31,32,33,34,35] 35 (.bool (decide (n < 0 ∨ 16 < n ∨ r < 0 ∨ 40 < r ∨ 5000 < sn))) (tj := 31) rfl (fun hb31 => ?_) (fun hb31 => ?_) (fun f => ?_)
  · refine L.off rfl ?_
    refine L.off rfl ?_
    refine L.off rfl ?_
    refine L.va (x_pickT rfl) ?_
    refine L.nil ?_
    refine ⟨rfl, congrArg Value.bool (by first | exact or_t hb31 | rfl | (simp_all; done) | (rw [Bool.eq_iff_iff]; simp_all; omega)), ?_⟩
    exact Agree.upd rfl (Agree.upd rfl (Agree.upd rfl (Agree.upd rfl (Agree.upd rfl (Agree.refl _ _)))))
  · refine L.on rfl ?_
    refine L.va (x_mvS rfl) ?_
    refine L.on rfl ?_
    refine L.va (x_len rfl Try.underlying26 rfl) ?_
    refine L.on rfl ?_
    refine L.va (x_gtr rfl rfl) ?_
    refine L.va (x_pickF rfl) ?_
    refine L.nil ?_
    refine ⟨rfl, congrArg Value.bool (by first | exact or_f hb31 | rfl | (simp_all; done) | (rw [Bool.eq_iff_iff]; simp_all; omega)), ?_⟩
    exact Agree.upd rfl (Agree.upd rfl (Agree.upd rfl (Agree.upd rfl (Agree.upd rfl (Agree.refl _ _)))))
  refine L.nil ?_
  show W _ _ _ _ _ _
  refine W.condP rfl (fun h35 => ?_) (fun h35 => ?_)
  · refine W.seq ?_
    refine W.region rfl ?_
    refine L.call (x_call0 Try.func13 rfl nm13 rfl) (live_c _) ?_
    rintro _ w1 ⟨rfl, hbw⟩
    have hb := cl_step hb hbw
    have hB4 := hB4.keep hbw
    clear hbw
    rename World => w
    refine L.va (x_asB rfl) ?_
    refine L.nil ?_
    show W _ _ _ _ _ _
    refine W.ret ?_
    repeat (first | refine T.ret ?_ | refine B.ret ?_ | refine N.ret ?_)
    refine ends.one (.inr rfl) rfl ?_
    exact ⟨rfl, hb⟩
  · exact absurd hno h35

theorem whole_l {lb sn scp : Nat} {pl : Nat → Plug} {sa : Option Addr} {sc : Nat → Int} (n r : Int) (w0 : World) (hSc : ScAt w0 sa sn scp sc) : @C Try.prog (loneCtx lb pl) 7 #[.int .i64 n, .int .i64 r, .slice sa sn scp] w0 fun v w => v = .bool true ∧ Below w0.heap.size w0 w := by
  by_cases h : n < 0 ∨ 16 < n ∨ r < 0 ∨ 40 < r ∨ 5000 < sn
  · exact whole_no w0 h
  · obtain ⟨m, rfl⟩ : ∃ m : Nat, n = (m : Int) := ⟨n.toNat, by omega⟩
    obtain ⟨k, rfl⟩ : ∃ k : Nat, r = (k : Int) := ⟨r.toNat, by omega⟩
    exact whole_ok w0 hSc (by omega) (by omega) (by omega)

end Go.Vy.Sc
end
