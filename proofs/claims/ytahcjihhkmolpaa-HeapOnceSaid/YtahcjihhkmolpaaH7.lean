/- HeapOnce: what the Go text returns. -/
import Derived.Test.YtahcjihhkmolpaaH5
import Derived.Test.YtahcjihhkmolpaaHP
import Derived.Test.YtahcjihhkmolpaaVc13
namespace Go.Proofs.Ytahcjihhkmolpaa
open Go.Vc Go.RowKit
abbrev iv (V : Nat → Int) : Nat → Value := fun k => .int .i64 (V k)
abbrev bv (G : Nat → Bool) : Nat → Value := fun k => .bool (G k)
theorem iv_put (V : Nat → Int) (n : Nat) (v : Int) : upf (iv V) n (.int .i64 v) = iv (upf V n v) := by funext k; simp only [upf, iv]; split <;> rfl
theorem bv_put (G : Nat → Bool) (n : Nat) (b : Bool) : upf (bv G) n (.bool b) = bv (upf G n b) := by funext k; simp only [upf, bv]; split <;> rfl
/-- gone, as far as it has been gone through. -/
def gj (R : Nat → Int × Int) (r : Int × Int) (G : Nat → Bool) (j : Nat) : Nat → Bool := fun q => if q < j ∧ R q = r then true else G q
theorem gj_zero (R : Nat → Int × Int) (r : Int × Int) (G : Nat → Bool) : gj R r G 0 = G := by funext q; simp [gj]
theorem gj_at (R : Nat → Int × Int) (r : Int × Int) (G : Nat → Bool) (j : Nat) : gj R r G j j = G j := by simp [gj]
theorem gj_yes {R : Nat → Int × Int} {r : Int × Int} (G : Nat → Bool) {j : Nat} (h : R j = r) : upf (bv (gj R r G j)) j (.bool true) = bv (gj R r G (j + 1)) := by
  rw [bv_put]; congr 1; funext q
  by_cases hq : q = j
  · subst hq; simp [upf, gj, h]
  · simp only [upf, hq, if_false, gj]
    by_cases hR : R q = r
    · have : q < j ↔ q < j + 1 := by omega
      simp only [hR, and_true, this]
    · simp [hR]
theorem gj_no {R : Nat → Int × Int} {r : Int × Int} (G : Nat → Bool) {j : Nat} (h : R j ≠ r) : gj R r G j = gj R r G (j + 1) := by
  funext q
  unfold gj
  by_cases hR : R q = r
  · have hq : q ≠ j := fun e => h (by rw [← e]; exact hR)
    have : q < j ↔ q < j + 1 := by omega
    simp only [hR, and_true, this]
  · simp [hR]
theorem gj_all {R : Nat → Int × Int} {r : Int × Int} {G : Nat → Bool} {n : Nat} {q : Nat} (hq : q < n) : gj R r G n q = if R q = r then true else G q := by unfold gj; simp [hq]
theorem Told.congrG {s : Hs} {len : Nat} {R : Nat → Int × Int} {V : Nat → Int} {G G' : Nat → Bool} (h : Told s len R V G) (hG : ∀ k, k < len → G' k = G k) : Told s len R V G' :=
  ⟨h.known, fun k hk => by rw [hG k hk]; exact h.gone k hk, fun k hk hg => h.value k hk (by rw [← hG k hk]; exact hg), h.pool, h.apart⟩
def chA (ta : Option Addr) (len tc : Nat) (R : Nat → Int × Int) (b13 : Nat) (num gen : Int) : Chn := { E := 35, s := 2, a := ta, n := len, c := tc, xs := refC R len, news := [.int .i64 num, .int .i64 gen], i1 := 0, i2 := 2, i3 := 3, i4 := 12, ss := 89, sb := 91, sa := 92, sf := 7, pre := [(1, 90, .agg #[.int .i64 num, .int .i64 gen])], xb := some (b13, #[.int .i64 num, .int .i64 gen]) }
def chB (va : Option Addr) (len vc : Nat) (V : Nat → Int) (b11 : Nat) (v : Int) : Chn := { E := 2, s := 1, a := va, n := len, c := vc, xs := lst (iv V) len, news := [.int .i64 v], i1 := 4, i2 := 7, i3 := 8, i4 := 13, ss := 93, sb := 96, sa := 97, sf := 8, pre := [(5, 94, .pointer (some ⟨b11, 1, none⟩)), (6, 95, .int .i64 v)], xb := none }
def chC (ga : Option Addr) (len gc : Nat) (G : Nat → Bool) : Chn := { E := 4, s := 1, a := ga, n := len, c := gc, xs := lst (bv G) len, news := [.bool false], i1 := 9, i2 := 10, i3 := 11, i4 := 14, ss := 98, sb := 99, sa := 100, sf := 9, pre := [], xb := none }
theorem pair_eta {p : Int × Int} {a b : Int} (h : p.1 = a ∧ p.2 = b) : p = (a, b) := Prod.ext h.1 h.2


set_option maxHeartbeats 4000000 in
theorem once_l (a : Option Addr) (n c : Nat) (O : Nat → Opn) (most : Int) (w0 : World) (hE : OpsAt w0 a n O) (hmr : -9223372036854775808 ≤ most ∧ most ≤ 9223372036854775807) :
    C Try.prog 3 #[.int .i64 most, .slice a n c] w0 fun v w => v = .bool true ∧ Below w0.heap.size w0 w := by
  refine C.enter (n := 169) Try.func3 rfl rfl ?_
  obtain ⟨Bs, hBe⟩ : ∃ x, x = w0.heap.size := ⟨_, rfl⟩
  have hBs : Bs ≤ w0.heap.size := Nat.le_of_eq hBe
  have hm : ModT w0 w0 Bs [78, 126, 132, 85, 35, 2, 4, 54] := ModT.refl _ _ _
  refine W.seq ?_
  refine W.region rfl ?_
  refine L.va (x_asB rfl) ?_
  refine L.nil ?_
  show W _ _ _ _ _ _
  refine W.seq ?_
  refine W.seq ?_
  refine W.region rfl ?_
  refine L.va (x_mvS rfl) ?_
  refine L.va (x_len rfl Try.underlying22 rfl) ?_
  refine L.va (x_gtr rfl rfl) ?_
  refine L.va (x_mvB rfl) ?_
  refine L.meetB 3 [24,25,26,27] 27 (.bool (decide ((300 : Int) < (n : Int) ∨ most < 1))) (tj := 24) rfl (fun hb24 => ?_) (fun hb24 => ?_) (fun f => ?_)
  · refine L.off rfl ?_
    refine L.off rfl ?_
    refine L.va (x_pickT rfl) ?_
    refine L.nil ?_
    refine ⟨rfl, congrArg Value.bool (by first | exact or_t hb24 | rfl | (simp_all; done) | (rw [Bool.eq_iff_iff]; simp_all; omega)), ?_⟩
    exact Agree.upd rfl (Agree.upd rfl (Agree.upd rfl (Agree.upd rfl (Agree.refl _ _))))
  · refine L.on rfl ?_
    refine L.va (x_mvI rfl) ?_
    refine L.on rfl ?_
    refine L.va (x_lss rfl rfl) ?_
    refine L.va (x_pickF rfl) ?_
    refine L.nil ?_
    refine ⟨rfl, congrArg Value.bool (by first | exact or_f hb24 | rfl | (simp_all; done) | (rw [Bool.eq_iff_iff]; simp_all; omega)), ?_⟩
    exact Agree.upd rfl (Agree.upd rfl (Agree.upd rfl (Agree.upd rfl (Agree.refl _ _))))
  refine L.va (x_mvB rfl) ?_
  refine L.meetB 3 [28,29,30,31] 31 (.bool (decide (((300 : Int) < (n : Int) ∨ most < 1) ∨ (1048576 : Int) < most))) (tj := 28) rfl (fun hb28 => ?_) (fun hb28 => ?_) (fun f => ?_)
  · refine L.off rfl ?_
    refine L.off rfl ?_
    refine L.va (x_pickT rfl) ?_
    refine L.nil ?_
    refine ⟨rfl, congrArg Value.bool (by first | exact or_t hb28 | rfl | (simp_all; done) | (rw [Bool.eq_iff_iff]; simp_all; omega)), ?_⟩
    exact Agree.upd rfl (Agree.upd rfl (Agree.upd rfl (Agree.upd rfl (Agree.refl _ _))))
  · refine L.on rfl ?_
    refine L.va (x_mvI rfl) ?_
    refine L.on rfl ?_
    refine L.va (x_gtr rfl rfl) ?_
    refine L.va (x_pickF rfl) ?_
    refine L.nil ?_
    refine ⟨rfl, congrArg Value.bool (by first | exact or_f hb28 | rfl | (simp_all; done) | (rw [Bool.eq_iff_iff]; simp_all; omega)), ?_⟩
    exact Agree.upd rfl (Agree.upd rfl (Agree.upd rfl (Agree.upd rfl (Agree.refl _ _))))
  refine L.nil ?_
  show W _ _ _ _ _ _
  refine W.condP rfl (fun h31 => ?_) (fun h31 => ?_)
  · refine W.seq ?_
    refine W.region rfl ?_
    refine L.call (x_call0  Try.func7 rfl nm7 rfl) (live_c w0) ?_
    rintro _ w ⟨rfl, hbw⟩
    have hm := hm.step hbw (Nat.le_trans hBs hm.size)
    refine L.va (x_asB rfl) ?_
    refine L.nil ?_
    show W _ _ _ _ _ _
    refine W.ret ?_
    repeat (first | refine T.ret ?_ | refine B.ret ?_)
    refine ends.one (.inr rfl) rfl ?_
    exact ⟨rfl, hm.toBelow hBe⟩
  · refine W.skip ?_
    show W _ _ _ _ _ _
    refine W.seq ?_
    have hm1 : 1 ≤ most ∧ most ≤ 1048576 ∧ n ≤ 300 := by omega
    refine W.region rfl ?_
    refine L.call (x_call0  Try.func9 rfl nm9 rfl) (scripted_c w0) ?_
    rintro _ w ⟨wb, rfl, _, hW, hbw⟩
    have hm := hm.step hbw (Nat.le_trans hBs hm.size)
    refine L.va (x_mvI rfl) ?_
    refine L.call (x_call3 rfl rfl rfl Try.func8 rfl nm8 rfl) (new_ok Bs wb 5 most w (Nat.le_trans hBs hm.size) hW (by omega)) ?_
    rintro _ w ⟨hp, rfl, hS, hbw⟩
    have hm := hm.step hbw (Nat.le_trans hBs hm.size)
    have hW := hW.keep hbw
    have hS : HT w Bs hp 5 most hs0 := hS
    refine L.va (x_mvT rfl) ?_
    refine L.va (x_extract rfl rfl) ?_
    refine L.va (x_extract rfl rfl) ?_
    refine L.va (x_asP rfl) ?_
    refine L.va (x_asI rfl) ?_
    refine L.nil ?_
    show W _ _ _ _ _ _
    refine W.seq ?_
    refine W.seq ?_
    refine W.region rfl ?_
    refine L.va (x_mvI rfl) ?_
    refine L.call (x_call1 rfl Try.func10 rfl nm10 rfl) (num_c _ w) ?_
    rintro _ w1 ⟨rfl, hw⟩
    rw [hw]
    clear hw w1
    refine L.va (x_neq rfl rfl) ?_
    refine L.va (x_mvB rfl) ?_
    refine L.on rfl ?_
    refine L.va (x_mvP rfl) ?_
    refine L.on rfl ?_
    refine L.va (x_eqPtrNil rfl rfl Try.underlying24) ?_
    refine L.va (x_pickF rfl) ?_
    refine L.nil ?_
    show W _ _ _ _ _ _
    refine W.condF rfl ?_
    refine W.skip ?_
    show W _ _ _ _ _ _
    refine W.seq ?_
    refine W.region rfl ?_
    refine L.va (x_asS rfl) ?_
    refine L.nil ?_
    show W _ _ _ _ _ _
    refine W.seq ?_
    refine W.region rfl ?_
    refine L.va (x_asS rfl) ?_
    refine L.nil ?_
    show W _ _ _ _ _ _
    refine W.seq ?_
    refine W.region rfl ?_
    refine L.va (x_asS rfl) ?_
    refine L.nil ?_
    show W _ _ _ _ _ _
    refine W.seq ?_
    refine W.seq ?_
    refine W.region rfl ?_
    refine L.va (x_asI rfl) ?_
    refine L.nil ?_
    show W _ _ _ _ _ _
    refine W.block ?_
    refine W.loop (fun k e w => ∃ i : Nat, ∃ s : Hs, ∃ len : Nat, ∃ ta : Option Addr, ∃ tc : Nat, ∃ va : Option Addr, ∃ vc : Nat, ∃ ga : Option Addr, ∃ gc : Nat, ∃ R : Nat → Int × Int, ∃ V : Nat → Int, ∃ G : Nat → Bool, k = n - i ∧ e 0 = .int .i64 most ∧ e 1 = .slice a n c ∧ e 5 = .pointer (some (⟨hp, 0, none⟩)) ∧ e 7 = .slice ta len tc ∧ e 8 = .slice va len vc ∧ e 9 = .slice ga len gc ∧ e 10 = .int .i64 (i : Nat) ∧ ModT w0 w Bs [78, 126, 132, 85, 35, 2, 4, 54] ∧ HT w Bs hp 5 most s ∧ Own w Bs 35 2 ta len tc (refC R len) ∧ Own w Bs 2 1 va len vc (lst (iv V) len) ∧ Own w Bs 4 1 ga len gc (lst (bv G) len) ∧ i ≤ n ∧ Small s (2 * i) ∧ len ≤ i ∧ Told s len R V G) _ ⟨0, hs0, 0, none, 0, none, 0, none, 0, fun _ => (0, 0), fun _ => 0, fun _ => false, rfl, rfl, rfl, rfl, rfl, rfl, rfl, rfl, hm, hS, Own.nil _ _ _ _, Own.nil _ _ _ _, Own.nil _ _ _ _, Nat.zero_le _, ⟨Nat.le_refl 0, Nat.le_refl 0, fun i hi => absurd hi (Nat.not_lt_zero i)⟩, Nat.le_refl 0, Told.nil _ _ _⟩ ?_
    rintro k e w ⟨i, s, len, ta, tc, va, vc, ga, gc, R, V, G, hk, s0, s1, s5, s7, s8, s9, s10, hm, hS, hO, hV, hG, hin, hsm, hlen, hT⟩
    rw [upd_id s0, upd_id s1, upd_id s5, upd_id s7, upd_id s8, upd_id s9, upd_id s10]
    clear s0 s1 s5 s7 s8 s9 s10
    have hsn := hsm.1
    have hsmm := hsm.2.1
    refine W.seq ?_
    refine W.seq ?_
    refine W.region rfl ?_
    refine L.va (x_mvI rfl) ?_
    refine L.va (x_mvS rfl) ?_
    refine L.va (x_len rfl Try.underlying22 rfl) ?_
    refine L.va (x_lss rfl rfl) ?_
    refine L.nil ?_
    show W _ _ _ _ _ _
    refine W.condP rfl (fun h49 => ?_) (fun h49 => ?_)
    · refine W.skip ?_
      show W _ _ _ _ _ _
      refine W.seq ?_
      refine W.block ?_
      refine W.seq ?_
      have hi_ : i < n := by omega
      refine W.region rfl ?_
      refine L.va (x_mvS rfl) ?_
      refine L.va (x_mvI rfl) ?_
      refine L.va (x_idx (i := i) rfl rfl Try.underlying22 sz37 (hE.sl) (by omega)) ?_
      refine L.va (x_loadAgg (cs := [.int .i64 ((O i).k), .int .i64 ((O i).v), .int .i64 ((O i).wh), .int .i64 ((O i).rn), .int .i64 ((O i).rg)]) rfl Try.underlying37 rfl sz37 rfl ((hE.low hm (Nat.le_of_eq hBe.symm)).at' hi_)) ?_
      refine L.alloc (cs := #[.int .i64 0, .int .i64 0, .int .i64 0, .int .i64 0, .int .i64 0]) zr37 rfl (fun w b11 F11 => ?_)
      have lt11 : w0.heap.size ≤ b11 := by have h9 := F11.here; have h8 := hm.size; omega
      have hm := hm.step F11.below (Nat.le_trans hBs hm.size)
      have hS := hS.keep F11.below
      have hO := hO.keep F11.below
      have hV := hV.keep F11.below
      have hG := hG.keep F11.below
      have hB11 := F11.blk
      refine L.put (b := b11) (o := 0) (vs := [.int .i64 ((O i).k), .int .i64 ((O i).v), .int .i64 ((O i).wh), .int .i64 ((O i).rn), .int .i64 ((O i).rg)]) #[.int .i64 ((O i).k), .int .i64 ((O i).v), .int .i64 ((O i).wh), .int .i64 ((O i).rn), .int .i64 ((O i).rg)] rfl rfl rfl sz37 rfl rfl hB11 (Nat.le_of_ble_eq_true rfl) rfl (fun w hnew hg hsz => ?_)
      have hm0 := ModT.put0 hB11 hg
      have hm := hm.own hg lt11 hBs
      have hS := hS.mod hm0 rfl
      have hO := hO.mod hm0 rfl
      have hV := hV.mod hm0 rfl
      have hG := hG.mod hm0 rfl
      have hB11 := hnew
      clear hm0
      refine L.nil ?_
      show W _ _ _ _ _ _
      refine W.seq ?_
      refine W.region rfl ?_
      refine L.va (x_mvS rfl) ?_
      refine L.va (x_loadAgg (cs := [.int .i64 ((O i).k), .int .i64 ((O i).v), .int .i64 ((O i).wh), .int .i64 ((O i).rn), .int .i64 ((O i).rg)]) rfl Try.underlying37 rfl sz37 rfl (hB11.aggAt rfl)) ?_
      refine L.call (x_call2 rfl rfl Try.func11 rfl nm11 rfl) (named_c ta len tc R (O i) w (RefsAt.of_own hO)) ?_
      rintro _ w ⟨rfl, hbw⟩
      have hm := hm.step hbw (Nat.le_trans hBs hm.size)
      have hS := hS.keep hbw
      have hO := hO.keep hbw
      have hV := hV.keep hbw
      have hG := hG.keep hbw
      have hB11 := hB11.keep hbw
      refine L.alloc (cs := #[.int .i64 0, .int .i64 0]) zr35 rfl (fun w b12 F12 => ?_)
      have lt12 : w0.heap.size ≤ b12 := by have h9 := F12.here; have h8 := hm.size; omega
      have hto12 : ta ≠ none → ab ta ≠ b12 := fun h => by have h8 := hO.lt h; have h9 := F12.here; omega
      have hm := hm.step F12.below (Nat.le_trans hBs hm.size)
      have hS := hS.keep F12.below
      have hO := hO.keep F12.below
      have hV := hV.keep F12.below
      have hG := hG.keep F12.below
      have hB11 := hB11.keep F12.below
      have hB12 := F12.blk
      refine L.put (b := b12) (o := 0) (vs := [.int .i64 ((namedR R len (O i)).1), .int .i64 ((namedR R len (O i)).2)]) #[.int .i64 ((namedR R len (O i)).1), .int .i64 ((namedR R len (O i)).2)] rfl rfl rfl sz35 rfl rfl hB12 (Nat.le_of_ble_eq_true rfl) rfl (fun w hnew hg hsz => ?_)
      have hm0 := ModT.put0 hB12 hg
      have hm := hm.own hg lt12 hBs
      have hS := hS.mod hm0 rfl
      have hO := hO.otherB hg hto12
      have hV := hV.mod hm0 rfl
      have hG := hG.mod hm0 rfl
      have hB11 := hB11.mod hm0 rfl
      have hB12 := hnew
      clear hm0
      refine L.nil ?_
      show W _ _ _ _ _ _
      refine W.seq ?_
      refine W.seq ?_
      refine W.region rfl ?_
      refine L.va (x_field rfl Try.underlying37 rfl sz3 (by decide)) ?_
      refine L.va (x_load rfl Try.underlying3 rfl (hB11.cellAt 0 (v := .int .i64 ((O i).k)) rfl)) ?_
      refine L.va (x_eql rfl rfl) ?_
      refine L.nil ?_
      show W _ _ _ _ _ _
      refine W.cut (fun e' w' => ∃ s2 : Hs, ∃ len2 : Nat, ∃ ta2 : Option Addr, ∃ tc2 : Nat, ∃ va2 : Option Addr, ∃ vc2 : Nat, ∃ ga2 : Option Addr, ∃ gc2 : Nat, ∃ R2 : Nat → Int × Int, ∃ V2 : Nat → Int, ∃ G2 : Nat → Bool, e' 0 = .int .i64 most ∧ e' 1 = .slice a n c ∧ e' 5 = .pointer (some (⟨hp, 0, none⟩)) ∧ e' 7 = .slice ta2 len2 tc2 ∧ e' 8 = .slice va2 len2 vc2 ∧ e' 9 = .slice ga2 len2 gc2 ∧ e' 10 = .int .i64 (i : Nat) ∧ e' 11 = .pointer (some ⟨b11, 0, none⟩) ∧ e' 12 = .pointer (some (⟨b12, 0, none⟩)) ∧ ModT w0 w' Bs [78, 126, 132, 85, 35, 2, 4, 54] ∧ HT w' Bs hp 5 most s2 ∧ Own w' Bs 35 2 ta2 len2 tc2 (refC R2 len2) ∧ Own w' Bs 2 1 va2 len2 vc2 (lst (iv V2) len2) ∧ Own w' Bs 4 1 ga2 len2 gc2 (lst (bv G2) len2) ∧ Blk w' b11 #[.int .i64 ((O i).k), .int .i64 ((O i).v), .int .i64 ((O i).wh), .int .i64 ((O i).rn), .int .i64 ((O i).rg)] 37 ∧ ((O i).k = 2 → Blk w' b12 #[.int .i64 ((namedR R len (O i)).1), .int .i64 ((namedR R len (O i)).2)] 35) ∧ Small s2 (2 * i + 1) ∧ len2 ≤ i + 1 ∧ Told s2 len2 R2 V2 G2) ?_ ?_
      · refine W.condP rfl (fun h61 => ?_) (fun h61 => ?_)
        · refine W.seq ?_
          refine W.region rfl ?_
          refine L.va (x_mvP rfl) ?_
          refine L.va (x_field rfl Try.underlying37 rfl sz2 (by decide)) ?_
          refine L.va (x_load rfl Try.underlying2 rfl (hB11.cellAt 1 (v := .int .i64 ((O i).v)) rfl)) ?_
          refine L.call (x_call3 rfl rfl rfl Try.func12 rfl nm12 rfl) (alloc_x Bs hp 5 most _ s w hS (Nat.le_trans hBs hm.size) (by omega) (by omega)) ?_
          rintro _ w ⟨num, gen, err, s2, hal, rfl, hS2, hmo⟩
          have hm := hm.trans (hmo.wide rfl)
          have hO := hO.mod hmo rfl
          have hV := hV.mod hmo rfl
          have hG := hG.mod hmo rfl
          have hB11 := hB11.mod hmo rfl
          have hB12 := hB12.mod hmo rfl
          clear hmo
          have hTa := hT.alloc hal
          have hsm2 : Small s2 (2 * i + 1) := by
            have h9 := hsm.alloc most (O i).v (fun h0 => by obtain ⟨q, hq, he⟩ := hS.pl (j := s.m - 1) (by omega); omega)
            rw [hal] at h9; exact h9
          have hS := hS2
          refine L.va (x_mvT rfl) ?_
          refine L.va (x_extract rfl rfl) ?_
          refine L.va (x_extract rfl rfl) ?_
          refine L.alloc (cs := #[.int .i64 0, .int .i64 0]) zr35 rfl (fun w b13 F13 => ?_)
          have lt13 : w0.heap.size ≤ b13 := by have h9 := F13.here; have h8 := hm.size; omega
          have ne13hB12 := F13.ne hB12
          have hto13 : ta ≠ none → ab ta ≠ b13 := fun h => by have h8 := hO.lt h; have h9 := F13.here; omega
          have hm := hm.step F13.below (Nat.le_trans hBs hm.size)
          have hO := hO.keep F13.below
          have hV := hV.keep F13.below
          have hG := hG.keep F13.below
          have hB11 := hB11.keep F13.below
          have hB12 := hB12.keep F13.below
          have hS := hS.keep F13.below
          have hB13 := F13.blk
          refine L.put (b := b13) (o := 0) (vs := [.int .i64 num, .int .i64 gen]) #[.int .i64 num, .int .i64 gen] rfl rfl rfl sz35 rfl rfl hB13 (Nat.le_of_ble_eq_true rfl) rfl (fun w hnew hg hsz => ?_)
          have hm0 := ModT.put0 hB13 hg
          have hm := hm.own hg lt13 hBs
          have hO := hO.otherB hg hto13
          have hV := hV.mod hm0 rfl
          have hG := hG.mod hm0 rfl
          have hB11 := hB11.mod hm0 rfl
          have hB12 := hB12.other hg ne13hB12
          have hS := hS.mod hm0 rfl
          have hB13 := hnew
          clear hm0
          refine L.va (x_asI rfl) ?_
          refine L.nil ?_
          show W _ _ _ _ _ _
          refine W.seq ?_
          refine W.seq ?_
          refine W.region rfl ?_
          refine L.va (x_asI rfl) ?_
          refine L.nil ?_
          show W _ _ _ _ _ _
          refine W.block ?_
          refine W.loop (fun k e w => ∃ j : Nat, k = len - j ∧ e 0 = .int .i64 most ∧ e 1 = .slice a n c ∧ e 5 = .pointer (some (⟨hp, 0, none⟩)) ∧ e 7 = .slice ta len tc ∧ e 8 = .slice va len vc ∧ e 9 = .slice ga len gc ∧ e 10 = .int .i64 (i : Nat) ∧ e 11 = .pointer (some ⟨b11, 0, none⟩) ∧ e 12 = .pointer (some ⟨b12, 0, none⟩) ∧ e 13 = .pointer (some ⟨b13, 0, none⟩) ∧ e 14 = .int .i64 err ∧ e 15 = .int .i64 (j : Nat) ∧ ModT w0 w Bs [78, 126, 132, 85, 35, 2, 4, 54] ∧ HT w Bs hp 5 most s2 ∧ Own w Bs 35 2 ta len tc (refC R len) ∧ Own w Bs 2 1 va len vc (lst (iv V) len) ∧ Own w Bs 4 1 ga len gc (lst (bv G) len) ∧ Blk w b11 #[.int .i64 ((O i).k), .int .i64 ((O i).v), .int .i64 ((O i).wh), .int .i64 ((O i).rn), .int .i64 ((O i).rg)] 37 ∧ Blk w b13 #[.int .i64 num, .int .i64 gen] 35 ∧ j ≤ len) _ ⟨0, rfl, rfl, rfl, rfl, rfl, rfl, rfl, rfl, rfl, rfl, rfl, rfl, rfl, hm, hS, hO, hV, hG, hB11, hB13, Nat.zero_le _⟩ ?_
          rintro k e w ⟨j, hk, s0, s1, s5, s7, s8, s9, s10, s11, s12, s13, s14, s15, hm, hS, hO, hV, hG, hB11, hB13, hj⟩
          rw [upd_id s0, upd_id s1, upd_id s5, upd_id s7, upd_id s8, upd_id s9, upd_id s10, upd_id s11, upd_id s12, upd_id s13, upd_id s14, upd_id s15]
          clear s0 s1 s5 s7 s8 s9 s10 s11 s12 s13 s14 s15
          refine W.seq ?_
          refine W.seq ?_
          refine W.region rfl ?_
          refine L.va (x_mvI rfl) ?_
          refine L.va (x_mvS rfl) ?_
          refine L.va (x_len rfl Try.underlying31 rfl) ?_
          refine L.va (x_lss rfl rfl) ?_
          refine L.nil ?_
          show W _ _ _ _ _ _
          refine W.condP rfl (fun h72 => ?_) (fun h72 => ?_)
          · refine W.skip ?_
            show W _ _ _ _ _ _
            refine W.seq ?_
            refine W.block ?_
            refine W.seq ?_
            refine W.quiet (fun w' => Below w.heap.size w w') (by kernel_rfl) (by kernel_rfl) ((Below.refl w.heap.size w).drew) ?_
            refine D.va (fun w' hw' => (x_mvI rfl)) ?_
            refine D.call (fun w' hw' => (x_call1 rfl Try.func10 rfl nm10 rfl)) (fun w' hw' => (num_c _ w').mono fun r w h => ⟨h.1, by rw [h.2]; exact hw'⟩) ?_
            refine D.va (fun w' hw' => (x_eql rfl rfl)) ?_
            refine D.va (fun w' hw' => (x_mvB rfl)) ?_
            refine D.meetB 7 [78,79,80,81,82,83,84,85] 85 (.bool false) (tj := 78) rfl (fun hb78 => ?_) (fun hb78 => ?_) (fun f => ?_)
            · refine D.on rfl ?_
              refine D.va (fun w' hw' => (x_mvS rfl)) ?_
              refine D.on rfl ?_
              refine D.va (fun w' hw' => (x_mvI rfl)) ?_
              refine D.on rfl ?_
              refine D.va (fun w' hw' => (x_idx (i := j) rfl rfl Try.underlying31 sz35 (hO.sl) (by omega))) ?_
              refine D.on rfl ?_
              refine D.va (fun w' hw' => (x_loadAgg (cs := [.int .i64 ((R j).1), .int .i64 ((R j).2)]) rfl Try.underlying35 rfl sz35 rfl ((RefsAt.of_own (hO.keep hw')).at' (show j < len by omega)))) ?_
              refine D.on rfl ?_
              refine D.va (fun w' hw' => (x_loadAgg (cs := [.int .i64 num, .int .i64 gen]) rfl Try.underlying35 rfl sz35 rfl ((hB13.keep hw').aggAt rfl))) ?_
              refine D.on rfl ?_
              refine D.va (fun w' hw' => eq35 (R j).1 (R j).2 num gen (r := false) (decide_eq_false (fun h9 => by
                have h8 := of_decide_eq_true hb78
                rcases hTa with ⟨-, hd, -⟩ | ⟨h7, -⟩
                · exact hd j (by omega) (pair_eta h9)
                · exact h7 h8)) rfl rfl) ?_
              refine D.va (fun w' hw' => (x_pickT rfl)) ?_
              refine D.nil ?_
              refine ⟨congrArg Value.bool (rfl), ?_⟩
              exact Agree.upd rfl (Agree.upd rfl (Agree.upd rfl (Agree.upd rfl (Agree.upd rfl (Agree.upd rfl (Agree.upd rfl (Agree.upd rfl (Agree.refl _ _))))))))
            · refine D.off rfl ?_
              refine D.off rfl ?_
              refine D.off rfl ?_
              refine D.off rfl ?_
              refine D.off rfl ?_
              refine D.off rfl ?_
              refine D.va (fun w' hw' => (x_pickF rfl)) ?_
              refine D.nil ?_
              refine ⟨congrArg Value.bool (rfl), ?_⟩
              exact Agree.upd rfl (Agree.upd rfl (Agree.upd rfl (Agree.upd rfl (Agree.upd rfl (Agree.upd rfl (Agree.upd rfl (Agree.upd rfl (Agree.refl _ _))))))))
            refine D.nil (fun w hbw => ?_)
            have hm := hm.step hbw (Nat.le_trans hBs hm.size)
            have hS := hS.keep hbw
            have hO := hO.keep hbw
            have hV := hV.keep hbw
            have hG := hG.keep hbw
            have hB11 := hB11.keep hbw
            have hB13 := hB13.keep hbw
            clear hbw
            show W _ _ _ _ _ _
            refine W.condF rfl ?_
            refine W.skip ?_
            refine B.nrm ?_
            show W _ _ _ _ _ _
            refine W.region rfl ?_
            refine L.va (x_mvI rfl) ?_
            refine L.va (x_inc rfl rfl (by omega)) ?_
            refine L.va (x_asI rfl) ?_
            refine L.nil ?_
            refine T.nrm ?_
            exact ⟨_, by omega, ⟨j + 1, rfl, rfl, rfl, rfl, rfl, rfl, rfl, rfl, rfl, rfl, rfl, rfl, rfl, hm, hS, hO, hV, hG, hB11, hB13, by omega⟩⟩
          · refine W.exit ?_
            repeat (first | refine T.exit ?_ | refine B.exitNe (by decide) ?_)
            refine B.exitEq ?_
            show W _ _ _ _ _ _
            refine W.seq ?_
            refine W.region rfl ?_
            refine L.va (x_mvI rfl) ?_
            refine L.call (x_call1 rfl Try.func10 rfl nm10 rfl) (num_c _ w) ?_
            rintro _ w1 ⟨rfl, hw⟩
            rw [hw]
            clear hw w1
            refine L.va (x_eql rfl rfl) ?_
            refine L.nil ?_
            show W _ _ _ _ _ _
            refine W.condP rfl (fun h88 => ?_) (fun h88 => ?_)
            · obtain ⟨hdist, hT2⟩ : (∀ k, k < len → R k ≠ (num, gen)) ∧ Told s2 (len + 1) (upf R len (num, gen)) (upf V len (O i).v) (upf G len false) := by
                rcases hTa with ⟨-, h1, h2⟩ | ⟨h1, -⟩
                · exact ⟨h1, h2⟩
                · exact absurd h88 h1
              have okA : (chA ta len tc R b13 num gen).ok = true := rfl
              have okB : (chB va len vc V b11 (O i).v).ok = true := rfl
              have okC : (chC ga len gc G).ok = true := rfl
              have hBw := (Nat.le_trans hBs hm.size)
              refine W.parts [7, 8, 9, 89, 90, 91, 92, 93, 94, 95, 96, 97, 98, 99, 100] [35, 2, 4] [(chA ta len tc R b13 num gen).part Bs, (chB va len vc V b11 (O i).v).part Bs, (chC ga len gc G).part Bs] (by kernel_rfl) (by kernel_rfl) hBw rfl (fun p hp => ?_) (fun p hp => ?_) (fun p hp => ?_) (fun x o ho => ?_) (fun D e' w' hD hA hM hI => ?_)
              · simp only [List.mem_cons, List.not_mem_nil, or_false] at hp
                rcases hp with rfl | rfl | rfl <;> rfl
              · simp only [List.mem_cons, List.not_mem_nil, or_false] at hp
                rcases hp with rfl | rfl | rfl <;> rfl
              · simp only [List.mem_cons, List.not_mem_nil, or_false] at hp
                rcases hp with rfl | rfl | rfl
                · exact Chn.init rfl (hO.keep (Below.refl _ _).drew) (fun b cs hx => by cases hx; exact hB13.keep (Below.refl _ _).drew)
                · exact Chn.init rfl (hV.keep (Below.refl _ _).drew) (fun b cs hx => by cases hx)
                · exact Chn.init rfl (hG.keep (Below.refl _ _).drew) (fun b cs hx => by cases hx)
              · match x, ho with
                | 0, ho => cases ho; exact ⟨_, .head _, rfl, fun D e' w' hD hd hcl hA hM hB hI => Chn.step1 okA hI (not_done (hcl 12 _ rfl) (j := 0) rfl hD)⟩
                | 1, ho => cases ho; exact ⟨_, .head _, rfl, fun D e' w' hD hd hcl hA hM hB hI => Chn.stepQ okA hI (q := (1, 90, .agg #[.int .i64 num, .int .i64 gen])) (by simp [chA]) (by
                    have h2 : D 2 = false := not_done (hcl 2 _ rfl) (j := 1) rfl hD
                    have hb := hI.2.2.2.2.2.2 b13 #[.int .i64 num, .int .i64 gen] rfl h2
                    exact x_loadAgg (cs := [.int .i64 num, .int .i64 gen]) (hA 13 rfl) Try.underlying35 rfl sz35 rfl (hb.aggAt rfl)) (fun q' hq' _ => by simp [chA] at hq'; exact hq')⟩
                | 2, ho => cases ho; exact ⟨_, .head _, rfl, fun D e' w' hD hd hcl hA hM hB hI => Chn.step2 okA hI hB (hI.2.2.1 (1, 90, .agg #[.int .i64 num, .int .i64 gen]) (by simp [chA]) (dep_of (j := 1) hd rfl)) rfl Try.underlying31 sz35 rfl ⟨_, zr35⟩ (show 0 < 2 ∧ 2 ≤ 16777216 by decide) (not_done (hcl 3 _ rfl) (j := 2) rfl hD)⟩
                | 3, ho => cases ho; exact ⟨_, .head _, rfl, fun D e' w' hD hd hcl hA hM hB hI => Chn.step3 okA hI hB Try.underlying31 in35 rfl (show 0 < 2 by decide) rfl (fun u hu => by simp [chA] at hu; rcases hu with rfl | rfl <;> rfl) (by show len + 1 ≤ _; omega) (by show (len + 1) * _ ≤ _; omega) (dep_of hd rfl) (dep_of hd rfl) hD (not_done (hcl 12 _ rfl) (j := 3) rfl hD)⟩
                | 4, ho => cases ho; exact ⟨_, .tail _ (.head _), rfl, fun D e' w' hD hd hcl hA hM hB hI => Chn.step1 okB hI (not_done (hcl 13 _ rfl) (j := 4) rfl hD)⟩
                | 5, ho => cases ho; exact ⟨_, .tail _ (.head _), rfl, fun D e' w' hD hd hcl hA hM hB hI => Chn.stepQ okB hI (q := (5, 94, .pointer (some ⟨b11, 1, none⟩))) (by simp [chB]) ((x_field (f := 1) (hA 11 rfl) Try.underlying37 rfl sz2 (by decide)).trans rfl) (fun q' hq' h9 => by simp [chB] at hq'; rcases hq' with rfl | rfl; rfl; cases h9)⟩
                | 6, ho => cases ho; exact ⟨_, .tail _ (.head _), rfl, fun D e' w' hD hd hcl hA hM hB hI => Chn.stepQ okB hI (q := (6, 95, .int .i64 (O i).v)) (by simp [chB]) (x_load (hI.2.2.1 (5, 94, .pointer (some ⟨b11, 1, none⟩)) (by simp [chB]) (dep_of (j := 5) hd rfl)) Try.underlying2 rfl ((hB11.mod hM rfl).cellAt 1 rfl)) (fun q' hq' h9 => by simp [chB] at hq'; rcases hq' with rfl | rfl; cases h9; rfl)⟩
                | 7, ho => cases ho; exact ⟨_, .tail _ (.head _), rfl, fun D e' w' hD hd hcl hA hM hB hI => Chn.step2 okB hI hB (hI.2.2.1 (6, 95, .int .i64 (O i).v) (by simp [chB]) (dep_of (j := 6) hd rfl)) rfl Try.underlying32 sz2 rfl ⟨_, zr2⟩ (show 0 < 1 ∧ 1 ≤ 16777216 by decide) (not_done (hcl 8 _ rfl) (j := 7) rfl hD)⟩
                | 8, ho => cases ho; exact ⟨_, .tail _ (.head _), rfl, fun D e' w' hD hd hcl hA hM hB hI => Chn.step3 okB hI hB Try.underlying32 in2 rfl (show 0 < 1 by decide) rfl (fun u hu => by simp [chB] at hu; subst hu; rfl) (by show len + 1 ≤ _; omega) (by show (len + 1) * _ ≤ _; omega) (dep_of hd rfl) (dep_of hd rfl) hD (not_done (hcl 13 _ rfl) (j := 8) rfl hD)⟩
                | 9, ho => cases ho; exact ⟨_, .tail _ (.tail _ (.head _)), rfl, fun D e' w' hD hd hcl hA hM hB hI => Chn.step1 okC hI (not_done (hcl 14 _ rfl) (j := 9) rfl hD)⟩
                | 10, ho => cases ho; exact ⟨_, .tail _ (.tail _ (.head _)), rfl, fun D e' w' hD hd hcl hA hM hB hI => Chn.step2 okC hI hB rfl rfl Try.underlying33 sz4 rfl ⟨_, zr4⟩ (show 0 < 1 ∧ 1 ≤ 16777216 by decide) (not_done (hcl 11 _ rfl) (j := 10) rfl hD)⟩
                | 11, ho => cases ho; exact ⟨_, .tail _ (.tail _ (.head _)), rfl, fun D e' w' hD hd hcl hA hM hB hI => Chn.step3 okC hI hB Try.underlying33 in4 rfl (show 0 < 1 by decide) rfl (fun u hu => by simp [chC] at hu; subst hu; rfl) (by show len + 1 ≤ _; omega) (by show (len + 1) * _ ≤ _; omega) (dep_of hd rfl) (dep_of hd rfl) hD (not_done (hcl 14 _ rfl) (j := 11) rfl hD)⟩
                | 12, ho => cases ho; exact ⟨_, .head _, rfl, fun D e' w' hD hd hcl hA hM hB hI => Chn.step4 okA hI (dep_of hd rfl)⟩
                | 13, ho => cases ho; exact ⟨_, .tail _ (.head _), rfl, fun D e' w' hD hd hcl hA hM hB hI => Chn.step4 okB hI (dep_of hd rfl)⟩
                | 14, ho => cases ho; exact ⟨_, .tail _ (.tail _ (.head _)), rfl, fun D e' w' hD hd hcl hA hM hB hI => Chn.step4 okC hI (dep_of hd rfl)⟩
                | x + 15, ho => cases ho
              obtain ⟨ta2, tc2, s7, hO2⟩ := Chn.fin (hI _ (.head _)) (hD 3 (by decide)) (hD 12 (by decide))
              obtain ⟨va2, vc2, s8, hV2⟩ := Chn.fin (hI _ (.tail _ (.head _))) (hD 8 (by decide)) (hD 13 (by decide))
              obtain ⟨ga2, gc2, s9, hG2⟩ := Chn.fin (hI _ (.tail _ (.tail _ (.head _)))) (hD 11 (by decide)) (hD 14 (by decide))
              clear hI hD okA okB okC
              have hm := hm.trans (hM.wide rfl)
              have hS := hS.mod hM rfl
              have hB11 := hB11.mod hM rfl
              have hO2 : Own w' Bs 35 2 ta2 (len + 1) tc2 (refC (upf R len (num, gen)) (len + 1)) := by rw [← refC_put]; exact hO2
              have hV2 : Own w' Bs 2 1 va2 (len + 1) vc2 (lst (iv (upf V len (O i).v)) (len + 1)) := by rw [← iv_put, ← lst_put]; exact hV2
              have hG2 : Own w' Bs 4 1 ga2 (len + 1) gc2 (lst (bv (upf G len false)) (len + 1)) := by rw [← bv_put, ← lst_put]; exact hG2
              have s7 : e' 7 = .slice ta2 (len + 1) tc2 := s7
              have s8 : e' 8 = .slice va2 (len + 1) vc2 := s8
              have s9 : e' 9 = .slice ga2 (len + 1) gc2 := s9
              obtain ⟨fq, hfq⟩ := hA.out
              subst hfq
              rw [upd_id s7, upd_id s8, upd_id s9]
              clear s7 s8 s9
              rename World => w
              repeat (first | refine T.nrm ?_ | refine B.nrm ?_)
              exact ⟨s2, len + 1, ta2, tc2, va2, vc2, ga2, gc2, _, _, _, rfl, rfl, rfl, rfl, rfl, rfl, rfl, rfl, rfl, hm, hS, hO2, hV2, hG2, hB11, (fun h9 => absurd h9 (by omega)), hsm2, by omega, hT2⟩
            · refine W.skip ?_
              repeat (first | refine T.nrm ?_ | refine B.nrm ?_)
              have hs2 : s2 = s := by
                rcases hTa with ⟨h, -⟩ | ⟨-, h⟩
                · exact absurd h h88
                · exact h
              exact ⟨s2, len, ta, tc, va, vc, ga, gc, R, V, G, rfl, rfl, rfl, rfl, rfl, rfl, rfl, rfl, rfl, hm, hS, hO, hV, hG, hB11, (fun h9 => absurd h9 (by omega)), hsm2, by omega, by rw [hs2]; exact hT⟩
        · refine W.skip ?_
          repeat (first | refine T.nrm ?_ | refine B.nrm ?_)
          exact ⟨s, len, ta, tc, va, vc, ga, gc, R, V, G, rfl, rfl, rfl, rfl, rfl, rfl, rfl, rfl, rfl, hm, hS, hO, hV, hG, hB11, (fun _ => hB12), hsm.more, by omega, hT⟩
      · rintro e' w ⟨s2, len2, ta2, tc2, va2, vc2, ga2, gc2, R2, V2, G2, s0, s1, s5, s7, s8, s9, s10, s11, s12, hm, hS, hO, hV, hG, hB11, hB12c, hsm, hlen, hT⟩
        rw [upd_id s0, upd_id s1, upd_id s5, upd_id s7, upd_id s8, upd_id s9, upd_id s10, upd_id s11, upd_id s12]
        clear s0 s1 s5 s7 s8 s9 s10 s11 s12
        have hsn := hsm.1
        have hsmm := hsm.2.1
        show W _ _ _ _ _ _
        refine W.seq ?_
        refine W.seq ?_
        refine W.region rfl ?_
        refine L.va (x_field rfl Try.underlying37 rfl sz3 (by decide)) ?_
        refine L.va (x_load rfl Try.underlying3 rfl (hB11.cellAt 0 (v := .int .i64 ((O i).k)) rfl)) ?_
        refine L.va (x_eql rfl rfl) ?_
        refine L.nil ?_
        show W _ _ _ _ _ _
        refine W.cut (fun e' w' => ∃ s3 : Hs, ∃ G3 : Nat → Bool, e' 0 = .int .i64 most ∧ e' 1 = .slice a n c ∧ e' 5 = .pointer (some (⟨hp, 0, none⟩)) ∧ e' 7 = .slice ta2 len2 tc2 ∧ e' 8 = .slice va2 len2 vc2 ∧ e' 9 = .slice ga2 len2 gc2 ∧ e' 10 = .int .i64 (i : Nat) ∧ e' 11 = .pointer (some ⟨b11, 0, none⟩) ∧ ModT w0 w' Bs [78, 126, 132, 85, 35, 2, 4, 54] ∧ HT w' Bs hp 5 most s3 ∧ Own w' Bs 35 2 ta2 len2 tc2 (refC R2 len2) ∧ Own w' Bs 2 1 va2 len2 vc2 (lst (iv V2) len2) ∧ Own w' Bs 4 1 ga2 len2 gc2 (lst (bv G3) len2) ∧ Blk w' b11 #[.int .i64 ((O i).k), .int .i64 ((O i).v), .int .i64 ((O i).wh), .int .i64 ((O i).rn), .int .i64 ((O i).rg)] 37 ∧ Small s3 (2 * (i + 1)) ∧ Told s3 len2 R2 V2 G3) ?_ ?_
        · refine W.condP rfl (fun h103 => ?_) (fun h103 => ?_)
          · have hB12 := hB12c h103
            refine W.seq ?_
            refine W.region rfl ?_
            refine L.va (x_mvP rfl) ?_
            refine L.va (x_loadAgg (cs := [.int .i64 ((namedR R len (O i)).1), .int .i64 ((namedR R len (O i)).2)]) rfl Try.underlying35 rfl sz35 rfl (hB12.aggAt rfl)) ?_
            refine L.call (x_call3 rfl rfl rfl Try.func13 rfl nm13 rfl) (free_x Bs hp 5 most _ _ s2 w hS (Nat.le_trans hBs hm.size) (by omega) (hsm.gens (by omega))) ?_
            rintro _ w ⟨b, s3, hbv, hs3, rfl, hS2, hmo⟩
            have hm := hm.trans (hmo.wide rfl)
            have hO := hO.mod hmo rfl
            have hV := hV.mod hmo rfl
            have hG := hG.mod hmo rfl
            have hB11 := hB11.mod hmo rfl
            have hB12 := hB12.mod hmo rfl
            clear hmo
            have hsm3 : Small s3 (2 * (i + 1)) := by rw [hs3]; exact hsm.free _ _
            obtain ⟨hfirst, hT3⟩ := hT.free (namedR R len (O i)).1 (namedR R len (O i)).2
            rw [← hs3] at hT3
            have hS := hS2
            refine L.va (x_asB rfl) ?_
            refine L.nil ?_
            show W _ _ _ _ _ _
            refine W.seq ?_
            refine W.region rfl ?_
            refine L.va (x_asI rfl) ?_
            refine L.nil ?_
            show W _ _ _ _ _ _
            refine W.block ?_
            refine W.loop (fun k e w => ∃ j : Nat, k = len2 - j ∧ e 0 = .int .i64 most ∧ e 1 = .slice a n c ∧ e 5 = .pointer (some (⟨hp, 0, none⟩)) ∧ e 7 = .slice ta2 len2 tc2 ∧ e 8 = .slice va2 len2 vc2 ∧ e 9 = .slice ga2 len2 gc2 ∧ e 10 = .int .i64 (i : Nat) ∧ e 11 = .pointer (some ⟨b11, 0, none⟩) ∧ e 12 = .pointer (some ⟨b12, 0, none⟩) ∧ e 16 = .bool b ∧ e 17 = .int .i64 (j : Nat) ∧ ModT w0 w Bs [78, 126, 132, 85, 35, 2, 4, 54] ∧ HT w Bs hp 5 most s3 ∧ Own w Bs 35 2 ta2 len2 tc2 (refC R2 len2) ∧ Own w Bs 2 1 va2 len2 vc2 (lst (iv V2) len2) ∧ Own w Bs 4 1 ga2 len2 gc2 (lst (bv (gj R2 (namedR R len (O i)) G2 j)) len2) ∧ Blk w b11 #[.int .i64 ((O i).k), .int .i64 ((O i).v), .int .i64 ((O i).wh), .int .i64 ((O i).rn), .int .i64 ((O i).rg)] 37 ∧ Blk w b12 #[.int .i64 ((namedR R len (O i)).1), .int .i64 ((namedR R len (O i)).2)] 35 ∧ j ≤ len2) _ ⟨0, rfl, rfl, rfl, rfl, rfl, rfl, rfl, rfl, rfl, rfl, rfl, rfl, hm, hS, hO, hV, by rw [gj_zero]; exact hG, hB11, hB12, Nat.zero_le _⟩ ?_
            rintro k e w ⟨j, hk, s0, s1, s5, s7, s8, s9, s10, s11, s12, s16, s17, hm, hS, hO, hV, hG, hB11, hB12, hj⟩
            rw [upd_id s0, upd_id s1, upd_id s5, upd_id s7, upd_id s8, upd_id s9, upd_id s10, upd_id s11, upd_id s12, upd_id s16, upd_id s17]
            clear s0 s1 s5 s7 s8 s9 s10 s11 s12 s16 s17
            refine W.seq ?_
            refine W.seq ?_
            refine W.region rfl ?_
            refine L.va (x_mvI rfl) ?_
            refine L.va (x_mvS rfl) ?_
            refine L.va (x_len rfl Try.underlying31 rfl) ?_
            refine L.va (x_lss rfl rfl) ?_
            refine L.nil ?_
            show W _ _ _ _ _ _
            refine W.condP rfl (fun h110 => ?_) (fun h110 => ?_)
            · refine W.skip ?_
              show W _ _ _ _ _ _
              refine W.seq ?_
              refine W.block ?_
              refine W.seq ?_
              refine W.quiet (fun w' => Below w.heap.size w w') (by kernel_rfl) (by kernel_rfl) ((Below.refl w.heap.size w).drew) ?_
              refine D.va (fun w' hw' => (x_mvS rfl)) ?_
              refine D.va (fun w' hw' => (x_mvI rfl)) ?_
              refine D.va (fun w' hw' => (x_idx (i := j) rfl rfl Try.underlying31 sz35 (hO.sl) (by omega))) ?_
              refine D.va (fun w' hw' => (x_loadAgg (cs := [.int .i64 ((R2 j).1), .int .i64 ((R2 j).2)]) rfl Try.underlying35 rfl sz35 rfl ((RefsAt.of_own (hO.keep hw')).at' (show j < len2 by omega)))) ?_
              refine D.va (fun w' hw' => (x_loadAgg (cs := [.int .i64 ((namedR R len (O i)).1), .int .i64 ((namedR R len (O i)).2)]) rfl Try.underlying35 rfl sz35 rfl ((hB12.keep hw').aggAt rfl))) ?_
              refine D.va (fun w' hw' => eq35 (R2 j).1 (R2 j).2 (namedR R len (O i)).1 (namedR R len (O i)).2 rfl rfl rfl) ?_
              refine D.nil (fun w hbw => ?_)
              have hm := hm.step hbw (Nat.le_trans hBs hm.size)
              have hS := hS.keep hbw
              have hO := hO.keep hbw
              have hV := hV.keep hbw
              have hG := hG.keep hbw
              have hB11 := hB11.keep hbw
              have hB12 := hB12.keep hbw
              clear hbw
              show W _ _ _ _ _ _
              refine W.condP rfl (fun h118 => ?_) (fun h118 => ?_)
              · refine W.seq ?_
                refine W.seq ?_
                refine W.region rfl ?_
                refine L.va (x_mvB rfl) ?_
                refine L.va (x_mvS rfl) ?_
                refine L.va (x_mvI rfl) ?_
                refine L.va (x_idx (i := j) rfl rfl Try.underlying33 sz4 (hG.sl) (by omega)) ?_
                refine L.va (x_load (v := .bool (G2 j)) rfl Try.underlying4 rfl (by rw [hG.at1 (show j < len2 by omega)]; show some (Value.bool (gj R2 (namedR R len (O i)) G2 j j)) = _; rw [gj_at])) ?_
                have hgf := hfirst j (by omega) (pair_eta h118)
                refine L.va (eqB (r := false) (by rw [hgf, hbv]; simp) rfl rfl) ?_
                refine L.nil ?_
                show W _ _ _ _ _ _
                refine W.condF rfl ?_
                refine W.skip ?_
                show W _ _ _ _ _ _
                refine W.region rfl ?_
                refine L.va (x_mvS rfl) ?_
                refine L.va (x_mvI rfl) ?_
                refine L.va (x_idx (i := j) rfl rfl Try.underlying33 sz4 (hG.sl) (by omega)) ?_
                refine L.storeOwn (i := j) (v := .bool true) rfl rfl sz4 rfl hG (by omega) (fun w hG hmo => ?_)
                have hm := hm.trans (hmo.wide rfl)
                have hS := hS.mod hmo rfl
                have hO := hO.mod hmo rfl
                have hV := hV.mod hmo rfl
                have hB11 := hB11.mod hmo rfl
                have hB12 := hB12.mod hmo rfl
                rw [gj_yes G2 (Prod.ext h118.1 h118.2 : R2 j = namedR R len (O i))] at hG
                clear hmo
                refine L.nil ?_
                refine B.nrm ?_
                show W _ _ _ _ _ _
                refine W.region rfl ?_
                refine L.va (x_mvI rfl) ?_
                refine L.va (x_inc rfl rfl (by omega)) ?_
                refine L.va (x_asI rfl) ?_
                refine L.nil ?_
                refine T.nrm ?_
                exact ⟨_, by omega, ⟨j + 1, rfl, rfl, rfl, rfl, rfl, rfl, rfl, rfl, rfl, rfl, rfl, rfl, hm, hS, hO, hV, hG, hB11, hB12, by omega⟩⟩
              · refine W.skip ?_
                refine B.nrm ?_
                show W _ _ _ _ _ _
                refine W.region rfl ?_
                refine L.va (x_mvI rfl) ?_
                refine L.va (x_inc rfl rfl (by omega)) ?_
                refine L.va (x_asI rfl) ?_
                refine L.nil ?_
                refine T.nrm ?_
                have hR : R2 j ≠ namedR R len (O i) := fun h9 => h118 (by rw [h9]; exact ⟨rfl, rfl⟩)
                exact ⟨_, by omega, ⟨j + 1, rfl, rfl, rfl, rfl, rfl, rfl, rfl, rfl, rfl, rfl, rfl, rfl, hm, hS, hO, hV, by rw [← gj_no G2 hR]; exact hG, hB11, hB12, by omega⟩⟩
            · refine W.exit ?_
              repeat (first | refine T.exit ?_ | refine B.exitNe (by decide) ?_)
              refine B.exitEq ?_
              repeat (first | refine T.nrm ?_ | refine B.nrm ?_)
              have hjl : len2 ≤ j := by omega
              exact ⟨s3, gj R2 (namedR R len (O i)) G2 j, rfl, rfl, rfl, rfl, rfl, rfl, rfl, rfl, hm, hS, hO, hV, hG, hB11, hsm3, hT3.congrG (fun k hk => by rw [gj_all (by omega)])⟩
          · refine W.skip ?_
            repeat (first | refine T.nrm ?_ | refine B.nrm ?_)
            exact ⟨s2, G2, rfl, rfl, rfl, rfl, rfl, rfl, rfl, rfl, hm, hS, hO, hV, hG, hB11, hsm.more, hT⟩
        · rintro e' w ⟨s3, G3, s0, s1, s5, s7, s8, s9, s10, s11, hm, hS, hO, hV, hG, hB11, hsm3, hT⟩
          rw [upd_id s0, upd_id s1, upd_id s5, upd_id s7, upd_id s8, upd_id s9, upd_id s10, upd_id s11]
          clear s0 s1 s5 s7 s8 s9 s10 s11
          show W _ _ _ _ _ _
          refine W.seq ?_
          refine W.region rfl ?_
          refine L.va (x_asI rfl) ?_
          refine L.nil ?_
          show W _ _ _ _ _ _
          refine W.block ?_
          refine W.loop (fun k e w => ∃ j : Nat, k = len2 - j ∧ e 0 = .int .i64 most ∧ e 1 = .slice a n c ∧ e 5 = .pointer (some (⟨hp, 0, none⟩)) ∧ e 7 = .slice ta2 len2 tc2 ∧ e 8 = .slice va2 len2 vc2 ∧ e 9 = .slice ga2 len2 gc2 ∧ e 10 = .int .i64 (i : Nat) ∧ e 11 = .pointer (some ⟨b11, 0, none⟩) ∧ e 18 = .int .i64 (j : Nat) ∧ ModT w0 w Bs [78, 126, 132, 85, 35, 2, 4, 54] ∧ HT w Bs hp 5 most s3 ∧ Own w Bs 35 2 ta2 len2 tc2 (refC R2 len2) ∧ Own w Bs 2 1 va2 len2 vc2 (lst (iv V2) len2) ∧ Own w Bs 4 1 ga2 len2 gc2 (lst (bv G3) len2) ∧ Blk w b11 #[.int .i64 ((O i).k), .int .i64 ((O i).v), .int .i64 ((O i).wh), .int .i64 ((O i).rn), .int .i64 ((O i).rg)] 37 ∧ j ≤ len2) _ ⟨0, rfl, rfl, rfl, rfl, rfl, rfl, rfl, rfl, rfl, rfl, hm, hS, hO, hV, hG, hB11, Nat.zero_le _⟩ ?_
          rintro k e w ⟨j, hk, s0, s1, s5, s7, s8, s9, s10, s11, s18, hm, hS, hO, hV, hG, hB11, hj⟩
          rw [upd_id s0, upd_id s1, upd_id s5, upd_id s7, upd_id s8, upd_id s9, upd_id s10, upd_id s11, upd_id s18]
          clear s0 s1 s5 s7 s8 s9 s10 s11 s18
          refine W.seq ?_
          refine W.seq ?_
          refine W.region rfl ?_
          refine L.va (x_mvI rfl) ?_
          refine L.va (x_mvS rfl) ?_
          refine L.va (x_len rfl Try.underlying31 rfl) ?_
          refine L.va (x_lss rfl rfl) ?_
          refine L.nil ?_
          show W _ _ _ _ _ _
          refine W.condP rfl (fun h131 => ?_) (fun h131 => ?_)
          · refine W.skip ?_
            show W _ _ _ _ _ _
            refine W.seq ?_
            refine W.block ?_
            refine W.seq ?_
            refine W.region rfl ?_
            refine L.va (x_mvP rfl) ?_
            refine L.va (x_mvS rfl) ?_
            refine L.va (x_mvI rfl) ?_
            refine L.va (x_idx (i := j) rfl rfl Try.underlying31 sz35 (hO.sl) (by omega)) ?_
            refine L.va (x_loadAgg (cs := [.int .i64 ((R2 j).1), .int .i64 ((R2 j).2)]) rfl Try.underlying35 rfl sz35 rfl ((RefsAt.of_own hO).at' (show j < len2 by omega))) ?_
            refine L.call (x_call3 rfl rfl rfl Try.func14 rfl nm14 rfl) (get_x Bs hp 5 most _ _ s3 w hS) ?_
            rintro _ w ⟨x, b, hgt, rfl, hbw⟩
            have hm := hm.step hbw (Nat.le_trans hBs hm.size)
            have hS := hS.keep hbw
            have hO := hO.keep hbw
            have hV := hV.keep hbw
            have hG := hG.keep hbw
            have hB11 := hB11.keep hbw
            obtain ⟨hx0, hx1, hx2⟩ := hT.get (show j < len2 by omega) hgt
            refine L.va (x_mvT rfl) ?_
            refine L.va (x_extract rfl rfl) ?_
            refine L.va (x_extract rfl rfl) ?_
            refine L.va (x_asI rfl) ?_
            refine L.va (x_asB rfl) ?_
            refine L.nil ?_
            show W _ _ _ _ _ _
            refine W.seq ?_
            refine W.region rfl ?_
            refine L.va (x_mvB rfl) ?_
            refine L.va (x_mvS rfl) ?_
            refine L.va (x_mvI rfl) ?_
            refine L.va (x_idx (i := j) rfl rfl Try.underlying33 sz4 (hG.sl) (by omega)) ?_
            refine L.va (x_load (v := .bool (G3 j)) rfl Try.underlying4 rfl (hG.at1 (show j < len2 by omega))) ?_
            refine L.va (eqB (r := false) (by rw [hx0]; simp) rfl rfl) ?_
            refine L.va (x_mvB rfl) ?_
            refine L.on rfl ?_
            refine L.va (x_mvB rfl) ?_
            refine L.on rfl ?_
            refine L.va (x_mvB rfl) ?_
            refine L.meetB 7 [151,152,153,154,155,156,157,158] 158 (.bool false) (tj := 151) rfl (fun hb151 => ?_) (fun hb151 => ?_) (fun f => ?_)
            · refine L.on rfl ?_
              refine L.va (x_mvI rfl) ?_
              refine L.on rfl ?_
              refine L.va (x_mvS rfl) ?_
              refine L.on rfl ?_
              refine L.va (x_mvI rfl) ?_
              refine L.on rfl ?_
              refine L.va (x_idx (i := j) rfl rfl Try.underlying32 sz2 (hV.sl) (by omega)) ?_
              refine L.on rfl ?_
              refine L.va (x_load (v := .int .i64 (V2 j)) rfl Try.underlying2 rfl (hV.at1 (show j < len2 by omega))) ?_
              refine L.on rfl ?_
              refine L.va (x_neq rfl rfl) ?_
              refine L.on rfl ?_
              refine L.va (x_pickT rfl) ?_
              refine L.nil ?_
              refine ⟨rfl, congrArg Value.bool (decide_eq_false (fun h9 => h9 (hx1 hb151))), ?_⟩
              exact Agree.upd rfl (Agree.upd rfl (Agree.upd rfl (Agree.upd rfl (Agree.upd rfl (Agree.upd rfl (Agree.upd rfl (Agree.upd rfl (Agree.refl _ _))))))))
            · refine L.off rfl ?_
              refine L.off rfl ?_
              refine L.off rfl ?_
              refine L.off rfl ?_
              refine L.off rfl ?_
              refine L.off rfl ?_
              refine L.on rfl ?_
              refine L.va (x_pickF rfl) ?_
              refine L.nil ?_
              refine ⟨rfl, congrArg Value.bool (rfl), ?_⟩
              exact Agree.upd rfl (Agree.upd rfl (Agree.upd rfl (Agree.upd rfl (Agree.upd rfl (Agree.upd rfl (Agree.upd rfl (Agree.upd rfl (Agree.refl _ _))))))))
            refine L.va (x_pickF rfl) ?_
            refine L.va (x_mvB rfl) ?_
            refine L.on rfl ?_
            refine L.va (x_mvB rfl) ?_
            refine L.on rfl ?_
            refine L.va (x_not rfl) ?_
            refine L.on rfl ?_
            refine L.va (x_mvB rfl) ?_
            refine L.meetB 3 [163,164,165,166] 166 (.bool false) (tj := 163) rfl (fun hb163 => ?_) (fun hb163 => ?_) (fun f => ?_)
            · refine L.on rfl ?_
              refine L.va (x_mvI rfl) ?_
              refine L.on rfl ?_
              refine L.va (x_neq rfl rfl) ?_
              refine L.on rfl ?_
              refine L.va (x_pickT rfl) ?_
              refine L.nil ?_
              refine ⟨rfl, congrArg Value.bool (decide_eq_false (fun h9 => h9 (hx2 (by simpa using hb163)))), ?_⟩
              exact Agree.upd rfl (Agree.upd rfl (Agree.upd rfl (Agree.upd rfl (Agree.refl _ _))))
            · refine L.off rfl ?_
              refine L.off rfl ?_
              refine L.on rfl ?_
              refine L.va (x_pickF rfl) ?_
              refine L.nil ?_
              refine ⟨rfl, congrArg Value.bool (rfl), ?_⟩
              exact Agree.upd rfl (Agree.upd rfl (Agree.upd rfl (Agree.upd rfl (Agree.refl _ _))))
            refine L.va (x_pickF rfl) ?_
            refine L.nil ?_
            show W _ _ _ _ _ _
            refine W.condF rfl ?_
            refine W.skip ?_
            refine B.nrm ?_
            show W _ _ _ _ _ _
            refine W.region rfl ?_
            refine L.va (x_mvI rfl) ?_
            refine L.va (x_inc rfl rfl (by omega)) ?_
            refine L.va (x_asI rfl) ?_
            refine L.nil ?_
            refine T.nrm ?_
            exact ⟨_, by omega, ⟨j + 1, rfl, rfl, rfl, rfl, rfl, rfl, rfl, rfl, rfl, rfl, hm, hS, hO, hV, hG, hB11, by omega⟩⟩
          · refine W.exit ?_
            repeat (first | refine T.exit ?_ | refine B.exitNe (by decide) ?_)
            refine B.exitEq ?_
            refine B.nrm ?_
            show W _ _ _ _ _ _
            refine W.region rfl ?_
            refine L.va (x_mvI rfl) ?_
            refine L.va (x_inc rfl rfl (by omega)) ?_
            refine L.va (x_asI rfl) ?_
            refine L.nil ?_
            refine T.nrm ?_
            exact ⟨_, by omega, ⟨i + 1, s3, len2, ta2, tc2, va2, vc2, ga2, gc2, R2, V2, G3, rfl, rfl, rfl, rfl, rfl, rfl, rfl, rfl, hm, hS, hO, hV, hG, by omega, hsm3, hlen, hT⟩⟩
    · refine W.exit ?_
      repeat (first | refine T.exit ?_ | refine B.exitNe (by decide) ?_)
      refine B.exitEq ?_
      show W _ _ _ _ _ _
      refine W.seq ?_
      refine W.region rfl ?_
      refine L.call (x_call0  Try.func7 rfl nm7 rfl) (live_c w) ?_
      rintro _ w ⟨rfl, hbw⟩
      have hm := hm.step hbw (Nat.le_trans hBs hm.size)
      have hS := hS.keep hbw
      have hO := hO.keep hbw
      have hV := hV.keep hbw
      have hG := hG.keep hbw
      refine L.va (x_asB rfl) ?_
      refine L.nil ?_
      show W _ _ _ _ _ _
      refine W.ret ?_
      repeat (first | refine T.ret ?_ | refine B.ret ?_)
      refine ends.one (.inr rfl) rfl ?_
      exact ⟨rfl, hm.toBelow hBe⟩

end Go.Proofs.Ytahcjihhkmolpaa
