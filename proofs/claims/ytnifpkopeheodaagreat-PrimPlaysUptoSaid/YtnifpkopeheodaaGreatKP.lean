/- The statement PrimPlays, where what comes in is of bounded bulk: on every schedule the law answers true for every such input, without a race, and leaves memory as it was. -/
import Derived.Test.YtnifpkopeheodaaGreatKP6
import Derived.Conc.LeavingOf
import Derived.Conc.Holds
import Derived.JoinedCond
import Derived.ProofKit
import Derived.SizedLaws
import Derived.WalkKit
import Derived.OpenShut
import Derived.ChangeOld
import Derived.Below
namespace Go.Proofs.YtnifpkopeheodaaGreat.primPlays
open Go Go.Conc Go.Yc Go.Vy Go.Vy.Sc Go.Vc Go.ChangeShapes Go.WideShapes Go.ChangeAt Go.RowKit
set_option linter.unusedVariables false
theorem own : ownKnob Tryz.prog.godebug = none := by kernel_rfl
theorem laidOut : laidOutB Tryz.prog = true := by kernel_rfl

set_option maxRecDepth 100000 in
theorem lifted (os : Os) (started : os.Started) (H : Type) (enc : TypeId × Value → H) (F : Stop.Interp) :
    ReturnsInLeavingWide {} Tryz.checked os 3 .any ((Rows.OpenSpec.upto Rows.primPlaysSpec).pre6 enc Tryz.prog Tryz.f3 Rows.primPlaysUptoRow.domain false) (((Rows.OpenSpec.upto Rows.primPlaysSpec).at F).post enc Tryz.prog Tryz.f3 false true false false) := by
  refine Gq0 (C := Tryz.checked) (s := (Rows.OpenSpec.upto Rows.primPlaysSpec)) (k := Rows.uptoSmall) rfl own started Tryz.func3
    (OpenSpec.witness (enc := enc) (C := Tryz.checked) (s := (Rows.OpenSpec.upto Rows.primPlaysSpec)) (k := Rows.uptoSmall) rfl false ⟨#[], #[.slice none 0 0, .slice none 0 0], []⟩ 8 (by kernel_rfl) (by kernel_rfl) (by kernel_rfl) (x := ([.nil, .nil], [], [])) (by kernel_rfl) rfl (by kernel_rfl)) ?_
  intro W base args ds gs before hval0 hW0 hk
  have ni1 : ∀ (j : Nat) t v, Tryz.f3.params[j]? = some t → args[j]? = some v → Value.okWide Tryz.prog W .any base t v := hval0
  have hW : DataW.Whole enc Tryz.prog Tryz.f3.params.toList Rows.primPlaysSpec.vars false W args.toList ds gs before := hW0
  have hW' := hW
  obtain ⟨p, q, hA0, hV, rfl, hfz, hnd⟩ := hW
  have hA : DataW.TrodAll enc Tryz.prog W 0 (fun _ => true) true Tryz.f3.params.toList args.toList ds p := hA0
  rw [Tryz.params3] at hA ni1
  obtain ⟨v0, vs0, d0, ds0, p0, q0, hargs, rfl, rfl, h0, r0⟩ := trodAll_cons hA
  obtain ⟨v1, vs1, d1, ds1, p1, q1, rfl, rfl, rfl, h1, r1⟩ := trodAll_cons r0
  obtain ⟨rfl, rfl, rfl⟩ := trodAll_nil r1
  obtain rfl : args = #[v0, v1] := by cases args; simp_all
  obtain ⟨rfl, rfl⟩ := trodVars_none hV
  have k0 := h0
  have lt0 : ∀ x ∈ p0, x.block < W.heap.size := by obtain ⟨m, hm⟩ := k0; exact DataW.trod_lt m _ _ _ hm
  obtain ⟨a0, len0, cap0, rfl⟩ := okWide_slice Tryz.underlying22 (ni1 0 22 v0 rfl rfl)
  have u0 : Rows.uptoBulk d0 ≤ 1048576 := Nat.le_trans (vl0 (by simp)) (Zt0 hk)
  obtain ⟨bo, oa, oc, hB, hm, hz⟩ := Sn0 h0 u0
  have k1 := h1
  have lt1 : ∀ x ∈ p1, x.block < W.heap.size := by obtain ⟨m, hm⟩ := k1; exact DataW.trod_lt m _ _ _ hm
  obtain ⟨a1, len1, cap1, rfl⟩ := okWide_slice Tryz.underlying23 (ni1 1 23 v1 rfl rfl)
  have u1 : Rows.uptoBulk d1 ≤ 1048576 := Nat.le_trans (vl0 (by simp)) (Zt0 hk)
  obtain ⟨sc, hS, hsn⟩ := Sm0 h1 u1
  clear hA0 hval0
  obtain ⟨M, last, o, w', t', r1, r2, r3, r4⟩ := Zw0 (f := 3) (args := #[.slice a0 len0 cap0, .slice a1 len1 cap1]) (W := W) Tryz.func3 rfl (by kernel_rfl) (hu1 (ev0 W) (by omega) (by omega) hB hz hS)
  refine ⟨M, last, o, w', t', r1, r2, r3, r4.mono fun v hF => ?_⟩
  obtain ⟨rfl, bel⟩ := hF
  exact ⟨_, _, _, [], _, [], hW', trodAll_mk1 (shut_bool Tryz.underlying4 _), (trodAll_cons_mk (oe0.trod laidOut (by kernel_rfl) (of_decide_eq_true (by kernel_rfl)) k0 bel lt0) (trodAll_cons_mk (oe0.trod laidOut (by kernel_rfl) (of_decide_eq_true (by kernel_rfl)) k1 bel lt1) trodAll_mk0)), rfl, bel.frame _, fun h => by cases h⟩

theorem over : Rows.primPlaysUptoRow.holds Tryz.pinned (Rows.OpenSpec.upto Rows.primPlaysSpec) :=
  Cx0 3 Tryz.f3 rfl rfl rfl rfl rfl rfl rfl ⟨rfl, rfl, rfl, rfl, rfl⟩ rfl rfl rfl rfl rfl (by kernel_rfl) Tryz.func3 (by kernel_rfl)
    (of_decide_eq_true (by kernel_rfl)) (by unfold Func.isWrapper; first | (rw [if_pos (by decide +kernel)]; kernel_rfl) | (rw [if_neg (by decide +kernel)]; exact ⟨rfl, rfl⟩))
    (fun os started H enc _ F => lifted os started H enc F)
theorem proved : Rows.PrimPlaysUptoSaid := over
end Go.Proofs.YtnifpkopeheodaaGreat.primPlays
