/- The statement StripeFree, where what comes in is of bounded bulk: on every schedule the law answers true for every such input, without a race, and leaves memory as it was. -/
import Derived.Test.YtinppmaojmdmhaaGreatKF6
import Derived.Conc.LeavingOf
import Derived.Conc.Holds
import Derived.JoinedCond
import Derived.ProofKit
import Derived.SizedLaws
import Derived.WalkKit
import Derived.OpenShut
import Derived.ChangeOld
import Derived.Below
namespace Go.Proofs.YtinppmaojmdmhaaGreat.stripeFree
open Go Go.Conc Go.Yc Go.Vy Go.Vy.Sc Go.Vc Go.ChangeShapes Go.WideShapes Go.ChangeAt Go.RowKit
set_option linter.unusedVariables false
theorem own : ownKnob Tryz.prog.godebug = none := by kernel_rfl
theorem laidOut : laidOutB Tryz.prog = true := by kernel_rfl

set_option maxRecDepth 100000 in
theorem lifted (os : Os) (started : os.Started) (H : Type) (enc : TypeId × Value → H) (F : Stop.Interp) :
    ReturnsInLeavingWide {} Tryz.checked os 10 .any ((Rows.OpenSpec.upto Rows.stripeFreeSpec).pre6 enc Tryz.prog Tryz.f10 Rows.stripeFreeUptoRow.domain false) (((Rows.OpenSpec.upto Rows.stripeFreeSpec).at F).post enc Tryz.prog Tryz.f10 false true false false) := by
  refine Qz0 (C := Tryz.checked) (s := (Rows.OpenSpec.upto Rows.stripeFreeSpec)) (k := Rows.uptoSmall) rfl own started Tryz.func10
    (OpenSpec.witness (enc := enc) (C := Tryz.checked) (s := (Rows.OpenSpec.upto Rows.stripeFreeSpec)) (k := Rows.uptoSmall) rfl false ⟨#[], #[.agg #[.int .i64 0, .int .i64 0, .slice none 0 0, .slice none 0 0]], []⟩ 8 (by kernel_rfl) (by kernel_rfl) (by kernel_rfl) (x := ([.agg [.lit (.int .i64 0), .lit (.int .i64 0), .nil, .nil]], [], [])) (by kernel_rfl) rfl (by kernel_rfl)) ?_
  intro W base args ds gs before hval0 hW0 hk
  have Am1 : ∀ (j : Nat) t v, Tryz.f10.params[j]? = some t → args[j]? = some v → Value.okWide Tryz.prog W .any base t v := hval0
  have hW : DataW.Whole enc Tryz.prog Tryz.f10.params.toList Rows.stripeFreeSpec.vars false W args.toList ds gs before := hW0
  have hW' := hW
  obtain ⟨p, q, hA0, hV, rfl, hfz, hnd⟩ := hW
  have hA : DataW.TrodAll enc Tryz.prog W 0 (fun _ => true) true Tryz.f10.params.toList args.toList ds p := hA0
  rw [Tryz.params10] at hA Am1
  obtain ⟨v0, vs0, d0, ds0, p0, q0, hargs, rfl, rfl, h0, r0⟩ := trodAll_cons hA
  obtain ⟨rfl, rfl, rfl⟩ := trodAll_nil r0
  obtain rfl : args = #[v0] := by cases args; simp_all
  obtain ⟨rfl, rfl⟩ := trodVars_none hV
  have k0 := h0
  have lt0 : ∀ x ∈ p0, x.block < W.heap.size := by obtain ⟨m, hm⟩ := k0; exact DataW.trod_lt m _ _ _ hm
  have u0 : Rows.uptoBulk d0 ≤ 1048576 := Nat.le_trans (pi0 (by simp)) (nq1 hk)
  obtain ⟨obj, n, ba, m, bc, sa, sn, scp, bo, oa, oc, sc, rfl, hB, hm, hz, hks, hS, hsn⟩ := nr1 (Am1 0 39 v0 rfl rfl) h0 u0
  clear hA0 hval0
  obtain ⟨M, last, o, w', t', r1, r2, r3, r4⟩ := oi1 (f := 10) (args := #[.agg #[.int .i64 obj, .int .i64 n, .slice ba m bc, .slice sa sn scp]]) (W := W) Tryz.func10 rfl (by kernel_rfl) (Be1 (il0 W) (by omega) (by omega) hB hz hks hS)
  refine ⟨M, last, o, w', t', r1, r2, r3, r4.mono fun v hF => ?_⟩
  obtain ⟨rfl, bel⟩ := hF
  exact ⟨_, _, _, [], _, [], hW', trodAll_mk1 (shut_bool Tryz.underlying4 _), (trodAll_cons_mk (ts0.trod laidOut (by kernel_rfl) (of_decide_eq_true (by kernel_rfl)) k0 bel lt0) trodAll_mk0), rfl, bel.frame _, fun h => by cases h⟩

theorem over : Rows.stripeFreeUptoRow.holds Tryz.pinned (Rows.OpenSpec.upto Rows.stripeFreeSpec) :=
  Ky0 10 Tryz.f10 rfl rfl rfl rfl rfl rfl rfl ⟨rfl, rfl, rfl, rfl, rfl⟩ rfl rfl rfl rfl rfl (by kernel_rfl) Tryz.func10 (by kernel_rfl)
    (of_decide_eq_true (by kernel_rfl)) (by unfold Func.isWrapper; first | (rw [if_pos (by decide +kernel)]; kernel_rfl) | (rw [if_neg (by decide +kernel)]; exact ⟨rfl, rfl⟩))
    (fun os started H enc _ F => lifted os started H enc F)
theorem proved : Rows.StripeFreeUptoSaid := over
end Go.Proofs.YtinppmaojmdmhaaGreat.stripeFree
