/- The statement ClocksTells. -/
import Derived.Test.YtlopdjbehhdmpaaC18
import Derived.WalkKit
import Derived.OpenShut
import Derived.ChangeOld
import Derived.Below
namespace Go.Proofs.Ytlopdjbehhdmpaa.clocksTells
open Go.Vc Go.ChangeShapes Go.WideShapes Go.ChangeAt Go.RowKit
set_option linter.unusedVariables false
theorem own : ownKnob Try.prog.godebug = none := by kernel_rfl
theorem laidOut : laidOutB Try.prog = true := by kernel_rfl
theorem tells_l (a : Option Addr) (n c : Nat) (E : Nat → Ev) (cl : Int) (w0 : World) (hE : EvAt w0 a n E) (hnil : a = none → n = 0 ∧ c = 0) (hn : n + 8 ≤ 4398046511104) :
    C Try.prog 4 #[.slice a n c, .int .i64 cl] w0 fun v w' => v = .bool true ∧ Below w0.heap.size w0 w' := by
  by_cases hc : check E n cl = 0
  · obtain ⟨m, rfl⟩ := Int.eq_ofNat_of_zero_le (check_zero hc).1
    exact tells_l0 a n c E m w0 hE hnil hn hc
  · exact tells_l1 a n c E cl w0 hE hnil hn hc

set_option maxRecDepth 100000 in
theorem lifted (os : Os) (started : os.Started) (H : Type) (enc : TypeId × Value → H) :
    ReturnsInHanded {} Try.checked os 4 .any (Rows.clocksTellsSpec.pre6 enc Try.prog Try.f4 Rows.clocksTellsRow.domain false) (Rows.clocksTellsSpec.post enc Try.prog Try.f4 false true false false) := by
  refine returnsInHanded_of_change_sized (C := Try.checked) own started (by kernel_rfl) Try.func4
    (ChangeSpec.witness6 (enc := enc) (C := Try.checked) false ⟨#[], #[.slice none 0 0, .int .i64 0], []⟩ 8 (by kernel_rfl) (by kernel_rfl) (by kernel_rfl) (by kernel_rfl)) ?_
  intro W base args ds gs before hval0 hW hcnd hsz0 _
  have hval : ∀ (j : Nat) t v, Try.f4.params[j]? = some t → args[j]? = some v → Value.okWide Try.prog W .any base t v := hval0
  have hsz : (DataW.weightsEach Try.prog (Try.f4.params.toList ++ Rows.clocksTellsSpec.plain.varTypes Try.prog) (ds ++ gs)).all (· ≤ reachBytes) = true := hsz0
  have hW' := hW
  obtain ⟨p, q, hA0, hV, rfl, hfz, hnd⟩ := hW
  have hA : DataW.TrodAll enc Try.prog W 0 (fun _ => true) true Try.f4.params.toList args.toList ds p := hA0
  rw [Try.params4] at hA hval hsz
  obtain ⟨v0, vs0, d0, ds0, p0, q0, hargs, rfl, rfl, h0, r0⟩ := trodAll_cons hA
  obtain ⟨v1, vs1, d1, ds1, p1, q1, rfl, rfl, rfl, h1, r1⟩ := trodAll_cons r0
  obtain ⟨rfl, rfl, rfl⟩ := trodAll_nil r1
  obtain rfl : args = #[v0, v1] := by cases args; simp_all
  obtain ⟨rfl, rfl⟩ := trodVars_none hV
  obtain ⟨a0, len0, cap0, rfl⟩ := okWide_slice Try.underlying25 (hval 0 25 v0 rfl rfl)
  have k0 := h0
  have lt0 : ∀ x ∈ p0, x.block < W.heap.size := by obtain ⟨m, hm⟩ := k0; exact DataW.trod_lt m _ _ _ hm
  obtain ⟨E0, hE0, hnil0, hd0⟩ := open_events h0
  have hn0 : len0 + 8 ≤ 4398046511104 := by
    rcases hd0 with ⟨_, h⟩ | ⟨el, sp, h, hl⟩
    · omega
    · have := sized_slice hsz (j := 0) (t := 25) (e := 53) rfl (by rw [h]; rfl) Try.underlying25
      rw [bytes53] at this
      simp only [reachBytes] at this
      omega
  obtain ⟨a1, rfl, rfl, rfl, w1⟩ := open_int Try.underlying3 (hval 1 3 v1 rfl rfl) h1
  have z1 := i64_range w1
  clear hA0 hval0
  refine Calls.mono (show Calls Try.prog 4 #[.slice a0 len0 cap0, .int .i64 a1] W (Ret fun v w' => v = .bool true ∧ Below W.heap.size W w') from tells_l a0 len0 cap0 E0 a1 W hE0 hnil0 hn0) fun e W' h => ?_
  obtain ⟨he, bel⟩ := ret_true h
  subst he
  exact ⟨_, rfl, _, _, _, [], _, [], hW', trodAll_mk1 (shut_bool Try.underlying4 _), (trodAll_cons_mk (Below.trod laidOut (by kernel_rfl) (of_decide_eq_true (by kernel_rfl)) k0 bel lt0) (trodAll_cons_mk (shut_int Try.underlying3 w1) trodAll_mk0)), rfl, bel.frame _, fun h => by cases h⟩

theorem over : Rows.clocksTellsRow.holds Try.pinned (OpenSpec.ofChange Rows.clocksTellsSpec) :=
  OpenClaim.holds_of_wide 4 Try.f4 rfl rfl rfl rfl rfl rfl rfl ⟨rfl, rfl, rfl, rfl, rfl⟩ rfl rfl rfl rfl rfl (by kernel_rfl) Try.func4 (by kernel_rfl)
    (of_decide_eq_true (by kernel_rfl)) (by unfold Func.isWrapper; first | (rw [if_pos (by decide +kernel)]; kernel_rfl) | (rw [if_neg (by decide +kernel)]; exact ⟨rfl, rfl⟩))
    (fun os started H enc _ => lifted os started H enc)
theorem proved : Rows.ClocksTellsSaid := over
end Go.Proofs.Ytlopdjbehhdmpaa.clocksTells
