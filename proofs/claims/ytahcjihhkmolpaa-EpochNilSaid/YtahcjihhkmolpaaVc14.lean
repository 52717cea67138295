/- Interface values: a value is made one, and a method of its type is called. -/
import Derived.Test.YtahcjihhkmolpaaVc13
import Derived.FollowTie
namespace Go.Vc
open Go
section
variable {P : Program} {ρ : Operand → Value} {w : World} {d : Option Nat} {ty : TypeId} {ps : String} {af : Array Edge} {g : Option (Nat × Bool)}
theorem x_makeIface {S : TypeId} {x : Operand} {v : Value} {td : TypeDesc} (hx : ρ x = v) (hT : P.underlying S = some td) (hn : (match td with | .interface _ => false | _ => true) = true) :
    (execOp ρ ⟨d, .makeInterface S x, ty, ps, af, g⟩).run P w = .ok (.value (.iface S v)) w := by
  subst hx
  simp only [execOp, Instr.makeInterface, Sem.run_bind, run_underlying hT, Result.andThen_ok]
  cases td <;> first | rfl | cases hn
/-- A call of a method of an interface value, without arguments. -/
theorem x_invoke0 {T : TypeId} {r : Operand} {v : Value} {name : String} {aT : Array TypeId} {F : FuncId} {fn : Func} (hx : ρ r = .iface T v) (hm : ∀ recv w, (Go.method (P.types.size + Made.depth) T recv name).run P w = .ok (F, recv) w) (hf : P.funcs[F]? = some fn) (hb : fn.body.isSome = true) (hn : (fn.name == "runtime.NumGoroutine") = false) :
    (execOp ρ ⟨d, .call ⟨.invoke r name, #[], aT⟩, ty, ps, af, g⟩).run P w = .ok (.enter F #[v]) w := by
  have hb' : fn.body.isNone = false := by cases h : fn.body <;> simp_all
  have hm' : Sem.run P (Go.method (P.types.size + 100) T v name) w = .ok (F, v) w := hm v w
  have hn' : fn.name ≠ "runtime.NumGoroutine" := by simpa using hn
  have hb2 : fn.body ≠ none := by intro h; rw [h] at hb; cases hb
  simp [execOp, resolve, hx, invoke, callMethod, go_sem, hm', callFunc, hf, hn', hb2]
end
end Go.Vc
