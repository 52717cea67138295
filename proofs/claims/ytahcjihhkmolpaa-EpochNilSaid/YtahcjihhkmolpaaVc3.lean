/- What single operations do: one law an operation, over whatever operands' values. -/
import Derived.Test.YtahcjihhkmolpaaVc2
namespace Go.Vc
open Go

section
variable {P : Program} {ρ : Operand → Value} {w : World} {d : Option Nat} {ty : TypeId} {ps : String} {af : Array Edge} {g : Option (Nat × Bool)}
variable {x y z : Operand} {T T' E S : TypeId}

theorem x_move : (execOp ρ ⟨d, .move x, ty, ps, af, g⟩).run P w = .ok (.value (ρ x)) w := rfl
theorem x_assign : (execOp ρ ⟨d, .assign x, ty, ps, af, g⟩).run P w = .ok (.value (ρ x)) w := rfl
theorem x_mvI {κ : IntKind} {m : Int} (h : ρ x = .int κ m) : (execOp ρ ⟨d, .move x, ty, ps, af, g⟩).run P w = .ok (.value (.int κ m)) w := by rw [← h]; rfl
theorem x_asI {κ : IntKind} {m : Int} (h : ρ x = .int κ m) : (execOp ρ ⟨d, .assign x, ty, ps, af, g⟩).run P w = .ok (.value (.int κ m)) w := by rw [← h]; rfl
theorem x_mvB {b : Bool} (h : ρ x = .bool b) : (execOp ρ ⟨d, .move x, ty, ps, af, g⟩).run P w = .ok (.value (.bool b)) w := by rw [← h]; rfl
theorem x_asB {b : Bool} (h : ρ x = .bool b) : (execOp ρ ⟨d, .assign x, ty, ps, af, g⟩).run P w = .ok (.value (.bool b)) w := by rw [← h]; rfl
theorem x_mvS {a : Option Addr} {n c : Nat} (h : ρ x = .slice a n c) : (execOp ρ ⟨d, .move x, ty, ps, af, g⟩).run P w = .ok (.value (.slice a n c)) w := by rw [← h]; rfl
theorem x_asS {a : Option Addr} {n c : Nat} (h : ρ x = .slice a n c) : (execOp ρ ⟨d, .assign x, ty, ps, af, g⟩).run P w = .ok (.value (.slice a n c)) w := by rw [← h]; rfl
theorem x_mvP {p : Option Addr} (h : ρ x = .pointer p) : (execOp ρ ⟨d, .move x, ty, ps, af, g⟩).run P w = .ok (.value (.pointer p)) w := by rw [← h]; rfl
theorem x_asP {p : Option Addr} (h : ρ x = .pointer p) : (execOp ρ ⟨d, .assign x, ty, ps, af, g⟩).run P w = .ok (.value (.pointer p)) w := by rw [← h]; rfl
theorem x_mvM {r : Option Nat} (h : ρ x = .map r) : (execOp ρ ⟨d, .move x, ty, ps, af, g⟩).run P w = .ok (.value (.map r)) w := by rw [← h]; rfl
theorem x_asM {r : Option Nat} (h : ρ x = .map r) : (execOp ρ ⟨d, .assign x, ty, ps, af, g⟩).run P w = .ok (.value (.map r)) w := by rw [← h]; rfl
theorem x_mvA {cs : Array Value} (h : ρ x = .agg cs) : (execOp ρ ⟨d, .move x, ty, ps, af, g⟩).run P w = .ok (.value (.agg cs)) w := by rw [← h]; rfl
theorem x_asA {cs : Array Value} (h : ρ x = .agg cs) : (execOp ρ ⟨d, .assign x, ty, ps, af, g⟩).run P w = .ok (.value (.agg cs)) w := by rw [← h]; rfl
theorem x_mvT {cs : Array Value} (h : ρ x = .tuple cs) : (execOp ρ ⟨d, .move x, ty, ps, af, g⟩).run P w = .ok (.value (.tuple cs)) w := by rw [← h]; rfl
theorem x_asT {cs : Array Value} (h : ρ x = .tuple cs) : (execOp ρ ⟨d, .assign x, ty, ps, af, g⟩).run P w = .ok (.value (.tuple cs)) w := by rw [← h]; rfl
theorem x_mvF {fn : Fn} {xs ys : Array Value} (h : ρ x = .func fn xs ys) : (execOp ρ ⟨d, .move x, ty, ps, af, g⟩).run P w = .ok (.value (.func fn xs ys)) w := by rw [← h]; rfl
theorem x_asF {fn : Fn} {xs ys : Array Value} (h : ρ x = .func fn xs ys) : (execOp ρ ⟨d, .assign x, ty, ps, af, g⟩).run P w = .ok (.value (.func fn xs ys)) w := by rw [← h]; rfl
theorem x_mvN {s : ByteArray} (h : ρ x = .string s) : (execOp ρ ⟨d, .move x, ty, ps, af, g⟩).run P w = .ok (.value (.string s)) w := by rw [← h]; rfl
theorem x_asN {s : ByteArray} (h : ρ x = .string s) : (execOp ρ ⟨d, .assign x, ty, ps, af, g⟩).run P w = .ok (.value (.string s)) w := by rw [← h]; rfl
theorem x_mvC {r : Option Nat} (h : ρ x = .chan r) : (execOp ρ ⟨d, .move x, ty, ps, af, g⟩).run P w = .ok (.value (.chan r)) w := by rw [← h]; rfl
theorem x_asC {r : Option Nat} (h : ρ x = .chan r) : (execOp ρ ⟨d, .assign x, ty, ps, af, g⟩).run P w = .ok (.value (.chan r)) w := by rw [← h]; rfl
theorem x_mvY {t : TypeId} {v : Value} (h : ρ x = .iface t v) : (execOp ρ ⟨d, .move x, ty, ps, af, g⟩).run P w = .ok (.value (.iface t v)) w := by rw [← h]; rfl
theorem x_asY {t : TypeId} {v : Value} (h : ρ x = .iface t v) : (execOp ρ ⟨d, .assign x, ty, ps, af, g⟩).run P w = .ok (.value (.iface t v)) w := by rw [← h]; rfl
theorem x_pickT (h : ρ z = .bool true) : (execOp ρ ⟨d, .pick z x y, ty, ps, af, g⟩).run P w = .ok (.value (ρ x)) w := by
  simp [execOp, h, asBool]
theorem x_pickF (h : ρ z = .bool false) : (execOp ρ ⟨d, .pick z x y, ty, ps, af, g⟩).run P w = .ok (.value (ρ y)) w := by
  simp [execOp, h, asBool]
theorem x_or {b c : Bool} (h : ρ z = .bool b) (hy : b = false → ρ y = .bool c) : (execOp ρ ⟨d, .pick z (.const (.bool true)) y, ty, ps, af, g⟩).run P w = .ok (.value (if b then ρ (.const (.bool true)) else .bool c)) w := by
  cases b
  · simp [execOp, h, asBool, hy rfl]
  · simp [execOp, h, asBool]

section
variable {κ : IntKind} {m k : Int} (hx : ρ x = .int κ m) (hy : ρ y = .int κ k)
include hx hy
theorem x_add : (execOp ρ ⟨d, .binOp .add T x y T', ty, ps, af, g⟩).run P w = .ok (.value (.int κ (κ.wrap (m + k)))) w := by simp [execOp, hx, hy, eqGuard_add, binOp_add, Op.intArith]
theorem x_sub : (execOp ρ ⟨d, .binOp .sub T x y T', ty, ps, af, g⟩).run P w = .ok (.value (.int κ (κ.wrap (m - k)))) w := by simp [execOp, hx, hy, eqGuard_sub, binOp_sub, Op.intArith]
theorem x_mul : (execOp ρ ⟨d, .binOp .mul T x y T', ty, ps, af, g⟩).run P w = .ok (.value (.int κ (κ.wrap (m * k)))) w := by simp [execOp, hx, hy, eqGuard_mul, binOp_mul, Op.intArith]
theorem x_quo (h0 : k ≠ 0) : (execOp ρ ⟨d, .binOp .quo T x y T', ty, ps, af, g⟩).run P w = .ok (.value (.int κ (κ.wrap (m.tdiv k)))) w := by simp [execOp, hx, hy, eqGuard_quo, binOp_quo, Op.intDiv, h0]
theorem x_rem (h0 : k ≠ 0) : (execOp ρ ⟨d, .binOp .rem T x y T', ty, ps, af, g⟩).run P w = .ok (.value (.int κ (m.tmod k))) w := by simp [execOp, hx, hy, eqGuard_rem, binOp_rem, Op.intDiv, h0]
theorem x_lss : (execOp ρ ⟨d, .binOp .lss T x y T', ty, ps, af, g⟩).run P w = .ok (.value (.bool (decide (m < k)))) w := by simp [execOp, hx, hy, eqGuard_lss, binOp, Op.intCmp]
theorem x_leq : (execOp ρ ⟨d, .binOp .leq T x y T', ty, ps, af, g⟩).run P w = .ok (.value (.bool (decide (m ≤ k)))) w := by simp [execOp, hx, hy, eqGuard_leq, binOp, Op.intCmp]
theorem x_gtr : (execOp ρ ⟨d, .binOp .gtr T x y T', ty, ps, af, g⟩).run P w = .ok (.value (.bool (decide (k < m)))) w := by simp [execOp, hx, hy, eqGuard_gtr, binOp, Op.intCmp]
theorem x_geq : (execOp ρ ⟨d, .binOp .geq T x y T', ty, ps, af, g⟩).run P w = .ok (.value (.bool (decide (k ≤ m)))) w := by simp [execOp, hx, hy, eqGuard_geq, binOp, Op.intCmp]
theorem x_eql : (execOp ρ ⟨d, .binOp .eql T x y T', ty, ps, af, g⟩).run P w = .ok (.value (.bool (decide (m = k)))) w := by
  simp only [execOp, hx, hy, eqGuard_at_int, binOp, Op.intCmp, pure_bind, Sem.run_bind, Sem.run_pure, Result.andThen_ok]
  by_cases h : m = k <;> simp [h]
theorem x_neq : (execOp ρ ⟨d, .binOp .neq T x y T', ty, ps, af, g⟩).run P w = .ok (.value (.bool (decide (m ≠ k)))) w := by
  simp only [execOp, hx, hy, eqGuard_at_int, binOp, Op.intCmp, pure_bind, Sem.run_bind, Sem.run_pure, Result.andThen_ok]
  by_cases h : m = k <;> simp [h]
end
/-- int's sum where it fits. -/
theorem x_addI {m k : Int} (hx : ρ x = .int .i64 m) (hy : ρ y = .int .i64 k) (h : -9223372036854775808 ≤ m + k ∧ m + k ≤ 9223372036854775807) : (execOp ρ ⟨d, .binOp .add T x y T', ty, ps, af, g⟩).run P w = .ok (.value (.int .i64 (m + k))) w := by
  rw [x_add hx hy, IntWalk.i64_in _ h]
theorem x_subI {m k : Int} (hx : ρ x = .int .i64 m) (hy : ρ y = .int .i64 k) (h : -9223372036854775808 ≤ m - k ∧ m - k ≤ 9223372036854775807) : (execOp ρ ⟨d, .binOp .sub T x y T', ty, ps, af, g⟩).run P w = .ok (.value (.int .i64 (m - k))) w := by
  rw [x_sub hx hy, IntWalk.i64_in _ h]
/-- A counter's step. -/
theorem x_inc {k : Nat} (hx : ρ x = .int .i64 (k : Int)) (hy : ρ y = .int .i64 1) (h : k < 9223372036854775807) : (execOp ρ ⟨d, .binOp .add T x y T', ty, ps, af, g⟩).run P w = .ok (.value (.int .i64 ((k + 1 : Nat) : Int))) w := by
  rw [x_addI hx hy (by omega)]; rfl
theorem x_not {b : Bool} (hx : ρ x = .bool b) : (execOp ρ ⟨d, .unOp .not T x, ty, ps, af, g⟩).run P w = .ok (.value (.bool (!b))) w := by simp [execOp, hx, Op.unary]
theorem x_neg {k : Int} (hx : ρ x = .int .i64 k) (h : -9223372036854775808 < k ∧ k ≤ 9223372036854775807) : (execOp ρ ⟨d, .unOp .neg T x, ty, ps, af, g⟩).run P w = .ok (.value (.int .i64 (-k))) w := by
  simp [execOp, hx, Op.unary, Op.intArith, IntWalk.i64_in (-k) (by omega)]

theorem x_len {a : Option Addr} {n c : Nat} {aT : Array TypeId} (hx : ρ x = .slice a n c) (hT : P.underlying T = some (.slice E)) (hA : aT[0]? = some T) :
    (execOp ρ ⟨d, .call ⟨.builtin .len, #[x], aT⟩, ty, ps, af, g⟩).run P w = .ok (.value (.int .i64 (n : Int))) w := by
  simp [execOp, resolve, invoke, builtin, hx, Builtin.len_, hA, underlying, hT, goInt]
theorem x_cap {a : Option Addr} {n c : Nat} {aT : Array TypeId} (hx : ρ x = .slice a n c) (hT : P.underlying T = some (.slice E)) (hA : aT[0]? = some T) :
    (execOp ρ ⟨d, .call ⟨.builtin .cap, #[x], aT⟩, ty, ps, af, g⟩).run P w = .ok (.value (.int .i64 (c : Int))) w := by
  simp [execOp, resolve, invoke, builtin, hx, Builtin.cap_, hA, underlying, hT, goInt]
theorem x_max {m k : Int} {aT : Array TypeId} (hx : ρ x = .int .i64 m) (hy : ρ y = .int .i64 k) :
    (execOp ρ ⟨d, .call ⟨.builtin .max, #[x, y], aT⟩, ty, ps, af, g⟩).run P w = .ok (.value (.int .i64 (max m k))) w := by
  have : max m k = if k > m then k else m := by split <;> omega
  rw [this]
  simp [execOp, resolve, invoke, builtin, hx, hy, Builtin.max_, Builtin.max2]
theorem x_min {m k : Int} {aT : Array TypeId} (hx : ρ x = .int .i64 m) (hy : ρ y = .int .i64 k) :
    (execOp ρ ⟨d, .call ⟨.builtin .min, #[x, y], aT⟩, ty, ps, af, g⟩).run P w = .ok (.value (.int .i64 (min m k))) w := by
  have : min m k = if k < m then k else m := by split <;> omega
  rw [this]
  simp [execOp, resolve, invoke, builtin, hx, hy, Builtin.min_, Builtin.min2]

theorem run_sizeOf {t : TypeId} {s : Nat} (h : (P.info? t).map (·.size) = some s) : (sizeOf t).run P w = .ok s w := by
  cases hi : P.info? t with
  | none => rw [hi] at h; cases h
  | some i => rw [hi] at h; simp at h; simp [sizeOf, typeInfo, hi, h]
theorem run_underlying {t : TypeId} {u : TypeDesc} (h : P.underlying t = some u) : (underlying t).run P w = .ok u w := by simp [underlying, h]
theorem run_zeroValue {t : TypeId} {v : Value} (h : (P.info? t).bind (·.zero) = some v) : (zeroValue t).run P w = .ok v w := by
  cases hi : P.info? t with
  | none => rw [hi] at h; cases h
  | some i => rw [hi] at h; simp at h; simp [zeroValue, typeInfo, hi, h]

/-- An element's address. -/
theorem x_index {b o n c s : Nat} {i : Nat} (hx : ρ x = .slice (some ⟨b, o, none⟩) n c) (hy : ρ y = .int .i64 (i : Int)) (hT : P.underlying T = some (.slice E)) (hs : (P.info? E).map (·.size) = some s) (h : i < n) :
    (execOp ρ ⟨d, .indexAddr T x y, ty, ps, af, g⟩).run P w = .ok (.value (.pointer (some ⟨b, o + i * s, none⟩))) w := by
  have h1 : (0 : Int) ≤ (i : Int) ∧ (i : Int) < (n : Int) := by omega
  have h2 : Addr.add ⟨b, o, none⟩ (i * s) = ⟨b, o + i * s, none⟩ := by
    unfold Addr.add; split
    · rename_i h0; simp [h0]
    · rfl
  simp [execOp, Instr.indexAt, hx, hy, asIntOf, run_underlying hT, run_sizeOf hs, h1, h]
  simpa using h2
/-- The same at an index that is an integer. -/
theorem x_indexI {b o n c s : Nat} {i : Int} (hx : ρ x = .slice (some ⟨b, o, none⟩) n c) (hy : ρ y = .int .i64 i) (hT : P.underlying T = some (.slice E)) (hs : (P.info? E).map (·.size) = some s) (h0 : 0 ≤ i) (h : i < n) :
    (execOp ρ ⟨d, .indexAddr T x y, ty, ps, af, g⟩).run P w = .ok (.value (.pointer (some ⟨b, o + i.toNat * s, none⟩))) w := by
  obtain ⟨i, rfl⟩ := Int.eq_ofNat_of_zero_le h0
  exact x_index hx hy hT hs (by omega)
/-- An array's element's address. -/
theorem x_indexArr {b o n s : Nat} {i : Int} (hx : ρ x = .pointer (some ⟨b, o, none⟩)) (hy : ρ y = .int .i64 i) (hT : P.underlying T = some (.array n E)) (hs : (P.info? E).map (·.size) = some s) (h0 : 0 ≤ i) (h : i < n) :
    (execOp ρ ⟨d, .indexAddr T x y, ty, ps, af, g⟩).run P w = .ok (.value (.pointer (some ⟨b, o + i.toNat * s, none⟩))) w := by
  have h2 : Addr.add ⟨b, o, none⟩ (i.toNat * s) = ⟨b, o + i.toNat * s, none⟩ := by
    unfold Addr.add; split
    · rename_i h0; simp [h0]
    · rfl
  simp [execOp, Instr.indexAt, hx, hy, asIntOf, Instr.sureAddr, run_underlying hT, run_sizeOf hs, h0, h, h2]
/-- A field's address. -/
theorem x_field {b o f : Nat} {fs : Array Field} {fl : Field} {s : Nat} (hx : ρ x = .pointer (some ⟨b, o, none⟩)) (hT : P.underlying S = some (.struct fs)) (hf : fs[f]? = some fl) (hs : (P.info? fl.type).map (·.size) = some s) (h0 : s ≠ 0) :
    (execOp ρ ⟨d, .fieldAddr S x f, ty, ps, af, g⟩).run P w = .ok (.value (.pointer (some ⟨b, o + fl.offset, none⟩))) w := by
  have h2 : Addr.add ⟨b, o, none⟩ fl.offset = ⟨b, o + fl.offset, none⟩ := by
    unfold Addr.add; split
    · rename_i h0; simp [h0]
    · rfl
  simp [execOp, Instr.fieldAt, hx, Instr.sureAddr, run_underlying hT, hf, fieldPlace, run_sizeOf hs, h0, h2]

def flatB (u : TypeDesc) : Bool := match u with | .struct _ | .array .. => false | _ => true
theorem run_isAgg {t : TypeId} {u : TypeDesc} (h : P.underlying t = some u) : (isAgg t).run P w = .ok (!flatB u) w := by
  cases u <;> simp [isAgg, run_underlying h, flatB]

theorem x_load {p : Addr} {u : TypeDesc} {v : Value} (hx : ρ x = .pointer (some p)) (hT : P.underlying T = some u) (hu : flatB u = true) (hc : w.cell? p = some v) :
    (execOp ρ ⟨d, .load T x, ty, ps, af, g⟩).run P w = .ok (.value v) w := by
  simp [execOp, Instr.loadAt, hx, Instr.sureAddr, loadVar, run_isAgg hT, hu, hc]
/-- A whole struct or array. -/
theorem x_loadAgg {b o : Nat} {u : TypeDesc} {cs : List Value} {s : Nat} (hx : ρ x = .pointer (some ⟨b, o, none⟩)) (hT : P.underlying T = some u) (hu : flatB u = false) (hs : (P.info? T).map (·.size) = some s) (hl : cs.length = s)
    (hc : ∀ j v, cs[j]? = some v → w.cell? ⟨b, o + j, none⟩ = some v) :
    (execOp ρ ⟨d, .load T x, ty, ps, af, g⟩).run P w = .ok (.value (.agg cs.toArray)) w := by
  have h2 : ∀ j, Addr.add ⟨b, o, none⟩ j = ⟨b, o + j, none⟩ := fun j => by
    unfold Addr.add; split
    · rename_i h0; simp [h0]
    · rfl
  have := run_loadCells_list (P := P) (w := w) ⟨b, o, none⟩ cs (fun j v hj => by rw [h2]; exact hc j v hj)
  rw [hl] at this
  simp [execOp, Instr.loadAt, hx, Instr.sureAddr, loadVar, run_isAgg hT, hu, run_sizeOf hs, this]

theorem x_store {p : Addr} {v v0 : Value} (hx : ρ x = .pointer (some p)) (hy : ρ y = v) (hs : (P.info? T).map (·.size) = some 1) (h1 : v.oneCell' = true) (hc : w.cell? p = some v0) (hf : w.frozen? p = false) :
    (execOp ρ ⟨d, .store T x y, ty, ps, af, g⟩).run P w = .ok .skip (w.setCell p v) := by
  have hv : v.cells = #[v] := by cases v <;> first | rfl | (simp [Value.oneCell'] at h1)
  have ha : p.add 0 = p := by simp [Addr.add]
  simp [execOp, Instr.storeAt, hx, hy, Instr.sureAddr, storeVar, run_sizeOf hs, hv, storeCells, ha, run_store P w p v .plain h1, hc, hf]

theorem x_extract {vs : Array Value} {i : Nat} {v : Value} (hx : ρ x = .tuple vs) (hv : vs[i]? = some v) : (execOp ρ ⟨d, .extract x i, ty, ps, af, g⟩).run P w = .ok (.value v) w := by
  simp [execOp, Instr.extract, hx, hv]

theorem x_call {f : FuncId} {first cap args : Array Value} {fn : Func} {xs : Array Operand} {aT : Array TypeId} (hx : ρ x = .func (.func f) first cap) (ha : xs.map ρ = args) (hf : P.funcs[f]? = some fn) (hb : fn.body.isSome = true) (hn : (fn.name == "runtime.NumGoroutine") = false) :
    (execOp ρ ⟨d, .call ⟨.value x, xs, aT⟩, ty, ps, af, g⟩).run P w = .ok (.enter f (first ++ args ++ cap)) w := by
  have hb' : fn.body ≠ none := by intro h; rw [h] at hb; cases hb
  simp at hn
  simp [execOp, resolve, hx, Deferred.ofValue, invoke, callFunc, hf, hn, hb', ha]

theorem x_call0 {f : FuncId} {fn : Func} {aT : Array TypeId} (hf : P.funcs[f]? = some fn) (hb : fn.body.isSome = true) (hn : (fn.name == "runtime.NumGoroutine") = false) (hx : ρ (.func f) = .func (.func f) #[] #[]) :
    (execOp ρ ⟨d, .call ⟨.value (.func f), #[], aT⟩, ty, ps, af, g⟩).run P w = .ok (.enter f #[]) w := by
  rw [x_call hx rfl hf hb hn]
  simp
theorem x_call1 {f : FuncId} {fn : Func} {aT : Array TypeId} {x0 : Operand} {v0 : Value} (h0 : ρ x0 = v0) (hf : P.funcs[f]? = some fn) (hb : fn.body.isSome = true) (hn : (fn.name == "runtime.NumGoroutine") = false) (hx : ρ (.func f) = .func (.func f) #[] #[]) :
    (execOp ρ ⟨d, .call ⟨.value (.func f), #[x0], aT⟩, ty, ps, af, g⟩).run P w = .ok (.enter f #[v0]) w := by
  rw [x_call hx rfl hf hb hn]
  simp [h0]
theorem x_call2 {f : FuncId} {fn : Func} {aT : Array TypeId} {x0 x1 : Operand} {v0 v1 : Value} (h0 : ρ x0 = v0) (h1 : ρ x1 = v1) (hf : P.funcs[f]? = some fn) (hb : fn.body.isSome = true) (hn : (fn.name == "runtime.NumGoroutine") = false) (hx : ρ (.func f) = .func (.func f) #[] #[]) :
    (execOp ρ ⟨d, .call ⟨.value (.func f), #[x0, x1], aT⟩, ty, ps, af, g⟩).run P w = .ok (.enter f #[v0, v1]) w := by
  rw [x_call hx rfl hf hb hn]
  simp [h0, h1]
theorem x_call3 {f : FuncId} {fn : Func} {aT : Array TypeId} {x0 x1 x2 : Operand} {v0 v1 v2 : Value} (h0 : ρ x0 = v0) (h1 : ρ x1 = v1) (h2 : ρ x2 = v2) (hf : P.funcs[f]? = some fn) (hb : fn.body.isSome = true) (hn : (fn.name == "runtime.NumGoroutine") = false) (hx : ρ (.func f) = .func (.func f) #[] #[]) :
    (execOp ρ ⟨d, .call ⟨.value (.func f), #[x0, x1, x2], aT⟩, ty, ps, af, g⟩).run P w = .ok (.enter f #[v0, v1, v2]) w := by
  rw [x_call hx rfl hf hb hn]
  simp [h0, h1, h2]
theorem x_call4 {f : FuncId} {fn : Func} {aT : Array TypeId} {x0 x1 x2 x3 : Operand} {v0 v1 v2 v3 : Value} (h0 : ρ x0 = v0) (h1 : ρ x1 = v1) (h2 : ρ x2 = v2) (h3 : ρ x3 = v3) (hf : P.funcs[f]? = some fn) (hb : fn.body.isSome = true) (hn : (fn.name == "runtime.NumGoroutine") = false) (hx : ρ (.func f) = .func (.func f) #[] #[]) :
    (execOp ρ ⟨d, .call ⟨.value (.func f), #[x0, x1, x2, x3], aT⟩, ty, ps, af, g⟩).run P w = .ok (.enter f #[v0, v1, v2, v3]) w := by
  rw [x_call hx rfl hf hb hn]
  simp [h0, h1, h2, h3]
theorem x_call5 {f : FuncId} {fn : Func} {aT : Array TypeId} {x0 x1 x2 x3 x4 : Operand} {v0 v1 v2 v3 v4 : Value} (h0 : ρ x0 = v0) (h1 : ρ x1 = v1) (h2 : ρ x2 = v2) (h3 : ρ x3 = v3) (h4 : ρ x4 = v4) (hf : P.funcs[f]? = some fn) (hb : fn.body.isSome = true) (hn : (fn.name == "runtime.NumGoroutine") = false) (hx : ρ (.func f) = .func (.func f) #[] #[]) :
    (execOp ρ ⟨d, .call ⟨.value (.func f), #[x0, x1, x2, x3, x4], aT⟩, ty, ps, af, g⟩).run P w = .ok (.enter f #[v0, v1, v2, v3, v4]) w := by
  rw [x_call hx rfl hf hb hn]
  simp [h0, h1, h2, h3, h4]
theorem x_call6 {f : FuncId} {fn : Func} {aT : Array TypeId} {x0 x1 x2 x3 x4 x5 : Operand} {v0 v1 v2 v3 v4 v5 : Value} (h0 : ρ x0 = v0) (h1 : ρ x1 = v1) (h2 : ρ x2 = v2) (h3 : ρ x3 = v3) (h4 : ρ x4 = v4) (h5 : ρ x5 = v5) (hf : P.funcs[f]? = some fn) (hb : fn.body.isSome = true) (hn : (fn.name == "runtime.NumGoroutine") = false) (hx : ρ (.func f) = .func (.func f) #[] #[]) :
    (execOp ρ ⟨d, .call ⟨.value (.func f), #[x0, x1, x2, x3, x4, x5], aT⟩, ty, ps, af, g⟩).run P w = .ok (.enter f #[v0, v1, v2, v3, v4, v5]) w := by
  rw [x_call hx rfl hf hb hn]
  simp [h0, h1, h2, h3, h4, h5]

theorem x_box {v : Value} (hx : ρ x = v) : (execOp ρ ⟨d, .box T x, ty, ps, af, g⟩).run P w = .ok (.value (.pointer (some ⟨w.heap.size, 0, none⟩))) (w.alloc (.cells v.cells T)) := by
  simp [execOp, Instr.box, newVar, newRow, hx]
theorem x_alloc {v : Value} (hz : (P.info? T).bind (·.zero) = some v) : (execOp ρ ⟨d, .alloc T, ty, ps, af, g⟩).run P w = .ok (.value (.pointer (some ⟨w.heap.size, 0, none⟩))) (w.alloc (.cells v.cells T)) := by
  simp [execOp, Instr.alloc, newVar, newRow, run_zeroValue hz]
theorem x_makeFunc {fn : Fn} {xs ys : Array Operand} : (execOp ρ ⟨d, .makeFunc fn xs ys, ty, ps, af, g⟩).run P w = .ok (.value (.func fn (xs.map ρ) (ys.map ρ))) w := rfl
theorem x_makeMap : (execOp ρ ⟨d, .makeMap T none, ty, ps, af, g⟩).run P w = .ok (.value (.map (some w.heap.size))) (w.alloc (.map #[] 0)) := rfl
end

/-! ### The quiet walk of a region that draws -/
def QL (P : Program) (ops : Array Oper) (Cl : World → Prop) (Q : Env → Prop) (i : Nat) (l : List Oper) (e : Env) : Prop := ∀ V : (Nat → Bool) → Prop, JL P ops V (fun _ => Cl) Q i l e

section
variable {P : Program} {ops : Array Oper} {Cl : World → Prop} {Q : Env → Prop} {i : Nat} {e : Env} {rest : List Oper} {v : Value}
variable {d : Nat} {op : Op} {ty : TypeId} {ps : String} {af : Array Edge} {dst : Option Nat} {j : Nat} {want : Bool}
theorem D.nil (h : Q e) : QL P ops Cl Q i [] e := fun _ => h
theorem D.va (hr : ∀ w, Cl w → (execOp (ev e) ⟨some d, op, ty, ps, af, none⟩).run P w = .ok (.value v) w) (k : QL P ops Cl Q (i + 1) rest (upd e d v)) : QL P ops Cl Q i (⟨some d, op, ty, ps, af, none⟩ :: rest) e :=
  fun V => ⟨v, .inl ⟨rfl, fun _ w _ _ _ hw => by rw [hr w hw]; exact ⟨rfl, hw⟩⟩, k V⟩
theorem D.call {f : FuncId} {args : Array Value} (hr : ∀ w, Cl w → (execOp (ev e) ⟨some d, op, ty, ps, af, none⟩).run P w = .ok (.enter f args) w) (hc : ∀ w, Cl w → C P f args w (fun r w' => r = v ∧ Cl w'))
    (k : QL P ops Cl Q (i + 1) rest (upd e d v)) : QL P ops Cl Q i (⟨some d, op, ty, ps, af, none⟩ :: rest) e :=
  fun V => ⟨v, .inl ⟨rfl, fun _ w _ _ _ hw => by rw [hr w hw]; exact hc w hw⟩, k V⟩
theorem D.on (hw : yieldE ops e j = some want) (k : QL P ops Cl Q i (⟨dst, op, ty, ps, af, none⟩ :: rest) e) : QL P ops Cl Q i (⟨dst, op, ty, ps, af, some (j, want)⟩ :: rest) e := by
  intro V
  obtain ⟨v, h, k⟩ := k V
  refine ⟨v, ?_, k⟩
  rcases h with ⟨_, h⟩ | ⟨h, _⟩
  · exact .inl ⟨by simp [Region.wanted, hw], h⟩
  · cases h
theorem D.off {o : Oper} (hw : Region.wanted o (yieldE ops e) = false) (k : QL P ops Cl Q (i + 1) rest (updO e o.dst undef)) : QL P ops Cl Q i (o :: rest) e :=
  fun V => ⟨undef, .inr ⟨hw, rfl, fun _ _ _ _ _ hw => hw⟩, k V⟩
theorem JL.cut {V : (Nat → Bool) → Prop} {J : (Nat → Bool) → World → Prop} {R : Env → Prop} : ∀ (k : Nat) {i : Nat} {l : List Oper} {e : Env}, JL P ops V J R i (l.take k) e → (∀ e', R e' → JL P ops V J Q (i + (l.take k).length) (l.drop k) e') → JL P ops V J Q i l e
  | 0, i, l, e, h, h2 => by simpa using h2 e h
  | k + 1, i, [], e, h, h2 => by simpa using h2 e h
  | k + 1, i, o :: l, e, ⟨v, hl, h⟩, h2 => ⟨v, hl, JL.cut k h fun e' he' => by
      have := h2 e' he'
      simp only [List.take_succ_cons, List.length_cons, List.drop_succ_cons] at this
      rw [show i + 1 + (List.take k l).length = i + ((List.take k l).length + 1) by omega]
      exact this⟩
theorem D.cut {R : Env → Prop} (k : Nat) {l : List Oper} (h : QL P ops Cl R i (l.take k) e) (h2 : ∀ e', R e' → QL P ops Cl Q (i + (l.take k).length) (l.drop k) e') : QL P ops Cl Q i l e :=
  fun V => JL.cut k (h V) (fun e' he' => h2 e' he' V)
theorem D.meet (k : Nat) (G : List Nat) (d : Nat) (v : Value) {l : List Oper} (h1 : QL P ops Cl (fun e' => e' d = v ∧ Agree G e' e) i (l.take k) e) (h2 : ∀ f, QL P ops Cl Q (i + (l.take k).length) (l.drop k) (upd (hav G f e) d v)) : QL P ops Cl Q i l e := by
  refine D.cut k h1 ?_
  rintro e' ⟨hd, hA⟩
  obtain ⟨f, hf⟩ := hA.out
  rw [upd_id hd, hf]
  exact h2 f

/-- A region that draws its order and whose operations leave a class of worlds alone. -/
theorem W.quiet {n : Nat} {id : Nat} {l : List Oper} {Q : Exit → Env → World → Prop} {e : Env} {w : World} (Cl : World → Prop) (hm : P.follows .mixedOrders = true) (hB : ordB n l.toArray = true)
    (hC : Cl w.drew) (h : QL P l.toArray Cl (fun e' => ∀ w', Cl w' → Q .normal e' w') 0 l e) : W P n (.region id l.toArray true) Q e w := by
  refine W.draws hm hB fun V _ _ => ⟨fun _ => Cl, hC, ?_⟩
  have mono : ∀ (l' : List Oper) (i : Nat) (e : Env), JL P l.toArray V (fun _ => Cl) (fun e' => ∀ w', Cl w' → Q .normal e' w') i l' e → JL P l.toArray V (fun _ => Cl) (fun e' => ∀ (D : Nat → Bool) w', (∀ i, i < l.length → D i = true) → Cl w' → Q .normal e' w') i l' e := by
    intro l'
    induction l' with
    | nil => exact fun i e h _ w' _ hw => h w' hw
    | cons o l' ih => exact fun i e ⟨v, h1, h2⟩ => ⟨v, h1, ih _ _ h2⟩
  exact mono l 0 e (h V)
end

/-! ### The walk of a region that draws and writes: J says what the world is where the operations of D have been done -/
section
variable {P : Program} {ops : Array Oper} {V : (Nat → Bool) → Prop} {J : (Nat → Bool) → World → Prop} {Q : Env → Prop} {i : Nat} {e : Env} {rest : List Oper} {v : Value}
variable {d : Nat} {op : Op} {ty : TypeId} {ps : String} {af : Array Edge}
theorem J.nil (h : Q e) : JL P ops V J Q i [] e := h
/-- It leaves the world alone. -/
theorem J.va (hr : ∀ D w, D i = false → (V D ∧ V (setD D i)) → depsOn ⟨some d, op, ty, ps, af, none⟩ D → J D w → (execOp (ev e) ⟨some d, op, ty, ps, af, none⟩).run P w = .ok (.value v) w) (hJ : ∀ D w, J D w → J (setD D i) w) (k : JL P ops V J Q (i + 1) rest (upd e d v)) : JL P ops V J Q i (⟨some d, op, ty, ps, af, none⟩ :: rest) e :=
  ⟨v, .inl ⟨rfl, fun D w hi hV hd hw => by rw [hr D w hi hV hd hw]; exact ⟨rfl, hJ D w hw⟩⟩, k⟩
/-- It yields v and turns the world. -/
theorem J.vw (hr : ∀ D w, D i = false → (V D ∧ V (setD D i)) → depsOn ⟨some d, op, ty, ps, af, none⟩ D → J D w → ∃ w', (execOp (ev e) ⟨some d, op, ty, ps, af, none⟩).run P w = .ok (.value v) w' ∧ J (setD D i) w') (k : JL P ops V J Q (i + 1) rest (upd e d v)) : JL P ops V J Q i (⟨some d, op, ty, ps, af, none⟩ :: rest) e :=
  ⟨v, .inl ⟨rfl, fun D w hi hV hd hw => by obtain ⟨w', h1, h2⟩ := hr D w hi hV hd hw; rw [h1]; exact ⟨rfl, h2⟩⟩, k⟩
/-- A store. -/
theorem J.st (hr : ∀ D w, D i = false → (V D ∧ V (setD D i)) → depsOn ⟨none, op, ty, ps, af, none⟩ D → J D w → ∃ w', (execOp (ev e) ⟨none, op, ty, ps, af, none⟩).run P w = .ok .skip w' ∧ J (setD D i) w') (k : JL P ops V J Q (i + 1) rest e) : JL P ops V J Q i (⟨none, op, ty, ps, af, none⟩ :: rest) e :=
  ⟨undef, .inl ⟨rfl, fun D w hi hV hd hw => by obtain ⟨w', h1, h2⟩ := hr D w hi hV hd hw; rw [h1]; exact ⟨rfl, h2⟩⟩, k⟩
theorem J.call {f : FuncId} {args : Array Value} (hr : ∀ D w, D i = false → (V D ∧ V (setD D i)) → depsOn ⟨some d, op, ty, ps, af, none⟩ D → J D w → (execOp (ev e) ⟨some d, op, ty, ps, af, none⟩).run P w = .ok (.enter f args) w ∧ C P f args w (fun r w' => r = v ∧ J (setD D i) w')) (k : JL P ops V J Q (i + 1) rest (upd e d v)) : JL P ops V J Q i (⟨some d, op, ty, ps, af, none⟩ :: rest) e :=
  ⟨v, .inl ⟨rfl, fun D w hi hV hd hw => by obtain ⟨h1, h2⟩ := hr D w hi hV hd hw; rw [h1]; exact h2⟩, k⟩
end

/-! ### A function's body -/
def argE (args : Array Value) : Env := fun t => args.getD t undef
theorem argE_cons (a : Value) (l : List Value) : argE (a :: l).toArray = fun t => match t with | 0 => a | t + 1 => argE l.toArray t := by
  funext t; cases t <;> simp [argE]

def ends (P : Program) (fn : Func) (R : Value → World → Prop) : Exit → Env → World → Prop := fun x e w =>
  (x = .normal ∨ x = .ret) ∧ ∃ v, (∀ tmps : Array Value, (∀ t, tmps.getD t undef = e t) → (results fn tmps).run P w = .ok v w) ∧ R v w

theorem C.enter {P : Program} {f : FuncId} {fn : Func} {c : Code} {args : Array Value} {w : World} {R : Value → World → Prop} {n : Nat} (hf : P.funcs[f]? = some fn) (hb : fn.body = some c) (hn : args.size + (fn.ntmps - args.size) = n)
    (h : W P n c (ends P fn R) (argE args) w) : C P f args w R := by
  refine calls_of_wp hf hb (wp_mono (h _ ⟨?_, rfl, ?_⟩) ?_)
  · simp [hn]
  · intro t
    simp only [argE, Array.getD_eq_getD_getElem?, Array.getElem?_append]
    split
    · rfl
    · rename_i ht
      rw [Array.getElem?_eq_none (by omega : args.size ≤ t)]
      simp only [Array.getElem?_replicate]
      split <;> rfl
  · rintro x a w' ⟨e', r, hx, v, hv, hR⟩
    have := hv a.tmps r.get
    rcases hx with rfl | rfl
    · exact ⟨r.defers, v, this, hR⟩
    · exact ⟨r.defers, v, this, hR⟩

theorem ends.one {P : Program} {fn : Func} {R : Value → World → Prop} {x : Exit} {e : Env} {w : World} {t : Nat} (hx : x = .normal ∨ x = .ret) (hr : fn.results = #[.tmp t]) (h : R (e t) w) : ends P fn R x e w :=
  ⟨hx, _, fun tmps ht => by rw [results_tmp hr, ht], h⟩
theorem ends.two {P : Program} {fn : Func} {R : Value → World → Prop} {x : Exit} {e : Env} {w : World} {t u : Nat} (hx : x = .normal ∨ x = .ret) (hr : fn.results = #[.tmp t, .tmp u]) (h : R (.tuple #[e t, e u]) w) : ends P fn R x e w :=
  ⟨hx, _, fun tmps ht => by rw [results_tmp2 hr, ht, ht], h⟩
theorem ends.none {P : Program} {fn : Func} {R : Value → World → Prop} {x : Exit} {e : Env} {w : World} (hx : x = .normal ∨ x = .ret) (hr : fn.results = #[]) (h : R (.tuple #[]) w) : ends P fn R x e w :=
  ⟨hx, _, fun tmps _ => results_none hr tmps P w, h⟩
theorem ri {k : IntKind} {a b : Int} (h : a = b) : Value.int k a = Value.int k b := by rw [h]
theorem rb {a b : Bool} (h : a = b) : Value.bool a = Value.bool b := by rw [h]
end Go.Vc
