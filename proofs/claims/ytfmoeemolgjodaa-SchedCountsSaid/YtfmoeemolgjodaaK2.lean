/- What the claim leans on, part 2. What single operations do: one law an operation, over whatever operands' values. -/
import Derived.Test.YtfmoeemolgjodaaK1
import Derived.Laws.AppendOwnNone
import Derived.WideKeyRuns
import Derived.Laws.StructEq
import Derived.ChangeKeysEq
import Derived.Laws.Rows
import Derived.Laws.LoneSync
import Derived.Laws.Pointers
import Derived.Laws.ResultCell
import Derived.Laws.CopyRow
import Derived.FollowTie
import Derived.Scope
set_option linter.unusedVariables false
section
namespace Go.Vc
open Go
section
variable {P:Program} {ρ:Operand->Value} {w:World} {d:Option Nat} {ty:TypeId} {ps:String} {af:Array Edge} {g:Option (Nat × Bool)}
variable {x y z:Operand} {T T' E S:TypeId}
theorem x_move:(execOp ρ ⟨d,.move x,ty,ps,af,g⟩).run P w = .ok (.value (ρ x)) w:=rfl
theorem x_assign:(execOp ρ ⟨d,.assign x,ty,ps,af,g⟩).run P w = .ok (.value (ρ x)) w:=rfl
theorem x_mvI {κ:IntKind} {m:Int} (h:ρ x = .int κ m):(execOp ρ ⟨d,.move x,ty,ps,af,g⟩).run P w = .ok (.value (.int κ m)) w:=by rw [<- h]; rfl
theorem x_asI {κ:IntKind} {m:Int} (h:ρ x = .int κ m):(execOp ρ ⟨d,.assign x,ty,ps,af,g⟩).run P w = .ok (.value (.int κ m)) w:=by rw [<- h]; rfl
theorem x_mvB {b:Bool} (h:ρ x = .bool b):(execOp ρ ⟨d,.move x,ty,ps,af,g⟩).run P w = .ok (.value (.bool b)) w:=by rw [<- h]; rfl
theorem x_asB {b:Bool} (h:ρ x = .bool b):(execOp ρ ⟨d,.assign x,ty,ps,af,g⟩).run P w = .ok (.value (.bool b)) w:=by rw [<- h]; rfl
theorem x_mvS {a:Option Addr} {n c:Nat} (h:ρ x = .slice a n c):(execOp ρ ⟨d,.move x,ty,ps,af,g⟩).run P w = .ok (.value (.slice a n c)) w:=by rw [<- h]; rfl
theorem x_asS {a:Option Addr} {n c:Nat} (h:ρ x = .slice a n c):(execOp ρ ⟨d,.assign x,ty,ps,af,g⟩).run P w = .ok (.value (.slice a n c)) w:=by rw [<- h]; rfl
theorem x_mvP {p:Option Addr} (h:ρ x = .pointer p):(execOp ρ ⟨d,.move x,ty,ps,af,g⟩).run P w = .ok (.value (.pointer p)) w:=by rw [<- h]; rfl
theorem x_asP {p:Option Addr} (h:ρ x = .pointer p):(execOp ρ ⟨d,.assign x,ty,ps,af,g⟩).run P w = .ok (.value (.pointer p)) w:=by rw [<- h]; rfl
theorem x_mvT {cs:Array Value} (h:ρ x = .tuple cs):(execOp ρ ⟨d,.move x,ty,ps,af,g⟩).run P w = .ok (.value (.tuple cs)) w:=by rw [<- h]; rfl
theorem x_mvF {fn:Fn} {xs ys:Array Value} (h:ρ x = .func fn xs ys):(execOp ρ ⟨d,.move x,ty,ps,af,g⟩).run P w = .ok (.value (.func fn xs ys)) w:=by rw [<- h]; rfl
theorem x_asF {fn:Fn} {xs ys:Array Value} (h:ρ x = .func fn xs ys):(execOp ρ ⟨d,.assign x,ty,ps,af,g⟩).run P w = .ok (.value (.func fn xs ys)) w:=by rw [<- h]; rfl
theorem x_pickT (h:ρ z = .bool true):(execOp ρ ⟨d,.pick z x y,ty,ps,af,g⟩).run P w = .ok (.value (ρ x)) w:=by
 simp [execOp,h,asBool]
theorem x_pickF (h:ρ z = .bool false):(execOp ρ ⟨d,.pick z x y,ty,ps,af,g⟩).run P w = .ok (.value (ρ y)) w:=by
 simp [execOp,h,asBool]
section
variable {κ:IntKind} {m k:Int} (hx:ρ x = .int κ m) (hy:ρ y = .int κ k)
include hx hy
theorem x_add:(execOp ρ ⟨d,.binOp .add T x y T',ty,ps,af,g⟩).run P w = .ok (.value (.int κ (κ.wrap (m + k)))) w:=by simp [execOp,hx,hy,eqGuard_add,binOp_add,Op.intArith]
theorem x_sub:(execOp ρ ⟨d,.binOp .sub T x y T',ty,ps,af,g⟩).run P w = .ok (.value (.int κ (κ.wrap (m - k)))) w:=by simp [execOp,hx,hy,eqGuard_sub,binOp_sub,Op.intArith]
theorem x_quo (h0:k ≠ 0):(execOp ρ ⟨d,.binOp .quo T x y T',ty,ps,af,g⟩).run P w = .ok (.value (.int κ (κ.wrap (m.tdiv k)))) w:=by simp [execOp,hx,hy,eqGuard_quo,binOp_quo,Op.intDiv,h0]
theorem x_rem (h0:k ≠ 0):(execOp ρ ⟨d,.binOp .rem T x y T',ty,ps,af,g⟩).run P w = .ok (.value (.int κ (m.tmod k))) w:=by simp [execOp,hx,hy,eqGuard_rem,binOp_rem,Op.intDiv,h0]
theorem x_lss:(execOp ρ ⟨d,.binOp .lss T x y T',ty,ps,af,g⟩).run P w = .ok (.value (.bool (decide (m < k)))) w:=by simp [execOp,hx,hy,eqGuard_lss,binOp,Op.intCmp]
theorem x_gtr:(execOp ρ ⟨d,.binOp .gtr T x y T',ty,ps,af,g⟩).run P w = .ok (.value (.bool (decide (k < m)))) w:=by simp [execOp,hx,hy,eqGuard_gtr,binOp,Op.intCmp]
theorem x_geq:(execOp ρ ⟨d,.binOp .geq T x y T',ty,ps,af,g⟩).run P w = .ok (.value (.bool (decide (k <= m)))) w:=by simp [execOp,hx,hy,eqGuard_geq,binOp,Op.intCmp]
theorem x_eql:(execOp ρ ⟨d,.binOp .eql T x y T',ty,ps,af,g⟩).run P w = .ok (.value (.bool (decide (m = k)))) w:=by
 simp only [execOp,hx,hy,eqGuard_at_int,binOp,Op.intCmp,pure_bind,Sem.run_bind,Sem.run_pure]
 by_cases h:m = k <;> simp [h]
theorem x_neq:(execOp ρ ⟨d,.binOp .neq T x y T',ty,ps,af,g⟩).run P w = .ok (.value (.bool (decide (m ≠ k)))) w:=by
 simp only [execOp,hx,hy,eqGuard_at_int,binOp,Op.intCmp,pure_bind,Sem.run_bind,Sem.run_pure]
 by_cases h:m = k <;> simp [h]
end
theorem x_addI {m k:Int} (hx:ρ x = .int .i64 m) (hy:ρ y = .int .i64 k) (h:-9223372036854775808 <= m + k/\m + k <= 9223372036854775807):(execOp ρ ⟨d,.binOp .add T x y T',ty,ps,af,g⟩).run P w = .ok (.value (.int .i64 (m + k))) w:=by
 rw [x_add hx hy,IntWalk.i64_in _ h]
theorem x_inc {k:Nat} (hx:ρ x = .int .i64 (k:Int)) (hy:ρ y = .int .i64 1) (h:k < 9223372036854775807):(execOp ρ ⟨d,.binOp .add T x y T',ty,ps,af,g⟩).run P w = .ok (.value (.int .i64 ((k + 1:Nat):Int))) w:=by
 rw [x_addI hx hy (by omega)]; rfl
theorem x_not {b:Bool} (hx:ρ x = .bool b):(execOp ρ ⟨d,.unOp .not T x,ty,ps,af,g⟩).run P w = .ok (.value (.bool (!b))) w:=by simp [execOp,hx,Op.unary]
theorem x_neg {k:Int} (hx:ρ x = .int .i64 k) (h:-9223372036854775808 < k/\k <= 9223372036854775807):(execOp ρ ⟨d,.unOp .neg T x,ty,ps,af,g⟩).run P w = .ok (.value (.int .i64 (-k))) w:=by
 simp [execOp,hx,Op.unary,Op.intArith,IntWalk.i64_in (-k) (by omega)]
theorem x_len {a:Option Addr} {n c:Nat} {aT:Array TypeId} (hx:ρ x = .slice a n c) (hT:P.underlying T = some (.slice E)) (hA:aT[0]? = some T) :
  (execOp ρ ⟨d,.call ⟨.builtin .len,#[x],aT⟩,ty,ps,af,g⟩).run P w = .ok (.value (.int .i64 (n:Int))) w:=by
 simp [execOp,resolve,invoke,builtin,hx,Builtin.len_,hA,underlying,hT,goInt]
theorem run_sizeOf {t:TypeId} {s:Nat} (h:(P.info? t).map (·.size) = some s):(sizeOf t).run P w = .ok s w:=by
 cases hi:P.info? t with
 | none=>rw [hi] at h; cases h
 | some i=>rw [hi] at h; simp at h; simp [sizeOf,typeInfo,hi,h]
theorem run_underlying {t:TypeId} {u:TypeDesc} (h:P.underlying t = some u):(underlying t).run P w = .ok u w:=by simp [underlying,h]
theorem run_zeroValue {t:TypeId} {v:Value} (h:(P.info? t).bind (·.zero) = some v):(zeroValue t).run P w = .ok v w:=by
 cases hi:P.info? t with
 | none=>rw [hi] at h; cases h
 | some i=>rw [hi] at h; simp at h; simp [zeroValue,typeInfo,hi,h]
theorem x_index {b o n c s:Nat} {i:Nat} (hx:ρ x = .slice (some ⟨b,o,none⟩) n c) (hy:ρ y = .int .i64 (i:Int)) (hT:P.underlying T = some (.slice E)) (hs:(P.info? E).map (·.size) = some s) (h:i < n) :
  (execOp ρ ⟨d,.indexAddr T x y,ty,ps,af,g⟩).run P w = .ok (.value (.pointer (some ⟨b,o + i * s,none⟩))) w:=by
 have h1:(0:Int) <= (i:Int)/\(i:Int) < (n:Int):=by omega
 have h2:Addr.add ⟨b,o,none⟩ (i * s) = ⟨b,o + i * s,none⟩:=by
  unfold Addr.add; split
  ·rename_i h0; simp []
  ·rfl
 simp [execOp,Instr.indexAt,hx,hy,asIntOf,run_underlying hT,run_sizeOf hs,h1,h]
 simpa using h2
theorem x_indexArr {b o n s:Nat} {i:Int} (hx:ρ x = .pointer (some ⟨b,o,none⟩)) (hy:ρ y = .int .i64 i) (hT:P.underlying T = some (.array n E)) (hs:(P.info? E).map (·.size) = some s) (h0:0 <= i) (h:i < n) :
  (execOp ρ ⟨d,.indexAddr T x y,ty,ps,af,g⟩).run P w = .ok (.value (.pointer (some ⟨b,o + i.toNat * s,none⟩))) w:=by
 have h2:Addr.add ⟨b,o,none⟩ (i.toNat * s) = ⟨b,o + i.toNat * s,none⟩:=by
  unfold Addr.add; split
  ·rename_i h0; simp []
  ·rfl
 simp [execOp,Instr.indexAt,hx,hy,asIntOf,Instr.sureAddr,run_underlying hT,run_sizeOf hs,h0,h,h2]
theorem x_field {b o f:Nat} {fs:Array Field} {fl:Field} {s:Nat} (hx:ρ x = .pointer (some ⟨b,o,none⟩)) (hT:P.underlying S = some (.struct fs)) (hf:fs[f]? = some fl) (hs:(P.info? fl.type).map (·.size) = some s) (h0:s ≠ 0) :
  (execOp ρ ⟨d,.fieldAddr S x f,ty,ps,af,g⟩).run P w = .ok (.value (.pointer (some ⟨b,o + fl.offset,none⟩))) w:=by
 have h2:Addr.add ⟨b,o,none⟩ fl.offset = ⟨b,o + fl.offset,none⟩:=by
  unfold Addr.add; split
  ·rename_i h0; simp []
  ·rfl
 simp [execOp,Instr.fieldAt,hx,Instr.sureAddr,run_underlying hT,hf,fieldPlace,run_sizeOf hs,h0,h2]
def flatB (u:TypeDesc):Bool:=match u with | .struct _ | .array ..=>false | _=>true
theorem run_isAgg {t:TypeId} {u:TypeDesc} (h:P.underlying t = some u):(isAgg t).run P w = .ok (!flatB u) w:=by
 cases u <;> simp [isAgg,run_underlying h,flatB]
theorem x_load {p:Addr} {u:TypeDesc} {v:Value} (hx:ρ x = .pointer (some p)) (hT:P.underlying T = some u) (hu:flatB u = true) (hc:w.cell? p = some v) :
  (execOp ρ ⟨d,.load T x,ty,ps,af,g⟩).run P w = .ok (.value v) w:=by
 simp [execOp,Instr.loadAt,hx,Instr.sureAddr,loadVar,run_isAgg hT,hu,hc]
theorem x_loadAgg {b o:Nat} {u:TypeDesc} {cs:List Value} {s:Nat} (hx:ρ x = .pointer (some ⟨b,o,none⟩)) (hT:P.underlying T = some u) (hu:flatB u = false) (hs:(P.info? T).map (·.size) = some s) (hl:cs.length = s)
  (hc:∀ j v,cs[j]? = some v->w.cell? ⟨b,o + j,none⟩ = some v) :
  (execOp ρ ⟨d,.load T x,ty,ps,af,g⟩).run P w = .ok (.value (.agg cs.toArray)) w:=by
 have h2:∀ j,Addr.add ⟨b,o,none⟩ j = ⟨b,o + j,none⟩:=fun j=>by
  unfold Addr.add; split
  ·rename_i h0; simp []
  ·rfl
 have:=run_loadCells_list (P:=P) (w:=w) ⟨b,o,none⟩ cs (fun j v hj=>by rw [h2]; exact hc j v hj)
 rw [hl] at this
 simp [execOp,Instr.loadAt,hx,Instr.sureAddr,loadVar,run_isAgg hT,hu,run_sizeOf hs,this]
theorem x_store {p:Addr} {v v0:Value} (hx:ρ x = .pointer (some p)) (hy:ρ y = v) (hs:(P.info? T).map (·.size) = some 1) (h1:v.oneCell' = true) (hc:w.cell? p = some v0) (hf:w.frozen? p = false) :
  (execOp ρ ⟨d,.store T x y,ty,ps,af,g⟩).run P w = .ok .skip (w.setCell p v):=by
 have hv:v.cells = #[v]:=by cases v <;> first | rfl | (simp [Value.oneCell'] at h1)
 have ha:p.add 0 = p:=by simp [Addr.add]
 simp [execOp,Instr.storeAt,hx,hy,Instr.sureAddr,storeVar,run_sizeOf hs,hv,storeCells,ha,run_store P w p v .plain h1,hc,hf]
theorem x_extract {vs:Array Value} {i:Nat} {v:Value} (hx:ρ x = .tuple vs) (hv:vs[i]? = some v):(execOp ρ ⟨d,.extract x i,ty,ps,af,g⟩).run P w = .ok (.value v) w:=by
 simp [execOp,Instr.extract,hx,hv]
theorem x_call {f:FuncId} {first cap args:Array Value} {fn:Func} {xs:Array Operand} {aT:Array TypeId} (hx:ρ x = .func (.func f) first cap) (ha:xs.map ρ = args) (hf:P.funcs[f]? = some fn) (hb:fn.body.isSome = true) (hn:(fn.name == "runtime.NumGoroutine") = false) :
  (execOp ρ ⟨d,.call ⟨.value x,xs,aT⟩,ty,ps,af,g⟩).run P w = .ok (.enter f (first ++ args ++ cap)) w:=by
 have hb':fn.body ≠ none:=by intro h; rw [h] at hb; cases hb
 simp at hn
 simp [execOp,resolve,hx,Deferred.ofValue,invoke,callFunc,hf,hn,hb',ha]
theorem x_call0 {f:FuncId} {fn:Func} {aT:Array TypeId} (hf:P.funcs[f]? = some fn) (hb:fn.body.isSome = true) (hn:(fn.name == "runtime.NumGoroutine") = false) (hx:ρ (.func f) = .func (.func f) #[] #[]) :
  (execOp ρ ⟨d,.call ⟨.value (.func f),#[],aT⟩,ty,ps,af,g⟩).run P w = .ok (.enter f #[]) w:=by
 rw [x_call hx rfl hf hb hn]
 simp
theorem x_call1 {f:FuncId} {fn:Func} {aT:Array TypeId} {x0:Operand} {v0:Value} (h0:ρ x0 = v0) (hf:P.funcs[f]? = some fn) (hb:fn.body.isSome = true) (hn:(fn.name == "runtime.NumGoroutine") = false) (hx:ρ (.func f) = .func (.func f) #[] #[]) :
  (execOp ρ ⟨d,.call ⟨.value (.func f),#[x0],aT⟩,ty,ps,af,g⟩).run P w = .ok (.enter f #[v0]) w:=by
 rw [x_call hx rfl hf hb hn]
 simp [h0]
theorem x_call2 {f:FuncId} {fn:Func} {aT:Array TypeId} {x0 x1:Operand} {v0 v1:Value} (h0:ρ x0 = v0) (h1:ρ x1 = v1) (hf:P.funcs[f]? = some fn) (hb:fn.body.isSome = true) (hn:(fn.name == "runtime.NumGoroutine") = false) (hx:ρ (.func f) = .func (.func f) #[] #[]) :
  (execOp ρ ⟨d,.call ⟨.value (.func f),#[x0,x1],aT⟩,ty,ps,af,g⟩).run P w = .ok (.enter f #[v0,v1]) w:=by
 rw [x_call hx rfl hf hb hn]
 simp [h0,h1]
theorem x_call3 {f:FuncId} {fn:Func} {aT:Array TypeId} {x0 x1 x2:Operand} {v0 v1 v2:Value} (h0:ρ x0 = v0) (h1:ρ x1 = v1) (h2:ρ x2 = v2) (hf:P.funcs[f]? = some fn) (hb:fn.body.isSome = true) (hn:(fn.name == "runtime.NumGoroutine") = false) (hx:ρ (.func f) = .func (.func f) #[] #[]) :
  (execOp ρ ⟨d,.call ⟨.value (.func f),#[x0,x1,x2],aT⟩,ty,ps,af,g⟩).run P w = .ok (.enter f #[v0,v1,v2]) w:=by
 rw [x_call hx rfl hf hb hn]
 simp [h0,h1,h2]
theorem x_call4 {f:FuncId} {fn:Func} {aT:Array TypeId} {x0 x1 x2 x3:Operand} {v0 v1 v2 v3:Value} (h0:ρ x0 = v0) (h1:ρ x1 = v1) (h2:ρ x2 = v2) (h3:ρ x3 = v3) (hf:P.funcs[f]? = some fn) (hb:fn.body.isSome = true) (hn:(fn.name == "runtime.NumGoroutine") = false) (hx:ρ (.func f) = .func (.func f) #[] #[]) :
  (execOp ρ ⟨d,.call ⟨.value (.func f),#[x0,x1,x2,x3],aT⟩,ty,ps,af,g⟩).run P w = .ok (.enter f #[v0,v1,v2,v3]) w:=by
 rw [x_call hx rfl hf hb hn]
 simp [h0,h1,h2,h3]
theorem x_box {v:Value} (hx:ρ x = v):(execOp ρ ⟨d,.box T x,ty,ps,af,g⟩).run P w = .ok (.value (.pointer (some ⟨w.heap.size,0,none⟩))) (w.alloc (.cells v.cells T)):=by
 simp [execOp,Instr.box,newVar,newRow,hx]
theorem x_alloc {v:Value} (hz:(P.info? T).bind (·.zero) = some v):(execOp ρ ⟨d,.alloc T,ty,ps,af,g⟩).run P w = .ok (.value (.pointer (some ⟨w.heap.size,0,none⟩))) (w.alloc (.cells v.cells T)):=by
 simp [execOp,Instr.alloc,newVar,newRow,run_zeroValue hz]
end
def QL (P:Program) (ops:Array Oper) (Cl:World->Prop) (Q:Env->Prop) (i:Nat) (l:List Oper) (e:Env):Prop:=∀ V:(Nat->Bool)->Prop,JL P ops V (fun _=>Cl) Q i l e
section
variable {P:Program} {ops:Array Oper} {Cl:World->Prop} {Q:Env->Prop} {i:Nat} {e:Env} {rest:List Oper} {v:Value}
variable {d:Nat} {op:Op} {ty:TypeId} {ps:String} {af:Array Edge} {dst:Option Nat} {j:Nat} {want:Bool}
theorem D.nil (h:Q e):QL P ops Cl Q i [] e:=fun _=>h
theorem D.va (hr:∀ w,Cl w->(execOp (ev e) ⟨some d,op,ty,ps,af,none⟩).run P w = .ok (.value v) w) (k:QL P ops Cl Q (i + 1) rest (upd e d v)):QL P ops Cl Q i (⟨some d,op,ty,ps,af,none⟩ :: rest) e :=
 fun V=>⟨v,.inl ⟨rfl,fun _ w _ _ _ hw=>by rw [hr w hw]; exact ⟨rfl,hw⟩⟩,k V⟩
theorem D.on (hw:yieldE ops e j = some want) (k:QL P ops Cl Q i (⟨dst,op,ty,ps,af,none⟩ :: rest) e):QL P ops Cl Q i (⟨dst,op,ty,ps,af,some (j,want)⟩ :: rest) e:=by
 intro V
 obtain ⟨v,h,k⟩:=k V
 refine ⟨v,?_,k⟩
 rcases h with ⟨_,h⟩ | ⟨h,_⟩
 ·exact .inl ⟨by simp [Region.wanted,hw],h⟩
 ·cases h
end
section
variable {P:Program} {ops:Array Oper} {V:(Nat->Bool)->Prop} {J:(Nat->Bool)->World->Prop} {Q:Env->Prop} {i:Nat} {e:Env} {rest:List Oper} {v:Value}
variable {d:Nat} {op:Op} {ty:TypeId} {ps:String} {af:Array Edge}
end
def argE (args:Array Value):Env:=fun t=>args.getD t undef
def ends (P:Program) (fn:Func) (R:Value->World->Prop):Exit->Env->World->Prop:=fun x e w =>
 (x = .normal\/x = .ret)/\∃ v,(∀ tmps:Array Value,(∀ t,tmps.getD t undef = e t)->(results fn tmps).run P w = .ok v w)/\R v w
theorem C.enter {P:Program} {f:FuncId} {fn:Func} {c:Code} {args:Array Value} {w:World} {R:Value->World->Prop} {n:Nat} (hf:P.funcs[f]? = some fn) (hb:fn.body = some c) (hn:args.size + (fn.ntmps - args.size) = n)
  (h:W P n c (ends P fn R) (argE args) w):C P f args w R:=by
 refine calls_of_wp hf hb (wp_mono (h _ ⟨?_,rfl,?_⟩) ?_)
 ·simp [hn]
 ·intro t
  simp only [argE,Array.getD_eq_getD_getElem?,Array.getElem?_append]
  split
  ·rfl
  ·rename_i ht
   rw [Array.getElem?_eq_none (by omega:args.size <= t)]
   simp only [Array.getElem?_replicate]
   split <;> rfl
 ·rintro x a w' ⟨e',r,hx,v,hv,hR⟩
  have:=hv a.tmps r.get
  rcases hx with rfl | rfl
  ·exact ⟨r.defers,v,this,hR⟩
  ·exact ⟨r.defers,v,this,hR⟩
theorem ends.one {P:Program} {fn:Func} {R:Value->World->Prop} {x:Exit} {e:Env} {w:World} {t:Nat} (hx:x = .normal\/x = .ret) (hr:fn.results = #[.tmp t]) (h:R (e t) w):ends P fn R x e w :=
 ⟨hx,_,fun tmps ht=>by rw [results_tmp hr,ht],h⟩
theorem ends.none {P:Program} {fn:Func} {R:Value->World->Prop} {x:Exit} {e:Env} {w:World} (hx:x = .normal\/x = .ret) (hr:fn.results = #[]) (h:R (.tuple #[]) w):ends P fn R x e w :=
 ⟨hx,_,fun tmps _=>results_none hr tmps P w,h⟩
theorem rb {a b:Bool} (h:a = b):Value.bool a = Value.bool b:=by rw [h]
end Go.Vc
end
/- Memory by blocks: what a call makes for itself, and what was there before it. -/
section
namespace Go.Vc
open Go Go.RowKit
def Blk (w:World) (b:Nat) (cs:Array Value) (T:TypeId):Prop:=w.heap[b]? = some (.cells cs T (0,0))
theorem Blk.lt {w:World} {b:Nat} {cs:Array Value} {T:TypeId} (h:Blk w b cs T):b < w.heap.size:=(Array.getElem?_eq_some_iff.1 h).1
theorem Blk.cell {w:World} {b o:Nat} {cs:Array Value} {T:TypeId} {v:Value} (h:Blk w b cs T) (hv:cs[o]? = some v):w.cell? ⟨b,o,none⟩ = some v:=by
 unfold Blk at h; simp [World.cell?,h,hv]
theorem Blk.frozen {w:World} {b o:Nat} {cs:Array Value} {T:TypeId} (h:Blk w b cs T):w.frozen? ⟨b,o,none⟩ = false:=by
 unfold Blk at h; simp [World.frozen?,h]
theorem Blk.below {B:Nat} {w w':World} {b:Nat} {cs:Array Value} {T:TypeId} (h:Blk w b cs T) (hb:Below B w w') (hlt:b < B):Blk w' b cs T:=(hb.block b hlt).trans h
theorem Blk.keep {w w':World} {b:Nat} {cs:Array Value} {T:TypeId} (h:Blk w b cs T) (hb:Below w.heap.size w w'):Blk w' b cs T:=h.below hb h.lt
structure Fresh (w w1:World) (b:Nat) (cs:Array Value) (T:TypeId):Prop where
 here:b = w.heap.size
 below:Below w.heap.size w w1
 size:w1.heap.size = w.heap.size + 1
 blk:Blk w1 b cs T
theorem fresh_alloc (w:World) (cs:Array Value) (T:TypeId):Fresh w (w.alloc (.cells cs T)) w.heap.size cs T :=
 ⟨rfl,(Below.refl _ _).alloc (Nat.le_refl _) _,by simp,by unfold Blk; show (w.heap.push _)[_]? = _; simp⟩
section
variable {P:Program} {n:Nat} {Q:Exit->Env->World->Prop} {e:Env} {w:World} {ops:Array Oper} {rest:List Oper}
variable {d:Nat} {ty:TypeId} {ps:String} {af:Array Edge} {T:TypeId} {x y:Operand}
theorem L.box {v:Value} {cs:Array Value} (hx:ev e x = v) (hcs:v.cells = cs) (k:∀ w1 b,Fresh w w1 b cs T->L P n ops Q rest (upd e d (.pointer (some ⟨b,0,none⟩))) w1) :
  L P n ops Q (⟨some d,.box T x,ty,ps,af,none⟩ :: rest) e w:=by
 subst hcs
 exact L.va (x_box hx) (k _ _ (fresh_alloc w _ T))
theorem L.alloc {v:Value} {cs:Array Value} (hz:(P.info? T).bind (·.zero) = some v) (hcs:v.cells = cs) (k:∀ w1 b,Fresh w w1 b cs T->L P n ops Q rest (upd e d (.pointer (some ⟨b,0,none⟩))) w1) :
  L P n ops Q (⟨some d,.alloc T,ty,ps,af,none⟩ :: rest) e w:=by
 subst hcs
 exact L.va (x_alloc hz) (k _ _ (fresh_alloc w _ T))
def setRow (cs:Array Value) (o:Nat):List Value->Array Value
 | []=>cs
 | v :: vs=>setRow (cs.setIfInBounds o v) (o + 1) vs
def setBlk (w:World) (b:Nat) (cs:Array Value) (T:TypeId):World:={ w with heap:=w.heap.setIfInBounds b (.cells cs T (0,0)) }
theorem setBlk_size (w:World) (b:Nat) (cs:Array Value) (T:TypeId):(setBlk w b cs T).heap.size = w.heap.size:=by simp [setBlk]
theorem setBlk_self {w:World} {b:Nat} (cs cs':Array Value) (T:TypeId) (h:Blk w b cs T):Blk (setBlk w b cs' T) b cs' T:=by
 have:=h.lt
 simp [Blk,setBlk,this]
theorem setBlk_other {w:World} {b k:Nat} (cs':Array Value) (T:TypeId) (h:k ≠ b):(setBlk w b cs' T).heap[k]? = w.heap[k]?:=by
 simp only [setBlk]
 rw [Array.getElem?_setIfInBounds_ne (Ne.symm h)]
theorem setCell_setBlk {w:World} {b o:Nat} {cs:Array Value} {T:TypeId} (h:Blk w b cs T) (v:Value):w.setCell ⟨b,o,none⟩ v = setBlk w b (cs.setIfInBounds o v) T:=by
 have hl:=h.lt
 have hg:w.heap[b] = .cells cs T (0,0):=by have:=h; unfold Blk at this; rw [Array.getElem?_eq_getElem hl] at this; exact Option.some.inj this
 simp only [World.setCell,Vc.setBlk]
 congr 1
 apply Array.ext_getElem?
 intro i
 by_cases hi:i = b
 ·subst hi
  rw [Array.getElem?_modify,if_pos rfl,Array.getElem?_eq_getElem hl,hg]
  simp [hl]
 ·rw [Array.getElem?_modify,Array.getElem?_setIfInBounds_ne (Ne.symm hi),if_neg (Ne.symm hi)]
theorem setBlk_setBlk (w:World) (b:Nat) (cs cs':Array Value) (T:TypeId):setBlk (setBlk w b cs T) b cs' T = setBlk w b cs' T:=by
 simp [setBlk]
theorem setBlk_same {w:World} {b:Nat} {cs:Array Value} {T:TypeId} (h:Blk w b cs T):setBlk w b cs T = w:=by
 have hl:=h.lt
 have hg:w.heap[b] = .cells cs T (0,0):=by have:=h; unfold Blk at this; rw [Array.getElem?_eq_getElem hl] at this; exact Option.some.inj this
 have:w.heap.setIfInBounds b (.cells cs T (0,0)) = w.heap:=by
  apply Array.ext_getElem?
  intro i
  by_cases hi:i = b
  ·subst hi; simp [hl,hg]
  ·rw [Array.getElem?_setIfInBounds_ne (Ne.symm hi)]
 simp only [setBlk,this]
theorem run_storeCells_blk (b:Nat) (T:TypeId):∀ (vs:List Value) (o i:Nat) (cs:Array Value) (w:World),Blk w b cs T->o + i + vs.length <= cs.size->(∀ v ∈ vs,v.oneCell' = true) ->
  (storeCells ⟨b,o,none⟩ vs i).run P w = .ok () (setBlk w b (setRow cs (o + i) vs) T)
 | [],o,i,cs,w,h,_,_=>by simp [storeCells,setRow,setBlk_same h]
 | v :: vs,o,i,cs,w,h,hl,h1=>by
  have ha:Addr.add ⟨b,o,none⟩ i = ⟨b,o + i,none⟩:=by
   unfold Addr.add; split
   ·rename_i h0; simp []
   ·rfl
  have hlt:o + i < cs.size:=by simp only [List.length_cons] at hl; omega
  have hc:=h.cell (Array.getElem?_eq_getElem hlt)
  have ih:=run_storeCells_blk b T vs o (i + 1) (cs.setIfInBounds (o + i) v) (setBlk w b (cs.setIfInBounds (o + i) v) T) (setBlk_self cs _ T h) (by simp only [List.length_cons] at hl; simp; omega) (fun u hu=>h1 u (List.mem_cons_of_mem _ hu))
  rw [setBlk_setBlk] at ih
  simp only [storeCells,Sem.run_bind,ha,run_store P w _ v .plain (h1 v List.mem_cons_self),hc,h.frozen,Bool.false_eq_true,if_false,Result.andThen_ok,setCell_setBlk h v]
  rw [ih]
  rfl
theorem L.storeAgg {b o s:Nat} {cs vs:Array Value} {E:TypeId} {v:Value} (hx:ev e x = .pointer (some ⟨b,o,none⟩)) (hy:ev e y = v) (hvs:v.cells = vs) (hs:(P.info? T).map (·.size) = some s) (hl:vs.size = s) (h1:∀ v ∈ vs.toList,v.oneCell' = true) (hB:Blk w b cs E) (ho:o + s <= cs.size)
  (k:L P n ops Q rest e (setBlk w b (setRow cs o vs.toList) E)):L P n ops Q (⟨none,.store T x y,ty,ps,af,none⟩ :: rest) e w:=by
 have:=run_storeCells_blk (P:=P) b E vs.toList o 0 cs w hB (by simp; omega) h1
 refine L.st ?_ k
 simp [execOp,Instr.storeAt,hx,hy,Instr.sureAddr,storeVar,run_sizeOf hs,hvs,hl,this]
end
section
variable {P:Program} {n:Nat} {Q:Exit->Env->World->Prop} {e:Env} {w:World} {ops:Array Oper}
theorem L.meetB (k:Nat) (G:List Nat) (d:Nat) (v:Value) {tj:Nat} {b:Bool} {l:List Oper} (hb:e tj = .bool b)
  (ht:b = true->L P n ops (thenE (fun e' w'=>w' = w/\e' d = v/\Agree G e' e) Q) (l.take k) (upd e tj (.bool true)) w)
  (hf:b = false->L P n ops (thenE (fun e' w'=>w' = w/\e' d = v/\Agree G e' e) Q) (l.take k) (upd e tj (.bool false)) w)
  (h2:∀ f,L P n ops Q (l.drop k) (upd (hav G f e) d v) w):L P n ops Q l e w:=by
 refine L.meet k G d v ?_ h2
 cases b
 ·have:=hf rfl; rw [<- upd_id hb] at this; exact this
 ·have:=ht rfl; rw [<- upd_id hb] at this; exact this
variable {Cl:World->Prop} {R:Env->Prop} {i:Nat}
end
def ab (a:Option Addr):Nat:=(a.map (·.block)).getD 0
def ao (a:Option Addr):Nat:=(a.map (·.off)).getD 0
def SL (a:Option Addr) (n:Nat):Prop:=0 < n->a = some ⟨ab a,ao a,none⟩
theorem SL.zero (a:Option Addr):SL a 0:=fun h=>by omega
section
variable {P:Program} {ρ:Operand->Value} {w:World} {d:Option Nat} {ty:TypeId} {ps:String} {af:Array Edge} {g:Option (Nat × Bool)} {x y:Operand} {T E:TypeId}
theorem x_idx {a:Option Addr} {n c s:Nat} {i:Nat} (hx:ρ x = .slice a n c) (hy:ρ y = .int .i64 (i:Int)) (hT:P.underlying T = some (.slice E)) (hs:(P.info? E).map (·.size) = some s) (hS:SL a n) (h:i < n) :
  (execOp ρ ⟨d,.indexAddr T x y,ty,ps,af,g⟩).run P w = .ok (.value (.pointer (some ⟨ab a,ao a + i * s,none⟩))) w:=by
 have h0:=hS (by omega)
 rw [h0] at hx
 exact x_index hx hy hT hs h
end
section
variable {next:Env->World->Prop} {Q:Exit->Env->World->Prop} {e:Env} {w:World} {id id':Nat}
theorem T.nrm (h:next e w):thenE next Q .normal e w:=h
theorem T.ret (h:Q .ret e w):thenE next Q .ret e w:=h
theorem T.exit (h:Q (.exit id) e w):thenE next Q (.exit id) e w:=h
theorem B.nrm (h:Q .normal e w):inBlockE id Q .normal e w:=h
theorem B.ret (h:Q .ret e w):inBlockE id Q .ret e w:=h
theorem B.exitEq (h:Q .normal e w):inBlockE id Q (.exit id) e w:=by simp only [inBlockE,if_true]; exact h
theorem B.exitNe (hne:id' ≠ id) (h:Q (.exit id') e w):inBlockE id Q (.exit id') e w:=by simp only [inBlockE,if_neg hne]; exact h
end
theorem or_t {p:Prop} [Decidable p] {q:Prop} [Decidable (p\/q)] (h:decide p = true):true = decide (p\/q):=(decide_eq_true (Or.inl (of_decide_eq_true h))).symm
theorem or_f {p:Prop} [Decidable p] {q:Prop} [Decidable q] [Decidable (p\/q)] (h:decide p = false):decide q = decide (p\/q):=decide_eq_decide.2 ⟨Or.inr,fun h'=>h'.resolve_left (of_decide_eq_false h)⟩
theorem cl_step {w0 w w':World} (h:Below w0.heap.size w0 w) (h':Below w.heap.size w w'):Below w0.heap.size w0 w':=h.trans (h'.mono h.size)
end Go.Vc
end
/- Slices that a call makes and appends to. -/
section
namespace Go.Vc
open Go Go.RowKit
def Own (w:World) (B:Nat) (E:TypeId) (s:Nat) (a:Option Addr) (n c:Nat) (xs:List Value):Prop:=w.ownsRow B E s (.slice a n c) n xs
section
variable {w w':World} {B:Nat} {E:TypeId} {s:Nat} {a:Option Addr} {n c:Nat} {xs:List Value}
theorem Own.nil (w:World) (B:Nat) (E:TypeId) (s:Nat):Own w B E s none 0 0 []:=World.ownsRow_nil w B E s
theorem Own.length (h:Own w B E s a n c xs):xs.length = n * s:=h.1
theorem Own.sl (h:Own w B E s a n c xs):SL a n:=fun hn=>by
 rcases h.2 with ⟨_,h0⟩ | ⟨g,cap,cur,hv,_⟩
 ·omega
 ·cases hv; rfl
theorem Own.off (h:Own w B E s a n c xs):ao a = 0:=by
 rcases h.2 with ⟨hv,h0⟩ | ⟨g,cap,cur,hv,_⟩ <;> cases hv <;> rfl
theorem Own.row (h:Own w B E s a n c xs) (ha:a ≠ none):∃ cur,Blk w (ab a) cur E/\B <= ab a/\n <= c/\c <= maxLen/\cur.size = c * s/\cur.toList.take (n * s) = xs:=by
 rcases h.2 with ⟨hv,h0⟩ | ⟨g,cap,cur,hv,hb,hg,hn,hm,hs,ht⟩
 ·cases hv; exact absurd rfl ha
 ·cases hv; exact ⟨cur,hg,hb,hn,hm,hs,ht⟩
theorem Own.some_of (h:Own w B E s a n c xs) (hn:0 < n):a ≠ none:=by rw [h.sl hn]; simp
theorem Own.cell (h:Own w B E s a n c xs) {j:Nat} {v:Value} (hj:xs[j]? = some v):w.cell? ⟨ab a,j,none⟩ = some v:=by
 have hlt:j < xs.length:=(List.getElem?_eq_some_iff.1 hj).1
 have hn:0 < n:=by
  rcases Nat.eq_zero_or_pos n with h0 | h0
  ·subst h0; rw [h.length] at hlt; omega
  ·exact h0
 obtain ⟨cur,hB,_,_,_,_,ht⟩:=h.row (h.some_of hn)
 refine hB.cell ?_
 rw [<- ht] at hj
 rw [List.getElem?_take] at hj
 split at hj
 ·simpa using hj
 ·cases hj
theorem Own.lt (h:Own w B E s a n c xs) (ha:a ≠ none):ab a < w.heap.size:=(h.row ha).choose_spec.1.lt
theorem Own.grown (h:Own w B E s a n c xs) {row:Option Nat} (hg:w.grownBy w' row) (hne:some (ab a) ≠ row):Own w' B E s a n c xs:=by
 refine World.ownsRow.kept h hg ?_
 cases a with
 | none=>exact .inl rfl
 | some x=>exact .inr hne
theorem grownBy_of_below (hb:Below w.heap.size w w'):w.grownBy w' none:=⟨hb.os,hb.tape,hb.output,hb.size,fun k hk _=>hb.block k hk⟩
theorem Own.keep (h:Own w B E s a n c xs) (hb:Below w.heap.size w w'):Own w' B E s a n c xs:=h.grown (grownBy_of_below hb) (by simp)
theorem Blk.grown {b:Nat} {cs:Array Value} {T:TypeId} (h:Blk w b cs T) {row:Option Nat} (hg:w.grownBy w' row) (hne:some b ≠ row):Blk w' b cs T:=(hg.block b h.lt hne).trans h
theorem Blk.ne {b b':Nat} {cs cs':Array Value} {T T':TypeId} (h:Blk w b cs T) (h':Blk w b' cs' T') (hT:T ≠ T'):b ≠ b':=by
 intro hb; subst hb
 unfold Blk at h h'
 rw [h] at h'
 exact hT (by cases h'; rfl)
end
theorem madeCells_rep (z:Value) (s:Nat) (hs:0 < s) (n:Nat):madeCells (Array.replicate s z) n = Array.replicate n z:=by
 apply Array.ext
 ·simp [madeCells]
 ·intro i h1 h2
  have:i % s < s:=Nat.mod_lt _ hs
  simp [madeCells,this]
section
variable {P:Program} {n:Nat} {Q:Exit->Env->World->Prop} {e:Env} {w:World} {ops:Array Oper} {rest:List Oper}
variable {d:Nat} {ty:TypeId} {ps:String} {af:Array Edge} {T E:TypeId} {x y z:Operand}
theorem L.make {m s bytes:Nat} {zv z0:Value} (hx:ev e x = .int .i64 (m:Int)) (hy:ev e y = .int .i64 (m:Int)) (hT:P.underlying T = some (.slice E)) (hi:(P.info? E).map (fun i=>(i.zero,i.size,i.bytes)) = some (some zv,s,bytes)) (hz:zv.cells = Array.replicate s z0) (hs:0 < s)
  (hm:m <= 9223372036854775807) (hb:m * bytes <= 281474976710656) (k:∀ w1 b,Fresh w w1 b (Array.replicate (m * s) z0) E->L P n ops Q rest (upd e d (.slice (some ⟨b,0,none⟩) m m)) w1) :
  L P n ops Q (⟨some d,.makeSlice T x y,ty,ps,af,none⟩ :: rest) e w:=by
 refine L.va ?_ (k _ _ (fresh_alloc w _ E))
 obtain ⟨i,hi'⟩:∃ i,P.info? E = some i:=by cases hh:P.info? E with | none=>rw [hh] at hi; cases hi | some i=>exact ⟨i,rfl⟩
 rw [hi'] at hi
 simp only [Option.map_some,Option.some.injEq,Prod.mk.injEq] at hi
 obtain ⟨h1,rfl,rfl⟩:=hi
 have hr:=run_make (P:=P) w T E i zv hT hi' h1 .i64 .i64 (m:Int) (m:Int) (by omega) (Int.le_refl _) (by
  have:((m * i.bytes:Nat):Int) <= 281474976710656:=by omega
  rw [Int.natCast_mul,Int.mul_comm] at this; exact this) (by omega)
 rw [hz,madeCells_rep _ _ hs] at hr
 simp only [Int.toNat_natCast] at hr
 simp only [execOp,hx,hy,Sem.run_bind,hr,Result.andThen_ok,Sem.run_pure]
theorem fill_one (vs:List Value):∀ (k:Nat) (cs:Array Value),cs.size = k + vs.length->(vs.zipIdx k).foldl (fun cs (cj:Value × Nat)=>cs.setIfInBounds (0 + cj.2) cj.1) cs = (cs.toList.take k ++ vs).toArray:=by
 induction vs with
 | nil =>
  intro k cs h
  have h':cs.size = k:=by simpa using h
  rw [List.append_nil,List.take_of_length_le (by simp [h'])]
  simp
 | cons v vs ih =>
  intro k cs h
  simp only [List.zipIdx_cons,List.foldl_cons,Nat.zero_add]
  have:=ih (k + 1) (cs.setIfInBounds k v) (by simp [h]; omega)
  simp only [Nat.zero_add] at this
  rw [this]
  congr 1
  have hk:k < cs.size:=by simp at h; omega
  rw [Array.toList_setIfInBounds,List.take_succ_eq_append_getElem (by simpa using hk)]
  simp [List.take_set_of_le]
theorem L.build1 {s:Nat} {v:Value} {cs:Array Value} (hx:ev e x = v) (hcs:v.cells = cs) (hT:P.underlying T = some (.slice E)) (hs:(P.info? E).map (·.size) = some s) (hl:cs.size = s) (hz:∃ zv,(P.info? E).bind (·.zero) = some zv) (hlt:0 < s/\s <= 16777216)
  (k:∀ w1 b,Fresh w w1 b cs E->L P n ops Q rest (upd e d (.slice (some ⟨b,0,none⟩) 1 1)) w1) :
  L P n ops Q (⟨some d,.buildSlice T 1 #[(0,x)],ty,ps,af,none⟩ :: rest) e w:=by
 refine L.va ?_ (k _ _ (fresh_alloc w _ E))
 obtain ⟨zv,hz⟩:=hz
 have hlt':¬ (1 * s > 2 ^ 24):=by omega
 have hsz:v.cells.size = s:=by rw [hcs,hl]
 have hf:=fun cs0:Array Value=>fun h:cs0.size = s=>fill_one v.cells.toList 0 cs0 (by simp [h,hsz])
 simp only [execOp,Instr.buildSlice,List.map_toArray,List.map_cons,List.map_nil,hx,run_underlying hT,run_sizeOf hs,Sem.run_bind,Result.andThen_ok,hlt',if_false,Sem.run_pure]
 have h0:¬ 1 * s = 0:=by omega
 ·simp only [h0,if_false,Sem.run_bind,run_zeroValue hz,Result.andThen_ok,Sem.run_pure,Instr.fill,Nat.zero_mul,hsz,ne_eq,not_true_eq_false,decide_false,Bool.false_or]
  have h3:=hf ((Array.range (1 * s)).map (fun i=>zv.cells[i % zv.cells.size]!)) (by simp)
  simp only [List.take_zero,List.nil_append] at h3
  have h4:¬ (0 + s > (Array.map (fun x=>zv.cells[x % zv.cells.size]!) (Array.range (1 * s))).size):=by simp
  rw [<- Array.foldl_toList,Array.toList_zipIdx]
  rw [h3]
  simp [newRow,hcs]
theorem L.build0 {s:Nat} (hT:P.underlying T = some (.slice E)) (hs:(P.info? E).map (·.size) = some s) (k:∀ w1 b,Fresh w w1 b #[] E->L P n ops Q rest (upd e d (.slice (some ⟨b,0,none⟩) 0 0)) w1) :
  L P n ops Q (⟨some d,.buildSlice T 0 #[],ty,ps,af,none⟩ :: rest) e w:=by
 refine L.va ?_ (k _ _ (fresh_alloc w _ E))
 simp [execOp,Instr.buildSlice,run_underlying hT,run_sizeOf hs,Instr.fill,newRow,Array.range_zero']
theorem L.append {B s bytes m c':Nat} {a:Option Addr} {k c:Nat} {xs news:List Value} {zv:Value} {ad:Addr} (hx:ev e x = .slice a k c) (hy:ev e y = .slice (some ad) m c') (hT:P.underlying T = some (.slice E))
  (hi:(P.info? E).map (fun i=>(i.zero,i.size,i.bytes)) = some (some zv,s,bytes)) (hz:zv.cells.size = s) (hs:0 < s) (hown:Own w B E s a k c xs)
  (hl:news.length = m * s) (hnews:∀ (j:Nat) u,news[j]? = some u->w.cell? (ad.add j) = some u) (h1:∀ u ∈ news,u.oneCell' = true) (hmax:k + m <= 9223372036854775807) (hb:(k + m) * bytes <= 140737488355328) (hB:B <= w.heap.size)
  (h:∀ a' c2 w',Own w' B E s a' (k + m) c2 (xs ++ news)->w.grownBy w' (Value.ownBlock (.slice a k c))->Below B w w'->(a' = none ↔ a = none/\m = 0)->L P n ops Q rest (upd e d (.slice a' (k + m) c2)) w') :
  L P n ops Q (⟨some d,.call ⟨.builtin .append,#[x,y],#[T,T]⟩,ty,ps,af,none⟩ :: rest) e w:=by
 obtain ⟨i,hi'⟩:∃ i,P.info? E = some i:=by cases hh:P.info? E with | none=>rw [hh] at hi; cases hi | some i=>exact ⟨i,rfl⟩
 rw [hi'] at hi
 simp only [Option.map_some,Option.some.injEq,Prod.mk.injEq] at hi
 obtain ⟨g1,g2,g3⟩:=hi
 obtain ⟨v',w',hr,h2,h3,h4⟩:=run_append_own (P:=P) w B T ty E i zv s bytes hT hi' g1 g2 g3 hz hs (.slice a k c) k xs hown ad m c' news hl hnews h1 (by simpa [maxLen] using hmax) hb hB
 obtain ⟨a',c2,rfl⟩:∃ a' c2,v' = .slice a' (k + m) c2:=by
  rcases h2.2 with ⟨hv,h0⟩ | ⟨g,cap,cur,hv,_⟩
  ·exact ⟨none,0,by rw [hv,h0]⟩
  ·exact ⟨_,_,hv⟩
 have hbel:Below B w w':=(Below.refl B w).grown h3 hB (fun r hr=>by
  cases a with
  | none=>cases hr
  | some q =>
   simp only [Value.ownBlock,Option.some.injEq] at hr
   subst hr
   exact (hown.row (by simp)).choose_spec.2.1)
 have hnone:a' = none ↔ a = none/\m = 0:=by
  constructor
  ·intro hn
   subst hn
   rcases h2.2 with ⟨hv,h0⟩ | ⟨g,cap,cur,hv,_⟩
   ·have:=h4.1 hv
    exact ⟨by have:=this.1; simp at this; exact this.1,this.2⟩
   ·cases hv
  ·rintro ⟨rfl,rfl⟩
   have hk0:k = 0/\c = 0:=by
    rcases hown.2 with ⟨hv,h0⟩ | ⟨g,cap,cur,hv,_⟩
    ·cases hv; exact ⟨rfl,rfl⟩
    ·cases hv
   obtain ⟨rfl,rfl⟩:=hk0
   have:=h4.2 ⟨rfl,rfl⟩
   simp at this; exact this.1
 refine L.va ?_ (h a' c2 w' h2 h3 hbel hnone)
 simp only [execOp,resolve,invoke,builtin,Sem.run_bind,Sem.run_pure,Result.andThen_ok,List.map_toArray,List.map_cons,List.map_nil,hx,hy,hr]
end
section
variable {P:Program} {n:Nat} {Q:Exit->Env->World->Prop} {e:Env} {w:World} {ops:Array Oper} {rest:List Oper}
variable {d:Nat} {ty:TypeId} {ps:String} {af:Array Edge} {T E:TypeId} {x y z:Operand}
theorem L.appendAny {B s bytes m c':Nat} {a src:Option Addr} {k c:Nat} {xs news:List Value} {zv:Value} (hx:ev e x = .slice a k c) (hy:ev e y = .slice src m c') (hT:P.underlying T = some (.slice E))
  (hi:(P.info? E).map (fun i=>(i.zero,i.size,i.bytes)) = some (some zv,s,bytes)) (hz:zv.cells.size = s) (hs:0 < s) (hown:Own w B E s a k c xs) (hsrc:src = none->m = 0/\c' = 0)
  (hl:news.length = m * s) (hnews:∀ ad,src = some ad->∀ (j:Nat) u,news[j]? = some u->w.cell? (ad.add j) = some u) (h1:∀ u ∈ news,u.oneCell' = true) (hmax:k + m <= 9223372036854775807) (hb:(k + m) * bytes <= 140737488355328) (hB:B <= w.heap.size)
  (h:∀ a' c2 w',Own w' B E s a' (k + m) c2 (xs ++ news)->w.grownBy w' (Value.ownBlock (.slice a k c))->Below B w w'->(a' = none ↔ a = none/\m = 0)->L P n ops Q rest (upd e d (.slice a' (k + m) c2)) w') :
  L P n ops Q (⟨some d,.call ⟨.builtin .append,#[x,y],#[T,T]⟩,ty,ps,af,none⟩ :: rest) e w:=by
 cases src with
 | some ad=>exact L.append hx hy hT hi hz hs hown hl (hnews ad rfl) h1 hmax hb hB h
 | none =>
  obtain ⟨rfl,rfl⟩:=hsrc rfl
  obtain ⟨i,hi'⟩:∃ i,P.info? E = some i:=by cases hh:P.info? E with | none=>rw [hh] at hi; cases hi | some i=>exact ⟨i,rfl⟩
  have hr:=run_append_owned_none (P:=P) (w:=w) B T ty E i s hT hi' (.slice a k c) k xs hown
  have hn:news = []:=List.eq_nil_of_length_eq_zero (by omega)
  subst hn
  refine L.va (v:=.slice a (k + 0) c) (w':=w) ?_ (h a c w (by simpa using hown) ⟨rfl,rfl,rfl,Nat.le_refl _,fun _ _ _=>rfl⟩ (Below.refl _ _) (by simp))
  simp only [execOp,resolve,invoke,builtin,Sem.run_bind,Sem.run_pure,Result.andThen_ok,List.map_toArray,List.map_cons,List.map_nil,hx,hy,hr]
  rfl
end
section
variable {P:Program} {ρ:Operand->Value} {w:World} {d:Option Nat} {ty:TypeId} {ps:String} {af:Array Edge} {g:Option (Nat × Bool)} {x y:Operand} {T E:TypeId}
theorem x_sliceTo {a:Option Addr} {n c k s:Nat} (hx:ρ x = .slice a n c) (hy:ρ y = .int .i64 (k:Int)) (hT:P.underlying T = some (.slice E)) (hs:(P.info? E).map (·.size) = some s) (hk:k <= c) :
  (execOp ρ ⟨d,.slice T x none (some y) none,ty,ps,af,g⟩).run P w = .ok (.value (.slice a k c)) w:=by
 have h0:∀ q:Addr,q.add 0 = q:=fun q=>by simp [Addr.add]
 have h1:a.map (fun q=>q.add 0) = a:=by cases a <;> simp [h0]
 have h2:(0:Int) <= (k:Int)/\(k:Int) <= (c:Int):=by omega
 simp [execOp,Instr.sliceAt,Instr.slice,Instr.sliceBounds,Instr.sliceBound,hx,hy,asIntOf,run_underlying hT,run_sizeOf hs,h2,hk]
 intro _; exact h1
theorem x_build {parts:List (Nat × Operand)} {vs:List (Nat × Value)} {cells:Array Value} (hv:parts.map (fun (i,y)=>(i,ρ y)) = vs) (hb:P.built T vs = some cells) :
  (execOp ρ ⟨d,.build T parts.toArray,ty,ps,af,g⟩).run P w = .ok (.value (.agg cells)) w:=by
 subst hv
 have:=run_build (P:=P) w T (parts.map (fun (i,y)=>(i,ρ y))).toArray cells (by simpa using hb)
 simp only [execOp,List.map_toArray,Sem.run_bind,this,Result.andThen_ok,Sem.run_pure]
end
end Go.Vc
end
/- Rows that are functions of the index; drawn regions that end in one store; results that lie in a cell; whole arrays compared. -/
section
namespace Go.Vc
open Go Go.RowKit
theorem setRow_get (o:Nat):∀ (vs:List Value) (cs:Array Value) (j:Nat),o + vs.length <= cs.size->(setRow cs o vs)[j]? = if o <= j/\j < o + vs.length then vs[j - o]? else cs[j]?:=by
 intro vs
 induction vs generalizing o with
 | nil=>intro cs j h; rw [if_neg (by simp only [List.length_nil]; omega)]; rfl
 | cons v vs ih =>
  intro cs j h
  simp only [List.length_cons] at h
  show (setRow (cs.setIfInBounds o v) (o + 1) vs)[j]? = _
  rw [ih (o + 1) _ j (by simp; omega)]
  by_cases hj:j = o
  ·subst hj
   rw [if_neg (by omega),if_pos (by simp only [List.length_cons]; omega),Nat.sub_self,Array.getElem?_setIfInBounds_self_of_lt (by omega)]
   rfl
  ·by_cases hj2:o + 1 <= j/\j < o + 1 + vs.length
   ·rw [if_pos hj2,if_pos (by simp only [List.length_cons]; omega),show j - o = (j - (o + 1)) + 1 by omega,List.getElem?_cons_succ]
   ·rw [if_neg hj2,if_neg (by simp only [List.length_cons]; omega),Array.getElem?_setIfInBounds_ne (by omega)]
section
variable {P:Program} {T:TypeId} {ρ:Operand->Value} {w:World} {d:Option Nat} {ty:TypeId} {ps:String} {af:Array Edge} {g:Option (Nat × Bool)} {x y:Operand}
end
def befores (l:List Oper):Nat->List Nat->List Nat
 | 0,S=>S
 | k + 1,S=>match l[k]? with
  | some o=>if S.contains k then befores l k (S ++ (o.after.toList.filter (fun x=>Region.binds .any x)).map (·.on)) else befores l k S
  | none=>befores l k S
theorem befores_done {l:List Oper} {V:(Nat->Bool)->Prop} (hV:∀ D,V D->∀ i o,l[i]? = some o->D i = true->depsOn o D) {D:Nat->Bool} (hD:V D) :
  ∀ k S,(∀ i ∈ S,D i = true)->∀ i ∈ befores l k S,D i = true
 | 0,S,hS,i,hi=>hS i hi
 | k + 1,S,hS,i,hi=>by
  unfold befores at hi
  cases ho:l[k]? with
  | none=>rw [ho] at hi; exact befores_done hV hD k S hS i hi
  | some o =>
   rw [ho] at hi
   simp only at hi
   split at hi
   ·rename_i hk
    refine befores_done hV hD k _ (fun j hj=>?_) i hi
    rw [List.mem_append] at hj
    rcases hj with hj | hj
    ·exact hS j hj
    ·obtain ⟨x,hx,rfl⟩:=List.mem_map.1 hj
     rw [List.mem_filter] at hx
     exact hV D hD k o ho (hS k (by simpa using hk)) x (by simpa using hx.1) hx.2
   ·exact befores_done hV hD k S hS i hi
section
variable {w0 w w':World} {h:Nat}
theorem gr_refl (w:World) (r:Option Nat):w.grownBy w r:=⟨rfl,rfl,rfl,Nat.le_refl _,fun _ _ _=>rfl⟩
theorem gr_set {r:Option Nat} (hg:w0.grownBy w r) {b:Nat} (hb:some b = r\/w0.heap.size <= b) (cs:Array Value) (T:TypeId):w0.grownBy (setBlk w b cs T) r :=
 ⟨hg.os,hg.tape,hg.output,by rw [setBlk_size]; exact hg.size,fun k hk hr=>by
  rw [setBlk_other _ _ (by rintro rfl; rcases hb with hb | hb; exact hr hb; omega)]
  exact hg.block k hk hr⟩
theorem below_gr {B b:Nat} (hg:Below B w0 w) (hs:B <= w.heap.size) (hb:w.grownBy w' (some b)) (hB:B <= b):Below B w0 w' :=
 ⟨hb.os.trans hg.os,hb.tape.trans hg.tape,hb.output.trans hg.output,Nat.le_trans hg.size hb.size,fun k hk=>(hb.block k (by omega) (by simp; omega)).trans (hg.block k hk)⟩
end
section
variable {P:Program} {T:TypeId} {ρ:Operand->Value} {w:World} {d:Option Nat} {ty:TypeId} {ps:String} {af:Array Edge} {g:Option (Nat × Bool)} {x y:Operand}
theorem x_nilCheck {p:Addr} (hx:ρ x = .pointer (some p)):(execOp ρ ⟨d,.nilCheck x,ty,ps,af,g⟩).run P w = .ok (.value (.pointer (some p))) w:=by
 simp [execOp,hx]
theorem x_idxArr {E T:TypeId} {b o n s i:Nat} (hx:ρ x = .pointer (some ⟨b,o,none⟩)) (hy:ρ y = .int .i64 (i:Int)) (hT:P.underlying T = some (.array n E)) (hs:(P.info? E).map (·.size) = some s) (h:i < n) :
  (execOp ρ ⟨d,.indexAddr T x y,ty,ps,af,g⟩).run P w = .ok (.value (.pointer (some ⟨b,o + i * s,none⟩))) w :=
 x_indexArr hx hy hT hs (by omega) (by omega)
theorem x_eqPtrNil {q:Option Addr} {E T':TypeId} (hx:ρ x = .pointer q) (hy:ρ y = .pointer none) (hT:P.underlying T = some (.pointer E)) :
  (execOp ρ ⟨d,.binOp .eql T x y T',ty,ps,af,g⟩).run P w = .ok (.value (.bool q.isNone)) w:=by
 have h1:(Op.equalIn 10000 T (.pointer q) (.pointer none)).run P w = .ok q.isNone w:=by
  rw [show (10000:Nat) = 9999 + 1 from rfl,Op.equalIn]
  cases q <;> simp [run_underlying hT]
 have h2:(eqGuard .eql T x y (.pointer q) (.pointer none)).run P w = .ok () w:=by cases q <;> simp [eqGuard]
 have h3:(binOp .eql T (.pointer q) (.pointer none)).run P w = .ok (.bool q.isNone) w:=by
  simp only [binOp,Op.equal,Op.maxDepth,Sem.run_bind,h1,Result.andThen_ok,Sem.run_pure]
 simp only [execOp,hx,hy,Sem.run_bind,h2,h3,Result.andThen_ok,Sem.run_pure]
end
theorem setRow_all {cs:Array Value} {vs:List Value} (h:cs.size = vs.length):setRow cs 0 vs = vs.toArray:=by
 apply Array.ext_getElem?
 intro j
 rw [setRow_get _ _ _ _ (by omega)]
 by_cases hj:j < vs.length
 ·rw [if_pos (by omega)]; simp
 ·rw [if_neg (by omega),Array.getElem?_eq_none (by omega)]; simp; omega
section
variable {P:Program} {n:Nat} {ops:Array Oper} {Q:Exit->Env->World->Prop} {rest:List Oper} {e:Env} {w:World} {ty:TypeId} {ps:String} {af:Array Edge} {x y:Operand} {T:TypeId}
end
end Go.Vc
end
/- Where an append lays its slice. -/
section
namespace Go.Vc
open Go Go.RowKit
section
variable {P:Program} {n:Nat} {Q:Exit->Env->World->Prop} {e:Env} {w:World} {ops:Array Oper} {rest:List Oper}
variable {d:Nat} {ty:TypeId} {ps:String} {af:Array Edge} {T E:TypeId} {x y z:Operand}
theorem L.appendF {B s bytes m c':Nat} {b k c:Nat} {xs news:List Value} {zv:Value} {ad:Addr} (hx:ev e x = .slice (some ⟨b,0,none⟩) k c) (hy:ev e y = .slice (some ad) m c') (hT:P.underlying T = some (.slice E))
  (hi:(P.info? E).map (fun i=>(i.zero,i.size,i.bytes)) = some (some zv,s,bytes)) (hz:zv.cells.size = s) (hs:0 < s) (hown:Own w B E s (some ⟨b,0,none⟩) k c xs)
  (hl:news.length = m * s) (hnews:∀ (j:Nat) u,news[j]? = some u->w.cell? (ad.add j) = some u) (h1:∀ u ∈ news,u.oneCell' = true) (hmax:k + m <= 9223372036854775807) (hb:(k + m) * bytes <= 140737488355328) (hB:B <= w.heap.size)
  (h:∀ b' c2 w',Own w' B E s (some ⟨b',0,none⟩) (k + m) c2 (xs ++ news)->w.grownBy w' (some b)->((b' = b/\c2 = c)\/(b' = w.heap.size/\Below w.heap.size w w'))->L P n ops Q rest (upd e d (.slice (some ⟨b',0,none⟩) (k + m) c2)) w') :
  L P n ops Q (⟨some d,.call ⟨.builtin .append,#[x,y],#[T,T]⟩,ty,ps,af,none⟩ :: rest) e w:=by
 obtain ⟨i,hi'⟩:∃ i,P.info? E = some i:=by cases hh:P.info? E with | none=>rw [hh] at hi; cases hi | some i=>exact ⟨i,rfl⟩
 rw [hi'] at hi
 simp only [Option.map_some,Option.some.injEq,Prod.mk.injEq] at hi
 obtain ⟨g1,g2,g3⟩:=hi
 obtain ⟨v',w',hr,h2,h3,h4⟩:=run_append_own (P:=P) w B T ty E i zv s bytes hT hi' g1 g2 g3 hz hs (.slice (some ⟨b,0,none⟩) k c) k xs hown ad m c' news hl hnews h1 (by simpa [maxLen] using hmax) hb hB
 have hv:∃ b' c2,v' = .slice (some ⟨b',0,none⟩) (k + m) c2/\((b' = b/\c2 = c)\/(b' = w.heap.size/\Below w.heap.size w w')):=by
  rcases hown.2 with ⟨hv0,_⟩ | ⟨g,cap,cur,hv0,hbg,hg,hnc,hcm,hcs,htake⟩
  ·cases hv0
  ·cases hv0
   by_cases hroom:k + m <= c
   ·have hfit:k * i.size + news.length <= cur.size:=by rw [hl,hcs,g2,<- Nat.add_mul]; exact Nat.mul_le_mul_right _ hroom
    have:=run_append_room (P:=P) w T ty E i hT hi' b k c cur hg ad m c' news (by rw [g2]; exact hl) hnews h1 hroom hfit
    rw [hr] at this
    cases this
    exact ⟨_,_,rfl,.inl ⟨rfl,rfl⟩⟩
   ·have holds:∀ j u,xs[j]? = some u->w.cell? ((⟨b,0,none⟩:Addr).add j) = some u:=hown.cells (g:=b) rfl
    have:=run_append_grow (P:=P) w T ty E i zv hT hi' g1 ⟨b,0,none⟩ k c xs (by rw [g2]; exact hown.1) holds ad m c' news (by rw [g2]; exact hl) hnews (by omega) (by omega) (growslice_fits (by omega) (by rw [g3]; exact hb))
    rw [hr] at this
    cases this
    exact ⟨_,_,rfl,.inr ⟨rfl,(Below.refl _ _).drew.alloc (Nat.le_refl _) _⟩⟩
 obtain ⟨b',c2,rfl,hbb⟩:=hv
 refine L.va ?_ (h b' c2 w' h2 h3 hbb)
 simp only [execOp,resolve,invoke,builtin,Sem.run_bind,Sem.run_pure,Result.andThen_ok,List.map_toArray,List.map_cons,List.map_nil,hx,hy,hr]
end
end Go.Vc
end
/- Drawn regions whose last operation does as it likes; more operations: pointers of either kind, atomic pointers, slices of three bounds, copy, function values, structs compared. -/
section
namespace Go.Vc
open Go Go.RowKit
section
variable {P:Program} {ops:Array Oper} {V:(Nat->Bool)->Prop} {J:(Nat->Bool)->World->Prop} {n:Nat}
theorem lin_suffix (h:Ord n ops):∀ {listed:Array Bool} {σ:List Nat},Lin ops listed σ->∀ (m:Nat),m <= ops.size->listed.size = ops.size->(∀ j,j < m->listed.getD j false = true)->(∀ j,m <= j->listed.getD j false = false) ->
  (∀ D,V D->∀ i,m <= i->i < ops.size->D i = true->∀ j,j < i->D j = true)->(∀ τ ρ,σ = τ ++ ρ->V (fun j=>listed.getD j false || τ.contains j))->σ = List.range' m (ops.size - m):=by
 intro listed σ hlin
 induction hlin with
 | @nil listed hr =>
  intro m hms hs h1 h2 _ _
  have:ops.size <= m:=by
   rcases Nat.lt_or_ge m ops.size with h3 | h3
   ·have:=ready_all h hs hr m h3
    rw [h2 m (Nat.le_refl _)] at this; cases this
   ·exact h3
  rw [show ops.size - m = 0 by omega]; rfl
 | @cons listed i σ hi hl ih =>
  intro m hms hs h1 h2 hall hV
  obtain ⟨hli,o,ho,hdep⟩:=mem_ready.1 hi
  have hio:i < ops.size:=(Array.getElem?_eq_some_iff.1 ho).1
  have hil:i < listed.size:=by omega
  have hDi:listed.getD i false = false:=by
   simp only [Array.getD_eq_getD_getElem?,hil,Array.getElem?_eq_getElem,Option.getD_some] at hli ⊢; exact hli
  have hmi:m <= i:=by
   rcases Nat.lt_or_ge i m with h3 | h3
   ·rw [h1 i h3] at hDi; cases hDi
   ·exact h3
  have hVi:=hV [i] σ rfl
  have him:i = m:=by
   rcases Nat.lt_or_ge m i with h3 | h3
   ·have:=hall _ hVi i hmi hio (by simp) m h3
    simp only [h2 m (Nat.le_refl _),Bool.false_or] at this
    simp at this; omega
   ·omega
  subst him
  rw [show ops.size - i = (ops.size - (i + 1)) + 1 by omega,List.range'_succ]
  congr 1
  refine ih (i + 1) (by omega) (by simp [hs]) (fun j hj=>?_) (fun j hj=>?_) (fun D hD j hj=>hall D hD j (by omega)) (fun τ ρ hσ=>?_)
  ·by_cases hji:i = j
   ·subst hji; simp [hil]
   ·rw [getD_set_ne false hji]; exact h1 j (by omega)
  ·rw [getD_set_ne false (by omega)]; exact h2 j (by omega)
  ·have:=hV (i :: τ) ρ (by rw [hσ]; rfl)
   have e1:(fun j=>listed.getD j false || (i :: τ).contains j) = fun j=>(listed.setIfInBounds i true).getD j false || τ.contains j:=by
    funext j
    by_cases hj:i = j
    ·subst hj; simp [hil]
    ·rw [getD_set_ne false hj]
     simp [Ne.symm hj]
   rw [e1] at this; exact this
theorem wpOps_JL (h:Ord n ops) {e0:Env} {vals:Nat->Value} {k:Nat} (hk:k < ops.size) (hloc:∀ i o,i < k->ops[i]? = some o->Loc P ops V J i o (EE e0 ops.toList vals i) (vals i))
  (hall:∀ D,V D->∀ i,k <= i->i < ops.size->D i = true->∀ j,j < i->D j = true)
  {Q:Exit->Act->World->Prop} (hQ:∀ a w D,Rep n a (EE e0 ops.toList vals k)->(∀ i,i < k->D i = true)->J D w->wpOps P ops Q (List.range' k (ops.size - k)) a w) :
  ∀ {listed:Array Bool} {σ:List Nat},Lin ops listed σ->(∀ τ ρ,σ = τ ++ ρ->V (fun j=>listed.getD j false || τ.contains j)) ->
   ∀ (a:Act) (e:Env) (w:World),listed.size = ops.size->(∀ j,k <= j->listed.getD j false = false)->Rep n a e->Mid ops e0 vals listed e->J (fun j=>listed.getD j false) w->wpOps P ops Q σ a w:=by
 intro listed σ hlin
 induction hlin with
 | @nil listed hr =>
  intro _ a e w hs hkf ha hm hJ
  have:=ready_all h hs hr k (by omega)
  rw [hkf k (Nat.le_refl _)] at this; cases this
 | @cons listed i σ hi hl ih =>
  intro hV a e w hs hkf ha hm hJ
  have hi0:=hi
  obtain ⟨h1,o,ho,hdep⟩:=mem_ready.1 hi
  have hio:i < ops.size:=(Array.getElem?_eq_some_iff.1 ho).1
  have hil:i < listed.size:=by omega
  have hDi:(fun j=>listed.getD j false) i = false:=by
   show listed.getD i false = false
   simp only [Array.getD_eq_getD_getElem?,hil,Array.getElem?_eq_getElem,Option.getD_some] at h1 ⊢; exact h1
  have hVD:V (fun j=>listed.getD j false):=by
   have:=hV [] (i :: σ) rfl
   have e1:(fun j=>listed.getD j false || ([]:List Nat).contains j) = fun j=>listed.getD j false:=funext fun j=>by simp
   rw [e1] at this; exact this
  have hVD:V (fun j=>listed.getD j false)/\V (setD (fun j=>listed.getD j false) i):=by
   refine ⟨hVD,?_⟩
   have:=hV [i] σ rfl
   have e1:(fun j=>listed.getD j false || ([i]:List Nat).contains j) = setD (fun j=>listed.getD j false) i:=funext fun j=>by
    unfold setD
    by_cases hj:j = i
    ·simp [hj]
    ·simp [hj]
   rw [e1] at this; exact this
  by_cases hik:k <= i
  ·have hothers:∀ j,j < i->listed.getD j false = true:=fun j hj=>by
    have:=hall _ hVD.2 i hik hio (by simp [setD]) j hj
    unfold setD at this
    rw [if_neg (by omega)] at this
    exact this
   have hki:i = k:=by
    rcases Nat.lt_or_ge k i with h3 | h3
    ·have:=hothers k h3; rw [hkf k (Nat.le_refl _)] at this; cases this
    ·omega
   subst hki
   have hσ:=lin_suffix (V:=V) h (.cons hi0 hl) i (by omega) hs hothers (fun j hj=>hkf j hj) hall hV
   rw [hσ]
   have he:e = EE e0 ops.toList vals i:=by
    funext t
    have hlz:∀ j:Nat,ops.toList[j]? = ops[j]?:=fun j=>by rw [Array.getElem?_toList]
    by_cases hex:∃ (j:Nat) (p:Oper),j < i/\ops[j]? = some p/\p.dst = some t
    ·obtain ⟨j,p,hj,hp,hd⟩:=hex
     rw [hm.hit j p t hp hd (hothers j hj)]
     exact (EE_hit e0 ops.toList vals t j p (by rw [hlz]; exact hp) hd (fun i' p' hp' hd'=>h.one i' j p' p t (by rw [<- hlz]; exact hp') hp hd' hd) _ hj).symm
    ·rw [hm.miss t (fun j p hp hd=>by
      rcases Nat.lt_or_ge j i with h3 | h3
      ·exact absurd ⟨j,p,h3,hp,hd⟩ hex
      ·exact hkf j h3)]
     exact (EE_miss e0 ops.toList vals t _ (fun j p hj hp hd=>hex ⟨j,p,hj,by rw [<- hlz]; exact hp,hd⟩)).symm
   subst he
   exact hQ a w _ ha hothers hJ
  ·have hlk:=looks_eq h hm ho hdep
   have hex:=execOp_looks (h.sel i o ho) hlk
   have hwa:=wanted_looks hlk
   have hV':∀ τ ρ,σ = τ ++ ρ->V (fun j=>(listed.setIfInBounds i true).getD j false || τ.contains j):=by
    intro τ ρ hσ
    have:=hV (i :: τ) ρ (by rw [hσ]; rfl)
    have e1:(fun j=>listed.getD j false || (i :: τ).contains j) = fun j=>(listed.setIfInBounds i true).getD j false || τ.contains j:=by
     funext j
     by_cases hj:i = j
     ·subst hj; simp [hil]
     ·rw [getD_set_ne false hj]
      simp [Ne.symm hj]
    rw [e1] at this; exact this
   have next:∀ w',J (setD (fun j=>listed.getD j false) i) w'->wpOps P ops Q σ (a.put o.dst (vals i)) w':=by
    intro w' hJ'
    refine ih hV' _ _ w' (by simp [hs]) (fun j hj=>by rw [getD_set_ne false (by omega)]; exact hkf j hj) (ha.put (h.dst i o ho) (vals i)) (hm.step h ho hil) ?_
    rw [setD_eq hil]; exact hJ'
   rw [wpOps_cons]
   unfold wpOp
   simp only [ho]
   rw [wanted_rep ha,hwa]
   rcases hloc i o (by omega) ho with ⟨hw,hl⟩ | ⟨hw,hv,hl⟩
   ·rw [if_pos hw]
    refine .inl ?_
    have hl':=hl (fun j=>listed.getD j false) w hDi hVD hdep hJ
    unfold Oper.wp
    rw [ha.eval,hex]
    generalize (execOp (ev (EE e0 ops.toList vals i)) o).run P w = r at hl'
    cases r with
    | ok x w' =>
     cases x <;> simp only [LocRun] at hl' <;> simp only [Oper.upon]
     case value u=>rw [hl'.1]; exact next w' hl'.2
     case skip=>rw [<- hl'.1]; exact next w' hl'.2
     case enter f args =>
      refine Calls.mono hl' fun x w'' hx=>?_
      cases x with
      | returned u=>rw [hx.1]; exact next w'' hx.2
      | panicked ch=>exact hx.elim
      | outgrown=>exact hx.elim
    | halt x w'=>simp only [LocRun] at hl'
   ·rw [if_neg (by rw [hw]; simp)]
    rw [<- hv]
    exact next w (hl (fun j=>listed.getD j false) w hDi hVD hdep hJ)
def sufB (l:List Oper) (k:Nat):Bool:=(List.range l.length).all fun i=>Nat.blt i k || (List.range i).all fun j=>(befores l l.length [i]).contains j
theorem sufB_all {l:List Oper} {k:Nat} (h:sufB l k = true) {V:(Nat->Bool)->Prop} (hV:∀ D,V D->∀ i o,l[i]? = some o->D i = true->depsOn o D) {D:Nat->Bool} (hD:V D):∀ i,k <= i->i < l.length->D i = true->∀ j,j < i->D j = true:=by
 intro i hki hil hDi j hj
 unfold sufB at h
 have h1:=List.all_eq_true.1 h i (List.mem_range.2 hil)
 have h2:Nat.blt i k = false:=by
  cases hb:Nat.blt i k with
  | false=>rfl
  | true=>rw [Nat.blt_eq] at hb; omega
 rw [h2,Bool.false_or] at h1
 have h3:=List.all_eq_true.1 h1 j (List.mem_range.2 hj)
 exact befores_done hV hD l.length [i] (fun x hx=>by simp at hx; rw [hx]; exact hDi) j (List.contains_iff_mem.1 h3)
theorem W.drawsL {id:Nat} {l:List Oper} {Q:Exit->Env->World->Prop} {e:Env} {w:World} (k:Nat) (hm:P.follows .mixedOrders = true) (hB:ordB n l.toArray = true) (hA:sufB l k = true) (hk:Nat.blt k l.length = true)
  (h:∀ V:(Nat->Bool)->Prop,(∀ D D',V D->V D'->(∀ k,D k = true->D' k = true)\/(∀ k,D' k = true->D k = true))->(∀ D,V D->∀ i o,l[i]? = some o->D i = true->depsOn o D) ->
   ∃ J:(Nat->Bool)->World->Prop,J (fun _=>false) w.drew/\JL P l.toArray V J (fun e'=>∀ D w',(∀ i,i < k->D i = true)->J D w'->L P n l.toArray Q (l.drop k) e' w') 0 (l.take k) e):W P n (.region id l.toArray true) Q e w:=by
 intro a ha
 have ho:=ord_of hB
 have hkl:k < l.length:=by rw [Nat.blt_eq] at hk; exact hk
 refine wp_region_draw fun t=>?_
 simp only [Region.schedule,hm,Bool.true_or,if_true]
 have hlin:=lin_go l.toArray l.toArray.size t (Array.replicate l.toArray.size false) (by simp) (by simp)
 unfold Region.linearise
 generalize Region.linearise.go .any l.toArray l.toArray.size t (Array.replicate l.toArray.size false) [] = σ at hlin ⊢
 have hclosed:=lin_closed hlin (fun i o _ hi=>by rw [getD_replicate_false'] at hi; cases hi) (by simp)
 have hdeps:∀ D,Pre σ D->∀ i o,l[i]? = some o->D i = true->depsOn o D:=by
  rintro D ⟨τ,ρ,hσ,hD⟩ i o hi hDi x hx hb
  have:=hclosed τ ρ hσ i o (by simpa using hi) (.inr ((hD i).1 hDi)) x hx hb
  rcases this with h1 | h1
  ·rw [getD_replicate_false'] at h1; cases h1
  ·exact (hD _).2 h1
 obtain ⟨J,hJ,hjl⟩:=h (Pre σ) (fun D D' h1 h2=>h1.chain h2) hdeps
 obtain ⟨vals,h1,h2⟩:=JL.collect (l.take k) 0 e hjl
 have hEE:∀ j,j <= k->EE e (l.take k) vals j = EE e l vals j:=by
  intro j
  induction j with
  | zero=>intro _; rfl
  | succ j ih =>
   intro hj
   simp only [EE,ih (by omega)]
   rw [List.getElem?_take_of_lt (by omega)]
 have hlt:(l.take k).length = k:=by simp; omega
 refine wpOps_JL (V:=Pre σ) (J:=J) ho (e0:=e) (vals:=vals) (k:=k) (by simpa using hkl) (fun i o' hi ho'=>?_) (fun D hD i hki hil=>sufB_all hA hdeps hD i hki (by simpa using hil)) (fun a' w' D ha' hD hJ'=>?_) hlin ?_ a e _ (by simp) (fun j _=>getD_replicate_false' _ _) ha ⟨fun j o t _ _ hl=>?_,fun t _=>rfl⟩ ?_
 ·have:=h1 i o' (by rw [List.getElem?_take_of_lt hi]; simpa using ho')
  rw [hEE i (by omega)] at this
  simpa using this
 ·rw [hlt,hEE k (Nat.le_refl _)] at h2
  have h3:=h2 D w' hD hJ'
  have h4:=h3 (fun o' ho'=>by
   obtain ⟨i,hi⟩:=List.mem_iff_getElem?.1 ho'
   rw [List.getElem?_drop] at hi
   exact ho.dst (k + i) o' (by simpa using hi)) a' (by simpa using ha')
  have h5:=wpOps_eq_wpList (P:=P) (ops:=l.toArray) (Q:=lift n Q) (l.drop k) k (fun j=>by rw [List.getElem?_drop]; simp)
  rw [List.length_drop] at h5
  have h6:l.toArray.size - k = l.length - k:=by simp
  rw [h6,h5]
  exact h4
 ·intro τ ρ hσ
  exact ⟨τ,ρ,hσ,fun k=>by show ((Array.replicate l.toArray.size false).getD k false || τ.contains k) = true ↔ _; rw [getD_replicate_false']; simp⟩
 ·rw [getD_replicate_false'] at hl; cases hl
 ·have:(fun k=>(Array.replicate l.toArray.size false).getD k false) = fun _=>false:=funext fun k=>getD_replicate_false' _ _
  rw [this]; exact hJ
theorem W.lastL {id:Nat} {l:List Oper} {Q:Exit->Env->World->Prop} {e:Env} {w:World} (k:Nat) (Cl:World->Prop) (hm:P.follows .mixedOrders = true) (hB:ordB n l.toArray = true) (hA:sufB l k = true) (hk:Nat.blt k l.length = true)
  (hC:Cl w.drew) (h:QL P l.toArray Cl (fun e'=>∀ w',Cl w'->L P n l.toArray Q (l.drop k) e' w') 0 (l.take k) e):W P n (.region id l.toArray true) Q e w:=by
 refine W.drawsL k hm hB hA hk fun V _ _=>⟨fun _=>Cl,hC,?_⟩
 have mono:∀ (l':List Oper) (i:Nat) (e:Env),JL P l.toArray V (fun _=>Cl) (fun e'=>∀ w',Cl w'->L P n l.toArray Q (l.drop k) e' w') i l' e->JL P l.toArray V (fun _=>Cl) (fun e'=>∀ (D:Nat->Bool) w',(∀ i,i < k->D i = true)->Cl w'->L P n l.toArray Q (l.drop k) e' w') i l' e:=by
  intro l'
  induction l' with
  | nil=>exact fun i e h _ w' _ hw=>h w' hw
  | cons o l' ih=>exact fun i e ⟨v,h1,h2⟩=>⟨v,h1,ih _ _ h2⟩
 exact mono _ 0 e (h V)
end
section
variable {P:Program} {ρ:Operand->Value} {w:World} {d:Option Nat} {ty:TypeId} {ps:String} {af:Array Edge} {g:Option (Nat × Bool)}
variable {x y z:Operand} {T T' E:TypeId}
theorem x_eqFnNil {v:Value} {b:Bool} {u:TypeDesc} (hx:ρ x = v) (hv:(v = .nilFunc/\b = true)\/(∃ f xs ys,v = .func f xs ys/\b = false)) (hy:ρ y = .nilFunc) (hT:P.underlying T = some u) (hu:∃ a b c,u = .func a b c) :
  (execOp ρ ⟨d,.binOp .eql T x y T',ty,ps,af,g⟩).run P w = .ok (.value (.bool b)) w:=by
 obtain ⟨a1,b1,c1,rfl⟩:=hu
 have h1:(Op.equalIn 10000 T v .nilFunc).run P w = .ok b w:=by
  rw [show (10000:Nat) = 9999 + 1 from rfl,Op.equalIn]
  rcases hv with ⟨rfl,rfl⟩ | ⟨f,xs,ys,rfl,rfl⟩ <;> simp [run_underlying hT]
 have h2:(eqGuard .eql T x y v .nilFunc).run P w = .ok () w:=by
  rcases hv with ⟨rfl,rfl⟩ | ⟨f,xs,ys,rfl,rfl⟩ <;> simp [eqGuard]
 simp only [execOp,hx,hy,Sem.run_bind,h2,binOp,Op.equal,Op.maxDepth,h1,Result.andThen_ok,Sem.run_pure]
theorem x_neqFnNil {v:Value} {b:Bool} {u:TypeDesc} (hx:ρ x = v) (hv:(v = .nilFunc/\b = false)\/(∃ f xs ys,v = .func f xs ys/\b = true)) (hy:ρ y = .nilFunc) (hT:P.underlying T = some u) (hu:∃ a b c,u = .func a b c) :
  (execOp ρ ⟨d,.binOp .neq T x y T',ty,ps,af,g⟩).run P w = .ok (.value (.bool b)) w:=by
 obtain ⟨a1,b1,c1,rfl⟩:=hu
 have h1:(Op.equalIn 10000 T v .nilFunc).run P w = .ok (!b) w:=by
  rw [show (10000:Nat) = 9999 + 1 from rfl,Op.equalIn]
  rcases hv with ⟨rfl,rfl⟩ | ⟨f,xs,ys,rfl,rfl⟩ <;> simp [run_underlying hT]
 have h2:(eqGuard .neq T x y v .nilFunc).run P w = .ok () w:=by
  rcases hv with ⟨rfl,rfl⟩ | ⟨f,xs,ys,rfl,rfl⟩ <;> simp [eqGuard]
 simp only [execOp,hx,hy,Sem.run_bind,h2,binOp,Op.equal,Op.maxDepth,h1,Result.andThen_ok,Sem.run_pure]
 cases b <;> rfl
theorem x_callV0 {f:FuncId} {fn:Func} {aT:Array TypeId} {ys:Array Value} (hx:ρ x = .func (.func f) #[] ys) (hf:P.funcs[f]? = some fn) (hb:fn.body.isSome = true) (hn:(fn.name == "runtime.NumGoroutine") = false) :
  (execOp ρ ⟨d,.call ⟨.value x,#[],aT⟩,ty,ps,af,g⟩).run P w = .ok (.enter f ys) w:=by
 rw [x_call hx rfl hf hb hn]
 simp
end
end Go.Vc
end
/- What a step may turn, told by the types of blocks; stores into blocks that are known whole. -/
section
namespace Go.Vc
open Go Go.RowKit
structure ModT (w w':World) (B:Nat) (TS:List TypeId):Prop where
 os:w'.os = w.os
 tape:w'.tape = w.tape
 output:w'.output = w.output
 size:w.heap.size <= w'.heap.size
 low:∀ k,k < B->w'.heap[k]? = w.heap[k]?
 stay:∀ k cs T,Blk w k cs T->TS.contains T = false->Blk w' k cs T
section
variable {w0 w w':World} {B:Nat} {TS TS':List TypeId}
theorem ModT.put {b:Nat} {cs:Array Value} {T:TypeId} (hB:Blk w b cs T) (hg:w.grownBy w' (some b)) (hb:B <= b) (hT:TS.contains T = true):ModT w w' B TS :=
 ⟨hg.os,hg.tape,hg.output,hg.size,fun k hk=>by
  rcases Nat.lt_or_ge k w.heap.size with h1 | h1
  ·exact hg.block k h1 (by simp; omega)
  ·have:=hB.lt; omega,fun k cs' T' h' hT'=>h'.grown hg (by
  intro hk
  simp only [Option.some.injEq] at hk
  subst hk
  have:T' = T:=by
   unfold Blk at hB h'
   rw [hB] at h'; cases h'; rfl
  subst this
  rw [hT] at hT'; cases hT')⟩
theorem Blk.mod {b:Nat} {cs:Array Value} {T:TypeId} (h:Blk w b cs T) (hm:ModT w w' B TS) (hT:TS.contains T = false):Blk w' b cs T:=hm.stay b cs T h hT
theorem Own.mod {B' s n c:Nat} {E:TypeId} {a:Option Addr} {xs:List Value} (h:Own w B' E s a n c xs) (hm:ModT w w' B TS) (hT:TS.contains E = false):Own w' B' E s a n c xs:=by
 refine ⟨h.1,?_⟩
 rcases h.2 with h1 | ⟨g,cap,cur,hv,hbg,hg,hr⟩
 ·exact .inl h1
 ·exact .inr ⟨g,cap,cur,hv,hbg,hm.stay g cur E hg hT,hr⟩
theorem ModT.app {B' s k c n' c':Nat} {E:TypeId} {a a':Option Addr} {xs xs':List Value} (h:Own w B' E s a k c xs) (hg:w.grownBy w' (Value.ownBlock (.slice a k c))) (hbel:Below B w w') (hT:TS.contains E = true) (_h':Own w' B' E s a' n' c' xs'):ModT w w' B TS:=by
 refine ⟨hg.os,hg.tape,hg.output,hg.size,hbel.block,fun j cs T hj hT'=>?_⟩
 refine hj.grown hg ?_
 cases a with
 | none=>simp [Value.ownBlock]
 | some q =>
  intro hjq
  simp only [Value.ownBlock,Option.some.injEq] at hjq
  obtain ⟨cur,hc,-⟩:=h.row (by simp)
  subst hjq
  have:T = E:=by
   unfold Blk at hj hc
   simp only [ab,Option.map_some,Option.getD_some] at hc
   rw [hj] at hc; cases hc; rfl
  subst this
  rw [hT] at hT'; cases hT'
end
theorem Blk.cellAt {w:World} {b:Nat} {cs:Array Value} {T:TypeId} (h:Blk w b cs T) (o:Nat) {v:Value} (hv:cs[o]? = some v):w.cell? ⟨b,o,none⟩ = some v:=h.cell hv
theorem Blk.aggAt {w:World} {b:Nat} {cs:Array Value} {T:TypeId} (h:Blk w b cs T) {o:Nat} {l:List Value} (hl:(cs.toList.drop o).take l.length = l):∀ (j:Nat) (v:Value),l[j]? = some v->w.cell? ⟨b,o + j,none⟩ = some v:=by
 intro j v hj
 refine h.cell ?_
 rw [<- hl] at hj
 rw [List.getElem?_take] at hj
 split at hj
 ·rw [List.getElem?_drop] at hj
  simpa using hj
 ·cases hj
section
variable {P:Program} {n:Nat} {ops:Array Oper} {Q:Exit->Env->World->Prop} {rest:List Oper} {e:Env} {w:World} {ty:TypeId} {ps:String} {af:Array Edge} {x y:Operand} {T:TypeId}
theorem L.put {b o s:Nat} {cs:Array Value} {vs:List Value} {E:TypeId} {v:Value} (cs':Array Value) (hx:ev e x = .pointer (some ⟨b,o,none⟩)) (hy:ev e y = v) (hvs:v.cells.toList = vs) (hs:(P.info? T).map (·.size) = some s) (hl:vs.length = s) (h1:vs.all Value.oneCell' = true) (hB:Blk w b cs E) (ho:o + s <= cs.size) (hcs:setRow cs o vs = cs')
  (k:∀ w1,Blk w1 b cs' E->w.grownBy w1 (some b)->w1.heap.size = w.heap.size->L P n ops Q rest e w1):L P n ops Q (⟨none,.store T x y,ty,ps,af,none⟩ :: rest) e w:=by
 have hvs':v.cells = vs.toArray:=by rw [<- hvs]
 refine L.storeAgg hx hy hvs' hs (by simpa using hl) (by simpa using h1) hB ho ?_
 rw [List.toList_toArray,hcs]
 exact k _ (setBlk_self _ _ _ hB) (gr_set (gr_refl _ _) (.inl rfl) _ _) (setBlk_size _ _ _ _)
end
theorem ends.cellTmp {P:Program} {fn:Func} {R:Value->World->Prop} {x:Exit} {e:Env} {w:World} {t u b:Nat} {cs:Array Value} {T E:TypeId} {d:TypeDesc} (hx:x = .normal\/x = .ret) (hr:fn.results = #[.cell t T,.tmp u])
  (he:e t = .pointer (some ⟨b,0,Option.none⟩)) (hT:P.underlying T = some d) (hu:flatB d = false) (hs:(P.info? T).map (·.size) = some cs.size) (hB:Blk w b cs E) (h:R (.tuple #[.agg cs,e u]) w):ends P fn R x e w :=
 ⟨hx,_,fun tmps ht=>by
  have h1:(loadVar T ⟨b,0,Option.none⟩).run P w = .ok (.agg cs) w:=by
   have h2:∀ j v,cs.toList[j]? = some v->w.cell? ((⟨b,0,Option.none⟩:Addr).add j) = some v:=fun j v hj=>by
    rw [Addr.add_lit,Nat.zero_add]; exact hB.cell (by simpa using hj)
   have:=run_loadCells_list (P:=P) (w:=w) ⟨b,0,Option.none⟩ cs.toList h2
   simp only [Array.length_toList] at this
   simp [loadVar,run_isAgg hT,hu,run_sizeOf hs,this]
  have h3:tmps.getD t undef = .pointer (some ⟨b,0,Option.none⟩):=by rw [ht,he]
  rw [results_cell_tmp hr,h3]
  simp [asAddr,h1,ht],h⟩
end Go.Vc
namespace Go.Vc
open Go Go.RowKit
theorem ModT.put0 {w w':World} {b:Nat} {cs:Array Value} {T:TypeId} (hB:Blk w b cs T) (hg:w.grownBy w' (some b)):ModT w w' 0 [T]:=ModT.put hB hg (Nat.zero_le _) (by simp)
theorem Blk.other {w w':World} {b k:Nat} {cs:Array Value} {T:TypeId} (h:Blk w k cs T) (hg:w.grownBy w' (some b)) (hk:k ≠ b):Blk w' k cs T:=h.grown hg (by simpa using hk)
theorem Fresh.ne {w w1:World} {b k:Nat} {cs cs':Array Value} {T T':TypeId} (F:Fresh w w1 b cs T) (h:Blk w k cs' T'):k ≠ b:=by have:=h.lt; have:=F.here; omega
end Go.Vc
namespace Go.Vc
open Go Go.RowKit
theorem x_makeFuncL {P:Program} {ρ:Operand->Value} {w:World} {d:Option Nat} {ty:TypeId} {ps:String} {af:Array Edge} {g:Option (Nat × Bool)} {fn:Fn} {l:List Operand} {vs:List Value} (h:l.map ρ = vs) :
  (execOp ρ ⟨d,.makeFunc fn #[] l.toArray,ty,ps,af,g⟩).run P w = .ok (.value (.func fn #[] vs.toArray)) w:=by
 subst h
 have:(execOp ρ ⟨d,.makeFunc fn #[] l.toArray,ty,ps,af,g⟩).run P w = .ok (.value (.func fn (#[].map ρ) (l.toArray.map ρ))) w:=rfl
 rw [this]; simp
end Go.Vc
namespace Go.Vc
open Go Go.RowKit
section
variable {P:Program} {ρ:Operand->Value} {w:World} {d:Option Nat} {ty:TypeId} {ps:String} {af:Array Edge} {g:Option (Nat × Bool)} {x y:Operand} {T T':TypeId}
end
end Go.Vc
end
/- Drawn regions with a chain of effects in their midst; make with room, copy, append in place. -/
section
namespace Go.Vc
open Go Go.RowKit
section
variable {P:Program} {ops:Array Oper} {l0:List Oper} {Es:List Nat} {ws:Nat->World} {Q:Env->Prop} {i:Nat} {e:Env} {rest:List Oper} {v:Value}
variable {d:Nat} {op:Op} {ty:TypeId} {ps:String} {af:Array Edge} {dst:Option Nat} {j:Nat} {want:Bool}
end
section
variable {P:Program} {n:Nat} {Q:Exit->Env->World->Prop} {e:Env} {w:World} {ops:Array Oper} {rest:List Oper}
variable {d:Nat} {ty:TypeId} {ps:String} {af:Array Edge} {T E:TypeId} {x y z:Operand}
end
section
variable {P:Program} {n:Nat} {Q:Exit->Env->World->Prop} {e:Env} {w:World} {ops:Array Oper} {rest:List Oper}
variable {d:Nat} {ty:TypeId} {ps:String} {af:Array Edge} {T E:TypeId} {x y z:Operand}
end
section
variable {P:Program} {ρ:Operand->Value} {w:World} {d:Option Nat} {ty:TypeId} {ps:String} {af:Array Edge} {g:Option (Nat × Bool)} {x y:Operand} {T E:TypeId}
theorem x_build1 {v zv:Value} (hx:ρ x = v) (h1:v.oneCell' = true) (hT:P.underlying T = some (.slice E)) (hs:(P.info? E).map (·.size) = some 1) (hz:(P.info? E).bind (·.zero) = some zv) (hzc:zv.cells.size = 1) :
  (execOp ρ ⟨d,.buildSlice T 1 #[(0,x)],ty,ps,af,g⟩).run P w = .ok (.value (.slice (some ⟨w.heap.size,0,none⟩) 1 1)) (w.alloc (.cells #[v] E)):=by
 have hv:v.cells = #[v]:=by cases v <;> first | rfl | (simp [Value.oneCell'] at h1)
 have h2:((Array.map (fun x=>zv.cells[x % 1]!) (Array.range 1)).setIfInBounds 0 v) = #[v]:=by
  apply Array.ext
  ·simp
  ·intro j h3 h4
   have:j = 0:=by simp at h4; omega
   subst this; simp
 simp [execOp,Instr.buildSlice,hx,run_underlying hT,run_sizeOf hs,run_zeroValue hz,Instr.fill,hv,newRow,hzc,h2]
end
end Go.Vc
namespace Go.Vc
open Go Go.RowKit
end Go.Vc
namespace Go.Vc
open Go Go.RowKit
theorem Own.otherB {w w':World} {B s n c b:Nat} {E:TypeId} {a:Option Addr} {xs:List Value} (h:Own w B E s a n c xs) (hg:w.grownBy w' (some b)) (hne:a ≠ none->ab a ≠ b):Own w' B E s a n c xs:=by
 cases a with
 | none=>exact World.ownsRow.kept h hg (.inl rfl)
 | some q=>exact h.grown hg (by have:=hne (by simp); simpa using this)
end Go.Vc
end
/- Drawn regions of several parts that work beside one another, each on slots and types of its own. -/
section
namespace Go.Vc
open Go Go.RowKit
def backB (n:Nat) (ops:Array Oper):Bool:=(List.range ops.size).all fun i=>match ops[i]? with
 | none=>false
 | some o=>dstB n o.dst && o.after.all fun x=>!Region.binds .any x || Nat.blt x.on i
structure Bk (n:Nat) (ops:Array Oper):Prop where
 dst:∀ (i:Nat) (o:Oper),ops[i]? = some o->dstB n o.dst = true
 back:∀ (i:Nat) (o:Oper),ops[i]? = some o->∀ x ∈ o.after,Region.binds .any x = true->x.on < i
theorem bk_of {n:Nat} {ops:Array Oper} (h:backB n ops = true):Bk n ops:=by
 have key:∀ (i:Nat) (o:Oper),ops[i]? = some o->dstB n o.dst = true/\(o.after.all fun x=>!Region.binds .any x || Nat.blt x.on i) = true:=by
  intro i o ho
  have h1:=List.all_eq_true.1 h i (List.mem_range.2 (Array.getElem?_eq_some_iff.1 ho).1)
  rw [ho] at h1
  simpa only [Bool.and_eq_true] using h1
 refine ⟨fun i o ho=>(key i o ho).1,fun i o ho x hx hb=>?_⟩
 have:=(key i o ho).2
 rw [Array.all_eq_true'] at this
 have:=this x hx
 simp only [hb,Bool.not_true,Bool.false_or,Nat.blt_eq] at this
 exact this
theorem ready_all2 {n:Nat} {ops:Array Oper} {listed:Array Bool} (h:Bk n ops) (hs:listed.size = ops.size) (hr:Region.ready .any ops listed = []):∀ i,i < ops.size->listed.getD i false = true:=by
 intro i
 induction i using Nat.strongRecOn with
 | _ i ih =>
  intro hi
  cases hl:listed.getD i false with
  | true=>rfl
  | false =>
   exfalso
   have hi':i < listed.size:=by omega
   have hmem:i ∈ Region.ready .any ops listed:=by
    refine mem_ready.2 ⟨?_,ops[i],by simp [hi],fun x hx hb=>?_⟩
    ·simp only [Array.getD_eq_getD_getElem?,hi',Array.getElem?_eq_getElem,Option.getD_some] at hl ⊢; exact hl
    ·have hlt:=h.back i ops[i] (by simp [hi]) x hx hb
     exact ih x.on hlt (by omega)
   rw [hr] at hmem; cases hmem
section
variable {P:Program} {ops:Array Oper} {n:Nat} {I:(Nat->Bool)->Env->World->Prop}
def StepI (P:Program) (ops:Array Oper) (I:(Nat->Bool)->Env->World->Prop) (i:Nat) (o:Oper) (D:Nat->Bool) (e:Env) (w:World):Prop :=
 (Region.wanted o (yieldE ops e) = true/\match (execOp (ev e) o).run P w with
  | .ok (.value v) w'=>I (setD D i) (updO e o.dst v) w'
  | .ok .skip w'=>I (setD D i) (updO e o.dst undef) w'
  | .ok (.enter f args) w'=>C P f args w' (fun v w''=>I (setD D i) (updO e o.dst v) w'')
  | _=>False) \/
 (Region.wanted o (yieldE ops e) = false/\I (setD D i) (updO e o.dst undef) w)
theorem wpOps_I (h:Bk n ops) (hstep:∀ i o,ops[i]? = some o->∀ D e w,D i = false->depsOn o D->(∀ j o',ops[j]? = some o'->D j = true->depsOn o' D)->I D e w->StepI P ops I i o D e w)
  {Q:Exit->Act->World->Prop} (hQ:∀ a w D e,Rep n a e->(∀ i,i < ops.size->D i = true)->I D e w->Q .normal a w) :
  ∀ {listed:Array Bool} {σ:List Nat},Lin ops listed σ->∀ (a:Act) (e:Env) (w:World),listed.size = ops.size->Rep n a e->(∀ j o',ops[j]? = some o'->listed.getD j false = true->depsOn o' (fun k=>listed.getD k false))->I (fun k=>listed.getD k false) e w->wpOps P ops Q σ a w:=by
 intro listed σ hlin
 induction hlin with
 | @nil listed hr =>
  intro a e w hs ha _ hI
  exact hQ a w _ e ha (ready_all2 h hs hr) hI
 | @cons listed i σ hi _ ih =>
  intro a e w hs ha hcl hI
  obtain ⟨h1,o,ho,hdep⟩:=mem_ready.1 hi
  have hio:i < ops.size:=(Array.getElem?_eq_some_iff.1 ho).1
  have hil:i < listed.size:=by omega
  have hDi:(fun k=>listed.getD k false) i = false:=by
   show listed.getD i false = false
   simp only [Array.getD_eq_getD_getElem?,hil,Array.getElem?_eq_getElem,Option.getD_some] at h1 ⊢; exact h1
  have hs':=hstep i o ho (fun k=>listed.getD k false) e w hDi hdep hcl hI
  have hcl':∀ j o',ops[j]? = some o'->(listed.setIfInBounds i true).getD j false = true->depsOn o' (fun k=>(listed.setIfInBounds i true).getD k false):=by
   intro j o' ho' hj x hx hb
   by_cases hij:i = j
   ·subst hij
    obtain rfl:o' = o:=Option.some.inj (ho'.symm.trans ho)
    exact getD_set_true (hdep x hx hb)
   ·rw [getD_set_ne false hij] at hj
    exact getD_set_true (hcl j o' ho' hj x hx hb)
  have next:∀ v w',I (setD (fun k=>listed.getD k false) i) (updO e o.dst v) w'->wpOps P ops Q σ (a.put o.dst v) w':=fun v w' hI' =>
   ih _ _ w' (by simp [hs]) (ha.put (h.dst i o ho) v) hcl' (by rw [setD_eq hil]; exact hI')
  rw [wpOps_cons]
  unfold wpOp
  simp only [ho]
  rw [wanted_rep ha]
  rcases hs' with ⟨hw,hr⟩ | ⟨hw,hr⟩
  ·rw [if_pos hw]
   refine .inl ?_
   unfold Oper.wp
   rw [ha.eval]
   generalize (execOp (ev e) o).run P w = r at hr
   cases r with
   | ok x w' =>
    cases x <;> simp only at hr <;> simp only [Oper.upon]
    case value u=>exact next u w' hr
    case skip=>exact next undef w' hr
    case enter f args =>
     refine Calls.mono hr fun x w'' hx=>?_
     cases x with
     | returned u=>exact next u w'' hx
     | panicked ch=>exact hx.elim
     | outgrown=>exact hx.elim
   | halt x w'=>simp only at hr
  ·rw [if_neg (by rw [hw]; simp)]
   exact next undef w hr
theorem W.inv {id:Nat} {l:List Oper} {Q:Exit->Env->World->Prop} {e:Env} {w:World} (I:(Nat->Bool)->Env->World->Prop) (hm:P.follows .mixedOrders = true) (hB:backB n l.toArray = true) (h0:I (fun _=>false) e w.drew)
  (hstep:∀ i o,l[i]? = some o->∀ D e w,D i = false->depsOn o D->(∀ j o',l[j]? = some o'->D j = true->depsOn o' D)->I D e w->StepI P l.toArray I i o D e w)
  (hfin:∀ D e w,(∀ i,i < l.length->D i = true)->I D e w->Q .normal e w):W P n (.region id l.toArray true) Q e w:=by
 intro a ha
 have ho:=bk_of hB
 refine wp_region_draw fun t=>?_
 simp only [Region.schedule,hm,Bool.true_or,if_true]
 have hlin:=lin_go l.toArray l.toArray.size t (Array.replicate l.toArray.size false) (by simp) (by simp)
 unfold Region.linearise
 generalize Region.linearise.go .any l.toArray l.toArray.size t (Array.replicate l.toArray.size false) [] = σ at hlin ⊢
 refine wpOps_I (I:=I) ho (fun i o hi D e w h1 h2 h3 h4=>hstep i o (by simpa using hi) D e w h1 h2 (fun j o' hj=>h3 j o' (by simpa using hj)) h4) (fun a' w' D e' ha' hD hI=>⟨e',ha',hfin D e' w' (fun i hi=>hD i (by simpa using hi)) hI⟩) hlin a e _ (by simp) ha (fun j o' _ hj=>?_) ?_
 ·rw [getD_replicate_false'] at hj; cases hj
 ·have:(fun k=>(Array.replicate l.toArray.size false).getD k false) = fun _=>false:=funext fun k=>getD_replicate_false' _ _
  rw [this]; exact h0
end
end Go.Vc
end
/- Interface values: a value is made one, and a method of its type is called. -/
section
namespace Go.Vc
open Go
section
variable {P:Program} {ρ:Operand->Value} {w:World} {d:Option Nat} {ty:TypeId} {ps:String} {af:Array Edge} {g:Option (Nat × Bool)}
theorem x_makeIface {S:TypeId} {x:Operand} {v:Value} {td:TypeDesc} (hx:ρ x = v) (hT:P.underlying S = some td) (hn:(match td with | .interface _=>false | _=>true) = true) :
  (execOp ρ ⟨d,.makeInterface S x,ty,ps,af,g⟩).run P w = .ok (.value (.iface S v)) w:=by
 subst hx
 simp only [execOp,Instr.makeInterface,Sem.run_bind,run_underlying hT,Result.andThen_ok]
 cases td <;> first | rfl | cases hn
end
end Go.Vc
end
/- Drawn regions: the operations that only look are carried out where they stand, the others one behind the other. A loop that is gone through a few times. -/
section
namespace Go.Vc
open Go Go.RowKit
def FL (P:Program) (n:Nat) (l0:List Oper) (K:World->Prop) (ch:Nat->Bool) (Q:Env->World->Prop):List Nat->Env->World->Prop
 | [],e,w=>Q e w
 | i :: rest,e,w=>∃ o,l0[i]? = some o/\if ch i = true then L P n l0.toArray (fun x e' w'=>x = .normal/\K w'/\FL P n l0 K ch Q rest e' w') [o] e w
  else ∃ v,((Region.wanted o (yieldE l0.toArray e) = true/\∀ w',K w'->(execOp (ev e) o).run P w' = .ok (.value v) w')\/(Region.wanted o (yieldE l0.toArray e) = false/\v = undef))/\FL P n l0 K ch Q rest (updO e o.dst v) w
section
variable {P:Program} {n:Nat} {l0:List Oper} {K:World->Prop} {ch:Nat->Bool} {Q:Env->World->Prop} {rest:List Nat} {e:Env} {w:World} {d:Nat} {op:Op} {ty:TypeId} {ps:String} {af:Array Edge} {v:Value} {i j:Nat} {want:Bool} {o:Oper}
theorem F.nil (h:Q e w):FL P n l0 K ch Q [] e w:=h
theorem F.va (hl:l0[i]? = some ⟨some d,op,ty,ps,af,none⟩) (hc:ch i = false) (hr:∀ w',K w'->(execOp (ev e) ⟨some d,op,ty,ps,af,none⟩).run P w' = .ok (.value v) w') (k:FL P n l0 K ch Q rest (upd e d v) w):FL P n l0 K ch Q (i :: rest) e w :=
 ⟨_,hl,by rw [if_neg (by simp [hc])]; exact ⟨v,.inl ⟨rfl,hr⟩,k⟩⟩
theorem F.on (hl:l0[i]? = some ⟨some d,op,ty,ps,af,some (j,want)⟩) (hc:ch i = false) (hw:yieldE l0.toArray e j = some want) (hr:∀ w',K w'->(execOp (ev e) ⟨some d,op,ty,ps,af,some (j,want)⟩).run P w' = .ok (.value v) w') (k:FL P n l0 K ch Q rest (upd e d v) w):FL P n l0 K ch Q (i :: rest) e w :=
 ⟨_,hl,by rw [if_neg (by simp [hc])]; exact ⟨v,.inl ⟨by simp [Region.wanted,hw],hr⟩,k⟩⟩
theorem F.off (hl:l0[i]? = some o) (hc:ch i = false) (hw:Region.wanted o (yieldE l0.toArray e) = false) (k:FL P n l0 K ch Q rest (updO e o.dst undef) w):FL P n l0 K ch Q (i :: rest) e w :=
 ⟨_,hl,by rw [if_neg (by simp [hc])]; exact ⟨undef,.inr ⟨hw,rfl⟩,k⟩⟩
theorem F.doo (hl:l0[i]? = some o) (hc:ch i = true) (h:L P n l0.toArray (fun x e' w'=>x = .normal/\K w'/\FL P n l0 K ch Q rest e' w') [o] e w):FL P n l0 K ch Q (i :: rest) e w :=
 ⟨_,hl,by rw [if_pos hc]; exact h⟩
end
def ordOk (l0:List Oper) (k:Nat) (ch:Nat->Bool) (os:List Nat) (pr:List (Nat × Nat):=[]):Bool :=
 (List.range k).all (fun i=>os.contains i) && (os.all fun i=>Nat.blt i k) &&
 (List.range os.length).all fun b=>match os[b]? with
  | none=>false
  | some y=>(match l0[y]? with | none=>false | some o=>o.after.all fun x=>!Region.binds .any x || (os.take b).contains x.on) &&
   (List.range b).all fun a=>match os[a]? with | none=>false | some x=>x != y && (!ch x || (befores l0 l0.length [y]).contains x || pr.any fun p=>p.1 == x && (p.2 == y || (befores l0 l0.length [y]).contains p.2))
structure OrdOk (l0:List Oper) (k:Nat) (ch:Nat->Bool) (os:List Nat) (V:(Nat->Bool)->Prop):Prop where
 all:∀ i,i < k->i ∈ os
 lt:∀ i ∈ os,i < k
 topo:∀ pre y suf,os = pre ++ y :: suf->∃ o,l0[y]? = some o/\∀ x ∈ o.after,Region.binds .any x = true->x.on ∈ pre
 nodup:∀ pre y suf,os = pre ++ y :: suf->y ∉ pre
 wait:∀ pre x mid y suf,os = pre ++ x :: mid ++ y :: suf->ch x = true->∀ D,V D->D y = true->D x = true
theorem ordOk_of {l0:List Oper} {k:Nat} {ch:Nat->Bool} {os:List Nat} {pr:List (Nat × Nat)} {V:(Nat->Bool)->Prop} (hdeps:∀ D,V D->∀ i o,l0[i]? = some o->D i = true->depsOn o D) (hpr:∀ p ∈ pr,∀ D,V D->D p.2 = true->D p.1 = true) (h:ordOk l0 k ch os pr = true):OrdOk l0 k ch os V:=by
 unfold ordOk at h
 simp only [Bool.and_eq_true] at h
 obtain ⟨⟨h1,h2⟩,h3⟩:=h
 have key:∀ (b y:Nat),os[b]? = some y->(∃ o,l0[y]? = some o/\∀ x ∈ o.after,Region.binds .any x = true->x.on ∈ os.take b)/\∀ a x,a < b->os[a]? = some x->x ≠ y/\(ch x = true->(befores l0 l0.length [y]).contains x = true\/∃ p ∈ pr,p.1 = x/\(p.2 = y\/(befores l0 l0.length [y]).contains p.2 = true)):=by
  intro b y hy
  have h4:=List.all_eq_true.1 h3 b (List.mem_range.2 (List.getElem?_eq_some_iff.1 hy).1)
  rw [hy] at h4
  simp only [Bool.and_eq_true] at h4
  obtain ⟨h5,h6⟩:=h4
  constructor
  ·cases ho:l0[y]? with
   | none=>rw [ho] at h5; cases h5
   | some o =>
    rw [ho] at h5
    refine ⟨o,rfl,fun x hx hb=>?_⟩
    simp only [Array.all_eq_true'] at h5
    have:=h5 x hx
    rw [hb,Bool.not_true,Bool.false_or] at this
    exact List.contains_iff_mem.1 this
  ·intro a x hab hx
   have h7:=List.all_eq_true.1 h6 a (List.mem_range.2 hab)
   rw [hx] at h7
   simp only [Bool.and_eq_true,bne_iff_ne,ne_eq,Bool.or_eq_true,Bool.not_eq_true'] at h7
   refine ⟨h7.1,fun hc=>?_⟩
   rcases h7.2 with (h8 | h8) | h8
   ·rw [hc] at h8; cases h8
   ·exact .inl h8
   ·rw [List.any_eq_true] at h8
    obtain ⟨p,hp,h9⟩:=h8
    simp only [Bool.and_eq_true,beq_iff_eq,Bool.or_eq_true] at h9
    exact .inr ⟨p,hp,h9.1,h9.2⟩
 refine ⟨fun i hi=>List.contains_iff_mem.1 (List.all_eq_true.1 h1 i (List.mem_range.2 hi)),fun i hi=>by have:=List.all_eq_true.1 h2 i hi; rwa [Nat.blt_eq] at this,?_,?_,?_⟩
 ·intro pre y suf he
  have hy:os[pre.length]? = some y:=by rw [he]; simp
  obtain ⟨o,ho,h4⟩:=(key _ _ hy).1
  exact ⟨o,ho,fun x hx hb=>by have:=h4 x hx hb; rw [he] at this; simpa using this⟩
 ·intro pre y suf he hin
  have hy:os[pre.length]? = some y:=by rw [he]; simp
  obtain ⟨a,ha⟩:=List.mem_iff_getElem?.1 hin
  have hal:=(List.getElem?_eq_some_iff.1 ha).1
  have hx:os[a]? = some y:=by rw [he,List.getElem?_append_left hal]; exact ha
  exact ((key _ _ hy).2 a y hal hx).1 rfl
 ·intro pre x mid y suf he hc
  have hy:os[(pre ++ x :: mid).length]? = some y:=by rw [he,List.getElem?_append_right (Nat.le_refl _)]; simp
  have hx:os[pre.length]? = some x:=by rw [he]; simp
  intro D hD hDy
  have hbd:∀ z,(befores l0 l0.length [y]).contains z = true->D z = true:=fun z hz=>befores_done hdeps hD l0.length [y] (fun q hq=>by simp at hq; rw [hq]; exact hDy) z (List.contains_iff_mem.1 hz)
  rcases ((key _ _ hy).2 pre.length x (by simp) hx).2 hc with h9 | ⟨p,hp,rfl,h9⟩
  ·exact hbd x h9
  ·refine hpr p hp D hD ?_
   rcases h9 with h9 | h9
   ·rw [h9]; exact hDy
   ·exact hbd _ h9
def ordKB (n:Nat) (ops:Array Oper) (k:Nat):Bool :=
 (List.range ops.size).all fun i =>
  match ops[i]? with
  | none=>false
  | some o =>
   dstB n o.dst && (o.after.all fun x=>!Region.binds .any x || Nat.blt x.on i) &&
   (Nat.ble k i || (!(match o.op with | .select ..=>true | _=>false) &&
   (List.range k).all fun j =>
    match ops[j]? with
    | none=>true
    | some p =>
     match p.dst with
     | none=>true
     | some t=>(i == j || o.dst != some t) && (!(o.looksAt ops).contains t || o.after.any fun x=>Region.binds .any x && x.on == j)))
structure OrdK (n:Nat) (ops:Array Oper) (k:Nat):Prop where
 dst:∀ (i:Nat) (o:Oper),ops[i]? = some o->dstB n o.dst = true
 sel:∀ (i:Nat) (o:Oper),i < k->ops[i]? = some o->∀ cs b,o.op ≠ .select cs b
 back:∀ (i:Nat) (o:Oper),ops[i]? = some o->∀ x ∈ o.after,Region.binds .any x = true->x.on < i
 one:∀ (i j:Nat) (o p:Oper) (t:Nat),i < k->j < k->ops[i]? = some o->ops[j]? = some p->o.dst = some t->p.dst = some t->i = j
 look:∀ (i j:Nat) (o p:Oper) (t:Nat),i < k->j < k->ops[i]? = some o->ops[j]? = some p->p.dst = some t->t ∈ o.looksAt ops->∃ x ∈ o.after,Region.binds .any x = true/\x.on = j
theorem OrdK.bk {n:Nat} {ops:Array Oper} {k:Nat} (h:OrdK n ops k):Bk n ops:=⟨h.dst,h.back⟩
theorem ordK_of {n:Nat} {ops:Array Oper} {k:Nat} (h:ordKB n ops k = true):OrdK n ops k:=by
 unfold ordKB at h
 have lt:∀ {i:Nat} {o:Oper},ops[i]? = some o->i < ops.size:=fun h=>(Array.getElem?_eq_some_iff.1 h).1
 have key:∀ (i:Nat) (o:Oper),ops[i]? = some o->(dstB n o.dst = true/\(o.after.all fun x=>!Region.binds .any x || Nat.blt x.on i) = true)/\(i < k->(!(match o.op with | .select ..=>true | _=>false)) = true /\
   ∀ (j:Nat) (p:Oper) (t:Nat),j < k->ops[j]? = some p->p.dst = some t->(i == j || o.dst != some t) = true/\(!(o.looksAt ops).contains t || o.after.any fun x=>Region.binds .any x && x.on == j) = true):=by
  intro i o ho
  have h1:=List.all_eq_true.1 h i (List.mem_range.2 (lt ho))
  simp only [ho,Bool.and_eq_true] at h1
  refine ⟨h1.1,fun hik=>?_⟩
  have h2:=h1.2
  have h3:Nat.ble k i = false:=by
   cases hb:Nat.ble k i with
   | false=>rfl
   | true=>have:=Nat.le_of_ble_eq_true hb; omega
  rw [h3,Bool.false_or,Bool.and_eq_true] at h2
  refine ⟨h2.1,fun j p t hj hp ht=>?_⟩
  have h4:=List.all_eq_true.1 h2.2 j (List.mem_range.2 hj)
  simp only [hp,ht,Bool.and_eq_true] at h4
  exact h4
 refine ⟨fun i o ho=>(key i o ho).1.1,fun i o hi ho cs b he=>?_,fun i o ho x hx hb=>?_,fun i j o p t hi hj ho hp h1 h2=>?_,fun i j o p t hi hj ho hp ht hl=>?_⟩
 ·have:=((key i o ho).2 hi).1; rw [he] at this; cases this
 ·have:=(key i o ho).1.2
  rw [Array.all_eq_true'] at this
  have:=this x hx
  simp only [hb,Bool.not_true,Bool.false_or,Nat.blt_eq] at this
  exact this
 ·have:=(((key i o ho).2 hi).2 j p t hj hp h2).1
  simp only [h1,bne_self_eq_false,Bool.or_false,beq_iff_eq] at this
  exact this
 ·have:=(((key i o ho).2 hi).2 j p t hj hp ht).2
  have hc:(o.looksAt ops).contains t = true:=by simpa using hl
  rw [hc,Bool.not_true,Bool.false_or] at this
  obtain ⟨x,hx,hb⟩:=Array.any_eq_true'.1 this
  simp only [Bool.and_eq_true,beq_iff_eq] at hb
  exact ⟨x,hx,hb.1,hb.2⟩
theorem lin_suffix2 {n:Nat} {ops:Array Oper} {V:(Nat->Bool)->Prop} (h:Bk n ops):∀ {listed:Array Bool} {σ:List Nat},Lin ops listed σ->∀ (m:Nat),m <= ops.size->listed.size = ops.size->(∀ j,j < m->listed.getD j false = true)->(∀ j,m <= j->listed.getD j false = false) ->
  (∀ D,V D->∀ i,m <= i->i < ops.size->D i = true->∀ j,j < i->D j = true)->(∀ τ ρ,σ = τ ++ ρ->V (fun j=>listed.getD j false || τ.contains j))->σ = List.range' m (ops.size - m):=by
 intro listed σ hlin
 induction hlin with
 | @nil listed hr =>
  intro m hms hs h1 h2 _ _
  have:ops.size <= m:=by
   rcases Nat.lt_or_ge m ops.size with h3 | h3
   ·have:=ready_all2 h hs hr m h3
    rw [h2 m (Nat.le_refl _)] at this; cases this
   ·exact h3
  rw [show ops.size - m = 0 by omega]; rfl
 | @cons listed i σ hi hl ih =>
  intro m hms hs h1 h2 hall hV
  obtain ⟨hli,o,ho,hdep⟩:=mem_ready.1 hi
  have hio:i < ops.size:=(Array.getElem?_eq_some_iff.1 ho).1
  have hil:i < listed.size:=by omega
  have hDi:listed.getD i false = false:=by
   simp only [Array.getD_eq_getD_getElem?,hil,Array.getElem?_eq_getElem,Option.getD_some] at hli ⊢; exact hli
  have hmi:m <= i:=by
   rcases Nat.lt_or_ge i m with h3 | h3
   ·rw [h1 i h3] at hDi; cases hDi
   ·exact h3
  have hVi:=hV [i] σ rfl
  have him:i = m:=by
   rcases Nat.lt_or_ge m i with h3 | h3
   ·have:=hall _ hVi i hmi hio (by simp) m h3
    simp only [h2 m (Nat.le_refl _),Bool.false_or] at this
    simp at this; omega
   ·omega
  subst him
  rw [show ops.size - i = (ops.size - (i + 1)) + 1 by omega,List.range'_succ]
  congr 1
  refine ih (i + 1) (by omega) (by simp [hs]) (fun j hj=>?_) (fun j hj=>?_) (fun D hD j hj=>hall D hD j (by omega)) (fun τ ρ hσ=>?_)
  ·by_cases hji:i = j
   ·subst hji; simp [hil]
   ·rw [getD_set_ne false hji]; exact h1 j (by omega)
  ·rw [getD_set_ne false (by omega)]; exact h2 j (by omega)
  ·have:=hV (i :: τ) ρ (by rw [hσ]; rfl)
   have e1:(fun j=>listed.getD j false || (i :: τ).contains j) = fun j=>(listed.setIfInBounds i true).getD j false || τ.contains j:=by
    funext j
    by_cases hj:i = j
    ·subst hj; simp [hil]
    ·rw [getD_set_ne false hj]
     simp [Ne.symm hj]
   rw [e1] at this; exact this
structure FI (P:Program) (n:Nat) (l0:List Oper) (k:Nat) (K:World->Prop) (ch:Nat->Bool) (Q:Env->World->Prop) (os:List Nat) (e0:Env) (D:Nat->Bool) (pre suf:List Nat) (e es:Env) (w:World):Prop where
 cat:os = pre ++ suf
 fl:FL P n l0 K ch Q suf es w
 done:∀ x ∈ pre,ch x = true->D x = true
 sub:∀ j,j < k->D j = true->j ∈ pre
 kD:K w
 hit:∀ j o t,j < k->l0[j]? = some o->o.dst = some t->D j = true->e t = es t
 miss:∀ t,(∀ j o,j < k->l0[j]? = some o->o.dst = some t->D j = false)->e t = e0 t
 out:∀ t,(∀ j o,l0[j]? = some o->j ∈ pre->o.dst ≠ some t)->es t = e0 t
 wait:∀ j ∈ pre,D j = false->∃ o E v,l0[j]? = some o/\(∀ t ∈ o.looksAt l0.toArray,E t = es t)/\(∀ t,o.dst = some t->es t = v) /\
  ((Region.wanted o (yieldE l0.toArray E) = true/\∀ w',K w'->(execOp (ev E) o).run P w' = .ok (.value v) w')\/(Region.wanted o (yieldE l0.toArray E) = false/\v = undef))
 rep:∃ a,Rep n a es
section
variable {P:Program} {n:Nat} {l0:List Oper} {k:Nat} {K:World->Prop} {ch:Nat->Bool} {Q:Env->World->Prop} {os:List Nat} {e0:Env} {D:Nat->Bool} {V:(Nat->Bool)->Prop}
theorem FI.look (h:OrdK n l0.toArray k) (ho:OrdOk l0 k ch os V) {pre suf:List Nat} {i:Nat} {e es:Env} {w:World} (hI:FI P n l0 k K ch Q os e0 D pre (i :: suf) e es w) (hc:ch i = false):∃ es',FI P n l0 k K ch Q os e0 D (pre ++ [i]) suf e es' w:=by
 obtain ⟨o,hl,hf⟩:=hI.fl
 rw [if_neg (by simp [hc])] at hf
 obtain ⟨v,hv,hf⟩:=hf
 have hla:l0.toArray[i]? = some o:=by simpa using hl
 have hnot:D i = false:=by
  cases hD:D i with
  | false=>rfl
  | true=>exact absurd (hI.sub i (ho.lt i (by rw [hI.cat]; simp)) hD) (ho.nodup pre i suf hI.cat)
 have hdst:=h.dst i o hla
 have hik:i < k:=ho.lt i (by rw [hI.cat]; simp)
 have hpk:∀ j ∈ pre,j < k:=fun j hj=>ho.lt j (by rw [hI.cat]; exact List.mem_append_left _ hj)
 have hnew:∀ t,o.dst = some t->∀ j p,j < k->l0[j]? = some p->p.dst = some t->j = i:=fun t ht j p hj hp hpt=>h.one j i p o t hj hik (by simpa using hp) hla hpt ht
 refine ⟨updO es o.dst v,⟨by rw [hI.cat]; simp,hf,fun x hx hcx=>?_,fun j hj hD=>List.mem_append_left _ (hI.sub j hj hD),hI.kD,fun j p t hjk hp ht hD=>?_,hI.miss,fun t hno=>?_,fun j hj hD=>?_,?_⟩⟩
 ·rcases List.mem_append.1 hx with hx | hx
  ·exact hI.done x hx hcx
  ·simp at hx; subst hx; rw [hc] at hcx; cases hcx
 ·rw [hI.hit j p t hjk hp ht hD]
  cases hd:o.dst with
  | none=>rfl
  | some d =>
   have:t ≠ d:=fun hh=>by
    have:=hnew d hd j p hjk hp (by rw [ht,hh])
    subst this; rw [hnot] at hD; cases hD
   exact (upd_ne _ _ this).symm
 ·cases hd:o.dst with
  | none=>exact hI.out t (fun j p hp hj=>hno j p hp (List.mem_append_left _ hj))
  | some d =>
   have:t ≠ d:=fun hh=>hno i o hl (List.mem_append_right _ (by simp)) (by rw [hd,hh])
   show upd es d v t = e0 t
   rw [upd_ne _ _ this]; exact hI.out t (fun j p hp hj=>hno j p hp (List.mem_append_left _ hj))
 ·rcases List.mem_append.1 hj with hjp | hj
  ·obtain ⟨p,E,u,hp,hE,hu,hr⟩:=hI.wait j hjp hD
   have hne:∀ t,(t ∈ p.looksAt l0.toArray\/p.dst = some t)->updO es o.dst v t = es t:=by
    intro t ht
    cases hd:o.dst with
    | none=>rfl
    | some d =>
     refine upd_ne _ _ (fun hh=>?_)
     subst hh
     rcases ht with ht | ht
     ·obtain ⟨x,hx,hb,rfl⟩:=h.look j i p o t (hpk j hjp) hik (by simpa using hp) hla hd ht
      obtain ⟨q1,q2,hq⟩:=List.append_of_mem hjp
      obtain ⟨p',hp',htopo⟩:=ho.topo q1 j (q2 ++ x.on :: suf) (by rw [hI.cat,hq]; simp)
      obtain rfl:p' = p:=Option.some.inj (hp'.symm.trans hp)
      have hin:=htopo x hx hb
      exact ho.nodup pre x.on suf hI.cat (by rw [hq]; exact List.mem_append_left _ hin)
     ·have:=hnew t hd j p (hpk j hjp) hp ht
      subst this
      exact ho.nodup pre j suf hI.cat hjp
   exact ⟨p,E,u,hp,fun t ht=>(hE t ht).trans (hne t (.inl ht)).symm,fun t ht=>(hne t (.inr ht)).trans (hu t ht),hr⟩
  ·simp at hj; subst hj
   refine ⟨o,es,v,hl,fun t ht=>?_,fun t ht=>by rw [ht]; exact upd_same _ _ _,hv⟩
   cases hd:o.dst with
   | none=>rfl
   | some d =>
    have hdt:t ≠ d:=fun hh=>by
     subst hh
     obtain ⟨x,hx,hb,he⟩:=h.look j j o o t hik hik hla hla hd ht
     have:=h.back j o hla x hx hb
     omega
    exact (upd_ne es v hdt).symm
 ·obtain ⟨a,ha⟩:=hI.rep
  exact ⟨_,ha.put hdst v⟩
theorem FI.norm (h:OrdK n l0.toArray k) (ho:OrdOk l0 k ch os V):∀ (suf pre:List Nat) {e es:Env} {w:World},FI P n l0 k K ch Q os e0 D pre suf e es w->∃ pre' suf' es',FI P n l0 k K ch Q os e0 D pre' suf' e es' w/\(suf' = []\/∃ c r,suf' = c :: r/\ch c = true)
 | [],pre,_,es,_,hI=>⟨pre,[],es,hI,.inl rfl⟩
 | i :: suf,pre,_,es,_,hI=>by
  cases hc:ch i with
  | true=>exact ⟨pre,i :: suf,es,hI,.inr ⟨i,suf,rfl,hc⟩⟩
  | false =>
   obtain ⟨es',hI'⟩:=hI.look h ho hc
   exact FI.norm h ho suf _ hI'
theorem FI.looks (h:OrdK n l0.toArray k) {pre suf:List Nat} {e es:Env} {w:World} (ho:OrdOk l0 k ch os V) (hI:FI P n l0 k K ch Q os e0 D pre suf e es w) {i:Nat} (hik:i < k) {o:Oper} (hl:l0[i]? = some o) (hdep:depsOn o D):∀ t ∈ o.looksAt l0.toArray,e t = es t:=by
 intro t ht
 by_cases hex:∃ (j:Nat) (p:Oper),j < k/\l0[j]? = some p/\p.dst = some t
 ·obtain ⟨j,p,hj,hp,hd⟩:=hex
  obtain ⟨x,hx,hb,rfl⟩:=h.look i j o p t hik hj (by simpa using hl) (by simpa using hp) hd ht
  exact hI.hit x.on p t hj hp hd (hdep x hx hb)
 ·rw [hI.miss t (fun j p hj hp hd=>absurd ⟨j,p,hj,hp,hd⟩ hex),hI.out t (fun j p hp hj hd=>hex ⟨j,p,ho.lt j (by rw [hI.cat]; exact List.mem_append_left _ hj),hp,hd⟩)]
end
theorem Rep.ext {n:Nat} {a:Act} {e e':Env} (h:Rep n a e) (h':Rep n a e'):e = e':=funext fun t=>(h.get t).symm.trans (h'.get t)
theorem wpOps_FL {P:Program} {n:Nat} {l0:List Oper} {k:Nat} {K:World->Prop} {ch:Nat->Bool} {Q:Env->World->Prop} {os:List Nat} {e0:Env} {V:(Nat->Bool)->Prop} (h:OrdK n l0.toArray k) (ho:OrdOk l0 k ch os V) (hk:k <= l0.length)
  (hall:∀ D,V D->∀ i,k <= i->i < l0.toArray.size->D i = true->∀ j,j < i->D j = true) (_hdeps:∀ D,V D->∀ i o,l0[i]? = some o->D i = true->depsOn o D)
  {Q':Exit->Act->World->Prop} (hQ:∀ a w e,Rep n a e->Q e w->wpOps P l0.toArray Q' (List.range' k (l0.toArray.size - k)) a w) :
  ∀ {listed:Array Bool} {σ:List Nat},Lin l0.toArray listed σ->(∀ τ ρ,σ = τ ++ ρ->V (fun j=>listed.getD j false || τ.contains j)) ->
   ∀ (a:Act) (e es:Env) (w:World) (pre suf:List Nat),listed.size = l0.toArray.size->(∀ j,k <= j->listed.getD j false = false)->Rep n a e->FI P n l0 k K ch Q os e0 (fun j=>listed.getD j false) pre suf e es w->(suf = []\/∃ c r,suf = c :: r/\ch c = true)->wpOps P l0.toArray Q' σ a w:=by
 have fin:∀ {D:Nat->Bool} {e es:Env} {w:World} {pre suf:List Nat},(∀ j,j < k->D j = true)->(∀ j,k <= j->D j = false)->FI P n l0 k K ch Q os e0 D pre suf e es w->(suf = []\/∃ c r,suf = c :: r/\ch c = true)->Q e w:=by
  intro D e es w pre suf hD hD2 hI hs
  have hsuf:suf = []:=by
   rcases hs with hs | ⟨c,r,rfl,_⟩
   ·exact hs
   ·have hcl:=ho.lt c (by rw [hI.cat]; simp)
    exact absurd (hI.sub c hcl (hD c hcl)) (ho.nodup pre c r hI.cat)
  subst hsuf
  have he:e = es:=by
   funext t
   by_cases hex:∃ (j:Nat) (p:Oper),j < k/\l0[j]? = some p/\p.dst = some t
   ·obtain ⟨j,p,hj,hp,hd⟩:=hex
    exact hI.hit j p t hj hp hd (hD j hj)
   ·rw [hI.miss t (fun j p hj hp hd=>absurd ⟨j,p,hj,hp,hd⟩ hex),hI.out t (fun j p hp hj hd=>hex ⟨j,p,ho.lt j (by rw [hI.cat]; simpa using hj),hp,hd⟩)]
  rw [he]; exact hI.fl
 intro listed σ hlin
 induction hlin with
 | @nil listed hr =>
  intro _ a e es w pre suf hs hkf ha hI hsf
  have hra:=ready_all2 h.bk hs hr
  have hkl:l0.toArray.size <= k:=by
   rcases Nat.lt_or_ge k l0.toArray.size with h3 | h3
   ·have:=hra k h3
    rw [hkf k (Nat.le_refl _)] at this; cases this
   ·exact h3
  have:=hQ a w e ha (fin (fun j hj=>hra j (by simp; omega)) hkf hI hsf)
  rw [show l0.toArray.size - k = 0 by omega] at this
  exact this
 | @cons listed i σ hi hl ih =>
  intro hV a e es w pre suf hs hkf ha hI hsf
  have hi0:=hi
  obtain ⟨h1,o,hio',hdep⟩:=mem_ready.1 hi
  have hlo:l0[i]? = some o:=by simpa using hio'
  have hio:i < l0.toArray.size:=(Array.getElem?_eq_some_iff.1 hio').1
  have hil:i < listed.size:=by omega
  have hDi:listed.getD i false = false:=by
   simp only [Array.getD_eq_getD_getElem?,hil,Array.getElem?_eq_getElem,Option.getD_some] at h1 ⊢; exact h1
  have hVD:V (fun j=>listed.getD j false)/\V (setD (fun j=>listed.getD j false) i):=by
   constructor
   ·have:=hV [] (i :: σ) rfl
    have e1:(fun j=>listed.getD j false || ([]:List Nat).contains j) = fun j=>listed.getD j false:=funext fun j=>by simp
    rw [e1] at this; exact this
   ·have:=hV [i] σ rfl
    have e1:(fun j=>listed.getD j false || ([i]:List Nat).contains j) = setD (fun j=>listed.getD j false) i:=funext fun j=>by
     unfold setD
     by_cases hj:j = i
     ·simp [hj]
     ·simp [hj]
    rw [e1] at this; exact this
  by_cases hik:k <= i
  ·have hothers:∀ j,j < i->listed.getD j false = true:=fun j hj=>by
    have:=hall _ hVD.2 i hik hio (by simp [setD]) j hj
    unfold setD at this
    rw [if_neg (by omega)] at this
    exact this
   have hki:i = k:=by
    rcases Nat.lt_or_ge k i with h3 | h3
    ·have:=hothers k h3; rw [hkf k (Nat.le_refl _)] at this; cases this
    ·omega
   subst hki
   rw [lin_suffix2 (V:=V) h.bk (.cons hi0 hl) i (by omega) hs hothers (fun j hj=>hkf j hj) hall hV]
   exact hQ a w e ha (fin hothers hkf hI hsf)
  ·have hik:i < k:=by omega
   have hV':∀ τ ρ,σ = τ ++ ρ->V (fun j=>(listed.setIfInBounds i true).getD j false || τ.contains j):=by
    intro τ ρ hσ
    have:=hV (i :: τ) ρ (by rw [hσ]; rfl)
    have e1:(fun j=>listed.getD j false || (i :: τ).contains j) = fun j=>(listed.setIfInBounds i true).getD j false || τ.contains j:=by
     funext j
     by_cases hj:i = j
     ·subst hj; simp [hil]
     ·rw [getD_set_ne false hj]
      simp [Ne.symm hj]
    rw [e1] at this; exact this
   have hkf':∀ j,k <= j->(listed.setIfInBounds i true).getD j false = false:=fun j hj=>by rw [getD_set_ne false (by omega)]; exact hkf j hj
   have hlk:=hI.looks h ho hik hlo hdep
   have hset:(fun j=>(listed.setIfInBounds i true).getD j false) = setD (fun j=>listed.getD j false) i:=setD_eq hil
   have hD1:setD (fun j=>listed.getD j false) i i = true:=by simp [setD]
   have hDn:∀ j,j ≠ i->setD (fun j=>listed.getD j false) i j = listed.getD j false:=fun j hj=>by simp [setD,hj]
   have mem:i ∈ pre\/i ∈ suf:=by have:=ho.all i hik; rw [hI.cat] at this; exact List.mem_append.1 this
   rcases mem with hip | his
   ·
    obtain ⟨o',E,v,hl',hE,hu,hr⟩:=hI.wait i hip hDi
    obtain rfl:o' = o:=Option.some.inj (hl'.symm.trans hlo)
    have hEe:∀ t ∈ o'.looksAt l0.toArray,e t = E t:=fun t ht=>(hlk t ht).trans (hE t ht).symm
    have hex:=execOp_looks (h.sel i o' hik hio') hEe
    have hwa:=wanted_looks hEe
    have next:wpOps P l0.toArray Q' σ (a.put o'.dst v) w:=by
     refine ih hV' _ (updO e o'.dst v) es w pre suf (by simp [hs]) hkf' (ha.put (h.dst i o' hio') v) ?_ hsf
     rw [hset]
     refine ⟨hI.cat,hI.fl,fun x hx hc=>?_,fun j hj hD=>?_,hI.kD,fun j p t hjk hp ht hD=>?_,fun t hno=>?_,hI.out,fun j hj hD=>?_,hI.rep⟩
     ·by_cases hxi:x = i
      ·subst hxi; exact hD1
      ·rw [hDn x hxi]; exact hI.done x hx hc
     ·by_cases hji:j = i
      ·subst hji; exact hip
      ·rw [hDn j hji] at hD; exact hI.sub j hj hD
     ·by_cases hji:j = i
      ·subst hji
       obtain rfl:p = o':=Option.some.inj (hp.symm.trans hlo)
       rw [ht]
       exact (upd_same _ _ _).trans (hu t ht).symm
      ·rw [hDn j hji] at hD
       cases hd:o'.dst with
       | none=>exact hI.hit j p t hjk hp ht hD
       | some d =>
        have:t ≠ d:=fun hh=>hji (h.one j i p o' t hjk hik (by simpa using hp) hio' ht (by rw [hd,hh]))
        exact (upd_ne _ _ this).trans (hI.hit j p t hjk hp ht hD)
     ·have hnt:o'.dst ≠ some t:=fun hh=>by have:=hno i o' hik hlo hh; rw [hD1] at this; cases this
      have hm:=hI.miss t (fun j p hjk hp hd=>by
       have:=hno j p hjk hp hd
       by_cases hji:j = i
       ·subst hji; exact hDi
       ·rwa [hDn j hji] at this)
      cases hd:o'.dst with
      | none=>exact hm
      | some d=>exact (upd_ne _ _ (fun hh=>hnt (by rw [hd,hh]))).trans hm
     ·have hji:j ≠ i:=fun hh=>by subst hh; rw [hD1] at hD; cases hD
      rw [hDn j hji] at hD
      exact hI.wait j hj hD
    rw [wpOps_cons]
    unfold wpOp
    simp only [hio']
    rw [wanted_rep ha,hwa]
    rcases hr with ⟨hw,hr⟩ | ⟨hw,hv⟩
    ·rw [if_pos hw]
     refine .inl ?_
     unfold Oper.wp
     rw [ha.eval,hex,hr w hI.kD]
     exact next
    ·rw [if_neg (by rw [hw]; simp),<- hv]; exact next
   ·
    rcases hsf with hsf | ⟨c,r,rfl,hc⟩
    ·rw [hsf] at his; cases his
    have hic:i = c:=by
     rcases List.mem_cons.1 his with h9 | h9
     ·exact h9
     ·exfalso
      obtain ⟨m1,m2,hm⟩:=List.append_of_mem h9
      have:=ho.wait pre c m1 i m2 (by rw [hI.cat,hm]; simp) hc _ hVD.2 hD1
      have hci:c ≠ i:=fun hh=>by
       subst hh
       exact ho.nodup (pre ++ c :: m1) c m2 (by rw [hI.cat,hm]; simp) (by simp)
      rw [hDn c hci] at this
      exact ho.nodup pre c r hI.cat (hI.sub c (ho.lt c (by rw [hI.cat]; simp)) this)
    subst hic
    obtain ⟨o',hl',hf⟩:=hI.fl
    obtain rfl:o' = o:=Option.some.inj (hl'.symm.trans hlo)
    rw [if_pos hc] at hf
    obtain ⟨asx,has⟩:=hI.rep
    have hfa:=hf (fun q hq=>by simp at hq; subst hq; exact h.dst i q hio') asx has
    have hex:=execOp_looks (h.sel i o' hik hio') hlk
    have hwa:=wanted_looks hlk
    have next:∀ v w',K w'->FL P n l0 K ch Q r (updO es o'.dst v) w'->wpOps P l0.toArray Q' σ (a.put o'.dst v) w':=by
     intro v w' hK hfl
     have hI':FI P n l0 k K ch Q os e0 (setD (fun j=>listed.getD j false) i) (pre ++ [i]) r (updO e o'.dst v) (updO es o'.dst v) w':=by
      have hnew:∀ t,o'.dst = some t->∀ j p,j < k->l0[j]? = some p->p.dst = some t->j = i:=fun t ht j p hjk hp hpt=>h.one j i p o' t hjk hik (by simpa using hp) hio' hpt ht
      have hpk:∀ j ∈ pre,j < k:=fun j hj=>ho.lt j (by rw [hI.cat]; exact List.mem_append_left _ hj)
      refine ⟨by rw [hI.cat]; simp,hfl,fun x hx hcx=>?_,fun j hj hD=>?_,hK,fun j p t hjk hp ht hD=>?_,fun t hno=>?_,fun t hno=>?_,fun j hj hD=>?_,⟨_,has.put (h.dst i o' hio') v⟩⟩
      ·by_cases hxi:x = i
       ·subst hxi; exact hD1
       ·rw [hDn x hxi]
        rcases List.mem_append.1 hx with hx | hx
        ·exact hI.done x hx hcx
        ·simp at hx; exact absurd hx hxi
      ·by_cases hji:j = i
       ·subst hji; simp
       ·rw [hDn j hji] at hD; exact List.mem_append_left _ (hI.sub j hj hD)
      ·by_cases hji:j = i
       ·subst hji
        obtain rfl:p = o':=Option.some.inj (hp.symm.trans hlo)
        rw [ht]; exact (upd_same _ _ _).trans (upd_same _ _ _).symm
       ·rw [hDn j hji] at hD
        cases hd:o'.dst with
        | none=>exact hI.hit j p t hjk hp ht hD
        | some d =>
         have:t ≠ d:=fun hh=>hji (hnew d hd j p hjk hp (by rw [ht,hh]))
         show upd e d v t = upd es d v t
         rw [upd_ne _ _ this,upd_ne _ _ this]; exact hI.hit j p t hjk hp ht hD
      ·have hnt:o'.dst ≠ some t:=fun hh=>by have:=hno i o' hik hlo hh; rw [hD1] at this; cases this
       have hm:=hI.miss t (fun j p hjk hp hd=>by
        have:=hno j p hjk hp hd
        by_cases hji:j = i
        ·subst hji; exact hDi
        ·rwa [hDn j hji] at this)
       cases hd:o'.dst with
       | none=>exact hm
       | some d=>exact (upd_ne _ _ (fun hh=>hnt (by rw [hd,hh]))).trans hm
      ·have hnt:o'.dst ≠ some t:=hno i o' hlo (by simp)
       have hm:=hI.out t (fun j p hp hj=>hno j p hp (List.mem_append_left _ hj))
       cases hd:o'.dst with
       | none=>exact hm
       | some d=>exact (upd_ne _ _ (fun hh=>hnt (by rw [hd,hh]))).trans hm
      ·have hji:j ≠ i:=fun hh=>by subst hh; rw [hD1] at hD; cases hD
       rw [hDn j hji] at hD
       have hjp:j ∈ pre:=by
        rcases List.mem_append.1 hj with hj | hj
        ·exact hj
        ·simp at hj; exact absurd hj hji
       obtain ⟨p,E,u,hp,hE,hu,hr⟩:=hI.wait j hjp hD
       have hne:∀ t,(t ∈ p.looksAt l0.toArray\/p.dst = some t)->updO es o'.dst v t = es t:=by
        intro t ht
        cases hd:o'.dst with
        | none=>rfl
        | some d =>
         refine upd_ne _ _ (fun hh=>?_)
         subst hh
         rcases ht with ht | ht
         ·obtain ⟨x,hx,hb,rfl⟩:=h.look j i p o' t (hpk j hjp) hik (by simpa using hp) hio' hd ht
          obtain ⟨q1,q2,hq⟩:=List.append_of_mem hjp
          obtain ⟨p',hp',htopo⟩:=ho.topo q1 j (q2 ++ x.on :: r) (by rw [hI.cat,hq]; simp)
          obtain rfl:p' = p:=Option.some.inj (hp'.symm.trans hp)
          have hin:=htopo x hx hb
          exact ho.nodup pre x.on r hI.cat (by rw [hq]; exact List.mem_append_left _ hin)
         ·exact hji (hnew t hd j p (hpk j hjp) hp ht)
       exact ⟨p,E,u,hp,fun t ht=>(hE t ht).trans (hne t (.inl ht)).symm,fun t ht=>(hne t (.inr ht)).trans (hu t ht),hr⟩
     obtain ⟨pre2,suf2,es2,hI2,hs2⟩:=FI.norm h ho r _ hI'
     exact ih hV' _ _ es2 w' pre2 suf2 (by simp [hs]) hkf' (ha.put (h.dst i o' hio') v) (by rw [hset]; exact hI2) hs2
    have nx:∀ v w',lift n (fun x e' w'=>x = Exit.normal/\K w'/\FL P n l0 K ch Q r e' w') .normal (asx.put o'.dst v) w'->wpOps P l0.toArray Q' σ (a.put o'.dst v) w':=by
     rintro v w' ⟨e',hre,_,hK,hfl⟩
     have:e' = updO es o'.dst v:=Rep.ext hre (has.put (h.dst i o' hio') v)
     rw [this] at hfl
     exact next v w' hK hfl
    rw [wpOps_cons]
    unfold wpOp
    simp only [hio']
    rw [wanted_rep ha,hwa]
    unfold wpList at hfa
    rw [wanted_rep has] at hfa
    split at hfa
    ·rename_i hw
     rw [if_pos hw]
     refine .inl ?_
     rcases hfa with hfa | ⟨_,a9,w9,e9,_,h9,_⟩
     ·unfold Oper.wp at hfa ⊢
      rw [has.eval] at hfa
      rw [ha.eval,hex]
      generalize (execOp (ev es) o').run P w = rr at hfa
      cases rr with
      | ok x w' =>
       cases x <;> simp only [Oper.upon] at hfa ⊢
       case value u=>exact nx u w' hfa
       case skip=>exact nx undef w' hfa
       case enter f args =>
        refine Calls.mono hfa fun x w'' hx=>?_
        cases x with
        | returned u=>exact nx u w'' hx
        | panicked ch=>obtain ⟨e9,_,h9,_⟩:=hx; cases h9
        | outgrown=>obtain ⟨a9,w9,e9,_,h9,_⟩:=hx; cases h9
       case row row args=>exact Rows.mono hfa fun u w'' hx=>nx u w'' hx
       case defer d9 =>
        obtain ⟨e9,hre,_⟩:=hfa
        have:=hre.defers
        simp [Act.put] at this
        cases hd:o'.dst <;> rw [hd] at this <;> simp at this
      | halt x w' =>
       cases x <;> simp only [Oper.upon] at hfa
       case panic v=>obtain ⟨e9,_,h9,_⟩:=hfa; cases h9
     ·cases h9
    ·rename_i hw
     rw [if_neg hw]
     exact nx undef w hfa
theorem wp_FL {P:Program} {n:Nat} {l:List Oper} {Q:Exit->Env->World->Prop} {e:Env} {w:World} {k:Nat} {ch:Nat->Bool} {os:List Nat} {K:World->Prop} {σ:List Nat} (ho:OrdK n l.toArray k) (hA:sufB l k = true) (hkl:k <= l.length) (hoo:OrdOk l k ch os (Pre σ)) (hlin:Lin l.toArray (Array.replicate l.toArray.size false) σ) (hdeps:∀ D,Pre σ D->∀ i o,l[i]? = some o->D i = true->depsOn o D)
  (hK:K w) (h:FL P n l K ch (fun e' w'=>L P n l.toArray Q (l.drop k) e' w') os e w) {a:Act} (ha:Rep n a e):wpOps P l.toArray (lift n Q) σ a w:=by
 have h0:FI P n l k K ch (fun e' w'=>L P n l.toArray Q (l.drop k) e' w') os e (fun j=>(Array.replicate l.toArray.size false).getD j false) [] os e e w :=
  ⟨rfl,h,(fun x hx=>by cases hx),(fun j _ hD=>absurd hD (by rw [getD_replicate_false']; simp)),hK,(fun j o t _ _ _ hD=>absurd hD (by rw [getD_replicate_false']; simp)),(fun t _=>rfl),(fun t _=>rfl),(fun j hj=>by cases hj),⟨a,ha⟩⟩
 obtain ⟨pre,suf,es,hI,hs⟩:=FI.norm ho hoo _ _ h0
 refine wpOps_FL (V:=Pre σ) ho hoo hkl (fun D hD i hki hil=>sufB_all hA hdeps hD i hki (by simpa using hil)) hdeps (fun a' w' e' ha' hq=>?_) hlin ?_ a e es _ pre suf (by simp) (fun j _=>getD_replicate_false' _ _) ha hI hs
 ·have h4:=hq (fun o' ho'=>by
   obtain ⟨i,hi⟩:=List.mem_iff_getElem?.1 ho'
   rw [List.getElem?_drop] at hi
   exact ho.dst (k + i) o' (by simpa using hi)) a' ha'
  have h5:=wpOps_eq_wpList (P:=P) (ops:=l.toArray) (Q:=lift n Q) (l.drop k) k (fun j=>by rw [List.getElem?_drop]; simp)
  rw [List.length_drop] at h5
  have h6:l.toArray.size - k = l.length - k:=by simp
  rw [h6,h5]
  exact h4
 ·intro τ ρ hσ
  exact ⟨τ,ρ,hσ,fun k=>by show ((Array.replicate l.toArray.size false).getD k false || τ.contains k) = true ↔ _; rw [getD_replicate_false']; simp⟩
theorem lin_deps {l:List Oper} {σ:List Nat} (hlin:Lin l.toArray (Array.replicate l.toArray.size false) σ):∀ D,Pre σ D->∀ i o,l[i]? = some o->D i = true->depsOn o D:=by
 have hclosed:=lin_closed hlin (fun i o _ hi=>by rw [getD_replicate_false'] at hi; cases hi) (by simp)
 rintro D ⟨τ,ρ,hσ,hD⟩ i o hi hDi x hx hb
 have:=hclosed τ ρ hσ i o (by simpa using hi) (.inr ((hD i).1 hDi)) x hx hb
 rcases this with h1 | h1
 ·rw [getD_replicate_false'] at h1; cases h1
 ·exact (hD _).2 h1
theorem W.fl {P:Program} {n:Nat} {id:Nat} {l:List Oper} {Q:Exit->Env->World->Prop} {e:Env} {w:World} (k:Nat) (ch:List Nat) (os:List Nat) (K:World->Prop) (hm:P.follows .mixedOrders = true) (hB:ordKB n l.toArray k = true) (hA:sufB l k = true) (hk:Nat.ble k l.length = true) (hO:ordOk l k (fun i=>ch.contains i) os = true)
  (hK:K w.drew) (h:FL P n l K (fun i=>ch.contains i) (fun e' w'=>L P n l.toArray Q (l.drop k) e' w') os e w.drew):W P n (.region id l.toArray true) Q e w:=by
 intro a ha
 refine wp_region_draw fun t=>?_
 simp only [Region.schedule,hm,Bool.true_or,if_true]
 have hlin:=lin_go l.toArray l.toArray.size t (Array.replicate l.toArray.size false) (by simp) (by simp)
 unfold Region.linearise
 generalize Region.linearise.go .any l.toArray l.toArray.size t (Array.replicate l.toArray.size false) [] = σ at hlin ⊢
 exact wp_FL (ordK_of hB) hA (Nat.le_of_ble_eq_true hk) (ordOk_of (lin_deps hlin) (fun p hp=>by cases hp) hO) hlin (lin_deps hlin) hK h ha
end Go.Vc
end
/- Walks with known numbers: sums, lengths, elements of slices whose cells are known one by one. -/
section
namespace Go.Vc
open Go Go.RowKit
section
variable {w w' w0:World} {B E:Nat} {s:Nat} {a:Option Addr} {n c:Nat} {xs:List Value}
theorem Own.down {B':Nat} (h:Own w B' E s a n c xs) (hB:B <= B'):Own w B E s a n c xs:=by
 refine ⟨h.1,?_⟩
 rcases h.2 with h2 | ⟨g,cap,cur,hv,hb,hg⟩
 ·exact .inl h2
 ·exact .inr ⟨g,cap,cur,hv,Nat.le_trans hB hb,hg⟩
theorem Own.ofBlk {b:Nat} {cs:Array Value} (h:Blk w b cs E) (hs:cs.size = c * s) (hb:B <= b) (hn:n <= c) (hm:c <= maxLen):Own w B E s (some ⟨b,0,none⟩) n c (cs.toList.take (n * s)):=by
 refine ⟨?_,.inr ⟨b,c,cs,rfl,hb,h,hn,hm,hs,rfl⟩⟩
 rw [List.length_take,Array.length_toList,hs]
 exact Nat.min_eq_left (Nat.mul_le_mul_right s hn)
end
section
variable {P:Program} {ρ:Operand->Value} {w:World} {d:Option Nat} {ty:TypeId} {ps:String} {af:Array Edge} {g:Option (Nat × Bool)} {x y:Operand} {T T' E:TypeId}
theorem x_lenK {a:Option Addr} {n c:Nat} {m:Int} {aT:Array TypeId} (hm:((n:Nat):Int) = m) (hx:ρ x = .slice a n c) (hT:P.underlying T = some (.slice E)) (hA:aT[0]? = some T):(execOp ρ ⟨d,.call ⟨.builtin .len,#[x],aT⟩,ty,ps,af,g⟩).run P w = .ok (.value (.int .i64 m)) w:=by
 rw [<- hm]; exact x_len hx hT hA
end
def noG (Q:Exit->Env->World->Prop):Exit->Env->World->Prop
 | .goto _,_,_=>False
 | x,e,w=>Q x e w
section
variable {P:Program} {n:Nat} {Q:Exit->Env->World->Prop} {e:Env} {w:World}
theorem N.nrm (h:Q .normal e w):noG Q .normal e w:=h
theorem N.ret (h:Q .ret e w):noG Q .ret e w:=h
theorem N.exit {id:Nat} (h:Q (.exit id) e w):noG Q (.exit id) e w:=h
end
end Go.Vc
end
/- Operations that are tame whatever they are handed, or that look at nothing. -/
section
namespace Go.Yc
open Go
theorem dead_unsupported {α:Type} {P:Program} (s:Unsupported):dead P (unsupported s:Sem α):=fun v h=>by cases h
theorem t_holds {P:Program} {α:Type} (a:Addr) (n:Nat) {f:Bool->Sem α} (hf:∀ b,dead P (f b)):dead P (Builtin.holdsCells a n >>= f):=by
 show dead P (Sem.bind (Sem.bind (Sem.shape a.block .pure) _) f)
 intro s
 cases s with
 | none=>exact hf _
 | some p=>obtain ⟨t,n⟩:=p; exact hf _
theorem bind_assoc' {α β γ:Type} (s:Sem α) (f:α->Sem β) (g:β->Sem γ):(s >>= f) >>= g = s >>= fun a=>f a >>= g:=by
 show (s.bind f).bind g = s.bind fun a=>(f a).bind g
 induction s with
 | pure a=>rfl
 | halt h=>rfl
 | load m a k ih=>exact congrArg (Sem.load m a) (funext fun v=>ih v)
 | store m a v k ih=>exact congrArg (Sem.store m a v) ih
 | new o k ih=>exact congrArg (Sem.new o) (funext fun v=>ih v)
 | shape r k ih=>exact congrArg (Sem.shape r) (funext fun v=>ih v)
 | freeze a n k ih=>exact congrArg (Sem.freeze a n) ih
 | frozen a k ih=>exact congrArg (Sem.frozen a) (funext fun v=>ih v)
 | getObj r k ih=>exact congrArg (Sem.getObj r) (funext fun v=>ih v)
 | setObj r o k ih=>exact congrArg (Sem.setObj r o) ih
 | choose q k ih=>exact congrArg (Sem.choose q) (funext fun v=>ih v)
 | sys c k ih=>exact congrArg (Sem.sys c) (funext fun v=>ih v)
 | program k ih=>exact congrArg Sem.program (funext fun v=>ih v)
 | mark m k ih=>exact congrArg (Sem.mark m) ih
theorem dead_frozen {P:Program} {α:Type} (a:Addr) {f:Bool->Sem α} (hf:∀ b,dead P (f b)):dead P (frozen a >>= f):=fun b=>hf b
theorem t_mayShare {P:Program} {α:Type} (size sLen n:Nat) (base:Option Addr) (x:Value) {f:Bool->Sem α} (hf:∀ b,dead P (f b)):dead P (Builtin.mayShare size sLen n base x >>= f):=by
 have h2:∀ y:Value,dead P ((match y with | .slice (some b) _ _=>(do pure (!(<- Builtin.holdsCells b (n * size)) || base.any (·.block == b.block)):Sem Bool) | _=>pure false) >>= f):=by
  intro y
  split
  ·rw [bind_assoc']; exact t_holds _ _ fun b=>hf _
  ·exact hf _
 unfold Builtin.mayShare
 cases base with
 | none=>exact h2 x
 | some a =>
  simp only [bind_assoc']
  refine t_holds _ _ fun b=>?_
  refine dead_frozen _ fun c=>?_
  cases b <;> cases c <;> first | exact hf _ | exact h2 x
theorem t_mayShareT {P:Program} {α:Type} (size sLen n:Nat) (base:Option Addr) (x:Value) {f:Bool->Sem α} (hf:∀ b,dead P (f b)) (hg:∀ b,tame P (f b)):tame P (Builtin.mayShare size sLen n base x >>= f):=by
 have h2:∀ y:Value,tame P ((match y with | .slice (some b) _ _=>(do pure (!(<- Builtin.holdsCells b (n * size)) || base.any (·.block == b.block)):Sem Bool) | _=>pure false) >>= f):=by
  intro y
  split
  ·rw [bind_assoc']
   intro s
   cases s with
   | none=>exact hf _
   | some p=>obtain ⟨t,n⟩:=p; exact hf _
  ·exact hg _
 have h3:∀ y:Value,dead P ((match y with | .slice (some b) _ _=>(do pure (!(<- Builtin.holdsCells b (n * size)) || base.any (·.block == b.block)):Sem Bool) | _=>pure false) >>= f):=by
  intro y
  split
  ·rw [bind_assoc']; exact t_holds _ _ fun b=>hf _
  ·exact hf _
 unfold Builtin.mayShare
 cases base with
 | none=>exact h2 x
 | some a =>
  simp only [bind_assoc']
  intro s
  cases s with
  | none =>
   intro d
   cases d <;> exact hf true
  | some p =>
   obtain ⟨t,m⟩:=p
   intro d
   show dead P ((if (!((a.spot.isNone && decide (a.off + sLen * size <= m)) && !d)) = true then (pure true:Sem Bool) else _) >>= f)
   cases (a.spot.isNone && decide (a.off + sLen * size <= m)) <;> cases d <;> first | exact hf _ | exact h3 x
theorem t_share {P:Program} {α:Type} (size sLen n:Nat) (base:Option Addr) (x:Value) (u:Unsupported):tame P (Builtin.mayShare size sLen n base x >>= fun b=>(if (!b) = true then (mark .noRoom >>= fun _=>(unsupported u:Sem α)) else (unsupported u:Sem α))):=by
 refine t_mayShareT _ _ _ _ _ (fun b=>?_) (fun b=>?_)
 ·cases b
  ·exact dead_unsupported (P:=P) (α:=α) u
  ·exact dead_unsupported (P:=P) (α:=α) u
 ·cases b
  ·show (if mild Mark.noRoom = true then tame P ((Sem.pure ()).bind fun _=>(unsupported u:Sem α)) else _)
   exact trivial
  ·exact trivial
theorem t_ite {P:Program} {α:Type} {c:Prop} [Decidable c] {a b:Sem α} (ha:tame P a) (hb:tame P b):tame P (if c then a else b):=by split <;> assumption
attribute [local irreducible] tame dead
set_option maxHeartbeats 2000000 in
theorem t_append {P:Program} (a:Array TypeId) (t:TypeId) (x:Array Value):tame P (Builtin.append_ a t x):=by
 unfold Builtin.append_
 repeat' (first | exact t_pure _ | exact t_halt _ | exact t_share _ _ _ _ _ _ | exact t_copy _ _ _ | exact t_firstCells _ _ _ | exact t_lenOf _ | exact t_storeCells _ _ _ | exact t_newRow _ _ | exact t_zeroValue _ | exact t_typeInfo _ | exact t_underlying _ | exact t_asInt _ | exact t_runtimePanic _ | exact t_askRoom _ | exact t_choose _ | exact t_sizeOf _ | exact t_stuck _ | exact t_unsupported _ | (refine t_bind ?_ (fun _=>?_)) | (refine t_ite ?_ ?_) | split)
end Go.Yc
end
/- Which operations are tame: most, whatever they are handed; the others at such operands as a walk meets. -/
section
namespace Go.Yc
open Go Go.Vc
def okOp (o:Oper):Bool:=match o.op with
 | .move _ | .assign _ | .pick .. | .alloc _ | .box .. | .build .. | .buildSlice .. | .load .. | .store .. | .indexAddr .. | .extract .. | .field .. | .makeInterface .. | .makeFunc .. | .makeChan .. | .makeSlice .. | .slice .. | .unOp ..=>true
 | .call c=>match c.callee with
  | .builtin b=>(match b with | .len | .cap | .append | .copy=>true | _=>false)
  | _=>false
 | _=>false
attribute [local irreducible] tame dead
theorem t_v {P:Program} {s:Sem Value} (h:tame P s):tame P (do pure (.value (<- s)):Sem Next):=t_bind h fun _=>t_pure _
theorem t_u {P:Program} {s:Sem Unit} (h:tame P s):tame P (do s; pure .skip:Sem Next):=t_bind h fun _=>t_pure _
theorem tame_ok {P:Program} {o:Oper} (h:okOp o = true) (ρ:Operand->Value):tame P (execOp ρ o):=by
 unfold okOp at h
 unfold execOp
 cases ho:o.op <;> rw [ho] at h <;> try (cases h; done)
 case move x=>exact t_pure _
 case assign x=>exact t_pure _
 case pick c a b=>exact t_bind (t_asBool _) fun _=>t_pure _
 case alloc e=>exact t_v (t_alloc _ _ _)
 case box e x=>exact t_v (t_box _ _)
 case build t p=>exact t_v (t_build _ _)
 case buildSlice t n p=>exact t_v (t_buildSlice _ _ _)
 case load t a=>exact t_v (t_loadAt _ _)
 case store t a x=>exact t_u (t_storeAt _ _ _)
 case indexAddr t x i=>exact t_v (t_indexAt _ _ _)
 case extract x i=>exact t_v (t_extract _ _)
 case field t x f=>exact t_v (t_field _ _ _)
 case makeInterface t x=>exact t_v (t_makeInterface _ _)
 case makeFunc f a b=>exact t_v (t_pure _)
 case makeChan t x=>exact t_v (t_makeChan _ _)
 case makeSlice t a b=>exact t_v (t_makeSlice _ _ _)
 case slice t x a b c=>exact t_v (t_sliceAt _ _ _ _ _)
 case unOp op t x=>exact t_v (t_unary _ _)
 case call c =>
  obtain ⟨callee,args,aT⟩:=c
  simp only at h
  cases callee with
  | builtin b =>
   simp only at h
   cases b <;> try (cases h; done)
   ·exact t_v (t_append _ _ _)
   ·exact t_v (t_cap _ _ _)
   ·exact t_v (t_copy _ _ _)
   ·exact t_v (t_len _ _ _)
  | _=>cases h
end Go.Yc
end
/- Operations that are tame at the operands that a walk meets. -/
section
namespace Go.Yc
open Go Go.Vc
theorem t_cvt {P:Program} {α:Type} {s t:Sem α} (h:s = t) (ht:tame P t):tame P s:=h ▸ ht
theorem t_knownP {P:Program} {α:Type} {f:Program->Sem α} (h:tame P (f P)):tame P (program >>= f):=h
theorem t_knownU {P:Program} {α:Type} {f:TypeDesc->Sem α} {t:TypeId} {u:TypeDesc} (hT:P.underlying t = some u) (h:tame P (f u)):tame P (underlying t >>= f):=by
 show tame P (((match P.underlying t with | some d=>pure d | none=>stuck "no such type":Sem TypeDesc)).bind f)
 rw [hT]; exact h
theorem t_knownI {P:Program} {α:Type} {f:TypeInfo->Sem α} {t:TypeId} {i:TypeInfo} (hT:P.info? t = some i) (h:tame P (f i)):tame P (typeInfo t >>= f):=by
 show tame P (((match P.info? t with | some d=>pure d | none=>stuck "no such type":Sem TypeInfo)).bind f)
 rw [hT]; exact h
theorem t_knownS {P:Program} {α:Type} {f:Nat->Sem α} {t:TypeId} {s:Nat} (hT:(P.info? t).map (·.size) = some s) (h:tame P (f s)):tame P (sizeOf t >>= f):=by
 cases hi:P.info? t with
 | none=>rw [hi] at hT; cases hT
 | some i =>
  rw [hi] at hT
  obtain rfl:=Option.some.inj hT
  unfold sizeOf
  rw [bind_assoc']
  exact t_knownI hi h
attribute [local irreducible] tame dead
section
variable {P:Program} {ρ:Operand->Value} {d:Option Nat} {ty:TypeId} {ps:String} {af:Array Edge} {g:Option (Nat × Bool)} {x y:Operand} {T T':TypeId} {op:BinOp}
theorem t_binOf {a b:Value} (hx:ρ x = a) (hy:ρ y = b) (h1:tame P (eqGuard op T x y a b)) (h2:tame P (binOp op T a b)):tame P (execOp ρ ⟨d,.binOp op T x y T',ty,ps,af,g⟩):=by
 show tame P (do pure (.value (<- (do eqGuard op T x y (ρ x) (ρ y); binOp op T (ρ x) (ρ y)))):Sem Next)
 rw [hx,hy]
 exact t_v (t_bind h1 fun _=>h2)
theorem t_guard {a b:Value} (hb:∀ c,b ≠ .agg c) (hn:b ≠ .nilIface):tame P (eqGuard op T x y a b):=by
 unfold eqGuard
 refine t_ite (t_pure _) ?_
 split
 ·exact absurd rfl hn
 ·exact absurd rfl (hb _)
 ·exact t_pure _
theorem t_intBin {κ κ':IntKind} {m k:Int}:tame P (binOp op T (.int κ m) (.int κ' k)):=by
 cases op <;> simp only [binOp,Op.shift,Op.intArith,Op.intDiv,Op.intBits,Op.intCmp] <;> (repeat' (first | exact t_pure _ | exact t_runtimePanic _ | exact t_stuck _ | exact t_unsupported _ | (refine t_ite ?_ ?_) | split))
theorem t_binInt {κ κ':IntKind} {m k:Int} (hx:ρ x = .int κ m) (hy:ρ y = .int κ' k):tame P (execOp ρ ⟨d,.binOp op T x y T',ty,ps,af,g⟩):=t_binOf hx hy (t_guard (fun _ h=>by cases h) (fun h=>by cases h)) t_intBin
theorem t_strBin {a b:ByteArray}:tame P (binOp op T (.string a) (.string b)):=by
 cases op <;> simp only [binOp,Op.stringOp] <;> (repeat' (first | exact t_pure _ | exact t_runtimePanic _ | exact t_stuck _ | exact t_unsupported _ | (refine t_ite ?_ ?_) | split))
theorem t_binStr {a b:ByteArray} (hx:ρ x = .string a) (hy:ρ y = .string b):tame P (execOp ρ ⟨d,.binOp op T x y T',ty,ps,af,g⟩):=t_binOf hx hy (t_guard (fun _ h=>by cases h) (fun h=>by cases h)) t_strBin
def noAddr:Value->Bool
 | .pointer (some _) | .agg _ | .iface ..=>false
 | _=>true
theorem t_equalIn {n:Nat} {a b:Value} (hb:noAddr b = true):tame P (Op.equalIn (n + 1) T a b):=by
 unfold Op.equalIn
 refine t_bind (t_underlying _) fun u=>?_
 split <;> first
  | exact t_pure _ | exact t_stuck _ | exact t_unsupported _
  | (exact t_ite (t_pure _) (t_stuck _))
  | (cases hb; done)
  | (unfold samePointer; split <;> first | (cases hb; done) | exact t_pure _)
  | skip
theorem t_eqOf {a b:Value} (h:tame P (Op.equal T a b)) (h1:binOp .eql T a b = (do pure (.bool (<- Op.equal T a b)):Sem Value)):tame P (binOp .eql T a b):=by rw [h1]; exact t_bind h fun _=>t_pure _
theorem t_neqOf {a b:Value} (h:tame P (Op.equal T a b)) (h1:binOp .neq T a b = (do pure (.bool (!(<- Op.equal T a b))):Sem Value)):tame P (binOp .neq T a b):=by rw [h1]; exact t_bind h fun _=>t_pure _
theorem t_eqPtrNil {q:Option Addr} (hx:ρ x = .pointer q) (hy:ρ y = .pointer none):tame P (execOp ρ ⟨d,.binOp .eql T x y T',ty,ps,af,g⟩):=t_binOf hx hy (t_guard (fun _ h=>by cases h) (fun h=>by cases h)) (t_eqOf (t_equalIn rfl) rfl)
theorem t_eqFnNil {v:Value} (hv:v = .nilFunc\/∃ f xs ys,v = .func f xs ys) (hx:ρ x = v) (hy:ρ y = .nilFunc):tame P (execOp ρ ⟨d,.binOp .eql T x y T',ty,ps,af,g⟩) :=
 t_binOf hx hy (t_guard (fun _ h=>by cases h) (fun h=>by cases h)) (t_eqOf (t_equalIn rfl) (by rcases hv with rfl | ⟨f,xs,ys,rfl⟩ <;> rfl))
theorem t_neqFnNil {v:Value} (hv:v = .nilFunc\/∃ f xs ys,v = .func f xs ys) (hx:ρ x = v) (hy:ρ y = .nilFunc):tame P (execOp ρ ⟨d,.binOp .neq T x y T',ty,ps,af,g⟩) :=
 t_binOf hx hy (t_guard (fun _ h=>by cases h) (fun h=>by cases h)) (t_neqOf (t_equalIn rfl) (by rcases hv with rfl | ⟨f,xs,ys,rfl⟩ <;> rfl))
theorem t_nilCheck {p:Option Addr} (hx:ρ x = .pointer p):tame P (execOp ρ ⟨d,.nilCheck x,ty,ps,af,g⟩):=by
 unfold execOp
 simp only [hx]
 cases p <;> first | exact t_runtimePanic _ | exact t_pure _
theorem t_fieldAddr {S:TypeId} {a:Option Addr} {f:Nat} {fs:Array Field} {fl:Field} {s:Nat} (hx:ρ x = .pointer a) (hT:P.underlying S = some (.struct fs)) (hf:fs[f]? = some fl) (hs:(P.info? fl.type).map (·.size) = some s) (h0:s ≠ 0):tame P (execOp ρ ⟨d,.fieldAddr S x f,ty,ps,af,g⟩):=by
 unfold execOp
 simp only [hx]
 refine t_v ?_
 unfold Instr.fieldAt
 refine t_knownU hT ?_
 simp only [hf]
 refine t_bind (t_sureAddr _) fun a=>?_
 unfold fieldPlace
 rw [bind_assoc']
 refine t_knownS hs ?_
 rw [if_neg h0]
 exact t_pure _
theorem t_callF {f:FuncId} {first cap:Array Value} {fn:Func} {xs:Array Operand} {aT:Array TypeId} (hx:ρ x = .func (.func f) first cap) (hf:P.funcs[f]? = some fn) (hb:fn.body.isSome = true) (hn:(fn.name == "runtime.NumGoroutine") = false):tame P (execOp ρ ⟨d,.call ⟨.value x,xs,aT⟩,ty,ps,af,g⟩):=by
 show tame P (do let d <- Deferred.ofValue (ρ x) (xs.map ρ); invoke d.target d.args)
 rw [hx]
 show tame P (callFunc f (first ++ xs.map ρ ++ cap))
 unfold callFunc
 refine t_knownP ?_
 rw [hf]
 simp only [hn,Bool.false_eq_true,if_false]
 have:fn.body.isNone = false:=by cases h:fn.body <;> simp_all
 simp only [this,Bool.false_eq_true,if_false]
 exact t_pure _
end
end Go.Yc
end
/- Comparison of structs and arrays without addresses is tame; so are the conversions that a walk meets. -/
section
namespace Go.Yc
open Go Go.Vc
attribute [local irreducible] tame dead
theorem t_forInL {P:Program} {α β:Type} {f:α->β->Sem (ForInStep β)} (h:∀ a b,tame P (f a b)):∀ (l:List α) (b:β),tame P (forIn l b f)
 | [],b=>by rw [List.forIn_nil]; exact t_pure _
 | a :: l,b=>by
  rw [List.forIn_cons]
  refine t_bind (h a b) fun r=>?_
  cases r with
  | done b=>exact t_pure _
  | yield b=>exact t_forInL h l b
theorem t_forInA {P:Program} {α β:Type} {f:α->β->Sem (ForInStep β)} (h:∀ a b,tame P (f a b)) (l:Array α) (b:β):tame P (forIn l b f):=by
 rw [<- Array.forIn_toList]; exact t_forInL h _ _
section
variable {P:Program} {ρ:Operand->Value} {d:Option Nat} {ty:TypeId} {ps:String} {af:Array Edge} {g:Option (Nat × Bool)} {x y:Operand} {T T':TypeId} {op:BinOp}
end
end Go.Yc
end
/- A walk by rules over frames that are functions, for one goroutine among others. Nothing here speaks of a program. -/
section
namespace Go.Vy
open Go Go.Conc Go.Yc
open Go.Vc (Env upd updO ev upd_same upd_ne upd_id Rep dstB lift thenE inBlockE regB yieldE yielded_rep wanted_rep Ret hav Agree)
def W (P:Program) [Ctx P] (n:Nat) (c:Code) (Q:Exit->Env->World->Prop) (e:Env) (w:World):Prop :=
 ∀ a,Rep n a e->cwp P c (lift n Q) a w
section
variable {P:Program} [Ctx P] {n:Nat} {Q Q':Exit->Env->World->Prop} {e:Env} {w:World}
theorem W.seq {x y:Code} (h:W P n x (thenE (W P n y Q) Q) e w):W P n (.seq x y) Q e w:=by
 intro a ha
 refine wp_seq (wp_mono (h a ha) ?_)
 rintro ex a' w' ⟨e',r,q⟩
 cases ex with
 | normal=>exact q a' r
 | exit id=>exact ⟨e',r,q⟩
 | goto l=>exact ⟨e',r,q⟩
 | ret=>exact ⟨e',r,q⟩
 | panic ch=>exact ⟨e',r,q⟩
 | outgrown=>exact ⟨e',r,q⟩
theorem W.skip (h:Q .normal e w):W P n .skip Q e w:=fun _ ha=>wp_skip ⟨e,ha,h⟩
theorem W.exit {id:Nat} (h:Q (.exit id) e w):W P n (.exit id) Q e w:=fun _ ha=>wp_exit ⟨e,ha,h⟩
theorem W.ret (h:Q .ret e w):W P n .ret Q e w:=fun _ ha=>wp_ret ⟨e,ha,h⟩
theorem W.cond {c:Operand} {x y:Code} {b:Bool} (hc:ev e c = .bool b) (ht:b = true->W P n x Q e w) (hf:b = false->W P n y Q e w) :
  W P n (.cond c x y) Q e w:=by
 intro a ha
 have hc':a.eval c = .bool b:=by rw [ha.eval]; exact hc
 cases b
 ·exact wp_cond_false hc' (hf rfl a ha)
 ·exact wp_cond_true hc' (ht rfl a ha)
theorem W.condP {c:Operand} {x y:Code} {p:Prop} [Decidable p] (hc:ev e c = .bool (decide p)) (ht:p->W P n x Q e w) (hf:¬p->W P n y Q e w) :
  W P n (.cond c x y) Q e w :=
 W.cond hc (fun h=>ht (of_decide_eq_true h)) (fun h=>hf (of_decide_eq_false h))
theorem W.condT {c:Operand} {x y:Code} (hc:ev e c = .bool true) (ht:W P n x Q e w):W P n (.cond c x y) Q e w :=
 W.cond hc (fun _=>ht) (fun h=>by cases h)
theorem W.condF {c:Operand} {x y:Code} (hc:ev e c = .bool false) (hf:W P n y Q e w):W P n (.cond c x y) Q e w :=
 W.cond hc (fun h=>by cases h) (fun _=>hf)
theorem W.block {id:Nat} {c:Code} (h:W P n c (inBlockE id Q) e w):W P n (.block id c) Q e w:=by
 intro a ha
 refine wp_block (wp_mono (h a ha) ?_)
 rintro ex a' w' ⟨e',r,q⟩
 cases ex with
 | normal=>exact ⟨e',r,q⟩
 | exit id' =>
  simp only [inBlockE] at q
  simp only [Exit.inBlock]
  split
  ·rename_i h; rw [if_pos h] at q; exact ⟨e',r,q⟩
  ·rename_i h; rw [if_neg h] at q; exact ⟨e',r,q⟩
 | goto l=>exact ⟨e',r,q⟩
 | ret=>exact ⟨e',r,q⟩
 | panic ch=>exact ⟨e',r,q⟩
 | outgrown=>exact ⟨e',r,q⟩
theorem W.loop {c:Code} (I:Nat->Env->World->Prop) (k₀:Nat) (h₀:I k₀ e w)
  (round:∀ k e w,I k e w->W P n c (thenE (fun e' w'=>∃ k',k' < k/\I k' e' w') Q) e w):W P n (.loop c) Q e w:=by
 intro a ha
 refine wp_loop_ghost (fun k a w=>∃ e,Rep n a e/\I k e w) k₀ ⟨e,ha,h₀⟩ ?_
 rintro k a w ⟨e,ha,hI⟩
 refine wp_mono (round k e w hI a ha) ?_
 rintro ex a' w' ⟨e',r,q⟩
 cases ex with
 | normal=>obtain ⟨k',hk,hI'⟩:=q; exact ⟨k',hk,e',r,hI'⟩
 | exit id=>exact ⟨e',r,q⟩
 | goto l=>exact ⟨e',r,q⟩
 | ret=>exact ⟨e',r,q⟩
 | panic ch=>exact ⟨e',r,q⟩
 | outgrown=>exact ⟨e',r,q⟩
def L (P:Program) [Ctx P] (n:Nat) (ops:Array Oper) (Q:Exit->Env->World->Prop) (l:List Oper) (e:Env) (w:World):Prop :=
 (∀ o ∈ l,dstB n o.dst = true)->∀ a,Rep n a e->wpList P ops (lift n Q) l a w
theorem W.region {id:Nat} {l:List Oper} (hB:regB n l = true) (h:L P n l.toArray Q l e w):W P n (.region id l.toArray false) Q e w :=
 fun a ha=>wp_region_lit (h (fun o ho=>List.all_eq_true.1 hB o ho) a ha)
variable {ops:Array Oper} {o:Oper} {rest:List Oper} {w':World} {v:Value}
theorem L.nil (h:Q .normal e w):L P n ops Q [] e w:=fun _ _ ha=>(⟨e,ha,h⟩:lift n Q .normal _ _)
def outL (P:Program) [Ctx P] (n:Nat) (ops:Array Oper) (Q:Exit->Env->World->Prop) (rest:List Oper) (o:Oper) (e:Env) (r:Out) (w':World):Prop:=match r with
 | .val v=>L P n ops Q rest (updO e o.dst v) w'
 | .skip=>L P n ops Q rest (updO e o.dst undef) w'
 | .enter f args=>Calls P f args w' fun
  | .returned v,w''=>L P n ops Q rest (updO e o.dst v) w''
  | .panicked chain,w''=>Q (.panic chain) e w''
  | .outgrown,_=>False
 | .panic v=>Q (.panic [{ v,recovered:=false }]) e w'
theorem L.op' {K:Out->World->Prop} (hw:Region.wanted o (yieldE ops e) = true) (hr:∀ τ d,∃ r w',DoesR P (execOp (ev e) o) (onT w τ d) r w'/\K r (onT w' w.tape w.drawn)) (k:∀ r w',K r w'->outL P n ops Q rest o e r w'):L P n ops Q (o :: rest) e w:=by
 intro hd a ha
 have hd':∀ o ∈ rest,dstB n o.dst = true:=fun o' ho'=>hd o' (List.mem_cons_of_mem _ ho')
 have hdo:=hd o List.mem_cons_self
 unfold wpList
 rw [wanted_rep ha,if_pos hw]
 intro τ d
 rw [ha.eval]
 obtain ⟨r,w',h1,h2⟩:=hr τ d
 refine ⟨r,w',h1,?_⟩
 have:=k r _ h2
 cases r with
 | val v=>exact this hd' _ (ha.put hdo v)
 | skip=>exact this hd' _ (ha.put hdo undef)
 | enter f args =>
  refine Calls.mono this fun x w'' hx=>?_
  cases x with
  | returned v=>exact hx hd' _ (ha.put hdo v)
  | panicked ch=>exact ⟨e,ha,hx⟩
  | outgrown=>exact hx
 | panic v=>exact ⟨e,ha,this⟩
theorem L.does {r:Out} (hw:Region.wanted o (yieldE ops e) = true) (hr:Does P (execOp (ev e) o) w r w') (k:outL P n ops Q rest o e r w'):L P n ops Q (o :: rest) e w:=by
 refine L.op' (K:=fun r' w1=>r' = r/\w1 = w') hw (fun τ d=>⟨r,onT w' τ d,hr.go τ d,rfl,?_⟩) ?_
 ·rw [<- hr.tape,<- hr.drawn]; rfl
 ·rintro r' w1 ⟨rfl,rfl⟩; exact k
theorem L.val' (hw:Region.wanted o (yieldE ops e) = true) (hr:Does P (execOp (ev e) o) w (.val v) w') (k:L P n ops Q rest (updO e o.dst v) w'):L P n ops Q (o :: rest) e w:=L.does hw hr k
theorem L.skip' (hw:Region.wanted o (yieldE ops e) = true) (hr:Does P (execOp (ev e) o) w .skip w') (k:L P n ops Q rest (updO e o.dst undef) w'):L P n ops Q (o :: rest) e w:=L.does hw hr k
theorem L.panic' (hw:Region.wanted o (yieldE ops e) = true) (hr:Does P (execOp (ev e) o) w (.panic v) w') (k:Q (.panic [{ v,recovered:=false }]) e w'):L P n ops Q (o :: rest) e w:=L.does hw hr k
theorem L.off (hw:Region.wanted o (yieldE ops e) = false) (k:L P n ops Q rest (updO e o.dst undef) w):L P n ops Q (o :: rest) e w:=by
 intro hd a ha
 unfold wpList
 rw [wanted_rep ha,hw]
 exact k (fun o' ho'=>hd o' (List.mem_cons_of_mem _ ho')) _ (ha.put (hd o List.mem_cons_self) undef)
def C (P:Program) [Ctx P] (f:FuncId) (args:Array Value) (w:World) (R:Value->World->Prop):Prop:=Calls P f args w (Ret R)
theorem C.mono {f:FuncId} {args:Array Value} {R R':Value->World->Prop} (h:C P f args w R) (hr:∀ v w,R v w->R' v w):C P f args w R' :=
 Calls.mono h fun e w' he=>by cases e <;> first | exact hr _ _ he | exact he
theorem L.call' {f:FuncId} {args:Array Value} {R:Value->World->Prop} (hw:Region.wanted o (yieldE ops e) = true) (hr:Does P (execOp (ev e) o) w (.enter f args) w')
  (hc:C P f args w' R) (k:∀ v w',R v w'->L P n ops Q rest (updO e o.dst v) w'):L P n ops Q (o :: rest) e w :=
 L.does hw hr (Calls.mono hc fun x w' hx=>by cases x <;> first | exact k _ _ hx | exact hx.elim)
theorem L.callP' {f:FuncId} {args:Array Value} {R:Ending->World->Prop} (hw:Region.wanted o (yieldE ops e) = true) (hr:Does P (execOp (ev e) o) w (.enter f args) w')
  (hc:Calls P f args w' R) (k:∀ v w',R (.returned v) w'->L P n ops Q rest (updO e o.dst v) w') (kp:∀ ch w',R (.panicked ch) w'->Q (.panic ch) e w') (ko:∀ w',¬ R .outgrown w'):L P n ops Q (o :: rest) e w :=
 L.does hw hr (Calls.mono hc fun x w' hx=>by cases x <;> first | exact k _ _ hx | exact kp _ _ hx | exact ko _ hx)
end
section
variable {P:Program} [Ctx P] {n:Nat} {Q:Exit->Env->World->Prop} {e:Env} {w w':World} {ops:Array Oper} {rest:List Oper} {v:Value}
variable {d:Nat} {op:Op} {ty:TypeId} {ps:String} {af:Array Edge}
theorem L.va (hr:Does P (execOp (ev e) ⟨some d,op,ty,ps,af,none⟩) w (.val v) w') (k:L P n ops Q rest (upd e d v) w'):L P n ops Q (⟨some d,op,ty,ps,af,none⟩ :: rest) e w :=
 L.val' rfl hr k
theorem L.st (hr:Does P (execOp (ev e) ⟨none,op,ty,ps,af,none⟩) w .skip w') (k:L P n ops Q rest e w'):L P n ops Q (⟨none,op,ty,ps,af,none⟩ :: rest) e w :=
 L.skip' rfl hr k
theorem L.call {f:FuncId} {args:Array Value} {R:Value->World->Prop} (hr:Does P (execOp (ev e) ⟨some d,op,ty,ps,af,none⟩) w (.enter f args) w)
  (hc:C P f args w R) (k:∀ v w',R v w'->L P n ops Q rest (upd e d v) w'):L P n ops Q (⟨some d,op,ty,ps,af,none⟩ :: rest) e w :=
 L.call' rfl hr hc k
variable {dst:Option Nat} {j:Nat} {want:Bool}
theorem L.on (hw:yieldE ops e j = some want) (k:L P n ops Q (⟨dst,op,ty,ps,af,none⟩ :: rest) e w):L P n ops Q (⟨dst,op,ty,ps,af,some (j,want)⟩ :: rest) e w:=by
 intro hd a ha
 have:=k (fun o ho=>by
  rcases List.mem_cons.1 ho with rfl | ho
  ·exact (hd ⟨dst,op,ty,ps,af,some (j,want)⟩ List.mem_cons_self:dstB n dst = true)
  ·exact hd _ (List.mem_cons_of_mem _ ho)) a ha
 unfold wpList at this ⊢
 rw [wanted_rep ha] at this ⊢
 have h1:Region.wanted ⟨dst,op,ty,ps,af,some (j,want)⟩ (yieldE ops e) = true:=by simp [Region.wanted,hw]
 have h2:Region.wanted ⟨dst,op,ty,ps,af,none⟩ (yieldE ops e) = true:=rfl
 rw [if_pos h1]
 rw [if_pos h2] at this
 exact this
end
section
variable {P:Program} [Ctx P] {n:Nat} {Q:Exit->Env->World->Prop} {e:Env} {w:World} {ops:Array Oper}
theorem wpList_mono {Q1 Q2:Exit->Act->World->Prop} (hq:∀ x a w,Q1 x a w->Q2 x a w):∀ (l:List Oper) (a:Act) (w:World),wpList P ops Q1 l a w->wpList P ops Q2 l a w
 | [],_,_,h=>hq _ _ _ h
 | o :: l,a,w,h=>by
  unfold wpList at h ⊢
  split
  ·rename_i hw
   rw [if_pos hw] at h
   exact opwp_mono (fun a w=>wpList_mono hq l a w) hq h
  ·rename_i hw
   rw [if_neg hw] at h
   exact wpList_mono hq l _ _ h
theorem wpList_append {Q':Exit->Act->World->Prop}:∀ (l1 l2:List Oper) (a:Act) (w:World),wpList P ops (Exit.then (wpList P ops Q' l2) Q') l1 a w->wpList P ops Q' (l1 ++ l2) a w
 | [],_,_,_,h=>h
 | o :: l1,l2,a,w,h=>by
  show wpList P ops Q' (o :: (l1 ++ l2)) a w
  unfold wpList at h ⊢
  split
  ·rename_i hw
   rw [if_pos hw] at h
   intro τ d
   obtain ⟨r,w',h1,h2⟩:=h τ d
   refine ⟨r,w',h1,?_⟩
   cases r with
   | val v=>exact wpList_append l1 l2 _ _ h2
   | skip=>exact wpList_append l1 l2 _ _ h2
   | enter f args=>exact Calls.mono h2 fun x w'' hx=>by cases x <;> first | exact wpList_append l1 l2 _ _ hx | exact hx
   | panic v=>exact h2
  ·rename_i hw
   rw [if_neg hw] at h
   exact wpList_append l1 l2 _ _ h
theorem L.cut (k:Nat) (R:Env->World->Prop) {l:List Oper} (h1:L P n ops (thenE R Q) (l.take k) e w) (h2:∀ e' w',R e' w'->L P n ops Q (l.drop k) e' w'):L P n ops Q l e w:=by
 intro hd a ha
 rw [<- List.take_append_drop k l] at hd ⊢
 refine wpList_append _ _ _ _ (wpList_mono ?_ _ _ _ (h1 (fun o ho=>hd o (List.mem_append_left _ ho)) a ha))
 rintro x a' w' ⟨e',r,q⟩
 cases x with
 | normal=>exact h2 e' w' q (fun o ho=>hd o (List.mem_append_right _ ho)) a' r
 | exit id=>exact ⟨e',r,q⟩
 | goto l=>exact ⟨e',r,q⟩
 | ret=>exact ⟨e',r,q⟩
 | panic ch=>exact ⟨e',r,q⟩
 | outgrown=>exact ⟨e',r,q⟩
theorem L.meet (k:Nat) (G:List Nat) (d:Nat) (v:Value) {l:List Oper} (h1:L P n ops (thenE (fun e' w'=>w' = w/\e' d = v/\Agree G e' e) Q) (l.take k) e w) (h2:∀ f,L P n ops Q (l.drop k) (upd (hav G f e) d v) w):L P n ops Q l e w:=by
 refine L.cut k _ h1 ?_
 rintro e' w' ⟨rfl,hd,hA⟩
 obtain ⟨f,hf⟩:=hA.out
 rw [upd_id hd,hf]
 exact h2 f
end
end Go.Vy
end
/- Vc2.lean's laws, for one goroutine among others (printed by port.py). Nothing here speaks of a program. -/
section
namespace Go.Vy
open Go Go.Conc Go.Yc
open Go.Vc
def LocRun (P:Program) [Ctx P] (J:(Nat->Bool)->World->Prop) (i:Nat) (v:Value) (D:Nat->Bool) (S:Sem Next) (w:World):Prop :=
 (∃ w',Does P S w (.val v) w'/\J (setD D i) w')\/(v = undef/\∃ w',Does P S w .skip w'/\J (setD D i) w') \/
 ∃ f args w',Does P S w (.enter f args) w'/\C P f args w' (fun r w''=>r = v/\J (setD D i) w'')
theorem opwp_loc {P:Program} [Ctx P] {J:(Nat->Bool)->World->Prop} {i:Nat} {v:Value} {D:Nat->Bool} {o:Oper} {a:Act} {w:World} {next:Act->World->Prop} {Q:Exit->Act->World->Prop} (h:LocRun P J i v D (execOp a.eval o) w) (hn:∀ w',J (setD D i) w'->next (a.put o.dst v) w'):opwp P o a w next Q:=by
 rcases h with ⟨w',h1,h2⟩ | ⟨rfl,w',h1,h2⟩ | ⟨f,args,w',h1,h2⟩
 ·exact opwp_does h1 (hn w' h2)
 ·exact opwp_does h1 (hn w' h2)
 ·refine opwp_does h1 (Calls.mono h2 fun x w'' hx=>?_)
  cases x with
  | returned u=>obtain ⟨rfl,hx⟩:=hx; exact hn w'' hx
  | panicked ch=>exact hx.elim
  | outgrown=>exact hx.elim
def Loc (P:Program) [Ctx P] (ops:Array Oper) (V:(Nat->Bool)->Prop) (J:(Nat->Bool)->World->Prop) (i:Nat) (o:Oper) (e:Env) (v:Value):Prop :=
 (Region.wanted o (yieldE ops e) = true/\∀ D w,D i = false->(V D/\V (setD D i))->depsOn o D->J D w->LocRun P J i v D (execOp (ev e) o) w) \/
 (Region.wanted o (yieldE ops e) = false/\v = undef/\∀ D w,D i = false->(V D/\V (setD D i))->depsOn o D->J D w->J (setD D i) w)
def JL (P:Program) [Ctx P] (ops:Array Oper) (V:(Nat->Bool)->Prop) (J:(Nat->Bool)->World->Prop) (Q:Env->Prop):Nat->List Oper->Env->Prop
 | _,[],e=>Q e
 | i,o :: rest,e=>∃ v,Loc P ops V J i o e v/\JL P ops V J Q (i + 1) rest (updO e o.dst v)
section
variable {P:Program} [Ctx P] {ops:Array Oper} {V:(Nat->Bool)->Prop} {J:(Nat->Bool)->World->Prop} {n:Nat}
theorem JL.collect {Q:Env->Prop}:∀ (l:List Oper) (i:Nat) (e:Env),JL P ops V J Q i l e ->
  ∃ vals:Nat->Value,(∀ k o,l[k]? = some o->Loc P ops V J (i + k) o (EE e l vals k) (vals k))/\Q (EE e l vals l.length)
 | [],_,_,h=>⟨fun _=>undef,fun k o ho=>by simp at ho,h⟩
 | o :: l,i,e,⟨v,hl,h⟩=>by
  obtain ⟨vals,h1,h2⟩:=JL.collect l (i + 1) _ h
  refine ⟨fun k=>match k with | 0=>v | k + 1=>vals k,?_,?_⟩
  ·intro k p hp
   cases k with
   | zero=>simp at hp; subst hp; exact hl
   | succ k =>
    rw [EE_cons]
    have:=h1 k p (by simpa using hp)
    rw [show i + (k + 1) = i + 1 + k by omega]
    exact this
  ·rw [List.length_cons,EE_cons]; exact h2
end
end Go.Vy
end
/- Vc3.lean's laws, for one goroutine among others (printed by port.py). Nothing here speaks of a program. -/
section
namespace Go.Vy
open Go Go.Conc Go.Yc
open Go.Vc
section
variable {P:Program} [Ctx P] {ρ:Operand->Value} {w:World} {d:Option Nat} {ty:TypeId} {ps:String} {af:Array Edge} {g:Option (Nat × Bool)}
variable {x y z:Operand} {T T' E S:TypeId}
end
section
variable {P:Program} {ρ:Operand->Value} {w:World} {d:Option Nat} {ty:TypeId} {ps:String} {af:Array Edge} {g:Option (Nat × Bool)}
variable {x y z:Operand} {T T' E S:TypeId}
theorem x_move:Does P (execOp ρ ⟨d,.move x,ty,ps,af,g⟩) w (.val (ρ x)) w :=
 .of_tame (tame_ok rfl _) rfl rfl fun _τ _d=>Go.Vc.x_move
theorem x_assign:Does P (execOp ρ ⟨d,.assign x,ty,ps,af,g⟩) w (.val (ρ x)) w :=
 .of_tame (tame_ok rfl _) rfl rfl fun _τ _d=>Go.Vc.x_assign
theorem x_mvI {κ:IntKind} {m:Int} (h:ρ x = .int κ m):Does P (execOp ρ ⟨d,.move x,ty,ps,af,g⟩) w (.val (.int κ m)) w :=
 .of_tame (tame_ok rfl _) rfl rfl fun _τ _d=>Go.Vc.x_mvI (h:=h)
theorem x_asI {κ:IntKind} {m:Int} (h:ρ x = .int κ m):Does P (execOp ρ ⟨d,.assign x,ty,ps,af,g⟩) w (.val (.int κ m)) w :=
 .of_tame (tame_ok rfl _) rfl rfl fun _τ _d=>Go.Vc.x_asI (h:=h)
theorem x_mvB {b:Bool} (h:ρ x = .bool b):Does P (execOp ρ ⟨d,.move x,ty,ps,af,g⟩) w (.val (.bool b)) w :=
 .of_tame (tame_ok rfl _) rfl rfl fun _τ _d=>Go.Vc.x_mvB (h:=h)
theorem x_asB {b:Bool} (h:ρ x = .bool b):Does P (execOp ρ ⟨d,.assign x,ty,ps,af,g⟩) w (.val (.bool b)) w :=
 .of_tame (tame_ok rfl _) rfl rfl fun _τ _d=>Go.Vc.x_asB (h:=h)
theorem x_mvS {a:Option Addr} {n c:Nat} (h:ρ x = .slice a n c):Does P (execOp ρ ⟨d,.move x,ty,ps,af,g⟩) w (.val (.slice a n c)) w :=
 .of_tame (tame_ok rfl _) rfl rfl fun _τ _d=>Go.Vc.x_mvS (h:=h)
theorem x_asS {a:Option Addr} {n c:Nat} (h:ρ x = .slice a n c):Does P (execOp ρ ⟨d,.assign x,ty,ps,af,g⟩) w (.val (.slice a n c)) w :=
 .of_tame (tame_ok rfl _) rfl rfl fun _τ _d=>Go.Vc.x_asS (h:=h)
theorem x_mvP {p:Option Addr} (h:ρ x = .pointer p):Does P (execOp ρ ⟨d,.move x,ty,ps,af,g⟩) w (.val (.pointer p)) w :=
 .of_tame (tame_ok rfl _) rfl rfl fun _τ _d=>Go.Vc.x_mvP (h:=h)
theorem x_asP {p:Option Addr} (h:ρ x = .pointer p):Does P (execOp ρ ⟨d,.assign x,ty,ps,af,g⟩) w (.val (.pointer p)) w :=
 .of_tame (tame_ok rfl _) rfl rfl fun _τ _d=>Go.Vc.x_asP (h:=h)
theorem x_mvT {cs:Array Value} (h:ρ x = .tuple cs):Does P (execOp ρ ⟨d,.move x,ty,ps,af,g⟩) w (.val (.tuple cs)) w :=
 .of_tame (tame_ok rfl _) rfl rfl fun _τ _d=>Go.Vc.x_mvT (h:=h)
theorem x_mvF {fn:Fn} {xs ys:Array Value} (h:ρ x = .func fn xs ys):Does P (execOp ρ ⟨d,.move x,ty,ps,af,g⟩) w (.val (.func fn xs ys)) w :=
 .of_tame (tame_ok rfl _) rfl rfl fun _τ _d=>Go.Vc.x_mvF (h:=h)
theorem x_asF {fn:Fn} {xs ys:Array Value} (h:ρ x = .func fn xs ys):Does P (execOp ρ ⟨d,.assign x,ty,ps,af,g⟩) w (.val (.func fn xs ys)) w :=
 .of_tame (tame_ok rfl _) rfl rfl fun _τ _d=>Go.Vc.x_asF (h:=h)
theorem x_pickT (h:ρ z = .bool true):Does P (execOp ρ ⟨d,.pick z x y,ty,ps,af,g⟩) w (.val (ρ x)) w :=
 .of_tame (tame_ok rfl _) rfl rfl fun _τ _d=>Go.Vc.x_pickT (h:=h)
theorem x_pickF (h:ρ z = .bool false):Does P (execOp ρ ⟨d,.pick z x y,ty,ps,af,g⟩) w (.val (ρ y)) w :=
 .of_tame (tame_ok rfl _) rfl rfl fun _τ _d=>Go.Vc.x_pickF (h:=h)
end
section
variable {P:Program} [Ctx P] {ρ:Operand->Value} {w:World} {d:Option Nat} {ty:TypeId} {ps:String} {af:Array Edge} {g:Option (Nat × Bool)}
variable {x y z:Operand} {T T' E S:TypeId}
section
variable {κ:IntKind} {m k:Int} (hx:ρ x = .int κ m) (hy:ρ y = .int κ k)
include hx hy
end
end
section
variable {P:Program} {ρ:Operand->Value} {w:World} {d:Option Nat} {ty:TypeId} {ps:String} {af:Array Edge} {g:Option (Nat × Bool)}
variable {x y z:Operand} {T T' E S:TypeId}
variable {κ:IntKind} {m k:Int} (hx:ρ x = .int κ m) (hy:ρ y = .int κ k)
include hx hy
theorem x_add:Does P (execOp ρ ⟨d,.binOp .add T x y T',ty,ps,af,g⟩) w (.val (.int κ (κ.wrap (m + k)))) w :=
 .of_tame (t_binInt hx hy) rfl rfl fun _τ _d=>Go.Vc.x_add (hx:=hx) (hy:=hy)
theorem x_sub:Does P (execOp ρ ⟨d,.binOp .sub T x y T',ty,ps,af,g⟩) w (.val (.int κ (κ.wrap (m - k)))) w :=
 .of_tame (t_binInt hx hy) rfl rfl fun _τ _d=>Go.Vc.x_sub (hx:=hx) (hy:=hy)
theorem x_quo (h0:k ≠ 0):Does P (execOp ρ ⟨d,.binOp .quo T x y T',ty,ps,af,g⟩) w (.val (.int κ (κ.wrap (m.tdiv k)))) w :=
 .of_tame (t_binInt hx hy) rfl rfl fun _τ _d=>Go.Vc.x_quo (hx:=hx) (hy:=hy) (h0:=h0)
theorem x_rem (h0:k ≠ 0):Does P (execOp ρ ⟨d,.binOp .rem T x y T',ty,ps,af,g⟩) w (.val (.int κ (m.tmod k))) w :=
 .of_tame (t_binInt hx hy) rfl rfl fun _τ _d=>Go.Vc.x_rem (hx:=hx) (hy:=hy) (h0:=h0)
theorem x_lss:Does P (execOp ρ ⟨d,.binOp .lss T x y T',ty,ps,af,g⟩) w (.val (.bool (decide (m < k)))) w :=
 .of_tame (t_binInt hx hy) rfl rfl fun _τ _d=>Go.Vc.x_lss (hx:=hx) (hy:=hy)
theorem x_gtr:Does P (execOp ρ ⟨d,.binOp .gtr T x y T',ty,ps,af,g⟩) w (.val (.bool (decide (k < m)))) w :=
 .of_tame (t_binInt hx hy) rfl rfl fun _τ _d=>Go.Vc.x_gtr (hx:=hx) (hy:=hy)
theorem x_geq:Does P (execOp ρ ⟨d,.binOp .geq T x y T',ty,ps,af,g⟩) w (.val (.bool (decide (k <= m)))) w :=
 .of_tame (t_binInt hx hy) rfl rfl fun _τ _d=>Go.Vc.x_geq (hx:=hx) (hy:=hy)
theorem x_eql:Does P (execOp ρ ⟨d,.binOp .eql T x y T',ty,ps,af,g⟩) w (.val (.bool (decide (m = k)))) w :=
 .of_tame (t_binInt hx hy) rfl rfl fun _τ _d=>Go.Vc.x_eql (hx:=hx) (hy:=hy)
theorem x_neq:Does P (execOp ρ ⟨d,.binOp .neq T x y T',ty,ps,af,g⟩) w (.val (.bool (decide (m ≠ k)))) w :=
 .of_tame (t_binInt hx hy) rfl rfl fun _τ _d=>Go.Vc.x_neq (hx:=hx) (hy:=hy)
end
section
variable {P:Program} [Ctx P] {ρ:Operand->Value} {w:World} {d:Option Nat} {ty:TypeId} {ps:String} {af:Array Edge} {g:Option (Nat × Bool)}
variable {x y z:Operand} {T T' E S:TypeId}
section
variable {κ:IntKind} {m k:Int} (hx:ρ x = .int κ m) (hy:ρ y = .int κ k)
include hx hy
end
end
section
variable {P:Program} {ρ:Operand->Value} {w:World} {d:Option Nat} {ty:TypeId} {ps:String} {af:Array Edge} {g:Option (Nat × Bool)}
variable {x y z:Operand} {T T' E S:TypeId}
theorem x_addI {m k:Int} (hx:ρ x = .int .i64 m) (hy:ρ y = .int .i64 k) (h:-9223372036854775808 <= m + k/\m + k <= 9223372036854775807):Does P (execOp ρ ⟨d,.binOp .add T x y T',ty,ps,af,g⟩) w (.val (.int .i64 (m + k))) w :=
 .of_tame (t_binInt hx hy) rfl rfl fun _τ _d=>Go.Vc.x_addI (hx:=hx) (hy:=hy) (h:=h)
theorem x_inc {k:Nat} (hx:ρ x = .int .i64 (k:Int)) (hy:ρ y = .int .i64 1) (h:k < 9223372036854775807):Does P (execOp ρ ⟨d,.binOp .add T x y T',ty,ps,af,g⟩) w (.val (.int .i64 ((k + 1:Nat):Int))) w :=
 .of_tame (t_binInt hx hy) rfl rfl fun _τ _d=>Go.Vc.x_inc (hx:=hx) (hy:=hy) (h:=h)
theorem x_not {b:Bool} (hx:ρ x = .bool b):Does P (execOp ρ ⟨d,.unOp .not T x,ty,ps,af,g⟩) w (.val (.bool (!b))) w :=
 .of_tame (tame_ok rfl _) rfl rfl fun _τ _d=>Go.Vc.x_not (hx:=hx)
theorem x_neg {k:Int} (hx:ρ x = .int .i64 k) (h:-9223372036854775808 < k/\k <= 9223372036854775807):Does P (execOp ρ ⟨d,.unOp .neg T x,ty,ps,af,g⟩) w (.val (.int .i64 (-k))) w :=
 .of_tame (tame_ok rfl _) rfl rfl fun _τ _d=>Go.Vc.x_neg (hx:=hx) (h:=h)
theorem x_len {a:Option Addr} {n c:Nat} {aT:Array TypeId} (hx:ρ x = .slice a n c) (hT:P.underlying T = some (.slice E)) (hA:aT[0]? = some T) :
  Does P (execOp ρ ⟨d,.call ⟨.builtin .len,#[x],aT⟩,ty,ps,af,g⟩) w (.val (.int .i64 (n:Int))) w :=
 .of_tame (tame_ok rfl _) rfl rfl fun _τ _d=>Go.Vc.x_len (hx:=hx) (hT:=hT) (hA:=hA)
theorem x_index {b o n c s:Nat} {i:Nat} (hx:ρ x = .slice (some ⟨b,o,none⟩) n c) (hy:ρ y = .int .i64 (i:Int)) (hT:P.underlying T = some (.slice E)) (hs:(P.info? E).map (·.size) = some s) (h:i < n) :
  Does P (execOp ρ ⟨d,.indexAddr T x y,ty,ps,af,g⟩) w (.val (.pointer (some ⟨b,o + i * s,none⟩))) w :=
 .of_tame (tame_ok rfl _) rfl rfl fun _τ _d=>Go.Vc.x_index (hx:=hx) (hy:=hy) (hT:=hT) (hs:=hs) (h:=h)
theorem x_indexArr {b o n s:Nat} {i:Int} (hx:ρ x = .pointer (some ⟨b,o,none⟩)) (hy:ρ y = .int .i64 i) (hT:P.underlying T = some (.array n E)) (hs:(P.info? E).map (·.size) = some s) (h0:0 <= i) (h:i < n) :
  Does P (execOp ρ ⟨d,.indexAddr T x y,ty,ps,af,g⟩) w (.val (.pointer (some ⟨b,o + i.toNat * s,none⟩))) w :=
 .of_tame (tame_ok rfl _) rfl rfl fun _τ _d=>Go.Vc.x_indexArr (hx:=hx) (hy:=hy) (hT:=hT) (hs:=hs) (h0:=h0) (h:=h)
theorem x_field {b o f:Nat} {fs:Array Field} {fl:Field} {s:Nat} (hx:ρ x = .pointer (some ⟨b,o,none⟩)) (hT:P.underlying S = some (.struct fs)) (hf:fs[f]? = some fl) (hs:(P.info? fl.type).map (·.size) = some s) (h0:s ≠ 0) :
  Does P (execOp ρ ⟨d,.fieldAddr S x f,ty,ps,af,g⟩) w (.val (.pointer (some ⟨b,o + fl.offset,none⟩))) w :=
 .of_tame (t_fieldAddr hx hT hf hs h0) rfl rfl fun _τ _d=>Go.Vc.x_field (hx:=hx) (hT:=hT) (hf:=hf) (hs:=hs) (h0:=h0)
theorem x_load {p:Addr} {u:TypeDesc} {v:Value} (hx:ρ x = .pointer (some p)) (hT:P.underlying T = some u) (hu:flatB u = true) (hc:w.cell? p = some v) :
  Does P (execOp ρ ⟨d,.load T x,ty,ps,af,g⟩) w (.val v) w :=
 .of_tame (tame_ok rfl _) rfl rfl fun _τ _d=>Go.Vc.x_load (hx:=hx) (hT:=hT) (hu:=hu) (hc:=hc)
theorem x_loadAgg {b o:Nat} {u:TypeDesc} {cs:List Value} {s:Nat} (hx:ρ x = .pointer (some ⟨b,o,none⟩)) (hT:P.underlying T = some u) (hu:flatB u = false) (hs:(P.info? T).map (·.size) = some s) (hl:cs.length = s)
  (hc:∀ j v,cs[j]? = some v->w.cell? ⟨b,o + j,none⟩ = some v) :
  Does P (execOp ρ ⟨d,.load T x,ty,ps,af,g⟩) w (.val (.agg cs.toArray)) w :=
 .of_tame (tame_ok rfl _) rfl rfl fun _τ _d=>Go.Vc.x_loadAgg (hx:=hx) (hT:=hT) (hu:=hu) (hs:=hs) (hl:=hl) (hc:=hc)
theorem x_store {p:Addr} {v v0:Value} (hx:ρ x = .pointer (some p)) (hy:ρ y = v) (hs:(P.info? T).map (·.size) = some 1) (h1:v.oneCell' = true) (hc:w.cell? p = some v0) (hf:w.frozen? p = false) :
  Does P (execOp ρ ⟨d,.store T x y,ty,ps,af,g⟩) w .skip (w.setCell p v) :=
 .of_tame (tame_ok rfl _) rfl rfl fun _τ _d=>Go.Vc.x_store (hx:=hx) (hy:=hy) (hs:=hs) (h1:=h1) (hc:=hc) (hf:=hf)
theorem x_extract {vs:Array Value} {i:Nat} {v:Value} (hx:ρ x = .tuple vs) (hv:vs[i]? = some v):Does P (execOp ρ ⟨d,.extract x i,ty,ps,af,g⟩) w (.val v) w :=
 .of_tame (tame_ok rfl _) rfl rfl fun _τ _d=>Go.Vc.x_extract (hx:=hx) (hv:=hv)
theorem x_call {f:FuncId} {first cap args:Array Value} {fn:Func} {xs:Array Operand} {aT:Array TypeId} (hx:ρ x = .func (.func f) first cap) (ha:xs.map ρ = args) (hf:P.funcs[f]? = some fn) (hb:fn.body.isSome = true) (hn:(fn.name == "runtime.NumGoroutine") = false) :
  Does P (execOp ρ ⟨d,.call ⟨.value x,xs,aT⟩,ty,ps,af,g⟩) w (.enter f (first ++ args ++ cap)) w :=
 .of_tame (t_callF hx hf hb hn) rfl rfl fun _τ _d=>Go.Vc.x_call (hx:=hx) (ha:=ha) (hf:=hf) (hb:=hb) (hn:=hn)
theorem x_call0 {f:FuncId} {fn:Func} {aT:Array TypeId} (hf:P.funcs[f]? = some fn) (hb:fn.body.isSome = true) (hn:(fn.name == "runtime.NumGoroutine") = false) (hx:ρ (.func f) = .func (.func f) #[] #[]) :
  Does P (execOp ρ ⟨d,.call ⟨.value (.func f),#[],aT⟩,ty,ps,af,g⟩) w (.enter f #[]) w :=
 .of_tame (t_callF hx hf hb hn) rfl rfl fun _τ _d=>Go.Vc.x_call0 (hf:=hf) (hb:=hb) (hn:=hn) (hx:=hx)
theorem x_call1 {f:FuncId} {fn:Func} {aT:Array TypeId} {x0:Operand} {v0:Value} (h0:ρ x0 = v0) (hf:P.funcs[f]? = some fn) (hb:fn.body.isSome = true) (hn:(fn.name == "runtime.NumGoroutine") = false) (hx:ρ (.func f) = .func (.func f) #[] #[]) :
  Does P (execOp ρ ⟨d,.call ⟨.value (.func f),#[x0],aT⟩,ty,ps,af,g⟩) w (.enter f #[v0]) w :=
 .of_tame (t_callF hx hf hb hn) rfl rfl fun _τ _d=>Go.Vc.x_call1 (h0:=h0) (hf:=hf) (hb:=hb) (hn:=hn) (hx:=hx)
theorem x_call2 {f:FuncId} {fn:Func} {aT:Array TypeId} {x0 x1:Operand} {v0 v1:Value} (h0:ρ x0 = v0) (h1:ρ x1 = v1) (hf:P.funcs[f]? = some fn) (hb:fn.body.isSome = true) (hn:(fn.name == "runtime.NumGoroutine") = false) (hx:ρ (.func f) = .func (.func f) #[] #[]) :
  Does P (execOp ρ ⟨d,.call ⟨.value (.func f),#[x0,x1],aT⟩,ty,ps,af,g⟩) w (.enter f #[v0,v1]) w :=
 .of_tame (t_callF hx hf hb hn) rfl rfl fun _τ _d=>Go.Vc.x_call2 (h0:=h0) (h1:=h1) (hf:=hf) (hb:=hb) (hn:=hn) (hx:=hx)
theorem x_call3 {f:FuncId} {fn:Func} {aT:Array TypeId} {x0 x1 x2:Operand} {v0 v1 v2:Value} (h0:ρ x0 = v0) (h1:ρ x1 = v1) (h2:ρ x2 = v2) (hf:P.funcs[f]? = some fn) (hb:fn.body.isSome = true) (hn:(fn.name == "runtime.NumGoroutine") = false) (hx:ρ (.func f) = .func (.func f) #[] #[]) :
  Does P (execOp ρ ⟨d,.call ⟨.value (.func f),#[x0,x1,x2],aT⟩,ty,ps,af,g⟩) w (.enter f #[v0,v1,v2]) w :=
 .of_tame (t_callF hx hf hb hn) rfl rfl fun _τ _d=>Go.Vc.x_call3 (h0:=h0) (h1:=h1) (h2:=h2) (hf:=hf) (hb:=hb) (hn:=hn) (hx:=hx)
theorem x_call4 {f:FuncId} {fn:Func} {aT:Array TypeId} {x0 x1 x2 x3:Operand} {v0 v1 v2 v3:Value} (h0:ρ x0 = v0) (h1:ρ x1 = v1) (h2:ρ x2 = v2) (h3:ρ x3 = v3) (hf:P.funcs[f]? = some fn) (hb:fn.body.isSome = true) (hn:(fn.name == "runtime.NumGoroutine") = false) (hx:ρ (.func f) = .func (.func f) #[] #[]) :
  Does P (execOp ρ ⟨d,.call ⟨.value (.func f),#[x0,x1,x2,x3],aT⟩,ty,ps,af,g⟩) w (.enter f #[v0,v1,v2,v3]) w :=
 .of_tame (t_callF hx hf hb hn) rfl rfl fun _τ _d=>Go.Vc.x_call4 (h0:=h0) (h1:=h1) (h2:=h2) (h3:=h3) (hf:=hf) (hb:=hb) (hn:=hn) (hx:=hx)
theorem x_box {v:Value} (hx:ρ x = v):Does P (execOp ρ ⟨d,.box T x,ty,ps,af,g⟩) w (.val (.pointer (some ⟨w.heap.size,0,none⟩))) (w.alloc (.cells v.cells T)) :=
 .of_tame (tame_ok rfl _) rfl rfl fun _τ _d=>Go.Vc.x_box (hx:=hx)
theorem x_alloc {v:Value} (hz:(P.info? T).bind (·.zero) = some v):Does P (execOp ρ ⟨d,.alloc T,ty,ps,af,g⟩) w (.val (.pointer (some ⟨w.heap.size,0,none⟩))) (w.alloc (.cells v.cells T)) :=
 .of_tame (tame_ok rfl _) rfl rfl fun _τ _d=>Go.Vc.x_alloc (hz:=hz)
end
section
variable {P:Program} [Ctx P] {ρ:Operand->Value} {w:World} {d:Option Nat} {ty:TypeId} {ps:String} {af:Array Edge} {g:Option (Nat × Bool)}
variable {x y z:Operand} {T T' E S:TypeId}
end
def QL (P:Program) [Ctx P] (ops:Array Oper) (Cl:World->Prop) (Q:Env->Prop) (i:Nat) (l:List Oper) (e:Env):Prop:=∀ V:(Nat->Bool)->Prop,JL P ops V (fun _=>Cl) Q i l e
section
variable {P:Program} [Ctx P] {ops:Array Oper} {Cl:World->Prop} {Q:Env->Prop} {i:Nat} {e:Env} {rest:List Oper} {v:Value}
variable {d:Nat} {op:Op} {ty:TypeId} {ps:String} {af:Array Edge} {dst:Option Nat} {j:Nat} {want:Bool}
theorem D.nil (h:Q e):QL P ops Cl Q i [] e:=fun _=>h
theorem D.va (hr:∀ w,Cl w->Does P (execOp (ev e) ⟨some d,op,ty,ps,af,none⟩) w (.val v) w) (k:QL P ops Cl Q (i + 1) rest (upd e d v)):QL P ops Cl Q i (⟨some d,op,ty,ps,af,none⟩ :: rest) e :=
 fun V=>⟨v,.inl ⟨rfl,fun _ w _ _ _ hw=>.inl ⟨w,hr w hw,hw⟩⟩,k V⟩
theorem D.on (hw:yieldE ops e j = some want) (k:QL P ops Cl Q i (⟨dst,op,ty,ps,af,none⟩ :: rest) e):QL P ops Cl Q i (⟨dst,op,ty,ps,af,some (j,want)⟩ :: rest) e:=by
 intro V
 obtain ⟨v,h,k⟩:=k V
 refine ⟨v,?_,k⟩
 rcases h with ⟨_,h⟩ | ⟨h,_⟩
 ·exact .inl ⟨by simp [Region.wanted,hw],h⟩
 ·cases h
end
section
variable {P:Program} [Ctx P] {ops:Array Oper} {V:(Nat->Bool)->Prop} {J:(Nat->Bool)->World->Prop} {Q:Env->Prop} {i:Nat} {e:Env} {rest:List Oper} {v:Value}
variable {d:Nat} {op:Op} {ty:TypeId} {ps:String} {af:Array Edge}
end
def ends (P:Program) (fn:Func) (R:Value->World->Prop):Exit->Env->World->Prop:=fun x e w =>
 (x = .normal\/x = .ret)/\∃ v,(∀ tmps:Array Value,(∀ t,tmps.getD t undef = e t)->ResDoes P fn tmps w v)/\R v w
theorem resDoes_pure {P:Program} {fn:Func} {tmps:Array Value} {w:World} {v:Value} (h1:∀ w,(results fn tmps).run P w = .ok v w) (h2:∀ w,(results fn tmps).events P w #[] = #[]):ResDoes P fn tmps w v :=
 fun τ d ρ x hx=>⟨x,#[],by rw [Sem.runT_eq,h1,h2],hx,fun e he=>by simp at he⟩
theorem wpOps_eq_wpList {P:Program} [Ctx P] {ops:Array Oper} {Q:Exit->Act->World->Prop} (l:List Oper):∀ k,(∀ j,l[j]? = ops[k + j]?)->wpOps P ops Q (List.range' k l.length) = wpList P ops Q l:=by
 induction l with
 | nil=>intro k _; funext a w; simp [wpOps,wpList]
 | cons o l ih =>
  intro k h
  have h0:ops[k]? = some o:=by simpa using (h 0).symm
  have ih':=ih (k + 1) (fun j=>by have:=h (j + 1); simpa [Nat.add_assoc,Nat.add_comm 1 j] using this)
  funext a w
  simp only [List.length_cons,List.range'_succ,wpOps,h0,wpList,ih']
theorem fnOr {v:Value} {p q:Prop} (hv:(v = .nilFunc/\p)\/(∃ f xs ys,v = .func f xs ys/\q)):v = .nilFunc\/∃ f xs ys,v = .func f xs ys:=hv.imp (fun h=>h.1) fun ⟨f,xs,ys,h,_⟩=>⟨f,xs,ys,h⟩
theorem resDoes_tame {P:Program} {fn:Func} {tmps:Array Value} {w:World} {v:Value} (ht:tame P (results fn tmps)) (h1:∀ τ d,(results fn tmps).run P (onT w τ d) = .ok v (onT w τ d)):ResDoes P fn tmps w v:=by
 intro τ d ρ x hs
 have h1':((results fn tmps).runT P (onT w τ d) #[]).1 = .ok v (onT w τ d):=by rw [Sem.runT_eq]; exact h1 τ d
 have hf:Yc.fine ((results fn tmps).runT P (onT w τ d) #[]).1:=by rw [h1']; trivial
 obtain ⟨⟨x',h2,h3⟩,h4,h5⟩:=sim_runT ht hs hf
 rw [h1'] at h2 h3
 refine ⟨x',_,h2,h3,fun e he=>(h5 e he).resolve_left (by simp)⟩
theorem tame_results {P:Program} {fn:Func} {tmps:Array Value}:tame P (results fn tmps):=by
 unfold results
 refine t_bind (t_mapMA (fun r=>?_) _) fun vs=>t_pure _
 cases r with
 | tmp t=>exact t_pure _
 | cell a t=>exact t_bind (t_asAddr _) fun a=>t_loadVar _ _
theorem C.enter {P:Program} [Ctx P] {f:FuncId} {fn:Func} {c:Code} {args:Array Value} {w:World} {R:Value->World->Prop} {n:Nat} (hf:P.funcs[f]? = some fn) (hb:fn.body = some c) (hn:args.size + (fn.ntmps - args.size) = n)
  (h:W P n c (ends P fn R) (argE args) w):C P f args w R:=by
 refine calls_of_wp hf hb (wp_mono (h _ ⟨?_,rfl,?_⟩) ?_)
 ·simp [hn]
 ·intro t
  simp only [argE,Array.getD_eq_getD_getElem?,Array.getElem?_append]
  split
  ·rfl
  ·rename_i ht
   rw [Array.getElem?_eq_none (by omega:args.size <= t)]
   simp only [Array.getElem?_replicate]
   split <;> rfl
 ·rintro x a w' ⟨e',r,hx,v,hv,hR⟩
  have:=hv a.tmps r.get
  rcases hx with rfl | rfl
  ·exact ⟨r.defers,v,this,hR⟩
  ·exact ⟨r.defers,v,this,hR⟩
theorem ends.one {P:Program} {fn:Func} {R:Value->World->Prop} {x:Exit} {e:Env} {w:World} {t:Nat} (hx:x = .normal\/x = .ret) (hr:fn.results = #[.tmp t]) (h:R (e t) w):ends P fn R x e w :=
 ⟨hx,_,fun tmps ht=>resDoes_pure (fun w=>by rw [results_tmp hr,ht]) (fun w=>events_results_tmp hr _ _),h⟩
theorem ends.none {P:Program} {fn:Func} {R:Value->World->Prop} {x:Exit} {e:Env} {w:World} (hx:x = .normal\/x = .ret) (hr:fn.results = #[]) (h:R (.tuple #[]) w):ends P fn R x e w :=
 ⟨hx,_,fun tmps _=>resDoes_pure (fun w=>results_none hr tmps P w) (fun _w=>events_results_none hr _ _),h⟩
end Go.Vy
end
/- Vc4.lean's laws, for one goroutine among others (printed by port.py). Nothing here speaks of a program. -/
section
namespace Go.Vy
open Go Go.Yc Go.RowKit
open Go.Vc
section
variable {P:Program} [Ctx P] {n:Nat} {Q:Exit->Env->World->Prop} {e:Env} {w:World} {ops:Array Oper} {rest:List Oper}
variable {d:Nat} {ty:TypeId} {ps:String} {af:Array Edge} {T:TypeId} {x y:Operand}
theorem L.box {v:Value} {cs:Array Value} (hx:ev e x = v) (hcs:v.cells = cs) (k:∀ w1 b,Fresh w w1 b cs T->L P n ops Q rest (upd e d (.pointer (some ⟨b,0,none⟩))) w1) :
  L P n ops Q (⟨some d,.box T x,ty,ps,af,none⟩ :: rest) e w:=by
 subst hcs
 exact L.va (x_box hx) (k _ _ (fresh_alloc w _ T))
theorem L.alloc {v:Value} {cs:Array Value} (hz:(P.info? T).bind (·.zero) = some v) (hcs:v.cells = cs) (k:∀ w1 b,Fresh w w1 b cs T->L P n ops Q rest (upd e d (.pointer (some ⟨b,0,none⟩))) w1) :
  L P n ops Q (⟨some d,.alloc T,ty,ps,af,none⟩ :: rest) e w:=by
 subst hcs
 exact L.va (x_alloc hz) (k _ _ (fresh_alloc w _ T))
theorem L.storeAgg {b o s:Nat} {cs vs:Array Value} {E:TypeId} {v:Value} (hx:ev e x = .pointer (some ⟨b,o,none⟩)) (hy:ev e y = v) (hvs:v.cells = vs) (hs:(P.info? T).map (·.size) = some s) (hl:vs.size = s) (h1:∀ v ∈ vs.toList,v.oneCell' = true) (hB:Blk w b cs E) (ho:o + s <= cs.size)
  (k:L P n ops Q rest e (setBlk w b (setRow cs o vs.toList) E)):L P n ops Q (⟨none,.store T x y,ty,ps,af,none⟩ :: rest) e w:=by
 refine L.st (w':=setBlk w b (setRow cs o vs.toList) E) (.of_tame (tame_ok rfl _) rfl rfl fun τ d=>?_) k
 have:=run_storeCells_blk (P:=P) b E vs.toList o 0 cs (onT w τ d) hB (by simp; omega) h1
 show _ = Result.ok Next.skip (setBlk (onT w τ d) b (setRow cs o vs.toList) E)
 simp [execOp,Instr.storeAt,hx,hy,Instr.sureAddr,storeVar,Go.Vc.run_sizeOf hs,hvs,hl,this]
end
section
variable {P:Program} [Ctx P] {n:Nat} {Q:Exit->Env->World->Prop} {e:Env} {w:World} {ops:Array Oper}
theorem L.meetB (k:Nat) (G:List Nat) (d:Nat) (v:Value) {tj:Nat} {b:Bool} {l:List Oper} (hb:e tj = .bool b)
  (ht:b = true->L P n ops (thenE (fun e' w'=>w' = w/\e' d = v/\Agree G e' e) Q) (l.take k) (upd e tj (.bool true)) w)
  (hf:b = false->L P n ops (thenE (fun e' w'=>w' = w/\e' d = v/\Agree G e' e) Q) (l.take k) (upd e tj (.bool false)) w)
  (h2:∀ f,L P n ops Q (l.drop k) (upd (hav G f e) d v) w):L P n ops Q l e w:=by
 refine L.meet k G d v ?_ h2
 cases b
 ·have:=hf rfl; rw [<- upd_id hb] at this; exact this
 ·have:=ht rfl; rw [<- upd_id hb] at this; exact this
variable {Cl:World->Prop} {R:Env->Prop} {i:Nat}
end
section
variable {P:Program} [Ctx P] {ρ:Operand->Value} {w:World} {d:Option Nat} {ty:TypeId} {ps:String} {af:Array Edge} {g:Option (Nat × Bool)} {x y:Operand} {T E:TypeId}
end
section
variable {P:Program} {ρ:Operand->Value} {w:World} {d:Option Nat} {ty:TypeId} {ps:String} {af:Array Edge} {g:Option (Nat × Bool)} {x y:Operand} {T E:TypeId}
theorem x_idx {a:Option Addr} {n c s:Nat} {i:Nat} (hx:ρ x = .slice a n c) (hy:ρ y = .int .i64 (i:Int)) (hT:P.underlying T = some (.slice E)) (hs:(P.info? E).map (·.size) = some s) (hS:SL a n) (h:i < n) :
  Does P (execOp ρ ⟨d,.indexAddr T x y,ty,ps,af,g⟩) w (.val (.pointer (some ⟨ab a,ao a + i * s,none⟩))) w :=
 .of_tame (tame_ok rfl _) rfl rfl fun _τ _d=>Go.Vc.x_idx (hx:=hx) (hy:=hy) (hT:=hT) (hs:=hs) (hS:=hS) (h:=h)
end
section
variable {P:Program} [Ctx P] {ρ:Operand->Value} {w:World} {d:Option Nat} {ty:TypeId} {ps:String} {af:Array Edge} {g:Option (Nat × Bool)} {x y:Operand} {T E:TypeId}
end
section
variable {next:Env->World->Prop} {Q:Exit->Env->World->Prop} {e:Env} {w:World} {id id':Nat}
end
end Go.Vy
end
/- Vc5.lean's laws, for one goroutine among others (printed by port.py). Nothing here speaks of a program. -/
section
namespace Go.Vy
open Go Go.Yc Go.RowKit
open Go.Vc
section
variable {w w':World} {B:Nat} {E:TypeId} {s:Nat} {a:Option Addr} {n c:Nat} {xs:List Value}
end
section
variable {P:Program} [Ctx P] {n:Nat} {Q:Exit->Env->World->Prop} {e:Env} {w:World} {ops:Array Oper} {rest:List Oper}
variable {d:Nat} {ty:TypeId} {ps:String} {af:Array Edge} {T E:TypeId} {x y z:Operand}
theorem L.may {P:Program} [Ctx P] {n:Nat} {Q:Exit->Env->World->Prop} {e:Env} {w:World} {ops:Array Oper} {rest:List Oper} {d:Nat} {op:Op} {ty:TypeId} {ps:String} {af:Array Edge} {R:Value->World->Prop} (ht:tame P (execOp (ev e) ⟨some d,op,ty,ps,af,none⟩))
  (hr:∀ τ d',∃ v w',(execOp (ev e) ⟨some d,op,ty,ps,af,none⟩).run P (onT w τ d') = .ok (.value v) w'/\R v (onT w' w.tape w.drawn)) (k:∀ v w',R v w'->L P n ops Q rest (upd e d v) w'):L P n ops Q (⟨some d,op,ty,ps,af,none⟩ :: rest) e w:=by
 refine L.op' (K:=fun r w'=>∃ v,r = .val v/\R v w') rfl (fun τ d'=>?_) ?_
 ·obtain ⟨v,w',h1,h2⟩:=hr τ d'
  exact ⟨.val v,w',doesR_of_tame ht h1,v,rfl,h2⟩
 ·rintro r w' ⟨v,rfl,h⟩
  exact k v w' h
theorem grown_onT {w w':World} {τ:Tape} {d:Nat} {x:Option Nat} (h:(onT w τ d).grownBy w' x):w.grownBy (onT w' w.tape w.drawn) x:=⟨h.os,rfl,h.output,h.size,h.block⟩
theorem below_onT {B:Nat} {w w':World} {τ:Tape} {d:Nat} (h:Below B (onT w τ d) w'):Below B w (onT w' w.tape w.drawn):=⟨h.os,rfl,h.output,h.size,h.block⟩
theorem L.make {m s bytes:Nat} {zv z0:Value} (hx:ev e x = .int .i64 (m:Int)) (hy:ev e y = .int .i64 (m:Int)) (hT:P.underlying T = some (.slice E)) (hi:(P.info? E).map (fun i=>(i.zero,i.size,i.bytes)) = some (some zv,s,bytes)) (hz:zv.cells = Array.replicate s z0) (hs:0 < s)
  (hm:m <= 9223372036854775807) (hb:m * bytes <= 281474976710656) (k:∀ w1 b,Fresh w w1 b (Array.replicate (m * s) z0) E->L P n ops Q rest (upd e d (.slice (some ⟨b,0,none⟩) m m)) w1) :
  L P n ops Q (⟨some d,.makeSlice T x y,ty,ps,af,none⟩ :: rest) e w:=by
 refine L.va (w':=w.alloc (.cells (Array.replicate (m * s) z0) E)) (.of_tame (tame_ok rfl _) rfl rfl fun τ d'=>?_) (k _ _ (fresh_alloc w _ E))
 show (execOp (ev e) ⟨some d,.makeSlice T x y,ty,ps,af,none⟩).run P (onT w τ d') = .ok (.value (.slice (some ⟨(onT w τ d').heap.size,0,none⟩) m m)) ((onT w τ d').alloc (.cells (Array.replicate (m * s) z0) E))
 generalize onT w τ d' = w
 obtain ⟨i,hi'⟩:∃ i,P.info? E = some i:=by cases hh:P.info? E with | none=>rw [hh] at hi; cases hi | some i=>exact ⟨i,rfl⟩
 rw [hi'] at hi
 simp only [Option.map_some,Option.some.injEq,Prod.mk.injEq] at hi
 obtain ⟨h1,rfl,rfl⟩:=hi
 have hr:=run_make (P:=P) w T E i zv hT hi' h1 .i64 .i64 (m:Int) (m:Int) (by omega) (Int.le_refl _) (by
  have:((m * i.bytes:Nat):Int) <= 281474976710656:=by omega
  rw [Int.natCast_mul,Int.mul_comm] at this; exact this) (by omega)
 rw [hz,madeCells_rep _ _ hs] at hr
 simp only [Int.toNat_natCast] at hr
 simp only [execOp,hx,hy,Sem.run_bind,hr,Result.andThen_ok,Sem.run_pure]
theorem L.build1 {s:Nat} {v:Value} {cs:Array Value} (hx:ev e x = v) (hcs:v.cells = cs) (hT:P.underlying T = some (.slice E)) (hs:(P.info? E).map (·.size) = some s) (hl:cs.size = s) (hz:∃ zv,(P.info? E).bind (·.zero) = some zv) (hlt:0 < s/\s <= 16777216)
  (k:∀ w1 b,Fresh w w1 b cs E->L P n ops Q rest (upd e d (.slice (some ⟨b,0,none⟩) 1 1)) w1) :
  L P n ops Q (⟨some d,.buildSlice T 1 #[(0,x)],ty,ps,af,none⟩ :: rest) e w:=by
 refine L.va (w':=w.alloc (.cells cs E)) (.of_tame (tame_ok rfl _) rfl rfl fun τ d'=>?_) (k _ _ (fresh_alloc w _ E))
 show (execOp (ev e) ⟨some d,.buildSlice T 1 #[(0,x)],ty,ps,af,none⟩).run P (onT w τ d') = .ok (.value (.slice (some ⟨(onT w τ d').heap.size,0,none⟩) 1 1)) ((onT w τ d').alloc (.cells cs E))
 generalize onT w τ d' = w
 obtain ⟨zv,hz⟩:=hz
 have hlt':¬ (1 * s > 2 ^ 24):=by omega
 have hsz:v.cells.size = s:=by rw [hcs,hl]
 have hf:=fun cs0:Array Value=>fun h:cs0.size = s=>fill_one v.cells.toList 0 cs0 (by simp [h,hsz])
 simp only [execOp,Instr.buildSlice,List.map_toArray,List.map_cons,List.map_nil,hx,Go.Vc.run_underlying hT,Go.Vc.run_sizeOf hs,Sem.run_bind,Result.andThen_ok,hlt',if_false,Sem.run_pure]
 have h0:¬ 1 * s = 0:=by omega
 ·simp only [h0,if_false,Sem.run_bind,Go.Vc.run_zeroValue hz,Result.andThen_ok,Sem.run_pure,Instr.fill,Nat.zero_mul,hsz,ne_eq,not_true_eq_false,decide_false,Bool.false_or]
  have h3:=hf ((Array.range (1 * s)).map (fun i=>zv.cells[i % zv.cells.size]!)) (by simp)
  simp only [List.take_zero,List.nil_append] at h3
  have h4:¬ (0 + s > (Array.map (fun x=>zv.cells[x % zv.cells.size]!) (Array.range (1 * s))).size):=by simp
  rw [<- Array.foldl_toList,Array.toList_zipIdx]
  rw [h3]
  simp [newRow,hcs]
theorem L.build0 {s:Nat} (hT:P.underlying T = some (.slice E)) (hs:(P.info? E).map (·.size) = some s) (k:∀ w1 b,Fresh w w1 b #[] E->L P n ops Q rest (upd e d (.slice (some ⟨b,0,none⟩) 0 0)) w1) :
  L P n ops Q (⟨some d,.buildSlice T 0 #[],ty,ps,af,none⟩ :: rest) e w:=by
 refine L.va (w':=w.alloc (.cells #[] E)) (.of_tame (tame_ok rfl _) rfl rfl fun τ d'=>?_) (k _ _ (fresh_alloc w _ E))
 show (execOp (ev e) ⟨some d,.buildSlice T 0 #[],ty,ps,af,none⟩).run P (onT w τ d') = .ok (.value (.slice (some ⟨(onT w τ d').heap.size,0,none⟩) 0 0)) ((onT w τ d').alloc (.cells #[] E))
 generalize onT w τ d' = w
 simp [execOp,Instr.buildSlice,Go.Vc.run_underlying hT,Go.Vc.run_sizeOf hs,Instr.fill,newRow,Array.range_zero']
theorem L.append {B s bytes m c':Nat} {a:Option Addr} {k c:Nat} {xs news:List Value} {zv:Value} {ad:Addr} (hx:ev e x = .slice a k c) (hy:ev e y = .slice (some ad) m c') (hT:P.underlying T = some (.slice E))
  (hi:(P.info? E).map (fun i=>(i.zero,i.size,i.bytes)) = some (some zv,s,bytes)) (hz:zv.cells.size = s) (hs:0 < s) (hown:Own w B E s a k c xs)
  (hl:news.length = m * s) (hnews:∀ (j:Nat) u,news[j]? = some u->w.cell? (ad.add j) = some u) (h1:∀ u ∈ news,u.oneCell' = true) (hmax:k + m <= 9223372036854775807) (hb:(k + m) * bytes <= 140737488355328) (hB:B <= w.heap.size)
  (h:∀ a' c2 w',Own w' B E s a' (k + m) c2 (xs ++ news)->w.grownBy w' (Value.ownBlock (.slice a k c))->Below B w w'->(a' = none ↔ a = none/\m = 0)->L P n ops Q rest (upd e d (.slice a' (k + m) c2)) w') :
  L P n ops Q (⟨some d,.call ⟨.builtin .append,#[x,y],#[T,T]⟩,ty,ps,af,none⟩ :: rest) e w:=by
 refine L.may (R:=fun v w'=>∃ a' c2,v = .slice a' (k + m) c2/\Own w' B E s a' (k + m) c2 (xs ++ news)/\w.grownBy w' (Value.ownBlock (.slice a k c))/\Below B w w'/\(a' = none ↔ a = none/\m = 0)) (tame_ok rfl _) (fun τ d'=>?_) (by rintro v w' ⟨a',c2,rfl,h2,h3,h4,h5⟩; exact h a' c2 w' h2 h3 h4 h5)
 generalize hu:onT w τ d' = u
 have hown:Own u B E s a k c xs:=by rw [<- hu]; exact hown
 have hnews:∀ (j:Nat) v,news[j]? = some v->u.cell? (ad.add j) = some v:=by rw [<- hu]; exact hnews
 have hB:B <= u.heap.size:=by rw [<- hu]; exact hB
 obtain ⟨i,hi'⟩:∃ i,P.info? E = some i:=by cases hh:P.info? E with | none=>rw [hh] at hi; cases hi | some i=>exact ⟨i,rfl⟩
 rw [hi'] at hi
 simp only [Option.map_some,Option.some.injEq,Prod.mk.injEq] at hi
 obtain ⟨g1,g2,g3⟩:=hi
 obtain ⟨v',w',hr,h2,h3,h4⟩:=run_append_own (P:=P) u B T ty E i zv s bytes hT hi' g1 g2 g3 hz hs (.slice a k c) k xs hown ad m c' news hl hnews h1 (by simpa [maxLen] using hmax) hb hB
 obtain ⟨a',c2,rfl⟩:∃ a' c2,v' = .slice a' (k + m) c2:=by
  rcases h2.2 with ⟨hv,h0⟩ | ⟨g,cap,cur,hv,_⟩
  ·exact ⟨none,0,by rw [hv,h0]⟩
  ·exact ⟨_,_,hv⟩
 have hbel:Below B u w':=(Below.refl B u).grown h3 hB (fun r hr=>by
  cases a with
  | none=>cases hr
  | some q =>
   simp only [Value.ownBlock,Option.some.injEq] at hr
   subst hr
   exact (hown.row (by simp)).choose_spec.2.1)
 have hnone:a' = none ↔ a = none/\m = 0:=by
  constructor
  ·intro hn
   subst hn
   rcases h2.2 with ⟨hv,h0⟩ | ⟨g,cap,cur,hv,_⟩
   ·have:=h4.1 hv
    exact ⟨by have:=this.1; simp at this; exact this.1,this.2⟩
   ·cases hv
  ·rintro ⟨rfl,rfl⟩
   have hk0:k = 0/\c = 0:=by
    rcases hown.2 with ⟨hv,h0⟩ | ⟨g,cap,cur,hv,_⟩
    ·cases hv; exact ⟨rfl,rfl⟩
    ·cases hv
   obtain ⟨rfl,rfl⟩:=hk0
   have:=h4.2 ⟨rfl,rfl⟩
   simp at this; exact this.1
 refine ⟨_,w',?_,a',c2,rfl,h2,by subst hu; exact grown_onT h3,by subst hu; exact below_onT hbel,hnone⟩
 simp only [execOp,resolve,invoke,builtin,Sem.run_bind,Sem.run_pure,Result.andThen_ok,List.map_toArray,List.map_cons,List.map_nil,hx,hy,hr]
end
section
variable {P:Program} [Ctx P] {n:Nat} {Q:Exit->Env->World->Prop} {e:Env} {w:World} {ops:Array Oper} {rest:List Oper}
variable {d:Nat} {ty:TypeId} {ps:String} {af:Array Edge} {T E:TypeId} {x y z:Operand}
theorem L.appendAny {B s bytes m c':Nat} {a src:Option Addr} {k c:Nat} {xs news:List Value} {zv:Value} (hx:ev e x = .slice a k c) (hy:ev e y = .slice src m c') (hT:P.underlying T = some (.slice E))
  (hi:(P.info? E).map (fun i=>(i.zero,i.size,i.bytes)) = some (some zv,s,bytes)) (hz:zv.cells.size = s) (hs:0 < s) (hown:Own w B E s a k c xs) (hsrc:src = none->m = 0/\c' = 0)
  (hl:news.length = m * s) (hnews:∀ ad,src = some ad->∀ (j:Nat) u,news[j]? = some u->w.cell? (ad.add j) = some u) (h1:∀ u ∈ news,u.oneCell' = true) (hmax:k + m <= 9223372036854775807) (hb:(k + m) * bytes <= 140737488355328) (hB:B <= w.heap.size)
  (h:∀ a' c2 w',Own w' B E s a' (k + m) c2 (xs ++ news)->w.grownBy w' (Value.ownBlock (.slice a k c))->Below B w w'->(a' = none ↔ a = none/\m = 0)->L P n ops Q rest (upd e d (.slice a' (k + m) c2)) w') :
  L P n ops Q (⟨some d,.call ⟨.builtin .append,#[x,y],#[T,T]⟩,ty,ps,af,none⟩ :: rest) e w:=by
 cases src with
 | some ad=>exact L.append hx hy hT hi hz hs hown hl (hnews ad rfl) h1 hmax hb hB h
 | none =>
  obtain ⟨rfl,rfl⟩:=hsrc rfl
  obtain ⟨i,hi'⟩:∃ i,P.info? E = some i:=by cases hh:P.info? E with | none=>rw [hh] at hi; cases hi | some i=>exact ⟨i,rfl⟩
  have hr:=fun τ d'=>run_append_owned_none (P:=P) (w:=onT w τ d') B T ty E i s hT hi' (.slice a k c) k xs hown
  have hn:news = []:=List.eq_nil_of_length_eq_zero (by omega)
  subst hn
  refine L.va (v:=.slice a (k + 0) c) (w':=w) (.of_tame (tame_ok rfl _) rfl rfl fun τ d'=>?_) (h a c w (by simpa using hown) ⟨rfl,rfl,rfl,Nat.le_refl _,fun _ _ _=>rfl⟩ (Below.refl _ _) (by simp))
  simp only [execOp,resolve,invoke,builtin,Sem.run_bind,Sem.run_pure,Result.andThen_ok,List.map_toArray,List.map_cons,List.map_nil,hx,hy,hr τ d']
  rfl
end
section
variable {P:Program} [Ctx P] {ρ:Operand->Value} {w:World} {d:Option Nat} {ty:TypeId} {ps:String} {af:Array Edge} {g:Option (Nat × Bool)} {x y:Operand} {T E:TypeId}
end
section
variable {P:Program} {ρ:Operand->Value} {w:World} {d:Option Nat} {ty:TypeId} {ps:String} {af:Array Edge} {g:Option (Nat × Bool)} {x y:Operand} {T E:TypeId}
theorem x_sliceTo {a:Option Addr} {n c k s:Nat} (hx:ρ x = .slice a n c) (hy:ρ y = .int .i64 (k:Int)) (hT:P.underlying T = some (.slice E)) (hs:(P.info? E).map (·.size) = some s) (hk:k <= c) :
  Does P (execOp ρ ⟨d,.slice T x none (some y) none,ty,ps,af,g⟩) w (.val (.slice a k c)) w :=
 .of_tame (tame_ok rfl _) rfl rfl fun _τ _d=>Go.Vc.x_sliceTo (hx:=hx) (hy:=hy) (hT:=hT) (hs:=hs) (hk:=hk)
theorem x_build {parts:List (Nat × Operand)} {vs:List (Nat × Value)} {cells:Array Value} (hv:parts.map (fun (i,y)=>(i,ρ y)) = vs) (hb:P.built T vs = some cells) :
  Does P (execOp ρ ⟨d,.build T parts.toArray,ty,ps,af,g⟩) w (.val (.agg cells)) w :=
 .of_tame (tame_ok rfl _) rfl rfl fun _τ _d=>Go.Vc.x_build (hv:=hv) (hb:=hb)
end
section
variable {P:Program} [Ctx P] {ρ:Operand->Value} {w:World} {d:Option Nat} {ty:TypeId} {ps:String} {af:Array Edge} {g:Option (Nat × Bool)} {x y:Operand} {T E:TypeId}
end
end Go.Vy
end
/- Vc7.lean's laws, for one goroutine among others (printed by port.py). Nothing here speaks of a program. -/
section
namespace Go.Vy
open Go Go.Yc Go.RowKit
open Go.Vc
section
variable {P:Program} [Ctx P] {T:TypeId} {ρ:Operand->Value} {w:World} {d:Option Nat} {ty:TypeId} {ps:String} {af:Array Edge} {g:Option (Nat × Bool)} {x y:Operand}
end
section
variable {w0 w w':World} {h:Nat}
end
section
variable {P:Program} [Ctx P] {T:TypeId} {ρ:Operand->Value} {w:World} {d:Option Nat} {ty:TypeId} {ps:String} {af:Array Edge} {g:Option (Nat × Bool)} {x y:Operand}
end
section
variable {P:Program} {T:TypeId} {ρ:Operand->Value} {w:World} {d:Option Nat} {ty:TypeId} {ps:String} {af:Array Edge} {g:Option (Nat × Bool)} {x y:Operand}
theorem x_nilCheck {p:Addr} (hx:ρ x = .pointer (some p)):Does P (execOp ρ ⟨d,.nilCheck x,ty,ps,af,g⟩) w (.val (.pointer (some p))) w :=
 .of_tame (t_nilCheck hx) rfl rfl fun _τ _d=>Go.Vc.x_nilCheck (hx:=hx)
theorem x_idxArr {E T:TypeId} {b o n s i:Nat} (hx:ρ x = .pointer (some ⟨b,o,none⟩)) (hy:ρ y = .int .i64 (i:Int)) (hT:P.underlying T = some (.array n E)) (hs:(P.info? E).map (·.size) = some s) (h:i < n) :
  Does P (execOp ρ ⟨d,.indexAddr T x y,ty,ps,af,g⟩) w (.val (.pointer (some ⟨b,o + i * s,none⟩))) w :=
 .of_tame (tame_ok rfl _) rfl rfl fun _τ _d=>Go.Vc.x_idxArr (hx:=hx) (hy:=hy) (hT:=hT) (hs:=hs) (h:=h)
theorem x_eqPtrNil {q:Option Addr} {E T':TypeId} (hx:ρ x = .pointer q) (hy:ρ y = .pointer none) (hT:P.underlying T = some (.pointer E)) :
  Does P (execOp ρ ⟨d,.binOp .eql T x y T',ty,ps,af,g⟩) w (.val (.bool q.isNone)) w :=
 .of_tame (t_eqPtrNil hx hy) rfl rfl fun _τ _d=>Go.Vc.x_eqPtrNil (hx:=hx) (hy:=hy) (hT:=hT)
end
section
variable {P:Program} [Ctx P] {T:TypeId} {ρ:Operand->Value} {w:World} {d:Option Nat} {ty:TypeId} {ps:String} {af:Array Edge} {g:Option (Nat × Bool)} {x y:Operand}
end
section
variable {P:Program} [Ctx P] {n:Nat} {ops:Array Oper} {Q:Exit->Env->World->Prop} {rest:List Oper} {e:Env} {w:World} {ty:TypeId} {ps:String} {af:Array Edge} {x y:Operand} {T:TypeId}
end
end Go.Vy
end
/- Vc8.lean's laws, for one goroutine among others (printed by port.py). Nothing here speaks of a program. -/
section
namespace Go.Vy
open Go Go.Yc Go.RowKit
open Go.Vc
section
variable {P:Program} [Ctx P] {n:Nat} {Q:Exit->Env->World->Prop} {e:Env} {w:World} {ops:Array Oper} {rest:List Oper}
variable {d:Nat} {ty:TypeId} {ps:String} {af:Array Edge} {T E:TypeId} {x y z:Operand}
theorem L.appendF {B s bytes m c':Nat} {b k c:Nat} {xs news:List Value} {zv:Value} {ad:Addr} (hx:ev e x = .slice (some ⟨b,0,none⟩) k c) (hy:ev e y = .slice (some ad) m c') (hT:P.underlying T = some (.slice E))
  (hi:(P.info? E).map (fun i=>(i.zero,i.size,i.bytes)) = some (some zv,s,bytes)) (hz:zv.cells.size = s) (hs:0 < s) (hown:Own w B E s (some ⟨b,0,none⟩) k c xs)
  (hl:news.length = m * s) (hnews:∀ (j:Nat) u,news[j]? = some u->w.cell? (ad.add j) = some u) (h1:∀ u ∈ news,u.oneCell' = true) (hmax:k + m <= 9223372036854775807) (hb:(k + m) * bytes <= 140737488355328) (hB:B <= w.heap.size)
  (h:∀ b' c2 w',Own w' B E s (some ⟨b',0,none⟩) (k + m) c2 (xs ++ news)->w.grownBy w' (some b)->((b' = b/\c2 = c)\/(b' = w.heap.size/\Below w.heap.size w w'))->L P n ops Q rest (upd e d (.slice (some ⟨b',0,none⟩) (k + m) c2)) w') :
  L P n ops Q (⟨some d,.call ⟨.builtin .append,#[x,y],#[T,T]⟩,ty,ps,af,none⟩ :: rest) e w:=by
 refine L.may (R:=fun v w'=>∃ b' c2,v = .slice (some ⟨b',0,none⟩) (k + m) c2/\Own w' B E s (some ⟨b',0,none⟩) (k + m) c2 (xs ++ news)/\w.grownBy w' (some b)/\((b' = b/\c2 = c)\/(b' = w.heap.size/\Below w.heap.size w w'))) (tame_ok rfl _) (fun τ d'=>?_) (by rintro v w' ⟨b',c2,rfl,h2,h3,h4⟩; exact h b' c2 w' h2 h3 h4)
 generalize hu:onT w τ d' = u
 have hown:Own u B E s (some ⟨b,0,none⟩) k c xs:=by rw [<- hu]; exact hown
 have hnews:∀ (j:Nat) v,news[j]? = some v->u.cell? (ad.add j) = some v:=by rw [<- hu]; exact hnews
 have hB:B <= u.heap.size:=by rw [<- hu]; exact hB
 obtain ⟨i,hi'⟩:∃ i,P.info? E = some i:=by cases hh:P.info? E with | none=>rw [hh] at hi; cases hi | some i=>exact ⟨i,rfl⟩
 rw [hi'] at hi
 simp only [Option.map_some,Option.some.injEq,Prod.mk.injEq] at hi
 obtain ⟨g1,g2,g3⟩:=hi
 obtain ⟨v',w',hr,h2,h3,h4⟩:=run_append_own (P:=P) u B T ty E i zv s bytes hT hi' g1 g2 g3 hz hs (.slice (some ⟨b,0,none⟩) k c) k xs hown ad m c' news hl hnews h1 (by simpa [maxLen] using hmax) hb hB
 have hv:∃ b' c2,v' = .slice (some ⟨b',0,none⟩) (k + m) c2/\((b' = b/\c2 = c)\/(b' = u.heap.size/\Below u.heap.size u w')):=by
  rcases hown.2 with ⟨hv0,_⟩ | ⟨g,cap,cur,hv0,hbg,hg,hnc,hcm,hcs,htake⟩
  ·cases hv0
  ·cases hv0
   by_cases hroom:k + m <= c
   ·have hfit:k * i.size + news.length <= cur.size:=by rw [hl,hcs,g2,<- Nat.add_mul]; exact Nat.mul_le_mul_right _ hroom
    have:=run_append_room (P:=P) u T ty E i hT hi' b k c cur hg ad m c' news (by rw [g2]; exact hl) hnews h1 hroom hfit
    rw [hr] at this
    cases this
    exact ⟨_,_,rfl,.inl ⟨rfl,rfl⟩⟩
   ·have holds:∀ j z,xs[j]? = some z->u.cell? ((⟨b,0,none⟩:Addr).add j) = some z:=hown.cells (g:=b) rfl
    have:=run_append_grow (P:=P) u T ty E i zv hT hi' g1 ⟨b,0,none⟩ k c xs (by rw [g2]; exact hown.1) holds ad m c' news (by rw [g2]; exact hl) hnews (by omega) (by omega) (growslice_fits (by omega) (by rw [g3]; exact hb))
    rw [hr] at this
    cases this
    exact ⟨_,_,rfl,.inr ⟨rfl,(Below.refl _ _).drew.alloc (Nat.le_refl _) _⟩⟩
 obtain ⟨b',c2,rfl,hbb⟩:=hv
 refine ⟨_,w',?_,b',c2,rfl,h2,by subst hu; exact grown_onT h3,by subst hu; exact hbb.imp id fun h=>⟨h.1,below_onT h.2⟩⟩
 simp only [execOp,resolve,invoke,builtin,Sem.run_bind,Sem.run_pure,Result.andThen_ok,List.map_toArray,List.map_cons,List.map_nil,hx,hy,hr]
end
end Go.Vy
end
/- Vc9.lean's laws, for one goroutine among others (printed by port.py). Nothing here speaks of a program. -/
section
namespace Go.Vy
open Go Go.Yc Go.RowKit
open Go.Vc
section
variable {P:Program} [Ctx P] {ops:Array Oper} {V:(Nat->Bool)->Prop} {J:(Nat->Bool)->World->Prop} {n:Nat}
theorem wpOps_JL (h:Ord n ops) {e0:Env} {vals:Nat->Value} {k:Nat} (hk:k < ops.size) (hloc:∀ i o,i < k->ops[i]? = some o->Loc P ops V J i o (EE e0 ops.toList vals i) (vals i))
  (hall:∀ D,V D->∀ i,k <= i->i < ops.size->D i = true->∀ j,j < i->D j = true)
  {Q:Exit->Act->World->Prop} (hQ:∀ a w D,Rep n a (EE e0 ops.toList vals k)->(∀ i,i < k->D i = true)->J D w->wpOps P ops Q (List.range' k (ops.size - k)) a w) :
  ∀ {listed:Array Bool} {σ:List Nat},Lin ops listed σ->(∀ τ ρ,σ = τ ++ ρ->V (fun j=>listed.getD j false || τ.contains j)) ->
   ∀ (a:Act) (e:Env) (w:World),listed.size = ops.size->(∀ j,k <= j->listed.getD j false = false)->Rep n a e->Mid ops e0 vals listed e->J (fun j=>listed.getD j false) w->wpOps P ops Q σ a w:=by
 intro listed σ hlin
 induction hlin with
 | @nil listed hr =>
  intro _ a e w hs hkf ha hm hJ
  have:=ready_all h hs hr k (by omega)
  rw [hkf k (Nat.le_refl _)] at this; cases this
 | @cons listed i σ hi hl ih =>
  intro hV a e w hs hkf ha hm hJ
  have hi0:=hi
  obtain ⟨h1,o,ho,hdep⟩:=mem_ready.1 hi
  have hio:i < ops.size:=(Array.getElem?_eq_some_iff.1 ho).1
  have hil:i < listed.size:=by omega
  have hDi:(fun j=>listed.getD j false) i = false:=by
   show listed.getD i false = false
   simp only [Array.getD_eq_getD_getElem?,hil,Array.getElem?_eq_getElem,Option.getD_some] at h1 ⊢; exact h1
  have hVD:V (fun j=>listed.getD j false):=by
   have:=hV [] (i :: σ) rfl
   have e1:(fun j=>listed.getD j false || ([]:List Nat).contains j) = fun j=>listed.getD j false:=funext fun j=>by simp
   rw [e1] at this; exact this
  have hVD:V (fun j=>listed.getD j false)/\V (setD (fun j=>listed.getD j false) i):=by
   refine ⟨hVD,?_⟩
   have:=hV [i] σ rfl
   have e1:(fun j=>listed.getD j false || ([i]:List Nat).contains j) = setD (fun j=>listed.getD j false) i:=funext fun j=>by
    unfold setD
    by_cases hj:j = i
    ·simp [hj]
    ·simp [hj]
   rw [e1] at this; exact this
  by_cases hik:k <= i
  ·have hothers:∀ j,j < i->listed.getD j false = true:=fun j hj=>by
    have:=hall _ hVD.2 i hik hio (by simp [setD]) j hj
    unfold setD at this
    rw [if_neg (by omega)] at this
    exact this
   have hki:i = k:=by
    rcases Nat.lt_or_ge k i with h3 | h3
    ·have:=hothers k h3; rw [hkf k (Nat.le_refl _)] at this; cases this
    ·omega
   subst hki
   have hσ:=lin_suffix (V:=V) h (.cons hi0 hl) i (by omega) hs hothers (fun j hj=>hkf j hj) hall hV
   rw [hσ]
   have he:e = EE e0 ops.toList vals i:=by
    funext t
    have hlz:∀ j:Nat,ops.toList[j]? = ops[j]?:=fun j=>by rw [Array.getElem?_toList]
    by_cases hex:∃ (j:Nat) (p:Oper),j < i/\ops[j]? = some p/\p.dst = some t
    ·obtain ⟨j,p,hj,hp,hd⟩:=hex
     rw [hm.hit j p t hp hd (hothers j hj)]
     exact (EE_hit e0 ops.toList vals t j p (by rw [hlz]; exact hp) hd (fun i' p' hp' hd'=>h.one i' j p' p t (by rw [<- hlz]; exact hp') hp hd' hd) _ hj).symm
    ·rw [hm.miss t (fun j p hp hd=>by
      rcases Nat.lt_or_ge j i with h3 | h3
      ·exact absurd ⟨j,p,h3,hp,hd⟩ hex
      ·exact hkf j h3)]
     exact (EE_miss e0 ops.toList vals t _ (fun j p hj hp hd=>hex ⟨j,p,hj,by rw [<- hlz]; exact hp,hd⟩)).symm
   subst he
   exact hQ a w _ ha hothers hJ
  ·have hlk:=looks_eq h hm ho hdep
   have hex:=execOp_looks (h.sel i o ho) hlk
   have hwa:=wanted_looks hlk
   have hV':∀ τ ρ,σ = τ ++ ρ->V (fun j=>(listed.setIfInBounds i true).getD j false || τ.contains j):=by
    intro τ ρ hσ
    have:=hV (i :: τ) ρ (by rw [hσ]; rfl)
    have e1:(fun j=>listed.getD j false || (i :: τ).contains j) = fun j=>(listed.setIfInBounds i true).getD j false || τ.contains j:=by
     funext j
     by_cases hj:i = j
     ·subst hj; simp [hil]
     ·rw [getD_set_ne false hj]
      simp [Ne.symm hj]
    rw [e1] at this; exact this
   have next:∀ w',J (setD (fun j=>listed.getD j false) i) w'->wpOps P ops Q σ (a.put o.dst (vals i)) w':=by
    intro w' hJ'
    refine ih hV' _ _ w' (by simp [hs]) (fun j hj=>by rw [getD_set_ne false (by omega)]; exact hkf j hj) (ha.put (h.dst i o ho) (vals i)) (hm.step h ho hil) ?_
    rw [setD_eq hil]; exact hJ'
   unfold wpOps
   rw [ho]
   simp only
   rw [wanted_rep ha,hwa]
   rcases hloc i o (by omega) ho with ⟨hw,hl⟩ | ⟨hw,hv,hl⟩
   ·rw [if_pos hw]
    have hl':=hl (fun j=>listed.getD j false) w hDi hVD hdep hJ
    rw [<- hex,<- ha.eval] at hl'
    exact opwp_loc hl' next
   ·rw [if_neg (by rw [hw]; simp)]
    rw [<- hv]
    exact next w (hl (fun j=>listed.getD j false) w hDi hVD hdep hJ)
theorem W.drawsL {id:Nat} {l:List Oper} {Q:Exit->Env->World->Prop} {e:Env} {w:World} (k:Nat) (hm:P.follows .mixedOrders = true) (hB:ordB n l.toArray = true) (hA:sufB l k = true) (hk:Nat.blt k l.length = true)
  (h:∀ V:(Nat->Bool)->Prop,(∀ D D',V D->V D'->(∀ k,D k = true->D' k = true)\/(∀ k,D' k = true->D k = true))->(∀ D,V D->∀ i o,l[i]? = some o->D i = true->depsOn o D) ->
   ∃ J:(Nat->Bool)->World->Prop,J (fun _=>false) w.drew/\JL P l.toArray V J (fun e'=>∀ D w',(∀ i,i < k->D i = true)->J D w'->L P n l.toArray Q (l.drop k) e' w') 0 (l.take k) e):W P n (.region id l.toArray true) Q e w:=by
 intro a ha
 have ho:=ord_of hB
 have hkl:k < l.length:=by rw [Nat.blt_eq] at hk; exact hk
 refine wp_region_draw fun t=>?_
 simp only [Region.schedule,hm,Bool.true_or,if_true]
 have hlin:=lin_go l.toArray l.toArray.size t (Array.replicate l.toArray.size false) (by simp) (by simp)
 unfold Region.linearise
 generalize Region.linearise.go .any l.toArray l.toArray.size t (Array.replicate l.toArray.size false) [] = σ at hlin ⊢
 have hclosed:=lin_closed hlin (fun i o _ hi=>by rw [getD_replicate_false'] at hi; cases hi) (by simp)
 have hdeps:∀ D,Pre σ D->∀ i o,l[i]? = some o->D i = true->depsOn o D:=by
  rintro D ⟨τ,ρ,hσ,hD⟩ i o hi hDi x hx hb
  have:=hclosed τ ρ hσ i o (by simpa using hi) (.inr ((hD i).1 hDi)) x hx hb
  rcases this with h1 | h1
  ·rw [getD_replicate_false'] at h1; cases h1
  ·exact (hD _).2 h1
 obtain ⟨J,hJ,hjl⟩:=h (Pre σ) (fun D D' h1 h2=>h1.chain h2) hdeps
 obtain ⟨vals,h1,h2⟩:=JL.collect (l.take k) 0 e hjl
 have hEE:∀ j,j <= k->EE e (l.take k) vals j = EE e l vals j:=by
  intro j
  induction j with
  | zero=>intro _; rfl
  | succ j ih =>
   intro hj
   simp only [EE,ih (by omega)]
   rw [List.getElem?_take_of_lt (by omega)]
 have hlt:(l.take k).length = k:=by simp; omega
 refine wpOps_JL (V:=Pre σ) (J:=J) ho (e0:=e) (vals:=vals) (k:=k) (by simpa using hkl) (fun i o' hi ho'=>?_) (fun D hD i hki hil=>sufB_all hA hdeps hD i hki (by simpa using hil)) (fun a' w' D ha' hD hJ'=>?_) hlin ?_ a e _ (by simp) (fun j _=>getD_replicate_false' _ _) ha ⟨fun j o t _ _ hl=>?_,fun t _=>rfl⟩ ?_
 ·have:=h1 i o' (by rw [List.getElem?_take_of_lt hi]; simpa using ho')
  rw [hEE i (by omega)] at this
  simpa using this
 ·rw [hlt,hEE k (Nat.le_refl _)] at h2
  have h3:=h2 D w' hD hJ'
  have h4:=h3 (fun o' ho'=>by
   obtain ⟨i,hi⟩:=List.mem_iff_getElem?.1 ho'
   rw [List.getElem?_drop] at hi
   exact ho.dst (k + i) o' (by simpa using hi)) a' (by simpa using ha')
  have h5:=wpOps_eq_wpList (P:=P) (ops:=l.toArray) (Q:=lift n Q) (l.drop k) k (fun j=>by rw [List.getElem?_drop]; simp)
  rw [List.length_drop] at h5
  have h6:l.toArray.size - k = l.length - k:=by simp
  rw [h6,h5]
  exact h4
 ·intro τ ρ hσ
  exact ⟨τ,ρ,hσ,fun k=>by show ((Array.replicate l.toArray.size false).getD k false || τ.contains k) = true ↔ _; rw [getD_replicate_false']; simp⟩
 ·rw [getD_replicate_false'] at hl; cases hl
 ·have:(fun k=>(Array.replicate l.toArray.size false).getD k false) = fun _=>false:=funext fun k=>getD_replicate_false' _ _
  rw [this]; exact hJ
theorem W.lastL {id:Nat} {l:List Oper} {Q:Exit->Env->World->Prop} {e:Env} {w:World} (k:Nat) (Cl:World->Prop) (hm:P.follows .mixedOrders = true) (hB:ordB n l.toArray = true) (hA:sufB l k = true) (hk:Nat.blt k l.length = true)
  (hC:Cl w.drew) (h:QL P l.toArray Cl (fun e'=>∀ w',Cl w'->L P n l.toArray Q (l.drop k) e' w') 0 (l.take k) e):W P n (.region id l.toArray true) Q e w:=by
 refine W.drawsL k hm hB hA hk fun V _ _=>⟨fun _=>Cl,hC,?_⟩
 have mono:∀ (l':List Oper) (i:Nat) (e:Env),JL P l.toArray V (fun _=>Cl) (fun e'=>∀ w',Cl w'->L P n l.toArray Q (l.drop k) e' w') i l' e->JL P l.toArray V (fun _=>Cl) (fun e'=>∀ (D:Nat->Bool) w',(∀ i,i < k->D i = true)->Cl w'->L P n l.toArray Q (l.drop k) e' w') i l' e:=by
  intro l'
  induction l' with
  | nil=>exact fun i e h _ w' _ hw=>h w' hw
  | cons o l' ih=>exact fun i e ⟨v,h1,h2⟩=>⟨v,h1,ih _ _ h2⟩
 exact mono _ 0 e (h V)
end
section
variable {P:Program} [Ctx P] {ρ:Operand->Value} {w:World} {d:Option Nat} {ty:TypeId} {ps:String} {af:Array Edge} {g:Option (Nat × Bool)}
variable {x y z:Operand} {T T' E:TypeId}
end
section
variable {P:Program} {ρ:Operand->Value} {w:World} {d:Option Nat} {ty:TypeId} {ps:String} {af:Array Edge} {g:Option (Nat × Bool)}
variable {x y z:Operand} {T T' E:TypeId}
theorem x_eqFnNil {v:Value} {b:Bool} {u:TypeDesc} (hx:ρ x = v) (hv:(v = .nilFunc/\b = true)\/(∃ f xs ys,v = .func f xs ys/\b = false)) (hy:ρ y = .nilFunc) (hT:P.underlying T = some u) (hu:∃ a b c,u = .func a b c) :
  Does P (execOp ρ ⟨d,.binOp .eql T x y T',ty,ps,af,g⟩) w (.val (.bool b)) w :=
 .of_tame (t_eqFnNil (fnOr hv) hx hy) rfl rfl fun _τ _d=>Go.Vc.x_eqFnNil (hx:=hx) (hv:=hv) (hy:=hy) (hT:=hT) (hu:=hu)
theorem x_neqFnNil {v:Value} {b:Bool} {u:TypeDesc} (hx:ρ x = v) (hv:(v = .nilFunc/\b = false)\/(∃ f xs ys,v = .func f xs ys/\b = true)) (hy:ρ y = .nilFunc) (hT:P.underlying T = some u) (hu:∃ a b c,u = .func a b c) :
  Does P (execOp ρ ⟨d,.binOp .neq T x y T',ty,ps,af,g⟩) w (.val (.bool b)) w :=
 .of_tame (t_neqFnNil (fnOr hv) hx hy) rfl rfl fun _τ _d=>Go.Vc.x_neqFnNil (hx:=hx) (hv:=hv) (hy:=hy) (hT:=hT) (hu:=hu)
theorem x_callV0 {f:FuncId} {fn:Func} {aT:Array TypeId} {ys:Array Value} (hx:ρ x = .func (.func f) #[] ys) (hf:P.funcs[f]? = some fn) (hb:fn.body.isSome = true) (hn:(fn.name == "runtime.NumGoroutine") = false) :
  Does P (execOp ρ ⟨d,.call ⟨.value x,#[],aT⟩,ty,ps,af,g⟩) w (.enter f ys) w :=
 .of_tame (t_callF hx hf hb hn) rfl rfl fun _τ _d=>Go.Vc.x_callV0 (hx:=hx) (hf:=hf) (hb:=hb) (hn:=hn)
end
section
variable {P:Program} [Ctx P] {ρ:Operand->Value} {w:World} {d:Option Nat} {ty:TypeId} {ps:String} {af:Array Edge} {g:Option (Nat × Bool)}
variable {x y z:Operand} {T T' E:TypeId}
end
end Go.Vy
end
/- Vc10.lean's laws, for one goroutine among others (printed by port.py). Nothing here speaks of a program. -/
section
namespace Go.Vy
open Go Go.Yc Go.RowKit
open Go.Vc
section
variable {w0 w w':World} {B:Nat} {TS TS':List TypeId}
end
section
variable {P:Program} [Ctx P] {n:Nat} {ops:Array Oper} {Q:Exit->Env->World->Prop} {rest:List Oper} {e:Env} {w:World} {ty:TypeId} {ps:String} {af:Array Edge} {x y:Operand} {T:TypeId}
theorem L.put {b o s:Nat} {cs:Array Value} {vs:List Value} {E:TypeId} {v:Value} (cs':Array Value) (hx:ev e x = .pointer (some ⟨b,o,none⟩)) (hy:ev e y = v) (hvs:v.cells.toList = vs) (hs:(P.info? T).map (·.size) = some s) (hl:vs.length = s) (h1:vs.all Value.oneCell' = true) (hB:Blk w b cs E) (ho:o + s <= cs.size) (hcs:setRow cs o vs = cs')
  (k:∀ w1,Blk w1 b cs' E->w.grownBy w1 (some b)->w1.heap.size = w.heap.size->L P n ops Q rest e w1):L P n ops Q (⟨none,.store T x y,ty,ps,af,none⟩ :: rest) e w:=by
 have hvs':v.cells = vs.toArray:=by rw [<- hvs]
 refine L.storeAgg hx hy hvs' hs (by simpa using hl) (by simpa using h1) hB ho ?_
 rw [List.toList_toArray,hcs]
 exact k _ (setBlk_self _ _ _ hB) (gr_set (gr_refl _ _) (.inl rfl) _ _) (setBlk_size _ _ _ _)
end
theorem ends.cellTmp {P:Program} [Ctx P] {fn:Func} {R:Value->World->Prop} {x:Exit} {e:Env} {w:World} {t u b:Nat} {cs:Array Value} {T E:TypeId} {d:TypeDesc} (hx:x = .normal\/x = .ret) (hr:fn.results = #[.cell t T,.tmp u])
  (he:e t = .pointer (some ⟨b,0,Option.none⟩)) (hT:P.underlying T = some d) (hu:flatB d = false) (hs:(P.info? T).map (·.size) = some cs.size) (hB:Blk w b cs E) (h:R (.tuple #[.agg cs,e u]) w):ends P fn R x e w :=
 ⟨hx,_,fun tmps ht=>resDoes_tame tame_results fun τ d'=>by
  have hB:Blk (onT w τ d') b cs E:=hB
  generalize onT w τ d' = w at hB ⊢
  have h1:(loadVar T ⟨b,0,Option.none⟩).run P w = .ok (.agg cs) w:=by
   have h2:∀ j v,cs.toList[j]? = some v->w.cell? ((⟨b,0,Option.none⟩:Addr).add j) = some v:=fun j v hj=>by
    rw [Addr.add_lit,Nat.zero_add]; exact hB.cell (by simpa using hj)
   have:=run_loadCells_list (P:=P) (w:=w) ⟨b,0,Option.none⟩ cs.toList h2
   simp only [Array.length_toList] at this
   simp [loadVar,Go.Vc.run_isAgg hT,hu,Go.Vc.run_sizeOf hs,this]
  have h3:tmps.getD t undef = .pointer (some ⟨b,0,Option.none⟩):=by rw [ht,he]
  rw [results_cell_tmp hr,h3]
  simp [asAddr,h1,ht],h⟩
theorem x_makeFuncL {P:Program} [Ctx P] {ρ:Operand->Value} {w:World} {d:Option Nat} {ty:TypeId} {ps:String} {af:Array Edge} {g:Option (Nat × Bool)} {fn:Fn} {l:List Operand} {vs:List Value} (h:l.map ρ = vs) :
  Does P (execOp ρ ⟨d,.makeFunc fn #[] l.toArray,ty,ps,af,g⟩) w (.val (.func fn #[] vs.toArray)) w :=
 .of_tame (tame_ok rfl _) rfl rfl fun _τ _d=>Go.Vc.x_makeFuncL (h:=h)
section
variable {P:Program} [Ctx P] {ρ:Operand->Value} {w:World} {d:Option Nat} {ty:TypeId} {ps:String} {af:Array Edge} {g:Option (Nat × Bool)} {x y:Operand} {T T':TypeId}
end
end Go.Vy
end
/- Vc11.lean's laws, for one goroutine among others (printed by port.py). Nothing here speaks of a program. -/
section
namespace Go.Vy
open Go Go.Yc Go.RowKit
open Go.Vc
section
variable {P:Program} [Ctx P] {ops:Array Oper} {l0:List Oper} {Es:List Nat} {ws:Nat->World} {Q:Env->Prop} {i:Nat} {e:Env} {rest:List Oper} {v:Value}
variable {d:Nat} {op:Op} {ty:TypeId} {ps:String} {af:Array Edge} {dst:Option Nat} {j:Nat} {want:Bool}
end
section
variable {P:Program} [Ctx P] {n:Nat} {Q:Exit->Env->World->Prop} {e:Env} {w:World} {ops:Array Oper} {rest:List Oper}
variable {d:Nat} {ty:TypeId} {ps:String} {af:Array Edge} {T E:TypeId} {x y z:Operand}
end
section
variable {P:Program} [Ctx P] {n:Nat} {Q:Exit->Env->World->Prop} {e:Env} {w:World} {ops:Array Oper} {rest:List Oper}
variable {d:Nat} {ty:TypeId} {ps:String} {af:Array Edge} {T E:TypeId} {x y z:Operand}
end
section
variable {P:Program} [Ctx P] {ρ:Operand->Value} {w:World} {d:Option Nat} {ty:TypeId} {ps:String} {af:Array Edge} {g:Option (Nat × Bool)} {x y:Operand} {T E:TypeId}
end
section
variable {P:Program} {ρ:Operand->Value} {w:World} {d:Option Nat} {ty:TypeId} {ps:String} {af:Array Edge} {g:Option (Nat × Bool)} {x y:Operand} {T E:TypeId}
theorem x_build1 {v zv:Value} (hx:ρ x = v) (h1:v.oneCell' = true) (hT:P.underlying T = some (.slice E)) (hs:(P.info? E).map (·.size) = some 1) (hz:(P.info? E).bind (·.zero) = some zv) (hzc:zv.cells.size = 1) :
  Does P (execOp ρ ⟨d,.buildSlice T 1 #[(0,x)],ty,ps,af,g⟩) w (.val (.slice (some ⟨w.heap.size,0,none⟩) 1 1)) (w.alloc (.cells #[v] E)) :=
 .of_tame (tame_ok rfl _) rfl rfl fun _τ _d=>Go.Vc.x_build1 (hx:=hx) (h1:=h1) (hT:=hT) (hs:=hs) (hz:=hz) (hzc:=hzc)
end
section
variable {P:Program} [Ctx P] {ρ:Operand->Value} {w:World} {d:Option Nat} {ty:TypeId} {ps:String} {af:Array Edge} {g:Option (Nat × Bool)} {x y:Operand} {T E:TypeId}
end
end Go.Vy
end
/- Vc12.lean's laws, for one goroutine among others (printed by port.py). Nothing here speaks of a program. -/
section
namespace Go.Vy
open Go Go.Yc Go.RowKit
open Go.Vc
section
variable {P:Program} [Ctx P] {ops:Array Oper} {n:Nat} {I:(Nat->Bool)->Env->World->Prop}
def outI (P:Program) [Ctx P] (I:(Nat->Bool)->Env->World->Prop) (i:Nat) (o:Oper) (D:Nat->Bool) (e:Env) (r:Out) (w':World):Prop:=match r with
 | .val v=>I (setD D i) (updO e o.dst v) w'
 | .skip=>I (setD D i) (updO e o.dst undef) w'
 | .enter f args=>C P f args w' (fun v w''=>I (setD D i) (updO e o.dst v) w'')
 | .panic _=>False
def StepI (P:Program) [Ctx P] (ops:Array Oper) (I:(Nat->Bool)->Env->World->Prop) (i:Nat) (o:Oper) (D:Nat->Bool) (e:Env) (w:World):Prop :=
 (Region.wanted o (yieldE ops e) = true/\∀ τ d,∃ r w',DoesR P (execOp (ev e) o) (onT w τ d) r w'/\outI P I i o D e r (onT w' w.tape w.drawn)) \/
 (Region.wanted o (yieldE ops e) = false/\I (setD D i) (updO e o.dst undef) w)
theorem wpOps_I (h:Bk n ops) (hstep:∀ i o,ops[i]? = some o->∀ D e w,D i = false->depsOn o D->(∀ j o',ops[j]? = some o'->D j = true->depsOn o' D)->I D e w->StepI P ops I i o D e w)
  {Q:Exit->Act->World->Prop} (hQ:∀ a w D e,Rep n a e->(∀ i,i < ops.size->D i = true)->I D e w->Q .normal a w) :
  ∀ {listed:Array Bool} {σ:List Nat},Lin ops listed σ->∀ (a:Act) (e:Env) (w:World),listed.size = ops.size->Rep n a e->(∀ j o',ops[j]? = some o'->listed.getD j false = true->depsOn o' (fun k=>listed.getD k false))->I (fun k=>listed.getD k false) e w->wpOps P ops Q σ a w:=by
 intro listed σ hlin
 induction hlin with
 | @nil listed hr =>
  intro a e w hs ha _ hI
  exact hQ a w _ e ha (ready_all2 h hs hr) hI
 | @cons listed i σ hi _ ih =>
  intro a e w hs ha hcl hI
  obtain ⟨h1,o,ho,hdep⟩:=mem_ready.1 hi
  have hio:i < ops.size:=(Array.getElem?_eq_some_iff.1 ho).1
  have hil:i < listed.size:=by omega
  have hDi:(fun k=>listed.getD k false) i = false:=by
   show listed.getD i false = false
   simp only [Array.getD_eq_getD_getElem?,hil,Array.getElem?_eq_getElem,Option.getD_some] at h1 ⊢; exact h1
  have hs':=hstep i o ho (fun k=>listed.getD k false) e w hDi hdep hcl hI
  have hcl':∀ j o',ops[j]? = some o'->(listed.setIfInBounds i true).getD j false = true->depsOn o' (fun k=>(listed.setIfInBounds i true).getD k false):=by
   intro j o' ho' hj x hx hb
   by_cases hij:i = j
   ·subst hij
    obtain rfl:o' = o:=Option.some.inj (ho'.symm.trans ho)
    exact getD_set_true (hdep x hx hb)
   ·rw [getD_set_ne false hij] at hj
    exact getD_set_true (hcl j o' ho' hj x hx hb)
  have next:∀ v w',I (setD (fun k=>listed.getD k false) i) (updO e o.dst v) w'->wpOps P ops Q σ (a.put o.dst v) w':=fun v w' hI' =>
   ih _ _ w' (by simp [hs]) (ha.put (h.dst i o ho) v) hcl' (by rw [setD_eq hil]; exact hI')
  unfold wpOps
  rw [ho]
  simp only
  rw [wanted_rep ha]
  rcases hs' with ⟨hw,hr⟩ | ⟨hw,hr⟩
  ·rw [if_pos hw]
   intro τ d
   rw [ha.eval]
   obtain ⟨r,w',h1,h2⟩:=hr τ d
   refine ⟨r,w',h1,?_⟩
   cases r with
   | val u=>exact next u _ h2
   | skip=>exact next undef _ h2
   | enter f args =>
    refine Calls.mono h2 fun x w'' hx=>?_
    cases x with
    | returned u=>exact next u w'' hx
    | panicked ch=>exact hx.elim
    | outgrown=>exact hx.elim
   | panic u=>exact h2.elim
  ·rw [if_neg (by rw [hw]; simp)]
   exact next undef w hr
theorem W.inv {id:Nat} {l:List Oper} {Q:Exit->Env->World->Prop} {e:Env} {w:World} (I:(Nat->Bool)->Env->World->Prop) (hm:P.follows .mixedOrders = true) (hB:backB n l.toArray = true) (h0:I (fun _=>false) e w.drew)
  (hstep:∀ i o,l[i]? = some o->∀ D e w,D i = false->depsOn o D->(∀ j o',l[j]? = some o'->D j = true->depsOn o' D)->I D e w->StepI P l.toArray I i o D e w)
  (hfin:∀ D e w,(∀ i,i < l.length->D i = true)->I D e w->Q .normal e w):W P n (.region id l.toArray true) Q e w:=by
 intro a ha
 have ho:=bk_of hB
 refine wp_region_draw fun t=>?_
 simp only [Region.schedule,hm,Bool.true_or,if_true]
 have hlin:=lin_go l.toArray l.toArray.size t (Array.replicate l.toArray.size false) (by simp) (by simp)
 unfold Region.linearise
 generalize Region.linearise.go .any l.toArray l.toArray.size t (Array.replicate l.toArray.size false) [] = σ at hlin ⊢
 refine wpOps_I (I:=I) ho (fun i o hi D e w h1 h2 h3 h4=>hstep i o (by simpa using hi) D e w h1 h2 (fun j o' hj=>h3 j o' (by simpa using hj)) h4) (fun a' w' D e' ha' hD hI=>⟨e',ha',hfin D e' w' (fun i hi=>hD i (by simpa using hi)) hI⟩) hlin a e _ (by simp) ha (fun j o' _ hj=>?_) ?_
 ·rw [getD_replicate_false'] at hj; cases hj
 ·have:(fun k=>(Array.replicate l.toArray.size false).getD k false) = fun _=>false:=funext fun k=>getD_replicate_false' _ _
  rw [this]; exact h0
end
end Go.Vy
end
/- Vc14.lean's laws, for one goroutine among others (printed by port.py). Nothing here speaks of a program. -/
section
namespace Go.Vy
open Go Go.Yc Go.RowKit
open Go.Vc
section
variable {P:Program} [Ctx P] {ρ:Operand->Value} {w:World} {d:Option Nat} {ty:TypeId} {ps:String} {af:Array Edge} {g:Option (Nat × Bool)}
end
section
variable {P:Program} {ρ:Operand->Value} {w:World} {d:Option Nat} {ty:TypeId} {ps:String} {af:Array Edge} {g:Option (Nat × Bool)}
theorem x_makeIface {S:TypeId} {x:Operand} {v:Value} {td:TypeDesc} (hx:ρ x = v) (hT:P.underlying S = some td) (hn:(match td with | .interface _=>false | _=>true) = true) :
  Does P (execOp ρ ⟨d,.makeInterface S x,ty,ps,af,g⟩) w (.val (.iface S v)) w :=
 .of_tame (tame_ok rfl _) rfl rfl fun _τ _d=>Go.Vc.x_makeIface (hx:=hx) (hT:=hT) (hn:=hn)
end
section
variable {P:Program} [Ctx P] {ρ:Operand->Value} {w:World} {d:Option Nat} {ty:TypeId} {ps:String} {af:Array Edge} {g:Option (Nat × Bool)}
end
end Go.Vy
end
/- Vc15.lean's laws, for one goroutine among others (printed by port.py). Nothing here speaks of a program. -/
section
namespace Go.Vy
open Go Go.Yc Go.RowKit
open Go.Vc
def FL (P:Program) [Ctx P] (n:Nat) (l0:List Oper) (K:World->Prop) (ch:Nat->Bool) (Q:Env->World->Prop):List Nat->Env->World->Prop
 | [],e,w=>Q e w
 | i :: rest,e,w=>∃ o,l0[i]? = some o/\if ch i = true then L P n l0.toArray (fun x e' w'=>x = .normal/\K w'/\FL P n l0 K ch Q rest e' w') [o] e w
  else ∃ v,((Region.wanted o (yieldE l0.toArray e) = true/\∀ w',K w'->Does P (execOp (ev e) o) w' (.val v) w')\/(Region.wanted o (yieldE l0.toArray e) = false/\v = undef))/\FL P n l0 K ch Q rest (updO e o.dst v) w
section
variable {P:Program} [Ctx P] {n:Nat} {l0:List Oper} {K:World->Prop} {ch:Nat->Bool} {Q:Env->World->Prop} {rest:List Nat} {e:Env} {w:World} {d:Nat} {op:Op} {ty:TypeId} {ps:String} {af:Array Edge} {v:Value} {i j:Nat} {want:Bool} {o:Oper}
theorem F.nil (h:Q e w):FL P n l0 K ch Q [] e w:=h
theorem F.va (hl:l0[i]? = some ⟨some d,op,ty,ps,af,none⟩) (hc:ch i = false) (hr:∀ w',K w'->Does P (execOp (ev e) ⟨some d,op,ty,ps,af,none⟩) w' (.val v) w') (k:FL P n l0 K ch Q rest (upd e d v) w):FL P n l0 K ch Q (i :: rest) e w :=
 ⟨_,hl,by rw [if_neg (by simp [hc])]; exact ⟨v,.inl ⟨rfl,hr⟩,k⟩⟩
theorem F.on (hl:l0[i]? = some ⟨some d,op,ty,ps,af,some (j,want)⟩) (hc:ch i = false) (hw:yieldE l0.toArray e j = some want) (hr:∀ w',K w'->Does P (execOp (ev e) ⟨some d,op,ty,ps,af,some (j,want)⟩) w' (.val v) w') (k:FL P n l0 K ch Q rest (upd e d v) w):FL P n l0 K ch Q (i :: rest) e w :=
 ⟨_,hl,by rw [if_neg (by simp [hc])]; exact ⟨v,.inl ⟨by simp [Region.wanted,hw],hr⟩,k⟩⟩
theorem F.off (hl:l0[i]? = some o) (hc:ch i = false) (hw:Region.wanted o (yieldE l0.toArray e) = false) (k:FL P n l0 K ch Q rest (updO e o.dst undef) w):FL P n l0 K ch Q (i :: rest) e w :=
 ⟨_,hl,by rw [if_neg (by simp [hc])]; exact ⟨undef,.inr ⟨hw,rfl⟩,k⟩⟩
theorem F.doo (hl:l0[i]? = some o) (hc:ch i = true) (h:L P n l0.toArray (fun x e' w'=>x = .normal/\K w'/\FL P n l0 K ch Q rest e' w') [o] e w):FL P n l0 K ch Q (i :: rest) e w :=
 ⟨_,hl,by rw [if_pos hc]; exact h⟩
end
structure FI (P:Program) [Ctx P] (n:Nat) (l0:List Oper) (k:Nat) (K:World->Prop) (ch:Nat->Bool) (Q:Env->World->Prop) (os:List Nat) (e0:Env) (D:Nat->Bool) (pre suf:List Nat) (e es:Env) (w:World):Prop where
 cat:os = pre ++ suf
 fl:FL P n l0 K ch Q suf es w
 done:∀ x ∈ pre,ch x = true->D x = true
 sub:∀ j,j < k->D j = true->j ∈ pre
 kD:K w
 hit:∀ j o t,j < k->l0[j]? = some o->o.dst = some t->D j = true->e t = es t
 miss:∀ t,(∀ j o,j < k->l0[j]? = some o->o.dst = some t->D j = false)->e t = e0 t
 out:∀ t,(∀ j o,l0[j]? = some o->j ∈ pre->o.dst ≠ some t)->es t = e0 t
 wait:∀ j ∈ pre,D j = false->∃ o E v,l0[j]? = some o/\(∀ t ∈ o.looksAt l0.toArray,E t = es t)/\(∀ t,o.dst = some t->es t = v) /\
  ((Region.wanted o (yieldE l0.toArray E) = true/\∀ w',K w'->Does P (execOp (ev E) o) w' (.val v) w')\/(Region.wanted o (yieldE l0.toArray E) = false/\v = undef))
 rep:∃ a,Rep n a es
section
variable {P:Program} [Ctx P] {n:Nat} {l0:List Oper} {k:Nat} {K:World->Prop} {ch:Nat->Bool} {Q:Env->World->Prop} {os:List Nat} {e0:Env} {D:Nat->Bool} {V:(Nat->Bool)->Prop}
theorem FI.look (h:OrdK n l0.toArray k) (ho:OrdOk l0 k ch os V) {pre suf:List Nat} {i:Nat} {e es:Env} {w:World} (hI:FI P n l0 k K ch Q os e0 D pre (i :: suf) e es w) (hc:ch i = false):∃ es',FI P n l0 k K ch Q os e0 D (pre ++ [i]) suf e es' w:=by
 obtain ⟨o,hl,hf⟩:=hI.fl
 rw [if_neg (by simp [hc])] at hf
 obtain ⟨v,hv,hf⟩:=hf
 have hla:l0.toArray[i]? = some o:=by simpa using hl
 have hnot:D i = false:=by
  cases hD:D i with
  | false=>rfl
  | true=>exact absurd (hI.sub i (ho.lt i (by rw [hI.cat]; simp)) hD) (ho.nodup pre i suf hI.cat)
 have hdst:=h.dst i o hla
 have hik:i < k:=ho.lt i (by rw [hI.cat]; simp)
 have hpk:∀ j ∈ pre,j < k:=fun j hj=>ho.lt j (by rw [hI.cat]; exact List.mem_append_left _ hj)
 have hnew:∀ t,o.dst = some t->∀ j p,j < k->l0[j]? = some p->p.dst = some t->j = i:=fun t ht j p hj hp hpt=>h.one j i p o t hj hik (by simpa using hp) hla hpt ht
 refine ⟨updO es o.dst v,⟨by rw [hI.cat]; simp,hf,fun x hx hcx=>?_,fun j hj hD=>List.mem_append_left _ (hI.sub j hj hD),hI.kD,fun j p t hjk hp ht hD=>?_,hI.miss,fun t hno=>?_,fun j hj hD=>?_,?_⟩⟩
 ·rcases List.mem_append.1 hx with hx | hx
  ·exact hI.done x hx hcx
  ·simp at hx; subst hx; rw [hc] at hcx; cases hcx
 ·rw [hI.hit j p t hjk hp ht hD]
  cases hd:o.dst with
  | none=>rfl
  | some d =>
   have:t ≠ d:=fun hh=>by
    have:=hnew d hd j p hjk hp (by rw [ht,hh])
    subst this; rw [hnot] at hD; cases hD
   exact (upd_ne _ _ this).symm
 ·cases hd:o.dst with
  | none=>exact hI.out t (fun j p hp hj=>hno j p hp (List.mem_append_left _ hj))
  | some d =>
   have:t ≠ d:=fun hh=>hno i o hl (List.mem_append_right _ (by simp)) (by rw [hd,hh])
   show upd es d v t = e0 t
   rw [upd_ne _ _ this]; exact hI.out t (fun j p hp hj=>hno j p hp (List.mem_append_left _ hj))
 ·rcases List.mem_append.1 hj with hjp | hj
  ·obtain ⟨p,E,u,hp,hE,hu,hr⟩:=hI.wait j hjp hD
   have hne:∀ t,(t ∈ p.looksAt l0.toArray\/p.dst = some t)->updO es o.dst v t = es t:=by
    intro t ht
    cases hd:o.dst with
    | none=>rfl
    | some d =>
     refine upd_ne _ _ (fun hh=>?_)
     subst hh
     rcases ht with ht | ht
     ·obtain ⟨x,hx,hb,rfl⟩:=h.look j i p o t (hpk j hjp) hik (by simpa using hp) hla hd ht
      obtain ⟨q1,q2,hq⟩:=List.append_of_mem hjp
      obtain ⟨p',hp',htopo⟩:=ho.topo q1 j (q2 ++ x.on :: suf) (by rw [hI.cat,hq]; simp)
      obtain rfl:p' = p:=Option.some.inj (hp'.symm.trans hp)
      have hin:=htopo x hx hb
      exact ho.nodup pre x.on suf hI.cat (by rw [hq]; exact List.mem_append_left _ hin)
     ·have:=hnew t hd j p (hpk j hjp) hp ht
      subst this
      exact ho.nodup pre j suf hI.cat hjp
   exact ⟨p,E,u,hp,fun t ht=>(hE t ht).trans (hne t (.inl ht)).symm,fun t ht=>(hne t (.inr ht)).trans (hu t ht),hr⟩
  ·simp at hj; subst hj
   refine ⟨o,es,v,hl,fun t ht=>?_,fun t ht=>by rw [ht]; exact upd_same _ _ _,hv⟩
   cases hd:o.dst with
   | none=>rfl
   | some d =>
    have hdt:t ≠ d:=fun hh=>by
     subst hh
     obtain ⟨x,hx,hb,he⟩:=h.look j j o o t hik hik hla hla hd ht
     have:=h.back j o hla x hx hb
     omega
    exact (upd_ne es v hdt).symm
 ·obtain ⟨a,ha⟩:=hI.rep
  exact ⟨_,ha.put hdst v⟩
theorem FI.norm (h:OrdK n l0.toArray k) (ho:OrdOk l0 k ch os V):∀ (suf pre:List Nat) {e es:Env} {w:World},FI P n l0 k K ch Q os e0 D pre suf e es w->∃ pre' suf' es',FI P n l0 k K ch Q os e0 D pre' suf' e es' w/\(suf' = []\/∃ c r,suf' = c :: r/\ch c = true)
 | [],pre,_,es,_,hI=>⟨pre,[],es,hI,.inl rfl⟩
 | i :: suf,pre,_,es,_,hI=>by
  cases hc:ch i with
  | true=>exact ⟨pre,i :: suf,es,hI,.inr ⟨i,suf,rfl,hc⟩⟩
  | false =>
   obtain ⟨es',hI'⟩:=hI.look h ho hc
   exact FI.norm h ho suf _ hI'
theorem FI.looks (h:OrdK n l0.toArray k) {pre suf:List Nat} {e es:Env} {w:World} (ho:OrdOk l0 k ch os V) (hI:FI P n l0 k K ch Q os e0 D pre suf e es w) {i:Nat} (hik:i < k) {o:Oper} (hl:l0[i]? = some o) (hdep:depsOn o D):∀ t ∈ o.looksAt l0.toArray,e t = es t:=by
 intro t ht
 by_cases hex:∃ (j:Nat) (p:Oper),j < k/\l0[j]? = some p/\p.dst = some t
 ·obtain ⟨j,p,hj,hp,hd⟩:=hex
  obtain ⟨x,hx,hb,rfl⟩:=h.look i j o p t hik hj (by simpa using hl) (by simpa using hp) hd ht
  exact hI.hit x.on p t hj hp hd (hdep x hx hb)
 ·rw [hI.miss t (fun j p hj hp hd=>absurd ⟨j,p,hj,hp,hd⟩ hex),hI.out t (fun j p hp hj hd=>hex ⟨j,p,ho.lt j (by rw [hI.cat]; exact List.mem_append_left _ hj),hp,hd⟩)]
end
theorem wpOps_FL {P:Program} [Ctx P] {n:Nat} {l0:List Oper} {k:Nat} {K:World->Prop} {ch:Nat->Bool} {Q:Env->World->Prop} {os:List Nat} {e0:Env} {V:(Nat->Bool)->Prop} (h:OrdK n l0.toArray k) (ho:OrdOk l0 k ch os V) (hk:k <= l0.length)
  (hall:∀ D,V D->∀ i,k <= i->i < l0.toArray.size->D i = true->∀ j,j < i->D j = true) (_hdeps:∀ D,V D->∀ i o,l0[i]? = some o->D i = true->depsOn o D)
  {Q':Exit->Act->World->Prop} (hQ:∀ a w e,Rep n a e->Q e w->wpOps P l0.toArray Q' (List.range' k (l0.toArray.size - k)) a w) :
  ∀ {listed:Array Bool} {σ:List Nat},Lin l0.toArray listed σ->(∀ τ ρ,σ = τ ++ ρ->V (fun j=>listed.getD j false || τ.contains j)) ->
   ∀ (a:Act) (e es:Env) (w:World) (pre suf:List Nat),listed.size = l0.toArray.size->(∀ j,k <= j->listed.getD j false = false)->Rep n a e->FI P n l0 k K ch Q os e0 (fun j=>listed.getD j false) pre suf e es w->(suf = []\/∃ c r,suf = c :: r/\ch c = true)->wpOps P l0.toArray Q' σ a w:=by
 have fin:∀ {D:Nat->Bool} {e es:Env} {w:World} {pre suf:List Nat},(∀ j,j < k->D j = true)->(∀ j,k <= j->D j = false)->FI P n l0 k K ch Q os e0 D pre suf e es w->(suf = []\/∃ c r,suf = c :: r/\ch c = true)->Q e w:=by
  intro D e es w pre suf hD hD2 hI hs
  have hsuf:suf = []:=by
   rcases hs with hs | ⟨c,r,rfl,_⟩
   ·exact hs
   ·have hcl:=ho.lt c (by rw [hI.cat]; simp)
    exact absurd (hI.sub c hcl (hD c hcl)) (ho.nodup pre c r hI.cat)
  subst hsuf
  have he:e = es:=by
   funext t
   by_cases hex:∃ (j:Nat) (p:Oper),j < k/\l0[j]? = some p/\p.dst = some t
   ·obtain ⟨j,p,hj,hp,hd⟩:=hex
    exact hI.hit j p t hj hp hd (hD j hj)
   ·rw [hI.miss t (fun j p hj hp hd=>absurd ⟨j,p,hj,hp,hd⟩ hex),hI.out t (fun j p hp hj hd=>hex ⟨j,p,ho.lt j (by rw [hI.cat]; simpa using hj),hp,hd⟩)]
  rw [he]; exact hI.fl
 intro listed σ hlin
 induction hlin with
 | @nil listed hr =>
  intro _ a e es w pre suf hs hkf ha hI hsf
  have hra:=ready_all2 h.bk hs hr
  have hkl:l0.toArray.size <= k:=by
   rcases Nat.lt_or_ge k l0.toArray.size with h3 | h3
   ·have:=hra k h3
    rw [hkf k (Nat.le_refl _)] at this; cases this
   ·exact h3
  have:=hQ a w e ha (fin (fun j hj=>hra j (by simp; omega)) hkf hI hsf)
  rw [show l0.toArray.size - k = 0 by omega] at this
  exact this
 | @cons listed i σ hi hl ih =>
  intro hV a e es w pre suf hs hkf ha hI hsf
  have hi0:=hi
  obtain ⟨h1,o,hio',hdep⟩:=mem_ready.1 hi
  have hlo:l0[i]? = some o:=by simpa using hio'
  have hio:i < l0.toArray.size:=(Array.getElem?_eq_some_iff.1 hio').1
  have hil:i < listed.size:=by omega
  have hDi:listed.getD i false = false:=by
   simp only [Array.getD_eq_getD_getElem?,hil,Array.getElem?_eq_getElem,Option.getD_some] at h1 ⊢; exact h1
  have hVD:V (fun j=>listed.getD j false)/\V (setD (fun j=>listed.getD j false) i):=by
   constructor
   ·have:=hV [] (i :: σ) rfl
    have e1:(fun j=>listed.getD j false || ([]:List Nat).contains j) = fun j=>listed.getD j false:=funext fun j=>by simp
    rw [e1] at this; exact this
   ·have:=hV [i] σ rfl
    have e1:(fun j=>listed.getD j false || ([i]:List Nat).contains j) = setD (fun j=>listed.getD j false) i:=funext fun j=>by
     unfold setD
     by_cases hj:j = i
     ·simp [hj]
     ·simp [hj]
    rw [e1] at this; exact this
  by_cases hik:k <= i
  ·have hothers:∀ j,j < i->listed.getD j false = true:=fun j hj=>by
    have:=hall _ hVD.2 i hik hio (by simp [setD]) j hj
    unfold setD at this
    rw [if_neg (by omega)] at this
    exact this
   have hki:i = k:=by
    rcases Nat.lt_or_ge k i with h3 | h3
    ·have:=hothers k h3; rw [hkf k (Nat.le_refl _)] at this; cases this
    ·omega
   subst hki
   rw [lin_suffix2 (V:=V) h.bk (.cons hi0 hl) i (by omega) hs hothers (fun j hj=>hkf j hj) hall hV]
   exact hQ a w e ha (fin hothers hkf hI hsf)
  ·have hik:i < k:=by omega
   have hV':∀ τ ρ,σ = τ ++ ρ->V (fun j=>(listed.setIfInBounds i true).getD j false || τ.contains j):=by
    intro τ ρ hσ
    have:=hV (i :: τ) ρ (by rw [hσ]; rfl)
    have e1:(fun j=>listed.getD j false || (i :: τ).contains j) = fun j=>(listed.setIfInBounds i true).getD j false || τ.contains j:=by
     funext j
     by_cases hj:i = j
     ·subst hj; simp [hil]
     ·rw [getD_set_ne false hj]
      simp [Ne.symm hj]
    rw [e1] at this; exact this
   have hkf':∀ j,k <= j->(listed.setIfInBounds i true).getD j false = false:=fun j hj=>by rw [getD_set_ne false (by omega)]; exact hkf j hj
   have hlk:=hI.looks h ho hik hlo hdep
   have hset:(fun j=>(listed.setIfInBounds i true).getD j false) = setD (fun j=>listed.getD j false) i:=setD_eq hil
   have hD1:setD (fun j=>listed.getD j false) i i = true:=by simp [setD]
   have hDn:∀ j,j ≠ i->setD (fun j=>listed.getD j false) i j = listed.getD j false:=fun j hj=>by simp [setD,hj]
   have mem:i ∈ pre\/i ∈ suf:=by have:=ho.all i hik; rw [hI.cat] at this; exact List.mem_append.1 this
   rcases mem with hip | his
   ·
    obtain ⟨o',E,v,hl',hE,hu,hr⟩:=hI.wait i hip hDi
    obtain rfl:o' = o:=Option.some.inj (hl'.symm.trans hlo)
    have hEe:∀ t ∈ o'.looksAt l0.toArray,e t = E t:=fun t ht=>(hlk t ht).trans (hE t ht).symm
    have hex:=execOp_looks (h.sel i o' hik hio') hEe
    have hwa:=wanted_looks hEe
    have next:wpOps P l0.toArray Q' σ (a.put o'.dst v) w:=by
     refine ih hV' _ (updO e o'.dst v) es w pre suf (by simp [hs]) hkf' (ha.put (h.dst i o' hio') v) ?_ hsf
     rw [hset]
     refine ⟨hI.cat,hI.fl,fun x hx hc=>?_,fun j hj hD=>?_,hI.kD,fun j p t hjk hp ht hD=>?_,fun t hno=>?_,hI.out,fun j hj hD=>?_,hI.rep⟩
     ·by_cases hxi:x = i
      ·subst hxi; exact hD1
      ·rw [hDn x hxi]; exact hI.done x hx hc
     ·by_cases hji:j = i
      ·subst hji; exact hip
      ·rw [hDn j hji] at hD; exact hI.sub j hj hD
     ·by_cases hji:j = i
      ·subst hji
       obtain rfl:p = o':=Option.some.inj (hp.symm.trans hlo)
       rw [ht]
       exact (upd_same _ _ _).trans (hu t ht).symm
      ·rw [hDn j hji] at hD
       cases hd:o'.dst with
       | none=>exact hI.hit j p t hjk hp ht hD
       | some d =>
        have:t ≠ d:=fun hh=>hji (h.one j i p o' t hjk hik (by simpa using hp) hio' ht (by rw [hd,hh]))
        exact (upd_ne _ _ this).trans (hI.hit j p t hjk hp ht hD)
     ·have hnt:o'.dst ≠ some t:=fun hh=>by have:=hno i o' hik hlo hh; rw [hD1] at this; cases this
      have hm:=hI.miss t (fun j p hjk hp hd=>by
       have:=hno j p hjk hp hd
       by_cases hji:j = i
       ·subst hji; exact hDi
       ·rwa [hDn j hji] at this)
      cases hd:o'.dst with
      | none=>exact hm
      | some d=>exact (upd_ne _ _ (fun hh=>hnt (by rw [hd,hh]))).trans hm
     ·have hji:j ≠ i:=fun hh=>by subst hh; rw [hD1] at hD; cases hD
      rw [hDn j hji] at hD
      exact hI.wait j hj hD
    unfold wpOps
    rw [hio']
    simp only
    rw [wanted_rep ha,hwa]
    rcases hr with ⟨hw,hr⟩ | ⟨hw,hv⟩
    ·rw [if_pos hw]
     exact opwp_does (r:=.val v) (w':=w) (by rw [ha.eval,hex]; exact hr w hI.kD) next
    ·rw [if_neg (by rw [hw]; simp),<- hv]; exact next
   ·
    rcases hsf with hsf | ⟨c,r,rfl,hc⟩
    ·rw [hsf] at his; cases his
    have hic:i = c:=by
     rcases List.mem_cons.1 his with h9 | h9
     ·exact h9
     ·exfalso
      obtain ⟨m1,m2,hm⟩:=List.append_of_mem h9
      have:=ho.wait pre c m1 i m2 (by rw [hI.cat,hm]; simp) hc _ hVD.2 hD1
      have hci:c ≠ i:=fun hh=>by
       subst hh
       exact ho.nodup (pre ++ c :: m1) c m2 (by rw [hI.cat,hm]; simp) (by simp)
      rw [hDn c hci] at this
      exact ho.nodup pre c r hI.cat (hI.sub c (ho.lt c (by rw [hI.cat]; simp)) this)
    subst hic
    obtain ⟨o',hl',hf⟩:=hI.fl
    obtain rfl:o' = o:=Option.some.inj (hl'.symm.trans hlo)
    rw [if_pos hc] at hf
    obtain ⟨asx,has⟩:=hI.rep
    have hfa:=hf (fun q hq=>by simp at hq; subst hq; exact h.dst i q hio') asx has
    have hex:=execOp_looks (h.sel i o' hik hio') hlk
    have hwa:=wanted_looks hlk
    have next:∀ v w',K w'->FL P n l0 K ch Q r (updO es o'.dst v) w'->wpOps P l0.toArray Q' σ (a.put o'.dst v) w':=by
     intro v w' hK hfl
     have hI':FI P n l0 k K ch Q os e0 (setD (fun j=>listed.getD j false) i) (pre ++ [i]) r (updO e o'.dst v) (updO es o'.dst v) w':=by
      have hnew:∀ t,o'.dst = some t->∀ j p,j < k->l0[j]? = some p->p.dst = some t->j = i:=fun t ht j p hjk hp hpt=>h.one j i p o' t hjk hik (by simpa using hp) hio' hpt ht
      have hpk:∀ j ∈ pre,j < k:=fun j hj=>ho.lt j (by rw [hI.cat]; exact List.mem_append_left _ hj)
      refine ⟨by rw [hI.cat]; simp,hfl,fun x hx hcx=>?_,fun j hj hD=>?_,hK,fun j p t hjk hp ht hD=>?_,fun t hno=>?_,fun t hno=>?_,fun j hj hD=>?_,⟨_,has.put (h.dst i o' hio') v⟩⟩
      ·by_cases hxi:x = i
       ·subst hxi; exact hD1
       ·rw [hDn x hxi]
        rcases List.mem_append.1 hx with hx | hx
        ·exact hI.done x hx hcx
        ·simp at hx; exact absurd hx hxi
      ·by_cases hji:j = i
       ·subst hji; simp
       ·rw [hDn j hji] at hD; exact List.mem_append_left _ (hI.sub j hj hD)
      ·by_cases hji:j = i
       ·subst hji
        obtain rfl:p = o':=Option.some.inj (hp.symm.trans hlo)
        rw [ht]; exact (upd_same _ _ _).trans (upd_same _ _ _).symm
       ·rw [hDn j hji] at hD
        cases hd:o'.dst with
        | none=>exact hI.hit j p t hjk hp ht hD
        | some d =>
         have:t ≠ d:=fun hh=>hji (hnew d hd j p hjk hp (by rw [ht,hh]))
         show upd e d v t = upd es d v t
         rw [upd_ne _ _ this,upd_ne _ _ this]; exact hI.hit j p t hjk hp ht hD
      ·have hnt:o'.dst ≠ some t:=fun hh=>by have:=hno i o' hik hlo hh; rw [hD1] at this; cases this
       have hm:=hI.miss t (fun j p hjk hp hd=>by
        have:=hno j p hjk hp hd
        by_cases hji:j = i
        ·subst hji; exact hDi
        ·rwa [hDn j hji] at this)
       cases hd:o'.dst with
       | none=>exact hm
       | some d=>exact (upd_ne _ _ (fun hh=>hnt (by rw [hd,hh]))).trans hm
      ·have hnt:o'.dst ≠ some t:=hno i o' hlo (by simp)
       have hm:=hI.out t (fun j p hp hj=>hno j p hp (List.mem_append_left _ hj))
       cases hd:o'.dst with
       | none=>exact hm
       | some d=>exact (upd_ne _ _ (fun hh=>hnt (by rw [hd,hh]))).trans hm
      ·have hji:j ≠ i:=fun hh=>by subst hh; rw [hD1] at hD; cases hD
       rw [hDn j hji] at hD
       have hjp:j ∈ pre:=by
        rcases List.mem_append.1 hj with hj | hj
        ·exact hj
        ·simp at hj; exact absurd hj hji
       obtain ⟨p,E,u,hp,hE,hu,hr⟩:=hI.wait j hjp hD
       have hne:∀ t,(t ∈ p.looksAt l0.toArray\/p.dst = some t)->updO es o'.dst v t = es t:=by
        intro t ht
        cases hd:o'.dst with
        | none=>rfl
        | some d =>
         refine upd_ne _ _ (fun hh=>?_)
         subst hh
         rcases ht with ht | ht
         ·obtain ⟨x,hx,hb,rfl⟩:=h.look j i p o' t (hpk j hjp) hik (by simpa using hp) hio' hd ht
          obtain ⟨q1,q2,hq⟩:=List.append_of_mem hjp
          obtain ⟨p',hp',htopo⟩:=ho.topo q1 j (q2 ++ x.on :: r) (by rw [hI.cat,hq]; simp)
          obtain rfl:p' = p:=Option.some.inj (hp'.symm.trans hp)
          have hin:=htopo x hx hb
          exact ho.nodup pre x.on r hI.cat (by rw [hq]; exact List.mem_append_left _ hin)
         ·exact hji (hnew t hd j p (hpk j hjp) hp ht)
       exact ⟨p,E,u,hp,fun t ht=>(hE t ht).trans (hne t (.inl ht)).symm,fun t ht=>(hne t (.inr ht)).trans (hu t ht),hr⟩
     obtain ⟨pre2,suf2,es2,hI2,hs2⟩:=FI.norm h ho r _ hI'
     exact ih hV' _ _ es2 w' pre2 suf2 (by simp [hs]) hkf' (ha.put (h.dst i o' hio') v) (by rw [hset]; exact hI2) hs2
    have nx:∀ v w',lift n (fun x e' w'=>x = Exit.normal/\K w'/\FL P n l0 K ch Q r e' w') .normal (asx.put o'.dst v) w'->wpOps P l0.toArray Q' σ (a.put o'.dst v) w':=by
     rintro v w' ⟨e',hre,_,hK,hfl⟩
     have:e' = updO es o'.dst v:=Rep.ext hre (has.put (h.dst i o' hio') v)
     rw [this] at hfl
     exact next v w' hK hfl
    unfold wpOps
    rw [hio']
    simp only
    rw [wanted_rep ha,hwa]
    unfold wpList at hfa
    rw [wanted_rep has] at hfa
    split at hfa
    ·rename_i hw
     rw [if_pos hw]
     intro τ d
     obtain ⟨rr,w',h1,h2⟩:=hfa τ d
     rw [has.eval] at h1
     refine ⟨rr,w',by rw [ha.eval,hex]; exact h1,?_⟩
     cases rr with
     | val u=>exact nx u _ h2
     | skip=>exact nx undef _ h2
     | enter f args =>
      refine Calls.mono h2 fun x w'' hx=>?_
      cases x with
      | returned u=>exact nx u w'' hx
      | panicked ch=>obtain ⟨e9,_,h9,_⟩:=hx; cases h9
      | outgrown=>exact hx.elim
     | panic u=>obtain ⟨e9,_,h9,_⟩:=h2; cases h9
    ·rename_i hw
     rw [if_neg hw]
     exact nx undef w hfa
theorem wp_FL {P:Program} [Ctx P] {n:Nat} {l:List Oper} {Q:Exit->Env->World->Prop} {e:Env} {w:World} {k:Nat} {ch:Nat->Bool} {os:List Nat} {K:World->Prop} {σ:List Nat} (ho:OrdK n l.toArray k) (hA:sufB l k = true) (hkl:k <= l.length) (hoo:OrdOk l k ch os (Pre σ)) (hlin:Lin l.toArray (Array.replicate l.toArray.size false) σ) (hdeps:∀ D,Pre σ D->∀ i o,l[i]? = some o->D i = true->depsOn o D)
  (hK:K w) (h:FL P n l K ch (fun e' w'=>L P n l.toArray Q (l.drop k) e' w') os e w) {a:Act} (ha:Rep n a e):wpOps P l.toArray (lift n Q) σ a w:=by
 have h0:FI P n l k K ch (fun e' w'=>L P n l.toArray Q (l.drop k) e' w') os e (fun j=>(Array.replicate l.toArray.size false).getD j false) [] os e e w :=
  ⟨rfl,h,(fun x hx=>by cases hx),(fun j _ hD=>absurd hD (by rw [getD_replicate_false']; simp)),hK,(fun j o t _ _ _ hD=>absurd hD (by rw [getD_replicate_false']; simp)),(fun t _=>rfl),(fun t _=>rfl),(fun j hj=>by cases hj),⟨a,ha⟩⟩
 obtain ⟨pre,suf,es,hI,hs⟩:=FI.norm ho hoo _ _ h0
 refine wpOps_FL (V:=Pre σ) ho hoo hkl (fun D hD i hki hil=>sufB_all hA hdeps hD i hki (by simpa using hil)) hdeps (fun a' w' e' ha' hq=>?_) hlin ?_ a e es _ pre suf (by simp) (fun j _=>getD_replicate_false' _ _) ha hI hs
 ·have h4:=hq (fun o' ho'=>by
   obtain ⟨i,hi⟩:=List.mem_iff_getElem?.1 ho'
   rw [List.getElem?_drop] at hi
   exact ho.dst (k + i) o' (by simpa using hi)) a' ha'
  have h5:=wpOps_eq_wpList (P:=P) (ops:=l.toArray) (Q:=lift n Q) (l.drop k) k (fun j=>by rw [List.getElem?_drop]; simp)
  rw [List.length_drop] at h5
  have h6:l.toArray.size - k = l.length - k:=by simp
  rw [h6,h5]
  exact h4
 ·intro τ ρ hσ
  exact ⟨τ,ρ,hσ,fun k=>by show ((Array.replicate l.toArray.size false).getD k false || τ.contains k) = true ↔ _; rw [getD_replicate_false']; simp⟩
theorem W.fl {P:Program} [Ctx P] {n:Nat} {id:Nat} {l:List Oper} {Q:Exit->Env->World->Prop} {e:Env} {w:World} (k:Nat) (ch:List Nat) (os:List Nat) (K:World->Prop) (hm:P.follows .mixedOrders = true) (hB:ordKB n l.toArray k = true) (hA:sufB l k = true) (hk:Nat.ble k l.length = true) (hO:ordOk l k (fun i=>ch.contains i) os = true)
  (hK:K w.drew) (h:FL P n l K (fun i=>ch.contains i) (fun e' w'=>L P n l.toArray Q (l.drop k) e' w') os e w.drew):W P n (.region id l.toArray true) Q e w:=by
 intro a ha
 refine wp_region_draw fun t=>?_
 simp only [Region.schedule,hm,Bool.true_or,if_true]
 have hlin:=lin_go l.toArray l.toArray.size t (Array.replicate l.toArray.size false) (by simp) (by simp)
 unfold Region.linearise
 generalize Region.linearise.go .any l.toArray l.toArray.size t (Array.replicate l.toArray.size false) [] = σ at hlin ⊢
 exact wp_FL (ordK_of hB) hA (Nat.le_of_ble_eq_true hk) (ordOk_of (lin_deps hlin) (fun p hp=>by cases hp) hO) hlin (lin_deps hlin) hK h ha
end Go.Vy
end
/- Vc16.lean's laws, for one goroutine among others (printed by port.py). Nothing here speaks of a program. -/
section
namespace Go.Vy
open Go Go.Yc Go.RowKit
open Go.Vc
section
variable {w w' w0:World} {B E:Nat} {s:Nat} {a:Option Addr} {n c:Nat} {xs:List Value}
end
section
variable {P:Program} [Ctx P] {ρ:Operand->Value} {w:World} {d:Option Nat} {ty:TypeId} {ps:String} {af:Array Edge} {g:Option (Nat × Bool)} {x y:Operand} {T T' E:TypeId}
end
section
variable {P:Program} {ρ:Operand->Value} {w:World} {d:Option Nat} {ty:TypeId} {ps:String} {af:Array Edge} {g:Option (Nat × Bool)} {x y:Operand} {T T' E:TypeId}
theorem x_lenK {a:Option Addr} {n c:Nat} {m:Int} {aT:Array TypeId} (hm:((n:Nat):Int) = m) (hx:ρ x = .slice a n c) (hT:P.underlying T = some (.slice E)) (hA:aT[0]? = some T):Does P (execOp ρ ⟨d,.call ⟨.builtin .len,#[x],aT⟩,ty,ps,af,g⟩) w (.val (.int .i64 m)) w :=
 .of_tame (tame_ok rfl _) rfl rfl fun _τ _d=>Go.Vc.x_lenK (hm:=hm) (hx:=hx) (hT:=hT) (hA:=hA)
end
section
variable {P:Program} [Ctx P] {ρ:Operand->Value} {w:World} {d:Option Nat} {ty:TypeId} {ps:String} {af:Array Edge} {g:Option (Nat × Bool)} {x y:Operand} {T T' E:TypeId}
end
section
variable {P:Program} [Ctx P] {n:Nat} {Q:Exit->Env->World->Prop} {e:Env} {w:World}
end
end Go.Vy
end
/- A walk that sees a part of memory alone: what it does there it does beside whatever else lies there. Nothing here speaks of a program. -/
section
namespace Go.Vy
open Go Go.Conc Go.Yc
abbrev Hid:=Nat->Option Obj
def over (H:Hid) (u:World):World:={ u with heap:=u.heap.mapIdx fun b o=>(H b).getD o }
theorem over_get (H:Hid) (u:World) (b:Nat):(over H u).heap[b]? = (u.heap[b]?).map fun o=>(H b).getD o:=by
 simp [over,Array.getElem?_mapIdx]
theorem over_size (H:Hid) (u:World):(over H u).heap.size = u.heap.size:=by simp [over]
theorem over_hit {H:Hid} {u:World} {b:Nat} {o:Obj} (h:H b = some o) (hb:b < u.heap.size):(over H u).heap[b]? = some o:=by
 rw [over_get,Array.getElem?_eq_getElem hb]; simp [h]
theorem over_miss {H:Hid} (u:World) {b:Nat} (h:H b = none):(over H u).heap[b]? = u.heap[b]?:=by
 rw [over_get,h]; cases u.heap[b]? <;> rfl
structure HidOk (H:Hid) (u:World):Prop where
 gone:∀ b o,H b = some o->Gone u b
 view:∀ b o,H b = some o->isView o = false
theorem _root_.Go.Yc.Gone.lt {u:World} {b:Nat} (h:Gone u b):b < u.heap.size:=by obtain ⟨T,f,h⟩:=h; exact (Array.getElem?_eq_some_iff.1 h).1
theorem HidOk.evo {H:Hid} {u u':World} (h:HidOk H u) (he:Evo u u'):HidOk H u':=⟨fun b o hb=>(h.gone b o hb).evo he,h.view⟩
theorem HidOk.onT {H:Hid} {u:World} (h:HidOk H u) (τ:Tape) (d:Nat):HidOk H (Yc.onT u τ d):=⟨h.gone,h.view⟩
def plugH (H:Hid) (ρ:Nat->Plug) (w:World) (b:Nat):Plug:=match H b,w.heap[b]? with
 | some _,some y=>.gone y
 | _,_=>ρ b
theorem Sim.under {H:Hid} {ρ:Nat->Plug} {u w:World} (hH:HidOk H u) (h:Sim ρ (over H u) w):Sim (plugH H ρ w) u w:=by
 refine ⟨h.os,h.output,h.tape,h.drawn,by rw [h.size,over_size],fun b x hx=>?_,fun b hb=>?_,fun b x hx=>?_⟩
 ·have hlt:=(Array.getElem?_eq_some_iff.1 hx).1
  cases hb:H b with
  | none =>
   obtain ⟨y,h1,h2⟩:=h.obj b x (by rw [over_miss u hb]; exact hx)
   exact ⟨y,h1,by simp only [plugH,hb]; exact h2⟩
  | some o =>
   obtain ⟨y,h1,h2⟩:=h.obj b o (over_hit hb hlt)
   obtain ⟨T,f,hg⟩:=hH.gone b o hb
   rw [hx] at hg
   obtain rfl:=Option.some.inj hg
   exact ⟨y,h1,by simp only [plugH,hb,h1]; exact .gone _ _ _⟩
 ·cases hb':H b with
  | none=>simp only [plugH,hb']; exact h.new b (by rw [over_size]; exact hb)
  | some o=>have:=(hH.gone b o hb').lt; omega
 ·cases hb:H b with
  | none=>exact h.noview b x (by rw [over_miss u hb]; exact hx)
  | some o =>
   obtain ⟨T,f,hg⟩:=hH.gone b o hb
   rw [hx] at hg
   obtain rfl:=Option.some.inj hg
   rfl
theorem Sim.over {H:Hid} {ρ:Nat->Plug} {u u' w w':World} (hH:HidOk H u) (h:Sim ρ (over H u) w) (he:Evo u u') (h':Sim (plugH H ρ w) u' w'):Sim ρ (Vy.over H u') w':=by
 have hH':=hH.evo he
 refine ⟨h'.os,h'.output,h'.tape,h'.drawn,by rw [h'.size,over_size],fun b x hx=>?_,fun b hb=>?_,fun b x hx=>?_⟩
 ·cases hb:H b with
  | none =>
   rw [over_miss u' hb] at hx
   obtain ⟨y,h1,h2⟩:=h'.obj b x hx
   simp only [plugH,hb] at h2
   exact ⟨y,h1,h2⟩
  | some o =>
   have hlt:=(hH.gone b o hb).lt
   obtain ⟨T,f,hg⟩:=hH'.gone b o hb
   rw [over_hit hb (hH'.gone b o hb).lt] at hx
   obtain rfl:=Option.some.inj hx
   obtain ⟨y,h1,h2⟩:=h.obj b o (over_hit hb hlt)
   obtain ⟨y',h3,h4⟩:=h'.obj b _ hg
   simp only [plugH,hb,h1] at h4
   cases h4
   exact ⟨y,h3,h2⟩
 ·rw [over_size] at hb
  have:=h'.new b hb
  cases hb':H b with
  | none=>simp only [plugH,hb'] at this; exact this
  | some o=>have:=(hH'.gone b o hb').lt; omega
 ·cases hb:H b with
  | none=>exact h'.noview b x (by rw [over_miss u' hb] at hx; exact hx)
  | some o =>
   rw [over_hit hb (hH'.gone b o hb).lt] at hx
   obtain rfl:=Option.some.inj hx
   exact hH.view b o hb
theorem evo_over {H:Hid} {u u':World} (hH:HidOk H u) (he:Evo u u'):Evo (over H u) (over H u'):=by
 refine ⟨by rw [over_size,over_size]; exact he.size,fun b x hx=>?_⟩
 cases hb:H b with
 | none =>
  rw [over_miss u hb] at hx
  obtain ⟨y,h1,h2⟩:=he.obj b x hx
  exact ⟨y,by rw [over_miss u' hb]; exact h1,h2⟩
 | some o =>
  rw [over_hit hb (hH.gone b o hb).lt] at hx
  obtain rfl:=Option.some.inj hx
  exact ⟨_,over_hit hb ((hH.evo he).gone b _ hb).lt,keepsObj.refl _⟩
theorem evOk_over {H:Hid} {u:World} (hH:HidOk H u) {e:Event} (h:EvOk u e):EvOk (over H u) e:=by
 obtain ⟨l,wr,sy⟩:=e
 cases l with
 | cell a =>
  intro hlt
  rw [over_size] at hlt
  obtain ⟨⟨v,hv⟩,hw⟩:=h hlt
  obtain ⟨c,T,f,hb,hs,hc⟩:=cell_some hv
  have hn:H a.block = none:=by
   cases hh:H a.block with
   | none=>rfl
   | some o =>
    obtain ⟨T',f',hg⟩:=hH.gone _ _ hh
    rw [hb] at hg
    cases hg
    simp at hc
  have:=cell_of_heap (u:=u) (u':=over H u) (a:=a) (over_miss u hn)
  exact ⟨⟨v,by rw [this.1]; exact hv⟩,fun z=>by rw [this.2]; exact hw z⟩
 | obj r =>
  intro hlt
  rw [over_size] at hlt
  obtain ⟨x,hx,hc⟩:=h hlt
  have hn:H r = none:=by
   cases hh:H r with
   | none=>rfl
   | some o =>
    obtain ⟨T',f',hg⟩:=hH.gone _ _ hh
    rw [hx] at hg
    cases hg
    cases hc
  exact ⟨x,by rw [over_miss u hn]; exact hx,hc⟩
 | output=>exact h
 | goroutines=>exact h
 | mark m=>exact h
theorem over_onT (H:Hid) (u:World) (τ:Tape) (d:Nat):over H (onT u τ d) = onT (over H u) τ d:=rfl
section
variable {P:Program} {main:Bool} {H:Hid}
theorem Follows.over {g g':Goroutine} {u u':World} (hH:HidOk H u) (h:Follows P main g u g' u'):Follows P main g (Vy.over H u) g' (Vy.over H u')/\(∀ ρ w,Sim ρ (Vy.over H u) w->Evo u u'):=by
 obtain ⟨hr,h⟩:=h
 refine ⟨⟨hr,fun ρ w hs=>?_⟩,fun ρ w hs=>(h _ w (Sim.under hH hs)).1⟩
 obtain ⟨he,w',es,h1,h2,h3⟩:=h _ w (Sim.under hH hs)
 exact ⟨evo_over hH he,w',es,h1,Sim.over hH hs he h2,fun e hee=>evOk_over hH (h3 e hee)⟩
theorem resDoes_over {fn:Func} {tmps:Array Value} {w:World} {v:Value} (hH:HidOk H w) (h:ResDoes P fn tmps w v):ResDoes P fn tmps (over H w) v:=by
 intro τ d ρ x hs
 rw [<- over_onT] at hs
 obtain ⟨x',es,h1,h2,h3⟩:=h τ d _ x (Sim.under (hH.onT τ d) hs)
 exact ⟨x',es,h1,by rw [<- over_onT]; exact Sim.over (hH.onT τ d) hs (Evo.refl _) h2,fun e he=>by rw [<- over_onT]; exact evOk_over (hH.onT τ d) (h3 e he)⟩
theorem leaves_over {fr:Frame} {w:World} {e:Ending} (hH:HidOk H w) (h:Leaves P fr w e):Leaves P fr (over H w) e:=by
 cases e with
 | returned v=>obtain ⟨h1,h2,h3,fn,h4,h5⟩:=h; exact ⟨h1,h2,h3,fn,h4,resDoes_over hH h5⟩
 | panicked ch=>exact h
 | outgrown=>exact h
end
section
variable {P:Program} {Post:Value->World->Prop} {X:Gh} {h:Nat} {u:World}
theorem Fin.own' {g:Goroutine} (hrun:g.status = .running) (hs:∀ τ d,∃ g' u',Follows P (h == 0) g (onT u τ d) g' u'/\((∃ ρ w,Sim ρ (onT u τ d) w)->Fin P Post X h g' u')):Fin P Post X h g u:=by
 refine Fin.of_step hrun fun live T gs w sl d sl' q hg hst C=>?_
 obtain ⟨g',u',hF,hK⟩:=hs (w.at d).tape (w.at d).drawn
 obtain ⟨ρ,hsim,_⟩:=C.sim
 obtain ⟨w',es,hgo,C',hself⟩:=C.own hg hF
 exact Ends.step (hst.trans (runT_crowd_go (sl:=sl') hg hgo)) (hK ⟨ρ,_,hsim⟩ _ _ _ _ _ _ hself C')
def FinH (P:Program) (Post:Value->World->Prop) (X:Gh) (h:Nat) (H:Hid) (g:Goroutine) (u:World):Prop:=HidOk H u->Fin P Post X h g (over H u)
theorem evo_onT {u u':World} {τ:Tape} {d:Nat} (h:Evo (onT u τ d) u'):Evo u u':=⟨h.size,h.obj⟩
theorem finH_own {H:Hid} {g:Goroutine} (hrun:g.status = .running) (hs:∀ τ d,∃ g' u',Follows P (h == 0) g (onT u τ d) g' u'/\(Evo u u'->FinH P Post X h H g' u')):FinH P Post X h H g u:=by
 intro hH
 refine Fin.own' hrun fun τ d=>?_
 obtain ⟨g',u',hF,hK⟩:=hs τ d
 obtain ⟨h1,h2⟩:=Follows.over (hH.onT τ d) hF
 rw [over_onT] at h1
 refine ⟨g',over H u',h1,fun ⟨ρ,w,hs⟩=>?_⟩
 have hE:=evo_onT (h2 ρ w (by rw [over_onT]; exact hs))
 exact hK hE (hH.evo hE)
theorem finH_onT {H:Hid} {g:Goroutine} {τ:Tape} {d:Nat} (hF:FinH P Post X h H g (onT u τ d)):FinH P Post X h H g u:=fun hH=>fin_onT (hF (hH.onT τ d))
theorem finH_cl (H:Hid):Cl P (h == 0) (FinH P Post X h H) :=
 ⟨fun g u hr hs=>finH_own hr fun τ d=>by
  obtain ⟨g',u',d',hF,hZ⟩:=hs τ d
  exact ⟨g',u',hF,fun _=>finH_onT hZ⟩⟩
def hidOf (V:Nat->Prop) [DecidablePred V] (U:World):Hid:=fun b=>if V b then none else U.heap[b]?
def seeOf (V:Nat->Prop) [DecidablePred V] (U:World):World:={ U with heap:=U.heap.mapIdx fun b o=>if V b then o else nothing }
theorem seeOf_get (V:Nat->Prop) [DecidablePred V] (U:World) (b:Nat):(seeOf V U).heap[b]? = (U.heap[b]?).map fun o=>if V b then o else nothing:=by simp [seeOf,Array.getElem?_mapIdx]
theorem seeOf_hit {V:Nat->Prop} [DecidablePred V] (U:World) {b:Nat} (h:V b):(seeOf V U).heap[b]? = U.heap[b]?:=by rw [seeOf_get]; simp [h]
theorem seeOf_miss {V:Nat->Prop} [DecidablePred V] {U:World} {b:Nat} (h:¬ V b) (hb:b < U.heap.size):(seeOf V U).heap[b]? = some nothing:=by rw [seeOf_get,Array.getElem?_eq_getElem hb]; simp [h]
theorem seeOf_size (V:Nat->Prop) [DecidablePred V] (U:World):(seeOf V U).heap.size = U.heap.size:=by simp [seeOf]
theorem over_see (V:Nat->Prop) [DecidablePred V] (U:World):over (hidOf V U) (seeOf V U) = U:=by
 have:(over (hidOf V U) (seeOf V U)).heap = U.heap:=by
  apply Array.ext_getElem?
  intro b
  rw [over_get,seeOf_get]
  unfold hidOf
  cases hb:U.heap[b]? with
  | none=>rfl
  | some o=>by_cases hv:V b <;> simp [hv]
 show { seeOf V U with heap:=(over (hidOf V U) (seeOf V U)).heap } = U
 rw [this]; rfl
theorem hidOf_ok {V:Nat->Prop} [DecidablePred V] {U:World} (hv:∀ (b:Nat) (o:Obj),U.heap[b]? = some o->isView o = false):HidOk (hidOf V U) (seeOf V U):=by
 refine ⟨fun b o h=>?_,fun b o h=>?_⟩
 ·unfold hidOf at h
  by_cases hb:V b
  ·simp [hb] at h
  ·simp only [hb,if_false] at h
   exact ⟨0,(0,0),seeOf_miss hb (Array.getElem?_eq_some_iff.1 h).1⟩
 ·unfold hidOf at h
  by_cases hb:V b
  ·simp [hb] at h
  ·simp only [hb,if_false] at h
   exact hv b o h
end
end Go.Vy
end
/- Contracts that hold wherever they are walked: beside hidden memory; the tape stays. Nothing here speaks of a program. -/
section
namespace Go.Vy
open Go Go.Conc Go.Yc
def NoView (u:World):Prop:=∀ (b:Nat) (o:Obj),u.heap[b]? = some o->isView o = false
theorem NoView.sim {u:World} (h:NoView u):Sim (fun _=>.all) u u:=⟨rfl,rfl,rfl,rfl,rfl,fun _b x hx=>⟨x,hx,.same x⟩,fun _ _=>rfl,h⟩
theorem NoView.onT {u:World} (h:NoView u) (τ:Tape) (d:Nat):NoView (Yc.onT u τ d):=h
theorem Follows.evo {P:Program} {main:Bool} {g g':Goroutine} {u u':World} (h:Follows P main g u g' u') (hv:NoView u):Evo u u'/\NoView u':=by
 obtain ⟨h1,w',es,_,h2,_⟩:=h.2 _ _ hv.sim
 exact ⟨h1,h2.noview⟩
def Ign (Z:Goroutine->World->Prop):Prop:=∀ g u,(NoView u->Z g u)->Z g u
@[reducible] def baseCtx (P:Program) (main:Bool):Ctx P:=⟨main,fun Z=>Cl P main Z/\Ign Z,fun _ h=>h.1⟩
theorem fin_ign {P:Program} {Post:Value->World->Prop} {X:Gh} {h:Nat}:Ign (Fin P Post X h):=by
 intro g u hF live T gs w sl q hg C
 obtain ⟨ρ,hs,_⟩:=C.sim
 exact hF (show NoView (onT u w.tape w.drawn) from hs.noview) _ _ _ _ _ _ hg C
section
variable {P:Program} {main:Bool} {f:FuncId} {args:Array Value} {w:World} {R:Ending->World->Prop}
theorem noView_under {H:Hid} {u:World} (hH:HidOk H u) (h:NoView (over H u)):NoView u:=by
 intro b o ho
 cases hb:H b with
 | none=>exact h b o (by rw [over_miss u hb]; exact ho)
 | some o' =>
  obtain ⟨T,f,hg⟩:=hH.gone b o' hb
  rw [ho] at hg
  obtain rfl:=Option.some.inj hg
  rfl
theorem Calls.frame {H:Hid} (h:@Calls P (baseCtx P main) f args w R) (hH:HidOk H w):@Calls P (baseCtx P main) f args (over H w) (fun e w'=>∃ u',w' = over H u'/\HidOk H u'/\R e u'):=by
 intro Z hZ cs hk
 obtain ⟨hc,hi⟩:=hZ
 have hcl:Cl P main (fun g u=>NoView u->HidOk H u->Z g (over H u)):=⟨fun g u hr hs hv hH=>by
  refine hc.own g (over H u) hr fun τ d=>?_
  obtain ⟨g',u',d',hF,hz⟩:=hs τ d
  obtain ⟨he,hv'⟩:=Follows.evo hF (hv.onT τ d)
  have h1:=(Follows.over (hH.onT τ d) hF).1
  rw [over_onT] at h1
  refine ⟨g',over H u',d',h1,?_⟩
  have:=hz (hv'.onT _ _) ((hH.evo (evo_onT he)).onT _ _)
  rw [over_onT] at this
  exact this⟩
 refine hi _ _ fun hv=>?_
 refine h (fun g u=>NoView u->HidOk H u->Z g (over H u)) ⟨hcl,fun g u z v=>z v v⟩ cs (fun e w' fr he hf hl hv hH'=>?_) (noView_under hH hv) hH
 exact hk e _ fr ⟨w',rfl,hH',he⟩ hf (leaves_over hH' hl)
theorem Calls.seen (V:Nat->Prop) [DecidablePred V] (h:@Calls P (baseCtx P main) f args (seeOf V w) R):@Calls P (baseCtx P main) f args w (fun e w'=>∃ u',w' = over (hidOf V w) u'/\HidOk (hidOf V w) u'/\R e u'):=by
 intro Z hZ cs hk
 refine hZ.2 _ _ fun hv=>?_
 have:=Calls.frame h (H:=hidOf V w) (hidOf_ok hv)
 rw [over_see] at this
 exact this Z hZ cs hk
end
end Go.Vy
end
/- A client of a scheduler, as a tree of its own steps: what it is asked when it waits, what it may lean on when it goes on. Nothing here speaks of a program. -/
section
namespace Go.Vy
open Go Go.Conc Go.Yc Go.RowKit
open Go.Vc (Ret)
def gh (w:World) (i:Nat):Nat:=w.tape i (.sched 0)
def setGh (w:World) (i v:Nat):World:={ w with tape:=fun j q=>if j = i then v else w.tape j q }
theorem gh_set (w:World) (i v:Nat):gh (setGh w i v) i = v:=by simp [gh,setGh]
theorem gh_set_ne (w:World) {i j:Nat} (v:Nat) (h:j ≠ i):gh (setGh w i v) j = gh w j:=by simp [gh,setGh,h]
theorem gh_tape {w w':World} (h:w'.tape = w.tape) (i:Nat):gh w' i = gh w i:=by simp [gh,h]
structure Stp where
 kind:Int
 obj:Int
 num:Int
structure Nte where
 kind:Int
 text:ByteArray
structure Out' (S L:Type) where
 s:S
 nts:List Nte
 fate:L ⊕ Nat
def stepV (s:Stp):Value:=.agg #[.int .i64 s.kind,.int .i64 s.obj,.int .i64 s.num]
structure Cfg (P:Program) where
 S:Type
 L:Type
 stp:L->Stp
 rdy:L->S->Bool
 go:L->S->Out' S L
 out:Nat->Out' S L
 sOf:Nat->S
 picks:Nat->Nat
 Inv:S->World->(Nat->Prop)->Prop
 num:Nat
 ptr:Nat
 base:World
 fStep:FuncId
 fNote:FuncId
 fNumber:FuncId
 fPicks:FuncId
 fBody:FuncId
 top:List Frame
section
variable {P:Program}
structure Cfg.Told (K:Cfg P) (w:World) (F:Nat->Prop) (fate:K.L ⊕ Nat):Prop where
 on:gh w 2 = 0
 fate:(K.out (gh w 0)).fate = fate
 nts:gh w 1 = (K.out (gh w 0)).nts.length
 inv:K.Inv (K.out (gh w 0)).s w F
 os:w.os = K.base.os
 output:w.output = K.base.output
structure Cfg.Later (K:Cfg P) (w:World) (F:Nat->Prop) (u:World) (F':Nat->Prop):Prop where
 size:w.heap.size <= u.heap.size
 keep:∀ b,b < w.heap.size->w.heap[b]? ≠ some nothing->¬ F b->u.heap[b]? = w.heap[b]?/\¬ F' b
 inv:K.Inv (K.sOf (gh u 0)) u F'
 os:u.os = w.os
 output:u.output = w.output
def Raised (ch:List PanicEntry):Prop:=∃ v older,ch = { v,recovered:=false } :: older/\older.dropWhile (!·.goexit) = []
def FnIs (P:Program) (v:Value) (f:FuncId) (caps:Array Value):Prop:=v = .func (.func f) #[] caps/\∃ fn,P.funcs[f]? = some fn/\fn.body.isSome = true/\(fn.name == "runtime.NumGoroutine") = false
def FnV (P:Program) (v:Value):Prop:=v = .nilFunc\/∃ f caps,FnIs P v f caps
def Cfg.ReadyOk (K:Cfg P) (w:World) (F:Nat->Prop) (rf:Value) (l:K.L):Prop :=
 (rf = .nilFunc/\∀ s,K.rdy l s = true)\/∃ f caps,FnIs P rf f caps/\∀ u F',K.Later w F u F'->@Calls P (baseCtx P true) f caps u (Ret fun v u'=>v = .bool (K.rdy l (K.sOf (gh u 0)))/\Below u.heap.size u u')
def NumZ (P:Program) (fN:FuncId) (ptr num:Nat) (Z:Goroutine->World->Prop):Prop:=∀ cs w,(∀ fr,fr.fn = fN->Leaves P fr w (.returned (.int .i64 num))->Z (G fr cs) w)->Z (G (Frame.enter P fN #[.pointer (some ⟨ptr,0,none⟩)] .normal) cs) w
@[reducible] def numCtx (P:Program) (fN:FuncId) (ptr num:Nat):Ctx P:=⟨false,fun Z=>(Cl P false Z/\Ign Z)/\NumZ P fN ptr num Z,fun _ h=>h.1.1⟩
theorem Calls.num {fN:FuncId} {ptr num:Nat} {f:FuncId} {args:Array Value} {w:World} {R:Ending->World->Prop} (h:@Calls P (baseCtx P false) f args w R):@Calls P (numCtx P fN ptr num) f args w R:=fun Z hZ cs hk=>h Z hZ.1 cs hk
theorem num_number {fN:FuncId} {ptr num:Nat} {w:World}:@C P (numCtx P fN ptr num) fN #[.pointer (some ⟨ptr,0,none⟩)] w (fun v w'=>v = .int .i64 num/\w' = w):=fun _ hZ cs hk =>
 hZ.2 cs w fun fr h3 h4=>hk (.returned (.int .i64 num)) w fr ⟨rfl,rfl⟩ h3 h4
def DoOk (P:Program) (C0:Ctx P) (df:Value) (u:World) (R:World->Prop):Prop :=
 (df = .nilFunc/\R u)\/∃ f caps,FnIs P df f caps/\@Calls P C0 f caps u (Ret fun _ u2=>R u2)
@[reducible] def Cfg.numCtx (K:Cfg P):Ctx P:=Go.Vy.numCtx P K.fNumber K.ptr K.num
structure Cfg.Goes (K:Cfg P) (w:World) (F:Nat->Prop) (l:K.L) (u:World) (F':Nat->Prop):Prop where
 later:K.Later w F u F'
 nts:gh u 1 = 0
 on:gh u 2 = 0
 out:K.out (gh u 0) = K.go l (K.sOf (gh u 0))
 rdy:K.rdy l (K.sOf (gh u 0)) = true
structure Grow (w w':World):Prop where
 os:w'.os = w.os
 output:w'.output = w.output
 size:w.heap.size <= w'.heap.size
 block:∀ b,b < w.heap.size->w'.heap[b]? = w.heap[b]?
def Cfg.Done (K:Cfg P) (w:World) (F:Nat->Prop):Ending->Prop
 | .returned _=>K.Told w F (.inr 1)\/(gh w 2 = 1/\K.Inv (K.sOf (gh w 0)) w F/\w.os = K.base.os/\w.output = K.base.output)
 | .panicked ch=>Raised ch/\(K.Told w F (.inr 2)\/(gh w 2 = 1/\K.Inv (K.sOf (gh w 0)) w F/\w.os = K.base.os/\w.output = K.base.output))
 | .outgrown=>False
inductive Proc (K:Cfg P):Goroutine->World->Prop
 | own {g u} (hr:g.status = .running) (g':Tape->Nat->Goroutine) (u':Tape->Nat->World) (d':Tape->Nat->Nat) (hf:∀ τ d,Follows P false g (onT u τ d) (g' τ d) (u' τ d)) (hk:∀ τ d,Proc K (g' τ d) (onT (u' τ d) u.tape (d' τ d))):Proc K g u
 | ign {g u} (h:NoView u->Proc K g u):Proc K g u
 | step {cs w s rf df l F} (ht:K.Told w F (.inl l)) (hs:s = stepV (K.stp l)) (hr:K.ReadyOk w F rf l) (hdf:FnV P df) (Rdo:World->World->Prop)
   (hdo:∀ u F',K.Goes w F l u F'->DoOk P K.numCtx df u (Rdo u))
   (go:∀ u F' u2,K.Goes w F l u F'->Rdo u u2->u2.tape = u.tape->∀ fr,fr.fn = K.fStep->Leaves P fr u2 (.returned (.tuple #[]))->Proc K (G fr cs) u2)
   (stop:∀ u F',K.Later w F u F'->gh u 2 = 1->∀ fr ch,fr.fn = K.fStep->Raised ch->Leaves P fr u (.panicked ch)->Proc K (G fr cs) u) :
   Proc K (G (Frame.enter P K.fStep #[.pointer (some ⟨K.ptr,0,none⟩),s,rf,df] .normal) cs) w
 | again {cs w s rf df} (h2:gh w 2 = 1) (hs:∃ s0,s = stepV s0) (k:∀ w' fr ch,Grow w w'->w'.tape = w.tape->fr.fn = K.fStep->Raised ch->Leaves P fr w' (.panicked ch)->Proc K (G fr cs) w') :
   Proc K (G (Frame.enter P K.fStep #[.pointer (some ⟨K.ptr,0,none⟩),s,rf,df] .normal) cs) w
 | note {cs w kind text} (h2:gh w 2 = 0) (hx:(K.out (gh w 0)).nts[gh w 1]? = some ⟨kind,text⟩)
   (k:∀ w' fr,Grow w w'->gh w' 0 = gh w 0->gh w' 1 = gh w 1 + 1->gh w' 2 = 0->fr.fn = K.fNote->Leaves P fr w' (.returned (.tuple #[]))->Proc K (G fr cs) w') :
   Proc K (G (Frame.enter P K.fNote #[.pointer (some ⟨K.ptr,0,none⟩),.int .i64 kind,.string text] .normal) cs) w
 | number {cs w} (k:∀ fr,fr.fn = K.fNumber->Leaves P fr w (.returned (.int .i64 K.num))->Proc K (G fr cs) w) :
   Proc K (G (Frame.enter P K.fNumber #[.pointer (some ⟨K.ptr,0,none⟩)] .normal) cs) w
 | picks {cs w} (h2:gh w 2 = 0) (k:∀ fr,fr.fn = K.fPicks->Leaves P fr w (.returned (.int .i64 (K.picks (gh w 0))))->Proc K (G fr cs) w) :
   Proc K (G (Frame.enter P K.fPicks #[.pointer (some ⟨K.ptr,0,none⟩)] .normal) cs) w
 | done {fr w e F} (hf:fr.fn = K.fBody) (hl:Leaves P fr w e) (hd:K.Done w F e):Proc K (G fr K.top) w
theorem proc_cl (K:Cfg P):Cl P false (Proc K):=⟨fun g u hr hs=>by
 have h1:∀ τ d,∃ x:Goroutine × World × Nat,Follows P false g (onT u τ d) x.1 x.2.1/\Proc K x.1 (onT x.2.1 u.tape x.2.2):=fun τ d=>by
  obtain ⟨g',u',d',hf,hk⟩:=hs τ d
  exact ⟨⟨g',u',d'⟩,hf,hk⟩
 exact .own hr (fun τ d=>(h1 τ d).choose.1) (fun τ d=>(h1 τ d).choose.2.1) (fun τ d=>(h1 τ d).choose.2.2) (fun τ d=>(h1 τ d).choose_spec.1) (fun τ d=>(h1 τ d).choose_spec.2)⟩
@[reducible] def procCtx (K:Cfg P):Ctx P:=⟨false,fun Z=>Z = Proc K,fun _ h=>h ▸ proc_cl K⟩
theorem proc_step {K:Cfg P} {w:World} {s rf df:Value} {l:K.L} {F:Nat->Prop} (ht:K.Told w F (.inl l)) (hs:s = stepV (K.stp l)) (hr:K.ReadyOk w F rf l) (hdf:FnV P df) (Rdo:World->World->Prop) (hdo:∀ u F',K.Goes w F l u F'->DoOk P K.numCtx df u (Rdo u)) :
  @Calls P (procCtx K) K.fStep #[.pointer (some ⟨K.ptr,0,none⟩),s,rf,df] w (fun e u2=>match e with
   | .returned v=>v = .tuple #[]/\∃ u F',K.Goes w F l u F'/\Rdo u u2/\u2.tape = u.tape
   | .panicked ch=>Raised ch/\∃ F',K.Later w F u2 F'/\gh u2 2 = 1
   | .outgrown=>False):=by
 intro Z hZ cs hk
 have h':Z = Proc K:=hZ
 subst h'
 exact .step ht hs hr hdf Rdo hdo (fun u F' u2 h1 h2 h3 fr h4 h5=>hk (.returned (.tuple #[])) u2 fr ⟨rfl,u,F',h1,h2,h3⟩ h4 h5) (fun u F' h1 h2 fr ch h3 h4 h5=>hk (.panicked ch) u fr ⟨h4,F',h1,h2⟩ h3 h5)
theorem proc_note {K:Cfg P} {w:World} {kind:Int} {text:ByteArray} (h2:gh w 2 = 0) (hx:(K.out (gh w 0)).nts[gh w 1]? = some ⟨kind,text⟩) :
  @C P (procCtx K) K.fNote #[.pointer (some ⟨K.ptr,0,none⟩),.int .i64 kind,.string text] w (fun v w'=>v = .tuple #[]/\Grow w w'/\gh w' 0 = gh w 0/\gh w' 1 = gh w 1 + 1/\gh w' 2 = 0):=by
 intro Z hZ cs hk
 have h':Z = Proc K:=hZ
 subst h'
 exact .note h2 hx fun w' fr h3 h4 h5 h6 h7 h8=>hk (.returned (.tuple #[])) w' fr ⟨rfl,h3,h4,h5,h6⟩ h7 h8
theorem proc_number {K:Cfg P} {w:World}:@C P (procCtx K) K.fNumber #[.pointer (some ⟨K.ptr,0,none⟩)] w (fun v w'=>v = .int .i64 K.num/\w' = w):=by
 intro Z hZ cs hk
 have h':Z = Proc K:=hZ
 subst h'
 exact .number fun fr h3 h4=>hk (.returned (.int .i64 K.num)) w fr ⟨rfl,rfl⟩ h3 h4
theorem proc_picks {K:Cfg P} {w:World} (h2:gh w 2 = 0):@C P (procCtx K) K.fPicks #[.pointer (some ⟨K.ptr,0,none⟩)] w (fun v w'=>v = .int .i64 (K.picks (gh w 0))/\w' = w):=by
 intro Z hZ cs hk
 have h':Z = Proc K:=hZ
 subst h'
 exact .picks h2 fun fr h3 h4=>hk (.returned (.int .i64 (K.picks (gh w 0)))) w fr ⟨rfl,rfl⟩ h3 h4
end
end Go.Vy
end
