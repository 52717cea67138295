/- What the claim leans on, part 2. Laws. -/
import Derived.Test.YtnifpkopeheodaaGreatKP1
import Derived.Laws.AppendOwnNone
import Derived.WideKeyRuns
import Derived.Laws.StructEq
import Derived.ChangeKeysEq
import Derived.Laws.Rows
import Derived.Laws.LoneSync
import Derived.Laws.Pointers
import Derived.Laws.ResultCell
import Derived.Laws.CopyRow
import Derived.FollowTie
import Derived.Scope
import Derived.Conc.AtomicLaws2
import Derived.Conc.MarkLaws
import Derived.Conc.SmallLaws
import Derived.Laws.Bits64
import Derived.Laws.BitsLemmas
set_option linter.unusedVariables false
section
namespace Go.Vc
open Go
def O4 (D:Nat->Bool) (i:Nat):Nat->Bool:=fun k=>if k=i then true else D k
def O6 (o:Oper) (D:Nat->Bool):Prop:=∀x∈o.after,Region.binds .any x=true->D x.on=true
def ye0 (n:Nat) (ops:Array Oper):Bool :=
 (List.range ops.size).all fun i=>
  match ops[i]? with
  |none=>false
  |some o=>
   I4 n o.dst && !(match o.op with| .select ..=>true|_=>false) &&
   (o.after.all fun x=>!Region.binds .any x ||Nat.blt x.on i) &&
   (List.range ops.size).all fun j=>
    match ops[j]? with
    |none=>false
    |some p=>
     match p.dst with
     |none=>true
     |some t=>(i==j ||o.dst !=some t)&&(!(o.looksAt ops).contains t ||o.after.any fun x=>Region.binds .any x&&x.on==j)
structure Ord (n:Nat) (ops:Array Oper):Prop where
 dst:∀(i:Nat) (o:Oper),ops[i]? =some o->I4 n o.dst=true
 sel:∀(i:Nat) (o:Oper),ops[i]? =some o->∀cs b,o.op≠.select cs b
 back:∀(i:Nat) (o:Oper),ops[i]? =some o->∀x∈o.after,Region.binds .any x=true->x.on<i
 one:∀(i j:Nat) (o p:Oper) (t:Nat),ops[i]? =some o->ops[j]? =some p->o.dst=some t->p.dst=some t->i=j
 look:∀(i j:Nat) (o p:Oper) (t:Nat),ops[i]? =some o->ops[j]? =some p->p.dst=some t->t∈o.looksAt ops->∃x∈o.after,Region.binds .any x=true/\x.on=j
theorem At0 {n:Nat} {ops:Array Oper} (h:ye0 n ops=true):Ord n ops:=by
 unfold ye0 at h;have lt:∀{i:Nat} {o:Oper},ops[i]? =some o->i<ops.size:=fun h=>(Array.getElem?_eq_some_iff.1 h).1;have key:∀(i:Nat) (o:Oper),ops[i]? =some o->(I4 n o.dst=true/\(!(match o.op with| .select ..=>true|_=>false))=true) /\
   ((o.after.all fun x=>!Region.binds .any x ||Nat.blt x.on i)=true)/\∀(j:Nat) (p:Oper) (t:Nat),ops[j]? =some p->p.dst=some t->(i==j ||o.dst !=some t)=true/\(!(o.looksAt ops).contains t ||o.after.any fun x=>Region.binds .any x&&x.on==j)=true:=by
  intro i o ho;have h1:=List.all_eq_true.1 h i (List.mem_range.2 (lt ho));simp only[ho,Bool.and_eq_true]at h1;refine⟨h1.1.1,h1.1.2,fun j p t hp ht=>?_⟩;have h2:=List.all_eq_true.1 h1.2 j (List.mem_range.2 (lt hp));simp only[hp,ht,Bool.and_eq_true]at h2;exact h2
 refine⟨fun i o ho=>(key i o ho).1.1,fun i o ho cs b he=>?_,fun i o ho x hx hb=>?_,fun i j o p t ho hp h1 h2=>?_,fun i j o p t ho hp ht hl=>?_⟩
 ·have:=(key i o ho).1.2;rw[he]at this;cases this
 ·have:=(key i o ho).2.1;rw[Array.all_eq_true']at this;have:=this x hx;simp only[hb,Bool.not_true,Bool.false_or,Nat.blt_eq]at this;exact this
 ·have:=((key i o ho).2.2 j p t hp h2).1;simp only[h1,bne_self_eq_false,Bool.or_false,beq_iff_eq]at this;exact this
 ·have:=((key i o ho).2.2 j p t hp ht).2;have hc:(o.looksAt ops).contains t=true:=by simpa using hl
  rw[hc,Bool.not_true,Bool.false_or]at this;obtain⟨x,hx,hb⟩:=Array.any_eq_true'.1 this;simp only[Bool.and_eq_true,beq_iff_eq]at hb;exact⟨x,hx,hb.1,hb.2⟩
section
variable {ops:Array Oper}{n:Nat}
def EE (e:Env) (l:List Oper) (vals:Nat->Value):Nat->Env
 |0=>e
 |k+1=>j3 (EE e l vals k) ((l[k]?).bind (·.dst)) (vals k)
theorem vx0 (e:Env) (o:Oper) (l:List Oper) (vals:Nat->Value):∀k,EE e (o::l) vals (k+1)=EE (j3 e o.dst (vals 0)) l (fun k=>vals (k+1)) k
 |0=>rfl
 |k+1=>by
  show j3 (EE e (o::l) vals (k+1)) _ _=_;rw[vx0 e o l vals k];rfl
theorem ii0 (e:Env) (l:List Oper) (vals:Nat->Value) (t:Nat):∀k,(∀j o,j<k->l[j]? =some o->o.dst≠some t)->EE e l vals k t=e t
 |0,_=>rfl
 |k+1,h=>by
  have ih:=ii0 e l vals t k (fun j o hj ho=>h j o (by omega) ho);show j3 _ _ _ t=_;cases hk:l[k]? with
  |none=>exact ih
  |some o=>
   simp only[Option.bind_some];cases hd:o.dst with
   |none=>exact ih
   |some d=>
    have:t≠d:=fun hh=>h k o (by omega) hk (by rw[hd,hh]);show upd _ _ _ _=_;rw[upd_ne _ _ this];exact ih
theorem vy0 (e:Env) (l:List Oper) (vals:Nat->Value) (t j:Nat) (o:Oper) (hj:l[j]? =some o) (hd:o.dst=some t) (vz0:∀i p,l[i]? =some p->p.dst=some t->i=j):∀k,j<k->EE e l vals k t=vals j
 |0,h=>by omega
 |k+1,h=>by
  show j3 _ _ _ t=_;by_cases hjk:k=j
  ·subst hjk;rw[hj];simp only[Option.bind_some,hd];exact upd_same _ _ _
  ·have ih:=vy0 e l vals t j o hj hd vz0 k (by omega);cases hk:l[k]? with
   |none=>exact ih
   |some p=>
    simp only[Option.bind_some];cases hp:p.dst with
    |none=>exact ih
    |some d=>
     have:t≠d:=fun hh=>hjk (vz0 k p hk (by rw[hp,hh]));show upd _ _ _ _=_;rw[upd_ne _ _ this];exact ih
structure Mid (ops:Array Oper) (e0:Env) (vals:Nat->Value) (listed:Array Bool) (e:Env):Prop where
 hit:∀j o t,ops[j]? =some o->o.dst=some t->listed.getD j false=true->e t=vals j
 mx0:∀t,(∀j o,ops[j]? =some o->o.dst=some t->listed.getD j false=false)->e t=e0 t
theorem mz0 (h:Ord n ops) {e0:Env} {vals:Nat->Value} {listed:Array Bool} {e:Env} (hm:Mid ops e0 vals listed e) {i:Nat} {o:Oper} (ho:ops[i]? =some o)
  (ad0:∀x∈o.after,Region.binds .any x=true->listed.getD x.on false=true):∀t∈o.looksAt ops,e t=EE e0 ops.toList vals i t:=by
 intro t ht;have hl:∀j:Nat,ops.toList[j]? =ops[j]?:=fun j=>by rw[Array.getElem?_toList]
 by_cases hex:∃(j:Nat) (p:Oper),ops[j]? =some p/\p.dst=some t
 ·obtain⟨j,p,hp,hd⟩:=hex;obtain⟨x,hx,hb,rfl⟩:=h.look i j o p t ho hp hd ht;have V2:=h.back i o ho x hx hb;rw[hm.hit x.on p t hp hd (ad0 x hx hb)];exact(vy0 e0 ops.toList vals t x.on p (by rw[hl];exact hp) hd (fun i' p' hp' g6=>h.one i' x.on p' p t (by rw[<- hl];exact hp') hp g6 hd) i V2).symm
 ·have l9:∀(j:Nat) (p:Oper),ops[j]? =some p->p.dst≠some t:=fun j p hp hd=>hex ⟨j,p,hp,hd⟩;rw[hm.mx0 t (fun j p hp hd=>absurd hd (l9 j p hp))];exact(ii0 e0 ops.toList vals t i (fun j p _ hp=>l9 j p (by rw[<- hl];exact hp))).symm
theorem dt0 {e e':Env} {o:Oper} (hs:∀cs b,o.op≠.select cs b) (h:∀t∈o.looksAt ops,e t=e' t):execOp (ev e) o=execOp (ev e') o:=by
 refine execOp_congr o hs fun x hx=>?_;cases x with
 |tmp t=>exact h t (List.mem_append_left _ (List.mem_filterMap.2 ⟨.tmp t,by simpa using hx,rfl⟩))
 |const v=>rfl
 |global g=>rfl
 |func f=>rfl
theorem du0 {e e':Env} {o:Oper} (h:∀t∈o.looksAt ops,e t=e' t):Region.wanted o (W2 ops e)=Region.wanted o (W2 ops e'):=by
 unfold Region.wanted;cases hg:o.guard with
 |none=>rfl
 |some g=>
  obtain⟨j,b⟩:=g;simp only;have:W2 ops e j=W2 ops e' j:=by
   unfold W2;cases hj:(ops[j]?).bind (·.dst)with
   |none=>rfl
   |some t=>
    have:=h t (List.mem_append_right _ (by rw[hg];simp only[hj];simp));simp only[this]
  rw[this]
theorem ft0 {listed:Array Bool} (h:Ord n ops) (hs:listed.size=ops.size) (hr:Region.ready .any ops listed=[]):∀i,i<ops.size->listed.getD i false=true:=by
 intro i
 induction i using Nat.strongRecOn with
 |_ i ih=>
  intro hi;cases hl:listed.getD i false with
  |true=>rfl
  |false=>
   exfalso;have hi':i<listed.size:=by omega
   have pv0:i∈Region.ready .any ops listed:=by
    refine mem_ready.2 ⟨?_,ops[i],by simp[hi],fun x hx hb=>?_⟩
    ·simp only[Array.getD_eq_getD_getElem?,hi',Array.getElem?_eq_getElem,Option.getD_some]at hl⊢;exact hl
    ·have Y1:=h.back i ops[i] (by simp[hi]) x hx hb;exact ih x.on Y1 (by omega)
   rw[hr]at pv0;cases pv0
theorem count_set {l:Array Bool} {i:Nat} (h:l.getD i true=false):(l.setIfInBounds i true).toList.count false+1=l.toList.count false:=by
 have hi:i<l.size:=by
  rcases Nat.lt_or_ge i l.size with h'|h'
  ·exact h'
  ·simp[Array.getElem?_eq_none h']at h
 have hv:l[i]=false:=by simpa [hi]using h
 show List.countP (· ==false) _+1=List.countP (· ==false) _;rw[Array.toList_setIfInBounds,List.countP_set (by simpa using hi)];have hv':l.toList[i]'(by simpa using hi)=false:=by simpa using hv
 simp only[hv'];have:0<l.toList.countP (· ==false):=List.countP_pos_iff.2 ⟨false,by rw[<- hv'];exact List.getElem_mem _,rfl⟩;simp only[beq_self_eq_true,if_true];have e2:(if(true==false)=true then 1 else 0)=0:=rfl;rw[e2];omega
theorem Au0 {l:Array Bool} (h:l.toList.count false=0):∀i,i<l.size->l.getD i false=true:=by
 intro i hi;simp only[Array.getD_eq_getD_getElem?,hi,Array.getElem?_eq_getElem,Option.getD_some];cases hv:l[i]with
 |true=>rfl
 |false=>
  exfalso;have:false∈l.toList:=by rw[<- hv];simp
  have:=List.count_pos_iff.2 this;omega
theorem ij0 {l:Array Bool} {i:Nat} (hi:i<l.size):(fun k=>(l.setIfInBounds i true).getD k false)=O4 (fun k=>l.getD k false) i:=by
 funext k;unfold O4;by_cases hk:k=i
 ·subst hk;simp[hi]
 ·rw[getD_set_ne false (Ne.symm hk),if_neg hk]
theorem Mid.step (h:Ord n ops) {e0:Env} {vals:Nat->Value} {listed:Array Bool} {e:Env} (hm:Mid ops e0 vals listed e) {i:Nat} {o:Oper} (ho:ops[i]? =some o) (hi:i<listed.size) :
  Mid ops e0 vals (listed.setIfInBounds i true) (j3 e o.dst (vals i)):=by
 constructor
 ·intro j p t hp ht hl;by_cases V2:j=i
  ·subst V2;obtain rfl:p=o:=Option.some.inj (hp.symm.trans ho);rw[ht];exact upd_same _ _ _
  ·rw[getD_set_ne false (Ne.symm V2)]at hl;have hv:=hm.hit j p t hp ht hl;cases hd:o.dst with
   |none=>exact hv
   |some d=>
    have:t≠d:=fun hh=>V2 (h.one j i p o t hp ho ht (by rw[hd,hh]));show upd _ _ _ _=_;rw[upd_ne _ _ this];exact hv
 ·intro t l9;have hv:=hm.mx0 t (fun j p hp ht=>by
   have:=l9 j p hp ht;by_cases V2:j=i
   ·subst V2;simp[hi]at this
   ·rw[getD_set_ne false (Ne.symm V2)]at this;exact this)
  cases hd:o.dst with
  |none=>exact hv
  |some d=>
   have:t≠d:=fun hh=>by
    have:=l9 i o ho (by rw[hd,hh]);simp[hi]at this
   show upd _ _ _ _=_;rw[upd_ne _ _ this];exact hv
inductive Lin (ops:Array Oper):Array Bool->List Nat->Prop
 |nil {listed}:Region.ready .any ops listed=[]->Lin ops listed []
 |cons {listed i σ}:i∈Region.ready .any ops listed->Lin ops (listed.setIfInBounds i true) σ->Lin ops listed (i::σ)
theorem jx0 (ops:Array Oper):∀(fuel t:Nat) (listed:Array Bool),listed.size=ops.size->listed.toList.count false <=fuel->Lin ops listed (Region.linearise.go .any ops fuel t listed []):=by
 intro fuel
 induction fuel with
 |zero=>
  intro t listed hs hc;have aw0:=Au0 (show listed.toList.count false=0 by omega);refine .nil ?_;cases hr:Region.ready .any ops listed with
  |nil=>rfl
  |cons i r=>
   exfalso;have pv0:i∈Region.ready .any ops listed:=by rw[hr];exact List.mem_cons_self
   obtain⟨h1,o,ho,_⟩:=mem_ready.1 pv0;have hi:i<ops.size:=(Array.getElem?_eq_some_iff.1 ho).1;have hi':i<listed.size:=by omega
   have:=aw0 i hi';simp only[Array.getD_eq_getD_getElem?,hi',Array.getElem?_eq_getElem,Option.getD_some]at h1 this;rw[h1]at this;cases this
 |succ fuel ih=>
  intro t listed hs hc;simp only[Region.linearise.go];change Lin ops listed (match(Region.ready .any ops listed)[t%(Region.ready .any ops listed).length]? with
   |some i=>Region.linearise.go .any ops fuel (t/(Region.ready .any ops listed).length) (listed.setIfInBounds i true) [i]
   |none=>[].reverse)
  cases hi:(Region.ready .any ops listed)[t%(Region.ready .any ops listed).length]? with
  |none=>
   have Ey0:Region.ready .any ops listed=[]:=by
    cases hr:Region.ready .any ops listed with
    |nil=>rfl
    |cons x xs=>
     rw[hr]at hi;have Y1:t%(x::xs).length<(x::xs).length:=Nat.mod_lt _ (by simp);simp at hi;simp at Y1;omega
   exact .nil Ey0
  |some i=>
   simp only[];rw[linearise_go_acc,List.reverse_singleton,List.singleton_append];have pv0:=List.mem_of_getElem? hi;exact .cons pv0 (ih _ _ (by simp[hs]) (by have:=count_set (mem_ready.1 pv0).1;omega))
def Pre (σ:List Nat) (D:Nat->Bool):Prop:=∃τ ρ,σ=τ++ρ/\∀k,D k=true↔k∈τ
theorem Pre.chain {σ:List Nat} {D D':Nat->Bool} (h:Pre σ D) (h':Pre σ D'):(∀k,D k=true->D' k=true)\/(∀k,D' k=true->D k=true):=by
 obtain⟨τ,ρ,e1,h1⟩:=h;obtain⟨τ',ρ',e2,h2⟩:=h';rcases List.append_eq_append_iff.1 (e1.symm.trans e2)with⟨x,hx,_⟩|⟨x,hx,_⟩
 ·left;intro k hk;rw[h2,hx];exact List.mem_append_left _ ((h1 k).1 hk)
 ·right;intro k hk;rw[h1,hx];exact List.mem_append_left _ ((h2 k).1 hk)
theorem dv0:∀{listed:Array Bool} {σ:List Nat},Lin ops listed σ->(∀i o,ops[i]? =some o->listed.getD i false=true->∀x∈o.after,Region.binds .any x=true->listed.getD x.on false=true)->listed.size=ops.size ->
  ∀(τ ρ:List Nat),σ=τ++ρ->∀i o,ops[i]? =some o->(listed.getD i false=true\/i∈τ)->∀x∈o.after,Region.binds .any x=true->(listed.getD x.on false=true\/x.on∈τ):=by
 intro listed σ h
 induction h with
 |nil _=>
  intro hc _ τ ρ hσ i o ho hi x hx hb;have:τ=[]:=(List.append_eq_nil_iff.1 hσ.symm).1;subst this;rcases hi with hi|hi
  ·exact .inl (hc i o ho hi x hx hb)
  ·cases hi
 | @cons listed j σ hj _ ih=>
  intro hc hs τ ρ hσ i o ho hi x hx hb;cases τ with
  |nil=>
   rcases hi with hi|hi
   ·exact .inl (hc i o ho hi x hx hb)
   ·cases hi
  |cons t τ=>
   simp only[List.cons_append,List.cons.injEq]at hσ;obtain⟨rfl,hσ⟩:=hσ;obtain⟨_,oj,hoj,hdj⟩:=mem_ready.1 hj;have hjs:j<ops.size:=(Array.getElem?_eq_some_iff.1 hoj).1;have p7:∀i o,ops[i]? =some o->(listed.setIfInBounds j true).getD i false=true->∀x∈o.after,Region.binds .any x=true->(listed.setIfInBounds j true).getD x.on false=true:=by
    intro i o ho hi x hx hb;by_cases hij:j=i
    ·subst hij;obtain rfl:o=oj:=Option.some.inj (ho.symm.trans hoj);exact getD_set_true (hdj x hx hb)
    ·rw[getD_set_ne false hij]at hi;exact getD_set_true (hc i o ho hi x hx hb)
   have St0:∀k,((listed.setIfInBounds j true).getD k false=true\/k∈τ)↔(listed.getD k false=true\/k∈j::τ):=by
    intro k;by_cases hk:j=k
    ·subst hk;simp[hs,hjs]
    ·rw[getD_set_ne false hk];simp[Ne.symm hk]
   exact(St0 _).1 (ih p7 (by simp[hs]) τ ρ hσ i o ho ((St0 _).2 hi) x hx hb)
theorem K0 (m j:Nat):(Array.replicate m false).getD j false=false:=by
 rcases Nat.lt_or_ge j m with h|h <;> simp[h]
end
section
variable {P:Program}{ρ:Operand->Value}{w:World}{d:Option Nat}{ty:TypeId}{ps:String}{af:Array Edge}{g:Option (Nat×Bool)}
variable {x y z:Operand}{T T' E S:TypeId}
theorem dw0:(execOp ρ ⟨d,.move x,ty,ps,af,g⟩).run P w= .ok (.value (ρ x)) w:=rfl
theorem ex0:(execOp ρ ⟨d,.assign x,ty,ps,af,g⟩).run P w= .ok (.value (ρ x)) w:=rfl
theorem m3 {κ:IntKind} {m:Int} (h:ρ x= .int κ m):(execOp ρ ⟨d,.move x,ty,ps,af,g⟩).run P w= .ok (.value (.int κ m)) w:=by rw[<- h];rfl
theorem ik0 {κ:IntKind} {m:Int} (h:ρ x= .int κ m):(execOp ρ ⟨d,.assign x,ty,ps,af,g⟩).run P w= .ok (.value (.int κ m)) w:=by rw[<- h];rfl
theorem y9 {b:Bool} (h:ρ x= .bool b):(execOp ρ ⟨d,.move x,ty,ps,af,g⟩).run P w= .ok (.value (.bool b)) w:=by rw[<- h];rfl
theorem yf0 {b:Bool} (h:ρ x= .bool b):(execOp ρ ⟨d,.assign x,ty,ps,af,g⟩).run P w= .ok (.value (.bool b)) w:=by rw[<- h];rfl
theorem I7 {a:Option Addr} {n c:Nat} (h:ρ x= .slice a n c):(execOp ρ ⟨d,.move x,ty,ps,af,g⟩).run P w= .ok (.value (.slice a n c)) w:=by rw[<- h];rfl
theorem cu0 {a:Option Addr} {n c:Nat} (h:ρ x= .slice a n c):(execOp ρ ⟨d,.assign x,ty,ps,af,g⟩).run P w= .ok (.value (.slice a n c)) w:=by rw[<- h];rfl
theorem W3 {p:Option Addr} (h:ρ x= .pointer p):(execOp ρ ⟨d,.move x,ty,ps,af,g⟩).run P w= .ok (.value (.pointer p)) w:=by rw[<- h];rfl
theorem Dc0 {p:Option Addr} (h:ρ x= .pointer p):(execOp ρ ⟨d,.assign x,ty,ps,af,g⟩).run P w= .ok (.value (.pointer p)) w:=by rw[<- h];rfl
theorem Ht0 {cs:Array Value} (h:ρ x= .tuple cs):(execOp ρ ⟨d,.move x,ty,ps,af,g⟩).run P w= .ok (.value (.tuple cs)) w:=by rw[<- h];rfl
theorem Hu0 {fn:Fn} {xs ys:Array Value} (h:ρ x= .func fn xs ys):(execOp ρ ⟨d,.move x,ty,ps,af,g⟩).run P w= .ok (.value (.func fn xs ys)) w:=by rw[<- h];rfl
theorem E8 (h:ρ z= .bool true):(execOp ρ ⟨d,.pick z x y,ty,ps,af,g⟩).run P w= .ok (.value (ρ x)) w:=by
 simp[execOp,h,asBool]
theorem u7 (h:ρ z= .bool false):(execOp ρ ⟨d,.pick z x y,ty,ps,af,g⟩).run P w= .ok (.value (ρ y)) w:=by
 simp[execOp,h,asBool]
section
variable {κ:IntKind}{m k:Int}(hx:ρ x= .int κ m)(hy:ρ y= .int κ k)
include hx hy
theorem il0:(execOp ρ ⟨d,.binOp .add T x y T',ty,ps,af,g⟩).run P w= .ok (.value (.int κ (κ.wrap (m+k)))) w:=by simp[execOp,hx,hy,eqGuard_add,binOp_add,Op.intArith]
theorem yg0:(execOp ρ ⟨d,.binOp .sub T x y T',ty,ps,af,g⟩).run P w= .ok (.value (.int κ (κ.wrap (m-k)))) w:=by simp[execOp,hx,hy,eqGuard_sub,binOp_sub,Op.intArith]
theorem lc0 (h0:k≠0):(execOp ρ ⟨d,.binOp .rem T x y T',ty,ps,af,g⟩).run P w= .ok (.value (.int κ (m.tmod k))) w:=by simp[execOp,hx,hy,eqGuard_rem,binOp_rem,Op.intDiv,h0]
theorem im0:(execOp ρ ⟨d,.binOp .lss T x y T',ty,ps,af,g⟩).run P w= .ok (.value (.bool (decide (m<k)))) w:=by simp[execOp,hx,hy,eqGuard_lss,binOp,Op.intCmp]
theorem Dd0:(execOp ρ ⟨d,.binOp .leq T x y T',ty,ps,af,g⟩).run P w= .ok (.value (.bool (decide (m <=k)))) w:=by simp[execOp,hx,hy,eqGuard_leq,binOp,Op.intCmp]
theorem na0:(execOp ρ ⟨d,.binOp .gtr T x y T',ty,ps,af,g⟩).run P w= .ok (.value (.bool (decide (k<m)))) w:=by simp[execOp,hx,hy,eqGuard_gtr,binOp,Op.intCmp]
theorem yh0:(execOp ρ ⟨d,.binOp .geq T x y T',ty,ps,af,g⟩).run P w= .ok (.value (.bool (decide (k <=m)))) w:=by simp[execOp,hx,hy,eqGuard_geq,binOp,Op.intCmp]
theorem H2:(execOp ρ ⟨d,.binOp .eql T x y T',ty,ps,af,g⟩).run P w= .ok (.value (.bool (decide (m=k)))) w:=by
 simp only[execOp,hx,hy,eqGuard_at_int,binOp,Op.intCmp,pure_bind,Sem.run_bind,Sem.run_pure];by_cases h:m=k <;> simp[h]
theorem ax0:(execOp ρ ⟨d,.binOp .neq T x y T',ty,ps,af,g⟩).run P w= .ok (.value (.bool (decide (m≠k)))) w:=by
 simp only[execOp,hx,hy,eqGuard_at_int,binOp,Op.intCmp,pure_bind,Sem.run_bind,Sem.run_pure];by_cases h:m=k <;> simp[h]
end
theorem ey0 {m k:Int} (hx:ρ x= .int .i64 m) (hy:ρ y= .int .i64 k) (h:-9223372036854775808 <=m+k/\m+k <=9223372036854775807):(execOp ρ ⟨d,.binOp .add T x y T',ty,ps,af,g⟩).run P w= .ok (.value (.int .i64 (m+k))) w:=by
 rw[il0 hx hy,IntWalk.i64_in _ h]
theorem Av0 {m k:Int} (hx:ρ x= .int .i64 m) (hy:ρ y= .int .i64 k) (h:-9223372036854775808 <=m-k/\m-k <=9223372036854775807):(execOp ρ ⟨d,.binOp .sub T x y T',ty,ps,af,g⟩).run P w= .ok (.value (.int .i64 (m-k))) w:=by
 rw[yg0 hx hy,IntWalk.i64_in _ h]
theorem nb0 {k:Nat} (hx:ρ x= .int .i64 (k:Int)) (hy:ρ y= .int .i64 1) (h:k<9223372036854775807):(execOp ρ ⟨d,.binOp .add T x y T',ty,ps,af,g⟩).run P w= .ok (.value (.int .i64 ((k+1:Nat):Int))) w:=by
 rw[ey0 hx hy (by omega)];rfl
theorem in0 {b:Bool} (hx:ρ x= .bool b):(execOp ρ ⟨d,.unOp .not T x,ty,ps,af,g⟩).run P w= .ok (.value (.bool (!b))) w:=by simp[execOp,hx,Op.unary]
theorem S6 {a:Option Addr} {n c:Nat} {aT:Array TypeId} (hx:ρ x= .slice a n c) (hT:P.underlying T=some (.slice E)) (hA:aT[0]? =some T) :
  (execOp ρ ⟨d,.call ⟨.builtin .len,#[x],aT⟩,ty,ps,af,g⟩).run P w= .ok (.value (.int .i64 (n:Int))) w:=by
 simp[execOp,resolve,invoke,builtin,hx,Builtin.len_,hA,underlying,hT,goInt]
theorem an1 {m k:Int} {aT:Array TypeId} (hx:ρ x= .int .i64 m) (hy:ρ y= .int .i64 k) :
  (execOp ρ ⟨d,.call ⟨.builtin .max,#[x,y],aT⟩,ty,ps,af,g⟩).run P w= .ok (.value (.int .i64 (max m k))) w:=by
 have:max m k=if k>m then k else m:=by split <;> omega
 rw[this];simp[execOp,resolve,invoke,builtin,hx,hy,Builtin.max_,Builtin.max2]
theorem run_sizeOf {t:TypeId} {s:Nat} (h:(P.info? t).map (·.size)=some s):(sizeOf t).run P w= .ok s w:=by
 cases hi:P.info? t with
 |none=>rw[hi]at h;cases h
 |some i=>rw[hi]at h;simp at h;simp[sizeOf,typeInfo,hi,h]
theorem run_underlying {t:TypeId} {u:TypeDesc} (h:P.underlying t=some u):(underlying t).run P w= .ok u w:=by simp[underlying,h]
theorem ce0 {t:TypeId} {v:Value} (h:(P.info? t).bind (·.zero)=some v):(zeroValue t).run P w= .ok v w:=by
 cases hi:P.info? t with
 |none=>rw[hi]at h;cases h
 |some i=>rw[hi]at h;simp at h;simp[zeroValue,typeInfo,hi,h]
theorem ae0 {b o n c s:Nat} {i:Nat} (hx:ρ x= .slice (some ⟨b,o,none⟩) n c) (hy:ρ y= .int .i64 (i:Int)) (hT:P.underlying T=some (.slice E)) (hs:(P.info? E).map (·.size)=some s) (h:i<n) :
  (execOp ρ ⟨d,.indexAddr T x y,ty,ps,af,g⟩).run P w= .ok (.value (.pointer (some ⟨b,o+i*s,none⟩))) w:=by
 have h1:(0:Int) <=(i:Int)/\(i:Int)<(n:Int):=by omega
 have h2:Addr.add ⟨b,o,none⟩ (i*s)=⟨b,o+i*s,none⟩:=by
  unfold Addr.add;split
  ·rename_i h0;simp[]
  ·rfl
 simp[execOp,Instr.indexAt,hx,hy,asIntOf,run_underlying hT,run_sizeOf hs,h1,h];simpa using h2
theorem Aw0 {b o n s:Nat} {i:Int} (hx:ρ x= .pointer (some ⟨b,o,none⟩)) (hy:ρ y= .int .i64 i) (hT:P.underlying T=some (.array n E)) (hs:(P.info? E).map (·.size)=some s) (h0:0 <=i) (h:i<n) :
  (execOp ρ ⟨d,.indexAddr T x y,ty,ps,af,g⟩).run P w= .ok (.value (.pointer (some ⟨b,o+i.toNat*s,none⟩))) w:=by
 have h2:Addr.add ⟨b,o,none⟩ (i.toNat*s)=⟨b,o+i.toNat*s,none⟩:=by
  unfold Addr.add;split
  ·rename_i h0;simp[]
  ·rfl
 simp[execOp,Instr.indexAt,hx,hy,asIntOf,Instr.sureAddr,run_underlying hT,run_sizeOf hs,h0,h,h2]
theorem G0 {b o f:Nat} {fs:Array Field} {fl:Field} {s:Nat} (hx:ρ x= .pointer (some ⟨b,o,none⟩)) (hT:P.underlying S=some (.struct fs)) (hf:fs[f]? =some fl) (hs:(P.info? fl.type).map (·.size)=some s) (h0:s≠0) :
  (execOp ρ ⟨d,.fieldAddr S x f,ty,ps,af,g⟩).run P w= .ok (.value (.pointer (some ⟨b,o+fl.offset,none⟩))) w:=by
 have h2:Addr.add ⟨b,o,none⟩ fl.offset=⟨b,o+fl.offset,none⟩:=by
  unfold Addr.add;split
  ·rename_i h0;simp[]
  ·rfl
 simp[execOp,Instr.fieldAt,hx,Instr.sureAddr,run_underlying hT,hf,fieldPlace,run_sizeOf hs,h0,h2]
def g7 (u:TypeDesc):Bool:=match u with| .struct _| .array ..=>false|_=>true
theorem W8 {t:TypeId} {u:TypeDesc} (h:P.underlying t=some u):(isAgg t).run P w= .ok (!g7 u) w:=by
 cases u <;> simp[isAgg,run_underlying h,g7]
theorem A0 {p:Addr} {u:TypeDesc} {v:Value} (hx:ρ x= .pointer (some p)) (hT:P.underlying T=some u) (hu:g7 u=true) (hc:w.cell? p=some v) :
  (execOp ρ ⟨d,.load T x,ty,ps,af,g⟩).run P w= .ok (.value v) w:=by
 simp[execOp,Instr.loadAt,hx,Instr.sureAddr,loadVar,W8 hT,hu,hc]
theorem j1 {b o:Nat} {u:TypeDesc} {cs:List Value} {s:Nat} (hx:ρ x= .pointer (some ⟨b,o,none⟩)) (hT:P.underlying T=some u) (hu:g7 u=false) (hs:(P.info? T).map (·.size)=some s) (hl:cs.length=s)
  (hc:∀j v,cs[j]? =some v->w.cell? ⟨b,o+j,none⟩=some v) :
  (execOp ρ ⟨d,.load T x,ty,ps,af,g⟩).run P w= .ok (.value (.agg cs.toArray)) w:=by
 have h2:∀j,Addr.add ⟨b,o,none⟩ j=⟨b,o+j,none⟩:=fun j=>by
  unfold Addr.add;split
  ·rename_i h0;simp[]
  ·rfl
 have:=run_loadCells_list (P:=P) (w:=w) ⟨b,o,none⟩ cs (fun j v hj=>by rw[h2];exact hc j v hj);rw[hl]at this;simp[execOp,Instr.loadAt,hx,Instr.sureAddr,loadVar,W8 hT,hu,run_sizeOf hs,this]
theorem md0 {p:Addr} {v v0:Value} (hx:ρ x= .pointer (some p)) (hy:ρ y=v) (hs:(P.info? T).map (·.size)=some 1) (h1:v.oneCell'=true) (hc:w.cell? p=some v0) (hf:w.frozen? p=false) :
  (execOp ρ ⟨d,.store T x y,ty,ps,af,g⟩).run P w= .ok .skip (w.setCell p v):=by
 have hv:v.cells=#[v]:=by cases v <;> first|rfl|(simp[Value.oneCell']at h1)
 have ha:p.add 0=p:=by simp[Addr.add]
 simp[execOp,Instr.storeAt,hx,hy,Instr.sureAddr,storeVar,run_sizeOf hs,hv,storeCells,ha,run_store P w p v .plain h1,hc,hf]
theorem cv0 {vs:Array Value} {i:Nat} {v:Value} (hx:ρ x= .tuple vs) (hv:vs[i]? =some v):(execOp ρ ⟨d,.extract x i,ty,ps,af,g⟩).run P w= .ok (.value v) w:=by
 simp[execOp,Instr.extract,hx,hv]
theorem cf0 {f:FuncId} {first cap args:Array Value} {fn:Func} {xs:Array Operand} {aT:Array TypeId} (hx:ρ x= .func (.func f) first cap) (ha:xs.map ρ=args) (hf:P.funcs[f]? =some fn) (hb:fn.body.isSome=true) (hn:(fn.name== "runtime.NumGoroutine")=false) :
  (execOp ρ ⟨d,.call ⟨.value x,xs,aT⟩,ty,ps,af,g⟩).run P w= .ok (.enter f (first++args++cap)) w:=by
 have D8:fn.body≠none:=by intro h;rw[h]at hb;cases hb
 simp at hn;simp[execOp,resolve,hx,Deferred.ofValue,invoke,callFunc,hf,hn,D8,ha]
theorem bq0 {f:FuncId} {fn:Func} {aT:Array TypeId} (hf:P.funcs[f]? =some fn) (hb:fn.body.isSome=true) (hn:(fn.name== "runtime.NumGoroutine")=false) (hx:ρ (.func f)= .func (.func f) #[] #[]) :
  (execOp ρ ⟨d,.call ⟨.value (.func f),#[],aT⟩,ty,ps,af,g⟩).run P w= .ok (.enter f #[]) w:=by
 rw[cf0 hx rfl hf hb hn];simp
theorem C2 {f:FuncId} {fn:Func} {aT:Array TypeId} {x0:Operand} {v0:Value} (h0:ρ x0=v0) (hf:P.funcs[f]? =some fn) (hb:fn.body.isSome=true) (hn:(fn.name== "runtime.NumGoroutine")=false) (hx:ρ (.func f)= .func (.func f) #[] #[]) :
  (execOp ρ ⟨d,.call ⟨.value (.func f),#[x0],aT⟩,ty,ps,af,g⟩).run P w= .ok (.enter f #[v0]) w:=by
 rw[cf0 hx rfl hf hb hn];simp[h0]
theorem Q3 {f:FuncId} {fn:Func} {aT:Array TypeId} {x0 x1:Operand} {v0 v1:Value} (h0:ρ x0=v0) (h1:ρ x1=v1) (hf:P.funcs[f]? =some fn) (hb:fn.body.isSome=true) (hn:(fn.name== "runtime.NumGoroutine")=false) (hx:ρ (.func f)= .func (.func f) #[] #[]) :
  (execOp ρ ⟨d,.call ⟨.value (.func f),#[x0,x1],aT⟩,ty,ps,af,g⟩).run P w= .ok (.enter f #[v0,v1]) w:=by
 rw[cf0 hx rfl hf hb hn];simp[h0,h1]
theorem G8 {f:FuncId} {fn:Func} {aT:Array TypeId} {x0 x1 x2:Operand} {v0 v1 v2:Value} (h0:ρ x0=v0) (h1:ρ x1=v1) (h2:ρ x2=v2) (hf:P.funcs[f]? =some fn) (hb:fn.body.isSome=true) (hn:(fn.name== "runtime.NumGoroutine")=false) (hx:ρ (.func f)= .func (.func f) #[] #[]) :
  (execOp ρ ⟨d,.call ⟨.value (.func f),#[x0,x1,x2],aT⟩,ty,ps,af,g⟩).run P w= .ok (.enter f #[v0,v1,v2]) w:=by
 rw[cf0 hx rfl hf hb hn];simp[h0,h1,h2]
theorem m9 {f:FuncId} {fn:Func} {aT:Array TypeId} {x0 x1 x2 x3:Operand} {v0 v1 v2 v3:Value} (h0:ρ x0=v0) (h1:ρ x1=v1) (h2:ρ x2=v2) (h3:ρ x3=v3) (hf:P.funcs[f]? =some fn) (hb:fn.body.isSome=true) (hn:(fn.name== "runtime.NumGoroutine")=false) (hx:ρ (.func f)= .func (.func f) #[] #[]) :
  (execOp ρ ⟨d,.call ⟨.value (.func f),#[x0,x1,x2,x3],aT⟩,ty,ps,af,g⟩).run P w= .ok (.enter f #[v0,v1,v2,v3]) w:=by
 rw[cf0 hx rfl hf hb hn];simp[h0,h1,h2,h3]
theorem R7 {f:FuncId} {fn:Func} {aT:Array TypeId} {x0 x1 x2 x3 x4:Operand} {v0 v1 v2 v3 v4:Value} (h0:ρ x0=v0) (h1:ρ x1=v1) (h2:ρ x2=v2) (h3:ρ x3=v3) (h4:ρ x4=v4) (hf:P.funcs[f]? =some fn) (hb:fn.body.isSome=true) (hn:(fn.name== "runtime.NumGoroutine")=false) (hx:ρ (.func f)= .func (.func f) #[] #[]) :
  (execOp ρ ⟨d,.call ⟨.value (.func f),#[x0,x1,x2,x3,x4],aT⟩,ty,ps,af,g⟩).run P w= .ok (.enter f #[v0,v1,v2,v3,v4]) w:=by
 rw[cf0 hx rfl hf hb hn];simp[h0,h1,h2,h3,h4]
theorem De0 {v:Value} (hx:ρ x=v):(execOp ρ ⟨d,.box T x,ty,ps,af,g⟩).run P w= .ok (.value (.pointer (some ⟨w.heap.size,0,none⟩))) (w.alloc (.cells v.cells T)):=by
 simp[execOp,Instr.box,newVar,newRow,hx]
theorem io0 {v:Value} (hz:(P.info? T).bind (·.zero)=some v):(execOp ρ ⟨d,.alloc T,ty,ps,af,g⟩).run P w= .ok (.value (.pointer (some ⟨w.heap.size,0,none⟩))) (w.alloc (.cells v.cells T)):=by
 simp[execOp,Instr.alloc,newVar,newRow,ce0 hz]
end
section
end
section
end
def y8 (args:Array Value):Env:=fun t=>args.getD t undef
def ends (P:Program) (fn:Func) (R:Value->World->Prop):Exit->Env->World->Prop:=fun x e w=>
 (x= .normal\/x= .ret)/\∃v,(∀tmps:Array Value,(∀t,tmps.getD t undef=e t)->(results fn tmps).run P w= .ok v w)/\R v w
theorem rb {a b:Bool} (h:a=b):Value.bool a=Value.bool b:=by rw[h]
end Go.Vc
end
section
namespace Go.Vc
open Go Go.RowKit
def O0 (w:World) (b:Nat) (cs:Array Value) (T:TypeId):Prop:=w.heap[b]? =some (.cells cs T (0,0))
theorem O0.lt {w:World} {b:Nat} {cs:Array Value} {T:TypeId} (h:O0 w b cs T):b<w.heap.size:=(Array.getElem?_eq_some_iff.1 h).1
theorem O0.cell {w:World} {b o:Nat} {cs:Array Value} {T:TypeId} {v:Value} (h:O0 w b cs T) (hv:cs[o]? =some v):w.cell? ⟨b,o,none⟩=some v:=by
 unfold O0 at h;simp[World.cell?,h,hv]
theorem O0.frozen {w:World} {b o:Nat} {cs:Array Value} {T:TypeId} (h:O0 w b cs T):w.frozen? ⟨b,o,none⟩=false:=by
 unfold O0 at h;simp[World.frozen?,h]
theorem O0.set {w:World} {b o:Nat} {cs:Array Value} {T:TypeId} (h:O0 w b cs T) (v:Value):O0 (w.setCell ⟨b,o,none⟩ v) b (cs.setIfInBounds o v) T:=by
 unfold O0 at *;simp only[World.setCell,Array.getElem?_modify,h];simp
theorem O0.below {B:Nat} {w w':World} {b:Nat} {cs:Array Value} {T:TypeId} (h:O0 w b cs T) (hb:Below B w w') (Y1:b<B):O0 w' b cs T:=(hb.block b Y1).trans h
theorem O0.j0 {w w':World} {b:Nat} {cs:Array Value} {T:TypeId} (h:O0 w b cs T) (hb:Below w.heap.size w w'):O0 w' b cs T:=h.below hb h.lt
structure gh0 (w w1:World) (b:Nat) (cs:Array Value) (T:TypeId):Prop where
 here:b=w.heap.size
 below:Below w.heap.size w w1
 size:w1.heap.size=w.heap.size+1
 blk:O0 w1 b cs T
theorem gh0.lq {w w1:World} {b n:Nat} {cs:Array Value} {T:TypeId} (F:gh0 w w1 b cs T) (h:n <=w.heap.size):n <=b:=F.here▸h
theorem j7 (w:World) (cs:Array Value) (T:TypeId):gh0 w (w.alloc (.cells cs T)) w.heap.size cs T :=
 ⟨rfl,(Below.refl _ _).alloc (Nat.le_refl _) _,by simp,by unfold O0;show(w.heap.push _)[_]? =_;simp⟩
section
variable {P:Program}{w:World}
variable {T:TypeId}
def setRow (cs:Array Value) (o:Nat):List Value->Array Value
 | []=>cs
 |v::vs=>setRow (cs.setIfInBounds o v) (o+1) vs
def n6 (w:World) (b:Nat) (cs:Array Value) (T:TypeId):World:={w with heap:=w.heap.setIfInBounds b (.cells cs T (0,0))}
theorem ez0 (w:World) (b:Nat) (cs:Array Value) (T:TypeId):(n6 w b cs T).heap.size=w.heap.size:=by simp[n6]
theorem fa0 {w:World} {b:Nat} (cs H6:Array Value) (T:TypeId) (h:O0 w b cs T):O0 (n6 w b H6 T) b H6 T:=by
 have:=h.lt;simp[O0,n6,this]
theorem wa0 {w:World} {b k:Nat} (H6:Array Value) (T:TypeId) (h:k≠b):(n6 w b H6 T).heap[k]? =w.heap[k]?:=by
 simp only[n6];rw[Array.getElem?_setIfInBounds_ne (Ne.symm h)]
theorem nc0 {w:World} {b o:Nat} {cs:Array Value} {T:TypeId} (h:O0 w b cs T) (v:Value):w.setCell ⟨b,o,none⟩ v=n6 w b (cs.setIfInBounds o v) T:=by
 have hl:=h.lt;have hg:w.heap[b]= .cells cs T (0,0):=by have:=h;unfold O0 at this;rw[Array.getElem?_eq_getElem hl]at this;exact Option.some.inj this
 simp only[World.setCell,Vc.n6];congr 1;apply Array.ext_getElem?;intro i;by_cases hi:i=b
 ·subst hi;rw[Array.getElem?_modify,if_pos rfl,Array.getElem?_eq_getElem hl,hg];simp[hl]
 ·rw[Array.getElem?_modify,Array.getElem?_setIfInBounds_ne (Ne.symm hi),if_neg (Ne.symm hi)]
theorem py0 (w:World) (b:Nat) (cs H6:Array Value) (T:TypeId):n6 (n6 w b cs T) b H6 T=n6 w b H6 T:=by
 simp[n6]
theorem yi0 {w:World} {b:Nat} {cs:Array Value} {T:TypeId} (h:O0 w b cs T):n6 w b cs T=w:=by
 have hl:=h.lt;have hg:w.heap[b]= .cells cs T (0,0):=by have:=h;unfold O0 at this;rw[Array.getElem?_eq_getElem hl]at this;exact Option.some.inj this
 have:w.heap.setIfInBounds b (.cells cs T (0,0))=w.heap:=by
  apply Array.ext_getElem?;intro i;by_cases hi:i=b
  ·subst hi;simp[hl,hg]
  ·rw[Array.getElem?_setIfInBounds_ne (Ne.symm hi)]
 simp only[n6,this]
theorem ay0 (b:Nat) (T:TypeId):∀(vs:List Value) (o i:Nat) (cs:Array Value) (w:World),O0 w b cs T->o+i+vs.length <=cs.size->(∀v∈vs,v.oneCell'=true) ->
  (storeCells ⟨b,o,none⟩ vs i).run P w= .ok () (n6 w b (setRow cs (o+i) vs) T)
 | [],o,i,cs,w,h,_,_=>by simp[storeCells,setRow,yi0 h]
 |v::vs,o,i,cs,w,h,hl,h1=>by
  have ha:Addr.add ⟨b,o,none⟩ i=⟨b,o+i,none⟩:=by
   unfold Addr.add;split
   ·rename_i h0;simp[]
   ·rfl
  have Y1:o+i<cs.size:=by simp only[List.length_cons]at hl;omega
  have hc:=h.cell (Array.getElem?_eq_getElem Y1);have ih:=ay0 b T vs o (i+1) (cs.setIfInBounds (o+i) v) (n6 w b (cs.setIfInBounds (o+i) v) T) (fa0 cs _ T h) (by simp only[List.length_cons]at hl;simp;omega) (fun u hu=>h1 u (List.mem_cons_of_mem _ hu));rw[py0]at ih;simp only[storeCells,Sem.run_bind,ha,run_store P w _ v .plain (h1 v List.mem_cons_self),hc,h.frozen,Bool.false_eq_true,if_false,Result.andThen_ok,nc0 h v];rw[ih];rfl
end
section
end
def ab (a:Option Addr):Nat:=(a.map (·.block)).getD 0
def ao (a:Option Addr):Nat:=(a.map (·.off)).getD 0
def SL (a:Option Addr) (n:Nat):Prop:=0<n->a=some ⟨ab a,ao a,none⟩
theorem SL.zero (a:Option Addr):SL a 0:=fun h=>by omega
theorem SL.mk (b o n:Nat):SL (some ⟨b,o,none⟩) n:=fun _=>rfl
section
variable {P:Program}{ρ:Operand->Value}{w:World}{d:Option Nat}{ty:TypeId}{ps:String}{af:Array Edge}{g:Option (Nat×Bool)}{x y:Operand}{T E:TypeId}
theorem S3 {a:Option Addr} {n c s:Nat} {i:Nat} (hx:ρ x= .slice a n c) (hy:ρ y= .int .i64 (i:Int)) (hT:P.underlying T=some (.slice E)) (hs:(P.info? E).map (·.size)=some s) (hS:SL a n) (h:i<n) :
  (execOp ρ ⟨d,.indexAddr T x y,ty,ps,af,g⟩).run P w= .ok (.value (.pointer (some ⟨ab a,ao a+i*s,none⟩))) w:=by
 have h0:=hS (by omega);rw[h0]at hx;exact ae0 hx hy hT hs h
end
section
variable {next:Env->World->Prop}{Q:Exit->Env->World->Prop}{e:Env}{w:World}{id:Nat}
theorem T.nrm (h:next e w):W9 next Q .normal e w:=h
theorem T.ret (h:Q .ret e w):W9 next Q .ret e w:=h
theorem T.exit (h:Q (.exit id) e w):W9 next Q (.exit id) e w:=h
theorem B.nrm (h:Q .normal e w):av0 id Q .normal e w:=h
theorem B.ret (h:Q .ret e w):av0 id Q .ret e w:=h
theorem B.Va0 (h:Q .normal e w):av0 id Q (.exit id) e w:=by simp only[av0,if_true];exact h
end
theorem Om0 {p:Prop} [Decidable p] {q:Prop} [Decidable (p\/q)] (h:decide p=true):true=decide (p\/q):=(decide_eq_true (Or.inl (of_decide_eq_true h))).symm
theorem On0 {p:Prop} [Decidable p] {q:Prop} [Decidable q] [Decidable (p\/q)] (h:decide p=false):decide q=decide (p\/q):=decide_eq_decide.2 ⟨Or.inr,fun h'=>h'.resolve_left (of_decide_eq_false h)⟩
theorem yj0 {p:Prop} [Decidable p] {q:Prop} [Decidable (p/\q)] (h:decide p=false):false=decide (p/\q):=(decide_eq_false (fun h'=>of_decide_eq_false h h'.1)).symm
theorem yk0 {p:Prop} [Decidable p] {q:Prop} [Decidable q] [Decidable (p/\q)] (h:decide p=true):decide q=decide (p/\q):=decide_eq_decide.2 ⟨fun h'=>⟨of_decide_eq_true h,h'⟩,fun h'=>h'.2⟩
theorem P0 {w0 w w':World} (h:Below w0.heap.size w0 w) (h':Below w.heap.size w w'):Below w0.heap.size w0 w':=h.trans (h'.mono h.size)
def Own (w:World) (B:Nat) (E:TypeId) (s:Nat) (a:Option Addr) (n c:Nat) (xs:List Value):Prop:=w.ownsRow B E s (.slice a n c) n xs
section
variable {w w':World}{B:Nat}{E:TypeId}{s:Nat}{a:Option Addr}{n c:Nat}{xs:List Value}
theorem Own.nil (w:World) (B:Nat) (E:TypeId) (s:Nat):Own w B E s none 0 0 []:=World.ownsRow_nil w B E s
theorem Own.length (h:Own w B E s a n c xs):xs.length=n*s:=h.1
theorem Own.sl (h:Own w B E s a n c xs):SL a n:=fun hn=>by
 rcases h.2 with⟨_,h0⟩|⟨g,cap,cur,hv,_⟩
 ·omega
 ·cases hv;rfl
theorem Own.off (h:Own w B E s a n c xs):ao a=0:=by
 rcases h.2 with⟨hv,h0⟩|⟨g,cap,cur,hv,_⟩ <;> cases hv <;> rfl
theorem Own.row (h:Own w B E s a n c xs) (ha:a≠none):∃cur,O0 w (ab a) cur E/\B <=ab a/\n <=c/\c <=maxLen/\cur.size=c*s/\cur.toList.take (n*s)=xs:=by
 rcases h.2 with⟨hv,h0⟩|⟨g,cap,cur,hv,hb,hg,hn,hm,hs,ht⟩
 ·cases hv;exact absurd rfl ha
 ·cases hv;exact⟨cur,hg,hb,hn,hm,hs,ht⟩
theorem Own.Df0 (h:Own w B E s a n c xs) (hn:0<n):a≠none:=by rw[h.sl hn];simp
theorem Own.cell (h:Own w B E s a n c xs) {j:Nat} {v:Value} (hj:xs[j]? =some v):w.cell? ⟨ab a,j,none⟩=some v:=by
 have Y1:j<xs.length:=(List.getElem?_eq_some_iff.1 hj).1;have hn:0<n:=by
  rcases Nat.eq_zero_or_pos n with h0|h0
  ·subst h0;rw[h.length]at Y1;omega
  ·exact h0
 obtain⟨cur,hB,_,_,_,_,ht⟩:=h.row (h.Df0 hn);refine hB.cell ?_;rw[<- ht]at hj;rw[List.getElem?_take]at hj;split at hj
 ·simpa using hj
 ·cases hj
theorem Own.lt (h:Own w B E s a n c xs) (ha:a≠none):ab a<w.heap.size:=(h.row ha).choose_spec.1.lt
theorem Own.grown (h:Own w B E s a n c xs) {row:Option Nat} (hg:w.grownBy w' row) (o3:some (ab a)≠row):Own w' B E s a n c xs:=by
 refine World.ownsRow.kept h hg ?_;cases a with
 |none=>exact .inl rfl
 |some x=>exact .inr o3
theorem jy0 (hb:Below w.heap.size w w'):w.grownBy w' none:=⟨hb.os,hb.tape,hb.output,hb.size,fun k hk _=>hb.block k hk⟩
theorem Own.j0 (h:Own w B E s a n c xs) (hb:Below w.heap.size w w'):Own w' B E s a n c xs:=h.grown (jy0 hb) (by simp)
theorem O0.grown {b:Nat} {cs:Array Value} {T:TypeId} (h:O0 w b cs T) {row:Option Nat} (hg:w.grownBy w' row) (o3:some b≠row):O0 w' b cs T:=(hg.block b h.lt o3).trans h
theorem O0.ne {b b':Nat} {cs H6:Array Value} {T T':TypeId} (h:O0 w b cs T) (h':O0 w b' H6 T') (hT:T≠T'):b≠b':=by
 intro hb;subst hb;unfold O0 at h h';rw[h]at h';exact hT (by cases h';rfl)
end
theorem gi0 (z:Value) (s:Nat) (hs:0<s) (n:Nat):madeCells (Array.replicate s z) n=Array.replicate n z:=by
 apply Array.ext
 ·simp[madeCells]
 ·intro i h1 h2;have:i%s<s:=Nat.mod_lt _ hs;simp[madeCells,this]
section
theorem Hv0 (vs:List Value):∀(k:Nat) (cs:Array Value),cs.size=k+vs.length->(vs.zipIdx k).foldl (fun cs (cj:Value×Nat)=>cs.setIfInBounds (0+cj.2) cj.1) cs=(cs.toList.take k++vs).toArray:=by
 induction vs with
 |nil=>
  intro k cs h;have h':cs.size=k:=by simpa using h
  rw[List.append_nil,List.take_of_length_le (by simp[h'])];simp
 |cons v vs ih=>
  intro k cs h;simp only[List.zipIdx_cons,List.foldl_cons,Nat.zero_add];have:=ih (k+1) (cs.setIfInBounds k v) (by simp[h];omega);simp only[Nat.zero_add]at this;rw[this];congr 1;have hk:k<cs.size:=by simp at h;omega
  rw[Array.toList_setIfInBounds,List.take_succ_eq_append_getElem (by simpa using hk)];simp[List.take_set_of_le]
end
section
end
section
variable {P:Program}{ρ:Operand->Value}{w:World}{d:Option Nat}{ty:TypeId}{ps:String}{af:Array Edge}{g:Option (Nat×Bool)}{y:Operand}{T:TypeId}
theorem C3 {parts:List (Nat×Operand)} {vs:List (Nat×Value)} {cells:Array Value} (hv:parts.map (fun(i,y)=>(i,ρ y))=vs) (hb:P.built T vs=some cells) :
  (execOp ρ ⟨d,.build T parts.toArray,ty,ps,af,g⟩).run P w= .ok (.value (.agg cells)) w:=by
 subst hv;have:=run_build (P:=P) w T (parts.map (fun(i,y)=>(i,ρ y))).toArray cells (by simpa using hb);simp only[execOp,List.map_toArray,Sem.run_bind,this,Result.andThen_ok,Sem.run_pure]
end
def arr (n:Nat) (f:Nat->Value):Array Value:=((List.range n).map f).toArray
theorem H8 (n:Nat) (f:Nat->Value):(arr n f).size=n:=by simp[arr]
theorem v7 {n:Nat} {f:Nat->Value} {i:Nat} (h:i<n):(arr n f)[i]? =some (f i):=by simp[arr,h]
theorem Oo0 {n:Nat} {f:Nat->Value} {i:Nat} {v:Value}:(arr n f).setIfInBounds i v=arr n (fun x=>if x=i then v else f x):=by
 apply Array.ext_getElem?;intro j;rw[Array.getElem?_setIfInBounds];by_cases hj:j<n
 ·by_cases hij:i=j
  ·subst hij;rw[if_pos rfl,if_pos (by rw[H8];exact hj),v7 hj];simp
  ·simp[hij,v7 hj,Ne.symm hij]
 ·have h1:(arr n f)[j]? =none:=Array.getElem?_eq_none (by rw[H8];omega);have h2:(arr n (fun x=>if x=i then v else f x))[j]? =none:=Array.getElem?_eq_none (by rw[H8];omega);rw[h1,h2];by_cases hij:i=j
  ·subst hij;rw[if_pos rfl,if_neg (by rw[H8];exact hj)]
  ·rw[if_neg hij]
theorem al0 {n:Nat} {f g:Nat->Value} (h:∀i,i<n->f i=g i):arr n f=arr n g:=by
 unfold arr;congr 1;exact List.map_congr_left (fun i hi=>h i (List.mem_range.1 hi))
theorem gj0 (w:World) (p:Addr) (v:Value):w.grownBy (w.setCell p v) (some p.block) :=
 ⟨rfl,rfl,rfl,by simp[World.setCell],fun k _ hk=>Below.heap_setCell _ _ _ _ (fun h=>hk (by rw[h]))⟩
theorem Ax0 (o:Nat):∀(vs:List Value) (cs:Array Value) (j:Nat),o+vs.length <=cs.size->(setRow cs o vs)[j]? =if o <=j/\j<o+vs.length then vs[j-o]? else cs[j]?:=by
 intro vs
 induction vs generalizing o with
 |nil=>intro cs j h;rw[if_neg (by simp only[List.length_nil];omega)];rfl
 |cons v vs ih=>
  intro cs j h;simp only[List.length_cons]at h;show(setRow (cs.setIfInBounds o v) (o+1) vs)[j]? =_;rw[ih (o+1) _ j (by simp;omega)];by_cases hj:j=o
  ·subst hj;rw[if_neg (by omega),if_pos (by simp only[List.length_cons];omega),Nat.sub_self,Array.getElem?_setIfInBounds_self_of_lt (by omega)];rfl
  ·by_cases hj2:o+1 <=j/\j<o+1+vs.length
   ·rw[if_pos hj2,if_pos (by simp only[List.length_cons];omega),show j-o=(j-(o+1))+1 by omega,List.getElem?_cons_succ]
   ·rw[if_neg hj2,if_neg (by simp only[List.length_cons];omega),Array.getElem?_setIfInBounds_ne (by omega)]
theorem O0.row {w:World} {b N o m:Nat} {F:Nat->Value} {T:TypeId} (h:O0 w b (arr N F) T) (ho:o+m <=N):∀(j:Nat) (v:Value),(arr m fun k=>F (o+k)).toList[j]? =some v->w.cell? ⟨b,o+j,none⟩=some v:=by
 intro j v hj;rw[Array.getElem?_toList]at hj;have hjm:j<m:=by have:=(Array.getElem?_eq_some_iff.1 hj).1;rw[H8]at this;exact this
 rw[v7 hjm]at hj;cases hj;exact h.cell (v7 (by omega))
theorem Op0 (n:Nat) (f:Nat->Value):(arr n f).toList.length=n:=by simp[arr]
section
variable {P:Program}{T:TypeId}{ρ:Operand->Value}{w:World}{d:Option Nat}{ty:TypeId}{ps:String}{af:Array Edge}{g:Option (Nat×Bool)}{x:Operand}
theorem jz0 {b o N m:Nat} {F G:Nat->Value} {E:TypeId} {u:TypeDesc} (hx:ρ x= .pointer (some ⟨b,o,none⟩)) (hT:P.underlying T=some u) (hu:g7 u=false) (hs:(P.info? T).map (·.size)=some m) (hB:O0 w b (arr N F) E) (ho:o+m <=N) (hG:∀k,k<m->F (o+k)=G k) :
  (execOp ρ ⟨d,.load T x,ty,ps,af,g⟩).run P w= .ok (.value (.agg (arr m G))) w:=by
 rw[<- al0 hG];exact j1 hx hT hu hs (Op0 _ _) (hB.row ho)
end
def S7 (l:List Oper):Nat->List Nat->List Nat
 |0,S=>S
 |k+1,S=>match l[k]? with
  |some o=>if S.contains k then S7 l k (S++(o.after.toList.filter (fun x=>Region.binds .any x)).map (·.on)) else S7 l k S
  |none=>S7 l k S
theorem w7 {l:List Oper} {V:(Nat->Bool)->Prop} (hV:∀D,V D->∀i o,l[i]? =some o->D i=true->O6 o D) {D:Nat->Bool} (hD:V D) :
  ∀k S,(∀i∈S,D i=true)->∀i∈S7 l k S,D i=true
 |0,S,hS,i,hi=>hS i hi
 |k+1,S,hS,i,hi=>by
  unfold S7 at hi;cases ho:l[k]? with
  |none=>rw[ho]at hi;exact w7 hV hD k S hS i hi
  |some o=>
   rw[ho]at hi;simp only at hi;split at hi
   ·rename_i hk;refine w7 hV hD k _ (fun j hj=>?_) i hi;rw[List.mem_append]at hj;rcases hj with hj|hj
    ·exact hS j hj
    ·obtain⟨x,hx,rfl⟩:=List.mem_map.1 hj;rw[List.mem_filter]at hx;exact hV D hD k o ho (hS k (by simpa using hk)) x (by simpa using hx.1) hx.2
   ·exact w7 hV hD k S hS i hi
section
variable {w0 w w':World}
theorem fu0 (w:World) (r:Option Nat):w.grownBy w r:=⟨rfl,rfl,rfl,Nat.le_refl _,fun _ _ _=>rfl⟩
theorem Oq0 {r:Option Nat} (hg:w0.grownBy w r) (hb:Below w.heap.size w w'):w0.grownBy w' r :=
 ⟨hb.os.trans hg.os,hb.tape.trans hg.tape,hb.output.trans hg.output,Nat.le_trans hg.size hb.size,fun k hk hr=>(hb.block k (Nat.lt_of_lt_of_le hk hg.size)).trans (hg.block k hk hr)⟩
theorem Hw0 {r:Option Nat} (hg:w0.grownBy w r) {b:Nat} (hb:some b=r\/w0.heap.size <=b) (cs:Array Value) (T:TypeId):w0.grownBy (n6 w b cs T) r :=
 ⟨hg.os,hg.tape,hg.output,by rw[ez0];exact hg.size,fun k hk hr=>by
  rw[wa0 _ _ (by rintro rfl;rcases hb with hb|hb;exact hr hb;omega)];exact hg.block k hk hr⟩
theorem ip0 {r:Option Nat} (hg:w0.grownBy w r) (hb:w.grownBy w' r):w0.grownBy w' r :=
 ⟨hb.os.trans hg.os,hb.tape.trans hg.tape,hb.output.trans hg.output,Nat.le_trans hg.size hb.size,fun k hk hr=>(hb.block k (Nat.lt_of_lt_of_le hk hg.size) hr).trans (hg.block k hk hr)⟩
theorem D3 {B b:Nat} (hg:Below B w0 w) (hs:B <=w.heap.size) (hb:w.grownBy w' (some b)) (hB:B <=b):Below B w0 w' :=
 ⟨hb.os.trans hg.os,hb.tape.trans hg.tape,hb.output.trans hg.output,Nat.le_trans hg.size hb.size,fun k hk=>(hb.block k (by omega) (by simp;omega)).trans (hg.block k hk)⟩
end
section
variable {P:Program}{T:TypeId}{ρ:Operand->Value}{w:World}{d:Option Nat}{ty:TypeId}{ps:String}{af:Array Edge}{g:Option (Nat×Bool)}{x y:Operand}
theorem J1 {p:Addr} (hx:ρ x= .pointer (some p)):(execOp ρ ⟨d,.nilCheck x,ty,ps,af,g⟩).run P w= .ok (.value (.pointer (some p))) w:=by
 simp[execOp,hx]
theorem M1 {E T:TypeId} {b o n s i:Nat} (hx:ρ x= .pointer (some ⟨b,o,none⟩)) (hy:ρ y= .int .i64 (i:Int)) (hT:P.underlying T=some (.array n E)) (hs:(P.info? E).map (·.size)=some s) (h:i<n) :
  (execOp ρ ⟨d,.indexAddr T x y,ty,ps,af,g⟩).run P w= .ok (.value (.pointer (some ⟨b,o+i*s,none⟩))) w :=
 Aw0 hx hy hT hs (by omega) (by omega)
theorem E5 {q:Option Addr} {E T':TypeId} (hx:ρ x= .pointer q) (hy:ρ y= .pointer none) (hT:P.underlying T=some (.pointer E)) :
  (execOp ρ ⟨d,.binOp .eql T x y T',ty,ps,af,g⟩).run P w= .ok (.value (.bool q.isNone)) w:=by
 have h1:(Op.equalIn 10000 T (.pointer q) (.pointer none)).run P w= .ok q.isNone w:=by
  rw[show(10000:Nat)=9999+1 from rfl,Op.equalIn];cases q <;> simp[run_underlying hT]
 have h2:(eqGuard .eql T x y (.pointer q) (.pointer none)).run P w= .ok () w:=by cases q <;> simp[eqGuard]
 have h3:(binOp .eql T (.pointer q) (.pointer none)).run P w= .ok (.bool q.isNone) w:=by
  simp only[binOp,Op.equal,Op.maxDepth,Sem.run_bind,h1,Result.andThen_ok,Sem.run_pure]
 simp only[execOp,hx,hy,Sem.run_bind,h2,h3,Result.andThen_ok,Sem.run_pure]
end
theorem nd0 {cs:Array Value} {vs:List Value} (h:cs.size=vs.length):setRow cs 0 vs=vs.toArray:=by
 apply Array.ext_getElem?;intro j;rw[Ax0 _ _ _ _ (by omega)];by_cases hj:j<vs.length
 ·rw[if_pos (by omega)];simp
 ·rw[if_neg (by omega),Array.getElem?_eq_none (by omega)];simp;omega
section
end
section
variable {ops:Array Oper}{V:(Nat->Bool)->Prop}{n:Nat}
theorem Ay0 (h:Ord n ops):∀{listed:Array Bool} {σ:List Nat},Lin ops listed σ->∀(m:Nat),m <=ops.size->listed.size=ops.size->(∀j,j<m->listed.getD j false=true)->(∀j,m <=j->listed.getD j false=false) ->
  (∀D,V D->∀i,m <=i->i<ops.size->D i=true->∀j,j<i->D j=true)->(∀τ ρ,σ=τ++ρ->V (fun j=>listed.getD j false ||τ.contains j))->σ=List.range' m (ops.size-m):=by
 intro listed σ H5
 induction H5 with
 | @nil listed hr=>
  intro m hms hs h1 h2 _ _;have:ops.size <=m:=by
   rcases Nat.lt_or_ge m ops.size with h3|h3
   ·have:=ft0 h hs hr m h3;rw[h2 m (Nat.le_refl _)]at this;cases this
   ·exact h3
  rw[show ops.size-m=0 by omega];rfl
 | @cons listed i σ hi hl ih=>
  intro m hms hs h1 h2 aw0 hV;obtain⟨hli,o,ho,ad0⟩:=mem_ready.1 hi;have hio:i<ops.size:=(Array.getElem?_eq_some_iff.1 ho).1;have x7:i<listed.size:=by omega
  have hDi:listed.getD i false=false:=by
   simp only[Array.getD_eq_getD_getElem?,x7,Array.getElem?_eq_getElem,Option.getD_some]at hli⊢;exact hli
  have hmi:m <=i:=by
   rcases Nat.lt_or_ge i m with h3|h3
   ·rw[h1 i h3]at hDi;cases hDi
   ·exact h3
  have hVi:=hV [i] σ rfl;have him:i=m:=by
   rcases Nat.lt_or_ge m i with h3|h3
   ·have:=aw0 _ hVi i hmi hio (by simp) m h3;simp only[h2 m (Nat.le_refl _),Bool.false_or]at this;simp at this;omega
   ·omega
  subst him;rw[show ops.size-i=(ops.size-(i+1))+1 by omega,List.range'_succ];congr 1;refine ih (i+1) (by omega) (by simp[hs]) (fun j hj=>?_) (fun j hj=>?_) (fun D hD j hj=>aw0 D hD j (by omega)) (fun τ ρ hσ=>?_)
  ·by_cases V2:i=j
   ·subst V2;simp[x7]
   ·rw[getD_set_ne false V2];exact h1 j (by omega)
  ·rw[getD_set_ne false (by omega)];exact h2 j (by omega)
  ·have:=hV (i::τ) ρ (by rw[hσ];rfl);have e1:(fun j=>listed.getD j false ||(i::τ).contains j)=fun j=>(listed.setIfInBounds i true).getD j false ||τ.contains j:=by
    funext j;by_cases hj:i=j
    ·subst hj;simp[x7]
    ·rw[getD_set_ne false hj];simp[Ne.symm hj]
   rw[e1]at this;exact this
def ka0 (l:List Oper) (k:Nat):Bool:=(List.range l.length).all fun i=>Nat.blt i k ||(List.range i).all fun j=>(S7 l l.length [i]).contains j
theorem iq0 {l:List Oper} {k:Nat} (h:ka0 l k=true) {V:(Nat->Bool)->Prop} (hV:∀D,V D->∀i o,l[i]? =some o->D i=true->O6 o D) {D:Nat->Bool} (hD:V D):∀i,k <=i->i<l.length->D i=true->∀j,j<i->D j=true:=by
 intro i z9 x7 hDi j hj;unfold ka0 at h;have h1:=List.all_eq_true.1 h i (List.mem_range.2 x7);have h2:Nat.blt i k=false:=by
  cases hb:Nat.blt i k with
  |false=>rfl
  |true=>rw[Nat.blt_eq]at hb;omega
 rw[h2,Bool.false_or]at h1;have h3:=List.all_eq_true.1 h1 j (List.mem_range.2 hj);exact w7 hV hD l.length [i] (fun x hx=>by simp at hx;rw[hx];exact hDi) j (List.contains_iff_mem.1 h3)
end
section
variable {P:Program}{ρ:Operand->Value}{w:World}{d:Option Nat}{ty:TypeId}{ps:String}{af:Array Edge}{g:Option (Nat×Bool)}
variable {x y:Operand}{T T' E:TypeId}
theorem n8 {q:Option Addr} (hx:ρ x= .pointer q) (hy:ρ y= .pointer none) (hT:P.underlying T=some (.pointer E)) :
  (execOp ρ ⟨d,.binOp .neq T x y T',ty,ps,af,g⟩).run P w= .ok (.value (.bool q.isSome)) w:=by
 have h1:(Op.equalIn 10000 T (.pointer q) (.pointer none)).run P w= .ok q.isNone w:=by
  rw[show(10000:Nat)=9999+1 from rfl,Op.equalIn];cases q <;> simp[run_underlying hT]
 have h2:(eqGuard .neq T x y (.pointer q) (.pointer none)).run P w= .ok () w:=by cases q <;> simp[eqGuard]
 simp only[execOp,hx,hy,Sem.run_bind,h2,binOp,Op.equal,Op.maxDepth,h1,Result.andThen_ok,Sem.run_pure];cases q <;> rfl
theorem o8 {v:Value} {b:Bool} {u:TypeDesc} (hx:ρ x=v) (hv:(v= .nilFunc/\b=true)\/(∃f xs ys,v= .func f xs ys/\b=false)) (hy:ρ y= .nilFunc) (hT:P.underlying T=some u) (hu:∃a b c,u= .func a b c) :
  (execOp ρ ⟨d,.binOp .eql T x y T',ty,ps,af,g⟩).run P w= .ok (.value (.bool b)) w:=by
 obtain⟨a1,b1,c1,rfl⟩:=hu;have h1:(Op.equalIn 10000 T v .nilFunc).run P w= .ok b w:=by
  rw[show(10000:Nat)=9999+1 from rfl,Op.equalIn];rcases hv with⟨rfl,rfl⟩|⟨f,xs,ys,rfl,rfl⟩ <;> simp[run_underlying hT]
 have h2:(eqGuard .eql T x y v .nilFunc).run P w= .ok () w:=by
  rcases hv with⟨rfl,rfl⟩|⟨f,xs,ys,rfl,rfl⟩ <;> simp[eqGuard]
 simp only[execOp,hx,hy,Sem.run_bind,h2,binOp,Op.equal,Op.maxDepth,h1,Result.andThen_ok,Sem.run_pure]
theorem dx0 {v:Value} {b:Bool} {u:TypeDesc} (hx:ρ x=v) (hv:(v= .nilFunc/\b=false)\/(∃f xs ys,v= .func f xs ys/\b=true)) (hy:ρ y= .nilFunc) (hT:P.underlying T=some u) (hu:∃a b c,u= .func a b c) :
  (execOp ρ ⟨d,.binOp .neq T x y T',ty,ps,af,g⟩).run P w= .ok (.value (.bool b)) w:=by
 obtain⟨a1,b1,c1,rfl⟩:=hu;have h1:(Op.equalIn 10000 T v .nilFunc).run P w= .ok (!b) w:=by
  rw[show(10000:Nat)=9999+1 from rfl,Op.equalIn];rcases hv with⟨rfl,rfl⟩|⟨f,xs,ys,rfl,rfl⟩ <;> simp[run_underlying hT]
 have h2:(eqGuard .neq T x y v .nilFunc).run P w= .ok () w:=by
  rcases hv with⟨rfl,rfl⟩|⟨f,xs,ys,rfl,rfl⟩ <;> simp[eqGuard]
 simp only[execOp,hx,hy,Sem.run_bind,h2,binOp,Op.equal,Op.maxDepth,h1,Result.andThen_ok,Sem.run_pure];cases b <;> rfl
theorem gn0 {src dst t:TypeId} {a:Addr} {v:Value} (hx:ρ x= .pointer (some a)) (hs:P.underlying src=some (.pointer t)) (hd:P.underlying dst=some .unsafePointer) (hz:(P.info? t).map (fun i=>decide (i.size=0))=some false) (hc:w.cell? a=some v) :
  (execOp ρ ⟨d,.convert src dst x,ty,ps,af,g⟩).run P w= .ok (.value (.pointer (some a))) w:=by
 simp only[execOp,hx,Sem.run_bind,run_convert_to_unsafe hs hd hz hc,Result.andThen_ok,Sem.run_pure]
theorem ne0 {f:FuncId} {fn:Func} {aT:Array TypeId} {a:Addr} {p:Option Addr} {u:Value} (hx:ρ x= .pointer (some a)) (hy:ρ y= .pointer p) (hf:P.funcs[f]? =some fn) (k3:(fn.name== "runtime.NumGoroutine")=false) (hb:fn.body.isNone=true) (hn:Extern.findNext fn=none)
  (he:Extern.find fn=some Extern.Atomic.storeT) (hc:w.cell? a=some u) (hz:w.frozen? a=false) (hρ:ρ (.func f)= .func (.func f) #[] #[]) :
  (execOp ρ ⟨d,.call ⟨.value (.func f),#[x,y],aT⟩,ty,ps,af,g⟩).run P w= .ok (.value (.tuple #[])) (w.setCell a (.pointer p)):=by
 have h1:(callFunc f #[.pointer (some a),.pointer p]).run P w= .ok (.value (.tuple #[])) (w.setCell a (.pointer p)):=by
  rw[run_callFunc_extern hf k3 hb hn he];change (Sem.run P (do
   store (<- asAddr (.pointer (some a))) (.pointer p) .atomic
   pure Extern.Atomic.none_) w).andThen _=_
  simp[asAddr,hc,hz,run_store P w a (.pointer p) .atomic rfl,Result.andThen,Extern.Atomic.none_]
 simp[execOp,resolve,hρ,Deferred.ofValue,invoke,hx,hy,h1]
theorem ir0 {f:FuncId} {fn:Func} {aT:Array TypeId} {ys:Array Value} (hx:ρ x= .func (.func f) #[] ys) (hf:P.funcs[f]? =some fn) (hb:fn.body.isSome=true) (hn:(fn.name== "runtime.NumGoroutine")=false) :
  (execOp ρ ⟨d,.call ⟨.value x,#[],aT⟩,ty,ps,af,g⟩).run P w= .ok (.enter f ys) w:=by
 rw[cf0 hx rfl hf hb hn];simp
end
end Go.Vc
end
section
namespace Go.Vc
open Go Go.RowKit
structure T3 (w w':World) (B:Nat) (TS:List TypeId):Prop where
 os:w'.os=w.os
 tape:w'.tape=w.tape
 output:w'.output=w.output
 size:w.heap.size <=w'.heap.size
 low:∀k,k<B->w'.heap[k]? =w.heap[k]?
 stay:∀k cs T,O0 w k cs T->TS.contains T=false->O0 w' k cs T
section
variable {w0 w w':World}{B:Nat}{TS TS':List TypeId}
theorem T3.trans (h:T3 w0 w B TS) (h':T3 w w' B TS):T3 w0 w' B TS :=
 ⟨h'.os.trans h.os,h'.tape.trans h.tape,h'.output.trans h.output,Nat.le_trans h.size h'.size,fun k hk=>(h'.low k hk).trans (h.low k hk),fun k cs T hb hT=>h'.stay k cs T (h.stay k cs T hb hT) hT⟩
theorem T3.wide (h:T3 w w' B TS') (hs:(TS'.all TS.contains)=true):T3 w w' B TS :=
 ⟨h.os,h.tape,h.output,h.size,h.low,fun k cs T hb hT=>h.stay k cs T hb (by
  cases hc:TS'.contains T with
  |false=>rfl
  |true=>
   have:=List.all_eq_true.1 hs T (by simpa using hc);rw[hT]at this;cases this)⟩
theorem T3.put {b:Nat} {cs:Array Value} {T:TypeId} (hB:O0 w b cs T) (hg:w.grownBy w' (some b)) (hb:B <=b) (hT:TS.contains T=true):T3 w w' B TS :=
 ⟨hg.os,hg.tape,hg.output,hg.size,fun k hk=>by
  rcases Nat.lt_or_ge k w.heap.size with h1|h1
  ·exact hg.block k h1 (by simp;omega)
  ·have:=hB.lt;omega,fun k H6 T' h' hT'=>h'.grown hg (by
  intro hk;simp only[Option.some.injEq]at hk;subst hk;have:T'=T:=by
   unfold O0 at hB h';rw[hB]at h';cases h';rfl
  subst this;rw[hT]at hT';cases hT')⟩
theorem Below.wb0 (h:Below B w0 w) (hm:T3 w w' B TS):Below B w0 w' :=
 ⟨hm.os.trans h.os,hm.tape.trans h.tape,hm.output.trans h.output,Nat.le_trans h.size hm.size,fun k hk=>(hm.low k hk).trans (h.block k hk)⟩
theorem O0.mod {b:Nat} {cs:Array Value} {T:TypeId} (h:O0 w b cs T) (hm:T3 w w' B TS) (hT:TS.contains T=false):O0 w' b cs T:=hm.stay b cs T h hT
theorem Own.mod {B' s n c:Nat} {E:TypeId} {a:Option Addr} {xs:List Value} (h:Own w B' E s a n c xs) (hm:T3 w w' B TS) (hT:TS.contains E=false):Own w' B' E s a n c xs:=by
 refine⟨h.1,?_⟩;rcases h.2 with h1|⟨g,cap,cur,hv,hbg,hg,hr⟩
 ·exact .inl h1
 ·exact .inr ⟨g,cap,cur,hv,hbg,hm.stay g cur E hg hT,hr⟩
theorem T3.app {B' s k c n' c':Nat} {E:TypeId} {a a':Option Addr} {xs xs':List Value} (h:Own w B' E s a k c xs) (hg:w.grownBy w' (Value.ownBlock (.slice a k c))) (cg0:Below B w w') (hT:TS.contains E=true) (_h':Own w' B' E s a' n' c' xs'):T3 w w' B TS:=by
 refine⟨hg.os,hg.tape,hg.output,hg.size,cg0.block,fun j cs T hj hT'=>?_⟩;refine hj.grown hg ?_;cases a with
 |none=>simp[Value.ownBlock]
 |some q=>
  intro hjq;simp only[Value.ownBlock,Option.some.injEq]at hjq;obtain⟨cur,hc,-⟩:=h.row (by simp);subst hjq;have:T=E:=by
   unfold O0 at hj hc;simp only[ab,Option.map_some,Option.getD_some]at hc;rw[hj]at hc;cases hc;rfl
  subst this;rw[hT]at hT';cases hT'
end
theorem O0.E0 {w:World} {b:Nat} {cs:Array Value} {T:TypeId} (h:O0 w b cs T) (o:Nat) {v:Value} (hv:cs[o]? =some v):w.cell? ⟨b,o,none⟩=some v:=h.cell hv
theorem O0.J4 {w:World} {b:Nat} {cs:Array Value} {T:TypeId} (h:O0 w b cs T) {o:Nat} {l:List Value} (hl:(cs.toList.drop o).take l.length=l):∀(j:Nat) (v:Value),l[j]? =some v->w.cell? ⟨b,o+j,none⟩=some v:=by
 intro j v hj;refine h.cell ?_;rw[<- hl]at hj;rw[List.getElem?_take]at hj;split at hj
 ·rw[List.getElem?_drop]at hj;simpa using hj
 ·cases hj
section
end
end Go.Vc
namespace Go.Vc
open Go Go.RowKit
theorem T3.eo0 {w w':World} {b:Nat} {cs:Array Value} {T:TypeId} (hB:O0 w b cs T) (hg:w.grownBy w' (some b)):T3 w w' 0 [T]:=T3.put hB hg (Nat.zero_le _) (by simp)
theorem O0.other {w w':World} {b k:Nat} {cs:Array Value} {T:TypeId} (h:O0 w k cs T) (hg:w.grownBy w' (some b)) (hk:k≠b):O0 w' k cs T:=h.grown hg (by simpa using hk)
theorem gh0.ne {w w1:World} {b k:Nat} {cs H6:Array Value} {T T':TypeId} (F:gh0 w w1 b cs T) (h:O0 w k H6 T'):k≠b:=by have:=h.lt;have:=F.here;omega
end Go.Vc
namespace Go.Vc
open Go Go.RowKit
theorem o4 {P:Program} {ρ:Operand->Value} {w:World} {d:Option Nat} {ty:TypeId} {ps:String} {af:Array Edge} {g:Option (Nat×Bool)} {fn:Fn} {l:List Operand} {vs:List Value} (h:l.map ρ=vs) :
  (execOp ρ ⟨d,.makeFunc fn #[] l.toArray,ty,ps,af,g⟩).run P w= .ok (.value (.func fn #[] vs.toArray)) w:=by
 subst h;have:(execOp ρ ⟨d,.makeFunc fn #[] l.toArray,ty,ps,af,g⟩).run P w= .ok (.value (.func fn (#[].map ρ) (l.toArray.map ρ))) w:=rfl;rw[this];simp
end Go.Vc
namespace Go.Vc
open Go Go.RowKit
section
end
end Go.Vc
end
section
namespace Go.Vc
open Go Go.RowKit
section
end
section
end
section
end
section
end
end Go.Vc
namespace Go.Vc
open Go Go.RowKit
end Go.Vc
namespace Go.Vc
open Go Go.RowKit
theorem Own.G5 {w w':World} {B s n c b:Nat} {E:TypeId} {a:Option Addr} {xs:List Value} (h:Own w B E s a n c xs) (hg:w.grownBy w' (some b)) (o3:a≠none->ab a≠b):Own w' B E s a n c xs:=by
 cases a with
 |none=>exact World.ownsRow.kept h hg (.inl rfl)
 |some q=>exact h.grown hg (by have:=o3 (by simp);simpa using this)
end Go.Vc
end
section
namespace Go.Vc
open Go Go.RowKit
structure Bk (n:Nat) (ops:Array Oper):Prop where
 dst:∀(i:Nat) (o:Oper),ops[i]? =some o->I4 n o.dst=true
 back:∀(i:Nat) (o:Oper),ops[i]? =some o->∀x∈o.after,Region.binds .any x=true->x.on<i
theorem go0 {n:Nat} {ops:Array Oper} {listed:Array Bool} (h:Bk n ops) (hs:listed.size=ops.size) (hr:Region.ready .any ops listed=[]):∀i,i<ops.size->listed.getD i false=true:=by
 intro i
 induction i using Nat.strongRecOn with
 |_ i ih=>
  intro hi;cases hl:listed.getD i false with
  |true=>rfl
  |false=>
   exfalso;have hi':i<listed.size:=by omega
   have pv0:i∈Region.ready .any ops listed:=by
    refine mem_ready.2 ⟨?_,ops[i],by simp[hi],fun x hx hb=>?_⟩
    ·simp only[Array.getD_eq_getD_getElem?,hi',Array.getElem?_eq_getElem,Option.getD_some]at hl⊢;exact hl
    ·have Y1:=h.back i ops[i] (by simp[hi]) x hx hb;exact ih x.on Y1 (by omega)
   rw[hr]at pv0;cases pv0
section
end
end Go.Vc
end
section
namespace Go.Vc
open Go
section
variable {P:Program}{ρ:Operand->Value}{w:World}{d:Option Nat}{ty:TypeId}{ps:String}{af:Array Edge}{g:Option (Nat×Bool)}
theorem A9 {S:TypeId} {x:Operand} {v:Value} {td:TypeDesc} (hx:ρ x=v) (hT:P.underlying S=some td) (hn:(match td with| .interface _=>false|_=>true)=true) :
  (execOp ρ ⟨d,.makeInterface S x,ty,ps,af,g⟩).run P w= .ok (.value (.iface S v)) w:=by
 subst hx;simp only[execOp,Instr.makeInterface,Sem.run_bind,run_underlying hT,Result.andThen_ok];cases td <;> first|rfl|cases hn
end
end Go.Vc
end
section
namespace Go.Vc
open Go Go.RowKit
section
end
def Dg0 (l0:List Oper) (k:Nat) (ch:Nat->Bool) (os:List Nat) (pr:List (Nat×Nat):=[]):Bool :=
 (List.range k).all (fun i=>os.contains i)&&(os.all fun i=>Nat.blt i k) &&
 (List.range os.length).all fun b=>match os[b]? with
  |none=>false
  |some y=>(match l0[y]? with|none=>false|some o=>o.after.all fun x=>!Region.binds .any x ||(os.take b).contains x.on) &&
   (List.range b).all fun a=>match os[a]? with|none=>false|some x=>x !=y&&(!ch x ||(S7 l0 l0.length [y]).contains x ||pr.any fun p=>p.1==x&&(p.2==y ||(S7 l0 l0.length [y]).contains p.2))
structure nf0 (l0:List Oper) (k:Nat) (ch:Nat->Bool) (os:List Nat) (V:(Nat->Bool)->Prop):Prop where
 all:∀i,i<k->i∈os
 lt:∀i∈os,i<k
 ao1:∀pre y suf,os=pre++y::suf->∃o,l0[y]? =some o/\∀x∈o.after,Region.binds .any x=true->x.on∈pre
 nodup:∀pre y suf,os=pre++y::suf->y∉pre
 wait:∀pre x mid y suf,os=pre++x::mid++y::suf->ch x=true->∀D,V D->D y=true->D x=true
theorem yl0 {l0:List Oper} {k:Nat} {ch:Nat->Bool} {os:List Nat} {pr:List (Nat×Nat)} {V:(Nat->Bool)->Prop} (br0:∀D,V D->∀i o,l0[i]? =some o->D i=true->O6 o D) (hpr:∀p∈pr,∀D,V D->D p.2=true->D p.1=true) (h:Dg0 l0 k ch os pr=true):nf0 l0 k ch os V:=by
 unfold Dg0 at h;simp only[Bool.and_eq_true]at h;obtain⟨⟨h1,h2⟩,h3⟩:=h;have key:∀(b y:Nat),os[b]? =some y->(∃o,l0[y]? =some o/\∀x∈o.after,Region.binds .any x=true->x.on∈os.take b)/\∀a x,a<b->os[a]? =some x->x≠y/\(ch x=true->(S7 l0 l0.length [y]).contains x=true\/∃p∈pr,p.1=x/\(p.2=y\/(S7 l0 l0.length [y]).contains p.2=true)):=by
  intro b y hy;have h4:=List.all_eq_true.1 h3 b (List.mem_range.2 (List.getElem?_eq_some_iff.1 hy).1);rw[hy]at h4;simp only[Bool.and_eq_true]at h4;obtain⟨h5,h6⟩:=h4;constructor
  ·cases ho:l0[y]? with
   |none=>rw[ho]at h5;cases h5
   |some o=>
    rw[ho]at h5;refine⟨o,rfl,fun x hx hb=>?_⟩;simp only[Array.all_eq_true']at h5;have:=h5 x hx;rw[hb,Bool.not_true,Bool.false_or]at this;exact List.contains_iff_mem.1 this
  ·intro a x hab hx;have h7:=List.all_eq_true.1 h6 a (List.mem_range.2 hab);rw[hx]at h7;simp only[Bool.and_eq_true,bne_iff_ne,ne_eq,Bool.or_eq_true,Bool.not_eq_true']at h7;refine⟨h7.1,fun hc=>?_⟩;rcases h7.2 with(h8|h8)|h8
   ·rw[hc]at h8;cases h8
   ·exact .inl h8
   ·rw[List.any_eq_true]at h8;obtain⟨p,hp,h9⟩:=h8;simp only[Bool.and_eq_true,beq_iff_eq,Bool.or_eq_true]at h9;exact .inr ⟨p,hp,h9.1,h9.2⟩
 refine⟨fun i hi=>List.contains_iff_mem.1 (List.all_eq_true.1 h1 i (List.mem_range.2 hi)),fun i hi=>by have:=List.all_eq_true.1 h2 i hi;rwa [Nat.blt_eq]at this,?_,?_,?_⟩
 ·intro pre y suf he;have hy:os[pre.length]? =some y:=by rw[he];simp
  obtain⟨o,ho,h4⟩:=(key _ _ hy).1;exact⟨o,ho,fun x hx hb=>by have:=h4 x hx hb;rw[he]at this;simpa using this⟩
 ·intro pre y suf he hin;have hy:os[pre.length]? =some y:=by rw[he];simp
  obtain⟨a,ha⟩:=List.mem_iff_getElem?.1 hin;have hal:=(List.getElem?_eq_some_iff.1 ha).1;have hx:os[a]? =some y:=by rw[he,List.getElem?_append_left hal];exact ha
  exact((key _ _ hy).2 a y hal hx).1 rfl
 ·intro pre x mid y suf he hc;have hy:os[(pre++x::mid).length]? =some y:=by rw[he,List.getElem?_append_right (Nat.le_refl _)];simp
  have hx:os[pre.length]? =some x:=by rw[he];simp
  intro D hD hDy;have hbd:∀z,(S7 l0 l0.length [y]).contains z=true->D z=true:=fun z hz=>w7 br0 hD l0.length [y] (fun q hq=>by simp at hq;rw[hq];exact hDy) z (List.contains_iff_mem.1 hz);rcases((key _ _ hy).2 pre.length x (by simp) hx).2 hc with h9|⟨p,hp,rfl,h9⟩
  ·exact hbd x h9
  ·refine hpr p hp D hD ?_;rcases h9 with h9|h9
   ·rw[h9];exact hDy
   ·exact hbd _ h9
def ng0 (n:Nat) (ops:Array Oper) (k:Nat):Bool :=
 (List.range ops.size).all fun i=>
  match ops[i]? with
  |none=>false
  |some o=>
   I4 n o.dst&&(o.after.all fun x=>!Region.binds .any x ||Nat.blt x.on i) &&
   (Nat.ble k i ||(!(match o.op with| .select ..=>true|_=>false) &&
   (List.range k).all fun j=>
    match ops[j]? with
    |none=>true
    |some p=>
     match p.dst with
     |none=>true
     |some t=>(i==j ||o.dst !=some t)&&(!(o.looksAt ops).contains t ||o.after.any fun x=>Region.binds .any x&&x.on==j)))
structure qf0 (n:Nat) (ops:Array Oper) (k:Nat):Prop where
 dst:∀(i:Nat) (o:Oper),ops[i]? =some o->I4 n o.dst=true
 sel:∀(i:Nat) (o:Oper),i<k->ops[i]? =some o->∀cs b,o.op≠.select cs b
 back:∀(i:Nat) (o:Oper),ops[i]? =some o->∀x∈o.after,Region.binds .any x=true->x.on<i
 one:∀(i j:Nat) (o p:Oper) (t:Nat),i<k->j<k->ops[i]? =some o->ops[j]? =some p->o.dst=some t->p.dst=some t->i=j
 look:∀(i j:Nat) (o p:Oper) (t:Nat),i<k->j<k->ops[i]? =some o->ops[j]? =some p->p.dst=some t->t∈o.looksAt ops->∃x∈o.after,Region.binds .any x=true/\x.on=j
theorem qf0.bk {n:Nat} {ops:Array Oper} {k:Nat} (h:qf0 n ops k):Bk n ops:=⟨h.dst,h.back⟩
theorem is0 {n:Nat} {ops:Array Oper} {k:Nat} (h:ng0 n ops k=true):qf0 n ops k:=by
 unfold ng0 at h;have lt:∀{i:Nat} {o:Oper},ops[i]? =some o->i<ops.size:=fun h=>(Array.getElem?_eq_some_iff.1 h).1;have key:∀(i:Nat) (o:Oper),ops[i]? =some o->(I4 n o.dst=true/\(o.after.all fun x=>!Region.binds .any x ||Nat.blt x.on i)=true)/\(i<k->(!(match o.op with| .select ..=>true|_=>false))=true /\
   ∀(j:Nat) (p:Oper) (t:Nat),j<k->ops[j]? =some p->p.dst=some t->(i==j ||o.dst !=some t)=true/\(!(o.looksAt ops).contains t ||o.after.any fun x=>Region.binds .any x&&x.on==j)=true):=by
  intro i o ho;have h1:=List.all_eq_true.1 h i (List.mem_range.2 (lt ho));simp only[ho,Bool.and_eq_true]at h1;refine⟨h1.1,fun hik=>?_⟩;have h2:=h1.2;have h3:Nat.ble k i=false:=by
   cases hb:Nat.ble k i with
   |false=>rfl
   |true=>have:=Nat.le_of_ble_eq_true hb;omega
  rw[h3,Bool.false_or,Bool.and_eq_true]at h2;refine⟨h2.1,fun j p t hj hp ht=>?_⟩;have h4:=List.all_eq_true.1 h2.2 j (List.mem_range.2 hj);simp only[hp,ht,Bool.and_eq_true]at h4;exact h4
 refine⟨fun i o ho=>(key i o ho).1.1,fun i o hi ho cs b he=>?_,fun i o ho x hx hb=>?_,fun i j o p t hi hj ho hp h1 h2=>?_,fun i j o p t hi hj ho hp ht hl=>?_⟩
 ·have:=((key i o ho).2 hi).1;rw[he]at this;cases this
 ·have:=(key i o ho).1.2;rw[Array.all_eq_true']at this;have:=this x hx;simp only[hb,Bool.not_true,Bool.false_or,Nat.blt_eq]at this;exact this
 ·have:=(((key i o ho).2 hi).2 j p t hj hp h2).1;simp only[h1,bne_self_eq_false,Bool.or_false,beq_iff_eq]at this;exact this
 ·have:=(((key i o ho).2 hi).2 j p t hj hp ht).2;have hc:(o.looksAt ops).contains t=true:=by simpa using hl
  rw[hc,Bool.not_true,Bool.false_or]at this;obtain⟨x,hx,hb⟩:=Array.any_eq_true'.1 this;simp only[Bool.and_eq_true,beq_iff_eq]at hb;exact⟨x,hx,hb.1,hb.2⟩
theorem ld0 {n:Nat} {ops:Array Oper} {V:(Nat->Bool)->Prop} (h:Bk n ops):∀{listed:Array Bool} {σ:List Nat},Lin ops listed σ->∀(m:Nat),m <=ops.size->listed.size=ops.size->(∀j,j<m->listed.getD j false=true)->(∀j,m <=j->listed.getD j false=false) ->
  (∀D,V D->∀i,m <=i->i<ops.size->D i=true->∀j,j<i->D j=true)->(∀τ ρ,σ=τ++ρ->V (fun j=>listed.getD j false ||τ.contains j))->σ=List.range' m (ops.size-m):=by
 intro listed σ H5
 induction H5 with
 | @nil listed hr=>
  intro m hms hs h1 h2 _ _;have:ops.size <=m:=by
   rcases Nat.lt_or_ge m ops.size with h3|h3
   ·have:=go0 h hs hr m h3;rw[h2 m (Nat.le_refl _)]at this;cases this
   ·exact h3
  rw[show ops.size-m=0 by omega];rfl
 | @cons listed i σ hi hl ih=>
  intro m hms hs h1 h2 aw0 hV;obtain⟨hli,o,ho,ad0⟩:=mem_ready.1 hi;have hio:i<ops.size:=(Array.getElem?_eq_some_iff.1 ho).1;have x7:i<listed.size:=by omega
  have hDi:listed.getD i false=false:=by
   simp only[Array.getD_eq_getD_getElem?,x7,Array.getElem?_eq_getElem,Option.getD_some]at hli⊢;exact hli
  have hmi:m <=i:=by
   rcases Nat.lt_or_ge i m with h3|h3
   ·rw[h1 i h3]at hDi;cases hDi
   ·exact h3
  have hVi:=hV [i] σ rfl;have him:i=m:=by
   rcases Nat.lt_or_ge m i with h3|h3
   ·have:=aw0 _ hVi i hmi hio (by simp) m h3;simp only[h2 m (Nat.le_refl _),Bool.false_or]at this;simp at this;omega
   ·omega
  subst him;rw[show ops.size-i=(ops.size-(i+1))+1 by omega,List.range'_succ];congr 1;refine ih (i+1) (by omega) (by simp[hs]) (fun j hj=>?_) (fun j hj=>?_) (fun D hD j hj=>aw0 D hD j (by omega)) (fun τ ρ hσ=>?_)
  ·by_cases V2:i=j
   ·subst V2;simp[x7]
   ·rw[getD_set_ne false V2];exact h1 j (by omega)
  ·rw[getD_set_ne false (by omega)];exact h2 j (by omega)
  ·have:=hV (i::τ) ρ (by rw[hσ];rfl);have e1:(fun j=>listed.getD j false ||(i::τ).contains j)=fun j=>(listed.setIfInBounds i true).getD j false ||τ.contains j:=by
    funext j;by_cases hj:i=j
    ·subst hj;simp[x7]
    ·rw[getD_set_ne false hj];simp[Ne.symm hj]
   rw[e1]at this;exact this
section
end
theorem Rep.ext {n:Nat} {a:Act} {e e':Env} (h:Rep n a e) (h':Rep n a e'):e=e':=funext fun t=>(h.get t).symm.trans (h'.get t)
theorem cw0 {l:List Oper} {σ:List Nat} (H5:Lin l.toArray (Array.replicate l.toArray.size false) σ):∀D,Pre σ D->∀i o,l[i]? =some o->D i=true->O6 o D:=by
 have dy0:=dv0 H5 (fun i o _ hi=>by rw[K0]at hi;cases hi) (by simp);rintro D ⟨τ,ρ,hσ,hD⟩ i o hi hDi x hx hb;have:=dy0 τ ρ hσ i o (by simpa using hi) (.inr ((hD i).1 hDi)) x hx hb;rcases this with h1|h1
 ·rw[K0]at h1;cases h1
 ·exact(hD _).2 h1
section
variable {w:World}{B E:Nat}{s:Nat}{a:Option Addr}{n c:Nat}{xs:List Value}
theorem Own.down {B':Nat} (h:Own w B' E s a n c xs) (hB:B <=B'):Own w B E s a n c xs:=by
 refine⟨h.1,?_⟩;rcases h.2 with h2|⟨g,cap,cur,hv,hb,hg⟩
 ·exact .inl h2
 ·exact .inr ⟨g,cap,cur,hv,Nat.le_trans hB hb,hg⟩
end
section
variable {P:Program}{ρ:Operand->Value}{w:World}{d:Option Nat}{ty:TypeId}{ps:String}{af:Array Edge}{g:Option (Nat×Bool)}{x y:Operand}{T T' E:TypeId}
theorem Az0 {a:Option Addr} {n c:Nat} {m:Int} {aT:Array TypeId} (hm:((n:Nat):Int)=m) (hx:ρ x= .slice a n c) (hT:P.underlying T=some (.slice E)) (hA:aT[0]? =some T):(execOp ρ ⟨d,.call ⟨.builtin .len,#[x],aT⟩,ty,ps,af,g⟩).run P w= .ok (.value (.int .i64 m)) w:=by
 rw[<- hm];exact S6 hx hT hA
theorem wc0 {m k r:Int} (hr:m+k=r) (h:-9223372036854775808 <=r/\r <=9223372036854775807) (hx:ρ x= .int .i64 m) (hy:ρ y= .int .i64 k):(execOp ρ ⟨d,.binOp .add T x y T',ty,ps,af,g⟩).run P w= .ok (.value (.int .i64 r)) w:=by
 subst hr;exact ey0 hx hy h
end
def noG (Q:Exit->Env->World->Prop):Exit->Env->World->Prop
 | .goto _,_,_=>False
 |x,e,w=>Q x e w
section
variable {Q:Exit->Env->World->Prop}{e:Env}{w:World}
theorem N.nrm (h:Q .normal e w):noG Q .normal e w:=h
theorem N.ret (h:Q .ret e w):noG Q .ret e w:=h
end
end Go.Vc
end
section
namespace Go.Yc
open Go
section
theorem cx0 {α:Type} {P:Program} (s:Unsupported):dead P (unsupported s:Sem α):=fun v h=>by cases h
theorem wd0 {P:Program} {α:Type} (a:Addr) (n:Nat) {f:Bool->Sem α} (hf:∀b,dead P (f b)):dead P (Builtin.holdsCells a n >>=f):=by
 show dead P (Sem.bind (Sem.bind (Sem.shape a.block .pure) _) f);intro s;cases s with
 |none=>exact hf _
 |some p=>obtain⟨t,n⟩:=p;exact hf _
theorem bind_assoc' {α β γ:Type} (s:Sem α) (f:α->Sem β) (g:β->Sem γ):(s >>=f) >>=g=s >>=fun a=>f a >>=g:=by
 show(s.bind f).bind g=s.bind fun a=>(f a).bind g
 induction s with
 |pure a=>rfl
 |halt h=>rfl
 |load m a k ih=>exact congrArg (Sem.load m a) (funext fun v=>ih v)
 |store m a v k ih=>exact congrArg (Sem.store m a v) ih
 |new o k ih=>exact congrArg (Sem.new o) (funext fun v=>ih v)
 |shape r k ih=>exact congrArg (Sem.shape r) (funext fun v=>ih v)
 |freeze a n k ih=>exact congrArg (Sem.freeze a n) ih
 |frozen a k ih=>exact congrArg (Sem.frozen a) (funext fun v=>ih v)
 |getObj r k ih=>exact congrArg (Sem.getObj r) (funext fun v=>ih v)
 |setObj r o k ih=>exact congrArg (Sem.setObj r o) ih
 |choose q k ih=>exact congrArg (Sem.choose q) (funext fun v=>ih v)
 |sys c k ih=>exact congrArg (Sem.sys c) (funext fun v=>ih v)
 |program k ih=>exact congrArg Sem.program (funext fun v=>ih v)
 |mark m k ih=>exact congrArg (Sem.mark m) ih
theorem ym0 {P:Program} {α:Type} (a:Addr) {f:Bool->Sem α} (hf:∀b,dead P (f b)):dead P (frozen a >>=f):=fun b=>hf b
theorem Vb0 {P:Program} {α:Type} (size Ba0 n:Nat) (base:Option Addr) (x:Value) {f:Bool->Sem α} (hf:∀b,dead P (f b)):dead P (Builtin.mayShare size Ba0 n base x >>=f):=by
 have h2:∀y:Value,dead P ((match y with| .slice (some b) _ _=>(do pure (!(<- Builtin.holdsCells b (n*size)) ||base.any (·.block==b.block)):Sem Bool)|_=>pure false) >>=f):=by
  intro y;split
  ·rw[bind_assoc'];exact wd0 _ _ fun b=>hf _
  ·exact hf _
 unfold Builtin.mayShare;cases base with
 |none=>exact h2 x
 |some a=>
  simp only[bind_assoc'];refine wd0 _ _ fun b=>?_;refine ym0 _ fun c=>?_;cases b <;> cases c <;> first|exact hf _|exact h2 x
theorem yn0 {P:Program} {α:Type} (size Ba0 n:Nat) (base:Option Addr) (x:Value) {f:Bool->Sem α} (hf:∀b,dead P (f b)) (hg:∀b,D1 P (f b)):D1 P (Builtin.mayShare size Ba0 n base x >>=f):=by
 have h2:∀y:Value,D1 P ((match y with| .slice (some b) _ _=>(do pure (!(<- Builtin.holdsCells b (n*size)) ||base.any (·.block==b.block)):Sem Bool)|_=>pure false) >>=f):=by
  intro y;split
  ·rw[bind_assoc'];intro s;cases s with
   |none=>exact hf _
   |some p=>obtain⟨t,n⟩:=p;exact hf _
  ·exact hg _
 have h3:∀y:Value,dead P ((match y with| .slice (some b) _ _=>(do pure (!(<- Builtin.holdsCells b (n*size)) ||base.any (·.block==b.block)):Sem Bool)|_=>pure false) >>=f):=by
  intro y;split
  ·rw[bind_assoc'];exact wd0 _ _ fun b=>hf _
  ·exact hf _
 unfold Builtin.mayShare;cases base with
 |none=>exact h2 x
 |some a=>
  simp only[bind_assoc'];intro s;cases s with
  |none=>
   intro d;cases d <;> exact hf true
  |some p=>
   obtain⟨t,m⟩:=p;intro d;show dead P ((if(!((a.spot.isNone&&decide (a.off+Ba0*size <=m)) && !d))=true then(pure true:Sem Bool) else _) >>=f);cases(a.spot.isNone&&decide (a.off+Ba0*size <=m)) <;> cases d <;> first|exact hf _|exact h3 x
theorem Or0 {P:Program} {α:Type} (size Ba0 n:Nat) (base:Option Addr) (x:Value) (u:Unsupported):D1 P (Builtin.mayShare size Ba0 n base x >>=fun b=>(if(!b)=true then(mark .noRoom >>=fun _=>(unsupported u:Sem α)) else(unsupported u:Sem α))):=by
 refine yn0 _ _ _ _ _ (fun b=>?_) (fun b=>?_)
 ·cases b
  ·exact cx0 (P:=P) (α:=α) u
  ·exact cx0 (P:=P) (α:=α) u
 ·cases b
  ·show(if Am0 Mark.noRoom=true then D1 P ((Sem.pure ()).bind fun _=>(unsupported u:Sem α)) else _);exact trivial
  ·exact trivial
theorem fb0 {P:Program} {α:Type} {c:Prop} [Decidable c] {a b:Sem α} (ha:D1 P a) (hb:D1 P b):D1 P (if c then a else b):=by split <;> assumption
attribute [local irreducible] D1 dead
set_option maxHeartbeats 2000000 in
theorem Hx0 {P:Program} (a:Array TypeId) (t:TypeId) (x:Array Value):D1 P (Builtin.append_ a t x):=by
 unfold Builtin.append_
 repeat' (first|exact I1 _|exact A4 _|exact Or0 _ _ _ _ _ _|exact ih0 _ _ _|exact Db0 _|exact ac0 _ _ _|exact if0 _ _|exact x9 _|exact at0 _|exact Z2 _|exact vu0 _|exact D5 _|exact sr0 _|exact ie0 _|exact m6 _|(refine G1 ?_ (fun _=>?_))|(refine fb0 ?_ ?_)|split)
end
end Go.Yc
end
section
namespace Go.Yc
open Go Go.Vc
section
def ap1 (o:Oper):Bool:=match o.op with
 | .move _| .assign _| .pick .. | .alloc _| .box .. | .build .. | .buildSlice .. | .load .. | .store .. | .indexAddr .. | .extract .. | .field .. | .makeInterface .. | .makeFunc .. | .makeChan .. | .makeSlice .. | .slice .. | .unOp ..=>true
 | .call c=>match c.callee with
  | .builtin b=>(match b with| .len| .cap| .append| .copy=>true|_=>false)
  |_=>false
 |_=>false
attribute [local irreducible] D1 dead
theorem t_v {P:Program} {s:Sem Value} (h:D1 P s):D1 P (do pure (.value (<- s)):Sem Next):=G1 h fun _=>I1 _
theorem t_u {P:Program} {s:Sem Unit} (h:D1 P s):D1 P (do s;pure .skip:Sem Next):=G1 h fun _=>I1 _
theorem K2 {P:Program} {o:Oper} (h:ap1 o=true) (ρ:Operand->Value):D1 P (execOp ρ o):=by
 unfold ap1 at h;unfold execOp;cases ho:o.op <;> rw[ho]at h <;> try(cases h;done)
 case move x=>exact I1 _
 case assign x=>exact I1 _
 case pick c a b=>exact G1 (Hr0 _) fun _=>I1 _
 case alloc e=>exact t_v (Of0 _ _ _)
 case box e x=>exact t_v (ak1 _ _)
 case build t p=>exact t_v (Og0 _ _)
 case buildSlice t n p=>exact t_v (vv0 _ _ _)
 case load t a=>exact t_v (Hs0 _ _)
 case store t a x=>exact t_u (Et0 _ _ _)
 case indexAddr t x i=>exact t_v (Eu0 _ _ _)
 case extract x i=>exact t_v (Ew0 _ _)
 case field t x f=>exact t_v (Oh0 _ _ _)
 case makeInterface t x=>exact t_v (lt0 _ _)
 case makeFunc f a b=>exact t_v (I1 _)
 case makeChan t x=>exact t_v (As0 _ _)
 case makeSlice t a b=>exact t_v (yd0 _ _ _)
 case slice t x a b c=>exact t_v (Ex0 _ _ _ _ _)
 case unOp op t x=>exact t_v (Oj0 _ _)
 case call c=>
  obtain⟨callee,args,aT⟩:=c;simp only at h;cases callee with
  |builtin b=>
   simp only at h;cases b <;> try(cases h;done)
   ·exact t_v (Hx0 _ _ _)
   ·exact t_v (am1 _ _ _)
   ·exact t_v (Uz0 _ _ _)
   ·exact t_v (al1 _ _ _)
  |_=>cases h
end
section
theorem it0 {P:Program} {α:Type} {f:Program->Sem α} (h:D1 P (f P)):D1 P (program >>=f):=h
theorem Hy0 {P:Program} {α:Type} {f:TypeDesc->Sem α} {t:TypeId} {u:TypeDesc} (hT:P.underlying t=some u) (h:D1 P (f u)):D1 P (underlying t >>=f):=by
 show D1 P (((match P.underlying t with|some d=>pure d|none=>stuck "no such type":Sem TypeDesc)).bind f);rw[hT];exact h
theorem Hz0 {P:Program} {α:Type} {f:TypeInfo->Sem α} {t:TypeId} {i:TypeInfo} (hT:P.info? t=some i) (h:D1 P (f i)):D1 P (typeInfo t >>=f):=by
 show D1 P (((match P.info? t with|some d=>pure d|none=>stuck "no such type":Sem TypeInfo)).bind f);rw[hT];exact h
theorem Ia0 {P:Program} {α:Type} {f:Nat->Sem α} {t:TypeId} {s:Nat} (hT:(P.info? t).map (·.size)=some s) (h:D1 P (f s)):D1 P (sizeOf t >>=f):=by
 cases hi:P.info? t with
 |none=>rw[hi]at hT;cases hT
 |some i=>
  rw[hi]at hT;obtain rfl:=Option.some.inj hT;unfold sizeOf;rw[bind_assoc'];exact Hz0 hi h
attribute [local irreducible] D1 dead
section
variable {P:Program}{ρ:Operand->Value}{d:Option Nat}{ty:TypeId}{ps:String}{af:Array Edge}{g:Option (Nat×Bool)}{x y:Operand}{T T':TypeId}{op:BinOp}
theorem dz0 {a b:Value} (hx:ρ x=a) (hy:ρ y=b) (h1:D1 P (eqGuard op T x y a b)) (h2:D1 P (binOp op T a b)):D1 P (execOp ρ ⟨d,.binOp op T x y T',ty,ps,af,g⟩):=by
 show D1 P (do pure (.value (<- (do eqGuard op T x y (ρ x) (ρ y);binOp op T (ρ x) (ρ y)))):Sem Next);rw[hx,hy];exact t_v (G1 h1 fun _=>h2)
theorem fv0 {a b:Value} (hb:∀c,b≠.agg c) (hn:b≠.nilIface):D1 P (eqGuard op T x y a b):=by
 unfold eqGuard;refine fb0 (I1 _) ?_;split
 ·exact absurd rfl hn
 ·exact absurd rfl (hb _)
 ·exact I1 _
theorem Ib0 {κ κ':IntKind} {m k:Int}:D1 P (binOp op T (.int κ m) (.int κ' k)):=by
 cases op <;> simp only[binOp,Op.shift,Op.intArith,Op.intDiv,Op.intBits,Op.intCmp] <;> (repeat' (first|exact I1 _|exact D5 _|exact mc0 _|exact H7 _|(refine fb0 ?_ ?_)|split))
theorem o6 {κ κ':IntKind} {m k:Int} (hx:ρ x= .int κ m) (hy:ρ y= .int κ' k):D1 P (execOp ρ ⟨d,.binOp op T x y T',ty,ps,af,g⟩):=dz0 hx hy (fv0 (fun _ h=>by cases h) (fun h=>by cases h)) Ib0
def X7:Value->Bool
 | .pointer (some _)| .agg _| .iface ..=>false
 |_=>true
theorem am0 {n:Nat} {a b:Value} (hb:X7 b=true):D1 P (Op.equalIn (n+1) T a b):=by
 unfold Op.equalIn;refine G1 (Z2 _) fun u=>?_;split <;> first
  |exact I1 _|exact mc0 _|exact H7 _
  |(exact fb0 (I1 _) (mc0 _))
  |(cases hb;done)
  |(unfold samePointer;split <;> first|(cases hb;done)|exact I1 _)
  |skip
theorem Ic0 {a b:Value} (h:D1 P (Op.equal T a b)) (h1:binOp .eql T a b=(do pure (.bool (<- Op.equal T a b)):Sem Value)):D1 P (binOp .eql T a b):=by rw[h1];exact G1 h fun _=>I1 _
theorem mf0 {a b:Value} (h:D1 P (Op.equal T a b)) (h1:binOp .neq T a b=(do pure (.bool (!(<- Op.equal T a b))):Sem Value)):D1 P (binOp .neq T a b):=by rw[h1];exact G1 h fun _=>I1 _
theorem Bb0 {q:Option Addr} (hx:ρ x= .pointer q) (hy:ρ y= .pointer none):D1 P (execOp ρ ⟨d,.binOp .eql T x y T',ty,ps,af,g⟩):=dz0 hx hy (fv0 (fun _ h=>by cases h) (fun h=>by cases h)) (Ic0 (am0 rfl) rfl)
theorem yo0 {q:Option Addr} (hx:ρ x= .pointer q) (hy:ρ y= .pointer none):D1 P (execOp ρ ⟨d,.binOp .neq T x y T',ty,ps,af,g⟩):=dz0 hx hy (fv0 (fun _ h=>by cases h) (fun h=>by cases h)) (mf0 (am0 rfl) rfl)
theorem Ez0 {v:Value} (hv:v= .nilFunc\/∃f xs ys,v= .func f xs ys) (hx:ρ x=v) (hy:ρ y= .nilFunc):D1 P (execOp ρ ⟨d,.binOp .eql T x y T',ty,ps,af,g⟩) :=
 dz0 hx hy (fv0 (fun _ h=>by cases h) (fun h=>by cases h)) (Ic0 (am0 rfl) (by rcases hv with rfl|⟨f,xs,ys,rfl⟩ <;> rfl))
theorem Bc0 {v:Value} (hv:v= .nilFunc\/∃f xs ys,v= .func f xs ys) (hx:ρ x=v) (hy:ρ y= .nilFunc):D1 P (execOp ρ ⟨d,.binOp .neq T x y T',ty,ps,af,g⟩) :=
 dz0 hx hy (fv0 (fun _ h=>by cases h) (fun h=>by cases h)) (mf0 (am0 rfl) (by rcases hv with rfl|⟨f,xs,ys,rfl⟩ <;> rfl))
theorem Bd0 {p:Option Addr} (hx:ρ x= .pointer p):D1 P (execOp ρ ⟨d,.nilCheck x,ty,ps,af,g⟩):=by
 unfold execOp;simp only[hx];cases p <;> first|exact D5 _|exact I1 _
theorem yp0 {S:TypeId} {a:Option Addr} {f:Nat} {fs:Array Field} {fl:Field} {s:Nat} (hx:ρ x= .pointer a) (hT:P.underlying S=some (.struct fs)) (hf:fs[f]? =some fl) (hs:(P.info? fl.type).map (·.size)=some s) (h0:s≠0):D1 P (execOp ρ ⟨d,.fieldAddr S x f,ty,ps,af,g⟩):=by
 unfold execOp;simp only[hx];refine t_v ?_;unfold Instr.fieldAt;refine Hy0 hT ?_;simp only[hf];refine G1 (au0 _) fun a=>?_;unfold fieldPlace;rw[bind_assoc'];refine Ia0 hs ?_;rw[if_neg h0];exact I1 _
theorem bs0 {f:FuncId} {first cap:Array Value} {fn:Func} {xs:Array Operand} {aT:Array TypeId} (hx:ρ x= .func (.func f) first cap) (hf:P.funcs[f]? =some fn) (hb:fn.body.isSome=true) (hn:(fn.name== "runtime.NumGoroutine")=false):D1 P (execOp ρ ⟨d,.call ⟨.value x,xs,aT⟩,ty,ps,af,g⟩):=by
 show D1 P (do let d <- Deferred.ofValue (ρ x) (xs.map ρ);invoke d.target d.args);rw[hx];show D1 P (callFunc f (first++xs.map ρ++cap));unfold callFunc;refine it0 ?_;rw[hf];simp only[hn,Bool.false_eq_true,if_false];have:fn.body.isNone=false:=by cases h:fn.body <;> simp_all
 simp only[this,Bool.false_eq_true,if_false];exact I1 _
end
end
section
attribute [local irreducible] D1 dead
theorem nh0 {P:Program} {α β:Type} {f:α->β->Sem (ForInStep β)} (h:∀a b,D1 P (f a b)):∀(l:List α) (b:β),D1 P (forIn l b f)
 | [],b=>by rw[List.forIn_nil];exact I1 _
 |a::l,b=>by
  rw[List.forIn_cons];refine G1 (h a b) fun r=>?_;cases r with
  |done b=>exact I1 _
  |yield b=>exact nh0 h l b
theorem Id0 {P:Program} {α β:Type} {f:α->β->Sem (ForInStep β)} (h:∀a b,D1 P (f a b)) (l:Array α) (b:β):D1 P (forIn l b f):=by
 rw[<- Array.forIn_toList];exact nh0 h _ _
theorem Ie0 {P:Program} {β:Type} {f:Nat->β->Sem (ForInStep β)} (h:∀a b,D1 P (f a b)) (r:Std.Legacy.Range) (b:β):D1 P (forIn r b f):=by
 rw[Std.Legacy.Range.forIn_eq_forIn_range'];exact nh0 h _ _
theorem Dh0 {P:Program} {α:Type} {t:TypeId} {cs:Array Value} {off:Nat} {f:Value->Sem α} (h1:∀s,D1 P (f (.agg (cs.extract off (off+s))))) (h2:∀v,v∈cs->D1 P (f v)):D1 P (part t cs off >>=f):=by
 unfold part;rw[bind_assoc'];refine G1 (vt0 _) fun b=>?_;cases b with
 |true=>
  simp only[if_true];rw[bind_assoc'];exact G1 (m6 _) fun s=>h1 s
 |false=>
  simp only[Bool.false_eq_true,if_false];cases hc:cs[off]? with
  |none=>exact(A4 _:D1 P (Sem.halt (Halt.stuck "part: no such cell"):Sem α))
  |some v=>exact h2 v (Array.mem_of_getElem? hc)
def Su0 (v:Value):Prop:=X7 v=true\/∃cs:Array Value,v= .agg cs/\∀c∈cs,X7 c=true
theorem ni0 {cs:Array Value} (h:∀c∈cs,X7 c=true) (a b:Nat):Su0 (.agg (cs.extract a b)):=.inr ⟨_,rfl,fun c hc=>h c (by
 obtain⟨i,hi,rfl⟩:=Array.mem_iff_getElem.1 hc;simp)⟩
theorem B9 {P:Program}:∀(n:Nat) (T:TypeId) (a b:Value),Su0 b->D1 P (Op.equalIn n T a b)
 |0,_,_,_,_=>by unfold Op.equalIn;exact H7 _
 |n+1,T,a,b,hb=>by
  rcases hb with hb|⟨cs,rfl,hcs⟩
  ·exact am0 hb
  ·unfold Op.equalIn;refine G1 (Z2 _) fun u=>?_;split <;> first
    |exact I1 _|exact mc0 _|exact H7 _
    |(rename_i he;cases he;done)
    |skip
   ·rename_i he;obtain rfl:=Value.agg.inj he;refine G1 fs0 fun p=>fb0 (H7 _) (G1 (Id0 (fun f r=>?_) _ _) fun r=>?_)
    ·refine fb0 ?_ (I1 _);refine G1 (Ar0 _ _ _) fun x=>Dh0 (fun s=>?_) (fun v hv=>?_)
     ·exact G1 (B9 n _ _ _ (ni0 hcs _ _)) fun b=>fb0 (I1 _) (I1 _)
     ·exact G1 (B9 n _ _ _ (.inl (hcs v hv))) fun b=>fb0 (I1 _) (I1 _)
    ·obtain⟨_|r,z⟩:=r <;> exact I1 _
   ·rename_i he;obtain rfl:=Value.agg.inj he;refine G1 (m6 _) fun k=>G1 (Ie0 (fun f r=>?_) _ _) fun r=>?_
    ·refine G1 (Ar0 _ _ _) fun x=>Dh0 (fun s=>?_) (fun v hv=>?_)
     ·exact G1 (B9 n _ _ _ (ni0 hcs _ _)) fun b=>fb0 (I1 _) (I1 _)
     ·exact G1 (B9 n _ _ _ (.inl (hcs v hv))) fun b=>fb0 (I1 _) (I1 _)
    ·obtain⟨_|r,z⟩:=r <;> exact I1 _
section
variable {P:Program}{ρ:Operand->Value}{d:Option Nat}{ty:TypeId}{ps:String}{af:Array Edge}{g:Option (Nat×Bool)}{x y:Operand}{T T':TypeId}{op:BinOp}
theorem Be0 {a b:Array Value} (hg:P.eqGuardType P.depth T=false):D1 P (eqGuard op T x y (.agg a) (.agg b)):=by
 unfold eqGuard;refine fb0 (I1 _) ?_;simp only;refine it0 ?_;refine it0 ?_;rw[hg];exact I1 _
theorem If0 {a b:Array Value} (hg:P.eqGuardType P.depth T=false) (hb:∀c∈b,X7 c=true) (hx:ρ x= .agg a) (hy:ρ y= .agg b):D1 P (execOp ρ ⟨d,.binOp .neq T x y T',ty,ps,af,g⟩):=dz0 hx hy (Be0 hg) (mf0 (B9 _ _ _ _ (.inr ⟨_,rfl,hb⟩)) rfl)
end
end
end Go.Yc
end
section
namespace Go.Vy
open Go Go.Conc Go.Yc
open Go.Vc (Env upd j3 ev upd_same upd_ne V0 Rep I4 lift W9 av0 Ol0 W2 lb0 p5 Ret hav S0)
def W (P:Program) [Ctx P] (n:Nat) (c:Code) (Q:Exit->Env->World->Prop) (e:Env) (w:World):Prop :=
 ∀a,Rep n a e->cwp P c (lift n Q) a w
section
variable {P:Program}[Ctx P]{n:Nat}{Q Q':Exit->Env->World->Prop}{e:Env}{w:World}
theorem W.mono {c:Code} (hq:∀x e w,Q x e w->Q' x e w) (h:W P n c Q e w):W P n c Q' e w :=
 fun a ha=>wp_mono (h a ha) fun x _ _ ⟨e',r,q⟩=>⟨e',r,hq x _ _ q⟩
theorem W.seq {x y:Code} (h:W P n x (W9 (W P n y Q) Q) e w):W P n (.seq x y) Q e w:=by
 intro a ha;refine wp_seq (wp_mono (h a ha) ?_);rintro ex a' w' ⟨e',r,q⟩;cases ex with
 |normal=>exact q a' r
 |exit id=>exact⟨e',r,q⟩
 |goto l=>exact⟨e',r,q⟩
 |ret=>exact⟨e',r,q⟩
 |panic ch=>exact⟨e',r,q⟩
 |outgrown=>exact⟨e',r,q⟩
theorem W.skip (h:Q .normal e w):W P n .skip Q e w:=fun _ ha=>wp_skip ⟨e,ha,h⟩
theorem W.exit {id:Nat} (h:Q (.exit id) e w):W P n (.exit id) Q e w:=fun _ ha=>wp_exit ⟨e,ha,h⟩
theorem W.ret (h:Q .ret e w):W P n .ret Q e w:=fun _ ha=>wp_ret ⟨e,ha,h⟩
theorem W.cond {c:Operand} {x y:Code} {b:Bool} (hc:ev e c= .bool b) (ht:b=true->W P n x Q e w) (hf:b=false->W P n y Q e w) :
  W P n (.cond c x y) Q e w:=by
 intro a ha;have p7:a.eval c= .bool b:=by rw[ha.eval];exact hc
 cases b
 ·exact wp_cond_false p7 (hf rfl a ha)
 ·exact wp_cond_true p7 (ht rfl a ha)
theorem W.Q8 {c:Operand} {x y:Code} {p:Prop} [Decidable p] (hc:ev e c= .bool (decide p)) (ht:p->W P n x Q e w) (hf:¬p->W P n y Q e w) :
  W P n (.cond c x y) Q e w :=
 W.cond hc (fun h=>ht (of_decide_eq_true h)) (fun h=>hf (of_decide_eq_false h))
theorem W.Q4 {c:Operand} {x y:Code} (hc:ev e c= .bool true) (ht:W P n x Q e w):W P n (.cond c x y) Q e w :=
 W.cond hc (fun _=>ht) (fun h=>by cases h)
theorem W.r6 {c:Operand} {x y:Code} (hc:ev e c= .bool false) (hf:W P n y Q e w):W P n (.cond c x y) Q e w :=
 W.cond hc (fun h=>by cases h) (fun _=>hf)
theorem W.block {id:Nat} {c:Code} (h:W P n c (av0 id Q) e w):W P n (.block id c) Q e w:=by
 intro a ha;refine wp_block (wp_mono (h a ha) ?_);rintro ex a' w' ⟨e',r,q⟩;cases ex with
 |normal=>exact⟨e',r,q⟩
 |exit id'=>
  simp only[av0]at q;simp only[Exit.inBlock];split
  ·rename_i h;rw[if_pos h]at q;exact⟨e',r,q⟩
  ·rename_i h;rw[if_neg h]at q;exact⟨e',r,q⟩
 |goto l=>exact⟨e',r,q⟩
 |ret=>exact⟨e',r,q⟩
 |panic ch=>exact⟨e',r,q⟩
 |outgrown=>exact⟨e',r,q⟩
theorem W.loop {c:Code} (I:Nat->Env->World->Prop) (k₀:Nat) (h₀:I k₀ e w)
  (round:∀k e w,I k e w->W P n c (W9 (fun e' w'=>∃k',k'<k/\I k' e' w') Q) e w):W P n (.loop c) Q e w:=by
 intro a ha;refine wp_loop_ghost (fun k a w=>∃e,Rep n a e/\I k e w) k₀ ⟨e,ha,h₀⟩ ?_;rintro k a w ⟨e,ha,hI⟩;refine wp_mono (round k e w hI a ha) ?_;rintro ex a' w' ⟨e',r,q⟩;cases ex with
 |normal=>obtain⟨k',hk,hI'⟩:=q;exact⟨k',hk,e',r,hI'⟩
 |exit id=>exact⟨e',r,q⟩
 |goto l=>exact⟨e',r,q⟩
 |ret=>exact⟨e',r,q⟩
 |panic ch=>exact⟨e',r,q⟩
 |outgrown=>exact⟨e',r,q⟩
def L (P:Program) [Ctx P] (n:Nat) (ops:Array Oper) (Q:Exit->Env->World->Prop) (l:List Oper) (e:Env) (w:World):Prop :=
 (∀o∈l,I4 n o.dst=true)->∀a,Rep n a e->wpList P ops (lift n Q) l a w
theorem W.region {id:Nat} {l:List Oper} (hB:Ol0 n l=true) (h:L P n l.toArray Q l e w):W P n (.region id l.toArray false) Q e w :=
 fun a ha=>wp_region_lit (h (fun o ho=>List.all_eq_true.1 hB o ho) a ha)
variable {ops:Array Oper}{o:Oper}{rest:List Oper}{w':World}{v:Value}
theorem L.nil (h:Q .normal e w):L P n ops Q [] e w:=fun _ _ ha=>(⟨e,ha,h⟩:lift n Q .normal _ _)
def aq1 (P:Program) [Ctx P] (n:Nat) (ops:Array Oper) (Q:Exit->Env->World->Prop) (rest:List Oper) (o:Oper) (e:Env) (r:Out) (w':World):Prop:=match r with
 | .val v=>L P n ops Q rest (j3 e o.dst v) w'
 | .skip=>L P n ops Q rest (j3 e o.dst undef) w'
 | .enter f args=>Calls P f args w' fun
  | .returned v,w''=>L P n ops Q rest (j3 e o.dst v) w''
  | .panicked chain,w''=>Q (.panic chain) e w''
  | .outgrown,_=>False
 | .panic v=>Q (.panic [{v,recovered:=false}]) e w'
theorem L.op' {K:Out->World->Prop} (hw:Region.wanted o (W2 ops e)=true) (hr:∀τ d,∃r w',yb0 P (execOp (ev e) o) (N2 w τ d) r w'/\K r (N2 w' w.tape w.drawn)) (k:∀r w',K r w'->aq1 P n ops Q rest o e r w'):L P n ops Q (o::rest) e w:=by
 intro hd a ha;have g6:∀o∈rest,I4 n o.dst=true:=fun o' ho'=>hd o' (List.mem_cons_of_mem _ ho');have hdo:=hd o List.mem_cons_self;unfold wpList;rw[p5 ha,if_pos hw];intro τ d;rw[ha.eval];obtain⟨r,w',h1,h2⟩:=hr τ d;refine⟨r,w',h1,?_⟩;have:=k r _ h2;cases r with
 |val v=>exact this g6 _ (ha.put hdo v)
 |skip=>exact this g6 _ (ha.put hdo undef)
 |enter f args=>
  refine Calls.mono this fun x w'' hx=>?_;cases x with
  |returned v=>exact hx g6 _ (ha.put hdo v)
  |panicked ch=>exact⟨e,ha,hx⟩
  |outgrown=>exact hx
 |panic v=>exact⟨e,ha,this⟩
theorem L.Ig0 {r:Out} (hw:Region.wanted o (W2 ops e)=true) (hr:Does P (execOp (ev e) o) w r w') (k:aq1 P n ops Q rest o e r w'):L P n ops Q (o::rest) e w:=by
 refine L.op' (K:=fun r' w1=>r'=r/\w1=w') hw (fun τ d=>⟨r,N2 w' τ d,hr.go τ d,rfl,?_⟩) ?_
 ·rw[<- hr.tape,<- hr.drawn];rfl
 ·rintro r' w1 ⟨rfl,rfl⟩;exact k
theorem L.ia1 (hw:Region.wanted o (W2 ops e)=true) (hr:Does P (execOp (ev e) o) w (.val v) w') (k:L P n ops Q rest (j3 e o.dst v) w'):L P n ops Q (o::rest) e w:=L.Ig0 hw hr k
theorem L.ar1 (hw:Region.wanted o (W2 ops e)=true) (hr:Does P (execOp (ev e) o) w .skip w') (k:L P n ops Q rest (j3 e o.dst undef) w'):L P n ops Q (o::rest) e w:=L.Ig0 hw hr k
theorem L.Vc0 (hw:Region.wanted o (W2 ops e)=true) (hr:Does P (execOp (ev e) o) w (.panic v) w') (k:Q (.panic [{v,recovered:=false}]) e w'):L P n ops Q (o::rest) e w:=L.Ig0 hw hr k
theorem L.off (hw:Region.wanted o (W2 ops e)=false) (k:L P n ops Q rest (j3 e o.dst undef) w):L P n ops Q (o::rest) e w:=by
 intro hd a ha;unfold wpList;rw[p5 ha,hw];exact k (fun o' ho'=>hd o' (List.mem_cons_of_mem _ ho')) _ (ha.put (hd o List.mem_cons_self) undef)
def C (P:Program) [Ctx P] (f:FuncId) (args:Array Value) (w:World) (R:Value->World->Prop):Prop:=Calls P f args w (Ret R)
theorem C.mono {f:FuncId} {args:Array Value} {R R':Value->World->Prop} (h:C P f args w R) (hr:∀v w,R v w->R' v w):C P f args w R' :=
 Calls.mono h fun e w' he=>by cases e <;> first|exact hr _ _ he|exact he
theorem L.as1 {f:FuncId} {args:Array Value} {R:Value->World->Prop} (hw:Region.wanted o (W2 ops e)=true) (hr:Does P (execOp (ev e) o) w (.enter f args) w')
  (hc:C P f args w' R) (k:∀v w',R v w'->L P n ops Q rest (j3 e o.dst v) w'):L P n ops Q (o::rest) e w :=
 L.Ig0 hw hr (Calls.mono hc fun x w' hx=>by cases x <;> first|exact k _ _ hx|exact hx.elim)
theorem L.B4 {f:FuncId} {args:Array Value} {R:Ending->World->Prop} (hw:Region.wanted o (W2 ops e)=true) (hr:Does P (execOp (ev e) o) w (.enter f args) w')
  (hc:Calls P f args w' R) (k:∀v w',R (.returned v) w'->L P n ops Q rest (j3 e o.dst v) w') (kp:∀ch w',R (.panicked ch) w'->Q (.panic ch) e w') (ko:∀w',¬R .outgrown w'):L P n ops Q (o::rest) e w :=
 L.Ig0 hw hr (Calls.mono hc fun x w' hx=>by cases x <;> first|exact k _ _ hx|exact kp _ _ hx|exact ko _ hx)
end
section
variable {P:Program}[Ctx P]{n:Nat}{Q:Exit->Env->World->Prop}{e:Env}{w w':World}{ops:Array Oper}{rest:List Oper}{v:Value}
variable {d:Nat}{op:Op}{ty:TypeId}{ps:String}{af:Array Edge}
theorem L.va (hr:Does P (execOp (ev e) ⟨some d,op,ty,ps,af,none⟩) w (.val v) w') (k:L P n ops Q rest (upd e d v) w'):L P n ops Q (⟨some d,op,ty,ps,af,none⟩::rest) e w :=
 L.ia1 rfl hr k
theorem L.st (hr:Does P (execOp (ev e) ⟨none,op,ty,ps,af,none⟩) w .skip w') (k:L P n ops Q rest e w'):L P n ops Q (⟨none,op,ty,ps,af,none⟩::rest) e w :=
 L.ar1 rfl hr k
theorem L.call {f:FuncId} {args:Array Value} {R:Value->World->Prop} (hr:Does P (execOp (ev e) ⟨some d,op,ty,ps,af,none⟩) w (.enter f args) w)
  (hc:C P f args w R) (k:∀v w',R v w'->L P n ops Q rest (upd e d v) w'):L P n ops Q (⟨some d,op,ty,ps,af,none⟩::rest) e w :=
 L.as1 rfl hr hc k
variable {dst:Option Nat}{j:Nat}{want:Bool}
theorem L.on (hw:W2 ops e j=some want) (k:L P n ops Q (⟨dst,op,ty,ps,af,none⟩::rest) e w):L P n ops Q (⟨dst,op,ty,ps,af,some (j,want)⟩::rest) e w:=by
 intro hd a ha;have:=k (fun o ho=>by
  rcases List.mem_cons.1 ho with rfl|ho
  ·exact(hd ⟨dst,op,ty,ps,af,some (j,want)⟩ List.mem_cons_self:I4 n dst=true)
  ·exact hd _ (List.mem_cons_of_mem _ ho)) a ha
 unfold wpList at this⊢;rw[p5 ha]at this⊢;have h1:Region.wanted ⟨dst,op,ty,ps,af,some (j,want)⟩ (W2 ops e)=true:=by simp[Region.wanted,hw]
 have h2:Region.wanted ⟨dst,op,ty,ps,af,none⟩ (W2 ops e)=true:=rfl;rw[if_pos h1];rw[if_pos h2]at this;exact this
end
section
variable {P:Program}[Ctx P]{n:Nat}{Q:Exit->Env->World->Prop}{e:Env}{w:World}{ops:Array Oper}
theorem bt0 {Q1 Q2:Exit->Act->World->Prop} (hq:∀x a w,Q1 x a w->Q2 x a w):∀(l:List Oper) (a:Act) (w:World),wpList P ops Q1 l a w->wpList P ops Q2 l a w
 | [],_,_,h=>hq _ _ _ h
 |o::l,a,w,h=>by
  unfold wpList at h⊢;split
  ·rename_i hw;rw[if_pos hw]at h;exact fr0 (fun a w=>bt0 hq l a w) hq h
  ·rename_i hw;rw[if_neg hw]at h;exact bt0 hq l _ _ h
theorem J7 {Q':Exit->Act->World->Prop}:∀(l1 l2:List Oper) (a:Act) (w:World),wpList P ops (Exit.then (wpList P ops Q' l2) Q') l1 a w->wpList P ops Q' (l1++l2) a w
 | [],_,_,_,h=>h
 |o::l1,l2,a,w,h=>by
  show wpList P ops Q' (o::(l1++l2)) a w;unfold wpList at h⊢;split
  ·rename_i hw;rw[if_pos hw]at h;intro τ d;obtain⟨r,w',h1,h2⟩:=h τ d;refine⟨r,w',h1,?_⟩;cases r with
   |val v=>exact J7 l1 l2 _ _ h2
   |skip=>exact J7 l1 l2 _ _ h2
   |enter f args=>exact Calls.mono h2 fun x w'' hx=>by cases x <;> first|exact J7 l1 l2 _ _ hx|exact hx
   |panic v=>exact h2
  ·rename_i hw;rw[if_neg hw]at h;exact J7 l1 l2 _ _ h
theorem L.cut (k:Nat) (R:Env->World->Prop) {l:List Oper} (h1:L P n ops (W9 R Q) (l.take k) e w) (h2:∀e' w',R e' w'->L P n ops Q (l.drop k) e' w'):L P n ops Q l e w:=by
 intro hd a ha;rw[<- List.take_append_drop k l]at hd⊢;refine J7 _ _ _ _ (bt0 ?_ _ _ _ (h1 (fun o ho=>hd o (List.mem_append_left _ ho)) a ha));rintro x a' w' ⟨e',r,q⟩;cases x with
 |normal=>exact h2 e' w' q (fun o ho=>hd o (List.mem_append_right _ ho)) a' r
 |exit id=>exact⟨e',r,q⟩
 |goto l=>exact⟨e',r,q⟩
 |ret=>exact⟨e',r,q⟩
 |panic ch=>exact⟨e',r,q⟩
 |outgrown=>exact⟨e',r,q⟩
theorem L.meet (k:Nat) (G:List Nat) (d:Nat) (v:Value) {l:List Oper} (h1:L P n ops (W9 (fun e' w'=>w'=w/\e' d=v/\S0 G e' e) Q) (l.take k) e w) (h2:∀f,L P n ops Q (l.drop k) (upd (hav G f e) d v) w):L P n ops Q l e w:=by
 refine L.cut k _ h1 ?_;rintro e' w' ⟨rfl,hd,hA⟩;obtain⟨f,hf⟩:=hA.out;rw[V0 hd,hf];exact h2 f
end
end Go.Vy
end
section
namespace Go.Vy
open Go Go.Conc Go.Yc
open Go.Vc
def Ih0 (P:Program) [Ctx P] (J:(Nat->Bool)->World->Prop) (i:Nat) (v:Value) (D:Nat->Bool) (S:Sem Next) (w:World):Prop :=
 (∃w',Does P S w (.val v) w'/\J (O4 D i) w')\/(v=undef/\∃w',Does P S w .skip w'/\J (O4 D i) w') \/
 ∃f args w',Does P S w (.enter f args) w'/\C P f args w' (fun r w''=>r=v/\J (O4 D i) w'')
theorem nj0 {P:Program} [Ctx P] {J:(Nat->Bool)->World->Prop} {i:Nat} {v:Value} {D:Nat->Bool} {o:Oper} {a:Act} {w:World} {next:Act->World->Prop} {Q:Exit->Act->World->Prop} (h:Ih0 P J i v D (execOp a.eval o) w) (hn:∀w',J (O4 D i) w'->next (a.put o.dst v) w'):pt0 P o a w next Q:=by
 rcases h with⟨w',h1,h2⟩|⟨rfl,w',h1,h2⟩|⟨f,args,w',h1,h2⟩
 ·exact V8 h1 (hn w' h2)
 ·exact V8 h1 (hn w' h2)
 ·refine V8 h1 (Calls.mono h2 fun x w'' hx=>?_);cases x with
  |returned u=>obtain⟨rfl,hx⟩:=hx;exact hn w'' hx
  |panicked ch=>exact hx.elim
  |outgrown=>exact hx.elim
def Loc (P:Program) [Ctx P] (ops:Array Oper) (V:(Nat->Bool)->Prop) (J:(Nat->Bool)->World->Prop) (i:Nat) (o:Oper) (e:Env) (v:Value):Prop :=
 (Region.wanted o (W2 ops e)=true/\∀D w,D i=false->(V D/\V (O4 D i))->O6 o D->J D w->Ih0 P J i v D (execOp (ev e) o) w) \/
 (Region.wanted o (W2 ops e)=false/\v=undef/\∀D w,D i=false->(V D/\V (O4 D i))->O6 o D->J D w->J (O4 D i) w)
def JL (P:Program) [Ctx P] (ops:Array Oper) (V:(Nat->Bool)->Prop) (J:(Nat->Bool)->World->Prop) (Q:Env->Prop):Nat->List Oper->Env->Prop
 |_,[],e=>Q e
 |i,o::rest,e=>∃v,Loc P ops V J i o e v/\JL P ops V J Q (i+1) rest (j3 e o.dst v)
section
variable {P:Program}[Ctx P]{ops:Array Oper}{V:(Nat->Bool)->Prop}{J:(Nat->Bool)->World->Prop}{n:Nat}
theorem JL.collect {Q:Env->Prop}:∀(l:List Oper) (i:Nat) (e:Env),JL P ops V J Q i l e ->
  ∃vals:Nat->Value,(∀k o,l[k]? =some o->Loc P ops V J (i+k) o (EE e l vals k) (vals k))/\Q (EE e l vals l.length)
 | [],_,_,h=>⟨fun _=>undef,fun k o ho=>by simp at ho,h⟩
 |o::l,i,e,⟨v,hl,h⟩=>by
  obtain⟨vals,h1,h2⟩:=JL.collect l (i+1) _ h;refine⟨fun k=>match k with|0=>v|k+1=>vals k,?_,?_⟩
  ·intro k p hp;cases k with
   |zero=>simp at hp;subst hp;exact hl
   |succ k=>
    rw[vx0];have:=h1 k p (by simpa using hp);rw[show i+(k+1)=i+1+k by omega];exact this
  ·rw[List.length_cons,vx0];exact h2
theorem Os0 (h:Ord n ops) {e0:Env} {vals:Nat->Value} (Ii0:∀i o,ops[i]? =some o->Loc P ops V J i o (EE e0 ops.toList vals i) (vals i))
  {Q:Exit->Act->World->Prop} (hQ:∀a w D,Rep n a (EE e0 ops.toList vals ops.size)->(∀i,i<ops.size->D i=true)->J D w->Q .normal a w) :
  ∀{listed:Array Bool} {σ:List Nat},Lin ops listed σ->(∀τ ρ,σ=τ++ρ->V (fun k=>listed.getD k false ||τ.contains k)) ->
   ∀(a:Act) (e:Env) (w:World),listed.size=ops.size->Rep n a e->Mid ops e0 vals listed e->J (fun k=>listed.getD k false) w->wpOps P ops Q σ a w:=by
 have fin:∀(listed:Array Bool) (a:Act) (e:Env) (w:World),Rep n a e->Mid ops e0 vals listed e->J (fun k=>listed.getD k false) w->(∀i,i<ops.size->listed.getD i false=true)->Q .normal a w:=by
  intro listed a e w ha hm hJ aw0;have he:e=EE e0 ops.toList vals ops.size:=by
   funext t;have hl:∀j:Nat,ops.toList[j]? =ops[j]?:=fun j=>by rw[Array.getElem?_toList]
   by_cases hex:∃(j:Nat) (p:Oper),ops[j]? =some p/\p.dst=some t
   ·obtain⟨j,p,hp,hd⟩:=hex;have hjs:j<ops.size:=(Array.getElem?_eq_some_iff.1 hp).1;rw[hm.hit j p t hp hd (aw0 j hjs)];exact(vy0 e0 ops.toList vals t j p (by rw[hl];exact hp) hd (fun i' p' hp' g6=>h.one i' j p' p t (by rw[<- hl];exact hp') hp g6 hd) _ hjs).symm
   ·have l9:∀(j:Nat) (p:Oper),ops[j]? =some p->p.dst≠some t:=fun j p hp hd=>hex ⟨j,p,hp,hd⟩;rw[hm.mx0 t (fun j p hp hd=>absurd hd (l9 j p hp))];exact(ii0 e0 ops.toList vals t _ (fun j p _ hp=>l9 j p (by rw[<- hl];exact hp))).symm
  subst he;exact hQ a w _ ha aw0 hJ
 intro listed σ H5
 induction H5 with
 | @nil listed hr=>
  intro _ a e w hs ha hm hJ;exact fin listed a e w ha hm hJ (ft0 h hs hr)
 | @cons listed i σ hi _ ih=>
  intro hV a e w hs ha hm hJ;obtain⟨h1,o,ho,ad0⟩:=mem_ready.1 hi;have hio:i<ops.size:=(Array.getElem?_eq_some_iff.1 ho).1;have x7:i<listed.size:=by omega
  have hlk:=mz0 h hm ho ad0;refine U312 ?_;intro hex hwa;have hDi:(fun k=>listed.getD k false) i=false:=by
   show listed.getD i false=false;simp only[Array.getD_eq_getD_getElem?,x7,Array.getElem?_eq_getElem,Option.getD_some]at h1⊢;exact h1
  have hVD:V (fun k=>listed.getD k false):=by
   have:=hV [] (i::σ) rfl;have e1:(fun k=>listed.getD k false ||([]:List Nat).contains k)=fun k=>listed.getD k false:=funext fun k=>by simp
   rw[e1]at this;exact this
  have hVD:V (fun k=>listed.getD k false)/\V (O4 (fun k=>listed.getD k false) i):=by
   refine⟨hVD,?_⟩;have:=hV [i] σ rfl;have e1:(fun k=>listed.getD k false ||([i]:List Nat).contains k)=O4 (fun k=>listed.getD k false) i:=funext fun k=>by
    unfold O4;by_cases hk:k=i
    ·simp[hk]
    ·simp[hk]
   rw[e1]at this;exact this
  have hV':∀τ ρ,σ=τ++ρ->V (fun k=>(listed.setIfInBounds i true).getD k false ||τ.contains k):=by
   intro τ ρ hσ;have:=hV (i::τ) ρ (by rw[hσ];rfl);have e1:(fun k=>listed.getD k false ||(i::τ).contains k)=fun k=>(listed.setIfInBounds i true).getD k false ||τ.contains k:=by
    funext k;by_cases hk:i=k
    ·subst hk;simp[x7]
    ·rw[getD_set_ne false hk];simp[Ne.symm hk]
   rw[e1]at this;exact this
  have next:∀w',J (O4 (fun k=>listed.getD k false) i) w'->wpOps P ops Q σ (a.put o.dst (vals i)) w':=by
   intro w' hJ';refine ih hV' _ _ w' (by simp[hs]) (ha.put (h.dst i o ho) (vals i)) (hm.step h ho x7) ?_;rw[ij0 x7];exact hJ'
  unfold wpOps;rw[ho];simp only;rw[p5 ha,hwa];rcases Ii0 i o ho with⟨hw,hl⟩|⟨hw,hv,hl⟩
  ·rw[if_pos hw];have P5:=hl (fun k=>listed.getD k false) w hDi hVD ad0 hJ;rw[<- hex,<- ha.eval]at P5;exact nj0 P5 next
  ·rw[if_neg (by rw[hw];simp)];rw[<- hv];exact next w (hl (fun k=>listed.getD k false) w hDi hVD ad0 hJ)
theorem W.Ij0 {id:Nat} {l:List Oper} {Q:Exit->Env->World->Prop} {e:Env} {w:World} (hm:P.follows .mixedOrders=true) (hB:ye0 n l.toArray=true)
  (h:∀V:(Nat->Bool)->Prop,(∀D D',V D->V D'->(∀k,D k=true->D' k=true)\/(∀k,D' k=true->D k=true))->(∀D,V D->∀i o,l[i]? =some o->D i=true->O6 o D) ->
   ∃J:(Nat->Bool)->World->Prop,J (fun _=>false) w.drew/\JL P l.toArray V J (fun e'=>∀D w',(∀i,i<l.length->D i=true)->J D w'->Q .normal e' w') 0 l e):W P n (.region id l.toArray true) Q e w:=by
 intro a ha;have ho:=At0 hB;refine wp_region_draw fun t=>?_;simp only[Region.schedule,hm,Bool.true_or,if_true];have H5:=jx0 l.toArray l.toArray.size t (Array.replicate l.toArray.size false) (by simp) (by simp);unfold Region.linearise;generalize Region.linearise.go .any l.toArray l.toArray.size t (Array.replicate l.toArray.size false) []=σ at H5⊢;have dy0:=dv0 H5 (fun i o _ hi=>by rw[K0]at hi;cases hi) (by simp);obtain⟨J,hJ,hjl⟩:=h (Pre σ) (fun D D' h1 h2=>h1.chain h2) (by
  rintro D ⟨τ,ρ,hσ,hD⟩ i o hi hDi x hx hb;have:=dy0 τ ρ hσ i o (by simpa using hi) (.inr ((hD i).1 hDi)) x hx hb;rcases this with h1|h1
  ·rw[K0]at h1;cases h1
  ·exact(hD _).2 h1)
 obtain⟨vals,h1,h2⟩:=JL.collect l 0 e hjl;refine Os0 (V:=Pre σ) (J:=J) ho (e0:=e) (vals:=vals) (fun i o hi=>?_) (fun a' w' D ha' hD hJ'=>?_) H5 ?_ a e _ (by simp) ha ⟨fun j o t _ _ hl=>?_,fun t _=>rfl⟩ ?_
 ·have:=h1 i o (by simpa using hi);simpa using this
 ·exact⟨_,ha',h2 D w' (fun i hi=>hD i (by simpa using hi)) hJ'⟩
 ·intro τ ρ hσ;exact⟨τ,ρ,hσ,fun k=>by show((Array.replicate l.toArray.size false).getD k false ||τ.contains k)=true↔_;rw[K0];simp⟩
 ·rw[K0]at hl;cases hl
 ·have:(fun k=>(Array.replicate l.toArray.size false).getD k false)=fun _=>false:=funext fun k=>K0 _ _;rw[this];exact hJ
end
section
variable {P:Program}[Ctx P]
end
section
variable {P:Program}{ρ:Operand->Value}{w:World}{d:Option Nat}{ty:TypeId}{ps:String}{af:Array Edge}{g:Option (Nat×Bool)}
variable {x y z:Operand}
theorem dw0:Does P (execOp ρ ⟨d,.move x,ty,ps,af,g⟩) w (.val (ρ x)) w :=
 .B1 (K2 rfl _) rfl rfl fun _τ _d=>Go.Vc.dw0
theorem ex0:Does P (execOp ρ ⟨d,.assign x,ty,ps,af,g⟩) w (.val (ρ x)) w :=
 .B1 (K2 rfl _) rfl rfl fun _τ _d=>Go.Vc.ex0
theorem m3 {κ:IntKind} {m:Int} (h:ρ x= .int κ m):Does P (execOp ρ ⟨d,.move x,ty,ps,af,g⟩) w (.val (.int κ m)) w :=
 .B1 (K2 rfl _) rfl rfl fun _τ _d=>Go.Vc.m3 (h:=h)
theorem ik0 {κ:IntKind} {m:Int} (h:ρ x= .int κ m):Does P (execOp ρ ⟨d,.assign x,ty,ps,af,g⟩) w (.val (.int κ m)) w :=
 .B1 (K2 rfl _) rfl rfl fun _τ _d=>Go.Vc.ik0 (h:=h)
theorem y9 {b:Bool} (h:ρ x= .bool b):Does P (execOp ρ ⟨d,.move x,ty,ps,af,g⟩) w (.val (.bool b)) w :=
 .B1 (K2 rfl _) rfl rfl fun _τ _d=>Go.Vc.y9 (h:=h)
theorem yf0 {b:Bool} (h:ρ x= .bool b):Does P (execOp ρ ⟨d,.assign x,ty,ps,af,g⟩) w (.val (.bool b)) w :=
 .B1 (K2 rfl _) rfl rfl fun _τ _d=>Go.Vc.yf0 (h:=h)
theorem I7 {a:Option Addr} {n c:Nat} (h:ρ x= .slice a n c):Does P (execOp ρ ⟨d,.move x,ty,ps,af,g⟩) w (.val (.slice a n c)) w :=
 .B1 (K2 rfl _) rfl rfl fun _τ _d=>Go.Vc.I7 (h:=h)
theorem cu0 {a:Option Addr} {n c:Nat} (h:ρ x= .slice a n c):Does P (execOp ρ ⟨d,.assign x,ty,ps,af,g⟩) w (.val (.slice a n c)) w :=
 .B1 (K2 rfl _) rfl rfl fun _τ _d=>Go.Vc.cu0 (h:=h)
theorem W3 {p:Option Addr} (h:ρ x= .pointer p):Does P (execOp ρ ⟨d,.move x,ty,ps,af,g⟩) w (.val (.pointer p)) w :=
 .B1 (K2 rfl _) rfl rfl fun _τ _d=>Go.Vc.W3 (h:=h)
theorem Dc0 {p:Option Addr} (h:ρ x= .pointer p):Does P (execOp ρ ⟨d,.assign x,ty,ps,af,g⟩) w (.val (.pointer p)) w :=
 .B1 (K2 rfl _) rfl rfl fun _τ _d=>Go.Vc.Dc0 (h:=h)
theorem Ht0 {cs:Array Value} (h:ρ x= .tuple cs):Does P (execOp ρ ⟨d,.move x,ty,ps,af,g⟩) w (.val (.tuple cs)) w :=
 .B1 (K2 rfl _) rfl rfl fun _τ _d=>Go.Vc.Ht0 (h:=h)
theorem Hu0 {fn:Fn} {xs ys:Array Value} (h:ρ x= .func fn xs ys):Does P (execOp ρ ⟨d,.move x,ty,ps,af,g⟩) w (.val (.func fn xs ys)) w :=
 .B1 (K2 rfl _) rfl rfl fun _τ _d=>Go.Vc.Hu0 (h:=h)
theorem E8 (h:ρ z= .bool true):Does P (execOp ρ ⟨d,.pick z x y,ty,ps,af,g⟩) w (.val (ρ x)) w :=
 .B1 (K2 rfl _) rfl rfl fun _τ _d=>Go.Vc.E8 (h:=h)
theorem u7 (h:ρ z= .bool false):Does P (execOp ρ ⟨d,.pick z x y,ty,ps,af,g⟩) w (.val (ρ y)) w :=
 .B1 (K2 rfl _) rfl rfl fun _τ _d=>Go.Vc.u7 (h:=h)
end
section
variable {P:Program}[Ctx P]{ρ:Operand->Value}
variable {x y:Operand}
section
variable {κ:IntKind}{m k:Int}(hx:ρ x= .int κ m)(hy:ρ y= .int κ k)
include hx hy
end
end
section
variable {P:Program}{ρ:Operand->Value}{w:World}{d:Option Nat}{ty:TypeId}{ps:String}{af:Array Edge}{g:Option (Nat×Bool)}
variable {x y:Operand}{T T':TypeId}
variable {κ:IntKind}{m k:Int}(hx:ρ x= .int κ m)(hy:ρ y= .int κ k)
include hx hy
theorem il0:Does P (execOp ρ ⟨d,.binOp .add T x y T',ty,ps,af,g⟩) w (.val (.int κ (κ.wrap (m+k)))) w :=
 .B1 (o6 hx hy) rfl rfl fun _τ _d=>Go.Vc.il0 (hx:=hx) (hy:=hy)
theorem yg0:Does P (execOp ρ ⟨d,.binOp .sub T x y T',ty,ps,af,g⟩) w (.val (.int κ (κ.wrap (m-k)))) w :=
 .B1 (o6 hx hy) rfl rfl fun _τ _d=>Go.Vc.yg0 (hx:=hx) (hy:=hy)
theorem lc0 (h0:k≠0):Does P (execOp ρ ⟨d,.binOp .rem T x y T',ty,ps,af,g⟩) w (.val (.int κ (m.tmod k))) w :=
 .B1 (o6 hx hy) rfl rfl fun _τ _d=>Go.Vc.lc0 (hx:=hx) (hy:=hy) (h0:=h0)
theorem im0:Does P (execOp ρ ⟨d,.binOp .lss T x y T',ty,ps,af,g⟩) w (.val (.bool (decide (m<k)))) w :=
 .B1 (o6 hx hy) rfl rfl fun _τ _d=>Go.Vc.im0 (hx:=hx) (hy:=hy)
theorem Dd0:Does P (execOp ρ ⟨d,.binOp .leq T x y T',ty,ps,af,g⟩) w (.val (.bool (decide (m <=k)))) w :=
 .B1 (o6 hx hy) rfl rfl fun _τ _d=>Go.Vc.Dd0 (hx:=hx) (hy:=hy)
theorem na0:Does P (execOp ρ ⟨d,.binOp .gtr T x y T',ty,ps,af,g⟩) w (.val (.bool (decide (k<m)))) w :=
 .B1 (o6 hx hy) rfl rfl fun _τ _d=>Go.Vc.na0 (hx:=hx) (hy:=hy)
theorem yh0:Does P (execOp ρ ⟨d,.binOp .geq T x y T',ty,ps,af,g⟩) w (.val (.bool (decide (k <=m)))) w :=
 .B1 (o6 hx hy) rfl rfl fun _τ _d=>Go.Vc.yh0 (hx:=hx) (hy:=hy)
theorem H2:Does P (execOp ρ ⟨d,.binOp .eql T x y T',ty,ps,af,g⟩) w (.val (.bool (decide (m=k)))) w :=
 .B1 (o6 hx hy) rfl rfl fun _τ _d=>Go.Vc.H2 (hx:=hx) (hy:=hy)
theorem ax0:Does P (execOp ρ ⟨d,.binOp .neq T x y T',ty,ps,af,g⟩) w (.val (.bool (decide (m≠k)))) w :=
 .B1 (o6 hx hy) rfl rfl fun _τ _d=>Go.Vc.ax0 (hx:=hx) (hy:=hy)
end
section
variable {P:Program}[Ctx P]{ρ:Operand->Value}
variable {x y:Operand}
section
variable {κ:IntKind}{m k:Int}(hx:ρ x= .int κ m)(hy:ρ y= .int κ k)
include hx hy
end
end
section
variable {P:Program}{ρ:Operand->Value}{w:World}{d:Option Nat}{ty:TypeId}{ps:String}{af:Array Edge}{g:Option (Nat×Bool)}
variable {x y:Operand}{T T' E S:TypeId}
theorem ey0 {m k:Int} (hx:ρ x= .int .i64 m) (hy:ρ y= .int .i64 k) (h:-9223372036854775808 <=m+k/\m+k <=9223372036854775807):Does P (execOp ρ ⟨d,.binOp .add T x y T',ty,ps,af,g⟩) w (.val (.int .i64 (m+k))) w :=
 .B1 (o6 hx hy) rfl rfl fun _τ _d=>Go.Vc.ey0 (hx:=hx) (hy:=hy) (h:=h)
theorem Av0 {m k:Int} (hx:ρ x= .int .i64 m) (hy:ρ y= .int .i64 k) (h:-9223372036854775808 <=m-k/\m-k <=9223372036854775807):Does P (execOp ρ ⟨d,.binOp .sub T x y T',ty,ps,af,g⟩) w (.val (.int .i64 (m-k))) w :=
 .B1 (o6 hx hy) rfl rfl fun _τ _d=>Go.Vc.Av0 (hx:=hx) (hy:=hy) (h:=h)
theorem nb0 {k:Nat} (hx:ρ x= .int .i64 (k:Int)) (hy:ρ y= .int .i64 1) (h:k<9223372036854775807):Does P (execOp ρ ⟨d,.binOp .add T x y T',ty,ps,af,g⟩) w (.val (.int .i64 ((k+1:Nat):Int))) w :=
 .B1 (o6 hx hy) rfl rfl fun _τ _d=>Go.Vc.nb0 (hx:=hx) (hy:=hy) (h:=h)
theorem in0 {b:Bool} (hx:ρ x= .bool b):Does P (execOp ρ ⟨d,.unOp .not T x,ty,ps,af,g⟩) w (.val (.bool (!b))) w :=
 .B1 (K2 rfl _) rfl rfl fun _τ _d=>Go.Vc.in0 (hx:=hx)
theorem S6 {a:Option Addr} {n c:Nat} {aT:Array TypeId} (hx:ρ x= .slice a n c) (hT:P.underlying T=some (.slice E)) (hA:aT[0]? =some T) :
  Does P (execOp ρ ⟨d,.call ⟨.builtin .len,#[x],aT⟩,ty,ps,af,g⟩) w (.val (.int .i64 (n:Int))) w :=
 .B1 (K2 rfl _) rfl rfl fun _τ _d=>Go.Vc.S6 (hx:=hx) (hT:=hT) (hA:=hA)
theorem ae0 {b o n c s:Nat} {i:Nat} (hx:ρ x= .slice (some ⟨b,o,none⟩) n c) (hy:ρ y= .int .i64 (i:Int)) (hT:P.underlying T=some (.slice E)) (hs:(P.info? E).map (·.size)=some s) (h:i<n) :
  Does P (execOp ρ ⟨d,.indexAddr T x y,ty,ps,af,g⟩) w (.val (.pointer (some ⟨b,o+i*s,none⟩))) w :=
 .B1 (K2 rfl _) rfl rfl fun _τ _d=>Go.Vc.ae0 (hx:=hx) (hy:=hy) (hT:=hT) (hs:=hs) (h:=h)
theorem G0 {b o f:Nat} {fs:Array Field} {fl:Field} {s:Nat} (hx:ρ x= .pointer (some ⟨b,o,none⟩)) (hT:P.underlying S=some (.struct fs)) (hf:fs[f]? =some fl) (hs:(P.info? fl.type).map (·.size)=some s) (h0:s≠0) :
  Does P (execOp ρ ⟨d,.fieldAddr S x f,ty,ps,af,g⟩) w (.val (.pointer (some ⟨b,o+fl.offset,none⟩))) w :=
 .B1 (yp0 hx hT hf hs h0) rfl rfl fun _τ _d=>Go.Vc.G0 (hx:=hx) (hT:=hT) (hf:=hf) (hs:=hs) (h0:=h0)
theorem A0 {p:Addr} {u:TypeDesc} {v:Value} (hx:ρ x= .pointer (some p)) (hT:P.underlying T=some u) (hu:g7 u=true) (hc:w.cell? p=some v) :
  Does P (execOp ρ ⟨d,.load T x,ty,ps,af,g⟩) w (.val v) w :=
 .B1 (K2 rfl _) rfl rfl fun _τ _d=>Go.Vc.A0 (hx:=hx) (hT:=hT) (hu:=hu) (hc:=hc)
theorem j1 {b o:Nat} {u:TypeDesc} {cs:List Value} {s:Nat} (hx:ρ x= .pointer (some ⟨b,o,none⟩)) (hT:P.underlying T=some u) (hu:g7 u=false) (hs:(P.info? T).map (·.size)=some s) (hl:cs.length=s)
  (hc:∀j v,cs[j]? =some v->w.cell? ⟨b,o+j,none⟩=some v) :
  Does P (execOp ρ ⟨d,.load T x,ty,ps,af,g⟩) w (.val (.agg cs.toArray)) w :=
 .B1 (K2 rfl _) rfl rfl fun _τ _d=>Go.Vc.j1 (hx:=hx) (hT:=hT) (hu:=hu) (hs:=hs) (hl:=hl) (hc:=hc)
theorem md0 {p:Addr} {v v0:Value} (hx:ρ x= .pointer (some p)) (hy:ρ y=v) (hs:(P.info? T).map (·.size)=some 1) (h1:v.oneCell'=true) (hc:w.cell? p=some v0) (hf:w.frozen? p=false) :
  Does P (execOp ρ ⟨d,.store T x y,ty,ps,af,g⟩) w .skip (w.setCell p v) :=
 .B1 (K2 rfl _) rfl rfl fun _τ _d=>Go.Vc.md0 (hx:=hx) (hy:=hy) (hs:=hs) (h1:=h1) (hc:=hc) (hf:=hf)
theorem cv0 {vs:Array Value} {i:Nat} {v:Value} (hx:ρ x= .tuple vs) (hv:vs[i]? =some v):Does P (execOp ρ ⟨d,.extract x i,ty,ps,af,g⟩) w (.val v) w :=
 .B1 (K2 rfl _) rfl rfl fun _τ _d=>Go.Vc.cv0 (hx:=hx) (hv:=hv)
theorem cf0 {f:FuncId} {first cap args:Array Value} {fn:Func} {xs:Array Operand} {aT:Array TypeId} (hx:ρ x= .func (.func f) first cap) (ha:xs.map ρ=args) (hf:P.funcs[f]? =some fn) (hb:fn.body.isSome=true) (hn:(fn.name== "runtime.NumGoroutine")=false) :
  Does P (execOp ρ ⟨d,.call ⟨.value x,xs,aT⟩,ty,ps,af,g⟩) w (.enter f (first++args++cap)) w :=
 .B1 (bs0 hx hf hb hn) rfl rfl fun _τ _d=>Go.Vc.cf0 (hx:=hx) (ha:=ha) (hf:=hf) (hb:=hb) (hn:=hn)
theorem bq0 {f:FuncId} {fn:Func} {aT:Array TypeId} (hf:P.funcs[f]? =some fn) (hb:fn.body.isSome=true) (hn:(fn.name== "runtime.NumGoroutine")=false) (hx:ρ (.func f)= .func (.func f) #[] #[]) :
  Does P (execOp ρ ⟨d,.call ⟨.value (.func f),#[],aT⟩,ty,ps,af,g⟩) w (.enter f #[]) w :=
 .B1 (bs0 hx hf hb hn) rfl rfl fun _τ _d=>Go.Vc.bq0 (hf:=hf) (hb:=hb) (hn:=hn) (hx:=hx)
theorem C2 {f:FuncId} {fn:Func} {aT:Array TypeId} {x0:Operand} {v0:Value} (h0:ρ x0=v0) (hf:P.funcs[f]? =some fn) (hb:fn.body.isSome=true) (hn:(fn.name== "runtime.NumGoroutine")=false) (hx:ρ (.func f)= .func (.func f) #[] #[]) :
  Does P (execOp ρ ⟨d,.call ⟨.value (.func f),#[x0],aT⟩,ty,ps,af,g⟩) w (.enter f #[v0]) w :=
 .B1 (bs0 hx hf hb hn) rfl rfl fun _τ _d=>Go.Vc.C2 (h0:=h0) (hf:=hf) (hb:=hb) (hn:=hn) (hx:=hx)
theorem Q3 {f:FuncId} {fn:Func} {aT:Array TypeId} {x0 x1:Operand} {v0 v1:Value} (h0:ρ x0=v0) (h1:ρ x1=v1) (hf:P.funcs[f]? =some fn) (hb:fn.body.isSome=true) (hn:(fn.name== "runtime.NumGoroutine")=false) (hx:ρ (.func f)= .func (.func f) #[] #[]) :
  Does P (execOp ρ ⟨d,.call ⟨.value (.func f),#[x0,x1],aT⟩,ty,ps,af,g⟩) w (.enter f #[v0,v1]) w :=
 .B1 (bs0 hx hf hb hn) rfl rfl fun _τ _d=>Go.Vc.Q3 (h0:=h0) (h1:=h1) (hf:=hf) (hb:=hb) (hn:=hn) (hx:=hx)
theorem G8 {f:FuncId} {fn:Func} {aT:Array TypeId} {x0 x1 x2:Operand} {v0 v1 v2:Value} (h0:ρ x0=v0) (h1:ρ x1=v1) (h2:ρ x2=v2) (hf:P.funcs[f]? =some fn) (hb:fn.body.isSome=true) (hn:(fn.name== "runtime.NumGoroutine")=false) (hx:ρ (.func f)= .func (.func f) #[] #[]) :
  Does P (execOp ρ ⟨d,.call ⟨.value (.func f),#[x0,x1,x2],aT⟩,ty,ps,af,g⟩) w (.enter f #[v0,v1,v2]) w :=
 .B1 (bs0 hx hf hb hn) rfl rfl fun _τ _d=>Go.Vc.G8 (h0:=h0) (h1:=h1) (h2:=h2) (hf:=hf) (hb:=hb) (hn:=hn) (hx:=hx)
theorem m9 {f:FuncId} {fn:Func} {aT:Array TypeId} {x0 x1 x2 x3:Operand} {v0 v1 v2 v3:Value} (h0:ρ x0=v0) (h1:ρ x1=v1) (h2:ρ x2=v2) (h3:ρ x3=v3) (hf:P.funcs[f]? =some fn) (hb:fn.body.isSome=true) (hn:(fn.name== "runtime.NumGoroutine")=false) (hx:ρ (.func f)= .func (.func f) #[] #[]) :
  Does P (execOp ρ ⟨d,.call ⟨.value (.func f),#[x0,x1,x2,x3],aT⟩,ty,ps,af,g⟩) w (.enter f #[v0,v1,v2,v3]) w :=
 .B1 (bs0 hx hf hb hn) rfl rfl fun _τ _d=>Go.Vc.m9 (h0:=h0) (h1:=h1) (h2:=h2) (h3:=h3) (hf:=hf) (hb:=hb) (hn:=hn) (hx:=hx)
theorem R7 {f:FuncId} {fn:Func} {aT:Array TypeId} {x0 x1 x2 x3 x4:Operand} {v0 v1 v2 v3 v4:Value} (h0:ρ x0=v0) (h1:ρ x1=v1) (h2:ρ x2=v2) (h3:ρ x3=v3) (h4:ρ x4=v4) (hf:P.funcs[f]? =some fn) (hb:fn.body.isSome=true) (hn:(fn.name== "runtime.NumGoroutine")=false) (hx:ρ (.func f)= .func (.func f) #[] #[]) :
  Does P (execOp ρ ⟨d,.call ⟨.value (.func f),#[x0,x1,x2,x3,x4],aT⟩,ty,ps,af,g⟩) w (.enter f #[v0,v1,v2,v3,v4]) w :=
 .B1 (bs0 hx hf hb hn) rfl rfl fun _τ _d=>Go.Vc.R7 (h0:=h0) (h1:=h1) (h2:=h2) (h3:=h3) (h4:=h4) (hf:=hf) (hb:=hb) (hn:=hn) (hx:=hx)
theorem De0 {v:Value} (hx:ρ x=v):Does P (execOp ρ ⟨d,.box T x,ty,ps,af,g⟩) w (.val (.pointer (some ⟨w.heap.size,0,none⟩))) (w.alloc (.cells v.cells T)) :=
 .B1 (K2 rfl _) rfl rfl fun _τ _d=>Go.Vc.De0 (hx:=hx)
theorem io0 {v:Value} (hz:(P.info? T).bind (·.zero)=some v):Does P (execOp ρ ⟨d,.alloc T,ty,ps,af,g⟩) w (.val (.pointer (some ⟨w.heap.size,0,none⟩))) (w.alloc (.cells v.cells T)) :=
 .B1 (K2 rfl _) rfl rfl fun _τ _d=>Go.Vc.io0 (hz:=hz)
end
section
variable {P:Program}[Ctx P]
end
def QL (P:Program) [Ctx P] (ops:Array Oper) (Cl:World->Prop) (Q:Env->Prop) (i:Nat) (l:List Oper) (e:Env):Prop:=∀V:(Nat->Bool)->Prop,JL P ops V (fun _=>Cl) Q i l e
section
variable {P:Program}[Ctx P]{ops:Array Oper}{Cl:World->Prop}{Q:Env->Prop}{i:Nat}{e:Env}{rest:List Oper}{v:Value}
variable {d:Nat}{op:Op}{ty:TypeId}{ps:String}{af:Array Edge}{dst:Option Nat}{j:Nat}{want:Bool}
theorem D.nil (h:Q e):QL P ops Cl Q i [] e:=fun _=>h
theorem D.va (hr:∀w,Cl w->Does P (execOp (ev e) ⟨some d,op,ty,ps,af,none⟩) w (.val v) w) (k:QL P ops Cl Q (i+1) rest (upd e d v)):QL P ops Cl Q i (⟨some d,op,ty,ps,af,none⟩::rest) e :=
 fun V=>⟨v,.inl ⟨rfl,fun _ w _ _ _ hw=>.inl ⟨w,hr w hw,hw⟩⟩,k V⟩
theorem D.call {f:FuncId} {args:Array Value} (hr:∀w,Cl w->Does P (execOp (ev e) ⟨some d,op,ty,ps,af,none⟩) w (.enter f args) w) (hc:∀w,Cl w->C P f args w (fun r w'=>r=v/\Cl w'))
  (k:QL P ops Cl Q (i+1) rest (upd e d v)):QL P ops Cl Q i (⟨some d,op,ty,ps,af,none⟩::rest) e :=
 fun V=>⟨v,.inl ⟨rfl,fun _ w _ _ _ hw=>.inr (.inr ⟨_,_,w,hr w hw,hc w hw⟩)⟩,k V⟩
theorem D.on (hw:W2 ops e j=some want) (k:QL P ops Cl Q i (⟨dst,op,ty,ps,af,none⟩::rest) e):QL P ops Cl Q i (⟨dst,op,ty,ps,af,some (j,want)⟩::rest) e:=by
 intro V;obtain⟨v,h,k⟩:=k V;refine⟨v,?_,k⟩;rcases h with⟨_,h⟩|⟨h,_⟩
 ·exact .inl ⟨by simp[Region.wanted,hw],h⟩
 ·cases h
theorem W.quiet {n:Nat} {id:Nat} {l:List Oper} {Q:Exit->Env->World->Prop} {e:Env} {w:World} (Cl:World->Prop) (hm:P.follows .mixedOrders=true) (hB:ye0 n l.toArray=true)
  (hC:Cl w.drew) (h:QL P l.toArray Cl (fun e'=>∀w',Cl w'->Q .normal e' w') 0 l e):W P n (.region id l.toArray true) Q e w:=by
 refine W.Ij0 hm hB fun V _ _=>⟨fun _=>Cl,hC,?_⟩
 have mono:∀(l':List Oper) (i:Nat) (e:Env),JL P l.toArray V (fun _=>Cl) (fun e'=>∀w',Cl w'->Q .normal e' w') i l' e->JL P l.toArray V (fun _=>Cl) (fun e'=>∀(D:Nat->Bool) w',(∀i,i<l.length->D i=true)->Cl w'->Q .normal e' w') i l' e:=by
  intro l'
  induction l' with
  |nil=>exact fun i e h _ w' _ hw=>h w' hw
  |cons o l' ih=>exact fun i e ⟨v,h1,h2⟩=>⟨v,h1,ih _ _ h2⟩
 exact mono l 0 e (h V)
end
section
variable {P:Program}[Ctx P]
end
def ends (P:Program) (fn:Func) (R:Value->World->Prop):Exit->Env->World->Prop:=fun x e w=>
 (x= .normal\/x= .ret)/\∃v,(∀tmps:Array Value,(∀t,tmps.getD t undef=e t)->bp0 P fn tmps w v)/\R v w
theorem y7 {P:Program} {fn:Func} {tmps:Array Value} {w:World} {v:Value} (h1:∀w,(results fn tmps).run P w= .ok v w) (h2:∀w,(results fn tmps).events P w #[]=#[]):bp0 P fn tmps w v :=
 fun τ d ρ x hx=>⟨x,#[],by rw[Sem.runT_eq,h1,h2],hx,fun e he=>by simp at he⟩
theorem wpOps_eq_wpList {P:Program} [Ctx P] {ops:Array Oper} {Q:Exit->Act->World->Prop} (l:List Oper):∀k,(∀j,l[j]? =ops[k+j]?)->wpOps P ops Q (List.range' k l.length)=wpList P ops Q l:=by
 induction l with
 |nil=>intro k _;funext a w;simp[wpOps,wpList]
 |cons o l ih=>
  intro k h;have h0:ops[k]? =some o:=by simpa using(h 0).symm
  have ih':=ih (k+1) (fun j=>by have:=h (j+1);simpa [Nat.add_assoc,Nat.add_comm 1 j]using this);funext a w;simp only[List.length_cons,List.range'_succ,wpOps,h0,wpList,ih']
theorem at1 {v:Value} {p q:Prop} (hv:(v= .nilFunc/\p)\/(∃f xs ys,v= .func f xs ys/\q)):v= .nilFunc\/∃f xs ys,v= .func f xs ys:=hv.imp (fun h=>h.1) fun⟨f,xs,ys,h,_⟩=>⟨f,xs,ys,h⟩
theorem af0 {P:Program} {fn:Func} {tmps:Array Value} {w:World} {v:Value} (ht:D1 P (results fn tmps)) (h1:∀τ d,(results fn tmps).run P (N2 w τ d)= .ok v (N2 w τ d)):bp0 P fn tmps w v:=by
 intro τ d ρ x hs;have h1':((results fn tmps).runT P (N2 w τ d) #[]).1= .ok v (N2 w τ d):=by rw[Sem.runT_eq];exact h1 τ d
 have hf:Yc.xr0 ((results fn tmps).runT P (N2 w τ d) #[]).1:=by rw[h1'];trivial
 obtain⟨⟨x',h2,h3⟩,h4,h5⟩:=Z6 ht hs hf;rw[h1']at h2 h3;refine⟨x',_,h2,h3,fun e he=>(h5 e he).resolve_left (by simp)⟩
theorem ag0 {P:Program} {fn:Func} {tmps:Array Value}:D1 P (results fn tmps):=by
 unfold results;refine G1 (D2 (fun r=>?_) _) fun vs=>I1 _;cases r with
 |tmp t=>exact I1 _
 |cell a t=>exact G1 (ig0 _) fun a=>ss0 _ _
theorem C.enter {P:Program} [Ctx P] {f:FuncId} {fn:Func} {c:Code} {args:Array Value} {w:World} {R:Value->World->Prop} {n:Nat} (hf:P.funcs[f]? =some fn) (hb:fn.body=some c) (hn:args.size+(fn.ntmps-args.size)=n)
  (h:W P n c (ends P fn R) (y8 args) w):C P f args w R:=by
 refine calls_of_wp hf hb (wp_mono (h _ ⟨?_,rfl,?_⟩) ?_)
 ·simp[hn]
 ·intro t;simp only[y8,Array.getD_eq_getD_getElem?,Array.getElem?_append];split
  ·rfl
  ·rename_i ht;rw[Array.getElem?_eq_none (by omega:args.size <=t)];simp only[Array.getElem?_replicate];split <;> rfl
 ·rintro x a w' ⟨e',r,hx,v,hv,hR⟩;have:=hv a.tmps r.get;rcases hx with rfl|rfl
  ·exact⟨r.defers,v,this,hR⟩
  ·exact⟨r.defers,v,this,hR⟩
theorem ends.one {P:Program} {fn:Func} {R:Value->World->Prop} {x:Exit} {e:Env} {w:World} {t:Nat} (hx:x= .normal\/x= .ret) (hr:fn.results=#[.tmp t]) (h:R (e t) w):ends P fn R x e w :=
 ⟨hx,_,fun tmps ht=>y7 (fun w=>by rw[results_tmp hr,ht]) (fun w=>events_results_tmp hr _ _),h⟩
theorem ends.none {P:Program} {fn:Func} {R:Value->World->Prop} {x:Exit} {e:Env} {w:World} (hx:x= .normal\/x= .ret) (hr:fn.results=#[]) (h:R (.tuple #[]) w):ends P fn R x e w :=
 ⟨hx,_,fun tmps _=>y7 (fun w=>results_none hr tmps P w) (fun _w=>events_results_none hr _ _),h⟩
end Go.Vy
end
section
namespace Go.Vy
open Go Go.Yc Go.RowKit
open Go.Vc
section
variable {P:Program}[Ctx P]{n:Nat}{Q:Exit->Env->World->Prop}{e:Env}{w:World}{ops:Array Oper}{rest:List Oper}
variable {d:Nat}{ty:TypeId}{ps:String}{af:Array Edge}{T:TypeId}{x y:Operand}
theorem L.box {v:Value} {cs:Array Value} (hx:ev e x=v) (hcs:v.cells=cs) (k:∀w1 b,gh0 w w1 b cs T->L P n ops Q rest (upd e d (.pointer (some ⟨b,0,none⟩))) w1) :
  L P n ops Q (⟨some d,.box T x,ty,ps,af,none⟩::rest) e w:=by
 subst hcs;exact L.va (De0 hx) (k _ _ (j7 w _ T))
theorem L.alloc {v:Value} {cs:Array Value} (hz:(P.info? T).bind (·.zero)=some v) (hcs:v.cells=cs) (k:∀w1 b,gh0 w w1 b cs T->L P n ops Q rest (upd e d (.pointer (some ⟨b,0,none⟩))) w1) :
  L P n ops Q (⟨some d,.alloc T,ty,ps,af,none⟩::rest) e w:=by
 subst hcs;exact L.va (io0 hz) (k _ _ (j7 w _ T))
theorem L.yq0 {b o s:Nat} {cs vs:Array Value} {E:TypeId} {v:Value} (hx:ev e x= .pointer (some ⟨b,o,none⟩)) (hy:ev e y=v) (hvs:v.cells=vs) (hs:(P.info? T).map (·.size)=some s) (hl:vs.size=s) (h1:∀v∈vs.toList,v.oneCell'=true) (hB:O0 w b cs E) (ho:o+s <=cs.size)
  (k:L P n ops Q rest e (n6 w b (setRow cs o vs.toList) E)):L P n ops Q (⟨none,.store T x y,ty,ps,af,none⟩::rest) e w:=by
 refine L.st (w':=n6 w b (setRow cs o vs.toList) E) (.B1 (K2 rfl _) rfl rfl fun τ d=>?_) k;have:=ay0 (P:=P) b E vs.toList o 0 cs (N2 w τ d) hB (by simp;omega) h1;show _=Result.ok Next.skip (n6 (N2 w τ d) b (setRow cs o vs.toList) E);simp[execOp,Instr.storeAt,hx,hy,Instr.sureAddr,storeVar,Go.Vc.run_sizeOf hs,hvs,hl,this]
end
section
variable {P:Program}[Ctx P]{n:Nat}{Q:Exit->Env->World->Prop}{e:Env}{w:World}{ops:Array Oper}
theorem L.fc0 (k:Nat) (G:List Nat) (d:Nat) (v:Value) {tj:Nat} {b:Bool} {l:List Oper} (hb:e tj= .bool b)
  (ht:b=true->L P n ops (W9 (fun e' w'=>w'=w/\e' d=v/\S0 G e' e) Q) (l.take k) (upd e tj (.bool true)) w)
  (hf:b=false->L P n ops (W9 (fun e' w'=>w'=w/\e' d=v/\S0 G e' e) Q) (l.take k) (upd e tj (.bool false)) w)
  (h2:∀f,L P n ops Q (l.drop k) (upd (hav G f e) d v) w):L P n ops Q l e w:=by
 refine L.meet k G d v ?_ h2;cases b
 ·have:=hf rfl;rw[<- V0 hb]at this;exact this
 ·have:=ht rfl;rw[<- V0 hb]at this;exact this
end
section
variable {P:Program}[Ctx P]
end
section
variable {P:Program}{ρ:Operand->Value}{w:World}{d:Option Nat}{ty:TypeId}{ps:String}{af:Array Edge}{g:Option (Nat×Bool)}{x y:Operand}{T E:TypeId}
theorem S3 {a:Option Addr} {n c s:Nat} {i:Nat} (hx:ρ x= .slice a n c) (hy:ρ y= .int .i64 (i:Int)) (hT:P.underlying T=some (.slice E)) (hs:(P.info? E).map (·.size)=some s) (hS:SL a n) (h:i<n) :
  Does P (execOp ρ ⟨d,.indexAddr T x y,ty,ps,af,g⟩) w (.val (.pointer (some ⟨ab a,ao a+i*s,none⟩))) w :=
 .B1 (K2 rfl _) rfl rfl fun _τ _d=>Go.Vc.S3 (hx:=hx) (hy:=hy) (hT:=hT) (hs:=hs) (hS:=hS) (h:=h)
end
section
variable {P:Program}[Ctx P]
end
section
end
section
end
section
variable {P:Program}[Ctx P]{n:Nat}{Q:Exit->Env->World->Prop}{e:Env}{w:World}{ops:Array Oper}{rest:List Oper}
variable {d:Nat}{ty:TypeId}{ps:String}{af:Array Edge}{T E:TypeId}{x y:Operand}
theorem L.may {P:Program} [Ctx P] {n:Nat} {Q:Exit->Env->World->Prop} {e:Env} {w:World} {ops:Array Oper} {rest:List Oper} {d:Nat} {op:Op} {ty:TypeId} {ps:String} {af:Array Edge} {R:Value->World->Prop} (ht:D1 P (execOp (ev e) ⟨some d,op,ty,ps,af,none⟩))
  (hr:∀τ d',∃v w',(execOp (ev e) ⟨some d,op,ty,ps,af,none⟩).run P (N2 w τ d')= .ok (.value v) w'/\R v (N2 w' w.tape w.drawn)) (k:∀v w',R v w'->L P n ops Q rest (upd e d v) w'):L P n ops Q (⟨some d,op,ty,ps,af,none⟩::rest) e w:=by
 refine L.op' (K:=fun r w'=>∃v,r= .val v/\R v w') rfl (fun τ d'=>?_) ?_
 ·obtain⟨v,w',h1,h2⟩:=hr τ d';exact⟨.val v,w',ge0 ht h1,v,rfl,h2⟩
 ·rintro r w' ⟨v,rfl,h⟩;exact k v w' h
theorem td0 {w w':World} {τ:Tape} {d:Nat} {x:Option Nat} (h:(N2 w τ d).grownBy w' x):w.grownBy (N2 w' w.tape w.drawn) x:=⟨h.os,rfl,h.output,h.size,h.block⟩
theorem te0 {B:Nat} {w w':World} {τ:Tape} {d:Nat} (h:Below B (N2 w τ d) w'):Below B w (N2 w' w.tape w.drawn):=⟨h.os,rfl,h.output,h.size,h.block⟩
theorem L.make {m s bytes:Nat} {zv z0:Value} (hx:ev e x= .int .i64 (m:Int)) (hy:ev e y= .int .i64 (m:Int)) (hT:P.underlying T=some (.slice E)) (hi:(P.info? E).map (fun i=>(i.zero,i.size,i.bytes))=some (some zv,s,bytes)) (hz:zv.cells=Array.replicate s z0) (hs:0<s)
  (hm:m <=9223372036854775807) (hb:m*bytes <=281474976710656) (k:∀w1 b,gh0 w w1 b (Array.replicate (m*s) z0) E->L P n ops Q rest (upd e d (.slice (some ⟨b,0,none⟩) m m)) w1) :
  L P n ops Q (⟨some d,.makeSlice T x y,ty,ps,af,none⟩::rest) e w:=by
 refine L.va (w':=w.alloc (.cells (Array.replicate (m*s) z0) E)) (.B1 (K2 rfl _) rfl rfl fun τ d'=>?_) (k _ _ (j7 w _ E));show(execOp (ev e) ⟨some d,.makeSlice T x y,ty,ps,af,none⟩).run P (N2 w τ d')= .ok (.value (.slice (some ⟨(N2 w τ d').heap.size,0,none⟩) m m)) ((N2 w τ d').alloc (.cells (Array.replicate (m*s) z0) E));generalize N2 w τ d'=w;obtain⟨i,hi'⟩:∃i,P.info? E=some i:=by cases hh:P.info? E with|none=>rw[hh]at hi;cases hi|some i=>exact⟨i,rfl⟩
 rw[hi']at hi;simp only[Option.map_some,Option.some.injEq,Prod.mk.injEq]at hi;obtain⟨h1,rfl,rfl⟩:=hi;have hr:=run_make (P:=P) w T E i zv hT hi' h1 .i64 .i64 (m:Int) (m:Int) (by omega) (Int.le_refl _) (by
  have:((m*i.bytes:Nat):Int) <=281474976710656:=by omega
  rw[Int.natCast_mul,Int.mul_comm]at this;exact this) (by omega)
 rw[hz,gi0 _ _ hs]at hr;simp only[Int.toNat_natCast]at hr;simp only[execOp,hx,hy,Sem.run_bind,hr,Result.andThen_ok,Sem.run_pure]
theorem L.fd0 {s:Nat} {v:Value} {cs:Array Value} (hx:ev e x=v) (hcs:v.cells=cs) (hT:P.underlying T=some (.slice E)) (hs:(P.info? E).map (·.size)=some s) (hl:cs.size=s) (hz:∃zv,(P.info? E).bind (·.zero)=some zv) (Y1:0<s/\s <=16777216)
  (k:∀w1 b,gh0 w w1 b cs E->L P n ops Q rest (upd e d (.slice (some ⟨b,0,none⟩) 1 1)) w1) :
  L P n ops Q (⟨some d,.buildSlice T 1 #[(0,x)],ty,ps,af,none⟩::rest) e w:=by
 refine L.va (w':=w.alloc (.cells cs E)) (.B1 (K2 rfl _) rfl rfl fun τ d'=>?_) (k _ _ (j7 w _ E));show(execOp (ev e) ⟨some d,.buildSlice T 1 #[(0,x)],ty,ps,af,none⟩).run P (N2 w τ d')= .ok (.value (.slice (some ⟨(N2 w τ d').heap.size,0,none⟩) 1 1)) ((N2 w τ d').alloc (.cells cs E));generalize N2 w τ d'=w;obtain⟨zv,hz⟩:=hz;have ib1:¬(1*s>2 ^ 24):=by omega
 have I2:v.cells.size=s:=by rw[hcs,hl]
 have hf:=fun cs0:Array Value=>fun h:cs0.size=s=>Hv0 v.cells.toList 0 cs0 (by simp[h,I2]);simp only[execOp,Instr.buildSlice,List.map_toArray,List.map_cons,List.map_nil,hx,Go.Vc.run_underlying hT,Go.Vc.run_sizeOf hs,Sem.run_bind,Result.andThen_ok,ib1,if_false,Sem.run_pure];have h0:¬1*s=0:=by omega
 ·simp only[h0,if_false,Sem.run_bind,Go.Vc.ce0 hz,Result.andThen_ok,Sem.run_pure,Instr.fill,Nat.zero_mul,I2,ne_eq,not_true_eq_false,decide_false,Bool.false_or];have h3:=hf ((Array.range (1*s)).map (fun i=>zv.cells[i%zv.cells.size]!)) (by simp);simp only[List.take_zero,List.nil_append]at h3;have h4:¬(0+s>(Array.map (fun x=>zv.cells[x%zv.cells.size]!) (Array.range (1*s))).size):=by simp
  rw[<- Array.foldl_toList,Array.toList_zipIdx];rw[h3];simp[newRow,hcs]
theorem L.append {B s bytes m c':Nat} {a:Option Addr} {k c:Nat} {xs news:List Value} {zv:Value} {ad:Addr} (hx:ev e x= .slice a k c) (hy:ev e y= .slice (some ad) m c') (hT:P.underlying T=some (.slice E))
  (hi:(P.info? E).map (fun i=>(i.zero,i.size,i.bytes))=some (some zv,s,bytes)) (hz:zv.cells.size=s) (hs:0<s) (Y7:Own w B E s a k c xs)
  (hl:news.length=m*s) (bu0:∀(j:Nat) u,news[j]? =some u->w.cell? (ad.add j)=some u) (h1:∀u∈news,u.oneCell'=true) (yr0:k+m <=9223372036854775807) (hb:(k+m)*bytes <=140737488355328) (hB:B <=w.heap.size)
  (h:∀a' c2 w',Own w' B E s a' (k+m) c2 (xs++news)->w.grownBy w' (Value.ownBlock (.slice a k c))->Below B w w'->(a'=none↔a=none/\m=0)->L P n ops Q rest (upd e d (.slice a' (k+m) c2)) w') :
  L P n ops Q (⟨some d,.call ⟨.builtin .append,#[x,y],#[T,T]⟩,ty,ps,af,none⟩::rest) e w:=by
 refine L.may (R:=fun v w'=>∃a' c2,v= .slice a' (k+m) c2/\Own w' B E s a' (k+m) c2 (xs++news)/\w.grownBy w' (Value.ownBlock (.slice a k c))/\Below B w w'/\(a'=none↔a=none/\m=0)) (K2 rfl _) (fun τ d'=>?_) (by rintro v w' ⟨a',c2,rfl,h2,h3,h4,h5⟩;exact h a' c2 w' h2 h3 h4 h5);generalize hu:N2 w τ d'=u;have Y7:Own u B E s a k c xs:=by rw[<- hu];exact Y7
 have bu0:∀(j:Nat) v,news[j]? =some v->u.cell? (ad.add j)=some v:=by rw[<- hu];exact bu0
 have hB:B <=u.heap.size:=by rw[<- hu];exact hB
 obtain⟨i,hi'⟩:∃i,P.info? E=some i:=by cases hh:P.info? E with|none=>rw[hh]at hi;cases hi|some i=>exact⟨i,rfl⟩
 rw[hi']at hi;simp only[Option.map_some,Option.some.injEq,Prod.mk.injEq]at hi;obtain⟨g1,g2,g3⟩:=hi;obtain⟨v',w',hr,h2,h3,h4⟩:=run_append_own (P:=P) u B T ty E i zv s bytes hT hi' g1 g2 g3 hz hs (.slice a k c) k xs Y7 ad m c' news hl bu0 h1 (by simpa [maxLen]using yr0) hb hB;obtain⟨a',c2,rfl⟩:∃a' c2,v'= .slice a' (k+m) c2:=by
  rcases h2.2 with⟨hv,h0⟩|⟨g,cap,cur,hv,_⟩
  ·exact⟨none,0,by rw[hv,h0]⟩
  ·exact⟨_,_,hv⟩
 have cg0:Below B u w':=(Below.refl B u).grown h3 hB (fun r hr=>by
  cases a with
  |none=>cases hr
  |some q=>
   simp only[Value.ownBlock,Option.some.injEq]at hr;subst hr;exact(Y7.row (by simp)).choose_spec.2.1)
 have au1:a'=none↔a=none/\m=0:=by
  constructor
  ·intro hn;subst hn;rcases h2.2 with⟨hv,h0⟩|⟨g,cap,cur,hv,_⟩
   ·have:=h4.1 hv;exact⟨by have:=this.1;simp at this;exact this.1,this.2⟩
   ·cases hv
  ·rintro⟨rfl,rfl⟩;have hk0:k=0/\c=0:=by
    rcases Y7.2 with⟨hv,h0⟩|⟨g,cap,cur,hv,_⟩
    ·cases hv;exact⟨rfl,rfl⟩
    ·cases hv
   obtain⟨rfl,rfl⟩:=hk0;have:=h4.2 ⟨rfl,rfl⟩;simp at this;exact this.1
 refine⟨_,w',?_,a',c2,rfl,h2,by subst hu;exact td0 h3,by subst hu;exact te0 cg0,au1⟩;simp only[execOp,resolve,invoke,builtin,Sem.run_bind,Sem.run_pure,Result.andThen_ok,List.map_toArray,List.map_cons,List.map_nil,hx,hy,hr]
end
section
variable {P:Program}[Ctx P]{n:Nat}{Q:Exit->Env->World->Prop}{e:Env}{w:World}{ops:Array Oper}{rest:List Oper}
variable {d:Nat}{ty:TypeId}{ps:String}{af:Array Edge}{T E:TypeId}{x y:Operand}
theorem L.cy0 {B s bytes m c':Nat} {a src:Option Addr} {k c:Nat} {xs news:List Value} {zv:Value} (hx:ev e x= .slice a k c) (hy:ev e y= .slice src m c') (hT:P.underlying T=some (.slice E))
  (hi:(P.info? E).map (fun i=>(i.zero,i.size,i.bytes))=some (some zv,s,bytes)) (hz:zv.cells.size=s) (hs:0<s) (Y7:Own w B E s a k c xs) (ic1:src=none->m=0/\c'=0)
  (hl:news.length=m*s) (bu0:∀ad,src=some ad->∀(j:Nat) u,news[j]? =some u->w.cell? (ad.add j)=some u) (h1:∀u∈news,u.oneCell'=true) (yr0:k+m <=9223372036854775807) (hb:(k+m)*bytes <=140737488355328) (hB:B <=w.heap.size)
  (h:∀a' c2 w',Own w' B E s a' (k+m) c2 (xs++news)->w.grownBy w' (Value.ownBlock (.slice a k c))->Below B w w'->(a'=none↔a=none/\m=0)->L P n ops Q rest (upd e d (.slice a' (k+m) c2)) w') :
  L P n ops Q (⟨some d,.call ⟨.builtin .append,#[x,y],#[T,T]⟩,ty,ps,af,none⟩::rest) e w:=by
 cases src with
 |some ad=>exact L.append hx hy hT hi hz hs Y7 hl (bu0 ad rfl) h1 yr0 hb hB h
 |none=>
  obtain⟨rfl,rfl⟩:=ic1 rfl;obtain⟨i,hi'⟩:∃i,P.info? E=some i:=by cases hh:P.info? E with|none=>rw[hh]at hi;cases hi|some i=>exact⟨i,rfl⟩
  have hr:=fun τ d'=>run_append_owned_none (P:=P) (w:=N2 w τ d') B T ty E i s hT hi' (.slice a k c) k xs Y7;have hn:news=[]:=List.eq_nil_of_length_eq_zero (by omega);subst hn;refine L.va (v:=.slice a (k+0) c) (w':=w) (.B1 (K2 rfl _) rfl rfl fun τ d'=>?_) (h a c w (by simpa using Y7) ⟨rfl,rfl,rfl,Nat.le_refl _,fun _ _ _=>rfl⟩ (Below.refl _ _) (by simp));simp only[execOp,resolve,invoke,builtin,Sem.run_bind,Sem.run_pure,Result.andThen_ok,List.map_toArray,List.map_cons,List.map_nil,hx,hy,hr τ d'];rfl
end
section
variable {P:Program}[Ctx P]
end
section
variable {P:Program}{ρ:Operand->Value}{w:World}{d:Option Nat}{ty:TypeId}{ps:String}{af:Array Edge}{g:Option (Nat×Bool)}{y:Operand}{T:TypeId}
theorem C3 {parts:List (Nat×Operand)} {vs:List (Nat×Value)} {cells:Array Value} (hv:parts.map (fun(i,y)=>(i,ρ y))=vs) (hb:P.built T vs=some cells) :
  Does P (execOp ρ ⟨d,.build T parts.toArray,ty,ps,af,g⟩) w (.val (.agg cells)) w :=
 .B1 (K2 rfl _) rfl rfl fun _τ _d=>Go.Vc.C3 (hv:=hv) (hb:=hb)
end
section
variable {P:Program}[Ctx P]
end
section
variable {P:Program}[Ctx P]
end
section
variable {P:Program}{T:TypeId}{ρ:Operand->Value}{w:World}{d:Option Nat}{ty:TypeId}{ps:String}{af:Array Edge}{g:Option (Nat×Bool)}{x:Operand}
theorem jz0 {b o N m:Nat} {F G:Nat->Value} {E:TypeId} {u:TypeDesc} (hx:ρ x= .pointer (some ⟨b,o,none⟩)) (hT:P.underlying T=some u) (hu:g7 u=false) (hs:(P.info? T).map (·.size)=some m) (hB:O0 w b (arr N F) E) (ho:o+m <=N) (hG:∀k,k<m->F (o+k)=G k) :
  Does P (execOp ρ ⟨d,.load T x,ty,ps,af,g⟩) w (.val (.agg (arr m G))) w :=
 .B1 (K2 rfl _) rfl rfl fun _τ _d=>Go.Vc.jz0 (hx:=hx) (hT:=hT) (hu:=hu) (hs:=hs) (hB:=hB) (ho:=ho) (hG:=hG)
end
section
variable {P:Program}[Ctx P]
end
theorem ends.Ot0 {P:Program} {fn:Func} {R:Value->World->Prop} {x:Exit} {e:Env} {w:World} {t b:Nat} {cs:Array Value} {T E:TypeId} {u:TypeDesc} (hx:x= .normal\/x= .ret) (hr:fn.results=#[.cell t T])
  (he:e t= .pointer (some ⟨b,0,Option.none⟩)) (hT:P.underlying T=some u) (hu:g7 u=false) (hs:(P.info? T).map (·.size)=some cs.size) (hB:O0 w b cs E) (h:R (.agg cs) w):ends P fn R x e w :=
 ⟨hx,_,fun tmps ht=>af0 ag0 fun τ d=>results_cell_row hr tmps (N2 w τ d) b E cs (0,0) u (by rw[ht,he]) hB hT (by cases u <;> first|rfl|(simp[g7]at hu)) hs,h⟩
section
end
section
variable {P:Program}[Ctx P]
end
section
variable {P:Program}{T:TypeId}{ρ:Operand->Value}{w:World}{d:Option Nat}{ty:TypeId}{ps:String}{af:Array Edge}{g:Option (Nat×Bool)}{x y:Operand}
theorem J1 {p:Addr} (hx:ρ x= .pointer (some p)):Does P (execOp ρ ⟨d,.nilCheck x,ty,ps,af,g⟩) w (.val (.pointer (some p))) w :=
 .B1 (Bd0 hx) rfl rfl fun _τ _d=>Go.Vc.J1 (hx:=hx)
theorem M1 {E T:TypeId} {b o n s i:Nat} (hx:ρ x= .pointer (some ⟨b,o,none⟩)) (hy:ρ y= .int .i64 (i:Int)) (hT:P.underlying T=some (.array n E)) (hs:(P.info? E).map (·.size)=some s) (h:i<n) :
  Does P (execOp ρ ⟨d,.indexAddr T x y,ty,ps,af,g⟩) w (.val (.pointer (some ⟨b,o+i*s,none⟩))) w :=
 .B1 (K2 rfl _) rfl rfl fun _τ _d=>Go.Vc.M1 (hx:=hx) (hy:=hy) (hT:=hT) (hs:=hs) (h:=h)
theorem E5 {q:Option Addr} {E T':TypeId} (hx:ρ x= .pointer q) (hy:ρ y= .pointer none) (hT:P.underlying T=some (.pointer E)) :
  Does P (execOp ρ ⟨d,.binOp .eql T x y T',ty,ps,af,g⟩) w (.val (.bool q.isNone)) w :=
 .B1 (Bb0 hx hy) rfl rfl fun _τ _d=>Go.Vc.E5 (hx:=hx) (hy:=hy) (hT:=hT)
end
section
variable {P:Program}[Ctx P]
end
section
variable {P:Program}[Ctx P]{n:Nat}{ops:Array Oper}{Q:Exit->Env->World->Prop}{rest:List Oper}{e:Env}{w:World}{ty:TypeId}{ps:String}{af:Array Edge}{x y:Operand}{T:TypeId}
theorem L.storeAll {b s:Nat} {cs:Array Value} {vs:List Value} {E:TypeId} {v:Value} (hx:ev e x= .pointer (some ⟨b,0,none⟩)) (hy:ev e y=v) (hvs:v.cells=vs.toArray) (hs:(P.info? T).map (·.size)=some s) (hl:vs.length=s) (hc:cs.size=s) (h1:∀u∈vs,u.oneCell'=true) (hB:O0 w b cs E)
  (k:∀w1,O0 w1 b vs.toArray E->w.grownBy w1 (some b)->w1.heap.size=w.heap.size->L P n ops Q rest e w1):L P n ops Q (⟨none,.store T x y,ty,ps,af,none⟩::rest) e w:=by
 refine L.yq0 hx hy hvs hs (by simpa using hl) (by simpa using h1) hB (by omega) ?_;have h2:setRow cs 0 vs.toArray.toList=vs.toArray:=by rw[List.toList_toArray];exact nd0 (by omega)
 rw[h2];exact k _ (fa0 _ _ _ hB) (Hw0 (fu0 _ _) (.inl rfl) _ _) (ez0 _ _ _ _)
end
section
variable {P:Program}[Ctx P]{n:Nat}{Q:Exit->Env->World->Prop}{e:Env}{w:World}{ops:Array Oper}{rest:List Oper}
variable {d:Nat}{ty:TypeId}{ps:String}{af:Array Edge}{T E:TypeId}{x y z:Operand}
theorem L.Ou0 {B s bytes m c':Nat} {b k c:Nat} {xs news:List Value} {zv:Value} {ad:Addr} (hx:ev e x= .slice (some ⟨b,0,none⟩) k c) (hy:ev e y= .slice (some ad) m c') (hT:P.underlying T=some (.slice E))
  (hi:(P.info? E).map (fun i=>(i.zero,i.size,i.bytes))=some (some zv,s,bytes)) (hz:zv.cells.size=s) (hs:0<s) (Y7:Own w B E s (some ⟨b,0,none⟩) k c xs)
  (hl:news.length=m*s) (bu0:∀(j:Nat) u,news[j]? =some u->w.cell? (ad.add j)=some u) (h1:∀u∈news,u.oneCell'=true) (yr0:k+m <=9223372036854775807) (hb:(k+m)*bytes <=140737488355328) (hB:B <=w.heap.size)
  (h:∀b' c2 w',Own w' B E s (some ⟨b',0,none⟩) (k+m) c2 (xs++news)->w.grownBy w' (some b)->((b'=b/\c2=c)\/(b'=w.heap.size/\Below w.heap.size w w'))->L P n ops Q rest (upd e d (.slice (some ⟨b',0,none⟩) (k+m) c2)) w') :
  L P n ops Q (⟨some d,.call ⟨.builtin .append,#[x,y],#[T,T]⟩,ty,ps,af,none⟩::rest) e w:=by
 refine L.may (R:=fun v w'=>∃b' c2,v= .slice (some ⟨b',0,none⟩) (k+m) c2/\Own w' B E s (some ⟨b',0,none⟩) (k+m) c2 (xs++news)/\w.grownBy w' (some b)/\((b'=b/\c2=c)\/(b'=w.heap.size/\Below w.heap.size w w'))) (K2 rfl _) (fun τ d'=>?_) (by rintro v w' ⟨b',c2,rfl,h2,h3,h4⟩;exact h b' c2 w' h2 h3 h4);generalize hu:N2 w τ d'=u;have Y7:Own u B E s (some ⟨b,0,none⟩) k c xs:=by rw[<- hu];exact Y7
 have bu0:∀(j:Nat) v,news[j]? =some v->u.cell? (ad.add j)=some v:=by rw[<- hu];exact bu0
 have hB:B <=u.heap.size:=by rw[<- hu];exact hB
 obtain⟨i,hi'⟩:∃i,P.info? E=some i:=by cases hh:P.info? E with|none=>rw[hh]at hi;cases hi|some i=>exact⟨i,rfl⟩
 rw[hi']at hi;simp only[Option.map_some,Option.some.injEq,Prod.mk.injEq]at hi;obtain⟨g1,g2,g3⟩:=hi;obtain⟨v',w',hr,h2,h3,h4⟩:=run_append_own (P:=P) u B T ty E i zv s bytes hT hi' g1 g2 g3 hz hs (.slice (some ⟨b,0,none⟩) k c) k xs Y7 ad m c' news hl bu0 h1 (by simpa [maxLen]using yr0) hb hB;have hv:∃b' c2,v'= .slice (some ⟨b',0,none⟩) (k+m) c2/\((b'=b/\c2=c)\/(b'=u.heap.size/\Below u.heap.size u w')):=by
  rcases Y7.2 with⟨hv0,_⟩|⟨g,cap,cur,hv0,hbg,hg,hnc,hcm,hcs,nr1⟩
  ·cases hv0
  ·cases hv0;by_cases Sv0:k+m <=c
   ·have id1:k*i.size+news.length <=cur.size:=by rw[hl,hcs,g2,<- Nat.add_mul];exact Nat.mul_le_mul_right _ Sv0
    have:=run_append_room (P:=P) u T ty E i hT hi' b k c cur hg ad m c' news (by rw[g2];exact hl) bu0 h1 Sv0 id1;rw[hr]at this;cases this;exact⟨_,_,rfl,.inl ⟨rfl,rfl⟩⟩
   ·have holds:∀j z,xs[j]? =some z->u.cell? ((⟨b,0,none⟩:Addr).add j)=some z:=Y7.cells (g:=b) rfl;have:=run_append_grow (P:=P) u T ty E i zv hT hi' g1 ⟨b,0,none⟩ k c xs (by rw[g2];exact Y7.1) holds ad m c' news (by rw[g2];exact hl) bu0 (by omega) (by omega) (growslice_fits (by omega) (by rw[g3];exact hb));rw[hr]at this;cases this;exact⟨_,_,rfl,.inr ⟨rfl,(Below.refl _ _).drew.alloc (Nat.le_refl _) _⟩⟩
 obtain⟨b',c2,rfl,hbb⟩:=hv;refine⟨_,w',?_,b',c2,rfl,h2,by subst hu;exact td0 h3,by subst hu;exact hbb.imp id fun h=>⟨h.1,te0 h.2⟩⟩;simp only[execOp,resolve,invoke,builtin,Sem.run_bind,Sem.run_pure,Result.andThen_ok,List.map_toArray,List.map_cons,List.map_nil,hx,hy,hr]
end
section
variable {P:Program}[Ctx P]{ops:Array Oper}{V:(Nat->Bool)->Prop}{J:(Nat->Bool)->World->Prop}{n:Nat}
theorem Ik0 (h:Ord n ops) {e0:Env} {vals:Nat->Value} {k:Nat} (hk:k<ops.size) (Ii0:∀i o,i<k->ops[i]? =some o->Loc P ops V J i o (EE e0 ops.toList vals i) (vals i))
  (aw0:∀D,V D->∀i,k <=i->i<ops.size->D i=true->∀j,j<i->D j=true)
  {Q:Exit->Act->World->Prop} (hQ:∀a w D,Rep n a (EE e0 ops.toList vals k)->(∀i,i<k->D i=true)->J D w->wpOps P ops Q (List.range' k (ops.size-k)) a w) :
  ∀{listed:Array Bool} {σ:List Nat},Lin ops listed σ->(∀τ ρ,σ=τ++ρ->V (fun j=>listed.getD j false ||τ.contains j)) ->
   ∀(a:Act) (e:Env) (w:World),listed.size=ops.size->(∀j,k <=j->listed.getD j false=false)->Rep n a e->Mid ops e0 vals listed e->J (fun j=>listed.getD j false) w->wpOps P ops Q σ a w:=by
 intro listed σ H5
 induction H5 with
 | @nil listed hr=>
  intro _ a e w hs hkf ha hm hJ;have:=ft0 h hs hr k (by omega);rw[hkf k (Nat.le_refl _)]at this;cases this
 | @cons listed i σ hi hl ih=>
  intro hV a e w hs hkf ha hm hJ;have hi0:=hi;obtain⟨h1,o,ho,ad0⟩:=mem_ready.1 hi;have hio:i<ops.size:=(Array.getElem?_eq_some_iff.1 ho).1;have x7:i<listed.size:=by omega
  have hDi:(fun j=>listed.getD j false) i=false:=by
   show listed.getD i false=false;simp only[Array.getD_eq_getD_getElem?,x7,Array.getElem?_eq_getElem,Option.getD_some]at h1⊢;exact h1
  have hVD:V (fun j=>listed.getD j false):=by
   have:=hV [] (i::σ) rfl;have e1:(fun j=>listed.getD j false ||([]:List Nat).contains j)=fun j=>listed.getD j false:=funext fun j=>by simp
   rw[e1]at this;exact this
  have hVD:V (fun j=>listed.getD j false)/\V (O4 (fun j=>listed.getD j false) i):=by
   refine⟨hVD,?_⟩;have:=hV [i] σ rfl;have e1:(fun j=>listed.getD j false ||([i]:List Nat).contains j)=O4 (fun j=>listed.getD j false) i:=funext fun j=>by
    unfold O4;by_cases hj:j=i
    ·simp[hj]
    ·simp[hj]
   rw[e1]at this;exact this
  by_cases hik:k <=i
  ·have A6:∀j,j<i->listed.getD j false=true:=fun j hj=>by
    have:=aw0 _ hVD.2 i hik hio (by simp[O4]) j hj;unfold O4 at this;rw[if_neg (by omega)]at this;exact this
   have z9:i=k:=by
    rcases Nat.lt_or_ge k i with h3|h3
    ·have:=A6 k h3;rw[hkf k (Nat.le_refl _)]at this;cases this
    ·omega
   subst z9;refine U572 ?_;intro hσ;have he:e=EE e0 ops.toList vals i:=by
    funext t;have hlz:∀j:Nat,ops.toList[j]? =ops[j]?:=fun j=>by rw[Array.getElem?_toList]
    by_cases hex:∃(j:Nat) (p:Oper),j<i/\ops[j]? =some p/\p.dst=some t
    ·obtain⟨j,p,hj,hp,hd⟩:=hex;exact U381
    ·rw[hm.mx0 t (fun j p hp hd=>by
      rcases Nat.lt_or_ge j i with h3|h3
      ·exact absurd ⟨j,p,h3,hp,hd⟩ hex
      ·exact hkf j h3)]
     exact(ii0 e0 ops.toList vals t _ (fun j p hj hp hd=>hex ⟨j,p,hj,by rw[<- hlz];exact hp,hd⟩)).symm
   subst he;exact hQ a w _ ha A6 hJ
  ·have hlk:=mz0 h hm ho ad0;refine U312 ?_;intro hex hwa;have hV':∀τ ρ,σ=τ++ρ->V (fun j=>(listed.setIfInBounds i true).getD j false ||τ.contains j):=by
    intro τ ρ hσ;have:=hV (i::τ) ρ (by rw[hσ];rfl);have e1:(fun j=>listed.getD j false ||(i::τ).contains j)=fun j=>(listed.setIfInBounds i true).getD j false ||τ.contains j:=by
     funext j;by_cases hj:i=j
     ·subst hj;simp[x7]
     ·rw[getD_set_ne false hj];simp[Ne.symm hj]
    rw[e1]at this;exact this
   have next:∀w',J (O4 (fun j=>listed.getD j false) i) w'->wpOps P ops Q σ (a.put o.dst (vals i)) w':=by
    intro w' hJ';refine ih hV' _ _ w' (by simp[hs]) (fun j hj=>by rw[getD_set_ne false (by omega)];exact hkf j hj) (ha.put (h.dst i o ho) (vals i)) (hm.step h ho x7) ?_;rw[ij0 x7];exact hJ'
   unfold wpOps;rw[ho];simp only;rw[p5 ha,hwa];rcases Ii0 i o (by omega) ho with⟨hw,hl⟩|⟨hw,hv,hl⟩
   ·rw[if_pos hw];have P5:=hl (fun j=>listed.getD j false) w hDi hVD ad0 hJ;rw[<- hex,<- ha.eval]at P5;exact nj0 P5 next
   ·rw[if_neg (by rw[hw];simp)];exact U548
theorem W.Vd0 {id:Nat} {l:List Oper} {Q:Exit->Env->World->Prop} {e:Env} {w:World} (k:Nat) (hm:P.follows .mixedOrders=true) (hB:ye0 n l.toArray=true) (hA:ka0 l k=true) (hk:Nat.blt k l.length=true)
  (h:∀V:(Nat->Bool)->Prop,(∀D D',V D->V D'->(∀k,D k=true->D' k=true)\/(∀k,D' k=true->D k=true))->(∀D,V D->∀i o,l[i]? =some o->D i=true->O6 o D) ->
   ∃J:(Nat->Bool)->World->Prop,J (fun _=>false) w.drew/\JL P l.toArray V J (fun e'=>∀D w',(∀i,i<k->D i=true)->J D w'->L P n l.toArray Q (l.drop k) e' w') 0 (l.take k) e):W P n (.region id l.toArray true) Q e w:=by
 intro a ha;have ho:=At0 hB;have hkl:k<l.length:=by rw[Nat.blt_eq]at hk;exact hk
 refine wp_region_draw fun t=>?_;simp only[Region.schedule,hm,Bool.true_or,if_true];have H5:=jx0 l.toArray l.toArray.size t (Array.replicate l.toArray.size false) (by simp) (by simp);unfold Region.linearise;generalize Region.linearise.go .any l.toArray l.toArray.size t (Array.replicate l.toArray.size false) []=σ at H5⊢;have dy0:=dv0 H5 (fun i o _ hi=>by rw[K0]at hi;cases hi) (by simp);have br0:∀D,Pre σ D->∀i o,l[i]? =some o->D i=true->O6 o D:=by
  rintro D ⟨τ,ρ,hσ,hD⟩ i o hi hDi x hx hb;have:=dy0 τ ρ hσ i o (by simpa using hi) (.inr ((hD i).1 hDi)) x hx hb;rcases this with h1|h1
  ·rw[K0]at h1;cases h1
  ·exact(hD _).2 h1
 obtain⟨J,hJ,hjl⟩:=h (Pre σ) (fun D D' h1 h2=>h1.chain h2) br0;obtain⟨vals,h1,h2⟩:=JL.collect (l.take k) 0 e hjl;have hEE:∀j,j <=k->EE e (l.take k) vals j=EE e l vals j:=by
  intro j
  induction j with
  |zero=>intro _;rfl
  |succ j ih=>
   intro hj;simp only[EE,ih (by omega)];rw[List.getElem?_take_of_lt (by omega)]
 have Y1:(l.take k).length=k:=by simp;omega
 refine Ik0 (V:=Pre σ) (J:=J) ho (e0:=e) (vals:=vals) (k:=k) (by simpa using hkl) (fun i o' hi ho'=>?_) (fun D hD i z9 x7=>iq0 hA br0 hD i z9 (by simpa using x7)) (fun a' w' D ha' hD hJ'=>?_) H5 ?_ a e _ (by simp) (fun j _=>K0 _ _) ha ⟨fun j o t _ _ hl=>?_,fun t _=>rfl⟩ ?_
 ·have:=h1 i o' (by rw[List.getElem?_take_of_lt hi];simpa using ho');rw[hEE i (by omega)]at this;simpa using this
 ·rw[Y1,hEE k (Nat.le_refl _)]at h2;have h3:=h2 D w' hD hJ';have h4:=h3 (fun o' ho'=>by
   obtain⟨i,hi⟩:=List.mem_iff_getElem?.1 ho';rw[List.getElem?_drop]at hi;exact ho.dst (k+i) o' (by simpa using hi)) a' (by simpa using ha')
  have h5:=wpOps_eq_wpList (P:=P) (ops:=l.toArray) (Q:=lift n Q) (l.drop k) k (fun j=>by rw[List.getElem?_drop];simp);rw[List.length_drop]at h5;have h6:l.toArray.size-k=l.length-k:=by simp
  rw[h6,h5];exact h4
 ·intro τ ρ hσ;exact⟨τ,ρ,hσ,fun k=>by show((Array.replicate l.toArray.size false).getD k false ||τ.contains k)=true↔_;rw[K0];simp⟩
 ·rw[K0]at hl;cases hl
 ·have:(fun k=>(Array.replicate l.toArray.size false).getD k false)=fun _=>false:=funext fun k=>K0 _ _;rw[this];exact hJ
theorem W.ej0 {id:Nat} {l:List Oper} {Q:Exit->Env->World->Prop} {e:Env} {w:World} (k:Nat) (Cl:World->Prop) (hm:P.follows .mixedOrders=true) (hB:ye0 n l.toArray=true) (hA:ka0 l k=true) (hk:Nat.blt k l.length=true)
  (hC:Cl w.drew) (h:QL P l.toArray Cl (fun e'=>∀w',Cl w'->L P n l.toArray Q (l.drop k) e' w') 0 (l.take k) e):W P n (.region id l.toArray true) Q e w:=by
 refine W.Vd0 k hm hB hA hk fun V _ _=>⟨fun _=>Cl,hC,?_⟩
 have mono:∀(l':List Oper) (i:Nat) (e:Env),JL P l.toArray V (fun _=>Cl) (fun e'=>∀w',Cl w'->L P n l.toArray Q (l.drop k) e' w') i l' e->JL P l.toArray V (fun _=>Cl) (fun e'=>∀(D:Nat->Bool) w',(∀i,i<k->D i=true)->Cl w'->L P n l.toArray Q (l.drop k) e' w') i l' e:=by
  intro l'
  induction l' with
  |nil=>exact fun i e h _ w' _ hw=>h w' hw
  |cons o l' ih=>exact fun i e ⟨v,h1,h2⟩=>⟨v,h1,ih _ _ h2⟩
 exact mono _ 0 e (h V)
end
section
variable {P:Program}[Ctx P]
end
section
variable {P:Program}{ρ:Operand->Value}{w:World}{d:Option Nat}{ty:TypeId}{ps:String}{af:Array Edge}{g:Option (Nat×Bool)}
variable {x y:Operand}{T T' E:TypeId}
theorem n8 {q:Option Addr} (hx:ρ x= .pointer q) (hy:ρ y= .pointer none) (hT:P.underlying T=some (.pointer E)) :
  Does P (execOp ρ ⟨d,.binOp .neq T x y T',ty,ps,af,g⟩) w (.val (.bool q.isSome)) w :=
 .B1 (yo0 hx hy) rfl rfl fun _τ _d=>Go.Vc.n8 (hx:=hx) (hy:=hy) (hT:=hT)
theorem o8 {v:Value} {b:Bool} {u:TypeDesc} (hx:ρ x=v) (hv:(v= .nilFunc/\b=true)\/(∃f xs ys,v= .func f xs ys/\b=false)) (hy:ρ y= .nilFunc) (hT:P.underlying T=some u) (hu:∃a b c,u= .func a b c) :
  Does P (execOp ρ ⟨d,.binOp .eql T x y T',ty,ps,af,g⟩) w (.val (.bool b)) w :=
 .B1 (Ez0 (at1 hv) hx hy) rfl rfl fun _τ _d=>Go.Vc.o8 (hx:=hx) (hv:=hv) (hy:=hy) (hT:=hT) (hu:=hu)
theorem dx0 {v:Value} {b:Bool} {u:TypeDesc} (hx:ρ x=v) (hv:(v= .nilFunc/\b=false)\/(∃f xs ys,v= .func f xs ys/\b=true)) (hy:ρ y= .nilFunc) (hT:P.underlying T=some u) (hu:∃a b c,u= .func a b c) :
  Does P (execOp ρ ⟨d,.binOp .neq T x y T',ty,ps,af,g⟩) w (.val (.bool b)) w :=
 .B1 (Bc0 (at1 hv) hx hy) rfl rfl fun _τ _d=>Go.Vc.dx0 (hx:=hx) (hv:=hv) (hy:=hy) (hT:=hT) (hu:=hu)
theorem ir0 {f:FuncId} {fn:Func} {aT:Array TypeId} {ys:Array Value} (hx:ρ x= .func (.func f) #[] ys) (hf:P.funcs[f]? =some fn) (hb:fn.body.isSome=true) (hn:(fn.name== "runtime.NumGoroutine")=false) :
  Does P (execOp ρ ⟨d,.call ⟨.value x,#[],aT⟩,ty,ps,af,g⟩) w (.enter f ys) w :=
 .B1 (bs0 hx hf hb hn) rfl rfl fun _τ _d=>Go.Vc.ir0 (hx:=hx) (hf:=hf) (hb:=hb) (hn:=hn)
end
section
variable {P:Program}[Ctx P]
end
section
end
section
variable {P:Program}[Ctx P]{n:Nat}{ops:Array Oper}{Q:Exit->Env->World->Prop}{rest:List Oper}{e:Env}{w:World}{ty:TypeId}{ps:String}{af:Array Edge}{x y:Operand}{T:TypeId}
theorem L.put {b o s:Nat} {cs:Array Value} {vs:List Value} {E:TypeId} {v:Value} (H6:Array Value) (hx:ev e x= .pointer (some ⟨b,o,none⟩)) (hy:ev e y=v) (hvs:v.cells.toList=vs) (hs:(P.info? T).map (·.size)=some s) (hl:vs.length=s) (h1:vs.all Value.oneCell'=true) (hB:O0 w b cs E) (ho:o+s <=cs.size) (hcs:setRow cs o vs=H6)
  (k:∀w1,O0 w1 b H6 E->w.grownBy w1 (some b)->w1.heap.size=w.heap.size->L P n ops Q rest e w1):L P n ops Q (⟨none,.store T x y,ty,ps,af,none⟩::rest) e w:=by
 have Ve0:v.cells=vs.toArray:=by rw[<- hvs]
 refine L.yq0 hx hy Ve0 hs (by simpa using hl) (by simpa using h1) hB ho ?_;rw[List.toList_toArray,hcs];exact k _ (fa0 _ _ _ hB) (Hw0 (fu0 _ _) (.inl rfl) _ _) (ez0 _ _ _ _)
theorem L.pu {b s:Nat} {cs:Array Value} {E:TypeId} {v:Value} (o:Nat) (vs:List Value) (H6:Array Value) (hs:(P.info? T).map (·.size)=some s) (hB:O0 w b cs E) (k:∀w1,O0 w1 b H6 E->w.grownBy w1 (some b)->w1.heap.size=w.heap.size->L P n ops Q rest e w1) (hx:ev e x= .pointer (some ⟨b,o,none⟩):=by rfl) (hy:ev e y=v:=by rfl) (hvs:v.cells.toList=vs:=by rfl) (hl:vs.length=s:=by rfl) (h1:vs.all Value.oneCell'=true:=by rfl) (ho:o+s <=cs.size:=by exact Nat.le_of_ble_eq_true rfl) (hcs:setRow cs o vs=H6:=by rfl):L P n ops Q (⟨none,.store T x y,ty,ps,af,none⟩::rest) e w:=L.put H6 hx hy hvs hs hl h1 hB ho hcs k
theorem L.pa {b s:Nat} {cs:Array Value} {E:TypeId} {v:Value} (vs:List Value) (hs:(P.info? T).map (·.size)=some s) (hB:O0 w b cs E) (k:∀w1,O0 w1 b vs.toArray E->w.grownBy w1 (some b)->w1.heap.size=w.heap.size->L P n ops Q rest e w1) (hx:ev e x= .pointer (some ⟨b,0,none⟩):=by rfl) (hy:ev e y=v:=by rfl) (hvs:v.cells.toList=vs:=by rfl) (hl:vs.length=s:=by rfl) (h1:vs.all Value.oneCell'=true:=by rfl) (ho:0+s <=cs.size:=by exact Nat.le_of_ble_eq_true rfl) (hcs:setRow cs 0 vs=vs.toArray:=by exact nd0 rfl):L P n ops Q (⟨none,.store T x y,ty,ps,af,none⟩::rest) e w:=L.put vs.toArray hx hy hvs hs hl h1 hB ho hcs k
end
theorem ends.cell {P:Program} [Ctx P] {fn:Func} {R:Value->World->Prop} {x:Exit} {e:Env} {w:World} {t b:Nat} {cs:Array Value} {T E:TypeId} {u:TypeDesc} (hx:x= .normal\/x= .ret) (hr:fn.results=#[.cell t T])
  (he:e t= .pointer (some ⟨b,0,Option.none⟩)) (hT:P.underlying T=some u) (hu:g7 u=false) (hs:(P.info? T).map (·.size)=some cs.size) (hB:O0 w b cs E) (h:R (.agg cs) w):ends P fn R x e w:=ends.Ot0 hx hr he hT hu hs hB h
theorem ends.we0 {P:Program} [Ctx P] {fn:Func} {R:Value->World->Prop} {x:Exit} {e:Env} {w:World} {t u b:Nat} {cs:Array Value} {T E:TypeId} {d:TypeDesc} (hx:x= .normal\/x= .ret) (hr:fn.results=#[.cell t T,.tmp u])
  (he:e t= .pointer (some ⟨b,0,Option.none⟩)) (hT:P.underlying T=some d) (hu:g7 d=false) (hs:(P.info? T).map (·.size)=some cs.size) (hB:O0 w b cs E) (h:R (.tuple #[.agg cs,e u]) w):ends P fn R x e w :=
 ⟨hx,_,fun tmps ht=>af0 ag0 fun τ d'=>by
  have hB:O0 (N2 w τ d') b cs E:=hB;generalize N2 w τ d'=w at hB⊢;have h1:(loadVar T ⟨b,0,Option.none⟩).run P w= .ok (.agg cs) w:=by
   have h2:∀j v,cs.toList[j]? =some v->w.cell? ((⟨b,0,Option.none⟩:Addr).add j)=some v:=fun j v hj=>by
    rw[Addr.add_lit,Nat.zero_add];exact hB.cell (by simpa using hj)
   have:=run_loadCells_list (P:=P) (w:=w) ⟨b,0,Option.none⟩ cs.toList h2;simp only[Array.length_toList]at this;simp[loadVar,Go.Vc.W8 hT,hu,Go.Vc.run_sizeOf hs,this]
  have h3:tmps.getD t undef= .pointer (some ⟨b,0,Option.none⟩):=by rw[ht,he]
  rw[results_cell_tmp hr,h3];simp[asAddr,h1,ht],h⟩
theorem o4 {P:Program} [Ctx P] {ρ:Operand->Value} {w:World} {d:Option Nat} {ty:TypeId} {ps:String} {af:Array Edge} {g:Option (Nat×Bool)} {fn:Fn} {l:List Operand} {vs:List Value} (h:l.map ρ=vs) :
  Does P (execOp ρ ⟨d,.makeFunc fn #[] l.toArray,ty,ps,af,g⟩) w (.val (.func fn #[] vs.toArray)) w :=
 .B1 (K2 rfl _) rfl rfl fun _τ _d=>Go.Vc.o4 (h:=h)
section
variable {P:Program}[Ctx P]
end
section
variable {P:Program}[Ctx P]{ops:Array Oper}{I:(Nat->Bool)->Env->World->Prop}
def ie1 (P:Program) [Ctx P] (I:(Nat->Bool)->Env->World->Prop) (i:Nat) (o:Oper) (D:Nat->Bool) (e:Env) (r:Out) (w':World):Prop:=match r with
 | .val v=>I (O4 D i) (j3 e o.dst v) w'
 | .skip=>I (O4 D i) (j3 e o.dst undef) w'
 | .enter f args=>C P f args w' (fun v w''=>I (O4 D i) (j3 e o.dst v) w'')
 | .panic _=>False
def Sw0 (P:Program) [Ctx P] (ops:Array Oper) (I:(Nat->Bool)->Env->World->Prop) (i:Nat) (o:Oper) (D:Nat->Bool) (e:Env) (w:World):Prop :=
 (Region.wanted o (W2 ops e)=true/\∀τ d,∃r w',yb0 P (execOp (ev e) o) (N2 w τ d) r w'/\ie1 P I i o D e r (N2 w' w.tape w.drawn)) \/
 (Region.wanted o (W2 ops e)=false/\I (O4 D i) (j3 e o.dst undef) w)
end
section
variable {P:Program}[Ctx P]
end
section
variable {P:Program}{ρ:Operand->Value}{w:World}{d:Option Nat}{ty:TypeId}{ps:String}{af:Array Edge}{g:Option (Nat×Bool)}
theorem A9 {S:TypeId} {x:Operand} {v:Value} {td:TypeDesc} (hx:ρ x=v) (hT:P.underlying S=some td) (hn:(match td with| .interface _=>false|_=>true)=true) :
  Does P (execOp ρ ⟨d,.makeInterface S x,ty,ps,af,g⟩) w (.val (.iface S v)) w :=
 .B1 (K2 rfl _) rfl rfl fun _τ _d=>Go.Vc.A9 (hx:=hx) (hT:=hT) (hn:=hn)
end
section
variable {P:Program}[Ctx P]
end
def ea0 (P:Program) [Ctx P] (n:Nat) (c:Code) (Q:Exit->Env->World->Prop):Nat->Env->World->Prop
 |0,_,_=>False
 |k+1,e,w=>W P n c (W9 (ea0 P n c Q k) Q) e w
theorem W.rounds {P:Program} [Ctx P] {n:Nat} {c:Code} {Q:Exit->Env->World->Prop} {e:Env} {w:World} (k:Nat) (h:ea0 P n c Q k e w):W P n (.loop c) Q e w:=by
 refine W.loop (ea0 P n c Q) k h fun k e w h=>?_;cases k with
 |zero=>exact h.elim
 |succ k=>
  refine W.mono (fun x e w hx=>?_) h;cases x with
  |normal=>exact⟨k,Nat.lt_succ_self k,hx⟩
  |_=>exact hx
theorem ea0.go {P:Program} [Ctx P] {n:Nat} {c:Code} {Q:Exit->Env->World->Prop} {e:Env} {w:World} {k:Nat} (h:W P n c (W9 (ea0 P n c Q k) Q) e w):ea0 P n c Q (k+1) e w:=h
def FL (P:Program) [Ctx P] (n:Nat) (l0:List Oper) (K:World->Prop) (ch:Nat->Bool) (Q:Env->World->Prop):List Nat->Env->World->Prop
 | [],e,w=>Q e w
 |i::rest,e,w=>∃o,l0[i]? =some o/\if ch i=true then L P n l0.toArray (fun x e' w'=>x= .normal/\K w'/\FL P n l0 K ch Q rest e' w') [o] e w
  else ∃v,((Region.wanted o (W2 l0.toArray e)=true/\∀w',K w'->Does P (execOp (ev e) o) w' (.val v) w')\/(Region.wanted o (W2 l0.toArray e)=false/\v=undef))/\FL P n l0 K ch Q rest (j3 e o.dst v) w
section
variable {P:Program}[Ctx P]{n:Nat}{l0:List Oper}{K:World->Prop}{ch:Nat->Bool}{Q:Env->World->Prop}{rest:List Nat}{e:Env}{w:World}{d:Nat}{op:Op}{ty:TypeId}{ps:String}{af:Array Edge}{v:Value}{i j:Nat}{want:Bool}{o:Oper}
theorem F.nil (h:Q e w):FL P n l0 K ch Q [] e w:=h
theorem F.va (hl:l0[i]? =some ⟨some d,op,ty,ps,af,none⟩) (hc:ch i=false) (hr:∀w',K w'->Does P (execOp (ev e) ⟨some d,op,ty,ps,af,none⟩) w' (.val v) w') (k:FL P n l0 K ch Q rest (upd e d v) w):FL P n l0 K ch Q (i::rest) e w :=
 ⟨_,hl,by rw[if_neg (by simp[hc])];exact⟨v,.inl ⟨rfl,hr⟩,k⟩⟩
theorem F.on (hl:l0[i]? =some ⟨some d,op,ty,ps,af,some (j,want)⟩) (hc:ch i=false) (hw:W2 l0.toArray e j=some want) (hr:∀w',K w'->Does P (execOp (ev e) ⟨some d,op,ty,ps,af,some (j,want)⟩) w' (.val v) w') (k:FL P n l0 K ch Q rest (upd e d v) w):FL P n l0 K ch Q (i::rest) e w :=
 ⟨_,hl,by rw[if_neg (by simp[hc])];exact⟨v,.inl ⟨by simp[Region.wanted,hw],hr⟩,k⟩⟩
theorem F.off (hl:l0[i]? =some o) (hc:ch i=false) (hw:Region.wanted o (W2 l0.toArray e)=false) (k:FL P n l0 K ch Q rest (j3 e o.dst undef) w):FL P n l0 K ch Q (i::rest) e w :=
 ⟨_,hl,by rw[if_neg (by simp[hc])];exact⟨undef,.inr ⟨hw,rfl⟩,k⟩⟩
theorem F.doo (hl:l0[i]? =some o) (hc:ch i=true) (h:L P n l0.toArray (fun x e' w'=>x= .normal/\K w'/\FL P n l0 K ch Q rest e' w') [o] e w):FL P n l0 K ch Q (i::rest) e w :=
 ⟨_,hl,by rw[if_pos hc];exact h⟩
end
def Sx0 (P:Program) [Ctx P] (S:Sem Next) (v:Value) (w:World):Prop:=Does P S w (.val v) w\/∃f args,Does P S w (.enter f args) w/\C P f args w fun r w'=>r=v/\w'=w
def FP (P:Program) [Ctx P] (n:Nat) (l0:List Oper) (PQ:List PanicEntry->World->Prop) (ch al:Nat->Bool) (Q:Env->World->Prop):List Nat->(World->Prop)->Env->World->Prop
 | [],_,e,w=>Q e w
 |i::rest,K,e,w=>∃o,l0[i]? =some o/\if ch i=true then L P n l0.toArray (fun x e' w'=>(x= .normal/\∃K',(K'=K\/al i=true)/\K' w'/\FP P n l0 PQ ch al Q rest K' e' w')\/∃c,x= .panic c/\PQ c w') [o] e w
  else ∃v,((Region.wanted o (W2 l0.toArray e)=true/\∀w',K w'->Sx0 P (execOp (ev e) o) v w')\/(Region.wanted o (W2 l0.toArray e)=false/\v=undef))/\FP P n l0 PQ ch al Q rest K (j3 e o.dst v) w
section
variable {P:Program}[Ctx P]{n:Nat}{l0:List Oper}{PQ:List PanicEntry->World->Prop}{K:World->Prop}{ch al:Nat->Bool}{Q:Env->World->Prop}{rest:List Nat}{e:Env}{w:World}{d:Nat}{op:Op}{ty:TypeId}{ps:String}{af:Array Edge}{v:Value}{i:Nat}{o:Oper}
theorem FP.nil (h:Q e w):FP P n l0 PQ ch al Q [] K e w:=h
theorem FP.va (hl:l0[i]? =some ⟨some d,op,ty,ps,af,none⟩) (hc:ch i=false) (hr:∀w',K w'->Does P (execOp (ev e) ⟨some d,op,ty,ps,af,none⟩) w' (.val v) w') (k:FP P n l0 PQ ch al Q rest K (upd e d v) w):FP P n l0 PQ ch al Q (i::rest) K e w :=
 ⟨_,hl,by rw[if_neg (by simp[hc])];exact⟨v,.inl ⟨rfl,fun w' h=>.inl (hr w' h)⟩,k⟩⟩
theorem FP.call {f:FuncId} {args:Array Value} (hl:l0[i]? =some ⟨some d,op,ty,ps,af,none⟩) (hc:ch i=false) (hr:∀w',K w'->Does P (execOp (ev e) ⟨some d,op,ty,ps,af,none⟩) w' (.enter f args) w') (hk:∀w',K w'->C P f args w' fun r w''=>r=v/\w''=w') (k:FP P n l0 PQ ch al Q rest K (upd e d v) w):FP P n l0 PQ ch al Q (i::rest) K e w :=
 ⟨_,hl,by rw[if_neg (by simp[hc])];exact⟨v,.inl ⟨rfl,fun w' h=>.inr ⟨f,args,hr w' h,hk w' h⟩⟩,k⟩⟩
theorem FP.doo (hl:l0[i]? =some o) (hc:ch i=true) (h:L P n l0.toArray (fun x e' w'=>(x= .normal/\∃K',(K'=K\/al i=true)/\K' w'/\FP P n l0 PQ ch al Q rest K' e' w')\/∃c,x= .panic c/\PQ c w') [o] e w):FP P n l0 PQ ch al Q (i::rest) K e w :=
 ⟨_,hl,by rw[if_pos hc];exact h⟩
end
def av1 (l0:List Oper) (os:List Nat) (al:Nat->Bool):Bool:=(List.range os.length).all fun b=>match os[b]? with
 |none=>false
 |some y=>!al y ||(os.take b).all fun x=>(S7 l0 l0.length [y]).contains x
def Vf0 (os:List Nat) (al:Nat->Bool) (V:(Nat->Bool)->Prop):Prop:=∀pre c suf,os=pre++c::suf->al c=true->∀D,V D->D c=true->∀j∈pre,D j=true
theorem Ov0 {l0:List Oper} {os:List Nat} {al:Nat->Bool} {V:(Nat->Bool)->Prop} (br0:∀D,V D->∀i o,l0[i]? =some o->D i=true->O6 o D) (h:av1 l0 os al=true):Vf0 os al V:=by
 intro pre c suf he hc D hD hDc j hj;have h1:=List.all_eq_true.1 h pre.length (List.mem_range.2 (by rw[he];simp));have hy:os[pre.length]? =some c:=by rw[he];simp
 rw[hy]at h1;simp only[hc,Bool.not_true,Bool.false_or]at h1;have ht:os.take pre.length=pre:=by rw[he];simp
 rw[ht]at h1;exact w7 br0 hD l0.length [c] (fun q hq=>by simp at hq;rw[hq];exact hDc) j (List.contains_iff_mem.1 (List.all_eq_true.1 h1 j hj))
structure FJ (P:Program) [Ctx P] (n:Nat) (l0:List Oper) (k:Nat) (PQ:List PanicEntry->World->Prop) (K:World->Prop) (ch al:Nat->Bool) (Q:Env->World->Prop) (os:List Nat) (e0:Env) (D:Nat->Bool) (pre suf:List Nat) (e es:Env) (w:World):Prop where
 cat:os=pre++suf
 fl:FP P n l0 PQ ch al Q suf K es w
 done:∀x∈pre,ch x=true->D x=true
 sub:∀j,j<k->D j=true->j∈pre
 kD:K w
 hit:∀j o t,j<k->l0[j]? =some o->o.dst=some t->D j=true->e t=es t
 mx0:∀t,(∀j o,j<k->l0[j]? =some o->o.dst=some t->D j=false)->e t=e0 t
 out:∀t,(∀j o,l0[j]? =some o->j∈pre->o.dst≠some t)->es t=e0 t
 wait:∀j∈pre,D j=false->∃o E v,l0[j]? =some o/\(∀t∈o.looksAt l0.toArray,E t=es t)/\(∀t,o.dst=some t->es t=v) /\
  ((Region.wanted o (W2 l0.toArray E)=true/\∀w',K w'->Sx0 P (execOp (ev E) o) v w')\/(Region.wanted o (W2 l0.toArray E)=false/\v=undef))
 rep:∃a,Rep n a es
section
variable {P:Program}[Ctx P]{n:Nat}{l0:List Oper}{k:Nat}{PQ:List PanicEntry->World->Prop}{K:World->Prop}{ch al:Nat->Bool}{Q:Env->World->Prop}{os:List Nat}{e0:Env}{D:Nat->Bool}{V:(Nat->Bool)->Prop}
theorem FJ.look (h:qf0 n l0.toArray k) (ho:nf0 l0 k ch os V) {pre suf:List Nat} {i:Nat} {e es:Env} {w:World} (hI:FJ P n l0 k PQ K ch al Q os e0 D pre (i::suf) e es w) (hc:ch i=false):∃es',FJ P n l0 k PQ K ch al Q os e0 D (pre ++ [i]) suf e es' w:=by
 obtain⟨o,hl,hf⟩:=hI.fl;rw[if_neg (by simp[hc])]at hf;obtain⟨v,hv,hf⟩:=hf;have hla:l0.toArray[i]? =some o:=by simpa using hl
 have if1:D i=false:=by
  cases hD:D i with
  |false=>rfl
  |true=>exact absurd (hI.sub i (ho.lt i (by rw[hI.cat];simp)) hD) (ho.nodup pre i suf hI.cat)
 have ig1:=h.dst i o hla;have hik:i<k:=ho.lt i (by rw[hI.cat];simp);have hpk:∀j∈pre,j<k:=fun j hj=>ho.lt j (by rw[hI.cat];exact List.mem_append_left _ hj);have Z0:∀t,o.dst=some t->∀j p,j<k->l0[j]? =some p->p.dst=some t->j=i:=fun t ht j p hj hp hpt=>h.one j i p o t hj hik (by simpa using hp) hla hpt ht;refine⟨j3 es o.dst v,⟨by rw[hI.cat];simp,hf,fun x hx hcx=>?_,fun j hj hD=>List.mem_append_left _ (hI.sub j hj hD),hI.kD,fun j p t hjk hp ht hD=>?_,hI.mx0,fun t l9=>?_,fun j hj hD=>?_,?_⟩⟩
 ·rcases List.mem_append.1 hx with hx|hx
  ·exact hI.done x hx hcx
  ·simp at hx;subst hx;rw[hc]at hcx;cases hcx
 ·rw[hI.hit j p t hjk hp ht hD];cases hd:o.dst with
  |none=>rfl
  |some d=>
   have:t≠d:=fun hh=>by
    have:=Z0 d hd j p hjk hp (by rw[ht,hh]);subst this;rw[if1]at hD;cases hD
   exact(upd_ne _ _ this).symm
 ·cases hd:o.dst with
  |none=>exact hI.out t (fun j p hp hj=>l9 j p hp (List.mem_append_left _ hj))
  |some d=>
   have:t≠d:=fun hh=>l9 i o hl (List.mem_append_right _ (by simp)) (by rw[hd,hh]);show upd es d v t=e0 t;rw[upd_ne _ _ this];exact hI.out t (fun j p hp hj=>l9 j p hp (List.mem_append_left _ hj))
 ·rcases List.mem_append.1 hj with hjp|hj
  ·obtain⟨p,E,u,hp,hE,hu,hr⟩:=hI.wait j hjp hD;have o3:∀t,(t∈p.looksAt l0.toArray\/p.dst=some t)->j3 es o.dst v t=es t:=by
    intro t ht;cases hd:o.dst with
    |none=>rfl
    |some d=>
     refine upd_ne _ _ (fun hh=>?_);subst hh;rcases ht with ht|ht
     ·obtain⟨x,hx,hb,rfl⟩:=h.look j i p o t (hpk j hjp) hik (by simpa using hp) hla hd ht;obtain⟨q1,q2,hq⟩:=List.append_of_mem hjp;obtain⟨p',hp',Il0⟩:=ho.ao1 q1 j (q2++x.on::suf) (by rw[hI.cat,hq];simp);obtain rfl:p'=p:=Option.some.inj (hp'.symm.trans hp);have hin:=Il0 x hx hb;exact ho.nodup pre x.on suf hI.cat (by rw[hq];exact List.mem_append_left _ hin)
     ·have:=Z0 t hd j p (hpk j hjp) hp ht;subst this;exact ho.nodup pre j suf hI.cat hjp
   exact⟨p,E,u,hp,fun t ht=>(hE t ht).trans (o3 t (.inl ht)).symm,fun t ht=>(o3 t (.inr ht)).trans (hu t ht),hr⟩
  ·simp at hj;subst hj;refine⟨o,es,v,hl,fun t ht=>?_,fun t ht=>by rw[ht];exact upd_same _ _ _,hv⟩;cases hd:o.dst with
   |none=>rfl
   |some d=>
    have hdt:t≠d:=fun hh=>by
     subst hh;obtain⟨x,hx,hb,he⟩:=h.look j j o o t hik hik hla hla hd ht;have:=h.back j o hla x hx hb;omega
    exact(upd_ne es v hdt).symm
 ·obtain⟨a,ha⟩:=hI.rep;exact⟨_,ha.put ig1 v⟩
theorem FJ.norm (h:qf0 n l0.toArray k) (ho:nf0 l0 k ch os V):∀(suf pre:List Nat) {e es:Env} {w:World},FJ P n l0 k PQ K ch al Q os e0 D pre suf e es w->∃ih1 Vg0 es',FJ P n l0 k PQ K ch al Q os e0 D ih1 Vg0 e es' w/\(Vg0=[]\/∃c r,Vg0=c::r/\ch c=true)
 | [],pre,_,es,_,hI=>⟨pre,[],es,hI,.inl rfl⟩
 |i::suf,pre,_,es,_,hI=>by
  cases hc:ch i with
  |true=>exact⟨pre,i::suf,es,hI,.inr ⟨i,suf,rfl,hc⟩⟩
  |false=>
   obtain⟨es',hI'⟩:=hI.look h ho hc;exact FJ.norm h ho suf _ hI'
theorem FJ.looks (h:qf0 n l0.toArray k) {pre suf:List Nat} {e es:Env} {w:World} (ho:nf0 l0 k ch os V) (hI:FJ P n l0 k PQ K ch al Q os e0 D pre suf e es w) {i:Nat} (hik:i<k) {o:Oper} (hl:l0[i]? =some o) (ad0:O6 o D):∀t∈o.looksAt l0.toArray,e t=es t:=by
 intro t ht;by_cases hex:∃(j:Nat) (p:Oper),j<k/\l0[j]? =some p/\p.dst=some t
 ·obtain⟨j,p,hj,hp,hd⟩:=hex;obtain⟨x,hx,hb,rfl⟩:=h.look i j o p t hik hj (by simpa using hl) (by simpa using hp) hd ht;exact hI.hit x.on p t hj hp hd (ad0 x hx hb)
 ·rw[hI.mx0 t (fun j p hj hp hd=>absurd ⟨j,p,hj,hp,hd⟩ hex),hI.out t (fun j p hp hj hd=>hex ⟨j,p,ho.lt j (by rw[hI.cat];exact List.mem_append_left _ hj),hp,hd⟩)]
end
theorem Im0 {P:Program} [Ctx P] {n:Nat} {l0:List Oper} {k:Nat} {PQ:List PanicEntry->World->Prop} {ch al:Nat->Bool} {Q:Env->World->Prop} {os:List Nat} {e0:Env} {V:(Nat->Bool)->Prop} (h:qf0 n l0.toArray k) (ho:nf0 l0 k ch os V) (hk:k <=l0.length) (hal:Vf0 os al V)
  (aw0:∀D,V D->∀i,k <=i->i<l0.toArray.size->D i=true->∀j,j<i->D j=true) (_hdeps:∀D,V D->∀i o,l0[i]? =some o->D i=true->O6 o D)
  {Q':Exit->Act->World->Prop} (hPQ:∀c w a e,Rep n a e->PQ c w->Q' (.panic c) a w) (hQ:∀a w e,Rep n a e->Q e w->wpOps P l0.toArray Q' (List.range' k (l0.toArray.size-k)) a w) :
  ∀{listed:Array Bool} {σ:List Nat},Lin l0.toArray listed σ->(∀τ ρ,σ=τ++ρ->V (fun j=>listed.getD j false ||τ.contains j)) ->
   ∀(K:World->Prop) (a:Act) (e es:Env) (w:World) (pre suf:List Nat),listed.size=l0.toArray.size->(∀j,k <=j->listed.getD j false=false)->Rep n a e->FJ P n l0 k PQ K ch al Q os e0 (fun j=>listed.getD j false) pre suf e es w->(suf=[]\/∃c r,suf=c::r/\ch c=true)->wpOps P l0.toArray Q' σ a w:=by
 have fin:∀{K:World->Prop} {D:Nat->Bool} {e es:Env} {w:World} {pre suf:List Nat},(∀j,j<k->D j=true)->(∀j,k <=j->D j=false)->FJ P n l0 k PQ K ch al Q os e0 D pre suf e es w->(suf=[]\/∃c r,suf=c::r/\ch c=true)->Q e w:=by
  intro K D e es w pre suf hD hD2 hI hs;have ii1:suf=[]:=by
   rcases hs with hs|⟨c,r,rfl,_⟩
   ·exact hs
   ·have e7:=ho.lt c (by rw[hI.cat];simp);exact absurd (hI.sub c e7 (hD c e7)) (ho.nodup pre c r hI.cat)
  subst ii1;have he:e=es:=by
   funext t;by_cases hex:∃(j:Nat) (p:Oper),j<k/\l0[j]? =some p/\p.dst=some t
   ·obtain⟨j,p,hj,hp,hd⟩:=hex;exact hI.hit j p t hj hp hd (hD j hj)
   ·rw[hI.mx0 t (fun j p hj hp hd=>absurd ⟨j,p,hj,hp,hd⟩ hex),hI.out t (fun j p hp hj hd=>hex ⟨j,p,ho.lt j (by rw[hI.cat];simpa using hj),hp,hd⟩)]
  rw[he];exact hI.fl
 intro listed σ H5
 induction H5 with
 | @nil listed hr=>
  intro _ K a e es w pre suf hs hkf ha hI hsf;have n7:=go0 h.bk hs hr;have hkl:l0.toArray.size <=k:=by
   rcases Nat.lt_or_ge k l0.toArray.size with h3|h3
   ·have:=n7 k h3;rw[hkf k (Nat.le_refl _)]at this;cases this
   ·exact h3
  have:=hQ a w e ha (fin (fun j hj=>n7 j (by simp;omega)) hkf hI hsf);rw[show l0.toArray.size-k=0 by omega]at this;exact this
 | @cons listed i σ hi hl ih=>
  intro hV K a e es w pre suf hs hkf ha hI hsf;have hi0:=hi;obtain⟨h1,o,ec0,ad0⟩:=mem_ready.1 hi;have hlo:l0[i]? =some o:=by simpa using ec0
  have hio:i<l0.toArray.size:=(Array.getElem?_eq_some_iff.1 ec0).1;have x7:i<listed.size:=by omega
  have hDi:listed.getD i false=false:=by
   simp only[Array.getD_eq_getD_getElem?,x7,Array.getElem?_eq_getElem,Option.getD_some]at h1⊢;exact h1
  have hVD:V (fun j=>listed.getD j false)/\V (O4 (fun j=>listed.getD j false) i):=by
   constructor
   ·have:=hV [] (i::σ) rfl;have e1:(fun j=>listed.getD j false ||([]:List Nat).contains j)=fun j=>listed.getD j false:=funext fun j=>by simp
    rw[e1]at this;exact this
   ·have:=hV [i] σ rfl;have e1:(fun j=>listed.getD j false ||([i]:List Nat).contains j)=O4 (fun j=>listed.getD j false) i:=funext fun j=>by
     unfold O4;by_cases hj:j=i
     ·simp[hj]
     ·simp[hj]
    rw[e1]at this;exact this
  by_cases hik:k <=i
  ·have A6:∀j,j<i->listed.getD j false=true:=fun j hj=>by
    have:=aw0 _ hVD.2 i hik hio (by simp[O4]) j hj;unfold O4 at this;rw[if_neg (by omega)]at this;exact this
   have z9:i=k:=by
    rcases Nat.lt_or_ge k i with h3|h3
    ·have:=A6 k h3;rw[hkf k (Nat.le_refl _)]at this;cases this
    ·omega
   subst z9;rw[ld0 (V:=V) h.bk (.cons hi0 hl) i (by omega) hs A6 (fun j hj=>hkf j hj) aw0 hV];exact hQ a w e ha (fin A6 hkf hI hsf)
  ·have hik:i<k:=by omega
   have hV':∀τ ρ,σ=τ++ρ->V (fun j=>(listed.setIfInBounds i true).getD j false ||τ.contains j):=by
    intro τ ρ hσ;have:=hV (i::τ) ρ (by rw[hσ];rfl);have e1:(fun j=>listed.getD j false ||(i::τ).contains j)=fun j=>(listed.setIfInBounds i true).getD j false ||τ.contains j:=by
     funext j;by_cases hj:i=j
     ·subst hj;simp[x7]
     ·rw[getD_set_ne false hj];simp[Ne.symm hj]
    rw[e1]at this;exact this
   have Ow0:∀j,k <=j->(listed.setIfInBounds i true).getD j false=false:=fun j hj=>by rw[getD_set_ne false (by omega)];exact hkf j hj
   have hlk:=hI.looks h ho hik hlo ad0;have Eq0:(fun j=>(listed.setIfInBounds i true).getD j false)=O4 (fun j=>listed.getD j false) i:=ij0 x7;have hD1:O4 (fun j=>listed.getD j false) i i=true:=by simp[O4]
   have hDn:∀j,j≠i->O4 (fun j=>listed.getD j false) i j=listed.getD j false:=fun j hj=>by simp[O4,hj]
   have mem:i∈pre\/i∈suf:=by have:=ho.all i hik;rw[hI.cat]at this;exact List.mem_append.1 this
   rcases mem with hip|his
   ·
    obtain⟨o',E,v,P5,hE,hu,hr⟩:=hI.wait i hip hDi;obtain rfl:o'=o:=Option.some.inj (P5.symm.trans hlo);have hEe:∀t∈o'.looksAt l0.toArray,e t=E t:=fun t ht=>(hlk t ht).trans (hE t ht).symm;have hex:=dt0 (h.sel i o' hik ec0) hEe;have hwa:=du0 hEe;have next:wpOps P l0.toArray Q' σ (a.put o'.dst v) w:=by
     refine ih hV' K _ (j3 e o'.dst v) es w pre suf (by simp[hs]) Ow0 (ha.put (h.dst i o' ec0) v) ?_ hsf;rw[Eq0];refine⟨hI.cat,hI.fl,fun x hx hc=>?_,fun j hj hD=>?_,hI.kD,fun j p t hjk hp ht hD=>?_,fun t l9=>?_,hI.out,fun j hj hD=>?_,hI.rep⟩
     ·by_cases hxi:x=i
      ·subst hxi;exact hD1
      ·rw[hDn x hxi];exact hI.done x hx hc
     ·by_cases V2:j=i
      ·subst V2;exact hip
      ·rw[hDn j V2]at hD;exact hI.sub j hj hD
     ·by_cases V2:j=i
      ·subst V2;obtain rfl:p=o':=Option.some.inj (hp.symm.trans hlo);rw[ht];exact(upd_same _ _ _).trans (hu t ht).symm
      ·rw[hDn j V2]at hD;cases hd:o'.dst with
       |none=>exact hI.hit j p t hjk hp ht hD
       |some d=>
        have:t≠d:=fun hh=>V2 (h.one j i p o' t hjk hik (by simpa using hp) ec0 ht (by rw[hd,hh]));exact(upd_ne _ _ this).trans (hI.hit j p t hjk hp ht hD)
     ·have hnt:o'.dst≠some t:=fun hh=>by have:=l9 i o' hik hlo hh;rw[hD1]at this;cases this
      have hm:=hI.mx0 t (fun j p hjk hp hd=>by
       have:=l9 j p hjk hp hd;by_cases V2:j=i
       ·subst V2;exact hDi
       ·rwa [hDn j V2]at this)
      cases hd:o'.dst with
      |none=>exact hm
      |some d=>exact(upd_ne _ _ (fun hh=>hnt (by rw[hd,hh]))).trans hm
     ·have V2:j≠i:=fun hh=>by subst hh;rw[hD1]at hD;cases hD
      rw[hDn j V2]at hD;exact hI.wait j hj hD
    unfold wpOps;rw[ec0];simp only;rw[p5 ha,hwa];rcases hr with⟨hw,hr⟩|⟨hw,hv⟩
    ·rw[if_pos hw];rcases hr w hI.kD with h9|⟨f,args,h9,hc9⟩
     ·exact V8 (r:=.val v) (w':=w) (by rw[ha.eval,hex];exact h9) next
     ·refine V8 (r:=.enter f args) (w':=w) (by rw[ha.eval,hex];exact h9) (Calls.mono hc9 fun x w'' hx=>?_);cases x with
      |returned u=>obtain⟨rfl,rfl⟩:=hx;exact next
      |panicked c=>exact hx.elim
      |outgrown=>exact hx.elim
    ·rw[if_neg (by rw[hw];simp),<- hv];exact next
   ·
    rcases hsf with hsf|⟨c,r,rfl,hc⟩
    ·rw[hsf]at his;cases his
    have hic:i=c:=by
     rcases List.mem_cons.1 his with h9|h9
     ·exact h9
     ·exfalso;obtain⟨m1,m2,hm⟩:=List.append_of_mem h9;have:=ho.wait pre c m1 i m2 (by rw[hI.cat,hm];simp) hc _ hVD.2 hD1;have hci:c≠i:=fun hh=>by
       subst hh;exact ho.nodup (pre++c::m1) c m2 (by rw[hI.cat,hm];simp) (by simp)
      rw[hDn c hci]at this;exact ho.nodup pre c r hI.cat (hI.sub c (ho.lt c (by rw[hI.cat];simp)) this)
    subst hic;obtain⟨o',P5,hf⟩:=hI.fl;obtain rfl:o'=o:=Option.some.inj (P5.symm.trans hlo);rw[if_pos hc]at hf;obtain⟨asx,has⟩:=hI.rep;have hfa:=hf (fun q hq=>by simp at hq;subst hq;exact h.dst i q ec0) asx has;have hex:=dt0 (h.sel i o' hik ec0) hlk;have hwa:=du0 hlk;have next:∀v w' (K':World->Prop),(K'=K\/al i=true)->K' w'->FP P n l0 PQ ch al Q r K' (j3 es o'.dst v) w'->wpOps P l0.toArray Q' σ (a.put o'.dst v) w':=by
     intro v w' K' hKK hK hfl;have hI':FJ P n l0 k PQ K' ch al Q os e0 (O4 (fun j=>listed.getD j false) i) (pre ++ [i]) r (j3 e o'.dst v) (j3 es o'.dst v) w':=by
      have Z0:∀t,o'.dst=some t->∀j p,j<k->l0[j]? =some p->p.dst=some t->j=i:=fun t ht j p hjk hp hpt=>h.one j i p o' t hjk hik (by simpa using hp) ec0 hpt ht;have hpk:∀j∈pre,j<k:=fun j hj=>ho.lt j (by rw[hI.cat];exact List.mem_append_left _ hj);refine⟨by rw[hI.cat];simp,hfl,fun x hx hcx=>?_,fun j hj hD=>?_,hK,fun j p t hjk hp ht hD=>?_,fun t l9=>?_,fun t l9=>?_,fun j hj hD=>?_,⟨_,has.put (h.dst i o' ec0) v⟩⟩
      ·by_cases hxi:x=i
       ·subst hxi;exact hD1
       ·rw[hDn x hxi];rcases List.mem_append.1 hx with hx|hx
        ·exact hI.done x hx hcx
        ·simp at hx;exact absurd hx hxi
      ·by_cases V2:j=i
       ·subst V2;simp
       ·rw[hDn j V2]at hD;exact List.mem_append_left _ (hI.sub j hj hD)
      ·by_cases V2:j=i
       ·subst V2;obtain rfl:p=o':=Option.some.inj (hp.symm.trans hlo);rw[ht];exact(upd_same _ _ _).trans (upd_same _ _ _).symm
       ·rw[hDn j V2]at hD;cases hd:o'.dst with
        |none=>exact hI.hit j p t hjk hp ht hD
        |some d=>
         have:t≠d:=fun hh=>V2 (Z0 d hd j p hjk hp (by rw[ht,hh]));show upd e d v t=upd es d v t;rw[upd_ne _ _ this,upd_ne _ _ this];exact hI.hit j p t hjk hp ht hD
      ·have hnt:o'.dst≠some t:=fun hh=>by have:=l9 i o' hik hlo hh;rw[hD1]at this;cases this
       have hm:=hI.mx0 t (fun j p hjk hp hd=>by
        have:=l9 j p hjk hp hd;by_cases V2:j=i
        ·subst V2;exact hDi
        ·rwa [hDn j V2]at this)
       cases hd:o'.dst with
       |none=>exact hm
       |some d=>exact(upd_ne _ _ (fun hh=>hnt (by rw[hd,hh]))).trans hm
      ·have hnt:o'.dst≠some t:=l9 i o' hlo (by simp);have hm:=hI.out t (fun j p hp hj=>l9 j p hp (List.mem_append_left _ hj));cases hd:o'.dst with
       |none=>exact hm
       |some d=>exact(upd_ne _ _ (fun hh=>hnt (by rw[hd,hh]))).trans hm
      ·have V2:j≠i:=fun hh=>by subst hh;rw[hD1]at hD;cases hD
       rw[hDn j V2]at hD;have hjp:j∈pre:=by
        rcases List.mem_append.1 hj with hj|hj
        ·exact hj
        ·simp at hj;exact absurd hj V2
       rcases hKK with rfl|hKK
       rotate_left
       ·exfalso;have:=hal pre i r hI.cat hKK _ hVD.2 hD1 j hjp;rw[hDn j V2,hD]at this;cases this
       obtain⟨p,E,u,hp,hE,hu,hr⟩:=hI.wait j hjp hD;have o3:∀t,(t∈p.looksAt l0.toArray\/p.dst=some t)->j3 es o'.dst v t=es t:=by
        intro t ht;cases hd:o'.dst with
        |none=>rfl
        |some d=>
         refine upd_ne _ _ (fun hh=>?_);subst hh;rcases ht with ht|ht
         ·obtain⟨x,hx,hb,rfl⟩:=h.look j i p o' t (hpk j hjp) hik (by simpa using hp) ec0 hd ht;obtain⟨q1,q2,hq⟩:=List.append_of_mem hjp;obtain⟨p',hp',Il0⟩:=ho.ao1 q1 j (q2++x.on::r) (by rw[hI.cat,hq];simp);obtain rfl:p'=p:=Option.some.inj (hp'.symm.trans hp);have hin:=Il0 x hx hb;exact ho.nodup pre x.on r hI.cat (by rw[hq];exact List.mem_append_left _ hin)
         ·exact V2 (Z0 t hd j p (hpk j hjp) hp ht)
       exact⟨p,E,u,hp,fun t ht=>(hE t ht).trans (o3 t (.inl ht)).symm,fun t ht=>(o3 t (.inr ht)).trans (hu t ht),hr⟩
     obtain⟨ij1,ik1,es2,hI2,hs2⟩:=FJ.norm h ho r _ hI';exact ih hV' K' _ _ es2 w' ij1 ik1 (by simp[hs]) Ow0 (ha.put (h.dst i o' ec0) v) (by rw[Eq0];exact hI2) hs2
    have nx:∀v w',lift n (fun x e' w'=>(x=Exit.normal/\∃K',(K'=K\/al i=true)/\K' w'/\FP P n l0 PQ ch al Q r K' e' w')\/∃c,x=Exit.panic c/\PQ c w') .normal (asx.put o'.dst v) w'->wpOps P l0.toArray Q' σ (a.put o'.dst v) w':=by
     rintro v w' ⟨e',hre,h9⟩;rcases h9 with⟨_,K',hKK,hK,hfl⟩|⟨c,h9,_⟩
     rotate_left
     ·cases h9
     have:e'=j3 es o'.dst v:=Rep.ext hre (has.put (h.dst i o' ec0) v);rw[this]at hfl;exact next v w' K' hKK hK hfl
    unfold wpOps;rw[ec0];simp only;rw[p5 ha,hwa];unfold wpList at hfa;rw[p5 has]at hfa;split at hfa
    ·rename_i hw;rw[if_pos hw];intro τ d;obtain⟨rr,w',h1,h2⟩:=hfa τ d;rw[has.eval]at h1;refine⟨rr,w',by rw[ha.eval,hex];exact h1,?_⟩;cases rr with
     |val u=>exact nx u _ h2
     |skip=>exact nx undef _ h2
     |enter f args=>
      refine Calls.mono h2 fun x w'' hx=>?_;cases x with
      |returned u=>exact nx u w'' hx
      |panicked ch=>
       obtain⟨e9,_,h9⟩:=hx;rcases h9 with⟨h9,_⟩|⟨c,h9,hp9⟩
       ·cases h9
       ·cases h9;exact hPQ _ _ _ _ ha hp9
      |outgrown=>exact hx.elim
     |panic u=>
      obtain⟨e9,_,h9⟩:=h2;rcases h9 with⟨h9,_⟩|⟨c,h9,hp9⟩
      ·cases h9
      ·cases h9;exact hPQ _ _ _ _ ha hp9
    ·rename_i hw;rw[if_neg hw];exact nx undef w hfa
theorem Sy0 {P:Program} [Ctx P] {n:Nat} {l:List Oper} {Q:Exit->Env->World->Prop} {e:Env} {w:World} {k:Nat} {ch al:Nat->Bool} {os:List Nat} {PQ:List PanicEntry->World->Prop} {K:World->Prop} {σ:List Nat} (ho:qf0 n l.toArray k) (hA:ka0 l k=true) (hkl:k <=l.length) (hoo:nf0 l k ch os (Pre σ)) (hal:Vf0 os al (Pre σ)) (H5:Lin l.toArray (Array.replicate l.toArray.size false) σ) (br0:∀D,Pre σ D->∀i o,l[i]? =some o->D i=true->O6 o D)
  (hPQ:∀c w e,PQ c w->Q (.panic c) e w) (hK:K w) (h:FP P n l PQ ch al (fun e' w'=>L P n l.toArray Q (l.drop k) e' w') os K e w) {a:Act} (ha:Rep n a e):wpOps P l.toArray (lift n Q) σ a w:=by
 have h0:FJ P n l k PQ K ch al (fun e' w'=>L P n l.toArray Q (l.drop k) e' w') os e (fun j=>(Array.replicate l.toArray.size false).getD j false) [] os e e w :=
  ⟨rfl,h,(fun x hx=>by cases hx),(fun j _ hD=>absurd hD (by rw[K0];simp)),hK,(fun j o t _ _ _ hD=>absurd hD (by rw[K0];simp)),(fun t _=>rfl),(fun t _=>rfl),(fun j hj=>by cases hj),⟨a,ha⟩⟩
 obtain⟨pre,suf,es,hI,hs⟩:=FJ.norm ho hoo _ _ h0;refine Im0 (V:=Pre σ) (PQ:=PQ) ho hoo hkl hal (fun D hD i z9 x7=>iq0 hA br0 hD i z9 (by simpa using x7)) br0 (fun c w' a' e' ha' hp=>⟨e',ha',hPQ c w' e' hp⟩) (fun a' w' e' ha' hq=>?_) H5 ?_ K a e es _ pre suf (by simp) (fun j _=>K0 _ _) ha hI hs
 ·have h4:=hq (fun o' ho'=>by
   obtain⟨i,hi⟩:=List.mem_iff_getElem?.1 ho';rw[List.getElem?_drop]at hi;exact ho.dst (k+i) o' (by simpa using hi)) a' ha'
  have h5:=wpOps_eq_wpList (P:=P) (ops:=l.toArray) (Q:=lift n Q) (l.drop k) k (fun j=>by rw[List.getElem?_drop];simp);rw[List.length_drop]at h5;have h6:l.toArray.size-k=l.length-k:=by simp
  rw[h6,h5];exact h4
 ·intro τ ρ hσ;exact⟨τ,ρ,hσ,fun k=>by show((Array.replicate l.toArray.size false).getD k false ||τ.contains k)=true↔_;rw[K0];simp⟩
theorem FL.fp {P:Program} [Ctx P] {n:Nat} {l0:List Oper} {K:World->Prop} {ch:Nat->Bool} {Q:Env->World->Prop}:∀{os:List Nat} {e:Env} {w:World},FL P n l0 K ch Q os e w->FP P n l0 (fun _ _=>False) ch (fun _=>false) Q os K e w
 | [],_,_,h=>h
 |i::rest,e,w,⟨o,hl,h⟩=>by
  refine⟨o,hl,?_⟩;split at h
  ·rename_i hc;rw[if_pos hc];intro hd a ha;exact bt0 (fun x a w h=>by
    obtain⟨e',h1,h2,h3,h4⟩:=h;exact⟨e',h1,.inl ⟨h2,K,.inl rfl,h3,FL.fp h4⟩⟩) _ _ _ (h hd a ha)
  ·rename_i hc;rw[if_neg hc];obtain⟨v,h1,h2⟩:=h;exact⟨v,h1.imp (fun h=>⟨h.1,fun w' k=>.inl (h.2 w' k)⟩) id,FL.fp h2⟩
theorem aw1 {P:Program} [Ctx P] {n:Nat} {l:List Oper} {Q:Exit->Env->World->Prop} {e:Env} {w:World} {k:Nat} {ch:Nat->Bool} {os:List Nat} {K:World->Prop} {σ:List Nat} (ho:qf0 n l.toArray k) (hA:ka0 l k=true) (hkl:k <=l.length) (hoo:nf0 l k ch os (Pre σ)) (H5:Lin l.toArray (Array.replicate l.toArray.size false) σ) (br0:∀D,Pre σ D->∀i o,l[i]? =some o->D i=true->O6 o D) (hK:K w) (h:FL P n l K ch (fun e' w'=>L P n l.toArray Q (l.drop k) e' w') os e w) {a:Act} (ha:Rep n a e):wpOps P l.toArray (lift n Q) σ a w :=
 Sy0 ho hA hkl hoo (fun _ _ _ _ hc=>by cases hc) H5 br0 (fun _ _ _ h=>h.elim) hK h.fp ha
theorem W.fl {P:Program} [Ctx P] {n:Nat} {id:Nat} {l:List Oper} {Q:Exit->Env->World->Prop} {e:Env} {w:World} (k:Nat) (ch:List Nat) (os:List Nat) (K:World->Prop) (hm:P.follows .mixedOrders=true) (hB:ng0 n l.toArray k=true) (hA:ka0 l k=true) (hk:Nat.ble k l.length=true) (hO:Dg0 l k (fun i=>ch.contains i) os=true)
  (hK:K w.drew) (h:FL P n l K (fun i=>ch.contains i) (fun e' w'=>L P n l.toArray Q (l.drop k) e' w') os e w.drew):W P n (.region id l.toArray true) Q e w:=by
 intro a ha;refine wp_region_draw fun t=>?_;simp only[Region.schedule,hm,Bool.true_or,if_true];have H5:=jx0 l.toArray l.toArray.size t (Array.replicate l.toArray.size false) (by simp) (by simp);unfold Region.linearise;generalize Region.linearise.go .any l.toArray l.toArray.size t (Array.replicate l.toArray.size false) []=σ at H5⊢;exact aw1 (is0 hB) hA (Nat.le_of_ble_eq_true hk) (yl0 (cw0 H5) (fun p hp=>by cases hp) hO) H5 (cw0 H5) hK h ha
section
end
section
variable {P:Program}[Ctx P]
end
section
variable {P:Program}{ρ:Operand->Value}{w:World}{d:Option Nat}{ty:TypeId}{ps:String}{af:Array Edge}{g:Option (Nat×Bool)}{x y:Operand}{T T' E:TypeId}
theorem Az0 {a:Option Addr} {n c:Nat} {m:Int} {aT:Array TypeId} (hm:((n:Nat):Int)=m) (hx:ρ x= .slice a n c) (hT:P.underlying T=some (.slice E)) (hA:aT[0]? =some T):Does P (execOp ρ ⟨d,.call ⟨.builtin .len,#[x],aT⟩,ty,ps,af,g⟩) w (.val (.int .i64 m)) w :=
 .B1 (K2 rfl _) rfl rfl fun _τ _d=>Go.Vc.Az0 (hm:=hm) (hx:=hx) (hT:=hT) (hA:=hA)
theorem wc0 {m k r:Int} (hr:m+k=r) (h:-9223372036854775808 <=r/\r <=9223372036854775807) (hx:ρ x= .int .i64 m) (hy:ρ y= .int .i64 k):Does P (execOp ρ ⟨d,.binOp .add T x y T',ty,ps,af,g⟩) w (.val (.int .i64 r)) w :=
 .B1 (o6 hx hy) rfl rfl fun _τ _d=>Go.Vc.wc0 (hr:=hr) (h:=h) (hx:=hx) (hy:=hy)
end
section
variable {P:Program}[Ctx P]
end
section
variable {P:Program}[Ctx P]
end
end Go.Vy
end
section
namespace Go.Vy
open Go Go.Conc Go.Yc
abbrev Hid:=Nat->Option Obj
def over (H:Hid) (u:World):World:={u with heap:=u.heap.mapIdx fun b o=>(H b).getD o}
theorem nk0 (H:Hid) (u:World) (b:Nat):(over H u).heap[b]? =(u.heap[b]?).map fun o=>(H b).getD o:=by
 simp[over,Array.getElem?_mapIdx]
theorem N4 (H:Hid) (u:World):(over H u).heap.size=u.heap.size:=by simp[over]
theorem C9 {H:Hid} {u:World} {b:Nat} {o:Obj} (h:H b=some o) (hb:b<u.heap.size):(over H u).heap[b]? =some o:=by
 rw[nk0,Array.getElem?_eq_getElem hb];simp[h]
theorem M5 {H:Hid} (u:World) {b:Nat} (h:H b=none):(over H u).heap[b]? =u.heap[b]?:=by
 rw[nk0,h];cases u.heap[b]? <;> rfl
structure k7 (H:Hid) (u:World):Prop where
 gone:∀b o,H b=some o->dr0 u b
 view:∀b o,H b=some o->y4 o=false
theorem _root_.Go.Yc.dr0.lt {u:World} {b:Nat} (h:dr0 u b):b<u.heap.size:=by obtain⟨T,f,h⟩:=h;exact(Array.getElem?_eq_some_iff.1 h).1
theorem k7.evo {H:Hid} {u u':World} (h:k7 H u) (he:S9 u u'):k7 H u':=⟨fun b o hb=>(h.gone b o hb).evo he,h.view⟩
theorem k7.N2 {H:Hid} {u:World} (h:k7 H u) (τ:Tape) (d:Nat):k7 H (Yc.N2 u τ d):=⟨h.gone,h.view⟩
def le0 (H:Hid) (ρ:Nat->V6) (w:World) (b:Nat):V6:=match H b,w.heap[b]? with
 |some _,some y=>.gone y
 |_,_=>ρ b
theorem l6.under {H:Hid} {ρ:Nat->V6} {u w:World} (hH:k7 H u) (h:l6 ρ (over H u) w):l6 (le0 H ρ w) u w:=by
 refine⟨h.os,h.output,h.tape,h.drawn,by rw[h.size,N4],fun b x hx=>?_,fun b hb=>?_,fun b x hx=>?_⟩
 ·have Y1:=(Array.getElem?_eq_some_iff.1 hx).1;cases hb:H b with
  |none=>
   obtain⟨y,h1,h2⟩:=h.obj b x (by rw[M5 u hb];exact hx);exact⟨y,h1,by simp only[le0,hb];exact h2⟩
  |some o=>
   obtain⟨y,h1,h2⟩:=h.obj b o (C9 hb Y1);obtain⟨T,f,hg⟩:=hH.gone b o hb;rw[hx]at hg;obtain rfl:=Option.some.inj hg;exact⟨y,h1,by simp only[le0,hb,h1];exact .gone _ _ _⟩
 ·cases D8:H b with
  |none=>simp only[le0,D8];exact h.new b (by rw[N4];exact hb)
  |some o=>have:=(hH.gone b o D8).lt;omega
 ·cases hb:H b with
  |none=>exact h.Y6 b x (by rw[M5 u hb];exact hx)
  |some o=>
   obtain⟨T,f,hg⟩:=hH.gone b o hb;rw[hx]at hg;obtain rfl:=Option.some.inj hg;rfl
theorem l6.over {H:Hid} {ρ:Nat->V6} {u u' w w':World} (hH:k7 H u) (h:l6 ρ (over H u) w) (he:S9 u u') (h':l6 (le0 H ρ w) u' w'):l6 ρ (Vy.over H u') w':=by
 have hH':=hH.evo he;refine⟨h'.os,h'.output,h'.tape,h'.drawn,by rw[h'.size,N4],fun b x hx=>?_,fun b hb=>?_,fun b x hx=>?_⟩
 ·cases hb:H b with
  |none=>
   rw[M5 u' hb]at hx;obtain⟨y,h1,h2⟩:=h'.obj b x hx;simp only[le0,hb]at h2;exact⟨y,h1,h2⟩
  |some o=>
   have Y1:=(hH.gone b o hb).lt;obtain⟨T,f,hg⟩:=hH'.gone b o hb;rw[C9 hb (hH'.gone b o hb).lt]at hx;obtain rfl:=Option.some.inj hx;obtain⟨y,h1,h2⟩:=h.obj b o (C9 hb Y1);obtain⟨y',h3,h4⟩:=h'.obj b _ hg;simp only[le0,hb,h1]at h4;cases h4;exact⟨y,h3,h2⟩
 ·rw[N4]at hb;have:=h'.new b hb;cases D8:H b with
  |none=>simp only[le0,D8]at this;exact this
  |some o=>have:=(hH'.gone b o D8).lt;omega
 ·cases hb:H b with
  |none=>exact h'.Y6 b x (by rw[M5 u' hb]at hx;exact hx)
  |some o=>
   rw[C9 hb (hH'.gone b o hb).lt]at hx;obtain rfl:=Option.some.inj hx;exact hH.view b o hb
theorem In0 {H:Hid} {u u':World} (hH:k7 H u) (he:S9 u u'):S9 (over H u) (over H u'):=by
 refine⟨by rw[N4,N4];exact he.size,fun b x hx=>?_⟩;cases hb:H b with
 |none=>
  rw[M5 u hb]at hx;obtain⟨y,h1,h2⟩:=he.obj b x hx;exact⟨y,by rw[M5 u' hb];exact h1,h2⟩
 |some o=>
  rw[C9 hb (hH.gone b o hb).lt]at hx;obtain rfl:=Option.some.inj hx;exact⟨_,C9 hb ((hH.evo he).gone b _ hb).lt,Z3.refl _⟩
theorem tj0 {H:Hid} {u:World} (hH:k7 H u) {e:Event} (h:ht0 u e):ht0 (over H u) e:=by
 obtain⟨l,wr,sy⟩:=e;cases l with
 |cell a=>
  intro Y1;rw[N4]at Y1;obtain⟨⟨v,hv⟩,hw⟩:=h Y1;obtain⟨c,T,f,hb,hs,hc⟩:=Z4 hv;have hn:H a.block=none:=by
   cases hh:H a.block with
   |none=>rfl
   |some o=>
    obtain⟨T',f',hg⟩:=hH.gone _ _ hh;rw[hb]at hg;cases hg;simp at hc
  have:=R5 (u:=u) (u':=over H u) (a:=a) (M5 u hn);exact⟨⟨v,by rw[this.1];exact hv⟩,fun z=>by rw[this.2];exact hw z⟩
 |obj r=>
  intro Y1;rw[N4]at Y1;obtain⟨x,hx,hc⟩:=h Y1;have hn:H r=none:=by
   cases hh:H r with
   |none=>rfl
   |some o=>
    obtain⟨T',f',hg⟩:=hH.gone _ _ hh;rw[hx]at hg;cases hg;cases hc
  exact⟨x,by rw[M5 u hn];exact hx,hc⟩
 |output=>exact h
 |goroutines=>exact h
 |mark m=>exact h
theorem I8 (H:Hid) (u:World) (τ:Tape) (d:Nat):over H (N2 u τ d)=N2 (over H u) τ d:=rfl
section
variable {P:Program}{main:Bool}{H:Hid}
theorem Q5.over {g g':Goroutine} {u u':World} (hH:k7 H u) (h:Q5 P main g u g' u'):Q5 P main g (Vy.over H u) g' (Vy.over H u')/\(∀ρ w,l6 ρ (Vy.over H u) w->S9 u u'):=by
 obtain⟨hr,h⟩:=h;refine⟨⟨hr,fun ρ w hs=>?_⟩,fun ρ w hs=>(h _ w (l6.under hH hs)).1⟩;obtain⟨he,w',es,h1,h2,h3⟩:=h _ w (l6.under hH hs);exact⟨In0 hH he,w',es,h1,l6.over hH hs he h2,fun e hee=>tj0 hH (h3 e hee)⟩
theorem wf0 {fn:Func} {tmps:Array Value} {w:World} {v:Value} (hH:k7 H w) (h:bp0 P fn tmps w v):bp0 P fn tmps (over H w) v:=by
 intro τ d ρ x hs;rw[<- I8]at hs;obtain⟨x',es,h1,h2,h3⟩:=h τ d _ x (l6.under (hH.N2 τ d) hs);exact⟨x',es,h1,by rw[<- I8];exact l6.over (hH.N2 τ d) hs (S9.refl _) h2,fun e he=>by rw[<- I8];exact tj0 (hH.N2 τ d) (h3 e he)⟩
theorem lf0 {fr:Frame} {w:World} {e:Ending} (hH:k7 H w) (h:Leaves P fr w e):Leaves P fr (over H w) e:=by
 cases e with
 |returned v=>obtain⟨h1,h2,h3,fn,h4,h5⟩:=h;exact⟨h1,h2,h3,fn,h4,wf0 hH h5⟩
 |panicked ch=>exact h
 |outgrown=>exact h
end
section
variable {P:Program}{Post:Value->World->Prop}{X:Gh}{h:Nat}{u:World}
theorem Fin.Fa0 {g:Goroutine} (H4:g.status= .running) (hs:∀τ d,∃g' u',Q5 P (h==0) g (N2 u τ d) g' u'/\((∃ρ w,l6 ρ (N2 u τ d) w)->Fin P Post X h g' u')):Fin P Post X h g u:=by
 refine Fin.Z9 H4 fun live T gs w sl d z5 q hg T2 C=>?_;obtain⟨g',u',hF,hK⟩:=hs (w.at d).tape (w.at d).drawn;obtain⟨ρ,jt0,_⟩:=C.sim;obtain⟨w',es,hgo,C',P2⟩:=C.own hg hF;exact Ends.step (T2.trans (runT_crowd_go (sl:=z5) hg hgo)) (hK ⟨ρ,_,jt0⟩ _ _ _ _ _ _ P2 C')
def gb0 (P:Program) (Post:Value->World->Prop) (X:Gh) (h:Nat) (H:Hid) (g:Goroutine) (u:World):Prop:=k7 H u->Fin P Post X h g (over H u)
theorem Di0 {u u':World} {τ:Tape} {d:Nat} (h:S9 (N2 u τ d) u'):S9 u u':=⟨h.size,h.obj⟩
theorem nl0 {H:Hid} {g:Goroutine} (H4:g.status= .running) (hs:∀τ d,∃g' u',Q5 P (h==0) g (N2 u τ d) g' u'/\(S9 u u'->gb0 P Post X h H g' u')):gb0 P Post X h H g u:=by
 intro hH;refine Fin.Fa0 H4 fun τ d=>?_;obtain⟨g',u',hF,hK⟩:=hs τ d;obtain⟨h1,h2⟩:=Q5.over (hH.N2 τ d) hF;rw[I8]at h1;refine⟨g',over H u',h1,fun⟨ρ,w,hs⟩=>?_⟩;have hE:=Di0 (h2 ρ w (by rw[I8];exact hs));exact hK hE (hH.evo hE)
theorem cz0 {H:Hid} {g:Goroutine} {τ:Tape} {d:Nat} (hF:gb0 P Post X h H g (N2 u τ d)):gb0 P Post X h H g u:=fun hH=>mb0 (hF (hH.N2 τ d))
theorem Ox0 (H:Hid):Cl P (h==0) (gb0 P Post X h H) :=
 ⟨fun g u hr hs=>nl0 hr fun τ d=>by
  obtain⟨g',u',d',hF,hZ⟩:=hs τ d;exact⟨g',u',hF,fun _=>cz0 hZ⟩⟩
def J8 (V:Nat->Prop) [DecidablePred V] (U:World):Hid:=fun b=>if V b then none else U.heap[b]?
def M3 (V:Nat->Prop) [DecidablePred V] (U:World):World:={U with heap:=U.heap.mapIdx fun b o=>if V b then o else nothing}
theorem kb0 (V:Nat->Prop) [DecidablePred V] (U:World) (b:Nat):(M3 V U).heap[b]? =(U.heap[b]?).map fun o=>if V b then o else nothing:=by simp[M3,Array.getElem?_mapIdx]
theorem an0 {V:Nat->Prop} [DecidablePred V] (U:World) {b:Nat} (h:V b):(M3 V U).heap[b]? =U.heap[b]?:=by rw[kb0];simp[h]
theorem gp0 {V:Nat->Prop} [DecidablePred V] {U:World} {b:Nat} (h:¬V b) (hb:b<U.heap.size):(M3 V U).heap[b]? =some nothing:=by rw[kb0,Array.getElem?_eq_getElem hb];simp[h]
theorem X8 (V:Nat->Prop) [DecidablePred V] (U:World):(M3 V U).heap.size=U.heap.size:=by simp[M3]
theorem iu0 (V:Nat->Prop) [DecidablePred V] (U:World):over (J8 V U) (M3 V U)=U:=by
 have:(over (J8 V U) (M3 V U)).heap=U.heap:=by
  apply Array.ext_getElem?;intro b;rw[nk0,kb0];unfold J8;cases hb:U.heap[b]? with
  |none=>rfl
  |some o=>by_cases hv:V b <;> simp[hv]
 show{M3 V U with heap:=(over (J8 V U) (M3 V U)).heap}=U;rw[this];rfl
theorem nm0 {V:Nat->Prop} [DecidablePred V] {U:World} (hv:∀(b:Nat) (o:Obj),U.heap[b]? =some o->y4 o=false):k7 (J8 V U) (M3 V U):=by
 refine⟨fun b o h=>?_,fun b o h=>?_⟩
 ·unfold J8 at h;by_cases hb:V b
  ·simp[hb]at h
  ·simp only[hb,if_false]at h;exact⟨0,(0,0),gp0 hb (Array.getElem?_eq_some_iff.1 h).1⟩
 ·unfold J8 at h;by_cases hb:V b
  ·simp[hb]at h
  ·simp only[hb,if_false]at h;exact hv b o h
end
def P6 (u:World):Prop:=∀(b:Nat) (o:Obj),u.heap[b]? =some o->y4 o=false
theorem P6.sim {u:World} (h:P6 u):l6 (fun _=>.all) u u:=⟨rfl,rfl,rfl,rfl,rfl,fun _b x hx=>⟨x,hx,.same x⟩,fun _ _=>rfl,h⟩
theorem P6.N2 {u:World} (h:P6 u) (τ:Tape) (d:Nat):P6 (Yc.N2 u τ d):=h
theorem Q5.evo {P:Program} {main:Bool} {g g':Goroutine} {u u':World} (h:Q5 P main g u g' u') (hv:P6 u):S9 u u'/\P6 u':=by
 obtain⟨h1,w',es,_,h2,_⟩:=h.2 _ _ hv.sim;exact⟨h1,h2.Y6⟩
def Ign (Z:Goroutine->World->Prop):Prop:=∀g u,(P6 u->Z g u)->Z g u
@[reducible] def j2 (P:Program) (main:Bool):Ctx P:=⟨main,fun Z=>Cl P main Z/\Ign Z,fun _ h=>h.1⟩
theorem ah0 {P:Program} {Post:Value->World->Prop} {X:Gh} {h:Nat}:Ign (Fin P Post X h):=by
 intro g u hF live T gs w sl q hg C;obtain⟨ρ,hs,_⟩:=C.sim;exact hF (show P6 (N2 u w.tape w.drawn)from hs.Y6) _ _ _ _ _ _ hg C
section
variable {P:Program}{main:Bool}{f:FuncId}{args:Array Value}{w:World}{R:Ending->World->Prop}
theorem iv0 {H:Hid} {u:World} (hH:k7 H u) (h:P6 (over H u)):P6 u:=by
 intro b o ho;cases hb:H b with
 |none=>exact h b o (by rw[M5 u hb];exact ho)
 |some o'=>
  obtain⟨T,f,hg⟩:=hH.gone b o' hb;rw[ho]at hg;obtain rfl:=Option.some.inj hg;rfl
theorem Calls.frame {H:Hid} (h:@Calls P (j2 P main) f args w R) (hH:k7 H w):@Calls P (j2 P main) f args (over H w) (fun e w'=>∃u',w'=over H u'/\k7 H u'/\R e u'):=by
 intro Z hZ cs hk;obtain⟨hc,hi⟩:=hZ;have e7:Cl P main (fun g u=>P6 u->k7 H u->Z g (over H u)):=⟨fun g u hr hs hv hH=>by
  refine hc.own g (over H u) hr fun τ d=>?_;obtain⟨g',u',d',hF,hz⟩:=hs τ d;obtain⟨he,hv'⟩:=Q5.evo hF (hv.N2 τ d);have h1:=(Q5.over (hH.N2 τ d) hF).1;rw[I8]at h1;refine⟨g',over H u',d',h1,?_⟩;have:=hz (hv'.N2 _ _) ((hH.evo (Di0 he)).N2 _ _);rw[I8]at this;exact this⟩
 refine hi _ _ fun hv=>?_;refine h (fun g u=>P6 u->k7 H u->Z g (over H u)) ⟨e7,fun g u z v=>z v v⟩ cs (fun e w' fr he hf hl hv hH'=>?_) (iv0 hH hv) hH;exact hk e _ fr ⟨w',rfl,hH',he⟩ hf (lf0 hH' hl)
theorem Calls.seen (V:Nat->Prop) [DecidablePred V] (h:@Calls P (j2 P main) f args (M3 V w) R):@Calls P (j2 P main) f args w (fun e w'=>∃u',w'=over (J8 V w) u'/\k7 (J8 V w) u'/\R e u'):=by
 intro Z hZ cs hk;refine hZ.2 _ _ fun hv=>?_;have:=Calls.frame h (H:=J8 V w) (nm0 hv);rw[iu0]at this;exact this Z hZ cs hk
end
end Go.Vy
end
section
namespace Go.Vy
open Go Go.Conc Go.Yc Go.RowKit
open Go.Vc (Ret)
def gh (w:World) (i:Nat):Nat:=w.tape i (.sched 0)
def tl0 (w:World) (i v:Nat):World:={w with tape:=fun j q=>if j=i then v else w.tape j q}
abbrev Gm:=Nat->Nat
def gm (w:World):Gm:=fun i=>gh w (i+3)
theorem K4 {w w':World} (h:w'.tape=w.tape) (i:Nat):gh w' i=gh w i:=by simp[gh,h]
theorem iw0 {w w':World} (h:w'.tape=w.tape):gm w'=gm w:=funext fun _i=>K4 h _
structure Stp where
 kind:Int
 obj:Int
 num:Int
structure Nte where
 kind:Int
 text:ByteArray
structure ix0 (S L:Type) where
 s:S
 r2:List Nte
 K8:L ⊕ Nat
def gk0 (s:Stp):Value:=.agg #[.int .i64 s.kind,.int .i64 s.obj,.int .i64 s.num]
structure L9 (P:Program) where
 S:Type
 L:Type
 stp:L->Stp
 rdy:L->S->Bool
 go:L->S->ix0 S L
 out:Nat->ix0 S L
 sOf:Nat->S
 n2:Nat->Nat
 le:Gm->Gm->Prop
 gu:Gm->Gm->Prop
 Inv:S->Gm->World->(Nat->Prop)->Prop
 At:Nat->L->Prop
 BAt:Nat->Prop
 num:Nat
 ptr:Nat
 base:World
 lg0:FuncId
 Sz0:Option FuncId
 X3:FuncId
 Io0:Option FuncId
 Ip0:FuncId
 top:List Frame
section
variable {P:Program}
structure L9.Told (K:L9 P) (w:World) (m:Gm) (F:Nat->Prop) (K8:K.L ⊕ Nat):Prop where
 on:gh w 2=0
 K8:(K.out (gh w 0)).K8=K8
 r2:gh w 1=(K.out (gh w 0)).r2.length
 inv:K.Inv (K.out (gh w 0)).s m w F
 le:K.gu (gm w) m
 os:w.os=K.base.os
 output:w.output=K.base.output
structure L9.I5 (K:L9 P) (w:World) (m:Gm) (F:Nat->Prop) (u:World) (F':Nat->Prop):Prop where
 size:w.heap.size <=u.heap.size
 j0:∀b,b<w.heap.size->w.heap[b]? ≠some nothing->¬F b->u.heap[b]? =w.heap[b]?/\¬F' b
 inv:K.Inv (K.sOf (gh u 0)) (gm u) u F'
 le:K.le m (gm u)
 os:u.os=w.os
 output:u.output=w.output
def cj0 (ch:List PanicEntry):Prop:=∃v X4,ch={v,recovered:=false} :: X4/\X4.dropWhile (!·.goexit)=[]
def Oy0 (P:Program) (v:Value) (f:FuncId) (caps:Array Value):Prop:=v= .func (.func f) #[] caps/\∃fn,P.funcs[f]? =some fn/\fn.body.isSome=true/\(fn.name== "runtime.NumGoroutine")=false
def FnV (P:Program) (v:Value):Prop:=v= .nilFunc\/∃f caps,Oy0 P v f caps
def L9.ed0 (K:L9 P) (w:World) (m:Gm) (F:Nat->Prop) (rf:Value) (l:K.L):Prop :=
 (rf= .nilFunc/\∀s,K.rdy l s=true)\/∃f caps,Oy0 P rf f caps/\∀u F',K.I5 w m F u F'->@Calls P (j2 P true) f caps u (Ret fun v u'=>v= .bool (K.rdy l (K.sOf (gh u 0)))/\Below u.heap.size u u')
def il1 (P:Program) (fN:FuncId) (ptr num:Nat) (Z:Goroutine->World->Prop):Prop:=∀cs w,(∀fr,fr.fn=fN->Leaves P fr w (.returned (.int .i64 num))->Z (G fr cs) w)->Z (G (Frame.enter P fN #[.pointer (some ⟨ptr,0,none⟩)] .normal) cs) w
@[reducible] def T4 (P:Program) (fN:FuncId) (ptr num:Nat):Ctx P:=⟨false,fun Z=>(Cl P false Z/\Ign Z)/\il1 P fN ptr num Z,fun _ h=>h.1.1⟩
def Fb0 (P:Program) (C0:Ctx P) (df:Value) (u:World) (R:World->Prop):Prop :=
 (df= .nilFunc/\R u)\/∃f caps,Oy0 P df f caps/\@Calls P C0 f caps u (Ret fun _ u2=>R u2)
@[reducible] def L9.T4 (K:L9 P):Ctx P:=Go.Vy.T4 P K.X3 K.ptr K.num
structure L9.Goes (K:L9 P) (w:World) (m:Gm) (F:Nat->Prop) (l:K.L) (u:World) (F':Nat->Prop):Prop where
 L7:K.I5 w m F u F'
 r2:gh u 1=0
 on:gh u 2=0
 out:K.out (gh u 0)=K.go l (K.sOf (gh u 0))
 rdy:K.rdy l (K.sOf (gh u 0))=true
 at_:K.At (gh u 0) l
structure Vh0 (w w':World):Prop where
 os:w'.os=w.os
 output:w'.output=w.output
 size:w.heap.size <=w'.heap.size
 block:∀b,b<w.heap.size->w'.heap[b]? =w.heap[b]?
def L9.Bf0 (K:L9 P) (w:World) (F:Nat->Prop):Ending->Prop
 | .returned _=>(∃m,K.Told w m F (.inr 1))\/(gh w 2=1/\(∃m,K.gu (gm w) m/\K.Inv (K.sOf (gh w 0)) m w F)/\w.os=K.base.os/\w.output=K.base.output)
 | .panicked ch=>cj0 ch/\((∃m,K.Told w m F (.inr 2))\/(gh w 2=1/\(∃m,K.gu (gm w) m/\K.Inv (K.sOf (gh w 0)) m w F)/\w.os=K.base.os/\w.output=K.base.output))
 | .outgrown=>False
inductive Y8 (K:L9 P):Goroutine->World->Prop
 |own {g u} (hr:g.status= .running) (g':Tape->Nat->Goroutine) (u':Tape->Nat->World) (d':Tape->Nat->Nat) (hf:∀τ d,Q5 P false g (N2 u τ d) (g' τ d) (u' τ d)) (hk:∀τ d,Y8 K (g' τ d) (N2 (u' τ d) u.tape (d' τ d))):Y8 K g u
 |ign {g u} (h:P6 u->Y8 K g u):Y8 K g u
 |step {cs w s rf df l m F} (ht:K.Told w m F (.inl l)) (hs:s=gk0 (K.stp l)) (hr:K.ed0 w m F rf l) (hdf:FnV P df) (Rdo:World->World->Prop)
   (hdo:∀u F',K.Goes w m F l u F'->Fb0 P K.T4 df u (Rdo u))
   (go:∀u F' u2,K.Goes w m F l u F'->Rdo u u2->u2.tape=u.tape->∀fr,fr.fn=K.lg0->Leaves P fr u2 (.returned (.tuple #[]))->Y8 K (G fr cs) u2)
   (stop:∀u F',K.I5 w m F u F'->gh u 2=1->∀fr ch,fr.fn=K.lg0->cj0 ch->Leaves P fr u (.panicked ch)->Y8 K (G fr cs) u) :
   Y8 K (G (Frame.enter P K.lg0 #[.pointer (some ⟨K.ptr,0,none⟩),s,rf,df] .normal) cs) w
 |again {cs w s rf df} (h2:gh w 2=1) (hs:∃s0,s=gk0 s0) (k:∀w' fr ch,Vh0 w w'->w'.tape=w.tape->fr.fn=K.lg0->cj0 ch->Leaves P fr w' (.panicked ch)->Y8 K (G fr cs) w') :
   Y8 K (G (Frame.enter P K.lg0 #[.pointer (some ⟨K.ptr,0,none⟩),s,rf,df] .normal) cs) w
 |note {cs w kind text f} (hfn:K.Sz0=some f) (h2:gh w 2=0) (hx:(K.out (gh w 0)).r2[gh w 1]? =some ⟨kind,text⟩)
   (k:∀w' fr,Vh0 w w'->gh w' 0=gh w 0->gh w' 1=gh w 1+1->gh w' 2=0->gm w'=gm w->fr.fn=f->Leaves P fr w' (.returned (.tuple #[]))->Y8 K (G fr cs) w') :
   Y8 K (G (Frame.enter P f #[.pointer (some ⟨K.ptr,0,none⟩),.int .i64 kind,.string text] .normal) cs) w
 |number {cs w} (k:∀fr,fr.fn=K.X3->Leaves P fr w (.returned (.int .i64 K.num))->Y8 K (G fr cs) w) :
   Y8 K (G (Frame.enter P K.X3 #[.pointer (some ⟨K.ptr,0,none⟩)] .normal) cs) w
 |n2 {cs w f} (hfn:K.Io0=some f) (h2:gh w 2=0) (k:∀fr,fr.fn=f->Leaves P fr w (.returned (.int .i64 (K.n2 (gh w 0))))->Y8 K (G fr cs) w) :
   Y8 K (G (Frame.enter P f #[.pointer (some ⟨K.ptr,0,none⟩)] .normal) cs) w
 |done {fr w e F} (hf:fr.fn=K.Ip0) (hl:Leaves P fr w e) (hd:K.Bf0 w F e):Y8 K (G fr K.top) w
theorem Oz0 (K:L9 P):Cl P false (Y8 K):=⟨fun g u hr hs=>by
 have h1:∀τ d,∃x:Goroutine×World×Nat,Q5 P false g (N2 u τ d) x.1 x.2.1/\Y8 K x.1 (N2 x.2.1 u.tape x.2.2):=fun τ d=>by
  obtain⟨g',u',d',hf,hk⟩:=hs τ d;exact⟨⟨g',u',d'⟩,hf,hk⟩
 exact .own hr (fun τ d=>(h1 τ d).choose.1) (fun τ d=>(h1 τ d).choose.2.1) (fun τ d=>(h1 τ d).choose.2.2) (fun τ d=>(h1 τ d).choose_spec.1) (fun τ d=>(h1 τ d).choose_spec.2)⟩
@[reducible] def N0 (K:L9 P):Ctx P:=⟨false,fun Z=>Z=Y8 K,fun _ h=>h▸Oz0 K⟩
theorem Fc0 {K:L9 P} {w:World} {s rf df:Value} {l:K.L} {m:Gm} {F:Nat->Prop} (ht:K.Told w m F (.inl l)) (hs:s=gk0 (K.stp l)) (hr:K.ed0 w m F rf l) (hdf:FnV P df) (Rdo:World->World->Prop) (hdo:∀u F',K.Goes w m F l u F'->Fb0 P K.T4 df u (Rdo u)) :
  @Calls P (N0 K) K.lg0 #[.pointer (some ⟨K.ptr,0,none⟩),s,rf,df] w (fun e u2=>match e with
   | .returned v=>v= .tuple #[]/\∃u F',K.Goes w m F l u F'/\Rdo u u2/\u2.tape=u.tape
   | .panicked ch=>cj0 ch/\∃F',K.I5 w m F u2 F'/\gh u2 2=1
   | .outgrown=>False):=by
 intro Z hZ cs hk;have h':Z=Y8 K:=hZ;subst h';exact .step ht hs hr hdf Rdo hdo (fun u F' u2 h1 h2 h3 fr h4 h5=>hk (.returned (.tuple #[])) u2 fr ⟨rfl,u,F',h1,h2,h3⟩ h4 h5) (fun u F' h1 h2 fr ch h3 h4 h5=>hk (.panicked ch) u fr ⟨h4,F',h1,h2⟩ h3 h5)
theorem ys0 {K:L9 P} {w:World}:@C P (N0 K) K.X3 #[.pointer (some ⟨K.ptr,0,none⟩)] w (fun v w'=>v= .int .i64 K.num/\w'=w):=by
 intro Z hZ cs hk;have h':Z=Y8 K:=hZ;subst h';exact .number fun fr h3 h4=>hk (.returned (.int .i64 K.num)) w fr ⟨rfl,rfl⟩ h3 h4
end
end Go.Vy
end
section
namespace Go.Wg
open Go Go.Conc Go.Yc
open Go.Vc (Env upd j3 ev I4 W2)
section
structure HF (P:Program) (main:Bool) (ok:Event->Prop) (Y:Nat->Nat->Goroutine->Prop):Prop where
 st:∀m d g g' es,g.status= .running->g'.status= .running->(∀e∈es,ok e)->(∀w,stepG P main g w= .go g' w es)->Y m (deafBehind d es) g'->Y (m+1) d g
theorem HF.c {P:Program} {main:Bool} {ok:Event->Prop} {Y:Nat->Nat->Goroutine->Prop} (hY:HF P main ok Y) {d:Nat} {g g':Goroutine} (h1:g.status= .running) (h2:g'.status= .running) (hs:∀w,stepG P main g w= .go g' w #[]) {m:Nat} (h:Y m d g'):Y (m+1) d g :=
 hY.st m d g g' #[] h1 h2 (fun e he=>by simp at he) hs h
structure fe0 (n:Nat) (a:Act) (e:Env) (ds:List Deferred):Prop where
 size:a.tmps.size=n
 defers:a.defers=ds
 get:∀t,a.tmps.getD t undef=e t
theorem fe0.eval {n:Nat} {a:Act} {e:Env} {ds:List Deferred} (h:fe0 n a e ds):a.eval=ev e:=by
 funext x;cases x <;> simp[Act.eval,ev,h.get]
theorem fe0.put {n:Nat} {a:Act} {e:Env} {ds:List Deferred} (h:fe0 n a e ds) {d:Option Nat} (hd:I4 n d=true) (v:Value):fe0 n (a.put d v) (j3 e d v) ds:=by
 cases d with
 |none=>exact h
 |some d=>
  have g6:d<n:=by simpa [I4,Nat.blt_eq]using hd
  refine⟨by simp[Act.put,h.size],by simp[Act.put,h.defers],fun t=>?_⟩;have hg:=h.get t;simp only[Act.put,j3,upd,Array.getD_eq_getD_getElem?,Array.getElem?_setIfInBounds]at hg⊢;by_cases htd:t=d
  ·subst htd;simp[h.size,g6]
  ·simp only[htd,if_false,Ne.symm htd];exact hg
theorem fe0.yielded {n:Nat} {a:Act} {e:Env} {ds:List Deferred} (h:fe0 n a e ds) {ops:Array Oper} (o:Oper):Region.wanted o (Go.yielded ops a.tmps)=Region.wanted o (W2 ops e):=by
 have h2:Go.Vc.Rep n {a with defers:=[]} e:=⟨h.size,rfl,h.get⟩
 exact Go.Vc.p5 (a:={a with defers:=[]}) h2 o
def y8 (args:Array Value):Env:=fun t=>args.getD t undef
theorem p8 {n:Nat} (args:Array Value) (m:Nat) (hn:args.size+(m-args.size)=n):fe0 n {tmps:=args++Array.replicate (m-args.size) undef,defers:=[]} (y8 args) []:=by
 refine⟨by simp[hn],rfl,fun t=>?_⟩;simp only[y8,Array.getD_eq_getD_getElem?,Array.getElem?_append];by_cases h:t<args.size
 ·rw[if_pos h]
 ·rw[if_neg h];rw[Array.getElem?_eq_none (xs:=args) (by omega)];rw[Array.getElem?_replicate];split <;> rfl
def At (Y:Nat->Nat->Goroutine->Prop) (ft n:Nat) (b:Frame) (cs:List Frame) (ds:List Deferred) (d:Nat) (e:Env) (todo:List Item):Prop:=∀a,fe0 n a e ds->Y ft d (G (b.at a todo) cs)
def AtR (Y:Nat->Nat->Goroutine->Prop) (ft n:Nat) (b:Frame) (cs:List Frame) (ds:List Deferred) (d:Nat) (e:Env) (todo:List Item):Prop:=∀a,fe0 n a e ds->Y ft d (G {b.at a todo with mode:=.returning} cs)
section
variable {P:Program}{main:Bool}{ok:Event->Prop}{Y:Nat->Nat->Goroutine->Prop}{ft n:Nat}{b:Frame}{cs:List Frame}{ds:List Deferred}{d:Nat}{e:Env}{k todo:List Item}
theorem At.c (hY:HF P main ok Y) {lh0:List Item} (hs:∀a w,stepG P main (G (b.at a todo) cs) w= .go (G (b.at a lh0) cs) w #[]) (h:At Y ft n b cs ds d e lh0):At Y (ft+1) n b cs ds d e todo :=
 fun a ha=>hY.c rfl rfl (hs a) (h a ha)
theorem At.seq (hY:HF P main ok Y) {x y:Code} (h:At Y ft n b cs ds d e (.code x :: .code y::k)):At Y (ft+1) n b cs ds d e (.code (.seq x y)::k):=At.c hY (fun _ _=>stepG_seq) h
theorem At.skip (hY:HF P main ok Y) (h:At Y ft n b cs ds d e k):At Y (ft+1) n b cs ds d e (.code .skip::k):=At.c hY (fun _ _=>stepG_skip) h
theorem At.block (hY:HF P main ok Y) {id:Nat} {c:Code} (h:At Y ft n b cs ds d e (.code c :: .inBlock id::k)):At Y (ft+1) n b cs ds d e (.code (.block id c)::k):=At.c hY (fun _ _=>stepG_block) h
theorem At.loop (hY:HF P main ok Y) {c:Code} (h:At Y ft n b cs ds d e (.code c :: .inLoop c::k)):At Y (ft+1) n b cs ds d e (.code (.loop c)::k):=At.c hY (fun _ _=>stepG_loop) h
theorem At.inBlock (hY:HF P main ok Y) {id:Nat} (h:At Y ft n b cs ds d e k):At Y (ft+1) n b cs ds d e (.inBlock id::k):=At.c hY (fun _ _=>stepG_inBlock) h
theorem At.inLoop (hY:HF P main ok Y) {c:Code} (h:At Y ft n b cs ds d e (.code c :: .inLoop c::k)):At Y (ft+1) n b cs ds d e (.inLoop c::k):=At.c hY (fun _ _=>stepG_inLoop) h
theorem At.exit (hY:HF P main ok Y) {id:Nat} {k':List Item} (hk:exitTo id k=some k') (h:At Y ft n b cs ds d e k'):At Y (ft+1) n b cs ds d e (.code (.exit id)::k):=At.c hY (fun _ _=>stepG_exit hk) h
theorem At.cond (hY:HF P main ok Y) {c:Operand} {x y:Code} {t:Bool} (hc:ev e c= .bool t) (h:At Y ft n b cs ds d e (.code (if t then x else y)::k)):At Y (ft+1) n b cs ds d e (.code (.cond c x y)::k) :=
 fun a ha=>hY.c rfl rfl (fun _=>stepG_cond (by rw[ha.eval];exact hc)) (h a ha)
theorem At.Q4 (hY:HF P main ok Y) {c:Operand} {x y:Code} (hc:ev e c= .bool true) (h:At Y ft n b cs ds d e (.code x::k)):At Y (ft+1) n b cs ds d e (.code (.cond c x y)::k):=At.cond hY hc h
theorem At.r6 (hY:HF P main ok Y) {c:Operand} {x y:Code} (hc:ev e c= .bool false) (h:At Y ft n b cs ds d e (.code y::k)):At Y (ft+1) n b cs ds d e (.code (.cond c x y)::k):=At.cond hY hc h
theorem At.ret (hY:HF P main ok Y) (h:∀todo,AtR Y ft n b cs ds d e todo):At Y (ft+1) n b cs ds d e (.code .ret::k):=fun a ha=>hY.c rfl rfl (fun _=>stepG_ret') (h _ a ha)
theorem At.done (hY:HF P main ok Y) (h:∀todo,AtR Y ft n b cs ds d e todo):At Y (ft+1) n b cs ds d e []:=fun a ha=>hY.c rfl rfl (fun _=>stepG_end) (h _ a ha)
variable {ops:Array Oper}{i:Nat}{o:Oper}
structure Pu (P:Program) (S:Sem Next) (v:Value):Prop where
 run:∀w,S.run P w= .ok (.value v) w
 evs:∀w,S.events P w #[]=#[]
def I0 (Y:Nat->Nat->Goroutine->Prop) (ft n:Nat) (b:Frame) (cs:List Frame) (ds:List Deferred) (d:Nat) (e:Env) (ops:Array Oper) (i:Nat) (l:List Oper) (k:List Item):Prop :=
 (∀j,l[j]? =ops[i+j]?)->At Y ft n b cs ds d e (.inRegion ops (List.range' i l.length)::k)
structure Iq0 (n:Nat) (b:Frame) (cs:List Frame) (ds:List Deferred) (e:Env) (ops:Array Oper) (i:Nat) (dst:Option Nat) (l:List Oper) (k:List Item) (H6:List Frame):Prop where
 rep:∃a,fe0 n a e ds/\H6=b.at a (.inRegion ops (i::List.range' (i+1) l.length)::k)::cs
 slot:(ops[i]?).bind (·.dst)=dst
 ok:I4 n dst=true
 tail:∀j,l[j]? =ops[i+1+j]?
variable {l:List Oper}{dst:Option Nat}{t:Nat}{op:Op}{ty:TypeId}{ps:String}{af:Array Edge}
theorem At.region (hY:HF P main ok Y) {id:Nat} {l:List Oper} (h:I0 Y ft n b cs ds d e l.toArray 0 l k):At Y (ft+1) n b cs ds d e (.code (.region id l.toArray false)::k) :=
 At.c hY (fun _ _=>by rw[stepG_region]) (by
  have:=h (fun j=>by simp);rw[show List.range l.toArray.size=List.range' 0 l.length by simp[List.range_eq_range']];exact this)
theorem I0.nil (hY:HF P main ok Y) (h:At Y ft n b cs ds d e k):I0 Y (ft+1) n b cs ds d e ops i [] k:=fun _=>At.c hY (fun _ _=>stepG_region_end) h
theorem J3 {ops:Array Oper} {i:Nat} {o:Oper} {l:List Oper} (h:∀j,(o::l)[j]? =ops[i+j]?):ops[i]? =some o/\∀j,l[j]? =ops[i+1+j]? :=
 ⟨by simpa using(h 0).symm,fun j=>by have:=h (j+1);simpa [Nat.add_assoc,Nat.add_comm 1 j]using this⟩
theorem I0.val (hY:HF P main ok Y) (hk:b.kind≠.early) (hd:I4 n dst=true) {v:Value} (hp:Pu P (execOp (ev e) ⟨dst,op,ty,ps,af,none⟩) v) (h:I0 Y ft n b cs ds d (j3 e dst v) ops (i+1) l k):I0 Y (ft+1) n b cs ds d e ops i (⟨dst,op,ty,ps,af,none⟩::l) k:=by
 intro hl a ha;obtain⟨ho,P5⟩:=J3 hl;refine hY.c rfl rfl (fun w=>?_) (h P5 _ (ha.put hd v));show stepG P main (G (b.at a (.inRegion ops (i::List.range' (i+1) l.length)::k)) cs) w=_;rw[stepG_value ho (by rw[ha.yielded];rfl) hk (by rw[ha.eval];exact hp.run w)];unfold listed;rw[ha.eval,hp.evs w,seen_none]
theorem I0.D9 {gu:Nat×Bool} (hY:HF P main ok Y) (hk:b.kind≠.early) (hw:W2 ops e gu.1=some gu.2) (hd:I4 n dst=true) {v:Value} (hp:Pu P (execOp (ev e) ⟨dst,op,ty,ps,af,some gu⟩) v) (h:I0 Y ft n b cs ds d (j3 e dst v) ops (i+1) l k):I0 Y (ft+1) n b cs ds d e ops i (⟨dst,op,ty,ps,af,some gu⟩::l) k:=by
 intro hl a ha;obtain⟨ho,P5⟩:=J3 hl;refine hY.c rfl rfl (fun w=>?_) (h P5 _ (ha.put hd v));show stepG P main (G (b.at a (.inRegion ops (i::List.range' (i+1) l.length)::k)) cs) w=_;rw[stepG_value ho (by rw[ha.yielded];simp[Region.wanted,hw]) hk (by rw[ha.eval];exact hp.run w)];unfold listed;rw[ha.eval,hp.evs w,seen_none]
theorem I0.off {gu:Nat×Bool} (hY:HF P main ok Y) (hw:W2 ops e gu.1=some (!gu.2)) (hd:I4 n dst=true) (h:I0 Y ft n b cs ds d (j3 e dst undef) ops (i+1) l k):I0 Y (ft+1) n b cs ds d e ops i (⟨dst,op,ty,ps,af,some gu⟩::l) k:=by
 intro hl a ha;obtain⟨ho,P5⟩:=J3 hl;refine hY.c rfl rfl (fun w=>?_) (h P5 _ (ha.put hd undef));exact stepG_unwanted ho (by
  rw[ha.yielded];obtain⟨j,want⟩:=gu;cases want <;> simp[Region.wanted]at hw⊢<;> simp[hw])
theorem M7 {args:Array Operand} {f:Operand->Value} {vl:List Value} (h:args.toList.map f=vl):args.map f=vl.toArray:=by rw[<- h,<- Array.toList_map,Array.toArray_toList]
theorem I0.call (hY:HF P main ok Y) (hk:b.kind≠.early) {f:FuncId} {fn:Func} {c:Code} {args:Array Operand} {ats:Array TypeId} (vs:List Value) (m:Nat) (hd:I4 n dst=true) (hf:P.funcs[f]? =some fn) (k3:(fn.name== "runtime.NumGoroutine")=false) (hb:fn.body=some c)
  (hv:args.toList.map (ev e)=vs) (hm:vs.toArray.size+(fn.ntmps-vs.toArray.size)=m) (h:∀H6,Iq0 n b cs ds e ops i dst l k H6->At Y ft m (base f) H6 [] d (y8 vs.toArray) [.code c]):I0 Y (ft+1) n b cs ds d e ops i (⟨dst,.call {callee:=.value (.func f),args,argTypes:=ats},ty,ps,af,none⟩::l) k:=by
 intro hl a ha;obtain⟨ho,P5⟩:=J3 hl;have D8:fn.body.isNone=false:=by rw[hb];rfl
 refine hY.c rfl rfl (fun w=>?_) (h _ ⟨⟨a,ha,rfl⟩,by rw[ho];rfl,hd,P5⟩ {tmps:=vs.toArray++Array.replicate (fn.ntmps-vs.toArray.size) undef,defers:=[]} (p8 vs.toArray _ hm));show stepG P main (G (b.at a (.inRegion ops (i::List.range' (i+1) l.length)::k)) cs) w=_;rw[stepG_enter ho (by rw[ha.yielded];rfl) hk (run_call_body rfl hf k3 D8),enter_at _ hf hb];have h1:listed P b.fn a ⟨dst,.call {callee:=.value (.func f),args,argTypes:=ats},ty,ps,af,none⟩ w=#[]:=by unfold listed;rw[events_call_body rfl hf k3 D8];exact seen_none P _
 have h2:args.map a.eval=vs.toArray:=by rw[ha.eval];exact M7 hv
 rw[h1,h2]
theorem I0.yt0 (hY:HF P main ok Y) (hk:b.kind≠.early) (mk:Mark) (hm:∀g,mk≠.extern g) (hok:ok ⟨.mark mk,false,true⟩) {f:FuncId} {fn:Func} {asx:Array Operand} {ats:Array TypeId} (hd:I4 n dst=true)
  (hf:P.funcs[f]? =some fn) (k3:(fn.name== "runtime.NumGoroutine")=false) (hb:fn.body.isNone=true) (hn:Extern.findNext fn=none) (he:Extern.find fn=some (fun _=>do mark mk;pure Extern.Race.none_))
  (h:I0 Y ft n b cs ds (deafBehind d #[⟨.mark mk,false,true⟩]) (j3 e dst (.tuple #[])) ops (i+1) l k):I0 Y (ft+1) n b cs ds d e ops i (⟨dst,.call {callee:=.value (.func f),args:=asx,argTypes:=ats},ty,ps,af,none⟩::l) k:=by
 intro hl a ha;obtain⟨ho,P5⟩:=J3 hl;exact hY.st _ _ _ _ #[⟨.mark mk,false,true⟩] rfl rfl (fun x hx=>by simp at hx;subst hx;exact hok) (fun w=>stepG_mark0 mk hm ho (by rw[ha.yielded];rfl) hk rfl hf k3 hb hn he) (h P5 _ (ha.put hd _))
theorem I0.wg0 (hY:HF P main ok Y) (hk:b.kind≠.early) (mk:Addr->Mark) (hm:∀ad g,mk ad≠.extern g) {ad:Addr} (hok:ok ⟨.mark (mk ad),false,true⟩) {f:FuncId} {fn:Func} {asx:Array Operand} {ats:Array TypeId} (hd:I4 n dst=true)
  (hf:P.funcs[f]? =some fn) (k3:(fn.name== "runtime.NumGoroutine")=false) (hb:fn.body.isNone=true) (hn:Extern.findNext fn=none) (he:Extern.find fn=some (Extern.Race.marked mk)) (hx:(asx.toList.map (ev e))[0]? =some (.pointer (some ad)))
  (h:I0 Y ft n b cs ds (deafBehind d #[⟨.mark (mk ad),false,true⟩]) (j3 e dst (.tuple #[])) ops (i+1) l k):I0 Y (ft+1) n b cs ds d e ops i (⟨dst,.call {callee:=.value (.func f),args:=asx,argTypes:=ats},ty,ps,af,none⟩::l) k:=by
 intro hl a ha;obtain⟨ho,P5⟩:=J3 hl;exact hY.st _ _ _ _ #[⟨.mark (mk ad),false,true⟩] rfl rfl (fun x hx=>by simp at hx;subst hx;exact hok) (fun w=>stepG_markAt mk hm ho (by rw[ha.yielded];rfl) hk rfl hf k3 hb hn he (by rw[ha.eval,M7 rfl];simpa using hx)) (h P5 _ (ha.put hd _))
theorem I0.tm0 (hY:HF P main ok Y) (hk:b.kind≠.early) (v:Value) {f:FuncId} {fn:Func} {asx:Array Operand} {ats:Array TypeId} (hd:I4 n dst=true)
  (hf:P.funcs[f]? =some fn) (k3:(fn.name== "runtime.NumGoroutine")=false) (hb:fn.body.isNone=true) (hn:Extern.findNext fn=none) (he:Extern.find fn=some (fun _=>pure v))
  (h:I0 Y ft n b cs ds d (j3 e dst v) ops (i+1) l k):I0 Y (ft+1) n b cs ds d e ops i (⟨dst,.call {callee:=.value (.func f),args:=asx,argTypes:=ats},ty,ps,af,none⟩::l) k:=by
 intro hl a ha;obtain⟨ho,P5⟩:=J3 hl;exact hY.c rfl rfl (fun w=>stepG_entry_pure v ho (by rw[ha.yielded];rfl) hk rfl hf k3 hb hn he) (h P5 _ (ha.put hd _))
theorem I0.defer (hY:HF P main ok Y) (hk:b.kind≠.early) {f:FuncId} {asx:Array Operand} {ats:Array TypeId} (vs:List Value) (hv:asx.toList.map (ev e)=vs)
  (h:I0 Y ft n b cs (dcall f vs.toArray::ds) d e ops (i+1) l k):I0 Y (ft+1) n b cs ds d e ops i (⟨none,.defer {callee:=.value (.func f),args:=asx,argTypes:=ats},ty,ps,af,none⟩::l) k:=by
 intro hl a ha;obtain⟨ho,P5⟩:=J3 hl;refine hY.c rfl rfl (fun w=>stepG_defer ho (by rw[ha.yielded];rfl) hk rfl) ?_;rw[ha.eval,M7 hv,ha.defers];exact h P5 _ ⟨ha.size,rfl,ha.get⟩
theorem AtR.leave1 (hY:HF P main ok Y) {fn:Func} {t:Tmp} {n0:Nat} {b0:Frame} {ds0:List Deferred} {e0:Env} {k0:List Item} {H6:List Frame} (hB:Iq0 n0 b0 cs ds0 e0 ops i dst l k0 H6) (hn:b.kind= .normal) (hf:P.funcs[b.fn]? =some fn) (hr:fn.results=#[.tmp t]) (v:Value) (hv:e t=v)
  (h:I0 Y ft n0 b0 cs ds0 d (j3 e0 dst v) ops (i+1) l k0):AtR Y (ft+1) n b H6 [] d e todo:=by
 intro a ha;obtain⟨a0,ha0,rfl⟩:=hB.rep;subst hv;refine hY.c rfl rfl (fun w=>?_) (h hB.tail _ (ha0.put hB.ok (e t)));rw[stepG_leave hn ha.defers hf (results_tmp hr _ P w) (events_results_tmp hr _ _),Frame.finish_at,ha.get,hB.slot]
theorem AtR.leave0 (hY:HF P main ok Y) {fn:Func} {n0:Nat} {b0:Frame} {ds0:List Deferred} {e0:Env} {k0:List Item} {H6:List Frame} (hB:Iq0 n0 b0 cs ds0 e0 ops i dst l k0 H6) (hn:b.kind= .normal) (hf:P.funcs[b.fn]? =some fn) (hr:fn.results=#[])
  (h:I0 Y ft n0 b0 cs ds0 d (j3 e0 dst (.tuple #[])) ops (i+1) l k0):AtR Y (ft+1) n b H6 [] d e todo:=by
 intro a ha;obtain⟨a0,ha0,rfl⟩:=hB.rep;refine hY.c rfl rfl (fun w=>?_) (h hB.tail _ (ha0.put hB.ok (.tuple #[])));rw[stepG_leave hn ha.defers hf (results_none hr _ P w) (events_results_none hr _ _),Frame.finish_at,hB.slot]
theorem AtR.mark (hY:HF P main ok Y) (mk:Mark) (hm:∀g,mk≠.extern g) (hok:ok ⟨.mark mk,false,true⟩) {f:FuncId} {fn:Func} (hf:P.funcs[f]? =some fn) (k3:(fn.name== "runtime.NumGoroutine")=false) (hb:fn.body.isNone=true) (hn:Extern.findNext fn=none) (he:Extern.find fn=some (fun _=>do mark mk;pure Extern.Race.none_))
  (h:AtR Y ft n b cs ds (deafBehind d #[⟨.mark mk,false,true⟩]) e todo):AtR Y (ft+1) n b cs (dcall f #[]::ds) d e todo:=by
 intro a ha;refine hY.st _ _ _ _ #[⟨.mark mk,false,true⟩] rfl rfl (fun x hx=>by simp at hx;subst hx;exact hok) (fun w=>stepG_unwind_entry (v:=.tuple #[]) (evs:=#[⟨.mark mk,false,true⟩]) ha.defers hf k3 hb hn he (by simp[Extern.Race.none_]) (by simp) (by
  intro x D4;simp at D4;subst D4;exact⟨rfl,fun g h=>hm g (Loc.mark.inj h)⟩)) ?_
 exact h ⟨a.tmps,ds⟩ ⟨ha.size,rfl,ha.get⟩
theorem AtR.leaveD (hY:HF P main ok Y) {fn:Func} {c:Frame} (hn:b.kind= .deferred) (hf:P.funcs[b.fn]? =some fn) (hr:fn.results=#[]) (hc:c.mode= .returning) (h:Y ft d (G c cs)):AtR Y (ft+1) n b (c::cs) [] d e todo :=
 fun _a ha=>hY.c rfl rfl (fun w=>stepG_leave_deferred hn ha.defers hf (results_none hr _ P w) (events_results_none hr _ _) hc) h
def StG (P:Program) (main:Bool) (gr:j5) (Y:Nat->Nat->Goroutine->Prop):Prop:=∀m d g g',g.status= .running->g'.status= .running->(∀w st sm,m8 gr st sm w->stepG P main g w= .go g' w #[])->Y m d g'->Y (m+1) d g
theorem I0.toUnsafe {gr:j5} (hG:StG P main gr Y) (hk:b.kind≠.early) {S D t:TypeId} {x:Operand} {off:Nat} (hd:I4 n dst=true) (hx:ev e x= .pointer (some ⟨gr.blk,off,none⟩)) (Ob0:off=gr.off\/off=gr.off+1)
  (hS:P.underlying S=some (.pointer t)) (hD:P.underlying D=some .unsafePointer) (I2:(P.info? t).map (fun i=>decide (i.size=0))=some false)
  (h:I0 Y ft n b cs ds d (j3 e dst (.pointer (some ⟨gr.blk,off,none⟩))) ops (i+1) l k):I0 Y (ft+1) n b cs ds d e ops i (⟨dst,.convert S D x,ty,ps,af,none⟩::l) k:=by
 intro hl a ha;obtain⟨ho,P5⟩:=J3 hl;refine hG _ _ _ _ rfl rfl (fun w st sm hw=>?_) (h P5 _ (ha.put hd _));obtain⟨h1,h2,_,_⟩:=hw.cells;obtain⟨v,hc⟩:∃v,w.cell? ⟨gr.blk,off,none⟩=some v:=by
  rcases Ob0 with rfl|rfl
  ·exact⟨_,h1⟩
  ·exact⟨_,h2⟩
 have hr:(execOp a.eval ⟨dst,.convert S D x,ty,ps,af,none⟩).run P w= .ok (.value (.pointer (some ⟨gr.blk,off,none⟩))) w:=by
  rw[ha.eval];simp only[execOp,hx,Sem.run_bind,run_convert_to_unsafe hS hD I2 hc,Result.andThen_ok,Sem.run_pure]
 have he:(execOp a.eval ⟨dst,.convert S D x,ty,ps,af,none⟩).events P w #[]=#[]:=by
  rw[ha.eval];simp[execOp,hx,events_convert_to_unsafe hS hD I2 hc]
 show stepG P main (G (b.at a (.inRegion ops (i::List.range' (i+1) l.length)::k)) cs) w=_;rw[stepG_value ho (by rw[ha.yielded];rfl) hk hr];unfold listed;rw[he,seen_none]
end
section
variable {P:Program}{ρ:Operand->Value}{d:Option Nat}{ty:TypeId}{ps:String}{af:Array Edge}{g:Option (Nat×Bool)}{x y z:Operand}{T T':TypeId}{v:Value}
theorem M0 (h:ρ x=v):Pu P (execOp ρ ⟨d,.move x,ty,ps,af,g⟩) v:=⟨fun w=>by subst h;rfl,fun w=>by subst h;rfl⟩
theorem Y0 (h:ρ x=v):Pu P (execOp ρ ⟨d,.assign x,ty,ps,af,g⟩) v:=⟨fun w=>by subst h;rfl,fun w=>by subst h;rfl⟩
theorem L8 (h:ρ z= .bool true) (hx:ρ x=v):Pu P (execOp ρ ⟨d,.pick z x y,ty,ps,af,g⟩) v:=⟨fun w=>by subst hx;exact Go.Vc.E8 h,fun w=>by simp[execOp,h,asBool]⟩
theorem db0 (h:ρ z= .bool false) (hy:ρ y=v):Pu P (execOp ρ ⟨d,.pick z x y,ty,ps,af,g⟩) v:=⟨fun w=>by subst hy;exact Go.Vc.u7 h,fun w=>by simp[execOp,h,asBool]⟩
theorem N3 {p:Addr} (h:ρ x= .pointer (some p)):Pu P (execOp ρ ⟨d,.nilCheck x,ty,ps,af,g⟩) (.pointer (some p)):=⟨fun w=>by simp[execOp,h],fun w=>by simp[execOp,h]⟩
theorem nn0 {S:TypeId} {b o f:Nat} {fs:Array Field} {fl:Field} {s:Nat} (hx:ρ x= .pointer (some ⟨b,o,none⟩)) (hT:P.underlying S=some (.struct fs)) (hf:fs[f]? =some fl) (hs:(P.info? fl.type).map (·.size)=some s) (h0:s≠0):Pu P (execOp ρ ⟨d,.fieldAddr S x f,ty,ps,af,g⟩) (.pointer (some ⟨b,o+fl.offset,none⟩)):=by
 refine⟨fun w=>Go.Vc.G0 hx hT hf hs h0,fun w=>?_⟩;obtain⟨i,hi,hs'⟩:=Option.map_eq_some_iff.1 hs;simp[execOp,hx,Instr.fieldAt,run_underlying hT,hf,Instr.sureAddr,fieldPlace,sizeOf,typeInfo,hi,hs',h0,go_sem]
theorem G3 {S:TypeId} {b f:Nat} (o r:Nat) {fs:Array Field} {fl:Field} {s:Nat} (hx:ρ x= .pointer (some ⟨b,o,none⟩)) (hT:P.underlying S=some (.struct fs)) (hf:fs[f]? =some fl) (hs:(P.info? fl.type).map (·.size)=some s) (h0:s≠0) (hr:o+fl.offset=r):Pu P (execOp ρ ⟨d,.fieldAddr S x f,ty,ps,af,g⟩) (.pointer (some ⟨b,r,none⟩)):=by subst hr;exact nn0 hx hT hf hs h0
variable {κ κ':IntKind}{m k r:Int}
theorem Vi0 (hx:ρ x= .int κ m) (hy:ρ y= .int κ k):Pu P (execOp ρ ⟨d,.binOp .lss T x y T',ty,ps,af,g⟩) (.bool (decide (m<k))):=⟨fun w=>Go.Vc.im0 hx hy,fun w=>by simp[execOp,hx,hy,eqGuard,binOp,Op.intCmp]⟩
theorem Vj0 (hx:ρ x= .int κ m) (hy:ρ y= .int κ k):Pu P (execOp ρ ⟨d,.binOp .gtr T x y T',ty,ps,af,g⟩) (.bool (decide (k<m))):=⟨fun w=>Go.Vc.na0 hx hy,fun w=>by simp[execOp,hx,hy,eqGuard,binOp,Op.intCmp]⟩
theorem Vk0 (hx:ρ x= .int κ m) (hy:ρ y= .int κ k):Pu P (execOp ρ ⟨d,.binOp .eql T x y T',ty,ps,af,g⟩) (.bool (decide (m=k))):=⟨fun w=>Go.Vc.H2 hx hy,fun w=>by simp[execOp,hx,hy,go_sem,eqGuard,binOp,Op.intCmp]⟩
theorem Vl0 (hx:ρ x= .int κ m) (hy:ρ y= .int κ k):Pu P (execOp ρ ⟨d,.binOp .neq T x y T',ty,ps,af,g⟩) (.bool (decide (m≠k))):=⟨fun w=>Go.Vc.ax0 hx hy,fun w=>by simp[execOp,hx,hy,go_sem,eqGuard,binOp,Op.intCmp]⟩
theorem bv0 {r:Bool} (hx:ρ x= .int κ m) (hy:ρ y= .int κ k) (hr:decide (m<k)=r):Pu P (execOp ρ ⟨d,.binOp .lss T x y T',ty,ps,af,g⟩) (.bool r):=by subst hr;exact Vi0 hx hy
theorem ee0 {r:Bool} (hx:ρ x= .int κ m) (hy:ρ y= .int κ k) (hr:decide (k<m)=r):Pu P (execOp ρ ⟨d,.binOp .gtr T x y T',ty,ps,af,g⟩) (.bool r):=by subst hr;exact Vj0 hx hy
theorem ai0 {r:Bool} (hx:ρ x= .int κ m) (hy:ρ y= .int κ k) (hr:decide (m=k)=r):Pu P (execOp ρ ⟨d,.binOp .eql T x y T',ty,ps,af,g⟩) (.bool r):=by subst hr;exact Vk0 hx hy
theorem T7 {r:Bool} (hx:ρ x= .int κ m) (hy:ρ y= .int κ k) (hr:decide (m≠k)=r):Pu P (execOp ρ ⟨d,.binOp .neq T x y T',ty,ps,af,g⟩) (.bool r):=by subst hr;exact Vl0 hx hy
theorem Bg0 (hx:ρ x= .int κ m) (hy:ρ y= .int κ k) (hr:κ.wrap (m+k)=r):Pu P (execOp ρ ⟨d,.binOp .add T x y T',ty,ps,af,g⟩) (.int κ r):=⟨fun w=>by rw[<- hr];exact Go.Vc.il0 hx hy,fun w=>by simp[execOp,hx,hy,eqGuard,binOp,Op.intArith]⟩
theorem Vm0 (hx:ρ x= .int κ m) (hy:ρ y= .int κ k) (hr:κ.wrap (m-k)=r):Pu P (execOp ρ ⟨d,.binOp .sub T x y T',ty,ps,af,g⟩) (.int κ r):=⟨fun w=>by rw[<- hr];exact Go.Vc.yg0 hx hy,fun w=>by simp[execOp,hx,hy,eqGuard,binOp,Op.intArith]⟩
theorem l7 (hx:ρ x= .int κ m) (hy:ρ y= .int κ k) (hr:κ.wrap ((BitVec.ofInt κ.bits m &&& BitVec.ofInt κ.bits k).toNat:Int)=r):Pu P (execOp ρ ⟨d,.binOp .and T x y T',ty,ps,af,g⟩) (.int κ r):=⟨fun w=>by subst hr;simp[execOp,hx,hy,eqGuard,binOp,Op.intBits],fun w=>by simp[execOp,hx,hy,eqGuard,binOp,Op.intBits]⟩
theorem Ir0 (hx:ρ x= .int κ m) (hy:ρ y= .int κ' k) (h0:0 <=k) (hr:κ.wrap (m*2 ^ (min k.toNat κ.bits))=r):Pu P (execOp ρ ⟨d,.binOp .shl T x y T',ty,ps,af,g⟩) (.int κ r):=⟨fun w=>by subst hr;simp[execOp,hx,hy,eqGuard,binOp,Op.shift,show ¬k<0 by omega],fun w=>by simp[execOp,hx,hy,eqGuard,binOp,Op.shift,show ¬k<0 by omega]⟩
theorem ef0 (hx:ρ x= .int κ m) (hy:ρ y= .int κ' k) (h0:0 <=k) (hr:m.fdiv (2 ^ (min k.toNat κ.bits))=r):Pu P (execOp ρ ⟨d,.binOp .shr T x y T',ty,ps,af,g⟩) (.int κ r):=⟨fun w=>by subst hr;simp[execOp,hx,hy,eqGuard,binOp,Op.shift,show ¬k<0 by omega],fun w=>by simp[execOp,hx,hy,eqGuard,binOp,Op.shift,show ¬k<0 by omega]⟩
theorem B3 {S D:TypeId} (hx:ρ x= .int κ m) (hS:P.underlying S=some (.int κ)) (hD:P.underlying D=some (.int κ')) (hr:κ'.wrap m=r):Pu P (execOp ρ ⟨d,.convert S D x,ty,ps,af,g⟩) (.int κ' r):=by
 subst hr;refine⟨fun w=>?_,fun w=>?_⟩ <;> simp[execOp,hx,convert,run_underlying hS,run_underlying hD,go_sem]
end
theorem A1 (f:FuncId):(base f).kind≠.early:=by intro h;cases h
theorem bkd (f:FuncId):(baseD f).kind≠.early:=by intro h;cases h
theorem H3 (P:Program) (gr:j5):HF P false (fun e=>Ap0 e=true) (fun m d g=>Lt P gr m d g) :=
 ⟨fun _m _d _g g' es h1 _ h3 h4 h5=>.inl ⟨g',es,⟨h1,h3,fun w _ _ _=>h4 w⟩,h5⟩⟩
theorem ax1 (P:Program) (gr:j5):StG P false gr (fun m d g=>Lt P gr m d g) :=
 fun m d g g' h1 _ h3 h4=>.inl ⟨g',#[],⟨h1,fun e he=>by simp at he,h3⟩,h4⟩
theorem F0 (P:Program):HF P false (fun e=>Event.mute e=true) (fun m d g=>QuitsD P m d g) :=
 ⟨fun _m _d _g g' es h1 _ h3 h4 h5=>.inr ⟨h1,g',es,h3,h4,h5⟩⟩
theorem QuitsD.mono {P:Program}:∀{n m d:Nat} {g:Goroutine},QuitsD P n d g->n <=m->QuitsD P m d g
 |0,0,_,_,h,_=>h
 |0,_+1,_,_,h,_=>.inl h
 |n+1,0,_,_,_,hm=>absurd hm (by omega)
 |n+1,m+1,_,_,h,hm=>h.elim .inl fun⟨h1,g',es,h2,h3,h4⟩=>.inr ⟨h1,g',es,h2,h3,QuitsD.mono h4 (by omega)⟩
def quiet (e:Event):Bool:=match e.loc with
 | .mark .disable| .mark .enable| .mark (.read _)| .mark (.write _)| .mark (.release _)=>false
 | .mark _=>true
 |_=>false
theorem gq0 {e:Event} (h:quiet e=true):Ap0 e=true/\e.loc≠.mark .disable/\e.loc≠.mark .enable:=by
 obtain⟨l,a,b⟩:=e;cases l with
 |mark m=>cases m <;> first|(cases h;done)|exact⟨rfl,by simp,by simp⟩
 |_=>cases h
theorem deaf_quiet {d:Nat} {es:Array Event} (h:∀e∈es,quiet e=true):deafBehind d es=d:=deafBehind_still (fun e he=>(gq0 (h e he)).2) d
theorem W0 (P:Program) (gr:j5) (s:Nat):HF P false (fun e=>quiet e=true) (fun m d g=>0<d->Lst P gr m s d g) :=
 ⟨fun m d g g' es h1 _ h3 h4 h5 hd=>⟨hd,.inl ⟨g',es,⟨h1,fun e he=>(gq0 (h3 e he)).1,fun w _ _ _=>h4 w⟩,fun e he=>(gq0 (h3 e he)).2,by rw[deaf_quiet h3]at h5;exact h5 hd⟩⟩⟩
theorem no0 (v wt:Nat) (hw:wt <=1) (hv:v<2147483648):IntKind.u64.wrap ((BitVec.ofInt IntKind.u64.bits ((v*4294967296+wt:Nat):Int) &&& BitVec.ofInt IntKind.u64.bits 2147483648).toNat:Int)=0:=by
 have h1:(BitVec.ofInt 64 ((v*4294967296+wt:Nat):Int)).toNat=v*4294967296+wt:=by
  rw[BitVec.ofInt_natCast,BitVec.toNat_ofNat];exact Nat.mod_eq_of_lt (by omega)
 have h2:(BitVec.ofInt 64 2147483648).toNat=2147483648:=by decide
 show IntKind.u64.wrap ((BitVec.ofInt 64 ((v*4294967296+wt:Nat):Int) &&& BitVec.ofInt 64 2147483648).toNat:Int)=0;rw[BitVec.toNat_and,h1,h2];have h3:(v*4294967296+wt) &&& 2147483648=0:=by
  apply Nat.eq_of_testBit_eq;intro i;rw[Nat.testBit_and,Nat.zero_testBit];by_cases hi:i=31
  ·subst hi;have:(v*4294967296+wt).testBit 31=false:=by
    rw[Nat.testBit_eq_decide_div_mod_eq];have:(v*4294967296+wt)/2 ^ 31=v*2:=by omega
    rw[this];simp
   rw[this];rfl
  ·have:(2147483648:Nat).testBit i=false:=by
    rw[show(2147483648:Nat)=2 ^ 31 by decide,Nat.testBit_two_pow];simp;omega
   rw[this];simp
 rw[h3];decide
theorem gr0 (v wt:Nat) (hw:wt <=1) (hv:v<2147483648):IntKind.u64.wrap ((BitVec.ofInt IntKind.u64.bits ((v*4294967296+wt:Nat):Int) &&& BitVec.ofInt IntKind.u64.bits 2147483647).toNat:Int)=(wt:Int):=by
 have h1:(BitVec.ofInt 64 ((v*4294967296+wt:Nat):Int)).toNat=v*4294967296+wt:=by
  rw[BitVec.ofInt_natCast,BitVec.toNat_ofNat];exact Nat.mod_eq_of_lt (by omega)
 have h2:(BitVec.ofInt 64 2147483647).toNat=2147483647:=by decide
 show IntKind.u64.wrap ((BitVec.ofInt 64 ((v*4294967296+wt:Nat):Int) &&& BitVec.ofInt 64 2147483647).toNat:Int)=_;rw[BitVec.toNat_and,h1,h2,show(2147483647:Nat)=2 ^ 31-1 by decide,Nat.and_two_pow_sub_one_eq_mod];rw[IntKind.wrap_u64];omega
theorem np0 (v wt:Nat) (hw:wt <=1):(((v*4294967296+wt:Nat):Int)).fdiv (2 ^ (min (32:Int).toNat IntKind.u64.bits))=(v:Int):=by
 have:(2:Int) ^ (min (32:Int).toNat IntKind.u64.bits)=4294967296:=by decide
 rw[this,Int.fdiv_eq_ediv_of_nonneg _ (by decide)];omega
theorem dc0 (v:Nat) (hv:v<2147483648):IntKind.i32.wrap (v:Int)=(v:Int):=by
 simp only[IntKind.wrap,IntKind.bits,IntKind.signed];simp;omega
attribute [local irreducible] KK
theorem yu0:KK=4294967296:=by unfold KK;rfl
theorem Is0 (v wt:Nat) (h:v<2147483647) (hw:wt <=1):IntKind.u64.wrap ((((v+1)*4294967296+wt:Nat):Int)+18446744069414584320)=((v*4294967296+wt:Nat):Int):=by rw[IntKind.wrap_u64];omega
theorem It0 (v:Nat) (h:v<2147483647):IntKind.u64.wrap (((v*4294967296:Nat):Int)+4294967296)=(((v+1)*4294967296:Nat):Int):=by rw[IntKind.wrap_u64];omega
section
variable {P:Program}{gr:j5}{ft n:Nat}{b:Frame}{cs:List Frame}{ds:List Deferred}{d:Nat}{e:Env}{k:List Item}{ops:Array Oper}{i:Nat}{l:List Oper}{dst:Option Nat}{ty:TypeId}{ps:String}{af:Array Edge}{f:FuncId}{fn:Func}{x y z:Operand}{ats:Array TypeId}
abbrev YLt (P:Program) (gr:j5):Nat->Nat->Goroutine->Prop:=fun m d g=>Lt P gr m d g
abbrev YQ (P:Program):Nat->Nat->Goroutine->Prop:=fun m d g=>QuitsD P m d g
abbrev Fd0 (P:Program) (gr:j5) (s:Nat):Nat->Nat->Goroutine->Prop:=fun m d g=>0<d->Lst P gr m s d g
theorem I0.Ta0 (hk:b.kind≠.early) (hd:I4 n dst=true) (hf:P.funcs[f]? =some fn) (k3:(fn.name== "runtime.NumGoroutine")=false) (hb:fn.body.isNone=true) (hn:Extern.findNext fn=none) (he:Extern.find fn=some (Extern.Atomic.update (Op.intArith .add) .u64 true)) (hx:ev e x= .pointer (some ⟨gr.blk,gr.off,none⟩)) (hy:ev e y= .int .u64 18446744069414584320)
  (h1:∀v wt:Nat,wt <=1->v<2147483647->¬(v=0/\wt=1)->I0 (YQ P) ft n b cs ds (d+1) (j3 e dst (.int .u64 ((v*4294967296+wt:Nat):Int))) ops (i+1) l k)
  (h2:I0 (Fd0 P gr 2) ft n b cs ds (d+1) (j3 e dst (.int .u64 ((0*4294967296+1:Nat):Int))) ops (i+1) l k) :
  I0 (YLt P gr) (ft+1) n b cs ds (d+1) e ops i (⟨dst,.call {callee:=.value (.func f),args:=#[x,y],argTypes:=ats},ty,ps,af,none⟩::l) k:=by
 intro hl a ha;obtain⟨ho,P5⟩:=J3 hl;refine .inr ⟨rfl,Nat.succ_pos d,fun v wt hwt hv=>⟨G (b.at (a.put dst (.int .u64 ((v*4294967296+wt:Nat):Int))) (.inRegion ops (List.range' (i+1) l.length)::k)) cs,fun w hw=>?_,fun o3=>h1 v wt hwt hv o3 P5 _ (ha.put hd _),fun hl2=>?_⟩⟩
 ·rw[yu0]at hw⊢;obtain⟨c1,_,c3,_⟩:=hw.cells;show stepG P false (G (b.at a (.inRegion ops (i::List.range' (i+1) l.length)::k)) cs) w=_;rw[stepG_add_atomic ho (by rw[ha.yielded];rfl) hk rfl hf k3 hb hn .u64 he (ad:=stA gr) (by rw[ha.eval];exact hx) (by rw[ha.eval];exact hy) c1 c3,Is0 v wt hv hwt];rfl
 ·obtain⟨rfl,rfl⟩:=hl2;exact h2 P5 _ (ha.put hd _) (Nat.succ_pos d)
theorem I0.Pa0 (hk:b.kind≠.early) (hd:I4 n dst=true) (hf:P.funcs[f]? =some fn) (k3:(fn.name== "runtime.NumGoroutine")=false) (hb:fn.body.isNone=true) (hn:Extern.findNext fn=none) (he:Extern.find fn=some (Extern.Atomic.loadT (.int .u64))) (hx:ev e x= .pointer (some ⟨gr.blk,gr.off,none⟩))
  (h:I0 (Fd0 P gr 1) ft n b cs ds d (j3 e dst (.int .u64 1)) ops (i+1) l k) :
  I0 (Fd0 P gr 2) (ft+1) n b cs ds d e ops i (⟨dst,.call {callee:=.value (.func f),args:=#[x],argTypes:=ats},ty,ps,af,none⟩::l) k:=by
 intro hl a ha h0;obtain⟨ho,P5⟩:=J3 hl;refine⟨h0,.inr ⟨rfl,G (b.at (a.put dst (.int .u64 1)) (.inRegion ops (List.range' (i+1) l.length)::k)) cs,fun w hw=>?_,h P5 _ (ha.put hd _) h0⟩⟩;exact stepG_load_atomic (v:=1) ho (by rw[ha.yielded];rfl) hk rfl hf k3 hb hn .u64 he (ad:=stA gr) (by rw[ha.eval];exact hx) hw.cells.1
theorem I0.Iu0 (hk:b.kind≠.early) (hd:I4 n dst=true) (hf:P.funcs[f]? =some fn) (k3:(fn.name== "runtime.NumGoroutine")=false) (hb:fn.body.isNone=true) (hn:Extern.findNext fn=none) (he:Extern.find fn=some Extern.Atomic.storeT) (hx:ev e x= .pointer (some ⟨gr.blk,gr.off,none⟩)) (hy:ev e y= .int .u64 0)
  (h:I0 (Fd0 P gr 0) ft n b cs ds d (j3 e dst (.tuple #[])) ops (i+1) l k) :
  I0 (Fd0 P gr 1) (ft+1) n b cs ds d e ops i (⟨dst,.call {callee:=.value (.func f),args:=#[x,y],argTypes:=ats},ty,ps,af,none⟩::l) k:=by
 intro hl a ha h0;obtain⟨ho,P5⟩:=J3 hl;refine⟨h0,.inr ⟨rfl,G (b.at (a.put dst (.tuple #[])) (.inRegion ops (List.range' (i+1) l.length)::k)) cs,fun w hw=>?_,h P5 _ (ha.put hd _) h0⟩⟩;exact stepG_store_atomic ho (by rw[ha.yielded];rfl) hk rfl hf k3 hb hn he (ad:=stA gr) (k:=.u64) (v:=0) (by rw[ha.eval];exact hx) (by rw[ha.eval];exact hy) hw.cells.1 hw.cells.2.2.1
theorem qk0 {a:Act} {rest:List Nat} {o:Oper} {xs:Array Operand}
  (ho:ops[i]? =some o) (W5:o.op= .call {callee:=.value (.func f),args:=xs,argTypes:=ats}) (hf:P.funcs[f]? =some fn) (hb:fn.body.isNone=true):mayWake P (G (b.at a (.inRegion ops (i::rest)::k)) cs)=true:=by
 have h2:fn.body=none:=by simpa using hb
 have ef:(b.at a (.inRegion ops (i::rest)::k)).eval (.func f)= .func (.func f) #[] #[]:=rfl;simp[mayWake,G,Frame.at,ho,W5]at ef⊢;simp[ef,hf,h2]
theorem I0.Vn0 (hk:b.kind≠.early) (hd:I4 n dst=true) (hf:P.funcs[f]? =some fn) (k3:(fn.name== "runtime.NumGoroutine")=false) (hb:fn.body.isNone=true) (hn:Extern.findNext fn=none) (he:Extern.find fn=some Extern.Sync.semrelease) {asx:Array Operand} (hx:(asx.toList.map (ev e))[0]? =some (.pointer (some ⟨gr.blk,gr.off+1,none⟩)))
  (h:I0 (YQ P) ft n b cs ds d (j3 e dst (.tuple #[])) ops (i+1) l k) :
  I0 (Fd0 P gr 0) (ft+1) n b cs ds d e ops i (⟨dst,.call {callee:=.value (.func f),args:=asx,argTypes:=ats},ty,ps,af,none⟩::l) k:=by
 intro hl a ha h0;obtain⟨ho,P5⟩:=J3 hl;refine⟨h0,.inr ⟨rfl,qk0 (rest:=List.range' (i+1) l.length) ho rfl hf hb,G (b.at (a.put dst (.tuple #[])) (.inRegion ops (List.range' (i+1) l.length)::k)) cs,fun w hw=>?_,h P5 _ (ha.put hd _)⟩⟩;have:=stepG_semrelease (P:=P) (main:=false) (b:=b) (kk:=k) (cs:=cs) (rest:=List.range' (i+1) l.length) (n:=0) ho (by rw[ha.yielded];rfl) hk rfl hf k3 hb hn he (ad:=smA gr) (by rw[ha.eval,M7 rfl];simpa [smA]using hx) hw.cells.2.1 hw.cells.2.2.2;exact this
variable {K:Goroutine->Prop}{E:Nat->Nat->Goroutine->Prop}{o:Option Nat}{V:Nat}
abbrev Iv0 (P:Program) (gr:j5) (K:Goroutine->Prop):Nat->Nat->Goroutine->Prop:=fun m d g=>Gz0 P gr K m d g
abbrev Dj0 (P:Program) (gr:j5) (K:Goroutine->Prop):Nat->Nat->Goroutine->Prop:=fun m d g=>Oc0 P gr K m d g
abbrev XWH (P:Program) (gr:j5) (E:Nat->Nat->Goroutine->Prop) (o:Option Nat) (V:Nat):Nat->Nat->Goroutine->Prop:=fun m d g=>WH P gr E m o V d g
abbrev XWS (P:Program) (gr:j5) (E:Nat->Nat->Goroutine->Prop):Nat->Nat->Goroutine->Prop:=fun m d g=>WS P gr E m d g
abbrev YWH (P:Program) (gr:j5) (K:Goroutine->Prop) (o:Option Nat) (V:Nat):Nat->Nat->Goroutine->Prop:=XWH P gr (WE P gr K) o V
abbrev YWE (P:Program) (gr:j5) (K:Goroutine->Prop):Nat->Nat->Goroutine->Prop:=fun m d g=>WE P gr K m d g
def okM (gr:j5) (e:Event):Prop:=Ap0 e=true\/e.loc= .mark (.read ⟨gr.blk,gr.off+1,none⟩)\/e.loc= .mark (.write ⟨gr.blk,gr.off+1,none⟩)
theorem wh0 {e:Event} (h:okM gr e):GEv gr 0 e:=by
 rcases h with h|h|h
 ·exact eu0 h
 ·obtain⟨l,w,s⟩:=e;cases h;refine⟨fun b hb=>?_,by simp⟩;simp[MemAct.ofEvent,MemAct.touch?]at hb;subst hb;exact⟨⟨_,rfl,rfl,by simp⟩,by simp,fun h=>absurd rfl h⟩
 ·obtain⟨l,w,s⟩:=e;cases h;refine⟨fun b hb=>?_,by simp⟩;simp[MemAct.ofEvent,MemAct.touch?]at hb;subst hb;exact⟨⟨_,rfl,rfl,by simp⟩,by simp,fun h=>absurd rfl h⟩
theorem dd0 {g g':Goroutine} {es:Array Event} (h1:g.status= .running) (h2:g'.status= .running) (h3:∀e∈es,okM gr e) (h4:∀w st sm,m8 gr st sm w->stepG P true g w= .go g' w es):so0 P gr g g' es:=⟨h1,h2,fun e he=>wh0 (h3 e he),h4⟩
theorem r3:HF P true (okM gr) (Iv0 P gr K):=⟨fun _m _d _g g' es h1 h2 h3 h4 h5=>.inl ⟨g',es,dd0 h1 h2 h3 fun w _ _ _=>h4 w,h5⟩⟩
theorem u1:HF P true (okM gr) (Dj0 P gr K):=⟨fun _m _d _g g' es h1 h2 h3 h4 h5=>.inr ⟨g',es,dd0 h1 h2 h3 fun w _ _ _=>h4 w,h5⟩⟩
theorem Pb0:StG P true gr (Dj0 P gr K):=fun m d g g' h1 h2 h3 h4=>.inr ⟨g',#[],dd0 h1 h2 (fun e he=>by simp at he) h3,h4⟩
theorem L2:HF P true (okM gr) (XWH P gr E o V):=⟨fun _m _d _g g' es h1 h2 h3 h4 h5=>.inl ⟨g',es,dd0 h1 h2 h3 fun w _ _ _=>h4 w,h5⟩⟩
theorem R4:HF P true (okM gr) (XWS P gr E):=⟨fun _m _d _g g' es h1 h2 h3 h4 h5=>.inl ⟨g',es,dd0 h1 h2 h3 fun w _ _ _=>h4 w,h5⟩⟩
theorem ay1:StG P true gr (XWS P gr E):=fun m d g g' h1 h2 h3 h4=>.inl ⟨g',#[],dd0 h1 h2 (fun e he=>by simp at he) h3,h4⟩
theorem S2:HF P true (okM gr) (YWE P gr K):=⟨fun _m _d _g g' es h1 _h2 h3 h4 h5=>.inr ⟨g',es,h1,fun e he=>wh0 (h3 e he),fun w _=>h4 w,h5⟩⟩
theorem az1:StG P true gr (YWE P gr K):=fun m d g g' h1 h2 h3 h4=>.inr ⟨g',#[],h1,fun e he=>by simp at he,fun w hw=>h3 w _ _ hw,h4⟩
theorem WE.mono:∀{n m d:Nat} {g:Goroutine},WE P gr K n d g->n <=m->WE P gr K m d g
 |0,0,_,_,h,_=>h
 |0,_+1,_,_,h,_=>.inl h
 |n+1,0,_,_,_,hm=>absurd hm (by omega)
 |n+1,m+1,_,_,h,hm=>h.elim .inl fun⟨g',es,h1,h2,h3,h4⟩=>.inr ⟨g',es,h1,h2,h3,WE.mono h4 (by omega)⟩
theorem WS.mono (hE:∀(n m d:Nat) (g:Goroutine),E n d g->n <=m->E m d g):∀{n m d:Nat} {g:Goroutine},WS P gr E n d g->n <=m->WS P gr E m d g
 |0,_,_,_,h,_=>h.elim
 |n+1,0,_,_,_,hm=>absurd hm (by omega)
 |n+1,m+1,_,_,h,hm=>by
  rcases h with⟨g',es,h1,h2⟩|⟨h0,h1,h2,h3,g',h4,h5⟩
  ·exact .inl ⟨g',es,h1,WS.mono hE h2 (by omega)⟩
  ·exact .inr ⟨h0,h1,h2,h3,g',h4,hE _ _ _ _ h5 (by omega)⟩
theorem WH.mono (hE:∀(n m d:Nat) (g:Goroutine),E n d g->n <=m->E m d g):∀{n m:Nat} {o:Option Nat} {V d:Nat} {g:Goroutine},WH P gr E n o V d g->n <=m->WH P gr E m o V d g
 |0,_,_,_,_,_,h,_=>h.elim
 |n+1,0,_,_,_,_,_,hm=>absurd hm (by omega)
 |n+1,m+1,o,V,d,g,h,hm=>by
  unfold WH at h⊢;rcases h with⟨g',es,h1,h2⟩|⟨h1,h2⟩
  ·exact .inl ⟨g',es,h1,WH.mono hE h2 (by omega)⟩
  ·refine .inr ⟨h1,?_⟩;cases o with
   |none=>
    intro v hv;obtain⟨g',h3,h4,h5⟩:=h2 v hv;exact⟨g',h3,fun hz=>hE _ _ _ _ (h4 hz) (by omega),fun hz=>WH.mono hE (h5 hz) (by omega)⟩
   |some vs=>
    obtain⟨⟨g',h3,h4⟩,h5⟩:=h2;refine⟨⟨g',h3,WS.mono (E:=E) hE h4 (by omega)⟩,fun v hv=>?_⟩;obtain⟨g2,h6,h7⟩:=h5 v hv;exact⟨g2,h6,WH.mono hE h7 (by omega)⟩
theorem At.mg0 {Y:Nat->Nat->Goroutine->Prop} {t:Nat} {v:Value} {todo:List Item} (h:∀e,At Y ft n b cs ds d (upd e t v) todo) (he:e t=v):At Y ft n b cs ds d e todo:=by rw[Go.Vc.V0 he];exact h e
theorem At.Iw0 (hE:∀(n m d:Nat) (g:Goroutine),E n d g->n <=m->E m d g) {ft':Nat} {todo:List Item} (h:At (XWH P gr E o V) ft n b cs ds d e todo) (hm:ft <=ft'):At (XWH P gr E o V) ft' n b cs ds d e todo:=fun a ha=>WH.mono (E:=E) hE (h a ha) hm
theorem At.Ix0 {ft':Nat} {todo:List Item} (h:At (YWH P gr K o V) ft n b cs ds d e todo) (hm:ft <=ft'):At (YWH P gr K o V) ft' n b cs ds d e todo:=At.Iw0 (E:=WE P gr K) (fun _ _ _ _=>WE.mono) h hm
theorem AtR.Iy0 {main:Bool} {ok:Event->Prop} {Y:Nat->Nat->Goroutine->Prop} {todo:List Item} (hY:HF P main ok Y) {c:Frame} (hn:b.kind= .normal) (hf:P.funcs[b.fn]? =some fn) (hr:fn.results=#[]) (h:Y ft d (G (c.finish (.tuple #[])) cs)):AtR Y (ft+1) n b (c::cs) [] d e todo :=
 fun _a ha=>hY.c rfl rfl (fun w=>stepG_leave hn ha.defers hf (results_none hr _ P w) (events_results_none hr _ _)) h
theorem Iz0 {g:Goroutine} (h:K g):Dj0 P gr K n 0 g:=by cases n with
 |zero=>exact⟨rfl,h⟩
 |succ n=>exact .inl ⟨rfl,h⟩
theorem Vo0 {g:Goroutine} (h:K g):YWE P gr K n 0 g:=by cases n with
 |zero=>exact⟨rfl,h⟩
 |succ n=>exact .inl ⟨rfl,h⟩
theorem I0.Ha0 (hk:b.kind≠.early) (hd:I4 n dst=true) (hf:P.funcs[f]? =some fn) (k3:(fn.name== "runtime.NumGoroutine")=false) (hb:fn.body.isNone=true) (hn:Extern.findNext fn=none) (he:Extern.find fn=some (Extern.Atomic.update (Op.intArith .add) .u64 true)) (hx:ev e x= .pointer (some ⟨gr.blk,gr.off,none⟩)) (hy:ev e y= .int .u64 4294967296)
  (h:∀v:Nat,v<2147483647->I0 (Dj0 P gr K) ft n b cs ds d (j3 e dst (.int .u64 (((v+1)*4294967296+0:Nat):Int))) ops (i+1) l k) :
  I0 (Iv0 P gr K) (ft+1) n b cs ds d e ops i (⟨dst,.call {callee:=.value (.func f),args:=#[x,y],argTypes:=ats},ty,ps,af,none⟩::l) k:=by
 intro hl a ha;obtain⟨ho,P5⟩:=J3 hl;simp only[Nat.add_zero]at h;refine .inr ⟨rfl,fun v hv=>⟨G (b.at (a.put dst (.int .u64 (((v+1)*4294967296:Nat):Int))) (.inRegion ops (List.range' (i+1) l.length)::k)) cs,rfl,fun w hw=>?_,h v hv P5 _ (ha.put hd _)⟩⟩;rw[yu0]at hw⊢;obtain⟨c1,_,c3,_⟩:=hw.cells;show stepG P true (G (b.at a (.inRegion ops (i::List.range' (i+1) l.length)::k)) cs) w=_;rw[stepG_add_atomic ho (by rw[ha.yielded];rfl) hk rfl hf k3 hb hn .u64 he (ad:=stA gr) (by rw[ha.eval];exact hx) (by rw[ha.eval];exact hy) c1 c3,It0 v hv];rfl
theorem I0.Ja0 (hk:b.kind≠.early) (hd:I4 n dst=true) (hf:P.funcs[f]? =some fn) (k3:(fn.name== "runtime.NumGoroutine")=false) (hb:fn.body.isNone=true) (hn:Extern.findNext fn=none) (he:Extern.find fn=some (Extern.Atomic.loadT (.int .u64))) (hx:ev e x= .pointer (some ⟨gr.blk,gr.off,none⟩))
  (h0:I0 E ft n b cs ds d (j3 e dst (.int .u64 0)) ops (i+1) l k)
  (h:∀v:Nat,v <=V->0<v->I0 (XWH P gr E (some v) V) ft n b cs ds d (j3 e dst (.int .u64 ((v*4294967296+0:Nat):Int))) ops (i+1) l k) :
  I0 (XWH P gr E none V) (ft+1) n b cs ds d e ops i (⟨dst,.call {callee:=.value (.func f),args:=#[x],argTypes:=ats},ty,ps,af,none⟩::l) k:=by
 intro hl a ha;obtain⟨ho,P5⟩:=J3 hl;simp only[Nat.add_zero]at h;refine .inr ⟨rfl,fun v hv=>⟨G (b.at (a.put dst (.int .u64 ((v*4294967296:Nat):Int))) (.inRegion ops (List.range' (i+1) l.length)::k)) cs,fun w hw=>?_,fun hz=>?_,fun hz=>h v hv (by omega) P5 _ (ha.put hd _)⟩⟩
 ·rw[yu0]at hw;exact stepG_load_atomic ho (by rw[ha.yielded];rfl) hk rfl hf k3 hb hn .u64 he (ad:=stA gr) (by rw[ha.eval];exact hx) hw.cells.1
 ·subst hz;rw[Nat.zero_mul];exact h0 P5 _ (ha.put hd _)
theorem I0.Tb0 {vs:Nat} (hk:b.kind≠.early) (hd:I4 n dst=true) (hf:P.funcs[f]? =some fn) (k3:(fn.name== "runtime.NumGoroutine")=false) (hb:fn.body.isNone=true) (hn:Extern.findNext fn=none) (he:Extern.find fn=some (Extern.Atomic.casT (.int .u64))) (hx:ev e x= .pointer (some ⟨gr.blk,gr.off,none⟩)) (hy:ev e y= .int .u64 ((vs*4294967296+0:Nat):Int)) (hz:ev e z= .int .u64 ((vs*4294967296+1:Nat):Int))
  (h0:I0 (XWS P gr E) ft n b cs ds d (j3 e dst (.bool true)) ops (i+1) l k)
  (h:∀v:Nat,v<vs->I0 (XWH P gr E none v) ft n b cs ds d (j3 e dst (.bool false)) ops (i+1) l k) :
  I0 (XWH P gr E (some vs) V) (ft+1) n b cs ds d e ops i (⟨dst,.call {callee:=.value (.func f),args:=#[x,y,z],argTypes:=ats},ty,ps,af,none⟩::l) k:=by
 intro hl a ha;obtain⟨ho,P5⟩:=J3 hl;rw[Nat.add_zero]at hy;refine .inr ⟨rfl,⟨G (b.at (a.put dst (.bool true)) (.inRegion ops (List.range' (i+1) l.length)::k)) cs,fun w hw=>?_,h0 P5 _ (ha.put hd _)⟩,fun v hv=>⟨G (b.at (a.put dst (.bool false)) (.inRegion ops (List.range' (i+1) l.length)::k)) cs,fun w hw=>?_,h v hv P5 _ (ha.put hd _)⟩⟩
 ·rw[yu0]at hw⊢;exact stepG_cas_hit ho (by rw[ha.yielded];rfl) hk rfl hf k3 hb hn .u64 he (ad:=stA gr) (by rw[ha.eval];exact hx) (by rw[ha.eval];exact hy) (by rw[ha.eval];exact hz) hw.cells.1 hw.cells.2.2.1
 ·rw[yu0]at hw;exact stepG_cas_miss ho (by rw[ha.yielded];rfl) hk rfl hf k3 hb hn .u64 he (ad:=stA gr) (by rw[ha.eval];exact hx) (by rw[ha.eval];exact hy) (by rw[ha.eval];exact hz) hw.cells.1 hw.cells.2.2.1 (by omega)
theorem I0.ba1 (hk:b.kind≠.early) (hd:I4 n dst=true) (hf:P.funcs[f]? =some fn) (k3:(fn.name== "runtime.NumGoroutine")=false) (hb:fn.body.isNone=true) (hn:Extern.findNext fn=none) (he:Extern.find fn=some Extern.Sync.semacquire) {asx:Array Operand} (hx:(asx.toList.map (ev e))[0]? =some (.pointer (some ⟨gr.blk,gr.off+1,none⟩)))
  (h:I0 E ft n b cs ds (d+1) (j3 e dst (.tuple #[])) ops (i+1) l k) :
  I0 (XWS P gr E) (ft+1) n b cs ds (d+1) e ops i (⟨dst,.call {callee:=.value (.func f),args:=asx,argTypes:=ats},ty,ps,af,none⟩::l) k:=by
 intro hl a ha;obtain⟨ho,P5⟩:=J3 hl;have D4:(asx.map a.eval)[0]? =some (.pointer (some (smA gr))):=by rw[ha.eval,M7 rfl];simpa [smA]using hx
 refine .inr ⟨Nat.succ_pos d,rfl,rfl,fun w st hw=>?_,G (b.at (a.put dst (.tuple #[])) (.inRegion ops (List.range' (i+1) l.length)::k)) cs,fun w hw=>?_,h P5 _ (ha.put hd _)⟩
 ·exact stepG_semacquire_wait ho (by rw[ha.yielded];rfl) rfl hf k3 hb hn he D4 hw.cells.2.1
 ·exact stepG_semacquire (n:=1) ho (by rw[ha.yielded];rfl) hk rfl hf k3 hb hn he D4 hw.cells.2.1 (by decide) hw.cells.2.2.2
theorem I0.Vp0 (hk:b.kind≠.early) (hd:I4 n dst=true) (hf:P.funcs[f]? =some fn) (k3:(fn.name== "runtime.NumGoroutine")=false) (hb:fn.body.isNone=true) (hn:Extern.findNext fn=none) (he:Extern.find fn=some (Extern.Atomic.loadT (.int .u64))) (hx:ev e x= .pointer (some ⟨gr.blk,gr.off,none⟩))
  (h:I0 (YWE P gr K) ft n b cs ds d (j3 e dst (.int .u64 0)) ops (i+1) l k) :
  I0 (YWE P gr K) (ft+1) n b cs ds d e ops i (⟨dst,.call {callee:=.value (.func f),args:=#[x],argTypes:=ats},ty,ps,af,none⟩::l) k:=by
 intro hl a ha;obtain⟨ho,P5⟩:=J3 hl;refine .inr ⟨G (b.at (a.put dst (.int .u64 0)) (.inRegion ops (List.range' (i+1) l.length)::k)) cs,#[rdA (stA gr)],rfl,jv0,fun w hw=>?_,?_⟩
 ·exact stepG_load_atomic ho (by rw[ha.yielded];rfl) hk rfl hf k3 hb hn .u64 he (ad:=stA gr) (by rw[ha.eval];exact hx) hw.cells.1
 ·rw[deafBehind_still v9];exact h P5 _ (ha.put hd _)
end
end
end Go.Wg
end
section
namespace Go.Vy
open Go Go.Conc Go.Yc Go.RowKit
open Go.Vc
section
variable {P:Program}[Ctx P]{Z:Goroutine->World->Prop}{Q:Exit->Act->World->Prop}{ops:Array Oper}{b:Frame}{k:List Item}{cs:List Frame}
theorem Bh0 (hZ:Ctx.Zs P Z) (hb:b.kind≠.early) (hk:∀ch a' w',Q (.panic ch) a' w'->Aq0 Z b k cs (.panic ch) a' w') {i:Nat} {rest:List Nat} {o:Oper} {a:Act} {w:World} (ho:ops[i]? =some o)
  (h:if Region.wanted o (yielded ops a.tmps) then pt0 P o a w (fun a w=>Z (G (b.at a (.inRegion ops rest::k)) cs) w) Q else Z (G (b.at (a.put o.dst undef) (.inRegion ops rest::k)) cs) w):Z (G (b.at a (.inRegion ops (i::rest)::k)) cs) w:=by
 cases hw:Region.wanted o (yielded ops a.tmps)with
 |false=>
  rw[hw]at h;exact(Ctx.cl Z hZ).ctl rfl rfl (fun w=>stepG_unwanted ho hw) h
 |true=>
  rw[hw,if_pos rfl]at h;have aa0:∀v,(b.at a (.inRegion ops (i::rest)::k)).finish v=b.at (a.put o.dst v) (.inRegion ops rest::k):=by
   intro v;rw[Frame.finish_at,ho];rfl
  have Hn0:(b.kind==CallKind.early)=false:=by simpa using hb
  refine(Ctx.cl Z hZ).own _ _ rfl fun τ d=>?_;obtain⟨r,w',hr,hK⟩:=h τ d;have fol:∀g',g'.status= .running->(∀x x' es,(execOp a.eval o).runT P x #[]=(r.res x',es)->stepG P (Ctx.main P) (G (b.at a (.inRegion ops (i::rest)::k)) cs) x= .go g' x' (seen P b.fn es))->Q5 P (Ctx.main P) (G (b.at a (.inRegion ops (i::rest)::k)) cs) (N2 w τ d) g' w':=by
   intro g' o7 hs;refine⟨o7,fun ρ x hx=>?_⟩;obtain⟨h1,x',es,h2,h3,h4⟩:=hr ρ x hx;exact⟨h1,x',_,hs x x' es h2,h3,fun e he=>h4 e (mem_seen he)⟩
  have split:∀x x' es,(execOp a.eval o).runT P x #[]=(r.res x',es)->(execOp a.eval o).run P x=r.res x'/\(execOp a.eval o).events P x #[]=es:=fun x x' es h=>by
   rw[Sem.runT_eq]at h;exact Prod.mk.inj h
  cases r with
  |val v=>
   refine⟨G (b.at (a.put o.dst v) (.inRegion ops rest::k)) cs,w',w.drawn,fol _ rfl fun x x' es h=>?_,hK⟩;obtain⟨h1,h2⟩:=split x x' es h;rw[stepG_value ho hw hb h1,listed,h2]
  |skip=>
   refine⟨G (b.at (a.put o.dst undef) (.inRegion ops rest::k)) cs,w',w.drawn,fol _ rfl fun x x' es h=>?_,hK⟩;obtain⟨h1,h2⟩:=split x x' es h;rw[stepG_none ho hw hb h1,listed,h2]
  |enter f args=>
   refine⟨G (Frame.enter P f args .normal) (b.at a (.inRegion ops (i::rest)::k)::cs),w',w.drawn,fol _ rfl fun x x' es h=>?_,hK Z hZ _ fun e w'' fr he hf hl=>?_⟩
   ·obtain⟨h1,h2⟩:=split x x' es h;rw[stepG_enter ho hw hb h1,listed,h2]
   ·cases e with
    |returned v=>
     refine U594 ?_;exact he
    |panicked chain=>
     refine U580 ?_;exact hk _ _ _ he _
    |outgrown=>exact he.elim
  |panic v=>
   refine⟨G {b.at a (.inRegion ops (i::rest)::k)with mode:=.panicking [{v,recovered:=false}]} cs,w',w.drawn,fol _ rfl fun x x' es h=>?_,hk _ _ _ hK _⟩;obtain⟨h1,h2⟩:=split x x' es h;have h1':(execOp a.eval o).run P x= .halt (.panic v) x':=h1;rw[stepG_oper ho hw];simp[stepG.apply,h1',h2,G,Frame.at,Hn0,GStep.after,Frame.raise]
theorem fw0 (hZ:Ctx.Zs P Z) (hb:b.kind≠.early) {suf:List Nat} (hk:∀ch a' w',Q (.panic ch) a' w'->Aq0 Z b k cs (.panic ch) a' w') (hn:∀a' w',Q .normal a' w'->Z (G (b.at a' (.inRegion ops suf::k)) cs) w') :
  ∀(pre:List Nat) (a:Act) (w:World),wpOps P ops Q pre a w->Z (G (b.at a (.inRegion ops (pre++suf)::k)) cs) w
 | [],a,w,h=>hn a w h
 |i::pre,a,w,h=>by
  unfold wpOps at h;cases ho:ops[i]? with
  |none=>rw[ho]at h;exact h.elim
  |some o=>
   rw[ho]at h;simp only at h;refine Bh0 hZ hb hk ho ?_;show if _ then pt0 P o a w (fun a w=>Z (G (b.at a (.inRegion ops (pre++suf)::k)) cs) w) Q else _
   by_cases hw:Region.wanted o (yielded ops a.tmps)=true
   ·rw[if_pos hw]at h⊢;exact fr0 (fun a w h=>fw0 hZ hb hk hn pre a w h) (fun _ _ _ z=>z) h
   ·rw[if_neg hw]at h⊢;exact fw0 hZ hb hk hn pre _ _ h
def ZA (Z:Goroutine->World->Prop) (n:Nat) (b:Frame) (cs:List Frame) (e:Env) (todo:List Item) (w:World):Prop:=∀a,Rep n a e->Z (G (b.at a todo) cs) w
variable {n:Nat}{e:Env}{w:World}
theorem ZA.c (hZ:Ctx.Zs P Z) {todo lh0:List Item} (hs:∀a w,stepG P (Ctx.main P) (G (b.at a todo) cs) w= .go (G (b.at a lh0) cs) w #[]) (h:ZA Z n b cs e lh0 w):ZA Z n b cs e todo w :=
 fun a ha=>(Ctx.cl Z hZ).ctl rfl rfl (hs a) (h a ha)
theorem ZA.seq (hZ:Ctx.Zs P Z) {x y:Code} (h:ZA Z n b cs e (.code x :: .code y::k) w):ZA Z n b cs e (.code (.seq x y)::k) w:=ZA.c hZ (fun _ _=>stepG_seq) h
theorem ZA.skip (hZ:Ctx.Zs P Z) (h:ZA Z n b cs e k w):ZA Z n b cs e (.code .skip::k) w:=ZA.c hZ (fun _ _=>stepG_skip) h
theorem ZA.block (hZ:Ctx.Zs P Z) {id:Nat} {c:Code} (h:ZA Z n b cs e (.code c :: .inBlock id::k) w):ZA Z n b cs e (.code (.block id c)::k) w:=ZA.c hZ (fun _ _=>stepG_block) h
theorem ZA.loop (hZ:Ctx.Zs P Z) {c:Code} (h:ZA Z n b cs e (.code c :: .inLoop c::k) w):ZA Z n b cs e (.code (.loop c)::k) w:=ZA.c hZ (fun _ _=>stepG_loop) h
theorem ZA.inBlock (hZ:Ctx.Zs P Z) {id:Nat} (h:ZA Z n b cs e k w):ZA Z n b cs e (.inBlock id::k) w:=ZA.c hZ (fun _ _=>stepG_inBlock) h
theorem ZA.inLoop (hZ:Ctx.Zs P Z) {c:Code} (h:ZA Z n b cs e (.code c :: .inLoop c::k) w):ZA Z n b cs e (.inLoop c::k) w:=ZA.c hZ (fun _ _=>stepG_inLoop) h
theorem ZA.exit (hZ:Ctx.Zs P Z) {id:Nat} {k':List Item} (hk:exitTo id k=some k') (h:ZA Z n b cs e k' w):ZA Z n b cs e (.code (.exit id)::k) w:=ZA.c hZ (fun _ _=>stepG_exit hk) h
theorem ZA.cond (hZ:Ctx.Zs P Z) {c:Operand} {x y:Code} {t:Bool} (hc:ev e c= .bool t) (h:ZA Z n b cs e (.code (if t then x else y)::k) w):ZA Z n b cs e (.code (.cond c x y)::k) w :=
 fun a ha=>(Ctx.cl Z hZ).ctl rfl rfl (fun _=>stepG_cond (by rw[ha.eval];exact hc)) (h a ha)
theorem ZA.u3 (hZ:Ctx.Zs P Z) (h:ZA Z n b cs e k w):ZA Z n b cs e (.inRegion ops []::k) w:=ZA.c hZ (fun _ _=>stepG_region_end) h
def ZR (Z:Goroutine->World->Prop) (n:Nat) (b:Frame) (cs:List Frame) (e:Env) (w:World):Prop:=∀todo,∀a,Rep n a e->Z (G {b.at a todo with mode:=.returning} cs) w
theorem ZA.ret (hZ:Ctx.Zs P Z) (h:ZR Z n b cs e w):ZA Z n b cs e (.code .ret::k) w:=fun a ha=>(Ctx.cl Z hZ).ctl rfl rfl (fun _=>stepG_ret') (h _ a ha)
theorem ZA.done (hZ:Ctx.Zs P Z) (h:ZR Z n b cs e w):ZA Z n b cs e [] w:=fun a ha=>(Ctx.cl Z hZ).ctl rfl rfl (fun _=>stepG_end) (h _ a ha)
theorem ZA.piece (hZ:Ctx.Zs P Z) (hb:b.kind≠.early) {c:Code} {R:Env->World->Prop} (h:W P n c (W9 R fun _ _ _=>False) e w) (hk:∀e' w',R e' w'->ZA Z n b cs e' k w'):ZA Z n b cs e (.code c::k) w:=by
 intro a ha;refine h a ha Z hZ b k cs hb fun x a' w' hx=>?_;obtain⟨e',r,hq⟩:=hx;cases x with
 |normal=>exact hk e' w' hq a' r
 |exit _=>exact hq.elim
 |goto _=>exact hq.elim
 |ret=>exact hq.elim
 |panic _=>exact hq.elim
 |outgrown=>exact hq.elim
theorem gt0:∀(l:List Oper) (k:Nat) (a:Act) (w:World),(∀j,j<l.length->l[j]? =ops[k+j]?)->wpList P ops Q l a w->wpOps P ops Q (List.range' k l.length) a w
 | [],_,_,_,_,h=>h
 |o::l,k,a,w,hj,h=>by
  have h0:ops[k]? =some o:=by simpa using(hj 0 (by simp)).symm
  have ih:=fun a w=>gt0 l (k+1) a w (fun j hl=>by have:=hj (j+1) (by simpa using hl);simpa [Nat.add_assoc,Nat.add_comm 1 j]using this);rw[List.length_cons,List.range'_succ];unfold wpOps;rw[h0];unfold wpList at h;by_cases hw:Region.wanted o (yielded ops a.tmps)=true
  ·simp only[if_pos hw]at h⊢;exact fr0 ih (fun _ _ _ z=>z) h
  ·simp only[if_neg hw]at h⊢;exact ih _ _ h
theorem ZA.upto (hZ:Ctx.Zs P Z) (hb:b.kind≠.early) (kk:Nat) {id:Nat} {l:List Oper} {R:Env->World->Prop} (hB:Ol0 n l=true) (hkl:Nat.ble kk l.length=true) (h:L P n l.toArray (W9 R fun _ _ _=>False) (l.take kk) e w)
  (hk:∀e' w',R e' w'->ZA Z n b cs e' (.inRegion l.toArray (List.range' kk (l.length-kk))::k) w'):ZA Z n b cs e (.code (.region id l.toArray false)::k) w:=by
 intro a ha;have hle:kk <=l.length:=Nat.le_of_ble_eq_true hkl;refine(Ctx.cl Z hZ).ctl rfl rfl (fun _=>stepG_region) ?_;have h1:=h (fun o ho=>List.all_eq_true.1 hB o (List.mem_of_mem_take ho)) a ha;have h2:=gt0 (l.take kk) 0 a w (fun j hj=>by
  rw[List.getElem?_take_of_lt (by simp at hj;omega)];simp) h1
 have h3:(l.take kk).length=kk:=by simp;omega
 rw[h3]at h2;have h4:List.range l.toArray.size=List.range' 0 kk++List.range' kk (l.length-kk):=by
  have:=List.range'_append_1 (s:=0) (m:=kk) (n:=l.length-kk);rw[Nat.zero_add]at this;rw[List.range_eq_range',List.size_toArray,this];congr 1;omega
 rw[h4];exact fw0 hZ hb (fun ch a' w' hx=>by obtain⟨_,_,hx⟩:=hx;exact hx.elim) (fun a' w' hx=>by
  obtain⟨e',r,hq⟩:=hx;exact hk e' w' hq a' r) _ a w h2
theorem Vq0 {V:(Nat->Bool)->Prop} {J:(Nat->Bool)->World->Prop} (WP:List Nat->Act->World->Prop) (bb1:∀i σ o a w,ops[i]? =some o->(if Region.wanted o (yielded ops a.tmps) then pt0 P o a w (WP σ) Q else WP σ (a.put o.dst undef) w)->WP (i::σ) a w) (h:Ord n ops) {e0:Env} {vals:Nat->Value} {k:Nat} (hk:k<ops.size) (Ii0:∀i o,i<k->ops[i]? =some o->Loc P ops V J i o (EE e0 ops.toList vals i) (vals i))
  (aw0:∀D,V D->∀i,k <=i->i<ops.size->D i=true->∀j,j<i->D j=true)
  (hQ:∀a w D,Rep n a (EE e0 ops.toList vals k)->(∀i,i<k->D i=true)->J D w->WP (List.range' k (ops.size-k)) a w) :
  ∀{listed:Array Bool} {σ:List Nat},Lin ops listed σ->(∀τ ρ,σ=τ++ρ->V (fun j=>listed.getD j false ||τ.contains j)) ->
   ∀(a:Act) (e:Env) (w:World),listed.size=ops.size->(∀j,k <=j->listed.getD j false=false)->Rep n a e->Mid ops e0 vals listed e->J (fun j=>listed.getD j false) w->WP σ a w:=by
 intro listed σ H5
 induction H5 with
 | @nil listed hr=>
  intro _ a e w hs hkf ha hm hJ;have:=ft0 h hs hr k (by omega);rw[hkf k (Nat.le_refl _)]at this;cases this
 | @cons listed i σ hi hl ih=>
  intro hV a e w hs hkf ha hm hJ;have hi0:=hi;obtain⟨h1,o,ho,ad0⟩:=mem_ready.1 hi;have hio:i<ops.size:=(Array.getElem?_eq_some_iff.1 ho).1;have x7:i<listed.size:=by omega
  have hDi:(fun j=>listed.getD j false) i=false:=by
   show listed.getD i false=false;simp only[Array.getD_eq_getD_getElem?,x7,Array.getElem?_eq_getElem,Option.getD_some]at h1⊢;exact h1
  have hVD:V (fun j=>listed.getD j false):=by
   have:=hV [] (i::σ) rfl;have e1:(fun j=>listed.getD j false ||([]:List Nat).contains j)=fun j=>listed.getD j false:=funext fun j=>by simp
   rw[e1]at this;exact this
  have hVD:V (fun j=>listed.getD j false)/\V (O4 (fun j=>listed.getD j false) i):=by
   refine⟨hVD,?_⟩;have:=hV [i] σ rfl;have e1:(fun j=>listed.getD j false ||([i]:List Nat).contains j)=O4 (fun j=>listed.getD j false) i:=funext fun j=>by
    unfold O4;by_cases hj:j=i
    ·simp[hj]
    ·simp[hj]
   rw[e1]at this;exact this
  by_cases hik:k <=i
  ·have A6:∀j,j<i->listed.getD j false=true:=fun j hj=>by
    have:=aw0 _ hVD.2 i hik hio (by simp[O4]) j hj;unfold O4 at this;rw[if_neg (by omega)]at this;exact this
   have z9:i=k:=by
    rcases Nat.lt_or_ge k i with h3|h3
    ·have:=A6 k h3;rw[hkf k (Nat.le_refl _)]at this;cases this
    ·omega
   subst z9;refine U572 ?_;intro hσ;have he:e=EE e0 ops.toList vals i:=by
    funext t;have hlz:∀j:Nat,ops.toList[j]? =ops[j]?:=fun j=>by rw[Array.getElem?_toList]
    by_cases hex:∃(j:Nat) (p:Oper),j<i/\ops[j]? =some p/\p.dst=some t
    ·obtain⟨j,p,hj,hp,hd⟩:=hex;exact U381
    ·rw[hm.mx0 t (fun j p hp hd=>by
      rcases Nat.lt_or_ge j i with h3|h3
      ·exact absurd ⟨j,p,h3,hp,hd⟩ hex
      ·exact hkf j h3)]
     exact(ii0 e0 ops.toList vals t _ (fun j p hj hp hd=>hex ⟨j,p,hj,by rw[<- hlz];exact hp,hd⟩)).symm
   subst he;exact hQ a w _ ha A6 hJ
  ·have hlk:=mz0 h hm ho ad0;refine U312 ?_;intro hex hwa;have hV':∀τ ρ,σ=τ++ρ->V (fun j=>(listed.setIfInBounds i true).getD j false ||τ.contains j):=by
    intro τ ρ hσ;have:=hV (i::τ) ρ (by rw[hσ];rfl);have e1:(fun j=>listed.getD j false ||(i::τ).contains j)=fun j=>(listed.setIfInBounds i true).getD j false ||τ.contains j:=by
     funext j;by_cases hj:i=j
     ·subst hj;simp[x7]
     ·rw[getD_set_ne false hj];simp[Ne.symm hj]
    rw[e1]at this;exact this
   have next:∀w',J (O4 (fun j=>listed.getD j false) i) w'->WP σ (a.put o.dst (vals i)) w':=by
    intro w' hJ';refine ih hV' _ _ w' (by simp[hs]) (fun j hj=>by rw[getD_set_ne false (by omega)];exact hkf j hj) (ha.put (h.dst i o ho) (vals i)) (hm.step h ho x7) ?_;rw[ij0 x7];exact hJ'
   refine bb1 i σ o a w ho ?_;rw[p5 ha,hwa];rcases Ii0 i o (by omega) ho with⟨hw,hl⟩|⟨hw,hv,hl⟩
   ·rw[if_pos hw];have P5:=hl (fun j=>listed.getD j false) w hDi hVD ad0 hJ;rw[<- hex,<- ha.eval]at P5;exact nj0 P5 next
   ·rw[if_neg (by rw[hw];simp)];exact U548
theorem ZA.Ij0 (hZ:Ctx.Zs P Z) (hb:b.kind≠.early) {k':List Item} {id:Nat} {l:List Oper} (k:Nat) (hm:P.follows .mixedOrders=true) (hB:ye0 n l.toArray=true) (hA:ka0 l k=true) (hk:Nat.blt k l.length=true)
  (h:∀V:(Nat->Bool)->Prop,(∀D D',V D->V D'->(∀k,D k=true->D' k=true)\/(∀k,D' k=true->D k=true))->(∀D,V D->∀i o,l[i]? =some o->D i=true->O6 o D) ->
   ∃J:(Nat->Bool)->World->Prop,J (fun _=>false) w.drew/\JL P l.toArray V J (fun e'=>∀D w',(∀i,i<k->D i=true)->J D w'->ZA Z n b cs e' (.inRegion l.toArray (List.range' k (l.length-k))::k') w') 0 (l.take k) e):ZA Z n b cs e (.code (.region id l.toArray true)::k') w:=by
 intro a ha;have ho:=At0 hB;have hkl:k<l.length:=by rw[Nat.blt_eq]at hk;exact hk
 refine(Ctx.cl Z hZ).own _ _ rfl fun τ d=>?_;refine⟨G (b.at a (.inRegion l.toArray (Region.schedule (P.follows .mixedOrders) l.toArray (τ d (.order b.fn id)))::k')) cs,{N2 w τ d with drawn:=d+1},w.drawn+1,⟨rfl,fun ρ x hx=>⟨⟨Nat.le_refl _,fun _ o ho=>⟨o,ho,Z3.refl o⟩⟩,{x with drawn:=x.drawn+1},#[],?_,?_,fun e he=>by simp at he⟩⟩,?_⟩
 ·rw[stepG_region_draw,hx.tape,hx.drawn];rfl
 ·exact⟨hx.os,hx.output,hx.tape,by show x.drawn+1=d+1;rw[hx.drawn];rfl,hx.size,hx.obj,hx.new,hx.Y6⟩
 show Z (G (b.at a (.inRegion l.toArray (Region.schedule (P.follows .mixedOrders) l.toArray (τ d (.order b.fn id)))::k')) cs) w.drew;generalize τ d (.order b.fn id)=t;simp only[Region.schedule,hm,Bool.true_or,if_true];have H5:=jx0 l.toArray l.toArray.size t (Array.replicate l.toArray.size false) (by simp) (by simp);unfold Region.linearise;generalize Region.linearise.go .any l.toArray l.toArray.size t (Array.replicate l.toArray.size false) []=σ at H5⊢;have dy0:=dv0 H5 (fun i o _ hi=>by rw[K0]at hi;cases hi) (by simp);have br0:∀D,Pre σ D->∀i o,l[i]? =some o->D i=true->O6 o D:=by
  rintro D ⟨τ,ρ,hσ,hD⟩ i o hi hDi x hx hb;have:=dy0 τ ρ hσ i o (by simpa using hi) (.inr ((hD i).1 hDi)) x hx hb;rcases this with h1|h1
  ·rw[K0]at h1;cases h1
  ·exact(hD _).2 h1
 obtain⟨J,hJ,hjl⟩:=h (Pre σ) (fun D D' h1 h2=>h1.chain h2) br0;obtain⟨vals,h1,h2⟩:=JL.collect (l.take k) 0 e hjl;have hEE:∀j,j <=k->EE e (l.take k) vals j=EE e l vals j:=by
  intro j
  induction j with
  |zero=>intro _;rfl
  |succ j ih=>
   intro hj;simp only[EE,ih (by omega)];rw[List.getElem?_take_of_lt (by omega)]
 have Y1:(l.take k).length=k:=by simp;omega
 refine Vq0 (Q:=fun _ _ _=>False) (fun σ a w=>Z (G (b.at a (.inRegion l.toArray σ::k')) cs) w) (fun i σ o a w ho h=>Bh0 hZ hb (fun _ _ _ hx=>hx.elim) ho h) (V:=Pre σ) (J:=J) ho (e0:=e) (vals:=vals) (k:=k) (by simpa using hkl) (fun i o' hi ho'=>?_) (fun D hD i z9 x7=>iq0 hA br0 hD i z9 (by simpa using x7)) (fun a' w' D ha' hD hJ'=>?_) H5 ?_ a e _ (by simp) (fun j _=>K0 _ _) ha ⟨fun j o t _ _ hl=>?_,fun t _=>rfl⟩ ?_
 ·have:=h1 i o' (by rw[List.getElem?_take_of_lt hi];simpa using ho');rw[hEE i (by omega)]at this;simpa using this
 ·rw[Y1,hEE k (Nat.le_refl _)]at h2;have h6:l.toArray.size-k=l.length-k:=by simp
  rw[h6];exact h2 D w' hD hJ' a' (by simpa using ha')
 ·intro τ ρ hσ;exact⟨τ,ρ,hσ,fun k=>by show((Array.replicate l.toArray.size false).getD k false ||τ.contains k)=true↔_;rw[K0];simp⟩
 ·rw[K0]at hl;cases hl
 ·have:(fun k=>(Array.replicate l.toArray.size false).getD k false)=fun _=>false:=funext fun k=>K0 _ _;rw[this];exact hJ
theorem ZA.ej0 (hZ:Ctx.Zs P Z) (hb:b.kind≠.early) {k':List Item} {id:Nat} {l:List Oper} (k:Nat) (Cl:World->Prop) (hm:P.follows .mixedOrders=true) (hB:ye0 n l.toArray=true) (hA:ka0 l k=true) (hk:Nat.blt k l.length=true)
  (hC:Cl w.drew) (h:QL P l.toArray Cl (fun e'=>∀w',Cl w'->ZA Z n b cs e' (.inRegion l.toArray (List.range' k (l.length-k))::k') w') 0 (l.take k) e):ZA Z n b cs e (.code (.region id l.toArray true)::k') w:=by
 refine ZA.Ij0 hZ hb k hm hB hA hk fun V _ _=>⟨fun _=>Cl,hC,?_⟩
 have mono:∀(l':List Oper) (i:Nat) (e:Env),JL P l.toArray V (fun _=>Cl) (fun e'=>∀w',Cl w'->ZA Z n b cs e' (.inRegion l.toArray (List.range' k (l.length-k))::k') w') i l' e->JL P l.toArray V (fun _=>Cl) (fun e'=>∀(D:Nat->Bool) w',(∀i,i<k->D i=true)->Cl w'->ZA Z n b cs e' (.inRegion l.toArray (List.range' k (l.length-k))::k') w') i l' e:=by
  intro l'
  induction l' with
  |nil=>exact fun i e h _ w' _ hw=>h w' hw
  |cons o l' ih=>exact fun i e ⟨v,h1,h2⟩=>⟨v,h1,ih _ _ h2⟩
 exact mono _ 0 e (h V)
end
end Go.Vy
end
