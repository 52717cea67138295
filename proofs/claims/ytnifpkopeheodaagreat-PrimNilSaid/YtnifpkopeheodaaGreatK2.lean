/- What the claim leans on, part 2. Laws. -/
import Derived.Test.YtnifpkopeheodaaGreatK1
import Derived.Laws.AppendOwnNone
import Derived.WideKeyRuns
import Derived.Laws.StructEq
import Derived.ChangeKeysEq
import Derived.Laws.Rows
import Derived.Laws.LoneSync
import Derived.Laws.Pointers
import Derived.Laws.ResultCell
import Derived.Laws.CopyRow
import Derived.FollowTie
import Derived.Scope
import Derived.Conc.AtomicLaws2
import Derived.Conc.MarkLaws
import Derived.Conc.SmallLaws
import Derived.Laws.Bits64
import Derived.Laws.BitsLemmas
import Derived.Test.YtnifpkopeheodaaGreatRows
import Derived.KernelRfl
set_option linter.unusedVariables false
section
namespace Go.Vc
open Go
def N6 (D:Nat->Bool) (i:Nat):Nat->Bool:=fun k=>if k=i then true else D k
def j7 (o:Oper) (D:Nat->Bool):Prop:=∀x∈o.after,Region.binds .any x=true->D x.on=true
def Az0 (n:Nat) (ops:Array Oper):Bool :=
 (List.range ops.size).all fun i=>
  match ops[i]? with
  |none=>false
  |some o=>
   j4 n o.dst && !(match o.op with| .select ..=>true|_=>false) &&
   (o.after.all fun x=>!Region.binds .any x ||Nat.blt x.on i) &&
   (List.range ops.size).all fun j=>
    match ops[j]? with
    |none=>false
    |some p=>
     match p.dst with
     |none=>true
     |some t=>(i==j ||o.dst !=some t)&&(!(o.looksAt ops).contains t ||o.after.any fun x=>Region.binds .any x&&x.on==j)
structure Ord (n:Nat) (ops:Array Oper):Prop where
 dst:∀(i:Nat) (o:Oper),ops[i]? =some o->j4 n o.dst=true
 sel:∀(i:Nat) (o:Oper),ops[i]? =some o->∀cs b,o.op≠.select cs b
 back:∀(i:Nat) (o:Oper),ops[i]? =some o->∀x∈o.after,Region.binds .any x=true->x.on<i
 one:∀(i j:Nat) (o p:Oper) (t:Nat),ops[i]? =some o->ops[j]? =some p->o.dst=some t->p.dst=some t->i=j
 look:∀(i j:Nat) (o p:Oper) (t:Nat),ops[i]? =some o->ops[j]? =some p->p.dst=some t->t∈o.looksAt ops->∃x∈o.after,Region.binds .any x=true/\x.on=j
theorem Dd0 {n:Nat} {ops:Array Oper} (h:Az0 n ops=true):Ord n ops:=by
 unfold Az0 at h;have lt:∀{i:Nat} {o:Oper},ops[i]? =some o->i<ops.size:=fun h=>(Array.getElem?_eq_some_iff.1 h).1;have key:∀(i:Nat) (o:Oper),ops[i]? =some o->(j4 n o.dst=true/\(!(match o.op with| .select ..=>true|_=>false))=true) /\
   ((o.after.all fun x=>!Region.binds .any x ||Nat.blt x.on i)=true)/\∀(j:Nat) (p:Oper) (t:Nat),ops[j]? =some p->p.dst=some t->(i==j ||o.dst !=some t)=true/\(!(o.looksAt ops).contains t ||o.after.any fun x=>Region.binds .any x&&x.on==j)=true:=by
  intro i o ho;have h1:=List.all_eq_true.1 h i (List.mem_range.2 (lt ho));simp only[ho,Bool.and_eq_true]at h1;refine⟨h1.1.1,h1.1.2,fun j p t hp ht=>?_⟩;have h2:=List.all_eq_true.1 h1.2 j (List.mem_range.2 (lt hp));simp only[hp,ht,Bool.and_eq_true]at h2;exact h2
 refine⟨fun i o ho=>(key i o ho).1.1,fun i o ho cs b he=>?_,fun i o ho x hx hb=>?_,fun i j o p t ho hp h1 h2=>?_,fun i j o p t ho hp ht hl=>?_⟩
 ·have:=(key i o ho).1.2;rw[he]at this;cases this
 ·have:=(key i o ho).2.1;rw[Array.all_eq_true']at this;have:=this x hx;simp only[hb,Bool.not_true,Bool.false_or,Nat.blt_eq]at this;exact this
 ·have:=((key i o ho).2.2 j p t hp h2).1;simp only[h1,bne_self_eq_false,Bool.or_false,beq_iff_eq]at this;exact this
 ·have:=((key i o ho).2.2 j p t hp ht).2;have hc:(o.looksAt ops).contains t=true:=by simpa using hl
  rw[hc,Bool.not_true,Bool.false_or]at this;obtain⟨x,hx,hb⟩:=Array.any_eq_true'.1 this;simp only[Bool.and_eq_true,beq_iff_eq]at hb;exact⟨x,hx,hb.1,hb.2⟩
section
variable {ops:Array Oper}{n:Nat}
def EE (e:Env) (l:List Oper) (vals:Nat->Value):Nat->Env
 |0=>e
 |k+1=>m3 (EE e l vals k) ((l[k]?).bind (·.dst)) (vals k)
theorem sg0 (e:Env) (o:Oper) (l:List Oper) (vals:Nat->Value):∀k,EE e (o::l) vals (k+1)=EE (m3 e o.dst (vals 0)) l (fun k=>vals (k+1)) k
 |0=>rfl
 |k+1=>by
  show m3 (EE e (o::l) vals (k+1)) _ _=_;rw[sg0 e o l vals k];rfl
theorem jg0 (e:Env) (l:List Oper) (vals:Nat->Value) (t:Nat):∀k,(∀j o,j<k->l[j]? =some o->o.dst≠some t)->EE e l vals k t=e t
 |0,_=>rfl
 |k+1,h=>by
  have ih:=jg0 e l vals t k (fun j o hj ho=>h j o (by omega) ho);show m3 _ _ _ t=_;cases hk:l[k]? with
  |none=>exact ih
  |some o=>
   simp only[Option.bind_some];cases hd:o.dst with
   |none=>exact ih
   |some d=>
    have:t≠d:=fun hh=>h k o (by omega) hk (by rw[hd,hh]);show upd _ _ _ _=_;rw[upd_ne _ _ this];exact ih
theorem wh0 (e:Env) (l:List Oper) (vals:Nat->Value) (t j:Nat) (o:Oper) (hj:l[j]? =some o) (hd:o.dst=some t) (Tx0:∀i p,l[i]? =some p->p.dst=some t->i=j):∀k,j<k->EE e l vals k t=vals j
 |0,h=>by omega
 |k+1,h=>by
  show m3 _ _ _ t=_;by_cases hjk:k=j
  ·subst hjk;rw[hj];simp only[Option.bind_some,hd];exact upd_same _ _ _
  ·have ih:=wh0 e l vals t j o hj hd Tx0 k (by omega);cases hk:l[k]? with
   |none=>exact ih
   |some p=>
    simp only[Option.bind_some];cases hp:p.dst with
    |none=>exact ih
    |some d=>
     have:t≠d:=fun hh=>hjk (Tx0 k p hk (by rw[hp,hh]));show upd _ _ _ _=_;rw[upd_ne _ _ this];exact ih
structure Mid (ops:Array Oper) (e0:Env) (vals:Nat->Value) (listed:Array Bool) (e:Env):Prop where
 hit:∀j o t,ops[j]? =some o->o.dst=some t->listed.getD j false=true->e t=vals j
 mk0:∀t,(∀j o,ops[j]? =some o->o.dst=some t->listed.getD j false=false)->e t=e0 t
theorem ua0 (h:Ord n ops) {e0:Env} {vals:Nat->Value} {listed:Array Bool} {e:Env} (hm:Mid ops e0 vals listed e) {i:Nat} {o:Oper} (ho:ops[i]? =some o)
  (fb0:∀x∈o.after,Region.binds .any x=true->listed.getD x.on false=true):∀t∈o.looksAt ops,e t=EE e0 ops.toList vals i t:=by
 intro t ht;have hl:∀j:Nat,ops.toList[j]? =ops[j]?:=fun j=>by rw[Array.getElem?_toList]
 by_cases hex:∃(j:Nat) (p:Oper),ops[j]? =some p/\p.dst=some t
 ·obtain⟨j,p,hp,hd⟩:=hex;obtain⟨x,hx,hb,rfl⟩:=h.look i j o p t ho hp hd ht;have o3:=h.back i o ho x hx hb;rw[hm.hit x.on p t hp hd (fb0 x hx hb)];exact(wh0 e0 ops.toList vals t x.on p (by rw[hl];exact hp) hd (fun i' p' hp' E5=>h.one i' x.on p' p t (by rw[<- hl];exact hp') hp E5 hd) i o3).symm
 ·have e8:∀(j:Nat) (p:Oper),ops[j]? =some p->p.dst≠some t:=fun j p hp hd=>hex ⟨j,p,hp,hd⟩;rw[hm.mk0 t (fun j p hp hd=>absurd hd (e8 j p hp))];exact(jg0 e0 ops.toList vals t i (fun j p _ hp=>e8 j p (by rw[<- hl];exact hp))).symm
theorem S8 {e e':Env} {o:Oper} (hs:∀cs b,o.op≠.select cs b) (h:∀t∈o.looksAt ops,e t=e' t):execOp (ev e) o=execOp (ev e') o:=by
 refine execOp_congr o hs fun x hx=>?_;cases x with
 |tmp t=>exact h t (List.mem_append_left _ (List.mem_filterMap.2 ⟨.tmp t,by simpa using hx,rfl⟩))
 |const v=>rfl
 |global g=>rfl
 |func f=>rfl
theorem T8 {e e':Env} {o:Oper} (h:∀t∈o.looksAt ops,e t=e' t):Region.wanted o (k3 ops e)=Region.wanted o (k3 ops e'):=by
 unfold Region.wanted;cases hg:o.guard with
 |none=>rfl
 |some g=>
  obtain⟨j,b⟩:=g;simp only;have:k3 ops e j=k3 ops e' j:=by
   unfold k3;cases hj:(ops[j]?).bind (·.dst)with
   |none=>rfl
   |some t=>
    have:=h t (List.mem_append_right _ (by rw[hg];simp only[hj];simp));simp only[this]
  rw[this]
theorem gl0 {listed:Array Bool} (h:Ord n ops) (hs:listed.size=ops.size) (hr:Region.ready .any ops listed=[]):∀i,i<ops.size->listed.getD i false=true:=by
 intro i
 induction i using Nat.strongRecOn with
 |_ i ih=>
  intro hi;cases hl:listed.getD i false with
  |true=>rfl
  |false=>
   exfalso;have hi':i<listed.size:=by omega
   have ml0:i∈Region.ready .any ops listed:=by
    refine mem_ready.2 ⟨?_,ops[i],by simp[hi],fun x hx hb=>?_⟩
    ·simp only[Array.getD_eq_getD_getElem?,hi',Array.getElem?_eq_getElem,Option.getD_some]at hl⊢;exact hl
    ·have R2:=h.back i ops[i] (by simp[hi]) x hx hb;exact ih x.on R2 (by omega)
   rw[hr]at ml0;cases ml0
theorem count_set {l:Array Bool} {i:Nat} (h:l.getD i true=false):(l.setIfInBounds i true).toList.count false+1=l.toList.count false:=by
 have hi:i<l.size:=by
  rcases Nat.lt_or_ge i l.size with h'|h'
  ·exact h'
  ·simp[Array.getElem?_eq_none h']at h
 have hv:l[i]=false:=by simpa [hi]using h
 show List.countP (· ==false) _+1=List.countP (· ==false) _;rw[Array.toList_setIfInBounds,List.countP_set (by simpa using hi)];have hv':l.toList[i]'(by simpa using hi)=false:=by simpa using hv
 simp only[hv'];have:0<l.toList.countP (· ==false):=List.countP_pos_iff.2 ⟨false,by rw[<- hv'];exact List.getElem_mem _,rfl⟩;simp only[beq_self_eq_true,if_true];have e2:(if(true==false)=true then 1 else 0)=0:=rfl;rw[e2];omega
theorem wi0 {l:Array Bool} (h:l.toList.count false=0):∀i,i<l.size->l.getD i false=true:=by
 intro i hi;simp only[Array.getD_eq_getD_getElem?,hi,Array.getElem?_eq_getElem,Option.getD_some];cases hv:l[i]with
 |true=>rfl
 |false=>
  exfalso;have:false∈l.toList:=by rw[<- hv];simp
  have:=List.count_pos_iff.2 this;omega
theorem sh0 {l:Array Bool} {i:Nat} (hi:i<l.size):(fun k=>(l.setIfInBounds i true).getD k false)=N6 (fun k=>l.getD k false) i:=by
 funext k;unfold N6;by_cases hk:k=i
 ·subst hk;simp[hi]
 ·rw[getD_set_ne false (Ne.symm hk),if_neg hk]
theorem Mid.step (h:Ord n ops) {e0:Env} {vals:Nat->Value} {listed:Array Bool} {e:Env} (hm:Mid ops e0 vals listed e) {i:Nat} {o:Oper} (ho:ops[i]? =some o) (hi:i<listed.size) :
  Mid ops e0 vals (listed.setIfInBounds i true) (m3 e o.dst (vals i)):=by
 constructor
 ·intro j p t hp ht hl;by_cases o3:j=i
  ·subst o3;obtain rfl:p=o:=Option.some.inj (hp.symm.trans ho);rw[ht];exact upd_same _ _ _
  ·rw[getD_set_ne false (Ne.symm o3)]at hl;have hv:=hm.hit j p t hp ht hl;cases hd:o.dst with
   |none=>exact hv
   |some d=>
    have:t≠d:=fun hh=>o3 (h.one j i p o t hp ho ht (by rw[hd,hh]));show upd _ _ _ _=_;rw[upd_ne _ _ this];exact hv
 ·intro t e8;have hv:=hm.mk0 t (fun j p hp ht=>by
   have:=e8 j p hp ht;by_cases o3:j=i
   ·subst o3;simp[hi]at this
   ·rw[getD_set_ne false (Ne.symm o3)]at this;exact this)
  cases hd:o.dst with
  |none=>exact hv
  |some d=>
   have:t≠d:=fun hh=>by
    have:=e8 i o ho (by rw[hd,hh]);simp[hi]at this
   show upd _ _ _ _=_;rw[upd_ne _ _ this];exact hv
inductive Lin (ops:Array Oper):Array Bool->List Nat->Prop
 |nil {listed}:Region.ready .any ops listed=[]->Lin ops listed []
 |cons {listed i σ}:i∈Region.ready .any ops listed->Lin ops (listed.setIfInBounds i true) σ->Lin ops listed (i::σ)
theorem si0 (ops:Array Oper):∀(fuel t:Nat) (listed:Array Bool),listed.size=ops.size->listed.toList.count false <=fuel->Lin ops listed (Region.linearise.go .any ops fuel t listed []):=by
 intro fuel
 induction fuel with
 |zero=>
  intro t listed hs hc;have cj0:=wi0 (show listed.toList.count false=0 by omega);refine .nil ?_;cases hr:Region.ready .any ops listed with
  |nil=>rfl
  |cons i r=>
   exfalso;have ml0:i∈Region.ready .any ops listed:=by rw[hr];exact List.mem_cons_self
   obtain⟨h1,o,ho,_⟩:=mem_ready.1 ml0;have hi:i<ops.size:=(Array.getElem?_eq_some_iff.1 ho).1;have hi':i<listed.size:=by omega
   have:=cj0 i hi';simp only[Array.getD_eq_getD_getElem?,hi',Array.getElem?_eq_getElem,Option.getD_some]at h1 this;rw[h1]at this;cases this
 |succ fuel ih=>
  intro t listed hs hc;simp only[Region.linearise.go];change Lin ops listed (match(Region.ready .any ops listed)[t%(Region.ready .any ops listed).length]? with
   |some i=>Region.linearise.go .any ops fuel (t/(Region.ready .any ops listed).length) (listed.setIfInBounds i true) [i]
   |none=>[].reverse)
  cases hi:(Region.ready .any ops listed)[t%(Region.ready .any ops listed).length]? with
  |none=>
   have Ba0:Region.ready .any ops listed=[]:=by
    cases hr:Region.ready .any ops listed with
    |nil=>rfl
    |cons x xs=>
     rw[hr]at hi;have R2:t%(x::xs).length<(x::xs).length:=Nat.mod_lt _ (by simp);simp at hi;simp at R2;omega
   exact .nil Ba0
  |some i=>
   simp only[];rw[linearise_go_acc,List.reverse_singleton,List.singleton_append];have ml0:=List.mem_of_getElem? hi;exact .cons ml0 (ih _ _ (by simp[hs]) (by have:=count_set (mem_ready.1 ml0).1;omega))
def Pre (σ:List Nat) (D:Nat->Bool):Prop:=∃τ ρ,σ=τ++ρ/\∀k,D k=true↔k∈τ
theorem Pre.chain {σ:List Nat} {D D':Nat->Bool} (h:Pre σ D) (h':Pre σ D'):(∀k,D k=true->D' k=true)\/(∀k,D' k=true->D k=true):=by
 obtain⟨τ,ρ,e1,h1⟩:=h;obtain⟨τ',ρ',e2,h2⟩:=h';rcases List.append_eq_append_iff.1 (e1.symm.trans e2)with⟨x,hx,_⟩|⟨x,hx,_⟩
 ·left;intro k hk;rw[h2,hx];exact List.mem_append_left _ ((h1 k).1 hk)
 ·right;intro k hk;rw[h1,hx];exact List.mem_append_left _ ((h2 k).1 hk)
theorem ed0:∀{listed:Array Bool} {σ:List Nat},Lin ops listed σ->(∀i o,ops[i]? =some o->listed.getD i false=true->∀x∈o.after,Region.binds .any x=true->listed.getD x.on false=true)->listed.size=ops.size ->
  ∀(τ ρ:List Nat),σ=τ++ρ->∀i o,ops[i]? =some o->(listed.getD i false=true\/i∈τ)->∀x∈o.after,Region.binds .any x=true->(listed.getD x.on false=true\/x.on∈τ):=by
 intro listed σ h
 induction h with
 |nil _=>
  intro hc _ τ ρ hσ i o ho hi x hx hb;have:τ=[]:=(List.append_eq_nil_iff.1 hσ.symm).1;subst this;rcases hi with hi|hi
  ·exact .inl (hc i o ho hi x hx hb)
  ·cases hi
 | @cons listed j σ hj _ ih=>
  intro hc hs τ ρ hσ i o ho hi x hx hb;cases τ with
  |nil=>
   rcases hi with hi|hi
   ·exact .inl (hc i o ho hi x hx hb)
   ·cases hi
  |cons t τ=>
   simp only[List.cons_append,List.cons.injEq]at hσ;obtain⟨rfl,hσ⟩:=hσ;obtain⟨_,oj,hoj,hdj⟩:=mem_ready.1 hj;have hjs:j<ops.size:=(Array.getElem?_eq_some_iff.1 hoj).1;have D6:∀i o,ops[i]? =some o->(listed.setIfInBounds j true).getD i false=true->∀x∈o.after,Region.binds .any x=true->(listed.setIfInBounds j true).getD x.on false=true:=by
    intro i o ho hi x hx hb;by_cases hij:j=i
    ·subst hij;obtain rfl:o=oj:=Option.some.inj (ho.symm.trans hoj);exact getD_set_true (hdj x hx hb)
    ·rw[getD_set_ne false hij]at hi;exact getD_set_true (hc i o ho hi x hx hb)
   have Ml0:∀k,((listed.setIfInBounds j true).getD k false=true\/k∈τ)↔(listed.getD k false=true\/k∈j::τ):=by
    intro k;by_cases hk:j=k
    ·subst hk;simp[hs,hjs]
    ·rw[getD_set_ne false hk];simp[Ne.symm hk]
   exact(Ml0 _).1 (ih D6 (by simp[hs]) τ ρ hσ i o ho ((Ml0 _).2 hi) x hx hb)
theorem Y0 (m j:Nat):(Array.replicate m false).getD j false=false:=by
 rcases Nat.lt_or_ge j m with h|h <;> simp[h]
end
section
variable {P:Program}{ρ:Operand->Value}{w:World}{d:Option Nat}{ty:TypeId}{ps:String}{af:Array Edge}{g:Option (Nat×Bool)}
variable {x y z:Operand}{T T' E S:TypeId}
theorem ck0:(execOp ρ ⟨d,.move x,ty,ps,af,g⟩).run P w= .ok (.value (ρ x)) w:=rfl
theorem cl0:(execOp ρ ⟨d,.assign x,ty,ps,af,g⟩).run P w= .ok (.value (ρ x)) w:=rfl
theorem T5 {κ:IntKind} {m:Int} (h:ρ x= .int κ m):(execOp ρ ⟨d,.move x,ty,ps,af,g⟩).run P w= .ok (.value (.int κ m)) w:=by rw[<- h];rfl
theorem fc0 {κ:IntKind} {m:Int} (h:ρ x= .int κ m):(execOp ρ ⟨d,.assign x,ty,ps,af,g⟩).run P w= .ok (.value (.int κ m)) w:=by rw[<- h];rfl
theorem id0 {b:Bool} (h:ρ x= .bool b):(execOp ρ ⟨d,.move x,ty,ps,af,g⟩).run P w= .ok (.value (.bool b)) w:=by rw[<- h];rfl
theorem ub0 {b:Bool} (h:ρ x= .bool b):(execOp ρ ⟨d,.assign x,ty,ps,af,g⟩).run P w= .ok (.value (.bool b)) w:=by rw[<- h];rfl
theorem aw0 {a:Option Addr} {n c:Nat} (h:ρ x= .slice a n c):(execOp ρ ⟨d,.move x,ty,ps,af,g⟩).run P w= .ok (.value (.slice a n c)) w:=by rw[<- h];rfl
theorem bw0 {a:Option Addr} {n c:Nat} (h:ρ x= .slice a n c):(execOp ρ ⟨d,.assign x,ty,ps,af,g⟩).run P w= .ok (.value (.slice a n c)) w:=by rw[<- h];rfl
theorem Y2 {p:Option Addr} (h:ρ x= .pointer p):(execOp ρ ⟨d,.move x,ty,ps,af,g⟩).run P w= .ok (.value (.pointer p)) w:=by rw[<- h];rfl
theorem uc0 {p:Option Addr} (h:ρ x= .pointer p):(execOp ρ ⟨d,.assign x,ty,ps,af,g⟩).run P w= .ok (.value (.pointer p)) w:=by rw[<- h];rfl
theorem zd0 {cs:Array Value} (h:ρ x= .tuple cs):(execOp ρ ⟨d,.move x,ty,ps,af,g⟩).run P w= .ok (.value (.tuple cs)) w:=by rw[<- h];rfl
theorem De0 {fn:Fn} {xs ys:Array Value} (h:ρ x= .func fn xs ys):(execOp ρ ⟨d,.move x,ty,ps,af,g⟩).run P w= .ok (.value (.func fn xs ys)) w:=by rw[<- h];rfl
theorem X6 (h:ρ z= .bool true):(execOp ρ ⟨d,.pick z x y,ty,ps,af,g⟩).run P w= .ok (.value (ρ x)) w:=by
 simp[execOp,h,asBool]
theorem V8 (h:ρ z= .bool false):(execOp ρ ⟨d,.pick z x y,ty,ps,af,g⟩).run P w= .ok (.value (ρ y)) w:=by
 simp[execOp,h,asBool]
section
variable {κ:IntKind}{m k:Int}(hx:ρ x= .int κ m)(hy:ρ y= .int κ k)
include hx hy
theorem kb0:(execOp ρ ⟨d,.binOp .add T x y T',ty,ps,af,g⟩).run P w= .ok (.value (.int κ (κ.wrap (m+k)))) w:=by simp[execOp,hx,hy,eqGuard_add,binOp_add,Op.intArith]
theorem ze0:(execOp ρ ⟨d,.binOp .sub T x y T',ty,ps,af,g⟩).run P w= .ok (.value (.int κ (κ.wrap (m-k)))) w:=by simp[execOp,hx,hy,eqGuard_sub,binOp_sub,Op.intArith]
theorem ou0 (h0:k≠0):(execOp ρ ⟨d,.binOp .rem T x y T',ty,ps,af,g⟩).run P w= .ok (.value (.int κ (m.tmod k))) w:=by simp[execOp,hx,hy,eqGuard_rem,binOp_rem,Op.intDiv,h0]
theorem cm0:(execOp ρ ⟨d,.binOp .lss T x y T',ty,ps,af,g⟩).run P w= .ok (.value (.bool (decide (m<k)))) w:=by simp[execOp,hx,hy,eqGuard_lss,binOp,Op.intCmp]
theorem D7:(execOp ρ ⟨d,.binOp .leq T x y T',ty,ps,af,g⟩).run P w= .ok (.value (.bool (decide (m <=k)))) w:=by simp[execOp,hx,hy,eqGuard_leq,binOp,Op.intCmp]
theorem ud0:(execOp ρ ⟨d,.binOp .gtr T x y T',ty,ps,af,g⟩).run P w= .ok (.value (.bool (decide (k<m)))) w:=by simp[execOp,hx,hy,eqGuard_gtr,binOp,Op.intCmp]
theorem Df0:(execOp ρ ⟨d,.binOp .geq T x y T',ty,ps,af,g⟩).run P w= .ok (.value (.bool (decide (k <=m)))) w:=by simp[execOp,hx,hy,eqGuard_geq,binOp,Op.intCmp]
theorem M4:(execOp ρ ⟨d,.binOp .eql T x y T',ty,ps,af,g⟩).run P w= .ok (.value (.bool (decide (m=k)))) w:=by
 simp only[execOp,hx,hy,eqGuard_at_int,binOp,Op.intCmp,pure_bind,Sem.run_bind,Sem.run_pure];by_cases h:m=k <;> simp[h]
theorem kc0:(execOp ρ ⟨d,.binOp .neq T x y T',ty,ps,af,g⟩).run P w= .ok (.value (.bool (decide (m≠k)))) w:=by
 simp only[execOp,hx,hy,eqGuard_at_int,binOp,Op.intCmp,pure_bind,Sem.run_bind,Sem.run_pure];by_cases h:m=k <;> simp[h]
end
theorem kd0 {m k:Int} (hx:ρ x= .int .i64 m) (hy:ρ y= .int .i64 k) (h:-9223372036854775808 <=m+k/\m+k <=9223372036854775807):(execOp ρ ⟨d,.binOp .add T x y T',ty,ps,af,g⟩).run P w= .ok (.value (.int .i64 (m+k))) w:=by
 rw[kb0 hx hy,IntWalk.i64_in _ h]
theorem ke0 {k:Nat} (hx:ρ x= .int .i64 (k:Int)) (hy:ρ y= .int .i64 1) (h:k<9223372036854775807):(execOp ρ ⟨d,.binOp .add T x y T',ty,ps,af,g⟩).run P w= .ok (.value (.int .i64 ((k+1:Nat):Int))) w:=by
 rw[kd0 hx hy (by omega)];rfl
theorem ov0 {b:Bool} (hx:ρ x= .bool b):(execOp ρ ⟨d,.unOp .not T x,ty,ps,af,g⟩).run P w= .ok (.value (.bool (!b))) w:=by simp[execOp,hx,Op.unary]
theorem O8 {a:Option Addr} {n c:Nat} {aT:Array TypeId} (hx:ρ x= .slice a n c) (hT:P.underlying T=some (.slice E)) (hA:aT[0]? =some T) :
  (execOp ρ ⟨d,.call ⟨.builtin .len,#[x],aT⟩,ty,ps,af,g⟩).run P w= .ok (.value (.int .i64 (n:Int))) w:=by
 simp[execOp,resolve,invoke,builtin,hx,Builtin.len_,hA,underlying,hT,goInt]
theorem Ty0 {m k:Int} {aT:Array TypeId} (hx:ρ x= .int .i64 m) (hy:ρ y= .int .i64 k) :
  (execOp ρ ⟨d,.call ⟨.builtin .max,#[x,y],aT⟩,ty,ps,af,g⟩).run P w= .ok (.value (.int .i64 (max m k))) w:=by
 have:max m k=if k>m then k else m:=by split <;> omega
 rw[this];simp[execOp,resolve,invoke,builtin,hx,hy,Builtin.max_,Builtin.max2]
theorem run_sizeOf {t:TypeId} {s:Nat} (h:(P.info? t).map (·.size)=some s):(sizeOf t).run P w= .ok s w:=by
 cases hi:P.info? t with
 |none=>rw[hi]at h;cases h
 |some i=>rw[hi]at h;simp at h;simp[sizeOf,typeInfo,hi,h]
theorem run_underlying {t:TypeId} {u:TypeDesc} (h:P.underlying t=some u):(underlying t).run P w= .ok u w:=by simp[underlying,h]
theorem al0 {t:TypeId} {v:Value} (h:(P.info? t).bind (·.zero)=some v):(zeroValue t).run P w= .ok v w:=by
 cases hi:P.info? t with
 |none=>rw[hi]at h;cases h
 |some i=>rw[hi]at h;simp at h;simp[zeroValue,typeInfo,hi,h]
theorem W8 {b o n c s:Nat} {i:Nat} (hx:ρ x= .slice (some ⟨b,o,none⟩) n c) (hy:ρ y= .int .i64 (i:Int)) (hT:P.underlying T=some (.slice E)) (hs:(P.info? E).map (·.size)=some s) (h:i<n) :
  (execOp ρ ⟨d,.indexAddr T x y,ty,ps,af,g⟩).run P w= .ok (.value (.pointer (some ⟨b,o+i*s,none⟩))) w:=by
 have h1:(0:Int) <=(i:Int)/\(i:Int)<(n:Int):=by omega
 have h2:Addr.add ⟨b,o,none⟩ (i*s)=⟨b,o+i*s,none⟩:=by
  unfold Addr.add;split
  ·rename_i h0;simp[]
  ·rfl
 simp[execOp,Instr.indexAt,hx,hy,asIntOf,run_underlying hT,run_sizeOf hs,h1,h];simpa using h2
theorem wj0 {b o n s:Nat} {i:Int} (hx:ρ x= .pointer (some ⟨b,o,none⟩)) (hy:ρ y= .int .i64 i) (hT:P.underlying T=some (.array n E)) (hs:(P.info? E).map (·.size)=some s) (h0:0 <=i) (h:i<n) :
  (execOp ρ ⟨d,.indexAddr T x y,ty,ps,af,g⟩).run P w= .ok (.value (.pointer (some ⟨b,o+i.toNat*s,none⟩))) w:=by
 have h2:Addr.add ⟨b,o,none⟩ (i.toNat*s)=⟨b,o+i.toNat*s,none⟩:=by
  unfold Addr.add;split
  ·rename_i h0;simp[]
  ·rfl
 simp[execOp,Instr.indexAt,hx,hy,asIntOf,Instr.sureAddr,run_underlying hT,run_sizeOf hs,h0,h,h2]
theorem O0 {b o f:Nat} {fs:Array Field} {fl:Field} {s:Nat} (hx:ρ x= .pointer (some ⟨b,o,none⟩)) (hT:P.underlying S=some (.struct fs)) (hf:fs[f]? =some fl) (hs:(P.info? fl.type).map (·.size)=some s) (h0:s≠0) :
  (execOp ρ ⟨d,.fieldAddr S x f,ty,ps,af,g⟩).run P w= .ok (.value (.pointer (some ⟨b,o+fl.offset,none⟩))) w:=by
 have h2:Addr.add ⟨b,o,none⟩ fl.offset=⟨b,o+fl.offset,none⟩:=by
  unfold Addr.add;split
  ·rename_i h0;simp[]
  ·rfl
 simp[execOp,Instr.fieldAt,hx,Instr.sureAddr,run_underlying hT,hf,fieldPlace,run_sizeOf hs,h0,h2]
def C9 (u:TypeDesc):Bool:=match u with| .struct _| .array ..=>false|_=>true
theorem m9 {t:TypeId} {u:TypeDesc} (h:P.underlying t=some u):(isAgg t).run P w= .ok (!C9 u) w:=by
 cases u <;> simp[isAgg,run_underlying h,C9]
theorem F0 {p:Addr} {u:TypeDesc} {v:Value} (hx:ρ x= .pointer (some p)) (hT:P.underlying T=some u) (hu:C9 u=true) (hc:w.cell? p=some v) :
  (execOp ρ ⟨d,.load T x,ty,ps,af,g⟩).run P w= .ok (.value v) w:=by
 simp[execOp,Instr.loadAt,hx,Instr.sureAddr,loadVar,m9 hT,hu,hc]
theorem G0 {b o:Nat} {u:TypeDesc} {cs:List Value} {s:Nat} (hx:ρ x= .pointer (some ⟨b,o,none⟩)) (hT:P.underlying T=some u) (hu:C9 u=false) (hs:(P.info? T).map (·.size)=some s) (hl:cs.length=s)
  (hc:∀j v,cs[j]? =some v->w.cell? ⟨b,o+j,none⟩=some v) :
  (execOp ρ ⟨d,.load T x,ty,ps,af,g⟩).run P w= .ok (.value (.agg cs.toArray)) w:=by
 have h2:∀j,Addr.add ⟨b,o,none⟩ j=⟨b,o+j,none⟩:=fun j=>by
  unfold Addr.add;split
  ·rename_i h0;simp[]
  ·rfl
 have:=run_loadCells_list (P:=P) (w:=w) ⟨b,o,none⟩ cs (fun j v hj=>by rw[h2];exact hc j v hj);rw[hl]at this;simp[execOp,Instr.loadAt,hx,Instr.sureAddr,loadVar,m9 hT,hu,run_sizeOf hs,this]
theorem jh0 {p:Addr} {v v0:Value} (hx:ρ x= .pointer (some p)) (hy:ρ y=v) (hs:(P.info? T).map (·.size)=some 1) (h1:v.oneCell'=true) (hc:w.cell? p=some v0) (hf:w.frozen? p=false) :
  (execOp ρ ⟨d,.store T x y,ty,ps,af,g⟩).run P w= .ok .skip (w.setCell p v):=by
 have hv:v.cells=#[v]:=by cases v <;> first|rfl|(simp[Value.oneCell']at h1)
 have ha:p.add 0=p:=by simp[Addr.add]
 simp[execOp,Instr.storeAt,hx,hy,Instr.sureAddr,storeVar,run_sizeOf hs,hv,storeCells,ha,run_store P w p v .plain h1,hc,hf]
theorem ax0 {vs:Array Value} {i:Nat} {v:Value} (hx:ρ x= .tuple vs) (hv:vs[i]? =some v):(execOp ρ ⟨d,.extract x i,ty,ps,af,g⟩).run P w= .ok (.value v) w:=by
 simp[execOp,Instr.extract,hx,hv]
theorem am0 {f:FuncId} {first cap args:Array Value} {fn:Func} {xs:Array Operand} {aT:Array TypeId} (hx:ρ x= .func (.func f) first cap) (ha:xs.map ρ=args) (hf:P.funcs[f]? =some fn) (hb:fn.body.isSome=true) (hn:(fn.name== "runtime.NumGoroutine")=false) :
  (execOp ρ ⟨d,.call ⟨.value x,xs,aT⟩,ty,ps,af,g⟩).run P w= .ok (.enter f (first++args++cap)) w:=by
 have g7:fn.body≠none:=by intro h;rw[h]at hb;cases hb
 simp at hn;simp[execOp,resolve,hx,Deferred.ofValue,invoke,callFunc,hf,hn,g7,ha]
theorem bq0 {f:FuncId} {fn:Func} {aT:Array TypeId} (hf:P.funcs[f]? =some fn) (hb:fn.body.isSome=true) (hn:(fn.name== "runtime.NumGoroutine")=false) (hx:ρ (.func f)= .func (.func f) #[] #[]) :
  (execOp ρ ⟨d,.call ⟨.value (.func f),#[],aT⟩,ty,ps,af,g⟩).run P w= .ok (.enter f #[]) w:=by
 rw[am0 hx rfl hf hb hn];simp
theorem M0 {f:FuncId} {fn:Func} {aT:Array TypeId} {x0:Operand} {v0:Value} (h0:ρ x0=v0) (hf:P.funcs[f]? =some fn) (hb:fn.body.isSome=true) (hn:(fn.name== "runtime.NumGoroutine")=false) (hx:ρ (.func f)= .func (.func f) #[] #[]) :
  (execOp ρ ⟨d,.call ⟨.value (.func f),#[x0],aT⟩,ty,ps,af,g⟩).run P w= .ok (.enter f #[v0]) w:=by
 rw[am0 hx rfl hf hb hn];simp[h0]
theorem l3 {f:FuncId} {fn:Func} {aT:Array TypeId} {x0 x1:Operand} {v0 v1:Value} (h0:ρ x0=v0) (h1:ρ x1=v1) (hf:P.funcs[f]? =some fn) (hb:fn.body.isSome=true) (hn:(fn.name== "runtime.NumGoroutine")=false) (hx:ρ (.func f)= .func (.func f) #[] #[]) :
  (execOp ρ ⟨d,.call ⟨.value (.func f),#[x0,x1],aT⟩,ty,ps,af,g⟩).run P w= .ok (.enter f #[v0,v1]) w:=by
 rw[am0 hx rfl hf hb hn];simp[h0,h1]
theorem L3 {f:FuncId} {fn:Func} {aT:Array TypeId} {x0 x1 x2:Operand} {v0 v1 v2:Value} (h0:ρ x0=v0) (h1:ρ x1=v1) (h2:ρ x2=v2) (hf:P.funcs[f]? =some fn) (hb:fn.body.isSome=true) (hn:(fn.name== "runtime.NumGoroutine")=false) (hx:ρ (.func f)= .func (.func f) #[] #[]) :
  (execOp ρ ⟨d,.call ⟨.value (.func f),#[x0,x1,x2],aT⟩,ty,ps,af,g⟩).run P w= .ok (.enter f #[v0,v1,v2]) w:=by
 rw[am0 hx rfl hf hb hn];simp[h0,h1,h2]
theorem Y6 {f:FuncId} {fn:Func} {aT:Array TypeId} {x0 x1 x2 x3:Operand} {v0 v1 v2 v3:Value} (h0:ρ x0=v0) (h1:ρ x1=v1) (h2:ρ x2=v2) (h3:ρ x3=v3) (hf:P.funcs[f]? =some fn) (hb:fn.body.isSome=true) (hn:(fn.name== "runtime.NumGoroutine")=false) (hx:ρ (.func f)= .func (.func f) #[] #[]) :
  (execOp ρ ⟨d,.call ⟨.value (.func f),#[x0,x1,x2,x3],aT⟩,ty,ps,af,g⟩).run P w= .ok (.enter f #[v0,v1,v2,v3]) w:=by
 rw[am0 hx rfl hf hb hn];simp[h0,h1,h2,h3]
theorem l6 {f:FuncId} {fn:Func} {aT:Array TypeId} {x0 x1 x2 x3 x4:Operand} {v0 v1 v2 v3 v4:Value} (h0:ρ x0=v0) (h1:ρ x1=v1) (h2:ρ x2=v2) (h3:ρ x3=v3) (h4:ρ x4=v4) (hf:P.funcs[f]? =some fn) (hb:fn.body.isSome=true) (hn:(fn.name== "runtime.NumGoroutine")=false) (hx:ρ (.func f)= .func (.func f) #[] #[]) :
  (execOp ρ ⟨d,.call ⟨.value (.func f),#[x0,x1,x2,x3,x4],aT⟩,ty,ps,af,g⟩).run P w= .ok (.enter f #[v0,v1,v2,v3,v4]) w:=by
 rw[am0 hx rfl hf hb hn];simp[h0,h1,h2,h3,h4]
theorem zf0 {v:Value} (hx:ρ x=v):(execOp ρ ⟨d,.box T x,ty,ps,af,g⟩).run P w= .ok (.value (.pointer (some ⟨w.heap.size,0,none⟩))) (w.alloc (.cells v.cells T)):=by
 simp[execOp,Instr.box,newVar,newRow,hx]
theorem ji0 {v:Value} (hz:(P.info? T).bind (·.zero)=some v):(execOp ρ ⟨d,.alloc T,ty,ps,af,g⟩).run P w= .ok (.value (.pointer (some ⟨w.heap.size,0,none⟩))) (w.alloc (.cells v.cells T)):=by
 simp[execOp,Instr.alloc,newVar,newRow,al0 hz]
end
section
end
section
end
def k7 (args:Array Value):Env:=fun t=>args.getD t undef
def ends (P:Program) (fn:Func) (R:Value->World->Prop):Exit->Env->World->Prop:=fun x e w=>
 (x= .normal\/x= .ret)/\∃v,(∀tmps:Array Value,(∀t,tmps.getD t undef=e t)->(results fn tmps).run P w= .ok v w)/\R v w
theorem rb {a b:Bool} (h:a=b):Value.bool a=Value.bool b:=by rw[h]
end Go.Vc
end
section
namespace Go.Vc
open Go Go.RowKit
def S0 (w:World) (b:Nat) (cs:Array Value) (T:TypeId):Prop:=w.heap[b]? =some (.cells cs T (0,0))
theorem S0.lt {w:World} {b:Nat} {cs:Array Value} {T:TypeId} (h:S0 w b cs T):b<w.heap.size:=(Array.getElem?_eq_some_iff.1 h).1
theorem S0.cell {w:World} {b o:Nat} {cs:Array Value} {T:TypeId} {v:Value} (h:S0 w b cs T) (hv:cs[o]? =some v):w.cell? ⟨b,o,none⟩=some v:=by
 unfold S0 at h;simp[World.cell?,h,hv]
theorem S0.frozen {w:World} {b o:Nat} {cs:Array Value} {T:TypeId} (h:S0 w b cs T):w.frozen? ⟨b,o,none⟩=false:=by
 unfold S0 at h;simp[World.frozen?,h]
theorem S0.set {w:World} {b o:Nat} {cs:Array Value} {T:TypeId} (h:S0 w b cs T) (v:Value):S0 (w.setCell ⟨b,o,none⟩ v) b (cs.setIfInBounds o v) T:=by
 unfold S0 at *;simp only[World.setCell,Array.getElem?_modify,h];simp
theorem S0.below {B:Nat} {w w':World} {b:Nat} {cs:Array Value} {T:TypeId} (h:S0 w b cs T) (hb:Below B w w') (R2:b<B):S0 w' b cs T:=(hb.block b R2).trans h
theorem S0.E0 {w w':World} {b:Nat} {cs:Array Value} {T:TypeId} (h:S0 w b cs T) (hb:Below w.heap.size w w'):S0 w' b cs T:=h.below hb h.lt
structure dy0 (w w1:World) (b:Nat) (cs:Array Value) (T:TypeId):Prop where
 here:b=w.heap.size
 below:Below w.heap.size w w1
 size:w1.heap.size=w.heap.size+1
 blk:S0 w1 b cs T
theorem dy0.lq {w w1:World} {b n:Nat} {cs:Array Value} {T:TypeId} (F:dy0 w w1 b cs T) (h:n <=w.heap.size):n <=b:=F.here▸h
theorem p8 (w:World) (cs:Array Value) (T:TypeId):dy0 w (w.alloc (.cells cs T)) w.heap.size cs T :=
 ⟨rfl,(Below.refl _ _).alloc (Nat.le_refl _) _,by simp,by unfold S0;show(w.heap.push _)[_]? =_;simp⟩
section
variable {P:Program}{w:World}
variable {T:TypeId}
def setRow (cs:Array Value) (o:Nat):List Value->Array Value
 | []=>cs
 |v::vs=>setRow (cs.setIfInBounds o v) (o+1) vs
def G5 (w:World) (b:Nat) (cs:Array Value) (T:TypeId):World:={w with heap:=w.heap.setIfInBounds b (.cells cs T (0,0))}
theorem ie0 (w:World) (b:Nat) (cs:Array Value) (T:TypeId):(G5 w b cs T).heap.size=w.heap.size:=by simp[G5]
theorem if0 {w:World} {b:Nat} (cs S5:Array Value) (T:TypeId) (h:S0 w b cs T):S0 (G5 w b S5 T) b S5 T:=by
 have:=h.lt;simp[S0,G5,this]
theorem sj0 {w:World} {b k:Nat} (S5:Array Value) (T:TypeId) (h:k≠b):(G5 w b S5 T).heap[k]? =w.heap[k]?:=by
 simp only[G5];rw[Array.getElem?_setIfInBounds_ne (Ne.symm h)]
theorem kf0 {w:World} {b o:Nat} {cs:Array Value} {T:TypeId} (h:S0 w b cs T) (v:Value):w.setCell ⟨b,o,none⟩ v=G5 w b (cs.setIfInBounds o v) T:=by
 have hl:=h.lt;have hg:w.heap[b]= .cells cs T (0,0):=by have:=h;unfold S0 at this;rw[Array.getElem?_eq_getElem hl]at this;exact Option.some.inj this
 simp only[World.setCell,Vc.G5];congr 1;apply Array.ext_getElem?;intro i;by_cases hi:i=b
 ·subst hi;rw[Array.getElem?_modify,if_pos rfl,Array.getElem?_eq_getElem hl,hg];simp[hl]
 ·rw[Array.getElem?_modify,Array.getElem?_setIfInBounds_ne (Ne.symm hi),if_neg (Ne.symm hi)]
theorem mo0 (w:World) (b:Nat) (cs S5:Array Value) (T:TypeId):G5 (G5 w b cs T) b S5 T=G5 w b S5 T:=by
 simp[G5]
theorem ue0 {w:World} {b:Nat} {cs:Array Value} {T:TypeId} (h:S0 w b cs T):G5 w b cs T=w:=by
 have hl:=h.lt;have hg:w.heap[b]= .cells cs T (0,0):=by have:=h;unfold S0 at this;rw[Array.getElem?_eq_getElem hl]at this;exact Option.some.inj this
 have:w.heap.setIfInBounds b (.cells cs T (0,0))=w.heap:=by
  apply Array.ext_getElem?;intro i;by_cases hi:i=b
  ·subst hi;simp[hl,hg]
  ·rw[Array.getElem?_setIfInBounds_ne (Ne.symm hi)]
 simp only[G5,this]
theorem D9 (b:Nat) (T:TypeId):∀(vs:List Value) (o i:Nat) (cs:Array Value) (w:World),S0 w b cs T->o+i+vs.length <=cs.size->(∀v∈vs,v.oneCell'=true) ->
  (storeCells ⟨b,o,none⟩ vs i).run P w= .ok () (G5 w b (setRow cs (o+i) vs) T)
 | [],o,i,cs,w,h,_,_=>by simp[storeCells,setRow,ue0 h]
 |v::vs,o,i,cs,w,h,hl,h1=>by
  have ha:Addr.add ⟨b,o,none⟩ i=⟨b,o+i,none⟩:=by
   unfold Addr.add;split
   ·rename_i h0;simp[]
   ·rfl
  have R2:o+i<cs.size:=by simp only[List.length_cons]at hl;omega
  have hc:=h.cell (Array.getElem?_eq_getElem R2);have ih:=D9 b T vs o (i+1) (cs.setIfInBounds (o+i) v) (G5 w b (cs.setIfInBounds (o+i) v) T) (if0 cs _ T h) (by simp only[List.length_cons]at hl;simp;omega) (fun u hu=>h1 u (List.mem_cons_of_mem _ hu));rw[mo0]at ih;simp only[storeCells,Sem.run_bind,ha,run_store P w _ v .plain (h1 v List.mem_cons_self),hc,h.frozen,Bool.false_eq_true,if_false,Result.andThen_ok,kf0 h v];rw[ih];rfl
end
section
end
def ab (a:Option Addr):Nat:=(a.map (·.block)).getD 0
def ao (a:Option Addr):Nat:=(a.map (·.off)).getD 0
def SL (a:Option Addr) (n:Nat):Prop:=0<n->a=some ⟨ab a,ao a,none⟩
section
variable {P:Program}{ρ:Operand->Value}{w:World}{d:Option Nat}{ty:TypeId}{ps:String}{af:Array Edge}{g:Option (Nat×Bool)}{x y:Operand}{T E:TypeId}
theorem ay0 {a:Option Addr} {n c s:Nat} {i:Nat} (hx:ρ x= .slice a n c) (hy:ρ y= .int .i64 (i:Int)) (hT:P.underlying T=some (.slice E)) (hs:(P.info? E).map (·.size)=some s) (hS:SL a n) (h:i<n) :
  (execOp ρ ⟨d,.indexAddr T x y,ty,ps,af,g⟩).run P w= .ok (.value (.pointer (some ⟨ab a,ao a+i*s,none⟩))) w:=by
 have h0:=hS (by omega);rw[h0]at hx;exact W8 hx hy hT hs h
end
section
variable {next:Env->World->Prop}{Q:Exit->Env->World->Prop}{e:Env}{w:World}{id:Nat}
theorem T.nrm (h:next e w):N8 next Q .normal e w:=h
theorem T.ret (h:Q .ret e w):N8 next Q .ret e w:=h
theorem T.exit (h:Q (.exit id) e w):N8 next Q (.exit id) e w:=h
theorem B.nrm (h:Q .normal e w):B9 id Q .normal e w:=h
theorem B.ret (h:Q .ret e w):B9 id Q .ret e w:=h
theorem B.Op0 (h:Q .normal e w):B9 id Q (.exit id) e w:=by simp only[B9,if_true];exact h
end
theorem Jc0 {p:Prop} [Decidable p] {q:Prop} [Decidable (p\/q)] (h:decide p=true):true=decide (p\/q):=(decide_eq_true (Or.inl (of_decide_eq_true h))).symm
theorem Jd0 {p:Prop} [Decidable p] {q:Prop} [Decidable q] [Decidable (p\/q)] (h:decide p=false):decide q=decide (p\/q):=decide_eq_decide.2 ⟨Or.inr,fun h'=>h'.resolve_left (of_decide_eq_false h)⟩
theorem Mm0 {p:Prop} [Decidable p] {q:Prop} [Decidable (p/\q)] (h:decide p=false):false=decide (p/\q):=(decide_eq_false (fun h'=>of_decide_eq_false h h'.1)).symm
theorem Mn0 {p:Prop} [Decidable p] {q:Prop} [Decidable q] [Decidable (p/\q)] (h:decide p=true):decide q=decide (p/\q):=decide_eq_decide.2 ⟨fun h'=>⟨of_decide_eq_true h,h'⟩,fun h'=>h'.2⟩
theorem N0 {w0 w w':World} (h:Below w0.heap.size w0 w) (h':Below w.heap.size w w'):Below w0.heap.size w0 w':=h.trans (h'.mono h.size)
def Own (w:World) (B:Nat) (E:TypeId) (s:Nat) (a:Option Addr) (n c:Nat) (xs:List Value):Prop:=w.ownsRow B E s (.slice a n c) n xs
section
variable {w w':World}{B:Nat}{E:TypeId}{s:Nat}{a:Option Addr}{n c:Nat}{xs:List Value}
theorem Own.nil (w:World) (B:Nat) (E:TypeId) (s:Nat):Own w B E s none 0 0 []:=World.ownsRow_nil w B E s
theorem Own.length (h:Own w B E s a n c xs):xs.length=n*s:=h.1
theorem Own.sl (h:Own w B E s a n c xs):SL a n:=fun hn=>by
 rcases h.2 with⟨_,h0⟩|⟨g,cap,cur,hv,_⟩
 ·omega
 ·cases hv;rfl
theorem Own.off (h:Own w B E s a n c xs):ao a=0:=by
 rcases h.2 with⟨hv,h0⟩|⟨g,cap,cur,hv,_⟩ <;> cases hv <;> rfl
theorem Own.row (h:Own w B E s a n c xs) (ha:a≠none):∃cur,S0 w (ab a) cur E/\B <=ab a/\n <=c/\c <=maxLen/\cur.size=c*s/\cur.toList.take (n*s)=xs:=by
 rcases h.2 with⟨hv,h0⟩|⟨g,cap,cur,hv,hb,hg,hn,hm,hs,ht⟩
 ·cases hv;exact absurd rfl ha
 ·cases hv;exact⟨cur,hg,hb,hn,hm,hs,ht⟩
theorem Own.zg0 (h:Own w B E s a n c xs) (hn:0<n):a≠none:=by rw[h.sl hn];simp
theorem Own.cell (h:Own w B E s a n c xs) {j:Nat} {v:Value} (hj:xs[j]? =some v):w.cell? ⟨ab a,j,none⟩=some v:=by
 have R2:j<xs.length:=(List.getElem?_eq_some_iff.1 hj).1;have hn:0<n:=by
  rcases Nat.eq_zero_or_pos n with h0|h0
  ·subst h0;rw[h.length]at R2;omega
  ·exact h0
 obtain⟨cur,hB,_,_,_,_,ht⟩:=h.row (h.zg0 hn);refine hB.cell ?_;rw[<- ht]at hj;rw[List.getElem?_take]at hj;split at hj
 ·simpa using hj
 ·cases hj
theorem Own.lt (h:Own w B E s a n c xs) (ha:a≠none):ab a<w.heap.size:=(h.row ha).choose_spec.1.lt
theorem Own.grown (h:Own w B E s a n c xs) {row:Option Nat} (hg:w.grownBy w' row) (D3:some (ab a)≠row):Own w' B E s a n c xs:=by
 refine World.ownsRow.kept h hg ?_;cases a with
 |none=>exact .inl rfl
 |some x=>exact .inr D3
theorem gm0 (hb:Below w.heap.size w w'):w.grownBy w' none:=⟨hb.os,hb.tape,hb.output,hb.size,fun k hk _=>hb.block k hk⟩
theorem Own.E0 (h:Own w B E s a n c xs) (hb:Below w.heap.size w w'):Own w' B E s a n c xs:=h.grown (gm0 hb) (by simp)
theorem S0.grown {b:Nat} {cs:Array Value} {T:TypeId} (h:S0 w b cs T) {row:Option Nat} (hg:w.grownBy w' row) (D3:some b≠row):S0 w' b cs T:=(hg.block b h.lt D3).trans h
theorem S0.ne {b b':Nat} {cs S5:Array Value} {T T':TypeId} (h:S0 w b cs T) (h':S0 w b' S5 T') (hT:T≠T'):b≠b':=by
 intro hb;subst hb;unfold S0 at h h';rw[h]at h';exact hT (by cases h';rfl)
end
theorem mq0 (z:Value) (s:Nat) (hs:0<s) (n:Nat):madeCells (Array.replicate s z) n=Array.replicate n z:=by
 apply Array.ext
 ·simp[madeCells]
 ·intro i h1 h2;have:i%s<s:=Nat.mod_lt _ hs;simp[madeCells,this]
section
theorem Dg0 (vs:List Value):∀(k:Nat) (cs:Array Value),cs.size=k+vs.length->(vs.zipIdx k).foldl (fun cs (cj:Value×Nat)=>cs.setIfInBounds (0+cj.2) cj.1) cs=(cs.toList.take k++vs).toArray:=by
 induction vs with
 |nil=>
  intro k cs h;have h':cs.size=k:=by simpa using h
  rw[List.append_nil,List.take_of_length_le (by simp[h'])];simp
 |cons v vs ih=>
  intro k cs h;simp only[List.zipIdx_cons,List.foldl_cons,Nat.zero_add];have:=ih (k+1) (cs.setIfInBounds k v) (by simp[h];omega);simp only[Nat.zero_add]at this;rw[this];congr 1;have hk:k<cs.size:=by simp at h;omega
  rw[Array.toList_setIfInBounds,List.take_succ_eq_append_getElem (by simpa using hk)];simp[List.take_set_of_le]
end
section
end
section
variable {P:Program}{ρ:Operand->Value}{w:World}{d:Option Nat}{ty:TypeId}{ps:String}{af:Array Edge}{g:Option (Nat×Bool)}{y:Operand}{T:TypeId}
theorem V0 {parts:List (Nat×Operand)} {vs:List (Nat×Value)} {cells:Array Value} (hv:parts.map (fun(i,y)=>(i,ρ y))=vs) (hb:P.built T vs=some cells) :
  (execOp ρ ⟨d,.build T parts.toArray,ty,ps,af,g⟩).run P w= .ok (.value (.agg cells)) w:=by
 subst hv;have:=run_build (P:=P) w T (parts.map (fun(i,y)=>(i,ρ y))).toArray cells (by simpa using hb);simp only[execOp,List.map_toArray,Sem.run_bind,this,Result.andThen_ok,Sem.run_pure]
end
def arr (n:Nat) (f:Nat->Value):Array Value:=((List.range n).map f).toArray
theorem cn0 (n:Nat) (f:Nat->Value):(arr n f).size=n:=by simp[arr]
theorem jj0 {n:Nat} {f:Nat->Value} {i:Nat} (h:i<n):(arr n f)[i]? =some (f i):=by simp[arr,h]
theorem Je0 {n:Nat} {f:Nat->Value} {i:Nat} {v:Value}:(arr n f).setIfInBounds i v=arr n (fun x=>if x=i then v else f x):=by
 apply Array.ext_getElem?;intro j;rw[Array.getElem?_setIfInBounds];by_cases hj:j<n
 ·by_cases hij:i=j
  ·subst hij;rw[if_pos rfl,if_pos (by rw[cn0];exact hj),jj0 hj];simp
  ·simp[hij,jj0 hj,Ne.symm hij]
 ·have h1:(arr n f)[j]? =none:=Array.getElem?_eq_none (by rw[cn0];omega);have h2:(arr n (fun x=>if x=i then v else f x))[j]? =none:=Array.getElem?_eq_none (by rw[cn0];omega);rw[h1,h2];by_cases hij:i=j
  ·subst hij;rw[if_pos rfl,if_neg (by rw[cn0];exact hj)]
  ·rw[if_neg hij]
theorem Bb0 {n:Nat} {f g:Nat->Value} (h:∀i,i<n->f i=g i):arr n f=arr n g:=by
 unfold arr;congr 1;exact List.map_congr_left (fun i hi=>h i (List.mem_range.1 hi))
theorem dz0 (w:World) (p:Addr) (v:Value):w.grownBy (w.setCell p v) (some p.block) :=
 ⟨rfl,rfl,rfl,by simp[World.setCell],fun k _ hk=>Below.heap_setCell _ _ _ _ (fun h=>hk (by rw[h]))⟩
theorem wk0 (o:Nat):∀(vs:List Value) (cs:Array Value) (j:Nat),o+vs.length <=cs.size->(setRow cs o vs)[j]? =if o <=j/\j<o+vs.length then vs[j-o]? else cs[j]?:=by
 intro vs
 induction vs generalizing o with
 |nil=>intro cs j h;rw[if_neg (by simp only[List.length_nil];omega)];rfl
 |cons v vs ih=>
  intro cs j h;simp only[List.length_cons]at h;show(setRow (cs.setIfInBounds o v) (o+1) vs)[j]? =_;rw[ih (o+1) _ j (by simp;omega)];by_cases hj:j=o
  ·subst hj;rw[if_neg (by omega),if_pos (by simp only[List.length_cons];omega),Nat.sub_self,Array.getElem?_setIfInBounds_self_of_lt (by omega)];rfl
  ·by_cases hj2:o+1 <=j/\j<o+1+vs.length
   ·rw[if_pos hj2,if_pos (by simp only[List.length_cons];omega),show j-o=(j-(o+1))+1 by omega,List.getElem?_cons_succ]
   ·rw[if_neg hj2,if_neg (by simp only[List.length_cons];omega),Array.getElem?_setIfInBounds_ne (by omega)]
section
end
def Z6 (l:List Oper):Nat->List Nat->List Nat
 |0,S=>S
 |k+1,S=>match l[k]? with
  |some o=>if S.contains k then Z6 l k (S++(o.after.toList.filter (fun x=>Region.binds .any x)).map (·.on)) else Z6 l k S
  |none=>Z6 l k S
theorem G6 {l:List Oper} {V:(Nat->Bool)->Prop} (hV:∀D,V D->∀i o,l[i]? =some o->D i=true->j7 o D) {D:Nat->Bool} (hD:V D) :
  ∀k S,(∀i∈S,D i=true)->∀i∈Z6 l k S,D i=true
 |0,S,hS,i,hi=>hS i hi
 |k+1,S,hS,i,hi=>by
  unfold Z6 at hi;cases ho:l[k]? with
  |none=>rw[ho]at hi;exact G6 hV hD k S hS i hi
  |some o=>
   rw[ho]at hi;simp only at hi;split at hi
   ·rename_i hk;refine G6 hV hD k _ (fun j hj=>?_) i hi;rw[List.mem_append]at hj;rcases hj with hj|hj
    ·exact hS j hj
    ·obtain⟨x,hx,rfl⟩:=List.mem_map.1 hj;rw[List.mem_filter]at hx;exact hV D hD k o ho (hS k (by simpa using hk)) x (by simpa using hx.1) hx.2
   ·exact G6 hV hD k S hS i hi
section
variable {w0 w w':World}
theorem Y9 (w:World) (r:Option Nat):w.grownBy w r:=⟨rfl,rfl,rfl,Nat.le_refl _,fun _ _ _=>rfl⟩
theorem fd0 {r:Option Nat} (hg:w0.grownBy w r) (hb:Below w.heap.size w w'):w0.grownBy w' r :=
 ⟨hb.os.trans hg.os,hb.tape.trans hg.tape,hb.output.trans hg.output,Nat.le_trans hg.size hb.size,fun k hk hr=>(hb.block k (Nat.lt_of_lt_of_le hk hg.size)).trans (hg.block k hk hr)⟩
theorem Oq0 {r:Option Nat} (hg:w0.grownBy w r) {b:Nat} (hb:some b=r\/w0.heap.size <=b) (cs:Array Value) (T:TypeId):w0.grownBy (G5 w b cs T) r :=
 ⟨hg.os,hg.tape,hg.output,by rw[ie0];exact hg.size,fun k hk hr=>by
  rw[sj0 _ _ (by rintro rfl;rcases hb with hb|hb;exact hr hb;omega)];exact hg.block k hk hr⟩
theorem kg0 {r:Option Nat} (hg:w0.grownBy w r) (hb:w.grownBy w' r):w0.grownBy w' r :=
 ⟨hb.os.trans hg.os,hb.tape.trans hg.tape,hb.output.trans hg.output,Nat.le_trans hg.size hb.size,fun k hk hr=>(hb.block k (Nat.lt_of_lt_of_le hk hg.size) hr).trans (hg.block k hk hr)⟩
theorem I4 {B b:Nat} (hg:Below B w0 w) (hs:B <=w.heap.size) (hb:w.grownBy w' (some b)) (hB:B <=b):Below B w0 w' :=
 ⟨hb.os.trans hg.os,hb.tape.trans hg.tape,hb.output.trans hg.output,Nat.le_trans hg.size hb.size,fun k hk=>(hb.block k (by omega) (by simp;omega)).trans (hg.block k hk)⟩
end
section
variable {P:Program}{T:TypeId}{ρ:Operand->Value}{w:World}{d:Option Nat}{ty:TypeId}{ps:String}{af:Array Edge}{g:Option (Nat×Bool)}{x y:Operand}
theorem u1 {p:Addr} (hx:ρ x= .pointer (some p)):(execOp ρ ⟨d,.nilCheck x,ty,ps,af,g⟩).run P w= .ok (.value (.pointer (some p))) w:=by
 simp[execOp,hx]
theorem C2 {E T:TypeId} {b o n s i:Nat} (hx:ρ x= .pointer (some ⟨b,o,none⟩)) (hy:ρ y= .int .i64 (i:Int)) (hT:P.underlying T=some (.array n E)) (hs:(P.info? E).map (·.size)=some s) (h:i<n) :
  (execOp ρ ⟨d,.indexAddr T x y,ty,ps,af,g⟩).run P w= .ok (.value (.pointer (some ⟨b,o+i*s,none⟩))) w :=
 wj0 hx hy hT hs (by omega) (by omega)
theorem H3 {q:Option Addr} {E T':TypeId} (hx:ρ x= .pointer q) (hy:ρ y= .pointer none) (hT:P.underlying T=some (.pointer E)) :
  (execOp ρ ⟨d,.binOp .eql T x y T',ty,ps,af,g⟩).run P w= .ok (.value (.bool q.isNone)) w:=by
 have h1:(Op.equalIn 10000 T (.pointer q) (.pointer none)).run P w= .ok q.isNone w:=by
  rw[show(10000:Nat)=9999+1 from rfl,Op.equalIn];cases q <;> simp[run_underlying hT]
 have h2:(eqGuard .eql T x y (.pointer q) (.pointer none)).run P w= .ok () w:=by cases q <;> simp[eqGuard]
 have h3:(binOp .eql T (.pointer q) (.pointer none)).run P w= .ok (.bool q.isNone) w:=by
  simp only[binOp,Op.equal,Op.maxDepth,Sem.run_bind,h1,Result.andThen_ok,Sem.run_pure]
 simp only[execOp,hx,hy,Sem.run_bind,h2,h3,Result.andThen_ok,Sem.run_pure]
end
theorem wl0 {cs:Array Value} {vs:List Value} (h:cs.size=vs.length):setRow cs 0 vs=vs.toArray:=by
 apply Array.ext_getElem?;intro j;rw[wk0 _ _ _ _ (by omega)];by_cases hj:j<vs.length
 ·rw[if_pos (by omega)];simp
 ·rw[if_neg (by omega),Array.getElem?_eq_none (by omega)];simp;omega
section
end
section
variable {ops:Array Oper}{V:(Nat->Bool)->Prop}{n:Nat}
theorem wm0 (h:Ord n ops):∀{listed:Array Bool} {σ:List Nat},Lin ops listed σ->∀(m:Nat),m <=ops.size->listed.size=ops.size->(∀j,j<m->listed.getD j false=true)->(∀j,m <=j->listed.getD j false=false) ->
  (∀D,V D->∀i,m <=i->i<ops.size->D i=true->∀j,j<i->D j=true)->(∀τ ρ,σ=τ++ρ->V (fun j=>listed.getD j false ||τ.contains j))->σ=List.range' m (ops.size-m):=by
 intro listed σ H6
 induction H6 with
 | @nil listed hr=>
  intro m hms hs h1 h2 _ _;have:ops.size <=m:=by
   rcases Nat.lt_or_ge m ops.size with h3|h3
   ·have:=gl0 h hs hr m h3;rw[h2 m (Nat.le_refl _)]at this;cases this
   ·exact h3
  rw[show ops.size-m=0 by omega];rfl
 | @cons listed i σ hi hl ih=>
  intro m hms hs h1 h2 cj0 hV;obtain⟨hli,o,ho,fb0⟩:=mem_ready.1 hi;have hio:i<ops.size:=(Array.getElem?_eq_some_iff.1 ho).1;have g8:i<listed.size:=by omega
  have hDi:listed.getD i false=false:=by
   simp only[Array.getD_eq_getD_getElem?,g8,Array.getElem?_eq_getElem,Option.getD_some]at hli⊢;exact hli
  have hmi:m <=i:=by
   rcases Nat.lt_or_ge i m with h3|h3
   ·rw[h1 i h3]at hDi;cases hDi
   ·exact h3
  have hVi:=hV [i] σ rfl;have him:i=m:=by
   rcases Nat.lt_or_ge m i with h3|h3
   ·have:=cj0 _ hVi i hmi hio (by simp) m h3;simp only[h2 m (Nat.le_refl _),Bool.false_or]at this;simp at this;omega
   ·omega
  subst him;rw[show ops.size-i=(ops.size-(i+1))+1 by omega,List.range'_succ];congr 1;refine ih (i+1) (by omega) (by simp[hs]) (fun j hj=>?_) (fun j hj=>?_) (fun D hD j hj=>cj0 D hD j (by omega)) (fun τ ρ hσ=>?_)
  ·by_cases o3:i=j
   ·subst o3;simp[g8]
   ·rw[getD_set_ne false o3];exact h1 j (by omega)
  ·rw[getD_set_ne false (by omega)];exact h2 j (by omega)
  ·have:=hV (i::τ) ρ (by rw[hσ];rfl);have e1:(fun j=>listed.getD j false ||(i::τ).contains j)=fun j=>(listed.setIfInBounds i true).getD j false ||τ.contains j:=by
    funext j;by_cases hj:i=j
    ·subst hj;simp[g8]
    ·rw[getD_set_ne false hj];simp[Ne.symm hj]
   rw[e1]at this;exact this
def mv0 (l:List Oper) (k:Nat):Bool:=(List.range l.length).all fun i=>Nat.blt i k ||(List.range i).all fun j=>(Z6 l l.length [i]).contains j
theorem kh0 {l:List Oper} {k:Nat} (h:mv0 l k=true) {V:(Nat->Bool)->Prop} (hV:∀D,V D->∀i o,l[i]? =some o->D i=true->j7 o D) {D:Nat->Bool} (hD:V D):∀i,k <=i->i<l.length->D i=true->∀j,j<i->D j=true:=by
 intro i X8 g8 hDi j hj;unfold mv0 at h;have h1:=List.all_eq_true.1 h i (List.mem_range.2 g8);have h2:Nat.blt i k=false:=by
  cases hb:Nat.blt i k with
  |false=>rfl
  |true=>rw[Nat.blt_eq]at hb;omega
 rw[h2,Bool.false_or]at h1;have h3:=List.all_eq_true.1 h1 j (List.mem_range.2 hj);exact G6 hV hD l.length [i] (fun x hx=>by simp at hx;rw[hx];exact hDi) j (List.contains_iff_mem.1 h3)
end
section
variable {P:Program}{ρ:Operand->Value}{w:World}{d:Option Nat}{ty:TypeId}{ps:String}{af:Array Edge}{g:Option (Nat×Bool)}
variable {x y:Operand}{T T' E:TypeId}
theorem r7 {q:Option Addr} (hx:ρ x= .pointer q) (hy:ρ y= .pointer none) (hT:P.underlying T=some (.pointer E)) :
  (execOp ρ ⟨d,.binOp .neq T x y T',ty,ps,af,g⟩).run P w= .ok (.value (.bool q.isSome)) w:=by
 have h1:(Op.equalIn 10000 T (.pointer q) (.pointer none)).run P w= .ok q.isNone w:=by
  rw[show(10000:Nat)=9999+1 from rfl,Op.equalIn];cases q <;> simp[run_underlying hT]
 have h2:(eqGuard .neq T x y (.pointer q) (.pointer none)).run P w= .ok () w:=by cases q <;> simp[eqGuard]
 simp only[execOp,hx,hy,Sem.run_bind,h2,binOp,Op.equal,Op.maxDepth,h1,Result.andThen_ok,Sem.run_pure];cases q <;> rfl
theorem u7 {v:Value} {b:Bool} {u:TypeDesc} (hx:ρ x=v) (hv:(v= .nilFunc/\b=true)\/(∃f xs ys,v= .func f xs ys/\b=false)) (hy:ρ y= .nilFunc) (hT:P.underlying T=some u) (hu:∃a b c,u= .func a b c) :
  (execOp ρ ⟨d,.binOp .eql T x y T',ty,ps,af,g⟩).run P w= .ok (.value (.bool b)) w:=by
 obtain⟨a1,b1,c1,rfl⟩:=hu;have h1:(Op.equalIn 10000 T v .nilFunc).run P w= .ok b w:=by
  rw[show(10000:Nat)=9999+1 from rfl,Op.equalIn];rcases hv with⟨rfl,rfl⟩|⟨f,xs,ys,rfl,rfl⟩ <;> simp[run_underlying hT]
 have h2:(eqGuard .eql T x y v .nilFunc).run P w= .ok () w:=by
  rcases hv with⟨rfl,rfl⟩|⟨f,xs,ys,rfl,rfl⟩ <;> simp[eqGuard]
 simp only[execOp,hx,hy,Sem.run_bind,h2,binOp,Op.equal,Op.maxDepth,h1,Result.andThen_ok,Sem.run_pure]
theorem E9 {v:Value} {b:Bool} {u:TypeDesc} (hx:ρ x=v) (hv:(v= .nilFunc/\b=false)\/(∃f xs ys,v= .func f xs ys/\b=true)) (hy:ρ y= .nilFunc) (hT:P.underlying T=some u) (hu:∃a b c,u= .func a b c) :
  (execOp ρ ⟨d,.binOp .neq T x y T',ty,ps,af,g⟩).run P w= .ok (.value (.bool b)) w:=by
 obtain⟨a1,b1,c1,rfl⟩:=hu;have h1:(Op.equalIn 10000 T v .nilFunc).run P w= .ok (!b) w:=by
  rw[show(10000:Nat)=9999+1 from rfl,Op.equalIn];rcases hv with⟨rfl,rfl⟩|⟨f,xs,ys,rfl,rfl⟩ <;> simp[run_underlying hT]
 have h2:(eqGuard .neq T x y v .nilFunc).run P w= .ok () w:=by
  rcases hv with⟨rfl,rfl⟩|⟨f,xs,ys,rfl,rfl⟩ <;> simp[eqGuard]
 simp only[execOp,hx,hy,Sem.run_bind,h2,binOp,Op.equal,Op.maxDepth,h1,Result.andThen_ok,Sem.run_pure];cases b <;> rfl
theorem ee0 {src dst t:TypeId} {a:Addr} {v:Value} (hx:ρ x= .pointer (some a)) (hs:P.underlying src=some (.pointer t)) (hd:P.underlying dst=some .unsafePointer) (hz:(P.info? t).map (fun i=>decide (i.size=0))=some false) (hc:w.cell? a=some v) :
  (execOp ρ ⟨d,.convert src dst x,ty,ps,af,g⟩).run P w= .ok (.value (.pointer (some a))) w:=by
 simp only[execOp,hx,Sem.run_bind,run_convert_to_unsafe hs hd hz hc,Result.andThen_ok,Sem.run_pure]
theorem ki0 {f:FuncId} {fn:Func} {aT:Array TypeId} {a:Addr} {p:Option Addr} {u:Value} (hx:ρ x= .pointer (some a)) (hy:ρ y= .pointer p) (hf:P.funcs[f]? =some fn) (O2:(fn.name== "runtime.NumGoroutine")=false) (hb:fn.body.isNone=true) (hn:Extern.findNext fn=none)
  (he:Extern.find fn=some Extern.Atomic.storeT) (hc:w.cell? a=some u) (hz:w.frozen? a=false) (hρ:ρ (.func f)= .func (.func f) #[] #[]) :
  (execOp ρ ⟨d,.call ⟨.value (.func f),#[x,y],aT⟩,ty,ps,af,g⟩).run P w= .ok (.value (.tuple #[])) (w.setCell a (.pointer p)):=by
 have h1:(callFunc f #[.pointer (some a),.pointer p]).run P w= .ok (.value (.tuple #[])) (w.setCell a (.pointer p)):=by
  rw[run_callFunc_extern hf O2 hb hn he];change (Sem.run P (do
   store (<- asAddr (.pointer (some a))) (.pointer p) .atomic
   pure Extern.Atomic.none_) w).andThen _=_
  simp[asAddr,hc,hz,run_store P w a (.pointer p) .atomic rfl,Result.andThen,Extern.Atomic.none_]
 simp[execOp,resolve,hρ,Deferred.ofValue,invoke,hx,hy,h1]
theorem co0 {f:FuncId} {fn:Func} {aT:Array TypeId} {ys:Array Value} (hx:ρ x= .func (.func f) #[] ys) (hf:P.funcs[f]? =some fn) (hb:fn.body.isSome=true) (hn:(fn.name== "runtime.NumGoroutine")=false) :
  (execOp ρ ⟨d,.call ⟨.value x,#[],aT⟩,ty,ps,af,g⟩).run P w= .ok (.enter f ys) w:=by
 rw[am0 hx rfl hf hb hn];simp
end
end Go.Vc
end
section
namespace Go.Vc
open Go Go.RowKit
structure Q7 (w w':World) (B:Nat) (TS:List TypeId):Prop where
 os:w'.os=w.os
 tape:w'.tape=w.tape
 output:w'.output=w.output
 size:w.heap.size <=w'.heap.size
 low:∀k,k<B->w'.heap[k]? =w.heap[k]?
 stay:∀k cs T,S0 w k cs T->TS.contains T=false->S0 w' k cs T
section
variable {w w':World}{B:Nat}{TS:List TypeId}
theorem Q7.put {b:Nat} {cs:Array Value} {T:TypeId} (hB:S0 w b cs T) (hg:w.grownBy w' (some b)) (hb:B <=b) (hT:TS.contains T=true):Q7 w w' B TS :=
 ⟨hg.os,hg.tape,hg.output,hg.size,fun k hk=>by
  rcases Nat.lt_or_ge k w.heap.size with h1|h1
  ·exact hg.block k h1 (by simp;omega)
  ·have:=hB.lt;omega,fun k S5 T' h' hT'=>h'.grown hg (by
  intro hk;simp only[Option.some.injEq]at hk;subst hk;have:T'=T:=by
   unfold S0 at hB h';rw[hB]at h';cases h';rfl
  subst this;rw[hT]at hT';cases hT')⟩
theorem S0.mod {b:Nat} {cs:Array Value} {T:TypeId} (h:S0 w b cs T) (hm:Q7 w w' B TS) (hT:TS.contains T=false):S0 w' b cs T:=hm.stay b cs T h hT
theorem Q7.app {B' s k c n' c':Nat} {E:TypeId} {a a':Option Addr} {xs xs':List Value} (h:Own w B' E s a k c xs) (hg:w.grownBy w' (Value.ownBlock (.slice a k c))) (cp0:Below B w w') (hT:TS.contains E=true) (_h':Own w' B' E s a' n' c' xs'):Q7 w w' B TS:=by
 refine⟨hg.os,hg.tape,hg.output,hg.size,cp0.block,fun j cs T hj hT'=>?_⟩;refine hj.grown hg ?_;cases a with
 |none=>simp[Value.ownBlock]
 |some q=>
  intro hjq;simp only[Value.ownBlock,Option.some.injEq]at hjq;obtain⟨cur,hc,-⟩:=h.row (by simp);subst hjq;have:T=E:=by
   unfold S0 at hj hc;simp only[ab,Option.map_some,Option.getD_some]at hc;rw[hj]at hc;cases hc;rfl
  subst this;rw[hT]at hT';cases hT'
end
theorem S0.A0 {w:World} {b:Nat} {cs:Array Value} {T:TypeId} (h:S0 w b cs T) (o:Nat) {v:Value} (hv:cs[o]? =some v):w.cell? ⟨b,o,none⟩=some v:=h.cell hv
theorem S0.J1 {w:World} {b:Nat} {cs:Array Value} {T:TypeId} (h:S0 w b cs T) {o:Nat} {l:List Value} (hl:(cs.toList.drop o).take l.length=l):∀(j:Nat) (v:Value),l[j]? =some v->w.cell? ⟨b,o+j,none⟩=some v:=by
 intro j v hj;refine h.cell ?_;rw[<- hl]at hj;rw[List.getElem?_take]at hj;split at hj
 ·rw[List.getElem?_drop]at hj;simpa using hj
 ·cases hj
section
end
end Go.Vc
namespace Go.Vc
open Go Go.RowKit
theorem Q7.ef0 {w w':World} {b:Nat} {cs:Array Value} {T:TypeId} (hB:S0 w b cs T) (hg:w.grownBy w' (some b)):Q7 w w' 0 [T]:=Q7.put hB hg (Nat.zero_le _) (by simp)
theorem S0.other {w w':World} {b k:Nat} {cs:Array Value} {T:TypeId} (h:S0 w k cs T) (hg:w.grownBy w' (some b)) (hk:k≠b):S0 w' k cs T:=h.grown hg (by simpa using hk)
theorem dy0.ne {w w1:World} {b k:Nat} {cs S5:Array Value} {T T':TypeId} (F:dy0 w w1 b cs T) (h:S0 w k S5 T'):k≠b:=by have:=h.lt;have:=F.here;omega
end Go.Vc
namespace Go.Vc
open Go Go.RowKit
theorem S3 {P:Program} {ρ:Operand->Value} {w:World} {d:Option Nat} {ty:TypeId} {ps:String} {af:Array Edge} {g:Option (Nat×Bool)} {fn:Fn} {l:List Operand} {vs:List Value} (h:l.map ρ=vs) :
  (execOp ρ ⟨d,.makeFunc fn #[] l.toArray,ty,ps,af,g⟩).run P w= .ok (.value (.func fn #[] vs.toArray)) w:=by
 subst h;have:(execOp ρ ⟨d,.makeFunc fn #[] l.toArray,ty,ps,af,g⟩).run P w= .ok (.value (.func fn (#[].map ρ) (l.toArray.map ρ))) w:=rfl;rw[this];simp
end Go.Vc
namespace Go.Vc
open Go Go.RowKit
section
end
end Go.Vc
end
section
namespace Go.Vc
open Go Go.RowKit
section
end
section
end
section
end
section
end
end Go.Vc
namespace Go.Vc
open Go Go.RowKit
end Go.Vc
namespace Go.Vc
open Go Go.RowKit
theorem Own.H5 {w w':World} {B s n c b:Nat} {E:TypeId} {a:Option Addr} {xs:List Value} (h:Own w B E s a n c xs) (hg:w.grownBy w' (some b)) (D3:a≠none->ab a≠b):Own w' B E s a n c xs:=by
 cases a with
 |none=>exact World.ownsRow.kept h hg (.inl rfl)
 |some q=>exact h.grown hg (by have:=D3 (by simp);simpa using this)
end Go.Vc
end
section
namespace Go.Vc
open Go Go.RowKit
structure Bk (n:Nat) (ops:Array Oper):Prop where
 dst:∀(i:Nat) (o:Oper),ops[i]? =some o->j4 n o.dst=true
 back:∀(i:Nat) (o:Oper),ops[i]? =some o->∀x∈o.after,Region.binds .any x=true->x.on<i
theorem kj0 {n:Nat} {ops:Array Oper} {listed:Array Bool} (h:Bk n ops) (hs:listed.size=ops.size) (hr:Region.ready .any ops listed=[]):∀i,i<ops.size->listed.getD i false=true:=by
 intro i
 induction i using Nat.strongRecOn with
 |_ i ih=>
  intro hi;cases hl:listed.getD i false with
  |true=>rfl
  |false=>
   exfalso;have hi':i<listed.size:=by omega
   have ml0:i∈Region.ready .any ops listed:=by
    refine mem_ready.2 ⟨?_,ops[i],by simp[hi],fun x hx hb=>?_⟩
    ·simp only[Array.getD_eq_getD_getElem?,hi',Array.getElem?_eq_getElem,Option.getD_some]at hl⊢;exact hl
    ·have R2:=h.back i ops[i] (by simp[hi]) x hx hb;exact ih x.on R2 (by omega)
   rw[hr]at ml0;cases ml0
section
end
end Go.Vc
end
section
namespace Go.Vc
open Go
section
variable {P:Program}{ρ:Operand->Value}{w:World}{d:Option Nat}{ty:TypeId}{ps:String}{af:Array Edge}{g:Option (Nat×Bool)}
theorem q8 {S:TypeId} {x:Operand} {v:Value} {td:TypeDesc} (hx:ρ x=v) (hT:P.underlying S=some td) (hn:(match td with| .interface _=>false|_=>true)=true) :
  (execOp ρ ⟨d,.makeInterface S x,ty,ps,af,g⟩).run P w= .ok (.value (.iface S v)) w:=by
 subst hx;simp only[execOp,Instr.makeInterface,Sem.run_bind,run_underlying hT,Result.andThen_ok];cases td <;> first|rfl|cases hn
end
end Go.Vc
end
section
namespace Go.Vc
open Go Go.RowKit
section
end
def zh0 (l0:List Oper) (k:Nat) (ch:Nat->Bool) (os:List Nat) (pr:List (Nat×Nat):=[]):Bool :=
 (List.range k).all (fun i=>os.contains i)&&(os.all fun i=>Nat.blt i k) &&
 (List.range os.length).all fun b=>match os[b]? with
  |none=>false
  |some y=>(match l0[y]? with|none=>false|some o=>o.after.all fun x=>!Region.binds .any x ||(os.take b).contains x.on) &&
   (List.range b).all fun a=>match os[a]? with|none=>false|some x=>x !=y&&(!ch x ||(Z6 l0 l0.length [y]).contains x ||pr.any fun p=>p.1==x&&(p.2==y ||(Z6 l0 l0.length [y]).contains p.2))
structure kk0 (l0:List Oper) (k:Nat) (ch:Nat->Bool) (os:List Nat) (V:(Nat->Bool)->Prop):Prop where
 all:∀i,i<k->i∈os
 lt:∀i∈os,i<k
 Tz0:∀pre y suf,os=pre++y::suf->∃o,l0[y]? =some o/\∀x∈o.after,Region.binds .any x=true->x.on∈pre
 nodup:∀pre y suf,os=pre++y::suf->y∉pre
 wait:∀pre x mid y suf,os=pre++x::mid++y::suf->ch x=true->∀D,V D->D y=true->D x=true
theorem uf0 {l0:List Oper} {k:Nat} {ch:Nat->Bool} {os:List Nat} {pr:List (Nat×Nat)} {V:(Nat->Bool)->Prop} (Z9:∀D,V D->∀i o,l0[i]? =some o->D i=true->j7 o D) (hpr:∀p∈pr,∀D,V D->D p.2=true->D p.1=true) (h:zh0 l0 k ch os pr=true):kk0 l0 k ch os V:=by
 unfold zh0 at h;simp only[Bool.and_eq_true]at h;obtain⟨⟨h1,h2⟩,h3⟩:=h;have key:∀(b y:Nat),os[b]? =some y->(∃o,l0[y]? =some o/\∀x∈o.after,Region.binds .any x=true->x.on∈os.take b)/\∀a x,a<b->os[a]? =some x->x≠y/\(ch x=true->(Z6 l0 l0.length [y]).contains x=true\/∃p∈pr,p.1=x/\(p.2=y\/(Z6 l0 l0.length [y]).contains p.2=true)):=by
  intro b y hy;have h4:=List.all_eq_true.1 h3 b (List.mem_range.2 (List.getElem?_eq_some_iff.1 hy).1);rw[hy]at h4;simp only[Bool.and_eq_true]at h4;obtain⟨h5,h6⟩:=h4;constructor
  ·cases ho:l0[y]? with
   |none=>rw[ho]at h5;cases h5
   |some o=>
    rw[ho]at h5;refine⟨o,rfl,fun x hx hb=>?_⟩;simp only[Array.all_eq_true']at h5;have:=h5 x hx;rw[hb,Bool.not_true,Bool.false_or]at this;exact List.contains_iff_mem.1 this
  ·intro a x hab hx;have h7:=List.all_eq_true.1 h6 a (List.mem_range.2 hab);rw[hx]at h7;simp only[Bool.and_eq_true,bne_iff_ne,ne_eq,Bool.or_eq_true,Bool.not_eq_true']at h7;refine⟨h7.1,fun hc=>?_⟩;rcases h7.2 with(h8|h8)|h8
   ·rw[hc]at h8;cases h8
   ·exact .inl h8
   ·rw[List.any_eq_true]at h8;obtain⟨p,hp,h9⟩:=h8;simp only[Bool.and_eq_true,beq_iff_eq,Bool.or_eq_true]at h9;exact .inr ⟨p,hp,h9.1,h9.2⟩
 refine⟨fun i hi=>List.contains_iff_mem.1 (List.all_eq_true.1 h1 i (List.mem_range.2 hi)),fun i hi=>by have:=List.all_eq_true.1 h2 i hi;rwa [Nat.blt_eq]at this,?_,?_,?_⟩
 ·intro pre y suf he;have hy:os[pre.length]? =some y:=by rw[he];simp
  obtain⟨o,ho,h4⟩:=(key _ _ hy).1;exact⟨o,ho,fun x hx hb=>by have:=h4 x hx hb;rw[he]at this;simpa using this⟩
 ·intro pre y suf he hin;have hy:os[pre.length]? =some y:=by rw[he];simp
  obtain⟨a,ha⟩:=List.mem_iff_getElem?.1 hin;have hal:=(List.getElem?_eq_some_iff.1 ha).1;have hx:os[a]? =some y:=by rw[he,List.getElem?_append_left hal];exact ha
  exact((key _ _ hy).2 a y hal hx).1 rfl
 ·intro pre x mid y suf he hc;have hy:os[(pre++x::mid).length]? =some y:=by rw[he,List.getElem?_append_right (Nat.le_refl _)];simp
  have hx:os[pre.length]? =some x:=by rw[he];simp
  intro D hD hDy;have hbd:∀z,(Z6 l0 l0.length [y]).contains z=true->D z=true:=fun z hz=>G6 Z9 hD l0.length [y] (fun q hq=>by simp at hq;rw[hq];exact hDy) z (List.contains_iff_mem.1 hz);rcases((key _ _ hy).2 pre.length x (by simp) hx).2 hc with h9|⟨p,hp,rfl,h9⟩
  ·exact hbd x h9
  ·refine hpr p hp D hD ?_;rcases h9 with h9|h9
   ·rw[h9];exact hDy
   ·exact hbd _ h9
def zi0 (n:Nat) (ops:Array Oper) (k:Nat):Bool :=
 (List.range ops.size).all fun i=>
  match ops[i]? with
  |none=>false
  |some o=>
   j4 n o.dst&&(o.after.all fun x=>!Region.binds .any x ||Nat.blt x.on i) &&
   (Nat.ble k i ||(!(match o.op with| .select ..=>true|_=>false) &&
   (List.range k).all fun j=>
    match ops[j]? with
    |none=>true
    |some p=>
     match p.dst with
     |none=>true
     |some t=>(i==j ||o.dst !=some t)&&(!(o.looksAt ops).contains t ||o.after.any fun x=>Region.binds .any x&&x.on==j)))
structure sk0 (n:Nat) (ops:Array Oper) (k:Nat):Prop where
 dst:∀(i:Nat) (o:Oper),ops[i]? =some o->j4 n o.dst=true
 sel:∀(i:Nat) (o:Oper),i<k->ops[i]? =some o->∀cs b,o.op≠.select cs b
 back:∀(i:Nat) (o:Oper),ops[i]? =some o->∀x∈o.after,Region.binds .any x=true->x.on<i
 one:∀(i j:Nat) (o p:Oper) (t:Nat),i<k->j<k->ops[i]? =some o->ops[j]? =some p->o.dst=some t->p.dst=some t->i=j
 look:∀(i j:Nat) (o p:Oper) (t:Nat),i<k->j<k->ops[i]? =some o->ops[j]? =some p->p.dst=some t->t∈o.looksAt ops->∃x∈o.after,Region.binds .any x=true/\x.on=j
theorem sk0.bk {n:Nat} {ops:Array Oper} {k:Nat} (h:sk0 n ops k):Bk n ops:=⟨h.dst,h.back⟩
theorem zj0 {n:Nat} {ops:Array Oper} {k:Nat} (h:zi0 n ops k=true):sk0 n ops k:=by
 unfold zi0 at h;have lt:∀{i:Nat} {o:Oper},ops[i]? =some o->i<ops.size:=fun h=>(Array.getElem?_eq_some_iff.1 h).1;have key:∀(i:Nat) (o:Oper),ops[i]? =some o->(j4 n o.dst=true/\(o.after.all fun x=>!Region.binds .any x ||Nat.blt x.on i)=true)/\(i<k->(!(match o.op with| .select ..=>true|_=>false))=true /\
   ∀(j:Nat) (p:Oper) (t:Nat),j<k->ops[j]? =some p->p.dst=some t->(i==j ||o.dst !=some t)=true/\(!(o.looksAt ops).contains t ||o.after.any fun x=>Region.binds .any x&&x.on==j)=true):=by
  intro i o ho;have h1:=List.all_eq_true.1 h i (List.mem_range.2 (lt ho));simp only[ho,Bool.and_eq_true]at h1;refine⟨h1.1,fun hik=>?_⟩;have h2:=h1.2;have h3:Nat.ble k i=false:=by
   cases hb:Nat.ble k i with
   |false=>rfl
   |true=>have:=Nat.le_of_ble_eq_true hb;omega
  rw[h3,Bool.false_or,Bool.and_eq_true]at h2;refine⟨h2.1,fun j p t hj hp ht=>?_⟩;have h4:=List.all_eq_true.1 h2.2 j (List.mem_range.2 hj);simp only[hp,ht,Bool.and_eq_true]at h4;exact h4
 refine⟨fun i o ho=>(key i o ho).1.1,fun i o hi ho cs b he=>?_,fun i o ho x hx hb=>?_,fun i j o p t hi hj ho hp h1 h2=>?_,fun i j o p t hi hj ho hp ht hl=>?_⟩
 ·have:=((key i o ho).2 hi).1;rw[he]at this;cases this
 ·have:=(key i o ho).1.2;rw[Array.all_eq_true']at this;have:=this x hx;simp only[hb,Bool.not_true,Bool.false_or,Nat.blt_eq]at this;exact this
 ·have:=(((key i o ho).2 hi).2 j p t hj hp h2).1;simp only[h1,bne_self_eq_false,Bool.or_false,beq_iff_eq]at this;exact this
 ·have:=(((key i o ho).2 hi).2 j p t hj hp ht).2;have hc:(o.looksAt ops).contains t=true:=by simpa using hl
  rw[hc,Bool.not_true,Bool.false_or]at this;obtain⟨x,hx,hb⟩:=Array.any_eq_true'.1 this;simp only[Bool.and_eq_true,beq_iff_eq]at hb;exact⟨x,hx,hb.1,hb.2⟩
theorem ug0 {n:Nat} {ops:Array Oper} {V:(Nat->Bool)->Prop} (h:Bk n ops):∀{listed:Array Bool} {σ:List Nat},Lin ops listed σ->∀(m:Nat),m <=ops.size->listed.size=ops.size->(∀j,j<m->listed.getD j false=true)->(∀j,m <=j->listed.getD j false=false) ->
  (∀D,V D->∀i,m <=i->i<ops.size->D i=true->∀j,j<i->D j=true)->(∀τ ρ,σ=τ++ρ->V (fun j=>listed.getD j false ||τ.contains j))->σ=List.range' m (ops.size-m):=by
 intro listed σ H6
 induction H6 with
 | @nil listed hr=>
  intro m hms hs h1 h2 _ _;have:ops.size <=m:=by
   rcases Nat.lt_or_ge m ops.size with h3|h3
   ·have:=kj0 h hs hr m h3;rw[h2 m (Nat.le_refl _)]at this;cases this
   ·exact h3
  rw[show ops.size-m=0 by omega];rfl
 | @cons listed i σ hi hl ih=>
  intro m hms hs h1 h2 cj0 hV;obtain⟨hli,o,ho,fb0⟩:=mem_ready.1 hi;have hio:i<ops.size:=(Array.getElem?_eq_some_iff.1 ho).1;have g8:i<listed.size:=by omega
  have hDi:listed.getD i false=false:=by
   simp only[Array.getD_eq_getD_getElem?,g8,Array.getElem?_eq_getElem,Option.getD_some]at hli⊢;exact hli
  have hmi:m <=i:=by
   rcases Nat.lt_or_ge i m with h3|h3
   ·rw[h1 i h3]at hDi;cases hDi
   ·exact h3
  have hVi:=hV [i] σ rfl;have him:i=m:=by
   rcases Nat.lt_or_ge m i with h3|h3
   ·have:=cj0 _ hVi i hmi hio (by simp) m h3;simp only[h2 m (Nat.le_refl _),Bool.false_or]at this;simp at this;omega
   ·omega
  subst him;rw[show ops.size-i=(ops.size-(i+1))+1 by omega,List.range'_succ];congr 1;refine ih (i+1) (by omega) (by simp[hs]) (fun j hj=>?_) (fun j hj=>?_) (fun D hD j hj=>cj0 D hD j (by omega)) (fun τ ρ hσ=>?_)
  ·by_cases o3:i=j
   ·subst o3;simp[g8]
   ·rw[getD_set_ne false o3];exact h1 j (by omega)
  ·rw[getD_set_ne false (by omega)];exact h2 j (by omega)
  ·have:=hV (i::τ) ρ (by rw[hσ];rfl);have e1:(fun j=>listed.getD j false ||(i::τ).contains j)=fun j=>(listed.setIfInBounds i true).getD j false ||τ.contains j:=by
    funext j;by_cases hj:i=j
    ·subst hj;simp[g8]
    ·rw[getD_set_ne false hj];simp[Ne.symm hj]
   rw[e1]at this;exact this
section
end
theorem Rep.ext {n:Nat} {a:Act} {e e':Env} (h:Rep n a e) (h':Rep n a e'):e=e':=funext fun t=>(h.get t).symm.trans (h'.get t)
theorem cq0 {l:List Oper} {σ:List Nat} (H6:Lin l.toArray (Array.replicate l.toArray.size false) σ):∀D,Pre σ D->∀i o,l[i]? =some o->D i=true->j7 o D:=by
 have fe0:=ed0 H6 (fun i o _ hi=>by rw[Y0]at hi;cases hi) (by simp);rintro D ⟨τ,ρ,hσ,hD⟩ i o hi hDi x hx hb;have:=fe0 τ ρ hσ i o (by simpa using hi) (.inr ((hD i).1 hDi)) x hx hb;rcases this with h1|h1
 ·rw[Y0]at h1;cases h1
 ·exact(hD _).2 h1
section
variable {w:World}{B E:Nat}{s:Nat}{a:Option Addr}{n c:Nat}{xs:List Value}
theorem Own.down {B':Nat} (h:Own w B' E s a n c xs) (hB:B <=B'):Own w B E s a n c xs:=by
 refine⟨h.1,?_⟩;rcases h.2 with h2|⟨g,cap,cur,hv,hb,hg⟩
 ·exact .inl h2
 ·exact .inr ⟨g,cap,cur,hv,Nat.le_trans hB hb,hg⟩
end
section
variable {P:Program}{ρ:Operand->Value}{w:World}{d:Option Nat}{ty:TypeId}{ps:String}{af:Array Edge}{g:Option (Nat×Bool)}{x y:Operand}{T T' E:TypeId}
theorem wn0 {a:Option Addr} {n c:Nat} {m:Int} {aT:Array TypeId} (hm:((n:Nat):Int)=m) (hx:ρ x= .slice a n c) (hT:P.underlying T=some (.slice E)) (hA:aT[0]? =some T):(execOp ρ ⟨d,.call ⟨.builtin .len,#[x],aT⟩,ty,ps,af,g⟩).run P w= .ok (.value (.int .i64 m)) w:=by
 rw[<- hm];exact O8 hx hT hA
theorem C8 {m k r:Int} (hr:m+k=r) (h:-9223372036854775808 <=r/\r <=9223372036854775807) (hx:ρ x= .int .i64 m) (hy:ρ y= .int .i64 k):(execOp ρ ⟨d,.binOp .add T x y T',ty,ps,af,g⟩).run P w= .ok (.value (.int .i64 r)) w:=by
 subst hr;exact kd0 hx hy h
end
def noG (Q:Exit->Env->World->Prop):Exit->Env->World->Prop
 | .goto _,_,_=>False
 |x,e,w=>Q x e w
section
variable {Q:Exit->Env->World->Prop}{e:Env}{w:World}
theorem N.nrm (h:Q .normal e w):noG Q .normal e w:=h
theorem N.ret (h:Q .ret e w):noG Q .ret e w:=h
end
end Go.Vc
end
section
namespace Go.Yc
open Go
section
theorem az0 {α:Type} {P:Program} (s:Unsupported):dead P (unsupported s:Sem α):=fun v h=>by cases h
theorem sl0 {P:Program} {α:Type} (a:Addr) (n:Nat) {f:Bool->Sem α} (hf:∀b,dead P (f b)):dead P (Builtin.holdsCells a n >>=f):=by
 show dead P (Sem.bind (Sem.bind (Sem.shape a.block .pure) _) f);intro s;cases s with
 |none=>exact hf _
 |some p=>obtain⟨t,n⟩:=p;exact hf _
theorem bind_assoc' {α β γ:Type} (s:Sem α) (f:α->Sem β) (g:β->Sem γ):(s >>=f) >>=g=s >>=fun a=>f a >>=g:=by
 show(s.bind f).bind g=s.bind fun a=>(f a).bind g
 induction s with
 |pure a=>rfl
 |halt h=>rfl
 |load m a k ih=>exact congrArg (Sem.load m a) (funext fun v=>ih v)
 |store m a v k ih=>exact congrArg (Sem.store m a v) ih
 |new o k ih=>exact congrArg (Sem.new o) (funext fun v=>ih v)
 |shape r k ih=>exact congrArg (Sem.shape r) (funext fun v=>ih v)
 |freeze a n k ih=>exact congrArg (Sem.freeze a n) ih
 |frozen a k ih=>exact congrArg (Sem.frozen a) (funext fun v=>ih v)
 |getObj r k ih=>exact congrArg (Sem.getObj r) (funext fun v=>ih v)
 |setObj r o k ih=>exact congrArg (Sem.setObj r o) ih
 |choose q k ih=>exact congrArg (Sem.choose q) (funext fun v=>ih v)
 |sys c k ih=>exact congrArg (Sem.sys c) (funext fun v=>ih v)
 |program k ih=>exact congrArg Sem.program (funext fun v=>ih v)
 |mark m k ih=>exact congrArg (Sem.mark m) ih
theorem uh0 {P:Program} {α:Type} (a:Addr) {f:Bool->Sem α} (hf:∀b,dead P (f b)):dead P (frozen a >>=f):=fun b=>hf b
theorem Or0 {P:Program} {α:Type} (size wo0 n:Nat) (base:Option Addr) (x:Value) {f:Bool->Sem α} (hf:∀b,dead P (f b)):dead P (Builtin.mayShare size wo0 n base x >>=f):=by
 have h2:∀y:Value,dead P ((match y with| .slice (some b) _ _=>(do pure (!(<- Builtin.holdsCells b (n*size)) ||base.any (·.block==b.block)):Sem Bool)|_=>pure false) >>=f):=by
  intro y;split
  ·rw[bind_assoc'];exact sl0 _ _ fun b=>hf _
  ·exact hf _
 unfold Builtin.mayShare;cases base with
 |none=>exact h2 x
 |some a=>
  simp only[bind_assoc'];refine sl0 _ _ fun b=>?_;refine uh0 _ fun c=>?_;cases b <;> cases c <;> first|exact hf _|exact h2 x
theorem ui0 {P:Program} {α:Type} (size wo0 n:Nat) (base:Option Addr) (x:Value) {f:Bool->Sem α} (hf:∀b,dead P (f b)) (hg:∀b,E1 P (f b)):E1 P (Builtin.mayShare size wo0 n base x >>=f):=by
 have h2:∀y:Value,E1 P ((match y with| .slice (some b) _ _=>(do pure (!(<- Builtin.holdsCells b (n*size)) ||base.any (·.block==b.block)):Sem Bool)|_=>pure false) >>=f):=by
  intro y;split
  ·rw[bind_assoc'];intro s;cases s with
   |none=>exact hf _
   |some p=>obtain⟨t,n⟩:=p;exact hf _
  ·exact hg _
 have h3:∀y:Value,dead P ((match y with| .slice (some b) _ _=>(do pure (!(<- Builtin.holdsCells b (n*size)) ||base.any (·.block==b.block)):Sem Bool)|_=>pure false) >>=f):=by
  intro y;split
  ·rw[bind_assoc'];exact sl0 _ _ fun b=>hf _
  ·exact hf _
 unfold Builtin.mayShare;cases base with
 |none=>exact h2 x
 |some a=>
  simp only[bind_assoc'];intro s;cases s with
  |none=>
   intro d;cases d <;> exact hf true
  |some p=>
   obtain⟨t,m⟩:=p;intro d;show dead P ((if(!((a.spot.isNone&&decide (a.off+wo0*size <=m)) && !d))=true then(pure true:Sem Bool) else _) >>=f);cases(a.spot.isNone&&decide (a.off+wo0*size <=m)) <;> cases d <;> first|exact hf _|exact h3 x
theorem Jf0 {P:Program} {α:Type} (size wo0 n:Nat) (base:Option Addr) (x:Value) (u:Unsupported):E1 P (Builtin.mayShare size wo0 n base x >>=fun b=>(if(!b)=true then(mark .noRoom >>=fun _=>(unsupported u:Sem α)) else(unsupported u:Sem α))):=by
 refine ui0 _ _ _ _ _ (fun b=>?_) (fun b=>?_)
 ·cases b
  ·exact az0 (P:=P) (α:=α) u
  ·exact az0 (P:=P) (α:=α) u
 ·cases b
  ·show(if wa0 Mark.noRoom=true then E1 P ((Sem.pure ()).bind fun _=>(unsupported u:Sem α)) else _);exact trivial
  ·exact trivial
theorem zk0 {P:Program} {α:Type} {c:Prop} [Decidable c] {a b:Sem α} (ha:E1 P a) (hb:E1 P b):E1 P (if c then a else b):=by split <;> assumption
attribute [local irreducible] E1 dead
set_option maxHeartbeats 2000000 in
theorem Dh0 {P:Program} (a:Array TypeId) (t:TypeId) (x:Array Value):E1 P (Builtin.append_ a t x):=by
 unfold Builtin.append_
 repeat' (first|exact S1 _|exact g4 _|exact Jf0 _ _ _ _ _ _|exact fa0 _ _ _|exact zc0 _|exact R8 _ _ _|exact ey0 _ _|exact o8 _|exact z9 _|exact V2 _|exact sd0 _|exact Z4 _|exact os0 _|exact ex0 _|exact z6 _|(refine N1 ?_ (fun _=>?_))|(refine zk0 ?_ ?_)|split)
end
end Go.Yc
end
section
namespace Go.Yc
open Go Go.Vc
section
def Ua0 (o:Oper):Bool:=match o.op with
 | .move _| .assign _| .pick .. | .alloc _| .box .. | .build .. | .buildSlice .. | .load .. | .store .. | .indexAddr .. | .extract .. | .field .. | .makeInterface .. | .makeFunc .. | .makeChan .. | .makeSlice .. | .slice .. | .unOp ..=>true
 | .call c=>match c.callee with
  | .builtin b=>(match b with| .len| .cap| .append| .copy=>true|_=>false)
  |_=>false
 |_=>false
attribute [local irreducible] E1 dead
theorem t_v {P:Program} {s:Sem Value} (h:E1 P s):E1 P (do pure (.value (<- s)):Sem Next):=N1 h fun _=>S1 _
theorem t_u {P:Program} {s:Sem Unit} (h:E1 P s):E1 P (do s;pure .skip:Sem Next):=N1 h fun _=>S1 _
theorem E2 {P:Program} {o:Oper} (h:Ua0 o=true) (ρ:Operand->Value):E1 P (execOp ρ o):=by
 unfold Ua0 at h;unfold execOp;cases ho:o.op <;> rw[ho]at h <;> try(cases h;done)
 case move x=>exact S1 _
 case assign x=>exact S1 _
 case pick c a b=>exact N1 (Db0 _) fun _=>S1 _
 case alloc e=>exact t_v (Iw0 _ _ _)
 case box e x=>exact t_v (Tu0 _ _)
 case build t p=>exact t_v (Ix0 _ _)
 case buildSlice t n p=>exact t_v (se0 _ _ _)
 case load t a=>exact t_v (Dc0 _ _)
 case store t a x=>exact t_u (Av0 _ _ _)
 case indexAddr t x i=>exact t_v (Aw0 _ _ _)
 case extract x i=>exact t_v (Ax0 _ _)
 case field t x f=>exact t_v (Iy0 _ _ _)
 case makeInterface t x=>exact t_v (iv0 _ _)
 case makeFunc f a b=>exact t_v (S1 _)
 case makeChan t x=>exact t_v (wg0 _ _)
 case makeSlice t a b=>exact t_v (tz0 _ _ _)
 case slice t x a b c=>exact t_v (Ay0 _ _ _ _ _)
 case unOp op t x=>exact t_v (Ja0 _ _)
 case call c=>
  obtain⟨callee,args,aT⟩:=c;simp only at h;cases callee with
  |builtin b=>
   simp only at h;cases b <;> try(cases h;done)
   ·exact t_v (Dh0 _ _ _)
   ·exact t_v (Tw0 _ _ _)
   ·exact t_v (Oo0 _ _ _)
   ·exact t_v (Tv0 _ _ _)
  |_=>cases h
end
section
theorem uj0 {P:Program} {α:Type} {f:Program->Sem α} (h:E1 P (f P)):E1 P (program >>=f):=h
theorem Di0 {P:Program} {α:Type} {f:TypeDesc->Sem α} {t:TypeId} {u:TypeDesc} (hT:P.underlying t=some u) (h:E1 P (f u)):E1 P (underlying t >>=f):=by
 show E1 P (((match P.underlying t with|some d=>pure d|none=>stuck "no such type":Sem TypeDesc)).bind f);rw[hT];exact h
theorem Dj0 {P:Program} {α:Type} {f:TypeInfo->Sem α} {t:TypeId} {i:TypeInfo} (hT:P.info? t=some i) (h:E1 P (f i)):E1 P (typeInfo t >>=f):=by
 show E1 P (((match P.info? t with|some d=>pure d|none=>stuck "no such type":Sem TypeInfo)).bind f);rw[hT];exact h
theorem Dk0 {P:Program} {α:Type} {f:Nat->Sem α} {t:TypeId} {s:Nat} (hT:(P.info? t).map (·.size)=some s) (h:E1 P (f s)):E1 P (sizeOf t >>=f):=by
 cases hi:P.info? t with
 |none=>rw[hi]at hT;cases hT
 |some i=>
  rw[hi]at hT;obtain rfl:=Option.some.inj hT;unfold sizeOf;rw[bind_assoc'];exact Dj0 hi h
attribute [local irreducible] E1 dead
section
variable {P:Program}{ρ:Operand->Value}{d:Option Nat}{ty:TypeId}{ps:String}{af:Array Edge}{g:Option (Nat×Bool)}{x y:Operand}{T T':TypeId}{op:BinOp}
theorem ff0 {a b:Value} (hx:ρ x=a) (hy:ρ y=b) (h1:E1 P (eqGuard op T x y a b)) (h2:E1 P (binOp op T a b)):E1 P (execOp ρ ⟨d,.binOp op T x y T',ty,ps,af,g⟩):=by
 show E1 P (do pure (.value (<- (do eqGuard op T x y (ρ x) (ρ y);binOp op T (ρ x) (ρ y)))):Sem Next);rw[hx,hy];exact t_v (N1 h1 fun _=>h2)
theorem fg0 {a b:Value} (hb:∀c,b≠.agg c) (hn:b≠.nilIface):E1 P (eqGuard op T x y a b):=by
 unfold eqGuard;refine zk0 (S1 _) ?_;split
 ·exact absurd rfl hn
 ·exact absurd rfl (hb _)
 ·exact S1 _
theorem Dl0 {κ κ':IntKind} {m k:Int}:E1 P (binOp op T (.int κ m) (.int κ' k)):=by
 cases op <;> simp only[binOp,Op.shift,Op.intArith,Op.intDiv,Op.intBits,Op.intCmp] <;> (repeat' (first|exact S1 _|exact Z4 _|exact sc0 _|exact dv0 _|(refine zk0 ?_ ?_)|split))
theorem V5 {κ κ':IntKind} {m k:Int} (hx:ρ x= .int κ m) (hy:ρ y= .int κ' k):E1 P (execOp ρ ⟨d,.binOp op T x y T',ty,ps,af,g⟩):=ff0 hx hy (fg0 (fun _ h=>by cases h) (fun h=>by cases h)) Dl0
def Os0:Value->Bool
 | .pointer (some _)| .agg _| .iface ..=>false
 |_=>true
theorem dh0 {n:Nat} {a b:Value} (hb:Os0 b=true):E1 P (Op.equalIn (n+1) T a b):=by
 unfold Op.equalIn;refine N1 (V2 _) fun u=>?_;split <;> first
  |exact S1 _|exact sc0 _|exact dv0 _
  |(exact zk0 (S1 _) (sc0 _))
  |(cases hb;done)
  |(unfold samePointer;split <;> first|(cases hb;done)|exact S1 _)
  |skip
theorem Dm0 {a b:Value} (h:E1 P (Op.equal T a b)) (h1:binOp .eql T a b=(do pure (.bool (<- Op.equal T a b)):Sem Value)):E1 P (binOp .eql T a b):=by rw[h1];exact N1 h fun _=>S1 _
theorem zl0 {a b:Value} (h:E1 P (Op.equal T a b)) (h1:binOp .neq T a b=(do pure (.bool (!(<- Op.equal T a b))):Sem Value)):E1 P (binOp .neq T a b):=by rw[h1];exact N1 h fun _=>S1 _
theorem wp0 {q:Option Addr} (hx:ρ x= .pointer q) (hy:ρ y= .pointer none):E1 P (execOp ρ ⟨d,.binOp .eql T x y T',ty,ps,af,g⟩):=ff0 hx hy (fg0 (fun _ h=>by cases h) (fun h=>by cases h)) (Dm0 (dh0 rfl) rfl)
theorem uk0 {q:Option Addr} (hx:ρ x= .pointer q) (hy:ρ y= .pointer none):E1 P (execOp ρ ⟨d,.binOp .neq T x y T',ty,ps,af,g⟩):=ff0 hx hy (fg0 (fun _ h=>by cases h) (fun h=>by cases h)) (zl0 (dh0 rfl) rfl)
theorem Bc0 {v:Value} (hv:v= .nilFunc\/∃f xs ys,v= .func f xs ys) (hx:ρ x=v) (hy:ρ y= .nilFunc):E1 P (execOp ρ ⟨d,.binOp .eql T x y T',ty,ps,af,g⟩) :=
 ff0 hx hy (fg0 (fun _ h=>by cases h) (fun h=>by cases h)) (Dm0 (dh0 rfl) (by rcases hv with rfl|⟨f,xs,ys,rfl⟩ <;> rfl))
theorem wq0 {v:Value} (hv:v= .nilFunc\/∃f xs ys,v= .func f xs ys) (hx:ρ x=v) (hy:ρ y= .nilFunc):E1 P (execOp ρ ⟨d,.binOp .neq T x y T',ty,ps,af,g⟩) :=
 ff0 hx hy (fg0 (fun _ h=>by cases h) (fun h=>by cases h)) (zl0 (dh0 rfl) (by rcases hv with rfl|⟨f,xs,ys,rfl⟩ <;> rfl))
theorem wr0 {p:Option Addr} (hx:ρ x= .pointer p):E1 P (execOp ρ ⟨d,.nilCheck x,ty,ps,af,g⟩):=by
 unfold execOp;simp only[hx];cases p <;> first|exact Z4 _|exact S1 _
theorem ul0 {S:TypeId} {a:Option Addr} {f:Nat} {fs:Array Field} {fl:Field} {s:Nat} (hx:ρ x= .pointer a) (hT:P.underlying S=some (.struct fs)) (hf:fs[f]? =some fl) (hs:(P.info? fl.type).map (·.size)=some s) (h0:s≠0):E1 P (execOp ρ ⟨d,.fieldAddr S x f,ty,ps,af,g⟩):=by
 unfold execOp;simp only[hx];refine t_v ?_;unfold Instr.fieldAt;refine Di0 hT ?_;simp only[hf];refine N1 (A9 _) fun a=>?_;unfold fieldPlace;rw[bind_assoc'];refine Dk0 hs ?_;rw[if_neg h0];exact S1 _
theorem aa0 {f:FuncId} {first cap:Array Value} {fn:Func} {xs:Array Operand} {aT:Array TypeId} (hx:ρ x= .func (.func f) first cap) (hf:P.funcs[f]? =some fn) (hb:fn.body.isSome=true) (hn:(fn.name== "runtime.NumGoroutine")=false):E1 P (execOp ρ ⟨d,.call ⟨.value x,xs,aT⟩,ty,ps,af,g⟩):=by
 show E1 P (do let d <- Deferred.ofValue (ρ x) (xs.map ρ);invoke d.target d.args);rw[hx];show E1 P (callFunc f (first++xs.map ρ++cap));unfold callFunc;refine uj0 ?_;rw[hf];simp only[hn,Bool.false_eq_true,if_false];have:fn.body.isNone=false:=by cases h:fn.body <;> simp_all
 simp only[this,Bool.false_eq_true,if_false];exact S1 _
end
end
end Go.Yc
end
section
namespace Go.Vy
open Go Go.Conc Go.Yc
open Go.Vc (Env upd m3 ev upd_same upd_ne S2 Rep j4 lift N8 B9 Jb0 k3 ic0 v5 Ret hav K1)
def W (P:Program) [Ctx P] (n:Nat) (c:Code) (Q:Exit->Env->World->Prop) (e:Env) (w:World):Prop :=
 ∀a,Rep n a e->cwp P c (lift n Q) a w
section
variable {P:Program}[Ctx P]{n:Nat}{Q Q':Exit->Env->World->Prop}{e:Env}{w:World}
theorem W.mono {c:Code} (hq:∀x e w,Q x e w->Q' x e w) (h:W P n c Q e w):W P n c Q' e w :=
 fun a ha=>wp_mono (h a ha) fun x _ _ ⟨e',r,q⟩=>⟨e',r,hq x _ _ q⟩
theorem W.seq {x y:Code} (h:W P n x (N8 (W P n y Q) Q) e w):W P n (.seq x y) Q e w:=by
 intro a ha;refine wp_seq (wp_mono (h a ha) ?_);rintro ex a' w' ⟨e',r,q⟩;cases ex with
 |normal=>exact q a' r
 |exit id=>exact⟨e',r,q⟩
 |goto l=>exact⟨e',r,q⟩
 |ret=>exact⟨e',r,q⟩
 |panic ch=>exact⟨e',r,q⟩
 |outgrown=>exact⟨e',r,q⟩
theorem W.skip (h:Q .normal e w):W P n .skip Q e w:=fun _ ha=>wp_skip ⟨e,ha,h⟩
theorem W.exit {id:Nat} (h:Q (.exit id) e w):W P n (.exit id) Q e w:=fun _ ha=>wp_exit ⟨e,ha,h⟩
theorem W.ret (h:Q .ret e w):W P n .ret Q e w:=fun _ ha=>wp_ret ⟨e,ha,h⟩
theorem W.cond {c:Operand} {x y:Code} {b:Bool} (hc:ev e c= .bool b) (ht:b=true->W P n x Q e w) (hf:b=false->W P n y Q e w) :
  W P n (.cond c x y) Q e w:=by
 intro a ha;have D6:a.eval c= .bool b:=by rw[ha.eval];exact hc
 cases b
 ·exact wp_cond_false D6 (hf rfl a ha)
 ·exact wp_cond_true D6 (ht rfl a ha)
theorem W.fh0 {c:Operand} {x y:Code} {p:Prop} [Decidable p] (hc:ev e c= .bool (decide p)) (ht:p->W P n x Q e w) (hf:¬p->W P n y Q e w) :
  W P n (.cond c x y) Q e w :=
 W.cond hc (fun h=>ht (of_decide_eq_true h)) (fun h=>hf (of_decide_eq_false h))
theorem W.J4 {c:Operand} {x y:Code} (hc:ev e c= .bool true) (ht:W P n x Q e w):W P n (.cond c x y) Q e w :=
 W.cond hc (fun _=>ht) (fun h=>by cases h)
theorem W.q5 {c:Operand} {x y:Code} (hc:ev e c= .bool false) (hf:W P n y Q e w):W P n (.cond c x y) Q e w :=
 W.cond hc (fun h=>by cases h) (fun _=>hf)
theorem W.block {id:Nat} {c:Code} (h:W P n c (B9 id Q) e w):W P n (.block id c) Q e w:=by
 intro a ha;refine wp_block (wp_mono (h a ha) ?_);rintro ex a' w' ⟨e',r,q⟩;cases ex with
 |normal=>exact⟨e',r,q⟩
 |exit id'=>
  simp only[B9]at q;simp only[Exit.inBlock];split
  ·rename_i h;rw[if_pos h]at q;exact⟨e',r,q⟩
  ·rename_i h;rw[if_neg h]at q;exact⟨e',r,q⟩
 |goto l=>exact⟨e',r,q⟩
 |ret=>exact⟨e',r,q⟩
 |panic ch=>exact⟨e',r,q⟩
 |outgrown=>exact⟨e',r,q⟩
theorem W.loop {c:Code} (I:Nat->Env->World->Prop) (k₀:Nat) (h₀:I k₀ e w)
  (round:∀k e w,I k e w->W P n c (N8 (fun e' w'=>∃k',k'<k/\I k' e' w') Q) e w):W P n (.loop c) Q e w:=by
 intro a ha;refine wp_loop_ghost (fun k a w=>∃e,Rep n a e/\I k e w) k₀ ⟨e,ha,h₀⟩ ?_;rintro k a w ⟨e,ha,hI⟩;refine wp_mono (round k e w hI a ha) ?_;rintro ex a' w' ⟨e',r,q⟩;cases ex with
 |normal=>obtain⟨k',hk,hI'⟩:=q;exact⟨k',hk,e',r,hI'⟩
 |exit id=>exact⟨e',r,q⟩
 |goto l=>exact⟨e',r,q⟩
 |ret=>exact⟨e',r,q⟩
 |panic ch=>exact⟨e',r,q⟩
 |outgrown=>exact⟨e',r,q⟩
def L (P:Program) [Ctx P] (n:Nat) (ops:Array Oper) (Q:Exit->Env->World->Prop) (l:List Oper) (e:Env) (w:World):Prop :=
 (∀o∈l,j4 n o.dst=true)->∀a,Rep n a e->wpList P ops (lift n Q) l a w
theorem W.region {id:Nat} {l:List Oper} (hB:Jb0 n l=true) (h:L P n l.toArray Q l e w):W P n (.region id l.toArray false) Q e w :=
 fun a ha=>wp_region_lit (h (fun o ho=>List.all_eq_true.1 hB o ho) a ha)
variable {ops:Array Oper}{o:Oper}{rest:List Oper}{w':World}{v:Value}
theorem L.nil (h:Q .normal e w):L P n ops Q [] e w:=fun _ _ ha=>(⟨e,ha,h⟩:lift n Q .normal _ _)
def Ub0 (P:Program) [Ctx P] (n:Nat) (ops:Array Oper) (Q:Exit->Env->World->Prop) (rest:List Oper) (o:Oper) (e:Env) (r:Out) (w':World):Prop:=match r with
 | .val v=>L P n ops Q rest (m3 e o.dst v) w'
 | .skip=>L P n ops Q rest (m3 e o.dst undef) w'
 | .enter f args=>Calls P f args w' fun
  | .returned v,w''=>L P n ops Q rest (m3 e o.dst v) w''
  | .panicked chain,w''=>Q (.panic chain) e w''
  | .outgrown,_=>False
 | .panic v=>Q (.panic [{v,recovered:=false}]) e w'
theorem L.op' {K:Out->World->Prop} (hw:Region.wanted o (k3 ops e)=true) (hr:∀τ d,∃r w',za0 P (execOp (ev e) o) (W2 w τ d) r w'/\K r (W2 w' w.tape w.drawn)) (k:∀r w',K r w'->Ub0 P n ops Q rest o e r w'):L P n ops Q (o::rest) e w:=by
 intro hd a ha;have E5:∀o∈rest,j4 n o.dst=true:=fun o' ho'=>hd o' (List.mem_cons_of_mem _ ho');have hdo:=hd o List.mem_cons_self;unfold wpList;rw[v5 ha,if_pos hw];intro τ d;rw[ha.eval];obtain⟨r,w',h1,h2⟩:=hr τ d;refine⟨r,w',h1,?_⟩;have:=k r _ h2;cases r with
 |val v=>exact this E5 _ (ha.put hdo v)
 |skip=>exact this E5 _ (ha.put hdo undef)
 |enter f args=>
  refine Calls.mono this fun x w'' hx=>?_;cases x with
  |returned v=>exact hx E5 _ (ha.put hdo v)
  |panicked ch=>exact⟨e,ha,hx⟩
  |outgrown=>exact hx
 |panic v=>exact⟨e,ha,this⟩
theorem L.Dn0 {r:Out} (hw:Region.wanted o (k3 ops e)=true) (hr:Does P (execOp (ev e) o) w r w') (k:Ub0 P n ops Q rest o e r w'):L P n ops Q (o::rest) e w:=by
 refine L.op' (K:=fun r' w1=>r'=r/\w1=w') hw (fun τ d=>⟨r,W2 w' τ d,hr.go τ d,rfl,?_⟩) ?_
 ·rw[<- hr.tape,<- hr.drawn];rfl
 ·rintro r' w1 ⟨rfl,rfl⟩;exact k
theorem L.ae1 (hw:Region.wanted o (k3 ops e)=true) (hr:Does P (execOp (ev e) o) w (.val v) w') (k:L P n ops Q rest (m3 e o.dst v) w'):L P n ops Q (o::rest) e w:=L.Dn0 hw hr k
theorem L.Uc0 (hw:Region.wanted o (k3 ops e)=true) (hr:Does P (execOp (ev e) o) w .skip w') (k:L P n ops Q rest (m3 e o.dst undef) w'):L P n ops Q (o::rest) e w:=L.Dn0 hw hr k
theorem L.Ot0 (hw:Region.wanted o (k3 ops e)=true) (hr:Does P (execOp (ev e) o) w (.panic v) w') (k:Q (.panic [{v,recovered:=false}]) e w'):L P n ops Q (o::rest) e w:=L.Dn0 hw hr k
theorem L.off (hw:Region.wanted o (k3 ops e)=false) (k:L P n ops Q rest (m3 e o.dst undef) w):L P n ops Q (o::rest) e w:=by
 intro hd a ha;unfold wpList;rw[v5 ha,hw];exact k (fun o' ho'=>hd o' (List.mem_cons_of_mem _ ho')) _ (ha.put (hd o List.mem_cons_self) undef)
def C (P:Program) [Ctx P] (f:FuncId) (args:Array Value) (w:World) (R:Value->World->Prop):Prop:=Calls P f args w (Ret R)
theorem C.mono {f:FuncId} {args:Array Value} {R R':Value->World->Prop} (h:C P f args w R) (hr:∀v w,R v w->R' v w):C P f args w R' :=
 Calls.mono h fun e w' he=>by cases e <;> first|exact hr _ _ he|exact he
theorem L.Ud0 {f:FuncId} {args:Array Value} {R:Value->World->Prop} (hw:Region.wanted o (k3 ops e)=true) (hr:Does P (execOp (ev e) o) w (.enter f args) w')
  (hc:C P f args w' R) (k:∀v w',R v w'->L P n ops Q rest (m3 e o.dst v) w'):L P n ops Q (o::rest) e w :=
 L.Dn0 hw hr (Calls.mono hc fun x w' hx=>by cases x <;> first|exact k _ _ hx|exact hx.elim)
theorem L.T3 {f:FuncId} {args:Array Value} {R:Ending->World->Prop} (hw:Region.wanted o (k3 ops e)=true) (hr:Does P (execOp (ev e) o) w (.enter f args) w')
  (hc:Calls P f args w' R) (k:∀v w',R (.returned v) w'->L P n ops Q rest (m3 e o.dst v) w') (kp:∀ch w',R (.panicked ch) w'->Q (.panic ch) e w') (ko:∀w',¬R .outgrown w'):L P n ops Q (o::rest) e w :=
 L.Dn0 hw hr (Calls.mono hc fun x w' hx=>by cases x <;> first|exact k _ _ hx|exact kp _ _ hx|exact ko _ hx)
end
section
variable {P:Program}[Ctx P]{n:Nat}{Q:Exit->Env->World->Prop}{e:Env}{w w':World}{ops:Array Oper}{rest:List Oper}{v:Value}
variable {d:Nat}{op:Op}{ty:TypeId}{ps:String}{af:Array Edge}
theorem L.va (hr:Does P (execOp (ev e) ⟨some d,op,ty,ps,af,none⟩) w (.val v) w') (k:L P n ops Q rest (upd e d v) w'):L P n ops Q (⟨some d,op,ty,ps,af,none⟩::rest) e w :=
 L.ae1 rfl hr k
theorem L.st (hr:Does P (execOp (ev e) ⟨none,op,ty,ps,af,none⟩) w .skip w') (k:L P n ops Q rest e w'):L P n ops Q (⟨none,op,ty,ps,af,none⟩::rest) e w :=
 L.Uc0 rfl hr k
theorem L.call {f:FuncId} {args:Array Value} {R:Value->World->Prop} (hr:Does P (execOp (ev e) ⟨some d,op,ty,ps,af,none⟩) w (.enter f args) w)
  (hc:C P f args w R) (k:∀v w',R v w'->L P n ops Q rest (upd e d v) w'):L P n ops Q (⟨some d,op,ty,ps,af,none⟩::rest) e w :=
 L.Ud0 rfl hr hc k
variable {dst:Option Nat}{j:Nat}{want:Bool}
theorem L.on (hw:k3 ops e j=some want) (k:L P n ops Q (⟨dst,op,ty,ps,af,none⟩::rest) e w):L P n ops Q (⟨dst,op,ty,ps,af,some (j,want)⟩::rest) e w:=by
 intro hd a ha;have:=k (fun o ho=>by
  rcases List.mem_cons.1 ho with rfl|ho
  ·exact(hd ⟨dst,op,ty,ps,af,some (j,want)⟩ List.mem_cons_self:j4 n dst=true)
  ·exact hd _ (List.mem_cons_of_mem _ ho)) a ha
 unfold wpList at this⊢;rw[v5 ha]at this⊢;have h1:Region.wanted ⟨dst,op,ty,ps,af,some (j,want)⟩ (k3 ops e)=true:=by simp[Region.wanted,hw]
 have h2:Region.wanted ⟨dst,op,ty,ps,af,none⟩ (k3 ops e)=true:=rfl;rw[if_pos h1];rw[if_pos h2]at this;exact this
end
section
variable {P:Program}[Ctx P]{n:Nat}{Q:Exit->Env->World->Prop}{e:Env}{w:World}{ops:Array Oper}
theorem ac0 {Q1 Q2:Exit->Act->World->Prop} (hq:∀x a w,Q1 x a w->Q2 x a w):∀(l:List Oper) (a:Act) (w:World),wpList P ops Q1 l a w->wpList P ops Q2 l a w
 | [],_,_,h=>hq _ _ _ h
 |o::l,a,w,h=>by
  unfold wpList at h⊢;split
  ·rename_i hw;rw[if_pos hw]at h;exact dg0 (fun a w=>ac0 hq l a w) hq h
  ·rename_i hw;rw[if_neg hw]at h;exact ac0 hq l _ _ h
theorem O6 {Q':Exit->Act->World->Prop}:∀(l1 l2:List Oper) (a:Act) (w:World),wpList P ops (Exit.then (wpList P ops Q' l2) Q') l1 a w->wpList P ops Q' (l1++l2) a w
 | [],_,_,_,h=>h
 |o::l1,l2,a,w,h=>by
  show wpList P ops Q' (o::(l1++l2)) a w;unfold wpList at h⊢;split
  ·rename_i hw;rw[if_pos hw]at h;intro τ d;obtain⟨r,w',h1,h2⟩:=h τ d;refine⟨r,w',h1,?_⟩;cases r with
   |val v=>exact O6 l1 l2 _ _ h2
   |skip=>exact O6 l1 l2 _ _ h2
   |enter f args=>exact Calls.mono h2 fun x w'' hx=>by cases x <;> first|exact O6 l1 l2 _ _ hx|exact hx
   |panic v=>exact h2
  ·rename_i hw;rw[if_neg hw]at h;exact O6 l1 l2 _ _ h
theorem L.cut (k:Nat) (R:Env->World->Prop) {l:List Oper} (h1:L P n ops (N8 R Q) (l.take k) e w) (h2:∀e' w',R e' w'->L P n ops Q (l.drop k) e' w'):L P n ops Q l e w:=by
 intro hd a ha;rw[<- List.take_append_drop k l]at hd⊢;refine O6 _ _ _ _ (ac0 ?_ _ _ _ (h1 (fun o ho=>hd o (List.mem_append_left _ ho)) a ha));rintro x a' w' ⟨e',r,q⟩;cases x with
 |normal=>exact h2 e' w' q (fun o ho=>hd o (List.mem_append_right _ ho)) a' r
 |exit id=>exact⟨e',r,q⟩
 |goto l=>exact⟨e',r,q⟩
 |ret=>exact⟨e',r,q⟩
 |panic ch=>exact⟨e',r,q⟩
 |outgrown=>exact⟨e',r,q⟩
theorem L.meet (k:Nat) (G:List Nat) (d:Nat) (v:Value) {l:List Oper} (h1:L P n ops (N8 (fun e' w'=>w'=w/\e' d=v/\K1 G e' e) Q) (l.take k) e w) (h2:∀f,L P n ops Q (l.drop k) (upd (hav G f e) d v) w):L P n ops Q l e w:=by
 refine L.cut k _ h1 ?_;rintro e' w' ⟨rfl,hd,hA⟩;obtain⟨f,hf⟩:=hA.out;rw[S2 hd,hf];exact h2 f
end
end Go.Vy
end
section
namespace Go.Vy
open Go Go.Conc Go.Yc
open Go.Vc
def Do0 (P:Program) [Ctx P] (J:(Nat->Bool)->World->Prop) (i:Nat) (v:Value) (D:Nat->Bool) (S:Sem Next) (w:World):Prop :=
 (∃w',Does P S w (.val v) w'/\J (N6 D i) w')\/(v=undef/\∃w',Does P S w .skip w'/\J (N6 D i) w') \/
 ∃f args w',Does P S w (.enter f args) w'/\C P f args w' (fun r w''=>r=v/\J (N6 D i) w'')
theorem um0 {P:Program} [Ctx P] {J:(Nat->Bool)->World->Prop} {i:Nat} {v:Value} {D:Nat->Bool} {o:Oper} {a:Act} {w:World} {next:Act->World->Prop} {Q:Exit->Act->World->Prop} (h:Do0 P J i v D (execOp a.eval o) w) (hn:∀w',J (N6 D i) w'->next (a.put o.dst v) w'):mi0 P o a w next Q:=by
 rcases h with⟨w',h1,h2⟩|⟨rfl,w',h1,h2⟩|⟨f,args,w',h1,h2⟩
 ·exact P7 h1 (hn w' h2)
 ·exact P7 h1 (hn w' h2)
 ·refine P7 h1 (Calls.mono h2 fun x w'' hx=>?_);cases x with
  |returned u=>obtain⟨rfl,hx⟩:=hx;exact hn w'' hx
  |panicked ch=>exact hx.elim
  |outgrown=>exact hx.elim
def Loc (P:Program) [Ctx P] (ops:Array Oper) (V:(Nat->Bool)->Prop) (J:(Nat->Bool)->World->Prop) (i:Nat) (o:Oper) (e:Env) (v:Value):Prop :=
 (Region.wanted o (k3 ops e)=true/\∀D w,D i=false->(V D/\V (N6 D i))->j7 o D->J D w->Do0 P J i v D (execOp (ev e) o) w) \/
 (Region.wanted o (k3 ops e)=false/\v=undef/\∀D w,D i=false->(V D/\V (N6 D i))->j7 o D->J D w->J (N6 D i) w)
def JL (P:Program) [Ctx P] (ops:Array Oper) (V:(Nat->Bool)->Prop) (J:(Nat->Bool)->World->Prop) (Q:Env->Prop):Nat->List Oper->Env->Prop
 |_,[],e=>Q e
 |i,o::rest,e=>∃v,Loc P ops V J i o e v/\JL P ops V J Q (i+1) rest (m3 e o.dst v)
section
variable {P:Program}[Ctx P]{ops:Array Oper}{V:(Nat->Bool)->Prop}{J:(Nat->Bool)->World->Prop}
theorem JL.collect {Q:Env->Prop}:∀(l:List Oper) (i:Nat) (e:Env),JL P ops V J Q i l e ->
  ∃vals:Nat->Value,(∀k o,l[k]? =some o->Loc P ops V J (i+k) o (EE e l vals k) (vals k))/\Q (EE e l vals l.length)
 | [],_,_,h=>⟨fun _=>undef,fun k o ho=>by simp at ho,h⟩
 |o::l,i,e,⟨v,hl,h⟩=>by
  obtain⟨vals,h1,h2⟩:=JL.collect l (i+1) _ h;refine⟨fun k=>match k with|0=>v|k+1=>vals k,?_,?_⟩
  ·intro k p hp;cases k with
   |zero=>simp at hp;subst hp;exact hl
   |succ k=>
    rw[sg0];have:=h1 k p (by simpa using hp);rw[show i+(k+1)=i+1+k by omega];exact this
  ·rw[List.length_cons,sg0];exact h2
end
section
variable {P:Program}[Ctx P]
end
section
variable {P:Program}{ρ:Operand->Value}{w:World}{d:Option Nat}{ty:TypeId}{ps:String}{af:Array Edge}{g:Option (Nat×Bool)}
variable {x y z:Operand}
theorem ck0:Does P (execOp ρ ⟨d,.move x,ty,ps,af,g⟩) w (.val (ρ x)) w :=
 .A1 (E2 rfl _) rfl rfl fun _τ _d=>Go.Vc.ck0
theorem cl0:Does P (execOp ρ ⟨d,.assign x,ty,ps,af,g⟩) w (.val (ρ x)) w :=
 .A1 (E2 rfl _) rfl rfl fun _τ _d=>Go.Vc.cl0
theorem T5 {κ:IntKind} {m:Int} (h:ρ x= .int κ m):Does P (execOp ρ ⟨d,.move x,ty,ps,af,g⟩) w (.val (.int κ m)) w :=
 .A1 (E2 rfl _) rfl rfl fun _τ _d=>Go.Vc.T5 (h:=h)
theorem fc0 {κ:IntKind} {m:Int} (h:ρ x= .int κ m):Does P (execOp ρ ⟨d,.assign x,ty,ps,af,g⟩) w (.val (.int κ m)) w :=
 .A1 (E2 rfl _) rfl rfl fun _τ _d=>Go.Vc.fc0 (h:=h)
theorem id0 {b:Bool} (h:ρ x= .bool b):Does P (execOp ρ ⟨d,.move x,ty,ps,af,g⟩) w (.val (.bool b)) w :=
 .A1 (E2 rfl _) rfl rfl fun _τ _d=>Go.Vc.id0 (h:=h)
theorem ub0 {b:Bool} (h:ρ x= .bool b):Does P (execOp ρ ⟨d,.assign x,ty,ps,af,g⟩) w (.val (.bool b)) w :=
 .A1 (E2 rfl _) rfl rfl fun _τ _d=>Go.Vc.ub0 (h:=h)
theorem aw0 {a:Option Addr} {n c:Nat} (h:ρ x= .slice a n c):Does P (execOp ρ ⟨d,.move x,ty,ps,af,g⟩) w (.val (.slice a n c)) w :=
 .A1 (E2 rfl _) rfl rfl fun _τ _d=>Go.Vc.aw0 (h:=h)
theorem bw0 {a:Option Addr} {n c:Nat} (h:ρ x= .slice a n c):Does P (execOp ρ ⟨d,.assign x,ty,ps,af,g⟩) w (.val (.slice a n c)) w :=
 .A1 (E2 rfl _) rfl rfl fun _τ _d=>Go.Vc.bw0 (h:=h)
theorem Y2 {p:Option Addr} (h:ρ x= .pointer p):Does P (execOp ρ ⟨d,.move x,ty,ps,af,g⟩) w (.val (.pointer p)) w :=
 .A1 (E2 rfl _) rfl rfl fun _τ _d=>Go.Vc.Y2 (h:=h)
theorem uc0 {p:Option Addr} (h:ρ x= .pointer p):Does P (execOp ρ ⟨d,.assign x,ty,ps,af,g⟩) w (.val (.pointer p)) w :=
 .A1 (E2 rfl _) rfl rfl fun _τ _d=>Go.Vc.uc0 (h:=h)
theorem zd0 {cs:Array Value} (h:ρ x= .tuple cs):Does P (execOp ρ ⟨d,.move x,ty,ps,af,g⟩) w (.val (.tuple cs)) w :=
 .A1 (E2 rfl _) rfl rfl fun _τ _d=>Go.Vc.zd0 (h:=h)
theorem De0 {fn:Fn} {xs ys:Array Value} (h:ρ x= .func fn xs ys):Does P (execOp ρ ⟨d,.move x,ty,ps,af,g⟩) w (.val (.func fn xs ys)) w :=
 .A1 (E2 rfl _) rfl rfl fun _τ _d=>Go.Vc.De0 (h:=h)
theorem X6 (h:ρ z= .bool true):Does P (execOp ρ ⟨d,.pick z x y,ty,ps,af,g⟩) w (.val (ρ x)) w :=
 .A1 (E2 rfl _) rfl rfl fun _τ _d=>Go.Vc.X6 (h:=h)
theorem V8 (h:ρ z= .bool false):Does P (execOp ρ ⟨d,.pick z x y,ty,ps,af,g⟩) w (.val (ρ y)) w :=
 .A1 (E2 rfl _) rfl rfl fun _τ _d=>Go.Vc.V8 (h:=h)
end
section
variable {P:Program}[Ctx P]{ρ:Operand->Value}
variable {x y:Operand}
section
variable {κ:IntKind}{m k:Int}(hx:ρ x= .int κ m)(hy:ρ y= .int κ k)
include hx hy
end
end
section
variable {P:Program}{ρ:Operand->Value}{w:World}{d:Option Nat}{ty:TypeId}{ps:String}{af:Array Edge}{g:Option (Nat×Bool)}
variable {x y:Operand}{T T':TypeId}
variable {κ:IntKind}{m k:Int}(hx:ρ x= .int κ m)(hy:ρ y= .int κ k)
include hx hy
theorem kb0:Does P (execOp ρ ⟨d,.binOp .add T x y T',ty,ps,af,g⟩) w (.val (.int κ (κ.wrap (m+k)))) w :=
 .A1 (V5 hx hy) rfl rfl fun _τ _d=>Go.Vc.kb0 (hx:=hx) (hy:=hy)
theorem ze0:Does P (execOp ρ ⟨d,.binOp .sub T x y T',ty,ps,af,g⟩) w (.val (.int κ (κ.wrap (m-k)))) w :=
 .A1 (V5 hx hy) rfl rfl fun _τ _d=>Go.Vc.ze0 (hx:=hx) (hy:=hy)
theorem ou0 (h0:k≠0):Does P (execOp ρ ⟨d,.binOp .rem T x y T',ty,ps,af,g⟩) w (.val (.int κ (m.tmod k))) w :=
 .A1 (V5 hx hy) rfl rfl fun _τ _d=>Go.Vc.ou0 (hx:=hx) (hy:=hy) (h0:=h0)
theorem cm0:Does P (execOp ρ ⟨d,.binOp .lss T x y T',ty,ps,af,g⟩) w (.val (.bool (decide (m<k)))) w :=
 .A1 (V5 hx hy) rfl rfl fun _τ _d=>Go.Vc.cm0 (hx:=hx) (hy:=hy)
theorem D7:Does P (execOp ρ ⟨d,.binOp .leq T x y T',ty,ps,af,g⟩) w (.val (.bool (decide (m <=k)))) w :=
 .A1 (V5 hx hy) rfl rfl fun _τ _d=>Go.Vc.D7 (hx:=hx) (hy:=hy)
theorem ud0:Does P (execOp ρ ⟨d,.binOp .gtr T x y T',ty,ps,af,g⟩) w (.val (.bool (decide (k<m)))) w :=
 .A1 (V5 hx hy) rfl rfl fun _τ _d=>Go.Vc.ud0 (hx:=hx) (hy:=hy)
theorem Df0:Does P (execOp ρ ⟨d,.binOp .geq T x y T',ty,ps,af,g⟩) w (.val (.bool (decide (k <=m)))) w :=
 .A1 (V5 hx hy) rfl rfl fun _τ _d=>Go.Vc.Df0 (hx:=hx) (hy:=hy)
theorem M4:Does P (execOp ρ ⟨d,.binOp .eql T x y T',ty,ps,af,g⟩) w (.val (.bool (decide (m=k)))) w :=
 .A1 (V5 hx hy) rfl rfl fun _τ _d=>Go.Vc.M4 (hx:=hx) (hy:=hy)
theorem kc0:Does P (execOp ρ ⟨d,.binOp .neq T x y T',ty,ps,af,g⟩) w (.val (.bool (decide (m≠k)))) w :=
 .A1 (V5 hx hy) rfl rfl fun _τ _d=>Go.Vc.kc0 (hx:=hx) (hy:=hy)
end
section
variable {P:Program}[Ctx P]{ρ:Operand->Value}
variable {x y:Operand}
section
variable {κ:IntKind}{m k:Int}(hx:ρ x= .int κ m)(hy:ρ y= .int κ k)
include hx hy
end
end
section
variable {P:Program}{ρ:Operand->Value}{w:World}{d:Option Nat}{ty:TypeId}{ps:String}{af:Array Edge}{g:Option (Nat×Bool)}
variable {x y:Operand}{T T' E S:TypeId}
theorem kd0 {m k:Int} (hx:ρ x= .int .i64 m) (hy:ρ y= .int .i64 k) (h:-9223372036854775808 <=m+k/\m+k <=9223372036854775807):Does P (execOp ρ ⟨d,.binOp .add T x y T',ty,ps,af,g⟩) w (.val (.int .i64 (m+k))) w :=
 .A1 (V5 hx hy) rfl rfl fun _τ _d=>Go.Vc.kd0 (hx:=hx) (hy:=hy) (h:=h)
theorem ke0 {k:Nat} (hx:ρ x= .int .i64 (k:Int)) (hy:ρ y= .int .i64 1) (h:k<9223372036854775807):Does P (execOp ρ ⟨d,.binOp .add T x y T',ty,ps,af,g⟩) w (.val (.int .i64 ((k+1:Nat):Int))) w :=
 .A1 (V5 hx hy) rfl rfl fun _τ _d=>Go.Vc.ke0 (hx:=hx) (hy:=hy) (h:=h)
theorem ov0 {b:Bool} (hx:ρ x= .bool b):Does P (execOp ρ ⟨d,.unOp .not T x,ty,ps,af,g⟩) w (.val (.bool (!b))) w :=
 .A1 (E2 rfl _) rfl rfl fun _τ _d=>Go.Vc.ov0 (hx:=hx)
theorem O8 {a:Option Addr} {n c:Nat} {aT:Array TypeId} (hx:ρ x= .slice a n c) (hT:P.underlying T=some (.slice E)) (hA:aT[0]? =some T) :
  Does P (execOp ρ ⟨d,.call ⟨.builtin .len,#[x],aT⟩,ty,ps,af,g⟩) w (.val (.int .i64 (n:Int))) w :=
 .A1 (E2 rfl _) rfl rfl fun _τ _d=>Go.Vc.O8 (hx:=hx) (hT:=hT) (hA:=hA)
theorem W8 {b o n c s:Nat} {i:Nat} (hx:ρ x= .slice (some ⟨b,o,none⟩) n c) (hy:ρ y= .int .i64 (i:Int)) (hT:P.underlying T=some (.slice E)) (hs:(P.info? E).map (·.size)=some s) (h:i<n) :
  Does P (execOp ρ ⟨d,.indexAddr T x y,ty,ps,af,g⟩) w (.val (.pointer (some ⟨b,o+i*s,none⟩))) w :=
 .A1 (E2 rfl _) rfl rfl fun _τ _d=>Go.Vc.W8 (hx:=hx) (hy:=hy) (hT:=hT) (hs:=hs) (h:=h)
theorem O0 {b o f:Nat} {fs:Array Field} {fl:Field} {s:Nat} (hx:ρ x= .pointer (some ⟨b,o,none⟩)) (hT:P.underlying S=some (.struct fs)) (hf:fs[f]? =some fl) (hs:(P.info? fl.type).map (·.size)=some s) (h0:s≠0) :
  Does P (execOp ρ ⟨d,.fieldAddr S x f,ty,ps,af,g⟩) w (.val (.pointer (some ⟨b,o+fl.offset,none⟩))) w :=
 .A1 (ul0 hx hT hf hs h0) rfl rfl fun _τ _d=>Go.Vc.O0 (hx:=hx) (hT:=hT) (hf:=hf) (hs:=hs) (h0:=h0)
theorem F0 {p:Addr} {u:TypeDesc} {v:Value} (hx:ρ x= .pointer (some p)) (hT:P.underlying T=some u) (hu:C9 u=true) (hc:w.cell? p=some v) :
  Does P (execOp ρ ⟨d,.load T x,ty,ps,af,g⟩) w (.val v) w :=
 .A1 (E2 rfl _) rfl rfl fun _τ _d=>Go.Vc.F0 (hx:=hx) (hT:=hT) (hu:=hu) (hc:=hc)
theorem G0 {b o:Nat} {u:TypeDesc} {cs:List Value} {s:Nat} (hx:ρ x= .pointer (some ⟨b,o,none⟩)) (hT:P.underlying T=some u) (hu:C9 u=false) (hs:(P.info? T).map (·.size)=some s) (hl:cs.length=s)
  (hc:∀j v,cs[j]? =some v->w.cell? ⟨b,o+j,none⟩=some v) :
  Does P (execOp ρ ⟨d,.load T x,ty,ps,af,g⟩) w (.val (.agg cs.toArray)) w :=
 .A1 (E2 rfl _) rfl rfl fun _τ _d=>Go.Vc.G0 (hx:=hx) (hT:=hT) (hu:=hu) (hs:=hs) (hl:=hl) (hc:=hc)
theorem jh0 {p:Addr} {v v0:Value} (hx:ρ x= .pointer (some p)) (hy:ρ y=v) (hs:(P.info? T).map (·.size)=some 1) (h1:v.oneCell'=true) (hc:w.cell? p=some v0) (hf:w.frozen? p=false) :
  Does P (execOp ρ ⟨d,.store T x y,ty,ps,af,g⟩) w .skip (w.setCell p v) :=
 .A1 (E2 rfl _) rfl rfl fun _τ _d=>Go.Vc.jh0 (hx:=hx) (hy:=hy) (hs:=hs) (h1:=h1) (hc:=hc) (hf:=hf)
theorem ax0 {vs:Array Value} {i:Nat} {v:Value} (hx:ρ x= .tuple vs) (hv:vs[i]? =some v):Does P (execOp ρ ⟨d,.extract x i,ty,ps,af,g⟩) w (.val v) w :=
 .A1 (E2 rfl _) rfl rfl fun _τ _d=>Go.Vc.ax0 (hx:=hx) (hv:=hv)
theorem am0 {f:FuncId} {first cap args:Array Value} {fn:Func} {xs:Array Operand} {aT:Array TypeId} (hx:ρ x= .func (.func f) first cap) (ha:xs.map ρ=args) (hf:P.funcs[f]? =some fn) (hb:fn.body.isSome=true) (hn:(fn.name== "runtime.NumGoroutine")=false) :
  Does P (execOp ρ ⟨d,.call ⟨.value x,xs,aT⟩,ty,ps,af,g⟩) w (.enter f (first++args++cap)) w :=
 .A1 (aa0 hx hf hb hn) rfl rfl fun _τ _d=>Go.Vc.am0 (hx:=hx) (ha:=ha) (hf:=hf) (hb:=hb) (hn:=hn)
theorem bq0 {f:FuncId} {fn:Func} {aT:Array TypeId} (hf:P.funcs[f]? =some fn) (hb:fn.body.isSome=true) (hn:(fn.name== "runtime.NumGoroutine")=false) (hx:ρ (.func f)= .func (.func f) #[] #[]) :
  Does P (execOp ρ ⟨d,.call ⟨.value (.func f),#[],aT⟩,ty,ps,af,g⟩) w (.enter f #[]) w :=
 .A1 (aa0 hx hf hb hn) rfl rfl fun _τ _d=>Go.Vc.bq0 (hf:=hf) (hb:=hb) (hn:=hn) (hx:=hx)
theorem M0 {f:FuncId} {fn:Func} {aT:Array TypeId} {x0:Operand} {v0:Value} (h0:ρ x0=v0) (hf:P.funcs[f]? =some fn) (hb:fn.body.isSome=true) (hn:(fn.name== "runtime.NumGoroutine")=false) (hx:ρ (.func f)= .func (.func f) #[] #[]) :
  Does P (execOp ρ ⟨d,.call ⟨.value (.func f),#[x0],aT⟩,ty,ps,af,g⟩) w (.enter f #[v0]) w :=
 .A1 (aa0 hx hf hb hn) rfl rfl fun _τ _d=>Go.Vc.M0 (h0:=h0) (hf:=hf) (hb:=hb) (hn:=hn) (hx:=hx)
theorem l3 {f:FuncId} {fn:Func} {aT:Array TypeId} {x0 x1:Operand} {v0 v1:Value} (h0:ρ x0=v0) (h1:ρ x1=v1) (hf:P.funcs[f]? =some fn) (hb:fn.body.isSome=true) (hn:(fn.name== "runtime.NumGoroutine")=false) (hx:ρ (.func f)= .func (.func f) #[] #[]) :
  Does P (execOp ρ ⟨d,.call ⟨.value (.func f),#[x0,x1],aT⟩,ty,ps,af,g⟩) w (.enter f #[v0,v1]) w :=
 .A1 (aa0 hx hf hb hn) rfl rfl fun _τ _d=>Go.Vc.l3 (h0:=h0) (h1:=h1) (hf:=hf) (hb:=hb) (hn:=hn) (hx:=hx)
theorem L3 {f:FuncId} {fn:Func} {aT:Array TypeId} {x0 x1 x2:Operand} {v0 v1 v2:Value} (h0:ρ x0=v0) (h1:ρ x1=v1) (h2:ρ x2=v2) (hf:P.funcs[f]? =some fn) (hb:fn.body.isSome=true) (hn:(fn.name== "runtime.NumGoroutine")=false) (hx:ρ (.func f)= .func (.func f) #[] #[]) :
  Does P (execOp ρ ⟨d,.call ⟨.value (.func f),#[x0,x1,x2],aT⟩,ty,ps,af,g⟩) w (.enter f #[v0,v1,v2]) w :=
 .A1 (aa0 hx hf hb hn) rfl rfl fun _τ _d=>Go.Vc.L3 (h0:=h0) (h1:=h1) (h2:=h2) (hf:=hf) (hb:=hb) (hn:=hn) (hx:=hx)
theorem Y6 {f:FuncId} {fn:Func} {aT:Array TypeId} {x0 x1 x2 x3:Operand} {v0 v1 v2 v3:Value} (h0:ρ x0=v0) (h1:ρ x1=v1) (h2:ρ x2=v2) (h3:ρ x3=v3) (hf:P.funcs[f]? =some fn) (hb:fn.body.isSome=true) (hn:(fn.name== "runtime.NumGoroutine")=false) (hx:ρ (.func f)= .func (.func f) #[] #[]) :
  Does P (execOp ρ ⟨d,.call ⟨.value (.func f),#[x0,x1,x2,x3],aT⟩,ty,ps,af,g⟩) w (.enter f #[v0,v1,v2,v3]) w :=
 .A1 (aa0 hx hf hb hn) rfl rfl fun _τ _d=>Go.Vc.Y6 (h0:=h0) (h1:=h1) (h2:=h2) (h3:=h3) (hf:=hf) (hb:=hb) (hn:=hn) (hx:=hx)
theorem l6 {f:FuncId} {fn:Func} {aT:Array TypeId} {x0 x1 x2 x3 x4:Operand} {v0 v1 v2 v3 v4:Value} (h0:ρ x0=v0) (h1:ρ x1=v1) (h2:ρ x2=v2) (h3:ρ x3=v3) (h4:ρ x4=v4) (hf:P.funcs[f]? =some fn) (hb:fn.body.isSome=true) (hn:(fn.name== "runtime.NumGoroutine")=false) (hx:ρ (.func f)= .func (.func f) #[] #[]) :
  Does P (execOp ρ ⟨d,.call ⟨.value (.func f),#[x0,x1,x2,x3,x4],aT⟩,ty,ps,af,g⟩) w (.enter f #[v0,v1,v2,v3,v4]) w :=
 .A1 (aa0 hx hf hb hn) rfl rfl fun _τ _d=>Go.Vc.l6 (h0:=h0) (h1:=h1) (h2:=h2) (h3:=h3) (h4:=h4) (hf:=hf) (hb:=hb) (hn:=hn) (hx:=hx)
theorem zf0 {v:Value} (hx:ρ x=v):Does P (execOp ρ ⟨d,.box T x,ty,ps,af,g⟩) w (.val (.pointer (some ⟨w.heap.size,0,none⟩))) (w.alloc (.cells v.cells T)) :=
 .A1 (E2 rfl _) rfl rfl fun _τ _d=>Go.Vc.zf0 (hx:=hx)
theorem ji0 {v:Value} (hz:(P.info? T).bind (·.zero)=some v):Does P (execOp ρ ⟨d,.alloc T,ty,ps,af,g⟩) w (.val (.pointer (some ⟨w.heap.size,0,none⟩))) (w.alloc (.cells v.cells T)) :=
 .A1 (E2 rfl _) rfl rfl fun _τ _d=>Go.Vc.ji0 (hz:=hz)
end
section
variable {P:Program}[Ctx P]
end
def QL (P:Program) [Ctx P] (ops:Array Oper) (Cl:World->Prop) (Q:Env->Prop) (i:Nat) (l:List Oper) (e:Env):Prop:=∀V:(Nat->Bool)->Prop,JL P ops V (fun _=>Cl) Q i l e
section
variable {P:Program}[Ctx P]{ops:Array Oper}{Cl:World->Prop}{Q:Env->Prop}{i:Nat}{e:Env}{rest:List Oper}{v:Value}
variable {d:Nat}{op:Op}{ty:TypeId}{ps:String}{af:Array Edge}
theorem D.nil (h:Q e):QL P ops Cl Q i [] e:=fun _=>h
theorem D.va (hr:∀w,Cl w->Does P (execOp (ev e) ⟨some d,op,ty,ps,af,none⟩) w (.val v) w) (k:QL P ops Cl Q (i+1) rest (upd e d v)):QL P ops Cl Q i (⟨some d,op,ty,ps,af,none⟩::rest) e :=
 fun V=>⟨v,.inl ⟨rfl,fun _ w _ _ _ hw=>.inl ⟨w,hr w hw,hw⟩⟩,k V⟩
end
section
variable {P:Program}[Ctx P]
end
def ends (P:Program) (fn:Func) (R:Value->World->Prop):Exit->Env->World->Prop:=fun x e w=>
 (x= .normal\/x= .ret)/\∃v,(∀tmps:Array Value,(∀t,tmps.getD t undef=e t)->X9 P fn tmps w v)/\R v w
theorem I6 {P:Program} {fn:Func} {tmps:Array Value} {w:World} {v:Value} (h1:∀w,(results fn tmps).run P w= .ok v w) (h2:∀w,(results fn tmps).events P w #[]=#[]):X9 P fn tmps w v :=
 fun τ d ρ x hx=>⟨x,#[],by rw[Sem.runT_eq,h1,h2],hx,fun e he=>by simp at he⟩
theorem wpOps_eq_wpList {P:Program} [Ctx P] {ops:Array Oper} {Q:Exit->Act->World->Prop} (l:List Oper):∀k,(∀j,l[j]? =ops[k+j]?)->wpOps P ops Q (List.range' k l.length)=wpList P ops Q l:=by
 induction l with
 |nil=>intro k _;funext a w;simp[wpOps,wpList]
 |cons o l ih=>
  intro k h;have h0:ops[k]? =some o:=by simpa using(h 0).symm
  have ih':=ih (k+1) (fun j=>by have:=h (j+1);simpa [Nat.add_assoc,Nat.add_comm 1 j]using this);funext a w;simp only[List.length_cons,List.range'_succ,wpOps,h0,wpList,ih']
theorem Ue0 {v:Value} {p q:Prop} (hv:(v= .nilFunc/\p)\/(∃f xs ys,v= .func f xs ys/\q)):v= .nilFunc\/∃f xs ys,v= .func f xs ys:=hv.imp (fun h=>h.1) fun⟨f,xs,ys,h,_⟩=>⟨f,xs,ys,h⟩
theorem fi0 {P:Program} {fn:Func} {tmps:Array Value} {w:World} {v:Value} (ht:E1 P (results fn tmps)) (h1:∀τ d,(results fn tmps).run P (W2 w τ d)= .ok v (W2 w τ d)):X9 P fn tmps w v:=by
 intro τ d ρ x hs;have h1':((results fn tmps).runT P (W2 w τ d) #[]).1= .ok v (W2 w τ d):=by rw[Sem.runT_eq];exact h1 τ d
 have hf:Yc.to0 ((results fn tmps).runT P (W2 w τ d) #[]).1:=by rw[h1'];trivial
 obtain⟨⟨x',h2,h3⟩,h4,h5⟩:=w6 ht hs hf;rw[h1']at h2 h3;refine⟨x',_,h2,h3,fun e he=>(h5 e he).resolve_left (by simp)⟩
theorem fj0 {P:Program} {fn:Func} {tmps:Array Value}:E1 P (results fn tmps):=by
 unfold results;refine N1 (k2 (fun r=>?_) _) fun vs=>S1 _;cases r with
 |tmp t=>exact S1 _
 |cell a t=>exact N1 (ez0 _) fun a=>ot0 _ _
theorem C.enter {P:Program} [Ctx P] {f:FuncId} {fn:Func} {c:Code} {args:Array Value} {w:World} {R:Value->World->Prop} {n:Nat} (hf:P.funcs[f]? =some fn) (hb:fn.body=some c) (hn:args.size+(fn.ntmps-args.size)=n)
  (h:W P n c (ends P fn R) (k7 args) w):C P f args w R:=by
 refine calls_of_wp hf hb (wp_mono (h _ ⟨?_,rfl,?_⟩) ?_)
 ·simp[hn]
 ·intro t;simp only[k7,Array.getD_eq_getD_getElem?,Array.getElem?_append];split
  ·rfl
  ·rename_i ht;rw[Array.getElem?_eq_none (by omega:args.size <=t)];simp only[Array.getElem?_replicate];split <;> rfl
 ·rintro x a w' ⟨e',r,hx,v,hv,hR⟩;have:=hv a.tmps r.get;rcases hx with rfl|rfl
  ·exact⟨r.defers,v,this,hR⟩
  ·exact⟨r.defers,v,this,hR⟩
theorem ends.one {P:Program} {fn:Func} {R:Value->World->Prop} {x:Exit} {e:Env} {w:World} {t:Nat} (hx:x= .normal\/x= .ret) (hr:fn.results=#[.tmp t]) (h:R (e t) w):ends P fn R x e w :=
 ⟨hx,_,fun tmps ht=>I6 (fun w=>by rw[results_tmp hr,ht]) (fun w=>events_results_tmp hr _ _),h⟩
theorem ends.none {P:Program} {fn:Func} {R:Value->World->Prop} {x:Exit} {e:Env} {w:World} (hx:x= .normal\/x= .ret) (hr:fn.results=#[]) (h:R (.tuple #[]) w):ends P fn R x e w :=
 ⟨hx,_,fun tmps _=>I6 (fun w=>results_none hr tmps P w) (fun _w=>events_results_none hr _ _),h⟩
end Go.Vy
end
section
namespace Go.Vy
open Go Go.Yc Go.RowKit
open Go.Vc
section
variable {P:Program}[Ctx P]{n:Nat}{Q:Exit->Env->World->Prop}{e:Env}{w:World}{ops:Array Oper}{rest:List Oper}
variable {d:Nat}{ty:TypeId}{ps:String}{af:Array Edge}{T:TypeId}{x y:Operand}
theorem L.box {v:Value} {cs:Array Value} (hx:ev e x=v) (hcs:v.cells=cs) (k:∀w1 b,dy0 w w1 b cs T->L P n ops Q rest (upd e d (.pointer (some ⟨b,0,none⟩))) w1) :
  L P n ops Q (⟨some d,.box T x,ty,ps,af,none⟩::rest) e w:=by
 subst hcs;exact L.va (zf0 hx) (k _ _ (p8 w _ T))
theorem L.alloc {v:Value} {cs:Array Value} (hz:(P.info? T).bind (·.zero)=some v) (hcs:v.cells=cs) (k:∀w1 b,dy0 w w1 b cs T->L P n ops Q rest (upd e d (.pointer (some ⟨b,0,none⟩))) w1) :
  L P n ops Q (⟨some d,.alloc T,ty,ps,af,none⟩::rest) e w:=by
 subst hcs;exact L.va (ji0 hz) (k _ _ (p8 w _ T))
theorem L.Dp0 {b o s:Nat} {cs vs:Array Value} {E:TypeId} {v:Value} (hx:ev e x= .pointer (some ⟨b,o,none⟩)) (hy:ev e y=v) (hvs:v.cells=vs) (hs:(P.info? T).map (·.size)=some s) (hl:vs.size=s) (h1:∀v∈vs.toList,v.oneCell'=true) (hB:S0 w b cs E) (ho:o+s <=cs.size)
  (k:L P n ops Q rest e (G5 w b (setRow cs o vs.toList) E)):L P n ops Q (⟨none,.store T x y,ty,ps,af,none⟩::rest) e w:=by
 refine L.st (w':=G5 w b (setRow cs o vs.toList) E) (.A1 (E2 rfl _) rfl rfl fun τ d=>?_) k;have:=D9 (P:=P) b E vs.toList o 0 cs (W2 w τ d) hB (by simp;omega) h1;show _=Result.ok Next.skip (G5 (W2 w τ d) b (setRow cs o vs.toList) E);simp[execOp,Instr.storeAt,hx,hy,Instr.sureAddr,storeVar,Go.Vc.run_sizeOf hs,hvs,hl,this]
end
section
variable {P:Program}[Ctx P]{n:Nat}{Q:Exit->Env->World->Prop}{e:Env}{w:World}{ops:Array Oper}
theorem L.pg0 (k:Nat) (G:List Nat) (d:Nat) (v:Value) {tj:Nat} {b:Bool} {l:List Oper} (hb:e tj= .bool b)
  (ht:b=true->L P n ops (N8 (fun e' w'=>w'=w/\e' d=v/\K1 G e' e) Q) (l.take k) (upd e tj (.bool true)) w)
  (hf:b=false->L P n ops (N8 (fun e' w'=>w'=w/\e' d=v/\K1 G e' e) Q) (l.take k) (upd e tj (.bool false)) w)
  (h2:∀f,L P n ops Q (l.drop k) (upd (hav G f e) d v) w):L P n ops Q l e w:=by
 refine L.meet k G d v ?_ h2;cases b
 ·have:=hf rfl;rw[<- S2 hb]at this;exact this
 ·have:=ht rfl;rw[<- S2 hb]at this;exact this
end
section
variable {P:Program}[Ctx P]
end
section
variable {P:Program}{ρ:Operand->Value}{w:World}{d:Option Nat}{ty:TypeId}{ps:String}{af:Array Edge}{g:Option (Nat×Bool)}{x y:Operand}{T E:TypeId}
theorem ay0 {a:Option Addr} {n c s:Nat} {i:Nat} (hx:ρ x= .slice a n c) (hy:ρ y= .int .i64 (i:Int)) (hT:P.underlying T=some (.slice E)) (hs:(P.info? E).map (·.size)=some s) (hS:SL a n) (h:i<n) :
  Does P (execOp ρ ⟨d,.indexAddr T x y,ty,ps,af,g⟩) w (.val (.pointer (some ⟨ab a,ao a+i*s,none⟩))) w :=
 .A1 (E2 rfl _) rfl rfl fun _τ _d=>Go.Vc.ay0 (hx:=hx) (hy:=hy) (hT:=hT) (hs:=hs) (hS:=hS) (h:=h)
end
section
variable {P:Program}[Ctx P]
end
section
end
section
end
section
variable {P:Program}[Ctx P]{n:Nat}{Q:Exit->Env->World->Prop}{e:Env}{w:World}{ops:Array Oper}{rest:List Oper}
variable {d:Nat}{ty:TypeId}{ps:String}{af:Array Edge}{T E:TypeId}{x y:Operand}
theorem L.may {P:Program} [Ctx P] {n:Nat} {Q:Exit->Env->World->Prop} {e:Env} {w:World} {ops:Array Oper} {rest:List Oper} {d:Nat} {op:Op} {ty:TypeId} {ps:String} {af:Array Edge} {R:Value->World->Prop} (ht:E1 P (execOp (ev e) ⟨some d,op,ty,ps,af,none⟩))
  (hr:∀τ d',∃v w',(execOp (ev e) ⟨some d,op,ty,ps,af,none⟩).run P (W2 w τ d')= .ok (.value v) w'/\R v (W2 w' w.tape w.drawn)) (k:∀v w',R v w'->L P n ops Q rest (upd e d v) w'):L P n ops Q (⟨some d,op,ty,ps,af,none⟩::rest) e w:=by
 refine L.op' (K:=fun r w'=>∃v,r= .val v/\R v w') rfl (fun τ d'=>?_) ?_
 ·obtain⟨v,w',h1,h2⟩:=hr τ d';exact⟨.val v,w',du0 ht h1,v,rfl,h2⟩
 ·rintro r w' ⟨v,rfl,h⟩;exact k v w' h
theorem pi0 {w w':World} {τ:Tape} {d:Nat} {x:Option Nat} (h:(W2 w τ d).grownBy w' x):w.grownBy (W2 w' w.tape w.drawn) x:=⟨h.os,rfl,h.output,h.size,h.block⟩
theorem pj0 {B:Nat} {w w':World} {τ:Tape} {d:Nat} (h:Below B (W2 w τ d) w'):Below B w (W2 w' w.tape w.drawn):=⟨h.os,rfl,h.output,h.size,h.block⟩
theorem L.make {m s bytes:Nat} {zv z0:Value} (hx:ev e x= .int .i64 (m:Int)) (hy:ev e y= .int .i64 (m:Int)) (hT:P.underlying T=some (.slice E)) (hi:(P.info? E).map (fun i=>(i.zero,i.size,i.bytes))=some (some zv,s,bytes)) (hz:zv.cells=Array.replicate s z0) (hs:0<s)
  (hm:m <=9223372036854775807) (hb:m*bytes <=281474976710656) (k:∀w1 b,dy0 w w1 b (Array.replicate (m*s) z0) E->L P n ops Q rest (upd e d (.slice (some ⟨b,0,none⟩) m m)) w1) :
  L P n ops Q (⟨some d,.makeSlice T x y,ty,ps,af,none⟩::rest) e w:=by
 refine L.va (w':=w.alloc (.cells (Array.replicate (m*s) z0) E)) (.A1 (E2 rfl _) rfl rfl fun τ d'=>?_) (k _ _ (p8 w _ E));show(execOp (ev e) ⟨some d,.makeSlice T x y,ty,ps,af,none⟩).run P (W2 w τ d')= .ok (.value (.slice (some ⟨(W2 w τ d').heap.size,0,none⟩) m m)) ((W2 w τ d').alloc (.cells (Array.replicate (m*s) z0) E));generalize W2 w τ d'=w;obtain⟨i,hi'⟩:∃i,P.info? E=some i:=by cases hh:P.info? E with|none=>rw[hh]at hi;cases hi|some i=>exact⟨i,rfl⟩
 rw[hi']at hi;simp only[Option.map_some,Option.some.injEq,Prod.mk.injEq]at hi;obtain⟨h1,rfl,rfl⟩:=hi;have hr:=run_make (P:=P) w T E i zv hT hi' h1 .i64 .i64 (m:Int) (m:Int) (by omega) (Int.le_refl _) (by
  have:((m*i.bytes:Nat):Int) <=281474976710656:=by omega
  rw[Int.natCast_mul,Int.mul_comm]at this;exact this) (by omega)
 rw[hz,mq0 _ _ hs]at hr;simp only[Int.toNat_natCast]at hr;simp only[execOp,hx,hy,Sem.run_bind,hr,Result.andThen_ok,Sem.run_pure]
theorem L.kl0 {s:Nat} {v:Value} {cs:Array Value} (hx:ev e x=v) (hcs:v.cells=cs) (hT:P.underlying T=some (.slice E)) (hs:(P.info? E).map (·.size)=some s) (hl:cs.size=s) (hz:∃zv,(P.info? E).bind (·.zero)=some zv) (R2:0<s/\s <=16777216)
  (k:∀w1 b,dy0 w w1 b cs E->L P n ops Q rest (upd e d (.slice (some ⟨b,0,none⟩) 1 1)) w1) :
  L P n ops Q (⟨some d,.buildSlice T 1 #[(0,x)],ty,ps,af,none⟩::rest) e w:=by
 refine L.va (w':=w.alloc (.cells cs E)) (.A1 (E2 rfl _) rfl rfl fun τ d'=>?_) (k _ _ (p8 w _ E));show(execOp (ev e) ⟨some d,.buildSlice T 1 #[(0,x)],ty,ps,af,none⟩).run P (W2 w τ d')= .ok (.value (.slice (some ⟨(W2 w τ d').heap.size,0,none⟩) 1 1)) ((W2 w τ d').alloc (.cells cs E));generalize W2 w τ d'=w;obtain⟨zv,hz⟩:=hz;have af1:¬(1*s>2 ^ 24):=by omega
 have n2:v.cells.size=s:=by rw[hcs,hl]
 have hf:=fun cs0:Array Value=>fun h:cs0.size=s=>Dg0 v.cells.toList 0 cs0 (by simp[h,n2]);simp only[execOp,Instr.buildSlice,List.map_toArray,List.map_cons,List.map_nil,hx,Go.Vc.run_underlying hT,Go.Vc.run_sizeOf hs,Sem.run_bind,Result.andThen_ok,af1,if_false,Sem.run_pure];have h0:¬1*s=0:=by omega
 ·simp only[h0,if_false,Sem.run_bind,Go.Vc.al0 hz,Result.andThen_ok,Sem.run_pure,Instr.fill,Nat.zero_mul,n2,ne_eq,not_true_eq_false,decide_false,Bool.false_or];have h3:=hf ((Array.range (1*s)).map (fun i=>zv.cells[i%zv.cells.size]!)) (by simp);simp only[List.take_zero,List.nil_append]at h3;have h4:¬(0+s>(Array.map (fun x=>zv.cells[x%zv.cells.size]!) (Array.range (1*s))).size):=by simp
  rw[<- Array.foldl_toList,Array.toList_zipIdx];rw[h3];simp[newRow,hcs]
theorem L.append {B s bytes m c':Nat} {a:Option Addr} {k c:Nat} {xs news:List Value} {zv:Value} {ad:Addr} (hx:ev e x= .slice a k c) (hy:ev e y= .slice (some ad) m c') (hT:P.underlying T=some (.slice E))
  (hi:(P.info? E).map (fun i=>(i.zero,i.size,i.bytes))=some (some zv,s,bytes)) (hz:zv.cells.size=s) (hs:0<s) (l7:Own w B E s a k c xs)
  (hl:news.length=m*s) (ad0:∀(j:Nat) u,news[j]? =some u->w.cell? (ad.add j)=some u) (h1:∀u∈news,u.oneCell'=true) (un0:k+m <=9223372036854775807) (hb:(k+m)*bytes <=140737488355328) (hB:B <=w.heap.size)
  (h:∀a' c2 w',Own w' B E s a' (k+m) c2 (xs++news)->w.grownBy w' (Value.ownBlock (.slice a k c))->Below B w w'->(a'=none↔a=none/\m=0)->L P n ops Q rest (upd e d (.slice a' (k+m) c2)) w') :
  L P n ops Q (⟨some d,.call ⟨.builtin .append,#[x,y],#[T,T]⟩,ty,ps,af,none⟩::rest) e w:=by
 refine L.may (R:=fun v w'=>∃a' c2,v= .slice a' (k+m) c2/\Own w' B E s a' (k+m) c2 (xs++news)/\w.grownBy w' (Value.ownBlock (.slice a k c))/\Below B w w'/\(a'=none↔a=none/\m=0)) (E2 rfl _) (fun τ d'=>?_) (by rintro v w' ⟨a',c2,rfl,h2,h3,h4,h5⟩;exact h a' c2 w' h2 h3 h4 h5);generalize hu:W2 w τ d'=u;have l7:Own u B E s a k c xs:=by rw[<- hu];exact l7
 have ad0:∀(j:Nat) v,news[j]? =some v->u.cell? (ad.add j)=some v:=by rw[<- hu];exact ad0
 have hB:B <=u.heap.size:=by rw[<- hu];exact hB
 obtain⟨i,hi'⟩:∃i,P.info? E=some i:=by cases hh:P.info? E with|none=>rw[hh]at hi;cases hi|some i=>exact⟨i,rfl⟩
 rw[hi']at hi;simp only[Option.map_some,Option.some.injEq,Prod.mk.injEq]at hi;obtain⟨g1,g2,g3⟩:=hi;obtain⟨v',w',hr,h2,h3,h4⟩:=run_append_own (P:=P) u B T ty E i zv s bytes hT hi' g1 g2 g3 hz hs (.slice a k c) k xs l7 ad m c' news hl ad0 h1 (by simpa [maxLen]using un0) hb hB;obtain⟨a',c2,rfl⟩:∃a' c2,v'= .slice a' (k+m) c2:=by
  rcases h2.2 with⟨hv,h0⟩|⟨g,cap,cur,hv,_⟩
  ·exact⟨none,0,by rw[hv,h0]⟩
  ·exact⟨_,_,hv⟩
 have cp0:Below B u w':=(Below.refl B u).grown h3 hB (fun r hr=>by
  cases a with
  |none=>cases hr
  |some q=>
   simp only[Value.ownBlock,Option.some.injEq]at hr;subst hr;exact(l7.row (by simp)).choose_spec.2.1)
 have Uf0:a'=none↔a=none/\m=0:=by
  constructor
  ·intro hn;subst hn;rcases h2.2 with⟨hv,h0⟩|⟨g,cap,cur,hv,_⟩
   ·have:=h4.1 hv;exact⟨by have:=this.1;simp at this;exact this.1,this.2⟩
   ·cases hv
  ·rintro⟨rfl,rfl⟩;have hk0:k=0/\c=0:=by
    rcases l7.2 with⟨hv,h0⟩|⟨g,cap,cur,hv,_⟩
    ·cases hv;exact⟨rfl,rfl⟩
    ·cases hv
   obtain⟨rfl,rfl⟩:=hk0;have:=h4.2 ⟨rfl,rfl⟩;simp at this;exact this.1
 refine⟨_,w',?_,a',c2,rfl,h2,by subst hu;exact pi0 h3,by subst hu;exact pj0 cp0,Uf0⟩;simp only[execOp,resolve,invoke,builtin,Sem.run_bind,Sem.run_pure,Result.andThen_ok,List.map_toArray,List.map_cons,List.map_nil,hx,hy,hr]
end
section
variable {P:Program}[Ctx P]{n:Nat}{Q:Exit->Env->World->Prop}{e:Env}{w:World}{ops:Array Oper}{rest:List Oper}
variable {d:Nat}{ty:TypeId}{ps:String}{af:Array Edge}{T E:TypeId}{x y:Operand}
theorem L.di0 {B s bytes m c':Nat} {a src:Option Addr} {k c:Nat} {xs news:List Value} {zv:Value} (hx:ev e x= .slice a k c) (hy:ev e y= .slice src m c') (hT:P.underlying T=some (.slice E))
  (hi:(P.info? E).map (fun i=>(i.zero,i.size,i.bytes))=some (some zv,s,bytes)) (hz:zv.cells.size=s) (hs:0<s) (l7:Own w B E s a k c xs) (ag1:src=none->m=0/\c'=0)
  (hl:news.length=m*s) (ad0:∀ad,src=some ad->∀(j:Nat) u,news[j]? =some u->w.cell? (ad.add j)=some u) (h1:∀u∈news,u.oneCell'=true) (un0:k+m <=9223372036854775807) (hb:(k+m)*bytes <=140737488355328) (hB:B <=w.heap.size)
  (h:∀a' c2 w',Own w' B E s a' (k+m) c2 (xs++news)->w.grownBy w' (Value.ownBlock (.slice a k c))->Below B w w'->(a'=none↔a=none/\m=0)->L P n ops Q rest (upd e d (.slice a' (k+m) c2)) w') :
  L P n ops Q (⟨some d,.call ⟨.builtin .append,#[x,y],#[T,T]⟩,ty,ps,af,none⟩::rest) e w:=by
 cases src with
 |some ad=>exact L.append hx hy hT hi hz hs l7 hl (ad0 ad rfl) h1 un0 hb hB h
 |none=>
  obtain⟨rfl,rfl⟩:=ag1 rfl;obtain⟨i,hi'⟩:∃i,P.info? E=some i:=by cases hh:P.info? E with|none=>rw[hh]at hi;cases hi|some i=>exact⟨i,rfl⟩
  have hr:=fun τ d'=>run_append_owned_none (P:=P) (w:=W2 w τ d') B T ty E i s hT hi' (.slice a k c) k xs l7;have hn:news=[]:=List.eq_nil_of_length_eq_zero (by omega);subst hn;refine L.va (v:=.slice a (k+0) c) (w':=w) (.A1 (E2 rfl _) rfl rfl fun τ d'=>?_) (h a c w (by simpa using l7) ⟨rfl,rfl,rfl,Nat.le_refl _,fun _ _ _=>rfl⟩ (Below.refl _ _) (by simp));simp only[execOp,resolve,invoke,builtin,Sem.run_bind,Sem.run_pure,Result.andThen_ok,List.map_toArray,List.map_cons,List.map_nil,hx,hy,hr τ d'];rfl
end
section
variable {P:Program}[Ctx P]
end
section
variable {P:Program}{ρ:Operand->Value}{w:World}{d:Option Nat}{ty:TypeId}{ps:String}{af:Array Edge}{g:Option (Nat×Bool)}{y:Operand}{T:TypeId}
theorem V0 {parts:List (Nat×Operand)} {vs:List (Nat×Value)} {cells:Array Value} (hv:parts.map (fun(i,y)=>(i,ρ y))=vs) (hb:P.built T vs=some cells) :
  Does P (execOp ρ ⟨d,.build T parts.toArray,ty,ps,af,g⟩) w (.val (.agg cells)) w :=
 .A1 (E2 rfl _) rfl rfl fun _τ _d=>Go.Vc.V0 (hv:=hv) (hb:=hb)
end
section
variable {P:Program}[Ctx P]
end
section
variable {P:Program}[Ctx P]
end
section
end
section
variable {P:Program}[Ctx P]
end
section
variable {P:Program}{T:TypeId}{ρ:Operand->Value}{w:World}{d:Option Nat}{ty:TypeId}{ps:String}{af:Array Edge}{g:Option (Nat×Bool)}{x y:Operand}
theorem u1 {p:Addr} (hx:ρ x= .pointer (some p)):Does P (execOp ρ ⟨d,.nilCheck x,ty,ps,af,g⟩) w (.val (.pointer (some p))) w :=
 .A1 (wr0 hx) rfl rfl fun _τ _d=>Go.Vc.u1 (hx:=hx)
theorem C2 {E T:TypeId} {b o n s i:Nat} (hx:ρ x= .pointer (some ⟨b,o,none⟩)) (hy:ρ y= .int .i64 (i:Int)) (hT:P.underlying T=some (.array n E)) (hs:(P.info? E).map (·.size)=some s) (h:i<n) :
  Does P (execOp ρ ⟨d,.indexAddr T x y,ty,ps,af,g⟩) w (.val (.pointer (some ⟨b,o+i*s,none⟩))) w :=
 .A1 (E2 rfl _) rfl rfl fun _τ _d=>Go.Vc.C2 (hx:=hx) (hy:=hy) (hT:=hT) (hs:=hs) (h:=h)
theorem H3 {q:Option Addr} {E T':TypeId} (hx:ρ x= .pointer q) (hy:ρ y= .pointer none) (hT:P.underlying T=some (.pointer E)) :
  Does P (execOp ρ ⟨d,.binOp .eql T x y T',ty,ps,af,g⟩) w (.val (.bool q.isNone)) w :=
 .A1 (wp0 hx hy) rfl rfl fun _τ _d=>Go.Vc.H3 (hx:=hx) (hy:=hy) (hT:=hT)
end
section
variable {P:Program}[Ctx P]
end
section
variable {P:Program}[Ctx P]
end
section
variable {P:Program}[Ctx P]{n:Nat}{Q:Exit->Env->World->Prop}{e:Env}{w:World}{ops:Array Oper}{rest:List Oper}
variable {d:Nat}{ty:TypeId}{ps:String}{af:Array Edge}{T E:TypeId}{x y z:Operand}
theorem L.Jg0 {B s bytes m c':Nat} {b k c:Nat} {xs news:List Value} {zv:Value} {ad:Addr} (hx:ev e x= .slice (some ⟨b,0,none⟩) k c) (hy:ev e y= .slice (some ad) m c') (hT:P.underlying T=some (.slice E))
  (hi:(P.info? E).map (fun i=>(i.zero,i.size,i.bytes))=some (some zv,s,bytes)) (hz:zv.cells.size=s) (hs:0<s) (l7:Own w B E s (some ⟨b,0,none⟩) k c xs)
  (hl:news.length=m*s) (ad0:∀(j:Nat) u,news[j]? =some u->w.cell? (ad.add j)=some u) (h1:∀u∈news,u.oneCell'=true) (un0:k+m <=9223372036854775807) (hb:(k+m)*bytes <=140737488355328) (hB:B <=w.heap.size)
  (h:∀b' c2 w',Own w' B E s (some ⟨b',0,none⟩) (k+m) c2 (xs++news)->w.grownBy w' (some b)->((b'=b/\c2=c)\/(b'=w.heap.size/\Below w.heap.size w w'))->L P n ops Q rest (upd e d (.slice (some ⟨b',0,none⟩) (k+m) c2)) w') :
  L P n ops Q (⟨some d,.call ⟨.builtin .append,#[x,y],#[T,T]⟩,ty,ps,af,none⟩::rest) e w:=by
 refine L.may (R:=fun v w'=>∃b' c2,v= .slice (some ⟨b',0,none⟩) (k+m) c2/\Own w' B E s (some ⟨b',0,none⟩) (k+m) c2 (xs++news)/\w.grownBy w' (some b)/\((b'=b/\c2=c)\/(b'=w.heap.size/\Below w.heap.size w w'))) (E2 rfl _) (fun τ d'=>?_) (by rintro v w' ⟨b',c2,rfl,h2,h3,h4⟩;exact h b' c2 w' h2 h3 h4);generalize hu:W2 w τ d'=u;have l7:Own u B E s (some ⟨b,0,none⟩) k c xs:=by rw[<- hu];exact l7
 have ad0:∀(j:Nat) v,news[j]? =some v->u.cell? (ad.add j)=some v:=by rw[<- hu];exact ad0
 have hB:B <=u.heap.size:=by rw[<- hu];exact hB
 obtain⟨i,hi'⟩:∃i,P.info? E=some i:=by cases hh:P.info? E with|none=>rw[hh]at hi;cases hi|some i=>exact⟨i,rfl⟩
 rw[hi']at hi;simp only[Option.map_some,Option.some.injEq,Prod.mk.injEq]at hi;obtain⟨g1,g2,g3⟩:=hi;obtain⟨v',w',hr,h2,h3,h4⟩:=run_append_own (P:=P) u B T ty E i zv s bytes hT hi' g1 g2 g3 hz hs (.slice (some ⟨b,0,none⟩) k c) k xs l7 ad m c' news hl ad0 h1 (by simpa [maxLen]using un0) hb hB;have hv:∃b' c2,v'= .slice (some ⟨b',0,none⟩) (k+m) c2/\((b'=b/\c2=c)\/(b'=u.heap.size/\Below u.heap.size u w')):=by
  rcases l7.2 with⟨hv0,_⟩|⟨g,cap,cur,hv0,hbg,hg,hnc,hcm,hcs,dw1⟩
  ·cases hv0
  ·cases hv0;by_cases Mo0:k+m <=c
   ·have ah1:k*i.size+news.length <=cur.size:=by rw[hl,hcs,g2,<- Nat.add_mul];exact Nat.mul_le_mul_right _ Mo0
    have:=run_append_room (P:=P) u T ty E i hT hi' b k c cur hg ad m c' news (by rw[g2];exact hl) ad0 h1 Mo0 ah1;rw[hr]at this;cases this;exact⟨_,_,rfl,.inl ⟨rfl,rfl⟩⟩
   ·have holds:∀j z,xs[j]? =some z->u.cell? ((⟨b,0,none⟩:Addr).add j)=some z:=l7.cells (g:=b) rfl;have:=run_append_grow (P:=P) u T ty E i zv hT hi' g1 ⟨b,0,none⟩ k c xs (by rw[g2];exact l7.1) holds ad m c' news (by rw[g2];exact hl) ad0 (by omega) (by omega) (growslice_fits (by omega) (by rw[g3];exact hb));rw[hr]at this;cases this;exact⟨_,_,rfl,.inr ⟨rfl,(Below.refl _ _).drew.alloc (Nat.le_refl _) _⟩⟩
 obtain⟨b',c2,rfl,hbb⟩:=hv;refine⟨_,w',?_,b',c2,rfl,h2,by subst hu;exact pi0 h3,by subst hu;exact hbb.imp id fun h=>⟨h.1,pj0 h.2⟩⟩;simp only[execOp,resolve,invoke,builtin,Sem.run_bind,Sem.run_pure,Result.andThen_ok,List.map_toArray,List.map_cons,List.map_nil,hx,hy,hr]
end
section
variable {P:Program}[Ctx P]{ops:Array Oper}{V:(Nat->Bool)->Prop}{J:(Nat->Bool)->World->Prop}{n:Nat}
theorem Dq0 (h:Ord n ops) {e0:Env} {vals:Nat->Value} {k:Nat} (hk:k<ops.size) (Ou0:∀i o,i<k->ops[i]? =some o->Loc P ops V J i o (EE e0 ops.toList vals i) (vals i))
  (cj0:∀D,V D->∀i,k <=i->i<ops.size->D i=true->∀j,j<i->D j=true)
  {Q:Exit->Act->World->Prop} (hQ:∀a w D,Rep n a (EE e0 ops.toList vals k)->(∀i,i<k->D i=true)->J D w->wpOps P ops Q (List.range' k (ops.size-k)) a w) :
  ∀{listed:Array Bool} {σ:List Nat},Lin ops listed σ->(∀τ ρ,σ=τ++ρ->V (fun j=>listed.getD j false ||τ.contains j)) ->
   ∀(a:Act) (e:Env) (w:World),listed.size=ops.size->(∀j,k <=j->listed.getD j false=false)->Rep n a e->Mid ops e0 vals listed e->J (fun j=>listed.getD j false) w->wpOps P ops Q σ a w:=by
 intro listed σ H6
 induction H6 with
 | @nil listed hr=>
  intro _ a e w hs hkf ha hm hJ;have:=gl0 h hs hr k (by omega);rw[hkf k (Nat.le_refl _)]at this;cases this
 | @cons listed i σ hi hl ih=>
  intro hV a e w hs hkf ha hm hJ;have hi0:=hi;obtain⟨h1,o,ho,fb0⟩:=mem_ready.1 hi;have hio:i<ops.size:=(Array.getElem?_eq_some_iff.1 ho).1;have g8:i<listed.size:=by omega
  have hDi:(fun j=>listed.getD j false) i=false:=by
   show listed.getD i false=false;simp only[Array.getD_eq_getD_getElem?,g8,Array.getElem?_eq_getElem,Option.getD_some]at h1⊢;exact h1
  have hVD:V (fun j=>listed.getD j false):=by
   have:=hV [] (i::σ) rfl;have e1:(fun j=>listed.getD j false ||([]:List Nat).contains j)=fun j=>listed.getD j false:=funext fun j=>by simp
   rw[e1]at this;exact this
  have hVD:V (fun j=>listed.getD j false)/\V (N6 (fun j=>listed.getD j false) i):=by
   refine⟨hVD,?_⟩;have:=hV [i] σ rfl;have e1:(fun j=>listed.getD j false ||([i]:List Nat).contains j)=N6 (fun j=>listed.getD j false) i:=funext fun j=>by
    unfold N6;by_cases hj:j=i
    ·simp[hj]
    ·simp[hj]
   rw[e1]at this;exact this
  by_cases hik:k <=i
  ·have E7:∀j,j<i->listed.getD j false=true:=fun j hj=>by
    have:=cj0 _ hVD.2 i hik hio (by simp[N6]) j hj;unfold N6 at this;rw[if_neg (by omega)]at this;exact this
   have X8:i=k:=by
    rcases Nat.lt_or_ge k i with h3|h3
    ·have:=E7 k h3;rw[hkf k (Nat.le_refl _)]at this;cases this
    ·omega
   subst X8;refine U544 ?_;intro hσ;have he:e=EE e0 ops.toList vals i:=by
    funext t;have hlz:∀j:Nat,ops.toList[j]? =ops[j]?:=fun j=>by rw[Array.getElem?_toList]
    by_cases hex:∃(j:Nat) (p:Oper),j<i/\ops[j]? =some p/\p.dst=some t
    ·obtain⟨j,p,hj,hp,hd⟩:=hex;exact U374
    ·rw[hm.mk0 t (fun j p hp hd=>by
      rcases Nat.lt_or_ge j i with h3|h3
      ·exact absurd ⟨j,p,h3,hp,hd⟩ hex
      ·exact hkf j h3)]
     exact(jg0 e0 ops.toList vals t _ (fun j p hj hp hd=>hex ⟨j,p,hj,by rw[<- hlz];exact hp,hd⟩)).symm
   subst he;exact hQ a w _ ha E7 hJ
  ·have hlk:=ua0 h hm ho fb0;have hex:=S8 (h.sel i o ho) hlk;have hwa:=T8 hlk;have hV':∀τ ρ,σ=τ++ρ->V (fun j=>(listed.setIfInBounds i true).getD j false ||τ.contains j):=by
    intro τ ρ hσ;have:=hV (i::τ) ρ (by rw[hσ];rfl);have e1:(fun j=>listed.getD j false ||(i::τ).contains j)=fun j=>(listed.setIfInBounds i true).getD j false ||τ.contains j:=by
     funext j;by_cases hj:i=j
     ·subst hj;simp[g8]
     ·rw[getD_set_ne false hj];simp[Ne.symm hj]
    rw[e1]at this;exact this
   have next:∀w',J (N6 (fun j=>listed.getD j false) i) w'->wpOps P ops Q σ (a.put o.dst (vals i)) w':=by
    intro w' hJ';refine ih hV' _ _ w' (by simp[hs]) (fun j hj=>by rw[getD_set_ne false (by omega)];exact hkf j hj) (ha.put (h.dst i o ho) (vals i)) (hm.step h ho g8) ?_;rw[sh0 g8];exact hJ'
   unfold wpOps;rw[ho];simp only;rw[v5 ha,hwa];rcases Ou0 i o (by omega) ho with⟨hw,hl⟩|⟨hw,hv,hl⟩
   ·rw[if_pos hw];have x5:=hl (fun j=>listed.getD j false) w hDi hVD fb0 hJ;rw[<- hex,<- ha.eval]at x5;exact um0 x5 next
   ·rw[if_neg (by rw[hw];simp)];exact U525
theorem W.Ov0 {id:Nat} {l:List Oper} {Q:Exit->Env->World->Prop} {e:Env} {w:World} (k:Nat) (hm:P.follows .mixedOrders=true) (hB:Az0 n l.toArray=true) (hA:mv0 l k=true) (hk:Nat.blt k l.length=true)
  (h:∀V:(Nat->Bool)->Prop,(∀D D',V D->V D'->(∀k,D k=true->D' k=true)\/(∀k,D' k=true->D k=true))->(∀D,V D->∀i o,l[i]? =some o->D i=true->j7 o D) ->
   ∃J:(Nat->Bool)->World->Prop,J (fun _=>false) w.drew/\JL P l.toArray V J (fun e'=>∀D w',(∀i,i<k->D i=true)->J D w'->L P n l.toArray Q (l.drop k) e' w') 0 (l.take k) e):W P n (.region id l.toArray true) Q e w:=by
 intro a ha;have ho:=Dd0 hB;have hkl:k<l.length:=by rw[Nat.blt_eq]at hk;exact hk
 refine wp_region_draw fun t=>?_;simp only[Region.schedule,hm,Bool.true_or,if_true];have H6:=si0 l.toArray l.toArray.size t (Array.replicate l.toArray.size false) (by simp) (by simp);unfold Region.linearise;generalize Region.linearise.go .any l.toArray l.toArray.size t (Array.replicate l.toArray.size false) []=σ at H6⊢;have fe0:=ed0 H6 (fun i o _ hi=>by rw[Y0]at hi;cases hi) (by simp);have Z9:∀D,Pre σ D->∀i o,l[i]? =some o->D i=true->j7 o D:=by
  rintro D ⟨τ,ρ,hσ,hD⟩ i o hi hDi x hx hb;have:=fe0 τ ρ hσ i o (by simpa using hi) (.inr ((hD i).1 hDi)) x hx hb;rcases this with h1|h1
  ·rw[Y0]at h1;cases h1
  ·exact(hD _).2 h1
 obtain⟨J,hJ,hjl⟩:=h (Pre σ) (fun D D' h1 h2=>h1.chain h2) Z9;obtain⟨vals,h1,h2⟩:=JL.collect (l.take k) 0 e hjl;have hEE:∀j,j <=k->EE e (l.take k) vals j=EE e l vals j:=by
  intro j
  induction j with
  |zero=>intro _;rfl
  |succ j ih=>
   intro hj;simp only[EE,ih (by omega)];rw[List.getElem?_take_of_lt (by omega)]
 have R2:(l.take k).length=k:=by simp;omega
 refine Dq0 (V:=Pre σ) (J:=J) ho (e0:=e) (vals:=vals) (k:=k) (by simpa using hkl) (fun i o' hi ho'=>?_) (fun D hD i X8 g8=>kh0 hA Z9 hD i X8 (by simpa using g8)) (fun a' w' D ha' hD hJ'=>?_) H6 ?_ a e _ (by simp) (fun j _=>Y0 _ _) ha ⟨fun j o t _ _ hl=>?_,fun t _=>rfl⟩ ?_
 ·have:=h1 i o' (by rw[List.getElem?_take_of_lt hi];simpa using ho');rw[hEE i (by omega)]at this;simpa using this
 ·rw[R2,hEE k (Nat.le_refl _)]at h2;have h3:=h2 D w' hD hJ';have h4:=h3 (fun o' ho'=>by
   obtain⟨i,hi⟩:=List.mem_iff_getElem?.1 ho';rw[List.getElem?_drop]at hi;exact ho.dst (k+i) o' (by simpa using hi)) a' (by simpa using ha')
  have h5:=wpOps_eq_wpList (P:=P) (ops:=l.toArray) (Q:=lift n Q) (l.drop k) k (fun j=>by rw[List.getElem?_drop];simp);rw[List.length_drop]at h5;have h6:l.toArray.size-k=l.length-k:=by simp
  rw[h6,h5];exact h4
 ·intro τ ρ hσ;exact⟨τ,ρ,hσ,fun k=>by show((Array.replicate l.toArray.size false).getD k false ||τ.contains k)=true↔_;rw[Y0];simp⟩
 ·rw[Y0]at hl;cases hl
 ·have:(fun k=>(Array.replicate l.toArray.size false).getD k false)=fun _=>false:=funext fun k=>Y0 _ _;rw[this];exact hJ
theorem W.fk0 {id:Nat} {l:List Oper} {Q:Exit->Env->World->Prop} {e:Env} {w:World} (k:Nat) (Cl:World->Prop) (hm:P.follows .mixedOrders=true) (hB:Az0 n l.toArray=true) (hA:mv0 l k=true) (hk:Nat.blt k l.length=true)
  (hC:Cl w.drew) (h:QL P l.toArray Cl (fun e'=>∀w',Cl w'->L P n l.toArray Q (l.drop k) e' w') 0 (l.take k) e):W P n (.region id l.toArray true) Q e w:=by
 refine W.Ov0 k hm hB hA hk fun V _ _=>⟨fun _=>Cl,hC,?_⟩
 have mono:∀(l':List Oper) (i:Nat) (e:Env),JL P l.toArray V (fun _=>Cl) (fun e'=>∀w',Cl w'->L P n l.toArray Q (l.drop k) e' w') i l' e->JL P l.toArray V (fun _=>Cl) (fun e'=>∀(D:Nat->Bool) w',(∀i,i<k->D i=true)->Cl w'->L P n l.toArray Q (l.drop k) e' w') i l' e:=by
  intro l'
  induction l' with
  |nil=>exact fun i e h _ w' _ hw=>h w' hw
  |cons o l' ih=>exact fun i e ⟨v,h1,h2⟩=>⟨v,h1,ih _ _ h2⟩
 exact mono _ 0 e (h V)
end
section
variable {P:Program}[Ctx P]
end
section
variable {P:Program}{ρ:Operand->Value}{w:World}{d:Option Nat}{ty:TypeId}{ps:String}{af:Array Edge}{g:Option (Nat×Bool)}
variable {x y:Operand}{T T' E:TypeId}
theorem r7 {q:Option Addr} (hx:ρ x= .pointer q) (hy:ρ y= .pointer none) (hT:P.underlying T=some (.pointer E)) :
  Does P (execOp ρ ⟨d,.binOp .neq T x y T',ty,ps,af,g⟩) w (.val (.bool q.isSome)) w :=
 .A1 (uk0 hx hy) rfl rfl fun _τ _d=>Go.Vc.r7 (hx:=hx) (hy:=hy) (hT:=hT)
theorem u7 {v:Value} {b:Bool} {u:TypeDesc} (hx:ρ x=v) (hv:(v= .nilFunc/\b=true)\/(∃f xs ys,v= .func f xs ys/\b=false)) (hy:ρ y= .nilFunc) (hT:P.underlying T=some u) (hu:∃a b c,u= .func a b c) :
  Does P (execOp ρ ⟨d,.binOp .eql T x y T',ty,ps,af,g⟩) w (.val (.bool b)) w :=
 .A1 (Bc0 (Ue0 hv) hx hy) rfl rfl fun _τ _d=>Go.Vc.u7 (hx:=hx) (hv:=hv) (hy:=hy) (hT:=hT) (hu:=hu)
theorem E9 {v:Value} {b:Bool} {u:TypeDesc} (hx:ρ x=v) (hv:(v= .nilFunc/\b=false)\/(∃f xs ys,v= .func f xs ys/\b=true)) (hy:ρ y= .nilFunc) (hT:P.underlying T=some u) (hu:∃a b c,u= .func a b c) :
  Does P (execOp ρ ⟨d,.binOp .neq T x y T',ty,ps,af,g⟩) w (.val (.bool b)) w :=
 .A1 (wq0 (Ue0 hv) hx hy) rfl rfl fun _τ _d=>Go.Vc.E9 (hx:=hx) (hv:=hv) (hy:=hy) (hT:=hT) (hu:=hu)
theorem co0 {f:FuncId} {fn:Func} {aT:Array TypeId} {ys:Array Value} (hx:ρ x= .func (.func f) #[] ys) (hf:P.funcs[f]? =some fn) (hb:fn.body.isSome=true) (hn:(fn.name== "runtime.NumGoroutine")=false) :
  Does P (execOp ρ ⟨d,.call ⟨.value x,#[],aT⟩,ty,ps,af,g⟩) w (.enter f ys) w :=
 .A1 (aa0 hx hf hb hn) rfl rfl fun _τ _d=>Go.Vc.co0 (hx:=hx) (hf:=hf) (hb:=hb) (hn:=hn)
end
section
variable {P:Program}[Ctx P]
end
section
end
section
variable {P:Program}[Ctx P]{n:Nat}{ops:Array Oper}{Q:Exit->Env->World->Prop}{rest:List Oper}{e:Env}{w:World}{ty:TypeId}{ps:String}{af:Array Edge}{x y:Operand}{T:TypeId}
theorem L.put {b o s:Nat} {cs:Array Value} {vs:List Value} {E:TypeId} {v:Value} (S5:Array Value) (hx:ev e x= .pointer (some ⟨b,o,none⟩)) (hy:ev e y=v) (hvs:v.cells.toList=vs) (hs:(P.info? T).map (·.size)=some s) (hl:vs.length=s) (h1:vs.all Value.oneCell'=true) (hB:S0 w b cs E) (ho:o+s <=cs.size) (hcs:setRow cs o vs=S5)
  (k:∀w1,S0 w1 b S5 E->w.grownBy w1 (some b)->w1.heap.size=w.heap.size->L P n ops Q rest e w1):L P n ops Q (⟨none,.store T x y,ty,ps,af,none⟩::rest) e w:=by
 have Ow0:v.cells=vs.toArray:=by rw[<- hvs]
 refine L.Dp0 hx hy Ow0 hs (by simpa using hl) (by simpa using h1) hB ho ?_;rw[List.toList_toArray,hcs];exact k _ (if0 _ _ _ hB) (Oq0 (Y9 _ _) (.inl rfl) _ _) (ie0 _ _ _ _)
theorem L.pu {b s:Nat} {cs:Array Value} {E:TypeId} {v:Value} (o:Nat) (vs:List Value) (S5:Array Value) (hs:(P.info? T).map (·.size)=some s) (hB:S0 w b cs E) (k:∀w1,S0 w1 b S5 E->w.grownBy w1 (some b)->w1.heap.size=w.heap.size->L P n ops Q rest e w1) (hx:ev e x= .pointer (some ⟨b,o,none⟩):=by rfl) (hy:ev e y=v:=by rfl) (hvs:v.cells.toList=vs:=by rfl) (hl:vs.length=s:=by rfl) (h1:vs.all Value.oneCell'=true:=by rfl) (ho:o+s <=cs.size:=by exact Nat.le_of_ble_eq_true rfl) (hcs:setRow cs o vs=S5:=by rfl):L P n ops Q (⟨none,.store T x y,ty,ps,af,none⟩::rest) e w:=L.put S5 hx hy hvs hs hl h1 hB ho hcs k
theorem L.pa {b s:Nat} {cs:Array Value} {E:TypeId} {v:Value} (vs:List Value) (hs:(P.info? T).map (·.size)=some s) (hB:S0 w b cs E) (k:∀w1,S0 w1 b vs.toArray E->w.grownBy w1 (some b)->w1.heap.size=w.heap.size->L P n ops Q rest e w1) (hx:ev e x= .pointer (some ⟨b,0,none⟩):=by rfl) (hy:ev e y=v:=by rfl) (hvs:v.cells.toList=vs:=by rfl) (hl:vs.length=s:=by rfl) (h1:vs.all Value.oneCell'=true:=by rfl) (ho:0+s <=cs.size:=by exact Nat.le_of_ble_eq_true rfl) (hcs:setRow cs 0 vs=vs.toArray:=by exact wl0 rfl):L P n ops Q (⟨none,.store T x y,ty,ps,af,none⟩::rest) e w:=L.put vs.toArray hx hy hvs hs hl h1 hB ho hcs k
end
theorem ends.Jh0 {P:Program} [Ctx P] {fn:Func} {R:Value->World->Prop} {x:Exit} {e:Env} {w:World} {t u b:Nat} {cs:Array Value} {T E:TypeId} {d:TypeDesc} (hx:x= .normal\/x= .ret) (hr:fn.results=#[.cell t T,.tmp u])
  (he:e t= .pointer (some ⟨b,0,Option.none⟩)) (hT:P.underlying T=some d) (hu:C9 d=false) (hs:(P.info? T).map (·.size)=some cs.size) (hB:S0 w b cs E) (h:R (.tuple #[.agg cs,e u]) w):ends P fn R x e w :=
 ⟨hx,_,fun tmps ht=>fi0 fj0 fun τ d'=>by
  have hB:S0 (W2 w τ d') b cs E:=hB;generalize W2 w τ d'=w at hB⊢;have h1:(loadVar T ⟨b,0,Option.none⟩).run P w= .ok (.agg cs) w:=by
   have h2:∀j v,cs.toList[j]? =some v->w.cell? ((⟨b,0,Option.none⟩:Addr).add j)=some v:=fun j v hj=>by
    rw[Addr.add_lit,Nat.zero_add];exact hB.cell (by simpa using hj)
   have:=run_loadCells_list (P:=P) (w:=w) ⟨b,0,Option.none⟩ cs.toList h2;simp only[Array.length_toList]at this;simp[loadVar,Go.Vc.m9 hT,hu,Go.Vc.run_sizeOf hs,this]
  have h3:tmps.getD t undef= .pointer (some ⟨b,0,Option.none⟩):=by rw[ht,he]
  rw[results_cell_tmp hr,h3];simp[asAddr,h1,ht],h⟩
theorem S3 {P:Program} [Ctx P] {ρ:Operand->Value} {w:World} {d:Option Nat} {ty:TypeId} {ps:String} {af:Array Edge} {g:Option (Nat×Bool)} {fn:Fn} {l:List Operand} {vs:List Value} (h:l.map ρ=vs) :
  Does P (execOp ρ ⟨d,.makeFunc fn #[] l.toArray,ty,ps,af,g⟩) w (.val (.func fn #[] vs.toArray)) w :=
 .A1 (E2 rfl _) rfl rfl fun _τ _d=>Go.Vc.S3 (h:=h)
section
variable {P:Program}[Ctx P]
end
section
variable {P:Program}[Ctx P]
end
section
variable {P:Program}{ρ:Operand->Value}{w:World}{d:Option Nat}{ty:TypeId}{ps:String}{af:Array Edge}{g:Option (Nat×Bool)}
theorem q8 {S:TypeId} {x:Operand} {v:Value} {td:TypeDesc} (hx:ρ x=v) (hT:P.underlying S=some td) (hn:(match td with| .interface _=>false|_=>true)=true) :
  Does P (execOp ρ ⟨d,.makeInterface S x,ty,ps,af,g⟩) w (.val (.iface S v)) w :=
 .A1 (E2 rfl _) rfl rfl fun _τ _d=>Go.Vc.q8 (hx:=hx) (hT:=hT) (hn:=hn)
end
section
variable {P:Program}[Ctx P]
end
def eg0 (P:Program) [Ctx P] (n:Nat) (c:Code) (Q:Exit->Env->World->Prop):Nat->Env->World->Prop
 |0,_,_=>False
 |k+1,e,w=>W P n c (N8 (eg0 P n c Q k) Q) e w
theorem W.rounds {P:Program} [Ctx P] {n:Nat} {c:Code} {Q:Exit->Env->World->Prop} {e:Env} {w:World} (k:Nat) (h:eg0 P n c Q k e w):W P n (.loop c) Q e w:=by
 refine W.loop (eg0 P n c Q) k h fun k e w h=>?_;cases k with
 |zero=>exact h.elim
 |succ k=>
  refine W.mono (fun x e w hx=>?_) h;cases x with
  |normal=>exact⟨k,Nat.lt_succ_self k,hx⟩
  |_=>exact hx
theorem eg0.go {P:Program} [Ctx P] {n:Nat} {c:Code} {Q:Exit->Env->World->Prop} {e:Env} {w:World} {k:Nat} (h:W P n c (N8 (eg0 P n c Q k) Q) e w):eg0 P n c Q (k+1) e w:=h
def FL (P:Program) [Ctx P] (n:Nat) (l0:List Oper) (K:World->Prop) (ch:Nat->Bool) (Q:Env->World->Prop):List Nat->Env->World->Prop
 | [],e,w=>Q e w
 |i::rest,e,w=>∃o,l0[i]? =some o/\if ch i=true then L P n l0.toArray (fun x e' w'=>x= .normal/\K w'/\FL P n l0 K ch Q rest e' w') [o] e w
  else ∃v,((Region.wanted o (k3 l0.toArray e)=true/\∀w',K w'->Does P (execOp (ev e) o) w' (.val v) w')\/(Region.wanted o (k3 l0.toArray e)=false/\v=undef))/\FL P n l0 K ch Q rest (m3 e o.dst v) w
section
variable {P:Program}[Ctx P]{n:Nat}{l0:List Oper}{K:World->Prop}{ch:Nat->Bool}{Q:Env->World->Prop}{rest:List Nat}{e:Env}{w:World}{d:Nat}{op:Op}{ty:TypeId}{ps:String}{af:Array Edge}{v:Value}{i:Nat}{o:Oper}
theorem F.nil (h:Q e w):FL P n l0 K ch Q [] e w:=h
theorem F.va (hl:l0[i]? =some ⟨some d,op,ty,ps,af,none⟩) (hc:ch i=false) (hr:∀w',K w'->Does P (execOp (ev e) ⟨some d,op,ty,ps,af,none⟩) w' (.val v) w') (k:FL P n l0 K ch Q rest (upd e d v) w):FL P n l0 K ch Q (i::rest) e w :=
 ⟨_,hl,by rw[if_neg (by simp[hc])];exact⟨v,.inl ⟨rfl,hr⟩,k⟩⟩
theorem F.doo (hl:l0[i]? =some o) (hc:ch i=true) (h:L P n l0.toArray (fun x e' w'=>x= .normal/\K w'/\FL P n l0 K ch Q rest e' w') [o] e w):FL P n l0 K ch Q (i::rest) e w :=
 ⟨_,hl,by rw[if_pos hc];exact h⟩
end
def Mp0 (P:Program) [Ctx P] (S:Sem Next) (v:Value) (w:World):Prop:=Does P S w (.val v) w\/∃f args,Does P S w (.enter f args) w/\C P f args w fun r w'=>r=v/\w'=w
def FP (P:Program) [Ctx P] (n:Nat) (l0:List Oper) (PQ:List PanicEntry->World->Prop) (ch al:Nat->Bool) (Q:Env->World->Prop):List Nat->(World->Prop)->Env->World->Prop
 | [],_,e,w=>Q e w
 |i::rest,K,e,w=>∃o,l0[i]? =some o/\if ch i=true then L P n l0.toArray (fun x e' w'=>(x= .normal/\∃K',(K'=K\/al i=true)/\K' w'/\FP P n l0 PQ ch al Q rest K' e' w')\/∃c,x= .panic c/\PQ c w') [o] e w
  else ∃v,((Region.wanted o (k3 l0.toArray e)=true/\∀w',K w'->Mp0 P (execOp (ev e) o) v w')\/(Region.wanted o (k3 l0.toArray e)=false/\v=undef))/\FP P n l0 PQ ch al Q rest K (m3 e o.dst v) w
section
variable {P:Program}[Ctx P]{n:Nat}{l0:List Oper}{PQ:List PanicEntry->World->Prop}{K:World->Prop}{ch al:Nat->Bool}{Q:Env->World->Prop}{rest:List Nat}{e:Env}{w:World}{d:Nat}{op:Op}{ty:TypeId}{ps:String}{af:Array Edge}{v:Value}{i:Nat}{o:Oper}
theorem FP.nil (h:Q e w):FP P n l0 PQ ch al Q [] K e w:=h
theorem FP.va (hl:l0[i]? =some ⟨some d,op,ty,ps,af,none⟩) (hc:ch i=false) (hr:∀w',K w'->Does P (execOp (ev e) ⟨some d,op,ty,ps,af,none⟩) w' (.val v) w') (k:FP P n l0 PQ ch al Q rest K (upd e d v) w):FP P n l0 PQ ch al Q (i::rest) K e w :=
 ⟨_,hl,by rw[if_neg (by simp[hc])];exact⟨v,.inl ⟨rfl,fun w' h=>.inl (hr w' h)⟩,k⟩⟩
theorem FP.call {f:FuncId} {args:Array Value} (hl:l0[i]? =some ⟨some d,op,ty,ps,af,none⟩) (hc:ch i=false) (hr:∀w',K w'->Does P (execOp (ev e) ⟨some d,op,ty,ps,af,none⟩) w' (.enter f args) w') (hk:∀w',K w'->C P f args w' fun r w''=>r=v/\w''=w') (k:FP P n l0 PQ ch al Q rest K (upd e d v) w):FP P n l0 PQ ch al Q (i::rest) K e w :=
 ⟨_,hl,by rw[if_neg (by simp[hc])];exact⟨v,.inl ⟨rfl,fun w' h=>.inr ⟨f,args,hr w' h,hk w' h⟩⟩,k⟩⟩
theorem FP.doo (hl:l0[i]? =some o) (hc:ch i=true) (h:L P n l0.toArray (fun x e' w'=>(x= .normal/\∃K',(K'=K\/al i=true)/\K' w'/\FP P n l0 PQ ch al Q rest K' e' w')\/∃c,x= .panic c/\PQ c w') [o] e w):FP P n l0 PQ ch al Q (i::rest) K e w :=
 ⟨_,hl,by rw[if_pos hc];exact h⟩
end
def Ug0 (l0:List Oper) (os:List Nat) (al:Nat->Bool):Bool:=(List.range os.length).all fun b=>match os[b]? with
 |none=>false
 |some y=>!al y ||(os.take b).all fun x=>(Z6 l0 l0.length [y]).contains x
def Ox0 (os:List Nat) (al:Nat->Bool) (V:(Nat->Bool)->Prop):Prop:=∀pre c suf,os=pre++c::suf->al c=true->∀D,V D->D c=true->∀j∈pre,D j=true
theorem Ji0 {l0:List Oper} {os:List Nat} {al:Nat->Bool} {V:(Nat->Bool)->Prop} (Z9:∀D,V D->∀i o,l0[i]? =some o->D i=true->j7 o D) (h:Ug0 l0 os al=true):Ox0 os al V:=by
 intro pre c suf he hc D hD hDc j hj;have h1:=List.all_eq_true.1 h pre.length (List.mem_range.2 (by rw[he];simp));have hy:os[pre.length]? =some c:=by rw[he];simp
 rw[hy]at h1;simp only[hc,Bool.not_true,Bool.false_or]at h1;have ht:os.take pre.length=pre:=by rw[he];simp
 rw[ht]at h1;exact G6 Z9 hD l0.length [c] (fun q hq=>by simp at hq;rw[hq];exact hDc) j (List.contains_iff_mem.1 (List.all_eq_true.1 h1 j hj))
structure FJ (P:Program) [Ctx P] (n:Nat) (l0:List Oper) (k:Nat) (PQ:List PanicEntry->World->Prop) (K:World->Prop) (ch al:Nat->Bool) (Q:Env->World->Prop) (os:List Nat) (e0:Env) (D:Nat->Bool) (pre suf:List Nat) (e es:Env) (w:World):Prop where
 cat:os=pre++suf
 fl:FP P n l0 PQ ch al Q suf K es w
 done:∀x∈pre,ch x=true->D x=true
 sub:∀j,j<k->D j=true->j∈pre
 kD:K w
 hit:∀j o t,j<k->l0[j]? =some o->o.dst=some t->D j=true->e t=es t
 mk0:∀t,(∀j o,j<k->l0[j]? =some o->o.dst=some t->D j=false)->e t=e0 t
 out:∀t,(∀j o,l0[j]? =some o->j∈pre->o.dst≠some t)->es t=e0 t
 wait:∀j∈pre,D j=false->∃o E v,l0[j]? =some o/\(∀t∈o.looksAt l0.toArray,E t=es t)/\(∀t,o.dst=some t->es t=v) /\
  ((Region.wanted o (k3 l0.toArray E)=true/\∀w',K w'->Mp0 P (execOp (ev E) o) v w')\/(Region.wanted o (k3 l0.toArray E)=false/\v=undef))
 rep:∃a,Rep n a es
section
variable {P:Program}[Ctx P]{n:Nat}{l0:List Oper}{k:Nat}{PQ:List PanicEntry->World->Prop}{K:World->Prop}{ch al:Nat->Bool}{Q:Env->World->Prop}{os:List Nat}{e0:Env}{D:Nat->Bool}{V:(Nat->Bool)->Prop}
theorem FJ.look (h:sk0 n l0.toArray k) (ho:kk0 l0 k ch os V) {pre suf:List Nat} {i:Nat} {e es:Env} {w:World} (hI:FJ P n l0 k PQ K ch al Q os e0 D pre (i::suf) e es w) (hc:ch i=false):∃es',FJ P n l0 k PQ K ch al Q os e0 D (pre ++ [i]) suf e es' w:=by
 obtain⟨o,hl,hf⟩:=hI.fl;rw[if_neg (by simp[hc])]at hf;obtain⟨v,hv,hf⟩:=hf;have hla:l0.toArray[i]? =some o:=by simpa using hl
 have ai1:D i=false:=by
  cases hD:D i with
  |false=>rfl
  |true=>exact absurd (hI.sub i (ho.lt i (by rw[hI.cat];simp)) hD) (ho.nodup pre i suf hI.cat)
 have aj1:=h.dst i o hla;have hik:i<k:=ho.lt i (by rw[hI.cat];simp);have hpk:∀j∈pre,j<k:=fun j hj=>ho.lt j (by rw[hI.cat];exact List.mem_append_left _ hj);have D1:∀t,o.dst=some t->∀j p,j<k->l0[j]? =some p->p.dst=some t->j=i:=fun t ht j p hj hp hpt=>h.one j i p o t hj hik (by simpa using hp) hla hpt ht;refine⟨m3 es o.dst v,⟨by rw[hI.cat];simp,hf,fun x hx hcx=>?_,fun j hj hD=>List.mem_append_left _ (hI.sub j hj hD),hI.kD,fun j p t hjk hp ht hD=>?_,hI.mk0,fun t e8=>?_,fun j hj hD=>?_,?_⟩⟩
 ·rcases List.mem_append.1 hx with hx|hx
  ·exact hI.done x hx hcx
  ·simp at hx;subst hx;rw[hc]at hcx;cases hcx
 ·rw[hI.hit j p t hjk hp ht hD];cases hd:o.dst with
  |none=>rfl
  |some d=>
   have:t≠d:=fun hh=>by
    have:=D1 d hd j p hjk hp (by rw[ht,hh]);subst this;rw[ai1]at hD;cases hD
   exact(upd_ne _ _ this).symm
 ·cases hd:o.dst with
  |none=>exact hI.out t (fun j p hp hj=>e8 j p hp (List.mem_append_left _ hj))
  |some d=>
   have:t≠d:=fun hh=>e8 i o hl (List.mem_append_right _ (by simp)) (by rw[hd,hh]);show upd es d v t=e0 t;rw[upd_ne _ _ this];exact hI.out t (fun j p hp hj=>e8 j p hp (List.mem_append_left _ hj))
 ·rcases List.mem_append.1 hj with hjp|hj
  ·obtain⟨p,E,u,hp,hE,hu,hr⟩:=hI.wait j hjp hD;have D3:∀t,(t∈p.looksAt l0.toArray\/p.dst=some t)->m3 es o.dst v t=es t:=by
    intro t ht;cases hd:o.dst with
    |none=>rfl
    |some d=>
     refine upd_ne _ _ (fun hh=>?_);subst hh;rcases ht with ht|ht
     ·obtain⟨x,hx,hb,rfl⟩:=h.look j i p o t (hpk j hjp) hik (by simpa using hp) hla hd ht;obtain⟨q1,q2,hq⟩:=List.append_of_mem hjp;obtain⟨p',hp',Dr0⟩:=ho.Tz0 q1 j (q2++x.on::suf) (by rw[hI.cat,hq];simp);obtain rfl:p'=p:=Option.some.inj (hp'.symm.trans hp);have hin:=Dr0 x hx hb;exact ho.nodup pre x.on suf hI.cat (by rw[hq];exact List.mem_append_left _ hin)
     ·have:=D1 t hd j p (hpk j hjp) hp ht;subst this;exact ho.nodup pre j suf hI.cat hjp
   exact⟨p,E,u,hp,fun t ht=>(hE t ht).trans (D3 t (.inl ht)).symm,fun t ht=>(D3 t (.inr ht)).trans (hu t ht),hr⟩
  ·simp at hj;subst hj;refine⟨o,es,v,hl,fun t ht=>?_,fun t ht=>by rw[ht];exact upd_same _ _ _,hv⟩;cases hd:o.dst with
   |none=>rfl
   |some d=>
    have hdt:t≠d:=fun hh=>by
     subst hh;obtain⟨x,hx,hb,he⟩:=h.look j j o o t hik hik hla hla hd ht;have:=h.back j o hla x hx hb;omega
    exact(upd_ne es v hdt).symm
 ·obtain⟨a,ha⟩:=hI.rep;exact⟨_,ha.put aj1 v⟩
theorem FJ.norm (h:sk0 n l0.toArray k) (ho:kk0 l0 k ch os V):∀(suf pre:List Nat) {e es:Env} {w:World},FJ P n l0 k PQ K ch al Q os e0 D pre suf e es w->∃ak1 Oy0 es',FJ P n l0 k PQ K ch al Q os e0 D ak1 Oy0 e es' w/\(Oy0=[]\/∃c r,Oy0=c::r/\ch c=true)
 | [],pre,_,es,_,hI=>⟨pre,[],es,hI,.inl rfl⟩
 |i::suf,pre,_,es,_,hI=>by
  cases hc:ch i with
  |true=>exact⟨pre,i::suf,es,hI,.inr ⟨i,suf,rfl,hc⟩⟩
  |false=>
   obtain⟨es',hI'⟩:=hI.look h ho hc;exact FJ.norm h ho suf _ hI'
theorem FJ.looks (h:sk0 n l0.toArray k) {pre suf:List Nat} {e es:Env} {w:World} (ho:kk0 l0 k ch os V) (hI:FJ P n l0 k PQ K ch al Q os e0 D pre suf e es w) {i:Nat} (hik:i<k) {o:Oper} (hl:l0[i]? =some o) (fb0:j7 o D):∀t∈o.looksAt l0.toArray,e t=es t:=by
 intro t ht;by_cases hex:∃(j:Nat) (p:Oper),j<k/\l0[j]? =some p/\p.dst=some t
 ·obtain⟨j,p,hj,hp,hd⟩:=hex;obtain⟨x,hx,hb,rfl⟩:=h.look i j o p t hik hj (by simpa using hl) (by simpa using hp) hd ht;exact hI.hit x.on p t hj hp hd (fb0 x hx hb)
 ·rw[hI.mk0 t (fun j p hj hp hd=>absurd ⟨j,p,hj,hp,hd⟩ hex),hI.out t (fun j p hp hj hd=>hex ⟨j,p,ho.lt j (by rw[hI.cat];exact List.mem_append_left _ hj),hp,hd⟩)]
end
theorem Ds0 {P:Program} [Ctx P] {n:Nat} {l0:List Oper} {k:Nat} {PQ:List PanicEntry->World->Prop} {ch al:Nat->Bool} {Q:Env->World->Prop} {os:List Nat} {e0:Env} {V:(Nat->Bool)->Prop} (h:sk0 n l0.toArray k) (ho:kk0 l0 k ch os V) (hk:k <=l0.length) (hal:Ox0 os al V)
  (cj0:∀D,V D->∀i,k <=i->i<l0.toArray.size->D i=true->∀j,j<i->D j=true) (_hdeps:∀D,V D->∀i o,l0[i]? =some o->D i=true->j7 o D)
  {Q':Exit->Act->World->Prop} (hPQ:∀c w a e,Rep n a e->PQ c w->Q' (.panic c) a w) (hQ:∀a w e,Rep n a e->Q e w->wpOps P l0.toArray Q' (List.range' k (l0.toArray.size-k)) a w) :
  ∀{listed:Array Bool} {σ:List Nat},Lin l0.toArray listed σ->(∀τ ρ,σ=τ++ρ->V (fun j=>listed.getD j false ||τ.contains j)) ->
   ∀(K:World->Prop) (a:Act) (e es:Env) (w:World) (pre suf:List Nat),listed.size=l0.toArray.size->(∀j,k <=j->listed.getD j false=false)->Rep n a e->FJ P n l0 k PQ K ch al Q os e0 (fun j=>listed.getD j false) pre suf e es w->(suf=[]\/∃c r,suf=c::r/\ch c=true)->wpOps P l0.toArray Q' σ a w:=by
 have fin:∀{K:World->Prop} {D:Nat->Bool} {e es:Env} {w:World} {pre suf:List Nat},(∀j,j<k->D j=true)->(∀j,k <=j->D j=false)->FJ P n l0 k PQ K ch al Q os e0 D pre suf e es w->(suf=[]\/∃c r,suf=c::r/\ch c=true)->Q e w:=by
  intro K D e es w pre suf hD hD2 hI hs;have al1:suf=[]:=by
   rcases hs with hs|⟨c,r,rfl,_⟩
   ·exact hs
   ·have y6:=ho.lt c (by rw[hI.cat];simp);exact absurd (hI.sub c y6 (hD c y6)) (ho.nodup pre c r hI.cat)
  subst al1;have he:e=es:=by
   funext t;by_cases hex:∃(j:Nat) (p:Oper),j<k/\l0[j]? =some p/\p.dst=some t
   ·obtain⟨j,p,hj,hp,hd⟩:=hex;exact hI.hit j p t hj hp hd (hD j hj)
   ·rw[hI.mk0 t (fun j p hj hp hd=>absurd ⟨j,p,hj,hp,hd⟩ hex),hI.out t (fun j p hp hj hd=>hex ⟨j,p,ho.lt j (by rw[hI.cat];simpa using hj),hp,hd⟩)]
  rw[he];exact hI.fl
 intro listed σ H6
 induction H6 with
 | @nil listed hr=>
  intro _ K a e es w pre suf hs hkf ha hI hsf;have K6:=kj0 h.bk hs hr;have hkl:l0.toArray.size <=k:=by
   rcases Nat.lt_or_ge k l0.toArray.size with h3|h3
   ·have:=K6 k h3;rw[hkf k (Nat.le_refl _)]at this;cases this
   ·exact h3
  have:=hQ a w e ha (fin (fun j hj=>K6 j (by simp;omega)) hkf hI hsf);rw[show l0.toArray.size-k=0 by omega]at this;exact this
 | @cons listed i σ hi hl ih=>
  intro hV K a e es w pre suf hs hkf ha hI hsf;have hi0:=hi;obtain⟨h1,o,fl0,fb0⟩:=mem_ready.1 hi;have hlo:l0[i]? =some o:=by simpa using fl0
  have hio:i<l0.toArray.size:=(Array.getElem?_eq_some_iff.1 fl0).1;have g8:i<listed.size:=by omega
  have hDi:listed.getD i false=false:=by
   simp only[Array.getD_eq_getD_getElem?,g8,Array.getElem?_eq_getElem,Option.getD_some]at h1⊢;exact h1
  have hVD:V (fun j=>listed.getD j false)/\V (N6 (fun j=>listed.getD j false) i):=by
   constructor
   ·have:=hV [] (i::σ) rfl;have e1:(fun j=>listed.getD j false ||([]:List Nat).contains j)=fun j=>listed.getD j false:=funext fun j=>by simp
    rw[e1]at this;exact this
   ·have:=hV [i] σ rfl;have e1:(fun j=>listed.getD j false ||([i]:List Nat).contains j)=N6 (fun j=>listed.getD j false) i:=funext fun j=>by
     unfold N6;by_cases hj:j=i
     ·simp[hj]
     ·simp[hj]
    rw[e1]at this;exact this
  by_cases hik:k <=i
  ·have E7:∀j,j<i->listed.getD j false=true:=fun j hj=>by
    have:=cj0 _ hVD.2 i hik hio (by simp[N6]) j hj;unfold N6 at this;rw[if_neg (by omega)]at this;exact this
   have X8:i=k:=by
    rcases Nat.lt_or_ge k i with h3|h3
    ·have:=E7 k h3;rw[hkf k (Nat.le_refl _)]at this;cases this
    ·omega
   subst X8;rw[ug0 (V:=V) h.bk (.cons hi0 hl) i (by omega) hs E7 (fun j hj=>hkf j hj) cj0 hV];exact hQ a w e ha (fin E7 hkf hI hsf)
  ·have hik:i<k:=by omega
   have hV':∀τ ρ,σ=τ++ρ->V (fun j=>(listed.setIfInBounds i true).getD j false ||τ.contains j):=by
    intro τ ρ hσ;have:=hV (i::τ) ρ (by rw[hσ];rfl);have e1:(fun j=>listed.getD j false ||(i::τ).contains j)=fun j=>(listed.setIfInBounds i true).getD j false ||τ.contains j:=by
     funext j;by_cases hj:i=j
     ·subst hj;simp[g8]
     ·rw[getD_set_ne false hj];simp[Ne.symm hj]
    rw[e1]at this;exact this
   have Uh0:∀j,k <=j->(listed.setIfInBounds i true).getD j false=false:=fun j hj=>by rw[getD_set_ne false (by omega)];exact hkf j hj
   have hlk:=hI.looks h ho hik hlo fb0;have As0:(fun j=>(listed.setIfInBounds i true).getD j false)=N6 (fun j=>listed.getD j false) i:=sh0 g8;have hD1:N6 (fun j=>listed.getD j false) i i=true:=by simp[N6]
   have hDn:∀j,j≠i->N6 (fun j=>listed.getD j false) i j=listed.getD j false:=fun j hj=>by simp[N6,hj]
   have mem:i∈pre\/i∈suf:=by have:=ho.all i hik;rw[hI.cat]at this;exact List.mem_append.1 this
   rcases mem with hip|his
   ·
    obtain⟨o',E,v,x5,hE,hu,hr⟩:=hI.wait i hip hDi;obtain rfl:o'=o:=Option.some.inj (x5.symm.trans hlo);have hEe:∀t∈o'.looksAt l0.toArray,e t=E t:=fun t ht=>(hlk t ht).trans (hE t ht).symm;have hex:=S8 (h.sel i o' hik fl0) hEe;have hwa:=T8 hEe;have next:wpOps P l0.toArray Q' σ (a.put o'.dst v) w:=by
     refine ih hV' K _ (m3 e o'.dst v) es w pre suf (by simp[hs]) Uh0 (ha.put (h.dst i o' fl0) v) ?_ hsf;rw[As0];refine⟨hI.cat,hI.fl,fun x hx hc=>?_,fun j hj hD=>?_,hI.kD,fun j p t hjk hp ht hD=>?_,fun t e8=>?_,hI.out,fun j hj hD=>?_,hI.rep⟩
     ·by_cases hxi:x=i
      ·subst hxi;exact hD1
      ·rw[hDn x hxi];exact hI.done x hx hc
     ·by_cases o3:j=i
      ·subst o3;exact hip
      ·rw[hDn j o3]at hD;exact hI.sub j hj hD
     ·by_cases o3:j=i
      ·subst o3;obtain rfl:p=o':=Option.some.inj (hp.symm.trans hlo);rw[ht];exact(upd_same _ _ _).trans (hu t ht).symm
      ·rw[hDn j o3]at hD;cases hd:o'.dst with
       |none=>exact hI.hit j p t hjk hp ht hD
       |some d=>
        have:t≠d:=fun hh=>o3 (h.one j i p o' t hjk hik (by simpa using hp) fl0 ht (by rw[hd,hh]));exact(upd_ne _ _ this).trans (hI.hit j p t hjk hp ht hD)
     ·have hnt:o'.dst≠some t:=fun hh=>by have:=e8 i o' hik hlo hh;rw[hD1]at this;cases this
      have hm:=hI.mk0 t (fun j p hjk hp hd=>by
       have:=e8 j p hjk hp hd;by_cases o3:j=i
       ·subst o3;exact hDi
       ·rwa [hDn j o3]at this)
      cases hd:o'.dst with
      |none=>exact hm
      |some d=>exact(upd_ne _ _ (fun hh=>hnt (by rw[hd,hh]))).trans hm
     ·have o3:j≠i:=fun hh=>by subst hh;rw[hD1]at hD;cases hD
      rw[hDn j o3]at hD;exact hI.wait j hj hD
    unfold wpOps;rw[fl0];simp only;rw[v5 ha,hwa];rcases hr with⟨hw,hr⟩|⟨hw,hv⟩
    ·rw[if_pos hw];rcases hr w hI.kD with h9|⟨f,args,h9,hc9⟩
     ·exact P7 (r:=.val v) (w':=w) (by rw[ha.eval,hex];exact h9) next
     ·refine P7 (r:=.enter f args) (w':=w) (by rw[ha.eval,hex];exact h9) (Calls.mono hc9 fun x w'' hx=>?_);cases x with
      |returned u=>obtain⟨rfl,rfl⟩:=hx;exact next
      |panicked c=>exact hx.elim
      |outgrown=>exact hx.elim
    ·rw[if_neg (by rw[hw];simp),<- hv];exact next
   ·
    rcases hsf with hsf|⟨c,r,rfl,hc⟩
    ·rw[hsf]at his;cases his
    have hic:i=c:=by
     rcases List.mem_cons.1 his with h9|h9
     ·exact h9
     ·exfalso;obtain⟨m1,m2,hm⟩:=List.append_of_mem h9;have:=ho.wait pre c m1 i m2 (by rw[hI.cat,hm];simp) hc _ hVD.2 hD1;have hci:c≠i:=fun hh=>by
       subst hh;exact ho.nodup (pre++c::m1) c m2 (by rw[hI.cat,hm];simp) (by simp)
      rw[hDn c hci]at this;exact ho.nodup pre c r hI.cat (hI.sub c (ho.lt c (by rw[hI.cat];simp)) this)
    subst hic;obtain⟨o',x5,hf⟩:=hI.fl;obtain rfl:o'=o:=Option.some.inj (x5.symm.trans hlo);rw[if_pos hc]at hf;obtain⟨asx,has⟩:=hI.rep;have hfa:=hf (fun q hq=>by simp at hq;subst hq;exact h.dst i q fl0) asx has;have hex:=S8 (h.sel i o' hik fl0) hlk;have hwa:=T8 hlk;have next:∀v w' (K':World->Prop),(K'=K\/al i=true)->K' w'->FP P n l0 PQ ch al Q r K' (m3 es o'.dst v) w'->wpOps P l0.toArray Q' σ (a.put o'.dst v) w':=by
     intro v w' K' hKK hK hfl;have hI':FJ P n l0 k PQ K' ch al Q os e0 (N6 (fun j=>listed.getD j false) i) (pre ++ [i]) r (m3 e o'.dst v) (m3 es o'.dst v) w':=by
      have D1:∀t,o'.dst=some t->∀j p,j<k->l0[j]? =some p->p.dst=some t->j=i:=fun t ht j p hjk hp hpt=>h.one j i p o' t hjk hik (by simpa using hp) fl0 hpt ht;have hpk:∀j∈pre,j<k:=fun j hj=>ho.lt j (by rw[hI.cat];exact List.mem_append_left _ hj);refine⟨by rw[hI.cat];simp,hfl,fun x hx hcx=>?_,fun j hj hD=>?_,hK,fun j p t hjk hp ht hD=>?_,fun t e8=>?_,fun t e8=>?_,fun j hj hD=>?_,⟨_,has.put (h.dst i o' fl0) v⟩⟩
      ·by_cases hxi:x=i
       ·subst hxi;exact hD1
       ·rw[hDn x hxi];rcases List.mem_append.1 hx with hx|hx
        ·exact hI.done x hx hcx
        ·simp at hx;exact absurd hx hxi
      ·by_cases o3:j=i
       ·subst o3;simp
       ·rw[hDn j o3]at hD;exact List.mem_append_left _ (hI.sub j hj hD)
      ·by_cases o3:j=i
       ·subst o3;obtain rfl:p=o':=Option.some.inj (hp.symm.trans hlo);rw[ht];exact(upd_same _ _ _).trans (upd_same _ _ _).symm
       ·rw[hDn j o3]at hD;cases hd:o'.dst with
        |none=>exact hI.hit j p t hjk hp ht hD
        |some d=>
         have:t≠d:=fun hh=>o3 (D1 d hd j p hjk hp (by rw[ht,hh]));show upd e d v t=upd es d v t;rw[upd_ne _ _ this,upd_ne _ _ this];exact hI.hit j p t hjk hp ht hD
      ·have hnt:o'.dst≠some t:=fun hh=>by have:=e8 i o' hik hlo hh;rw[hD1]at this;cases this
       have hm:=hI.mk0 t (fun j p hjk hp hd=>by
        have:=e8 j p hjk hp hd;by_cases o3:j=i
        ·subst o3;exact hDi
        ·rwa [hDn j o3]at this)
       cases hd:o'.dst with
       |none=>exact hm
       |some d=>exact(upd_ne _ _ (fun hh=>hnt (by rw[hd,hh]))).trans hm
      ·have hnt:o'.dst≠some t:=e8 i o' hlo (by simp);have hm:=hI.out t (fun j p hp hj=>e8 j p hp (List.mem_append_left _ hj));cases hd:o'.dst with
       |none=>exact hm
       |some d=>exact(upd_ne _ _ (fun hh=>hnt (by rw[hd,hh]))).trans hm
      ·have o3:j≠i:=fun hh=>by subst hh;rw[hD1]at hD;cases hD
       rw[hDn j o3]at hD;have hjp:j∈pre:=by
        rcases List.mem_append.1 hj with hj|hj
        ·exact hj
        ·simp at hj;exact absurd hj o3
       rcases hKK with rfl|hKK
       rotate_left
       ·exfalso;have:=hal pre i r hI.cat hKK _ hVD.2 hD1 j hjp;rw[hDn j o3,hD]at this;cases this
       obtain⟨p,E,u,hp,hE,hu,hr⟩:=hI.wait j hjp hD;have D3:∀t,(t∈p.looksAt l0.toArray\/p.dst=some t)->m3 es o'.dst v t=es t:=by
        intro t ht;cases hd:o'.dst with
        |none=>rfl
        |some d=>
         refine upd_ne _ _ (fun hh=>?_);subst hh;rcases ht with ht|ht
         ·obtain⟨x,hx,hb,rfl⟩:=h.look j i p o' t (hpk j hjp) hik (by simpa using hp) fl0 hd ht;obtain⟨q1,q2,hq⟩:=List.append_of_mem hjp;obtain⟨p',hp',Dr0⟩:=ho.Tz0 q1 j (q2++x.on::r) (by rw[hI.cat,hq];simp);obtain rfl:p'=p:=Option.some.inj (hp'.symm.trans hp);have hin:=Dr0 x hx hb;exact ho.nodup pre x.on r hI.cat (by rw[hq];exact List.mem_append_left _ hin)
         ·exact o3 (D1 t hd j p (hpk j hjp) hp ht)
       exact⟨p,E,u,hp,fun t ht=>(hE t ht).trans (D3 t (.inl ht)).symm,fun t ht=>(D3 t (.inr ht)).trans (hu t ht),hr⟩
     obtain⟨am1,an1,es2,hI2,hs2⟩:=FJ.norm h ho r _ hI';exact ih hV' K' _ _ es2 w' am1 an1 (by simp[hs]) Uh0 (ha.put (h.dst i o' fl0) v) (by rw[As0];exact hI2) hs2
    have nx:∀v w',lift n (fun x e' w'=>(x=Exit.normal/\∃K',(K'=K\/al i=true)/\K' w'/\FP P n l0 PQ ch al Q r K' e' w')\/∃c,x=Exit.panic c/\PQ c w') .normal (asx.put o'.dst v) w'->wpOps P l0.toArray Q' σ (a.put o'.dst v) w':=by
     rintro v w' ⟨e',hre,h9⟩;rcases h9 with⟨_,K',hKK,hK,hfl⟩|⟨c,h9,_⟩
     rotate_left
     ·cases h9
     have:e'=m3 es o'.dst v:=Rep.ext hre (has.put (h.dst i o' fl0) v);rw[this]at hfl;exact next v w' K' hKK hK hfl
    unfold wpOps;rw[fl0];simp only;rw[v5 ha,hwa];unfold wpList at hfa;rw[v5 has]at hfa;split at hfa
    ·rename_i hw;rw[if_pos hw];intro τ d;obtain⟨rr,w',h1,h2⟩:=hfa τ d;rw[has.eval]at h1;refine⟨rr,w',by rw[ha.eval,hex];exact h1,?_⟩;cases rr with
     |val u=>exact nx u _ h2
     |skip=>exact nx undef _ h2
     |enter f args=>
      refine Calls.mono h2 fun x w'' hx=>?_;cases x with
      |returned u=>exact nx u w'' hx
      |panicked ch=>
       obtain⟨e9,_,h9⟩:=hx;rcases h9 with⟨h9,_⟩|⟨c,h9,hp9⟩
       ·cases h9
       ·cases h9;exact hPQ _ _ _ _ ha hp9
      |outgrown=>exact hx.elim
     |panic u=>
      obtain⟨e9,_,h9⟩:=h2;rcases h9 with⟨h9,_⟩|⟨c,h9,hp9⟩
      ·cases h9
      ·cases h9;exact hPQ _ _ _ _ ha hp9
    ·rename_i hw;rw[if_neg hw];exact nx undef w hfa
theorem Mq0 {P:Program} [Ctx P] {n:Nat} {l:List Oper} {Q:Exit->Env->World->Prop} {e:Env} {w:World} {k:Nat} {ch al:Nat->Bool} {os:List Nat} {PQ:List PanicEntry->World->Prop} {K:World->Prop} {σ:List Nat} (ho:sk0 n l.toArray k) (hA:mv0 l k=true) (hkl:k <=l.length) (hoo:kk0 l k ch os (Pre σ)) (hal:Ox0 os al (Pre σ)) (H6:Lin l.toArray (Array.replicate l.toArray.size false) σ) (Z9:∀D,Pre σ D->∀i o,l[i]? =some o->D i=true->j7 o D)
  (hPQ:∀c w e,PQ c w->Q (.panic c) e w) (hK:K w) (h:FP P n l PQ ch al (fun e' w'=>L P n l.toArray Q (l.drop k) e' w') os K e w) {a:Act} (ha:Rep n a e):wpOps P l.toArray (lift n Q) σ a w:=by
 have h0:FJ P n l k PQ K ch al (fun e' w'=>L P n l.toArray Q (l.drop k) e' w') os e (fun j=>(Array.replicate l.toArray.size false).getD j false) [] os e e w :=
  ⟨rfl,h,(fun x hx=>by cases hx),(fun j _ hD=>absurd hD (by rw[Y0];simp)),hK,(fun j o t _ _ _ hD=>absurd hD (by rw[Y0];simp)),(fun t _=>rfl),(fun t _=>rfl),(fun j hj=>by cases hj),⟨a,ha⟩⟩
 obtain⟨pre,suf,es,hI,hs⟩:=FJ.norm ho hoo _ _ h0;refine Ds0 (V:=Pre σ) (PQ:=PQ) ho hoo hkl hal (fun D hD i X8 g8=>kh0 hA Z9 hD i X8 (by simpa using g8)) Z9 (fun c w' a' e' ha' hp=>⟨e',ha',hPQ c w' e' hp⟩) (fun a' w' e' ha' hq=>?_) H6 ?_ K a e es _ pre suf (by simp) (fun j _=>Y0 _ _) ha hI hs
 ·have h4:=hq (fun o' ho'=>by
   obtain⟨i,hi⟩:=List.mem_iff_getElem?.1 ho';rw[List.getElem?_drop]at hi;exact ho.dst (k+i) o' (by simpa using hi)) a' ha'
  have h5:=wpOps_eq_wpList (P:=P) (ops:=l.toArray) (Q:=lift n Q) (l.drop k) k (fun j=>by rw[List.getElem?_drop];simp);rw[List.length_drop]at h5;have h6:l.toArray.size-k=l.length-k:=by simp
  rw[h6,h5];exact h4
 ·intro τ ρ hσ;exact⟨τ,ρ,hσ,fun k=>by show((Array.replicate l.toArray.size false).getD k false ||τ.contains k)=true↔_;rw[Y0];simp⟩
theorem FL.fp {P:Program} [Ctx P] {n:Nat} {l0:List Oper} {K:World->Prop} {ch:Nat->Bool} {Q:Env->World->Prop}:∀{os:List Nat} {e:Env} {w:World},FL P n l0 K ch Q os e w->FP P n l0 (fun _ _=>False) ch (fun _=>false) Q os K e w
 | [],_,_,h=>h
 |i::rest,e,w,⟨o,hl,h⟩=>by
  refine⟨o,hl,?_⟩;split at h
  ·rename_i hc;rw[if_pos hc];intro hd a ha;exact ac0 (fun x a w h=>by
    obtain⟨e',h1,h2,h3,h4⟩:=h;exact⟨e',h1,.inl ⟨h2,K,.inl rfl,h3,FL.fp h4⟩⟩) _ _ _ (h hd a ha)
  ·rename_i hc;rw[if_neg hc];obtain⟨v,h1,h2⟩:=h;exact⟨v,h1.imp (fun h=>⟨h.1,fun w' k=>.inl (h.2 w' k)⟩) id,FL.fp h2⟩
theorem Ui0 {P:Program} [Ctx P] {n:Nat} {l:List Oper} {Q:Exit->Env->World->Prop} {e:Env} {w:World} {k:Nat} {ch:Nat->Bool} {os:List Nat} {K:World->Prop} {σ:List Nat} (ho:sk0 n l.toArray k) (hA:mv0 l k=true) (hkl:k <=l.length) (hoo:kk0 l k ch os (Pre σ)) (H6:Lin l.toArray (Array.replicate l.toArray.size false) σ) (Z9:∀D,Pre σ D->∀i o,l[i]? =some o->D i=true->j7 o D) (hK:K w) (h:FL P n l K ch (fun e' w'=>L P n l.toArray Q (l.drop k) e' w') os e w) {a:Act} (ha:Rep n a e):wpOps P l.toArray (lift n Q) σ a w :=
 Mq0 ho hA hkl hoo (fun _ _ _ _ hc=>by cases hc) H6 Z9 (fun _ _ _ h=>h.elim) hK h.fp ha
theorem W.fl {P:Program} [Ctx P] {n:Nat} {id:Nat} {l:List Oper} {Q:Exit->Env->World->Prop} {e:Env} {w:World} (k:Nat) (ch:List Nat) (os:List Nat) (K:World->Prop) (hm:P.follows .mixedOrders=true) (hB:zi0 n l.toArray k=true) (hA:mv0 l k=true) (hk:Nat.ble k l.length=true) (hO:zh0 l k (fun i=>ch.contains i) os=true)
  (hK:K w.drew) (h:FL P n l K (fun i=>ch.contains i) (fun e' w'=>L P n l.toArray Q (l.drop k) e' w') os e w.drew):W P n (.region id l.toArray true) Q e w:=by
 intro a ha;refine wp_region_draw fun t=>?_;simp only[Region.schedule,hm,Bool.true_or,if_true];have H6:=si0 l.toArray l.toArray.size t (Array.replicate l.toArray.size false) (by simp) (by simp);unfold Region.linearise;generalize Region.linearise.go .any l.toArray l.toArray.size t (Array.replicate l.toArray.size false) []=σ at H6⊢;exact Ui0 (zj0 hB) hA (Nat.le_of_ble_eq_true hk) (uf0 (cq0 H6) (fun p hp=>by cases hp) hO) H6 (cq0 H6) hK h ha
section
end
section
variable {P:Program}[Ctx P]
end
section
variable {P:Program}{ρ:Operand->Value}{w:World}{d:Option Nat}{ty:TypeId}{ps:String}{af:Array Edge}{g:Option (Nat×Bool)}{x y:Operand}{T T' E:TypeId}
theorem wn0 {a:Option Addr} {n c:Nat} {m:Int} {aT:Array TypeId} (hm:((n:Nat):Int)=m) (hx:ρ x= .slice a n c) (hT:P.underlying T=some (.slice E)) (hA:aT[0]? =some T):Does P (execOp ρ ⟨d,.call ⟨.builtin .len,#[x],aT⟩,ty,ps,af,g⟩) w (.val (.int .i64 m)) w :=
 .A1 (E2 rfl _) rfl rfl fun _τ _d=>Go.Vc.wn0 (hm:=hm) (hx:=hx) (hT:=hT) (hA:=hA)
theorem C8 {m k r:Int} (hr:m+k=r) (h:-9223372036854775808 <=r/\r <=9223372036854775807) (hx:ρ x= .int .i64 m) (hy:ρ y= .int .i64 k):Does P (execOp ρ ⟨d,.binOp .add T x y T',ty,ps,af,g⟩) w (.val (.int .i64 r)) w :=
 .A1 (V5 hx hy) rfl rfl fun _τ _d=>Go.Vc.C8 (hr:=hr) (h:=h) (hx:=hx) (hy:=hy)
end
section
variable {P:Program}[Ctx P]
end
section
variable {P:Program}[Ctx P]
end
end Go.Vy
end
section
namespace Go.Vy
open Go Go.Conc Go.Yc
abbrev Hid:=Nat->Option Obj
def over (H:Hid) (u:World):World:={u with heap:=u.heap.mapIdx fun b o=>(H b).getD o}
theorem km0 (H:Hid) (u:World) (b:Nat):(over H u).heap[b]? =(u.heap[b]?).map fun o=>(H b).getD o:=by
 simp[over,Array.getElem?_mapIdx]
theorem o4 (H:Hid) (u:World):(over H u).heap.size=u.heap.size:=by simp[over]
theorem r8 {H:Hid} {u:World} {b:Nat} {o:Obj} (h:H b=some o) (hb:b<u.heap.size):(over H u).heap[b]? =some o:=by
 rw[km0,Array.getElem?_eq_getElem hb];simp[h]
theorem l5 {H:Hid} (u:World) {b:Nat} (h:H b=none):(over H u).heap[b]? =u.heap[b]?:=by
 rw[km0,h];cases u.heap[b]? <;> rfl
structure A6 (H:Hid) (u:World):Prop where
 gone:∀b o,H b=some o->bp0 u b
 view:∀b o,H b=some o->Z3 o=false
theorem _root_.Go.Yc.bp0.lt {u:World} {b:Nat} (h:bp0 u b):b<u.heap.size:=by obtain⟨T,f,h⟩:=h;exact(Array.getElem?_eq_some_iff.1 h).1
theorem A6.evo {H:Hid} {u u':World} (h:A6 H u) (he:L8 u u'):A6 H u':=⟨fun b o hb=>(h.gone b o hb).evo he,h.view⟩
theorem A6.W2 {H:Hid} {u:World} (h:A6 H u) (τ:Tape) (d:Nat):A6 H (Yc.W2 u τ d):=⟨h.gone,h.view⟩
def ig0 (H:Hid) (ρ:Nat->c6) (w:World) (b:Nat):c6:=match H b,w.heap[b]? with
 |some _,some y=>.gone y
 |_,_=>ρ b
theorem D5.under {H:Hid} {ρ:Nat->c6} {u w:World} (hH:A6 H u) (h:D5 ρ (over H u) w):D5 (ig0 H ρ w) u w:=by
 refine⟨h.os,h.output,h.tape,h.drawn,by rw[h.size,o4],fun b x hx=>?_,fun b hb=>?_,fun b x hx=>?_⟩
 ·have R2:=(Array.getElem?_eq_some_iff.1 hx).1;cases hb:H b with
  |none=>
   obtain⟨y,h1,h2⟩:=h.obj b x (by rw[l5 u hb];exact hx);exact⟨y,h1,by simp only[ig0,hb];exact h2⟩
  |some o=>
   obtain⟨y,h1,h2⟩:=h.obj b o (r8 hb R2);obtain⟨T,f,hg⟩:=hH.gone b o hb;rw[hx]at hg;obtain rfl:=Option.some.inj hg;exact⟨y,h1,by simp only[ig0,hb,h1];exact .gone _ _ _⟩
 ·cases g7:H b with
  |none=>simp only[ig0,g7];exact h.new b (by rw[o4];exact hb)
  |some o=>have:=(hH.gone b o g7).lt;omega
 ·cases hb:H b with
  |none=>exact h.u6 b x (by rw[l5 u hb];exact hx)
  |some o=>
   obtain⟨T,f,hg⟩:=hH.gone b o hb;rw[hx]at hg;obtain rfl:=Option.some.inj hg;rfl
theorem D5.over {H:Hid} {ρ:Nat->c6} {u u' w w':World} (hH:A6 H u) (h:D5 ρ (over H u) w) (he:L8 u u') (h':D5 (ig0 H ρ w) u' w'):D5 ρ (Vy.over H u') w':=by
 have hH':=hH.evo he;refine⟨h'.os,h'.output,h'.tape,h'.drawn,by rw[h'.size,o4],fun b x hx=>?_,fun b hb=>?_,fun b x hx=>?_⟩
 ·cases hb:H b with
  |none=>
   rw[l5 u' hb]at hx;obtain⟨y,h1,h2⟩:=h'.obj b x hx;simp only[ig0,hb]at h2;exact⟨y,h1,h2⟩
  |some o=>
   have R2:=(hH.gone b o hb).lt;obtain⟨T,f,hg⟩:=hH'.gone b o hb;rw[r8 hb (hH'.gone b o hb).lt]at hx;obtain rfl:=Option.some.inj hx;obtain⟨y,h1,h2⟩:=h.obj b o (r8 hb R2);obtain⟨y',h3,h4⟩:=h'.obj b _ hg;simp only[ig0,hb,h1]at h4;cases h4;exact⟨y,h3,h2⟩
 ·rw[o4]at hb;have:=h'.new b hb;cases g7:H b with
  |none=>simp only[ig0,g7]at this;exact this
  |some o=>have:=(hH'.gone b o g7).lt;omega
 ·cases hb:H b with
  |none=>exact h'.u6 b x (by rw[l5 u' hb]at hx;exact hx)
  |some o=>
   rw[r8 hb (hH'.gone b o hb).lt]at hx;obtain rfl:=Option.some.inj hx;exact hH.view b o hb
theorem Dt0 {H:Hid} {u u':World} (hH:A6 H u) (he:L8 u u'):L8 (over H u) (over H u'):=by
 refine⟨by rw[o4,o4];exact he.size,fun b x hx=>?_⟩;cases hb:H b with
 |none=>
  rw[l5 u hb]at hx;obtain⟨y,h1,h2⟩:=he.obj b x hx;exact⟨y,by rw[l5 u' hb];exact h1,h2⟩
 |some o=>
  rw[r8 hb (hH.gone b o hb).lt]at hx;obtain rfl:=Option.some.inj hx;exact⟨_,r8 hb ((hH.evo he).gone b _ hb).lt,N3.refl _⟩
theorem pp0 {H:Hid} {u:World} (hH:A6 H u) {e:Event} (h:eq0 u e):eq0 (over H u) e:=by
 obtain⟨l,wr,sy⟩:=e;cases l with
 |cell a=>
  intro R2;rw[o4]at R2;obtain⟨⟨v,hv⟩,hw⟩:=h R2;obtain⟨c,T,f,hb,hs,hc⟩:=B4 hv;have hn:H a.block=none:=by
   cases hh:H a.block with
   |none=>rfl
   |some o=>
    obtain⟨T',f',hg⟩:=hH.gone _ _ hh;rw[hb]at hg;cases hg;simp at hc
  have:=p5 (u:=u) (u':=over H u) (a:=a) (l5 u hn);exact⟨⟨v,by rw[this.1];exact hv⟩,fun z=>by rw[this.2];exact hw z⟩
 |obj r=>
  intro R2;rw[o4]at R2;obtain⟨x,hx,hc⟩:=h R2;have hn:H r=none:=by
   cases hh:H r with
   |none=>rfl
   |some o=>
    obtain⟨T',f',hg⟩:=hH.gone _ _ hh;rw[hx]at hg;cases hg;cases hc
  exact⟨x,by rw[l5 u hn];exact hx,hc⟩
 |output=>exact h
 |goroutines=>exact h
 |mark m=>exact h
theorem G7 (H:Hid) (u:World) (τ:Tape) (d:Nat):over H (W2 u τ d)=W2 (over H u) τ d:=rfl
section
variable {P:Program}{main:Bool}{H:Hid}
theorem o5.over {g g':Goroutine} {u u':World} (hH:A6 H u) (h:o5 P main g u g' u'):o5 P main g (Vy.over H u) g' (Vy.over H u')/\(∀ρ w,D5 ρ (Vy.over H u) w->L8 u u'):=by
 obtain⟨hr,h⟩:=h;refine⟨⟨hr,fun ρ w hs=>?_⟩,fun ρ w hs=>(h _ w (D5.under hH hs)).1⟩;obtain⟨he,w',es,h1,h2,h3⟩:=h _ w (D5.under hH hs);exact⟨Dt0 hH he,w',es,h1,D5.over hH hs he h2,fun e hee=>pp0 hH (h3 e hee)⟩
theorem sm0 {fn:Func} {tmps:Array Value} {w:World} {v:Value} (hH:A6 H w) (h:X9 P fn tmps w v):X9 P fn tmps (over H w) v:=by
 intro τ d ρ x hs;rw[<- G7]at hs;obtain⟨x',es,h1,h2,h3⟩:=h τ d _ x (D5.under (hH.W2 τ d) hs);exact⟨x',es,h1,by rw[<- G7];exact D5.over (hH.W2 τ d) hs (L8.refl _) h2,fun e he=>by rw[<- G7];exact pp0 (hH.W2 τ d) (h3 e he)⟩
theorem ih0 {fr:Frame} {w:World} {e:Ending} (hH:A6 H w) (h:Leaves P fr w e):Leaves P fr (over H w) e:=by
 cases e with
 |returned v=>obtain⟨h1,h2,h3,fn,h4,h5⟩:=h;exact⟨h1,h2,h3,fn,h4,sm0 hH h5⟩
 |panicked ch=>exact h
 |outgrown=>exact h
end
section
variable {P:Program}{Post:Value->World->Prop}{X:Gh}{h:Nat}{u:World}
theorem Fin.Bd0 {g:Goroutine} (e4:g.status= .running) (hs:∀τ d,∃g' u',o5 P (h==0) g (W2 u τ d) g' u'/\((∃ρ w,D5 ρ (W2 u τ d) w)->Fin P Post X h g' u')):Fin P Post X h g u:=by
 refine Fin.Q8 e4 fun live T gs w sl d W4 q hg P2 C=>?_;obtain⟨g',u',hF,hK⟩:=hs (w.at d).tape (w.at d).drawn;obtain⟨ρ,gg0,_⟩:=C.O9;obtain⟨w',es,hgo,C',G2⟩:=C.own hg hF;exact Ends.step (P2.trans (runT_crowd_go (sl:=W4) hg hgo)) (hK ⟨ρ,_,gg0⟩ _ _ _ _ _ _ G2 C')
def dq0 (P:Program) (Post:Value->World->Prop) (X:Gh) (h:Nat) (H:Hid) (g:Goroutine) (u:World):Prop:=A6 H u->Fin P Post X h g (over H u)
theorem zm0 {u u':World} {τ:Tape} {d:Nat} (h:L8 (W2 u τ d) u'):L8 u u':=⟨h.size,h.obj⟩
theorem kn0 {H:Hid} {g:Goroutine} (e4:g.status= .running) (hs:∀τ d,∃g' u',o5 P (h==0) g (W2 u τ d) g' u'/\(L8 u u'->dq0 P Post X h H g' u')):dq0 P Post X h H g u:=by
 intro hH;refine Fin.Bd0 e4 fun τ d=>?_;obtain⟨g',u',hF,hK⟩:=hs τ d;obtain⟨h1,h2⟩:=o5.over (hH.W2 τ d) hF;rw[G7]at h1;refine⟨g',over H u',h1,fun⟨ρ,w,hs⟩=>?_⟩;have hE:=zm0 (h2 ρ w (by rw[G7];exact hs));exact hK hE (hH.evo hE)
theorem ba0 {H:Hid} {g:Goroutine} {τ:Tape} {d:Nat} (hF:dq0 P Post X h H g (W2 u τ d)):dq0 P Post X h H g u:=fun hH=>jf0 (hF (hH.W2 τ d))
theorem Jj0 (H:Hid):Cl P (h==0) (dq0 P Post X h H) :=
 ⟨fun g u hr hs=>kn0 hr fun τ d=>by
  obtain⟨g',u',d',hF,hZ⟩:=hs τ d;exact⟨g',u',hF,fun _=>ba0 hZ⟩⟩
def H7 (V:Nat->Prop) [DecidablePred V] (U:World):Hid:=fun b=>if V b then none else U.heap[b]?
def I3 (V:Nat->Prop) [DecidablePred V] (U:World):World:={U with heap:=U.heap.mapIdx fun b o=>if V b then o else nothing}
theorem gn0 (V:Nat->Prop) [DecidablePred V] (U:World) (b:Nat):(I3 V U).heap[b]? =(U.heap[b]?).map fun o=>if V b then o else nothing:=by simp[I3,Array.getElem?_mapIdx]
theorem o9 {V:Nat->Prop} [DecidablePred V] (U:World) {b:Nat} (h:V b):(I3 V U).heap[b]? =U.heap[b]?:=by rw[gn0];simp[h]
theorem eh0 {V:Nat->Prop} [DecidablePred V] {U:World} {b:Nat} (h:¬V b) (hb:b<U.heap.size):(I3 V U).heap[b]? =some nothing:=by rw[gn0,Array.getElem?_eq_getElem hb];simp[h]
theorem R7 (V:Nat->Prop) [DecidablePred V] (U:World):(I3 V U).heap.size=U.heap.size:=by simp[I3]
theorem fm0 (V:Nat->Prop) [DecidablePred V] (U:World):over (H7 V U) (I3 V U)=U:=by
 have:(over (H7 V U) (I3 V U)).heap=U.heap:=by
  apply Array.ext_getElem?;intro b;rw[km0,gn0];unfold H7;cases hb:U.heap[b]? with
  |none=>rfl
  |some o=>by_cases hv:V b <;> simp[hv]
 show{I3 V U with heap:=(over (H7 V U) (I3 V U)).heap}=U;rw[this];rfl
theorem ko0 {V:Nat->Prop} [DecidablePred V] {U:World} (hv:∀(b:Nat) (o:Obj),U.heap[b]? =some o->Z3 o=false):A6 (H7 V U) (I3 V U):=by
 refine⟨fun b o h=>?_,fun b o h=>?_⟩
 ·unfold H7 at h;by_cases hb:V b
  ·simp[hb]at h
  ·simp only[hb,if_false]at h;exact⟨0,(0,0),eh0 hb (Array.getElem?_eq_some_iff.1 h).1⟩
 ·unfold H7 at h;by_cases hb:V b
  ·simp[hb]at h
  ·simp only[hb,if_false]at h;exact hv b o h
end
def e6 (u:World):Prop:=∀(b:Nat) (o:Obj),u.heap[b]? =some o->Z3 o=false
theorem e6.O9 {u:World} (h:e6 u):D5 (fun _=>.all) u u:=⟨rfl,rfl,rfl,rfl,rfl,fun _b x hx=>⟨x,hx,.same x⟩,fun _ _=>rfl,h⟩
theorem e6.W2 {u:World} (h:e6 u) (τ:Tape) (d:Nat):e6 (Yc.W2 u τ d):=h
theorem o5.evo {P:Program} {main:Bool} {g g':Goroutine} {u u':World} (h:o5 P main g u g' u') (hv:e6 u):L8 u u'/\e6 u':=by
 obtain⟨h1,w',es,_,h2,_⟩:=h.2 _ _ hv.O9;exact⟨h1,h2.u6⟩
def Ign (Z:Goroutine->World->Prop):Prop:=∀g u,(e6 u->Z g u)->Z g u
@[reducible] def V1 (P:Program) (main:Bool):Ctx P:=⟨main,fun Z=>Cl P main Z/\Ign Z,fun _ h=>h.1⟩
theorem Y8 {P:Program} {Post:Value->World->Prop} {X:Gh} {h:Nat}:Ign (Fin P Post X h):=by
 intro g u hF live T gs w sl q hg C;obtain⟨ρ,hs,_⟩:=C.O9;exact hF (show e6 (W2 u w.tape w.drawn)from hs.u6) _ _ _ _ _ _ hg C
section
variable {P:Program}{main:Bool}{f:FuncId}{args:Array Value}{w:World}{R:Ending->World->Prop}
theorem fn0 {H:Hid} {u:World} (hH:A6 H u) (h:e6 (over H u)):e6 u:=by
 intro b o ho;cases hb:H b with
 |none=>exact h b o (by rw[l5 u hb];exact ho)
 |some o'=>
  obtain⟨T,f,hg⟩:=hH.gone b o' hb;rw[ho]at hg;obtain rfl:=Option.some.inj hg;rfl
theorem Calls.frame {H:Hid} (h:@Calls P (V1 P main) f args w R) (hH:A6 H w):@Calls P (V1 P main) f args (over H w) (fun e w'=>∃u',w'=over H u'/\A6 H u'/\R e u'):=by
 intro Z hZ cs hk;obtain⟨hc,hi⟩:=hZ;have y6:Cl P main (fun g u=>e6 u->A6 H u->Z g (over H u)):=⟨fun g u hr hs hv hH=>by
  refine hc.own g (over H u) hr fun τ d=>?_;obtain⟨g',u',d',hF,hz⟩:=hs τ d;obtain⟨he,hv'⟩:=o5.evo hF (hv.W2 τ d);have h1:=(o5.over (hH.W2 τ d) hF).1;rw[G7]at h1;refine⟨g',over H u',d',h1,?_⟩;have:=hz (hv'.W2 _ _) ((hH.evo (zm0 he)).W2 _ _);rw[G7]at this;exact this⟩
 refine hi _ _ fun hv=>?_;refine h (fun g u=>e6 u->A6 H u->Z g (over H u)) ⟨y6,fun g u z v=>z v v⟩ cs (fun e w' fr he hf hl hv hH'=>?_) (fn0 hH hv) hH;exact hk e _ fr ⟨w',rfl,hH',he⟩ hf (ih0 hH' hl)
theorem Calls.seen (V:Nat->Prop) [DecidablePred V] (h:@Calls P (V1 P main) f args (I3 V w) R):@Calls P (V1 P main) f args w (fun e w'=>∃u',w'=over (H7 V w) u'/\A6 (H7 V w) u'/\R e u'):=by
 intro Z hZ cs hk;refine hZ.2 _ _ fun hv=>?_;have:=Calls.frame h (H:=H7 V w) (ko0 hv);rw[fm0]at this;exact this Z hZ cs hk
end
end Go.Vy
end
section
namespace Go.Vy
open Go Go.Conc Go.Yc Go.RowKit
open Go.Vc (Ret)
def gh (w:World) (i:Nat):Nat:=w.tape i (.sched 0)
def pr0 (w:World) (i v:Nat):World:={w with tape:=fun j q=>if j=i then v else w.tape j q}
abbrev Gm:=Nat->Nat
def gm (w:World):Gm:=fun i=>gh w (i+3)
theorem k4 {w w':World} (h:w'.tape=w.tape) (i:Nat):gh w' i=gh w i:=by simp[gh,h]
theorem fo0 {w w':World} (h:w'.tape=w.tape):gm w'=gm w:=funext fun _i=>k4 h _
structure Stp where
 kind:Int
 obj:Int
 num:Int
structure Nte where
 kind:Int
 text:ByteArray
structure fp0 (S L:Type) where
 s:S
 T2:List Nte
 S7:L ⊕ Nat
def ii0 (s:Stp):Value:=.agg #[.int .i64 s.kind,.int .i64 s.obj,.int .i64 s.num]
structure A8 (P:Program) where
 S:Type
 L:Type
 stp:L->Stp
 rdy:L->S->Bool
 go:L->S->fp0 S L
 out:Nat->fp0 S L
 sOf:Nat->S
 W1:Nat->Nat
 le:Gm->Gm->Prop
 gu:Gm->Gm->Prop
 Inv:S->Gm->World->(Nat->Prop)->Prop
 At:Nat->L->Prop
 BAt:Nat->Prop
 num:Nat
 ptr:Nat
 base:World
 ij0:FuncId
 Mr0:Option FuncId
 M3:FuncId
 Du0:Option FuncId
 Dv0:FuncId
 top:List Frame
section
variable {P:Program}
structure A8.Told (K:A8 P) (w:World) (m:Gm) (F:Nat->Prop) (S7:K.L ⊕ Nat):Prop where
 on:gh w 2=0
 S7:(K.out (gh w 0)).S7=S7
 T2:gh w 1=(K.out (gh w 0)).T2.length
 inv:K.Inv (K.out (gh w 0)).s m w F
 le:K.gu (gm w) m
 os:w.os=K.base.os
 output:w.output=K.base.output
structure A8.c5 (K:A8 P) (w:World) (m:Gm) (F:Nat->Prop) (u:World) (F':Nat->Prop):Prop where
 size:w.heap.size <=u.heap.size
 E0:∀b,b<w.heap.size->w.heap[b]? ≠some nothing->¬F b->u.heap[b]? =w.heap[b]?/\¬F' b
 inv:K.Inv (K.sOf (gh u 0)) (gm u) u F'
 le:K.le m (gm u)
 os:u.os=w.os
 output:u.output=w.output
def ap0 (ch:List PanicEntry):Prop:=∃v y4,ch={v,recovered:=false} :: y4/\y4.dropWhile (!·.goexit)=[]
def Jk0 (P:Program) (v:Value) (f:FuncId) (caps:Array Value):Prop:=v= .func (.func f) #[] caps/\∃fn,P.funcs[f]? =some fn/\fn.body.isSome=true/\(fn.name== "runtime.NumGoroutine")=false
def FnV (P:Program) (v:Value):Prop:=v= .nilFunc\/∃f caps,Jk0 P v f caps
def A8.br0 (K:A8 P) (w:World) (m:Gm) (F:Nat->Prop) (rf:Value) (l:K.L):Prop :=
 (rf= .nilFunc/\∀s,K.rdy l s=true)\/∃f caps,Jk0 P rf f caps/\∀u F',K.c5 w m F u F'->@Calls P (V1 P true) f caps u (Ret fun v u'=>v= .bool (K.rdy l (K.sOf (gh u 0)))/\Below u.heap.size u u')
def ao1 (P:Program) (fN:FuncId) (ptr num:Nat) (Z:Goroutine->World->Prop):Prop:=∀cs w,(∀fr,fr.fn=fN->Leaves P fr w (.returned (.int .i64 num))->Z (G fr cs) w)->Z (G (Frame.enter P fN #[.pointer (some ⟨ptr,0,none⟩)] .normal) cs) w
@[reducible] def u4 (P:Program) (fN:FuncId) (ptr num:Nat):Ctx P:=⟨false,fun Z=>(Cl P false Z/\Ign Z)/\ao1 P fN ptr num Z,fun _ h=>h.1.1⟩
def Be0 (P:Program) (C0:Ctx P) (df:Value) (u:World) (R:World->Prop):Prop :=
 (df= .nilFunc/\R u)\/∃f caps,Jk0 P df f caps/\@Calls P C0 f caps u (Ret fun _ u2=>R u2)
@[reducible] def A8.u4 (K:A8 P):Ctx P:=Go.Vy.u4 P K.M3 K.ptr K.num
structure A8.Goes (K:A8 P) (w:World) (m:Gm) (F:Nat->Prop) (l:K.L) (u:World) (F':Nat->Prop):Prop where
 Q6:K.c5 w m F u F'
 T2:gh u 1=0
 on:gh u 2=0
 out:K.out (gh u 0)=K.go l (K.sOf (gh u 0))
 rdy:K.rdy l (K.sOf (gh u 0))=true
 at_:K.At (gh u 0) l
structure Oz0 (w w':World):Prop where
 os:w'.os=w.os
 output:w'.output=w.output
 size:w.heap.size <=w'.heap.size
 block:∀b,b<w.heap.size->w'.heap[b]? =w.heap[b]?
def A8.ws0 (K:A8 P) (w:World) (F:Nat->Prop):Ending->Prop
 | .returned _=>(∃m,K.Told w m F (.inr 1))\/(gh w 2=1/\(∃m,K.gu (gm w) m/\K.Inv (K.sOf (gh w 0)) m w F)/\w.os=K.base.os/\w.output=K.base.output)
 | .panicked ch=>ap0 ch/\((∃m,K.Told w m F (.inr 2))\/(gh w 2=1/\(∃m,K.gu (gm w) m/\K.Inv (K.sOf (gh w 0)) m w F)/\w.os=K.base.os/\w.output=K.base.output))
 | .outgrown=>False
inductive T7 (K:A8 P):Goroutine->World->Prop
 |own {g u} (hr:g.status= .running) (g':Tape->Nat->Goroutine) (u':Tape->Nat->World) (d':Tape->Nat->Nat) (hf:∀τ d,o5 P false g (W2 u τ d) (g' τ d) (u' τ d)) (hk:∀τ d,T7 K (g' τ d) (W2 (u' τ d) u.tape (d' τ d))):T7 K g u
 |ign {g u} (h:e6 u->T7 K g u):T7 K g u
 |step {cs w s rf df l m F} (ht:K.Told w m F (.inl l)) (hs:s=ii0 (K.stp l)) (hr:K.br0 w m F rf l) (hdf:FnV P df) (Rdo:World->World->Prop)
   (hdo:∀u F',K.Goes w m F l u F'->Be0 P K.u4 df u (Rdo u))
   (go:∀u F' u2,K.Goes w m F l u F'->Rdo u u2->u2.tape=u.tape->∀fr,fr.fn=K.ij0->Leaves P fr u2 (.returned (.tuple #[]))->T7 K (G fr cs) u2)
   (stop:∀u F',K.c5 w m F u F'->gh u 2=1->∀fr ch,fr.fn=K.ij0->ap0 ch->Leaves P fr u (.panicked ch)->T7 K (G fr cs) u) :
   T7 K (G (Frame.enter P K.ij0 #[.pointer (some ⟨K.ptr,0,none⟩),s,rf,df] .normal) cs) w
 |again {cs w s rf df} (h2:gh w 2=1) (hs:∃s0,s=ii0 s0) (k:∀w' fr ch,Oz0 w w'->w'.tape=w.tape->fr.fn=K.ij0->ap0 ch->Leaves P fr w' (.panicked ch)->T7 K (G fr cs) w') :
   T7 K (G (Frame.enter P K.ij0 #[.pointer (some ⟨K.ptr,0,none⟩),s,rf,df] .normal) cs) w
 |note {cs w kind text f} (hfn:K.Mr0=some f) (h2:gh w 2=0) (hx:(K.out (gh w 0)).T2[gh w 1]? =some ⟨kind,text⟩)
   (k:∀w' fr,Oz0 w w'->gh w' 0=gh w 0->gh w' 1=gh w 1+1->gh w' 2=0->gm w'=gm w->fr.fn=f->Leaves P fr w' (.returned (.tuple #[]))->T7 K (G fr cs) w') :
   T7 K (G (Frame.enter P f #[.pointer (some ⟨K.ptr,0,none⟩),.int .i64 kind,.string text] .normal) cs) w
 |number {cs w} (k:∀fr,fr.fn=K.M3->Leaves P fr w (.returned (.int .i64 K.num))->T7 K (G fr cs) w) :
   T7 K (G (Frame.enter P K.M3 #[.pointer (some ⟨K.ptr,0,none⟩)] .normal) cs) w
 |W1 {cs w f} (hfn:K.Du0=some f) (h2:gh w 2=0) (k:∀fr,fr.fn=f->Leaves P fr w (.returned (.int .i64 (K.W1 (gh w 0))))->T7 K (G fr cs) w) :
   T7 K (G (Frame.enter P f #[.pointer (some ⟨K.ptr,0,none⟩)] .normal) cs) w
 |done {fr w e F} (hf:fr.fn=K.Dv0) (hl:Leaves P fr w e) (hd:K.ws0 w F e):T7 K (G fr K.top) w
theorem Jl0 (K:A8 P):Cl P false (T7 K):=⟨fun g u hr hs=>by
 have h1:∀τ d,∃x:Goroutine×World×Nat,o5 P false g (W2 u τ d) x.1 x.2.1/\T7 K x.1 (W2 x.2.1 u.tape x.2.2):=fun τ d=>by
  obtain⟨g',u',d',hf,hk⟩:=hs τ d;exact⟨⟨g',u',d'⟩,hf,hk⟩
 exact .own hr (fun τ d=>(h1 τ d).choose.1) (fun τ d=>(h1 τ d).choose.2.1) (fun τ d=>(h1 τ d).choose.2.2) (fun τ d=>(h1 τ d).choose_spec.1) (fun τ d=>(h1 τ d).choose_spec.2)⟩
@[reducible] def K0 (K:A8 P):Ctx P:=⟨false,fun Z=>Z=T7 K,fun _ h=>h▸Jl0 K⟩
theorem Bf0 {K:A8 P} {w:World} {s rf df:Value} {l:K.L} {m:Gm} {F:Nat->Prop} (ht:K.Told w m F (.inl l)) (hs:s=ii0 (K.stp l)) (hr:K.br0 w m F rf l) (hdf:FnV P df) (Rdo:World->World->Prop) (hdo:∀u F',K.Goes w m F l u F'->Be0 P K.u4 df u (Rdo u)) :
  @Calls P (K0 K) K.ij0 #[.pointer (some ⟨K.ptr,0,none⟩),s,rf,df] w (fun e u2=>match e with
   | .returned v=>v= .tuple #[]/\∃u F',K.Goes w m F l u F'/\Rdo u u2/\u2.tape=u.tape
   | .panicked ch=>ap0 ch/\∃F',K.c5 w m F u2 F'/\gh u2 2=1
   | .outgrown=>False):=by
 intro Z hZ cs hk;have h':Z=T7 K:=hZ;subst h';exact .step ht hs hr hdf Rdo hdo (fun u F' u2 h1 h2 h3 fr h4 h5=>hk (.returned (.tuple #[])) u2 fr ⟨rfl,u,F',h1,h2,h3⟩ h4 h5) (fun u F' h1 h2 fr ch h3 h4 h5=>hk (.panicked ch) u fr ⟨h4,F',h1,h2⟩ h3 h5)
theorem uo0 {K:A8 P} {w:World}:@C P (K0 K) K.M3 #[.pointer (some ⟨K.ptr,0,none⟩)] w (fun v w'=>v= .int .i64 K.num/\w'=w):=by
 intro Z hZ cs hk;have h':Z=T7 K:=hZ;subst h';exact .number fun fr h3 h4=>hk (.returned (.int .i64 K.num)) w fr ⟨rfl,rfl⟩ h3 h4
end
end Go.Vy
end
section
namespace Go.Wg
open Go Go.Conc Go.Yc
open Go.Vc (Env upd m3 ev j4 k3)
section
structure HF (P:Program) (main:Bool) (ok:Event->Prop) (Y:Nat->Nat->Goroutine->Prop):Prop where
 st:∀m d g g' es,g.status= .running->g'.status= .running->(∀e∈es,ok e)->(∀w,stepG P main g w= .go g' w es)->Y m (deafBehind d es) g'->Y (m+1) d g
theorem HF.c {P:Program} {main:Bool} {ok:Event->Prop} {Y:Nat->Nat->Goroutine->Prop} (hY:HF P main ok Y) {d:Nat} {g g':Goroutine} (h1:g.status= .running) (h2:g'.status= .running) (hs:∀w,stepG P main g w= .go g' w #[]) {m:Nat} (h:Y m d g'):Y (m+1) d g :=
 hY.st m d g g' #[] h1 h2 (fun e he=>by simp at he) hs h
structure cr0 (n:Nat) (a:Act) (e:Env) (ds:List Deferred):Prop where
 size:a.tmps.size=n
 defers:a.defers=ds
 get:∀t,a.tmps.getD t undef=e t
theorem cr0.eval {n:Nat} {a:Act} {e:Env} {ds:List Deferred} (h:cr0 n a e ds):a.eval=ev e:=by
 funext x;cases x <;> simp[Act.eval,ev,h.get]
theorem cr0.put {n:Nat} {a:Act} {e:Env} {ds:List Deferred} (h:cr0 n a e ds) {d:Option Nat} (hd:j4 n d=true) (v:Value):cr0 n (a.put d v) (m3 e d v) ds:=by
 cases d with
 |none=>exact h
 |some d=>
  have E5:d<n:=by simpa [j4,Nat.blt_eq]using hd
  refine⟨by simp[Act.put,h.size],by simp[Act.put,h.defers],fun t=>?_⟩;have hg:=h.get t;simp only[Act.put,m3,upd,Array.getD_eq_getD_getElem?,Array.getElem?_setIfInBounds]at hg⊢;by_cases htd:t=d
  ·subst htd;simp[h.size,E5]
  ·simp only[htd,if_false,Ne.symm htd];exact hg
theorem cr0.yielded {n:Nat} {a:Act} {e:Env} {ds:List Deferred} (h:cr0 n a e ds) {ops:Array Oper} (o:Oper):Region.wanted o (Go.yielded ops a.tmps)=Region.wanted o (k3 ops e):=by
 have h2:Go.Vc.Rep n {a with defers:=[]} e:=⟨h.size,rfl,h.get⟩
 exact Go.Vc.v5 (a:={a with defers:=[]}) h2 o
def k7 (args:Array Value):Env:=fun t=>args.getD t undef
theorem v7 {n:Nat} (args:Array Value) (m:Nat) (hn:args.size+(m-args.size)=n):cr0 n {tmps:=args++Array.replicate (m-args.size) undef,defers:=[]} (k7 args) []:=by
 refine⟨by simp[hn],rfl,fun t=>?_⟩;simp only[k7,Array.getD_eq_getD_getElem?,Array.getElem?_append];by_cases h:t<args.size
 ·rw[if_pos h]
 ·rw[if_neg h];rw[Array.getElem?_eq_none (xs:=args) (by omega)];rw[Array.getElem?_replicate];split <;> rfl
def At (Y:Nat->Nat->Goroutine->Prop) (ft n:Nat) (b:Frame) (cs:List Frame) (ds:List Deferred) (d:Nat) (e:Env) (todo:List Item):Prop:=∀a,cr0 n a e ds->Y ft d (G (b.at a todo) cs)
def AtR (Y:Nat->Nat->Goroutine->Prop) (ft n:Nat) (b:Frame) (cs:List Frame) (ds:List Deferred) (d:Nat) (e:Env) (todo:List Item):Prop:=∀a,cr0 n a e ds->Y ft d (G {b.at a todo with mode:=.returning} cs)
section
variable {P:Program}{main:Bool}{ok:Event->Prop}{Y:Nat->Nat->Goroutine->Prop}{ft n:Nat}{b:Frame}{cs:List Frame}{ds:List Deferred}{d:Nat}{e:Env}{k todo:List Item}
theorem At.c (hY:HF P main ok Y) {ik0:List Item} (hs:∀a w,stepG P main (G (b.at a todo) cs) w= .go (G (b.at a ik0) cs) w #[]) (h:At Y ft n b cs ds d e ik0):At Y (ft+1) n b cs ds d e todo :=
 fun a ha=>hY.c rfl rfl (hs a) (h a ha)
theorem At.seq (hY:HF P main ok Y) {x y:Code} (h:At Y ft n b cs ds d e (.code x :: .code y::k)):At Y (ft+1) n b cs ds d e (.code (.seq x y)::k):=At.c hY (fun _ _=>stepG_seq) h
theorem At.skip (hY:HF P main ok Y) (h:At Y ft n b cs ds d e k):At Y (ft+1) n b cs ds d e (.code .skip::k):=At.c hY (fun _ _=>stepG_skip) h
theorem At.block (hY:HF P main ok Y) {id:Nat} {c:Code} (h:At Y ft n b cs ds d e (.code c :: .inBlock id::k)):At Y (ft+1) n b cs ds d e (.code (.block id c)::k):=At.c hY (fun _ _=>stepG_block) h
theorem At.loop (hY:HF P main ok Y) {c:Code} (h:At Y ft n b cs ds d e (.code c :: .inLoop c::k)):At Y (ft+1) n b cs ds d e (.code (.loop c)::k):=At.c hY (fun _ _=>stepG_loop) h
theorem At.inBlock (hY:HF P main ok Y) {id:Nat} (h:At Y ft n b cs ds d e k):At Y (ft+1) n b cs ds d e (.inBlock id::k):=At.c hY (fun _ _=>stepG_inBlock) h
theorem At.inLoop (hY:HF P main ok Y) {c:Code} (h:At Y ft n b cs ds d e (.code c :: .inLoop c::k)):At Y (ft+1) n b cs ds d e (.inLoop c::k):=At.c hY (fun _ _=>stepG_inLoop) h
theorem At.exit (hY:HF P main ok Y) {id:Nat} {k':List Item} (hk:exitTo id k=some k') (h:At Y ft n b cs ds d e k'):At Y (ft+1) n b cs ds d e (.code (.exit id)::k):=At.c hY (fun _ _=>stepG_exit hk) h
theorem At.cond (hY:HF P main ok Y) {c:Operand} {x y:Code} {t:Bool} (hc:ev e c= .bool t) (h:At Y ft n b cs ds d e (.code (if t then x else y)::k)):At Y (ft+1) n b cs ds d e (.code (.cond c x y)::k) :=
 fun a ha=>hY.c rfl rfl (fun _=>stepG_cond (by rw[ha.eval];exact hc)) (h a ha)
theorem At.J4 (hY:HF P main ok Y) {c:Operand} {x y:Code} (hc:ev e c= .bool true) (h:At Y ft n b cs ds d e (.code x::k)):At Y (ft+1) n b cs ds d e (.code (.cond c x y)::k):=At.cond hY hc h
theorem At.q5 (hY:HF P main ok Y) {c:Operand} {x y:Code} (hc:ev e c= .bool false) (h:At Y ft n b cs ds d e (.code y::k)):At Y (ft+1) n b cs ds d e (.code (.cond c x y)::k):=At.cond hY hc h
theorem At.ret (hY:HF P main ok Y) (h:∀todo,AtR Y ft n b cs ds d e todo):At Y (ft+1) n b cs ds d e (.code .ret::k):=fun a ha=>hY.c rfl rfl (fun _=>stepG_ret') (h _ a ha)
theorem At.done (hY:HF P main ok Y) (h:∀todo,AtR Y ft n b cs ds d e todo):At Y (ft+1) n b cs ds d e []:=fun a ha=>hY.c rfl rfl (fun _=>stepG_end) (h _ a ha)
variable {ops:Array Oper}{i:Nat}{o:Oper}
structure Pu (P:Program) (S:Sem Next) (v:Value):Prop where
 run:∀w,S.run P w= .ok (.value v) w
 evs:∀w,S.events P w #[]=#[]
def I0 (Y:Nat->Nat->Goroutine->Prop) (ft n:Nat) (b:Frame) (cs:List Frame) (ds:List Deferred) (d:Nat) (e:Env) (ops:Array Oper) (i:Nat) (l:List Oper) (k:List Item):Prop :=
 (∀j,l[j]? =ops[i+j]?)->At Y ft n b cs ds d e (.inRegion ops (List.range' i l.length)::k)
structure Dw0 (n:Nat) (b:Frame) (cs:List Frame) (ds:List Deferred) (e:Env) (ops:Array Oper) (i:Nat) (dst:Option Nat) (l:List Oper) (k:List Item) (S5:List Frame):Prop where
 rep:∃a,cr0 n a e ds/\S5=b.at a (.inRegion ops (i::List.range' (i+1) l.length)::k)::cs
 slot:(ops[i]?).bind (·.dst)=dst
 ok:j4 n dst=true
 tail:∀j,l[j]? =ops[i+1+j]?
variable {l:List Oper}{dst:Option Nat}{t:Nat}{op:Op}{ty:TypeId}{ps:String}{af:Array Edge}
theorem At.region (hY:HF P main ok Y) {id:Nat} {l:List Oper} (h:I0 Y ft n b cs ds d e l.toArray 0 l k):At Y (ft+1) n b cs ds d e (.code (.region id l.toArray false)::k) :=
 At.c hY (fun _ _=>by rw[stepG_region]) (by
  have:=h (fun j=>by simp);rw[show List.range l.toArray.size=List.range' 0 l.length by simp[List.range_eq_range']];exact this)
theorem I0.nil (hY:HF P main ok Y) (h:At Y ft n b cs ds d e k):I0 Y (ft+1) n b cs ds d e ops i [] k:=fun _=>At.c hY (fun _ _=>stepG_region_end) h
theorem E3 {ops:Array Oper} {i:Nat} {o:Oper} {l:List Oper} (h:∀j,(o::l)[j]? =ops[i+j]?):ops[i]? =some o/\∀j,l[j]? =ops[i+1+j]? :=
 ⟨by simpa using(h 0).symm,fun j=>by have:=h (j+1);simpa [Nat.add_assoc,Nat.add_comm 1 j]using this⟩
theorem I0.val (hY:HF P main ok Y) (hk:b.kind≠.early) (hd:j4 n dst=true) {v:Value} (hp:Pu P (execOp (ev e) ⟨dst,op,ty,ps,af,none⟩) v) (h:I0 Y ft n b cs ds d (m3 e dst v) ops (i+1) l k):I0 Y (ft+1) n b cs ds d e ops i (⟨dst,op,ty,ps,af,none⟩::l) k:=by
 intro hl a ha;obtain⟨ho,x5⟩:=E3 hl;refine hY.c rfl rfl (fun w=>?_) (h x5 _ (ha.put hd v));show stepG P main (G (b.at a (.inRegion ops (i::List.range' (i+1) l.length)::k)) cs) w=_;rw[stepG_value ho (by rw[ha.yielded];rfl) hk (by rw[ha.eval];exact hp.run w)];unfold listed;rw[ha.eval,hp.evs w,seen_none]
theorem I0.v8 {gu:Nat×Bool} (hY:HF P main ok Y) (hk:b.kind≠.early) (hw:k3 ops e gu.1=some gu.2) (hd:j4 n dst=true) {v:Value} (hp:Pu P (execOp (ev e) ⟨dst,op,ty,ps,af,some gu⟩) v) (h:I0 Y ft n b cs ds d (m3 e dst v) ops (i+1) l k):I0 Y (ft+1) n b cs ds d e ops i (⟨dst,op,ty,ps,af,some gu⟩::l) k:=by
 intro hl a ha;obtain⟨ho,x5⟩:=E3 hl;refine hY.c rfl rfl (fun w=>?_) (h x5 _ (ha.put hd v));show stepG P main (G (b.at a (.inRegion ops (i::List.range' (i+1) l.length)::k)) cs) w=_;rw[stepG_value ho (by rw[ha.yielded];simp[Region.wanted,hw]) hk (by rw[ha.eval];exact hp.run w)];unfold listed;rw[ha.eval,hp.evs w,seen_none]
theorem I0.off {gu:Nat×Bool} (hY:HF P main ok Y) (hw:k3 ops e gu.1=some (!gu.2)) (hd:j4 n dst=true) (h:I0 Y ft n b cs ds d (m3 e dst undef) ops (i+1) l k):I0 Y (ft+1) n b cs ds d e ops i (⟨dst,op,ty,ps,af,some gu⟩::l) k:=by
 intro hl a ha;obtain⟨ho,x5⟩:=E3 hl;refine hY.c rfl rfl (fun w=>?_) (h x5 _ (ha.put hd undef));exact stepG_unwanted ho (by
  rw[ha.yielded];obtain⟨j,want⟩:=gu;cases want <;> simp[Region.wanted]at hw⊢<;> simp[hw])
theorem R6 {args:Array Operand} {f:Operand->Value} {vl:List Value} (h:args.toList.map f=vl):args.map f=vl.toArray:=by rw[<- h,<- Array.toList_map,Array.toArray_toList]
theorem I0.call (hY:HF P main ok Y) (hk:b.kind≠.early) {f:FuncId} {fn:Func} {c:Code} {args:Array Operand} {ats:Array TypeId} (vs:List Value) (m:Nat) (hd:j4 n dst=true) (hf:P.funcs[f]? =some fn) (O2:(fn.name== "runtime.NumGoroutine")=false) (hb:fn.body=some c)
  (hv:args.toList.map (ev e)=vs) (hm:vs.toArray.size+(fn.ntmps-vs.toArray.size)=m) (h:∀S5,Dw0 n b cs ds e ops i dst l k S5->At Y ft m (base f) S5 [] d (k7 vs.toArray) [.code c]):I0 Y (ft+1) n b cs ds d e ops i (⟨dst,.call {callee:=.value (.func f),args,argTypes:=ats},ty,ps,af,none⟩::l) k:=by
 intro hl a ha;obtain⟨ho,x5⟩:=E3 hl;have g7:fn.body.isNone=false:=by rw[hb];rfl
 refine hY.c rfl rfl (fun w=>?_) (h _ ⟨⟨a,ha,rfl⟩,by rw[ho];rfl,hd,x5⟩ {tmps:=vs.toArray++Array.replicate (fn.ntmps-vs.toArray.size) undef,defers:=[]} (v7 vs.toArray _ hm));show stepG P main (G (b.at a (.inRegion ops (i::List.range' (i+1) l.length)::k)) cs) w=_;rw[stepG_enter ho (by rw[ha.yielded];rfl) hk (run_call_body rfl hf O2 g7),enter_at _ hf hb];have h1:listed P b.fn a ⟨dst,.call {callee:=.value (.func f),args,argTypes:=ats},ty,ps,af,none⟩ w=#[]:=by unfold listed;rw[events_call_body rfl hf O2 g7];exact seen_none P _
 have h2:args.map a.eval=vs.toArray:=by rw[ha.eval];exact R6 hv
 rw[h1,h2]
theorem I0.up0 (hY:HF P main ok Y) (hk:b.kind≠.early) (mk:Mark) (hm:∀g,mk≠.extern g) (hok:ok ⟨.mark mk,false,true⟩) {f:FuncId} {fn:Func} {asx:Array Operand} {ats:Array TypeId} (hd:j4 n dst=true)
  (hf:P.funcs[f]? =some fn) (O2:(fn.name== "runtime.NumGoroutine")=false) (hb:fn.body.isNone=true) (hn:Extern.findNext fn=none) (he:Extern.find fn=some (fun _=>do mark mk;pure Extern.Race.none_))
  (h:I0 Y ft n b cs ds (deafBehind d #[⟨.mark mk,false,true⟩]) (m3 e dst (.tuple #[])) ops (i+1) l k):I0 Y (ft+1) n b cs ds d e ops i (⟨dst,.call {callee:=.value (.func f),args:=asx,argTypes:=ats},ty,ps,af,none⟩::l) k:=by
 intro hl a ha;obtain⟨ho,x5⟩:=E3 hl;exact hY.st _ _ _ _ #[⟨.mark mk,false,true⟩] rfl rfl (fun x hx=>by simp at hx;subst hx;exact hok) (fun w=>stepG_mark0 mk hm ho (by rw[ha.yielded];rfl) hk rfl hf O2 hb hn he) (h x5 _ (ha.put hd _))
theorem I0.sn0 (hY:HF P main ok Y) (hk:b.kind≠.early) (mk:Addr->Mark) (hm:∀ad g,mk ad≠.extern g) {ad:Addr} (hok:ok ⟨.mark (mk ad),false,true⟩) {f:FuncId} {fn:Func} {asx:Array Operand} {ats:Array TypeId} (hd:j4 n dst=true)
  (hf:P.funcs[f]? =some fn) (O2:(fn.name== "runtime.NumGoroutine")=false) (hb:fn.body.isNone=true) (hn:Extern.findNext fn=none) (he:Extern.find fn=some (Extern.Race.marked mk)) (hx:(asx.toList.map (ev e))[0]? =some (.pointer (some ad)))
  (h:I0 Y ft n b cs ds (deafBehind d #[⟨.mark (mk ad),false,true⟩]) (m3 e dst (.tuple #[])) ops (i+1) l k):I0 Y (ft+1) n b cs ds d e ops i (⟨dst,.call {callee:=.value (.func f),args:=asx,argTypes:=ats},ty,ps,af,none⟩::l) k:=by
 intro hl a ha;obtain⟨ho,x5⟩:=E3 hl;exact hY.st _ _ _ _ #[⟨.mark (mk ad),false,true⟩] rfl rfl (fun x hx=>by simp at hx;subst hx;exact hok) (fun w=>stepG_markAt mk hm ho (by rw[ha.yielded];rfl) hk rfl hf O2 hb hn he (by rw[ha.eval,R6 rfl];simpa using hx)) (h x5 _ (ha.put hd _))
theorem I0.pt0 (hY:HF P main ok Y) (hk:b.kind≠.early) (v:Value) {f:FuncId} {fn:Func} {asx:Array Operand} {ats:Array TypeId} (hd:j4 n dst=true)
  (hf:P.funcs[f]? =some fn) (O2:(fn.name== "runtime.NumGoroutine")=false) (hb:fn.body.isNone=true) (hn:Extern.findNext fn=none) (he:Extern.find fn=some (fun _=>pure v))
  (h:I0 Y ft n b cs ds d (m3 e dst v) ops (i+1) l k):I0 Y (ft+1) n b cs ds d e ops i (⟨dst,.call {callee:=.value (.func f),args:=asx,argTypes:=ats},ty,ps,af,none⟩::l) k:=by
 intro hl a ha;obtain⟨ho,x5⟩:=E3 hl;exact hY.c rfl rfl (fun w=>stepG_entry_pure v ho (by rw[ha.yielded];rfl) hk rfl hf O2 hb hn he) (h x5 _ (ha.put hd _))
theorem I0.defer (hY:HF P main ok Y) (hk:b.kind≠.early) {f:FuncId} {asx:Array Operand} {ats:Array TypeId} (vs:List Value) (hv:asx.toList.map (ev e)=vs)
  (h:I0 Y ft n b cs (dcall f vs.toArray::ds) d e ops (i+1) l k):I0 Y (ft+1) n b cs ds d e ops i (⟨none,.defer {callee:=.value (.func f),args:=asx,argTypes:=ats},ty,ps,af,none⟩::l) k:=by
 intro hl a ha;obtain⟨ho,x5⟩:=E3 hl;refine hY.c rfl rfl (fun w=>stepG_defer ho (by rw[ha.yielded];rfl) hk rfl) ?_;rw[ha.eval,R6 hv,ha.defers];exact h x5 _ ⟨ha.size,rfl,ha.get⟩
theorem AtR.leave1 (hY:HF P main ok Y) {fn:Func} {t:Tmp} {n0:Nat} {b0:Frame} {ds0:List Deferred} {e0:Env} {k0:List Item} {S5:List Frame} (hB:Dw0 n0 b0 cs ds0 e0 ops i dst l k0 S5) (hn:b.kind= .normal) (hf:P.funcs[b.fn]? =some fn) (hr:fn.results=#[.tmp t]) (v:Value) (hv:e t=v)
  (h:I0 Y ft n0 b0 cs ds0 d (m3 e0 dst v) ops (i+1) l k0):AtR Y (ft+1) n b S5 [] d e todo:=by
 intro a ha;obtain⟨a0,ha0,rfl⟩:=hB.rep;subst hv;refine hY.c rfl rfl (fun w=>?_) (h hB.tail _ (ha0.put hB.ok (e t)));rw[stepG_leave hn ha.defers hf (results_tmp hr _ P w) (events_results_tmp hr _ _),Frame.finish_at,ha.get,hB.slot]
theorem AtR.leave0 (hY:HF P main ok Y) {fn:Func} {n0:Nat} {b0:Frame} {ds0:List Deferred} {e0:Env} {k0:List Item} {S5:List Frame} (hB:Dw0 n0 b0 cs ds0 e0 ops i dst l k0 S5) (hn:b.kind= .normal) (hf:P.funcs[b.fn]? =some fn) (hr:fn.results=#[])
  (h:I0 Y ft n0 b0 cs ds0 d (m3 e0 dst (.tuple #[])) ops (i+1) l k0):AtR Y (ft+1) n b S5 [] d e todo:=by
 intro a ha;obtain⟨a0,ha0,rfl⟩:=hB.rep;refine hY.c rfl rfl (fun w=>?_) (h hB.tail _ (ha0.put hB.ok (.tuple #[])));rw[stepG_leave hn ha.defers hf (results_none hr _ P w) (events_results_none hr _ _),Frame.finish_at,hB.slot]
theorem AtR.mark (hY:HF P main ok Y) (mk:Mark) (hm:∀g,mk≠.extern g) (hok:ok ⟨.mark mk,false,true⟩) {f:FuncId} {fn:Func} (hf:P.funcs[f]? =some fn) (O2:(fn.name== "runtime.NumGoroutine")=false) (hb:fn.body.isNone=true) (hn:Extern.findNext fn=none) (he:Extern.find fn=some (fun _=>do mark mk;pure Extern.Race.none_))
  (h:AtR Y ft n b cs ds (deafBehind d #[⟨.mark mk,false,true⟩]) e todo):AtR Y (ft+1) n b cs (dcall f #[]::ds) d e todo:=by
 intro a ha;refine hY.st _ _ _ _ #[⟨.mark mk,false,true⟩] rfl rfl (fun x hx=>by simp at hx;subst hx;exact hok) (fun w=>stepG_unwind_entry (v:=.tuple #[]) (evs:=#[⟨.mark mk,false,true⟩]) ha.defers hf O2 hb hn he (by simp[Extern.Race.none_]) (by simp) (by
  intro x W3;simp at W3;subst W3;exact⟨rfl,fun g h=>hm g (Loc.mark.inj h)⟩)) ?_
 exact h ⟨a.tmps,ds⟩ ⟨ha.size,rfl,ha.get⟩
theorem AtR.leaveD (hY:HF P main ok Y) {fn:Func} {c:Frame} (hn:b.kind= .deferred) (hf:P.funcs[b.fn]? =some fn) (hr:fn.results=#[]) (hc:c.mode= .returning) (h:Y ft d (G c cs)):AtR Y (ft+1) n b (c::cs) [] d e todo :=
 fun _a ha=>hY.c rfl rfl (fun w=>stepG_leave_deferred hn ha.defers hf (results_none hr _ P w) (events_results_none hr _ _) hc) h
def StG (P:Program) (main:Bool) (gr:H4) (Y:Nat->Nat->Goroutine->Prop):Prop:=∀m d g g',g.status= .running->g'.status= .running->(∀w st sm,q7 gr st sm w->stepG P main g w= .go g' w #[])->Y m d g'->Y (m+1) d g
theorem I0.toUnsafe {gr:H4} (hG:StG P main gr Y) (hk:b.kind≠.early) {S D t:TypeId} {x:Operand} {off:Nat} (hd:j4 n dst=true) (hx:ev e x= .pointer (some ⟨gr.blk,off,none⟩)) (Is0:off=gr.off\/off=gr.off+1)
  (hS:P.underlying S=some (.pointer t)) (hD:P.underlying D=some .unsafePointer) (n2:(P.info? t).map (fun i=>decide (i.size=0))=some false)
  (h:I0 Y ft n b cs ds d (m3 e dst (.pointer (some ⟨gr.blk,off,none⟩))) ops (i+1) l k):I0 Y (ft+1) n b cs ds d e ops i (⟨dst,.convert S D x,ty,ps,af,none⟩::l) k:=by
 intro hl a ha;obtain⟨ho,x5⟩:=E3 hl;refine hG _ _ _ _ rfl rfl (fun w st sm hw=>?_) (h x5 _ (ha.put hd _));obtain⟨h1,h2,_,_⟩:=hw.cells;obtain⟨v,hc⟩:∃v,w.cell? ⟨gr.blk,off,none⟩=some v:=by
  rcases Is0 with rfl|rfl
  ·exact⟨_,h1⟩
  ·exact⟨_,h2⟩
 have hr:(execOp a.eval ⟨dst,.convert S D x,ty,ps,af,none⟩).run P w= .ok (.value (.pointer (some ⟨gr.blk,off,none⟩))) w:=by
  rw[ha.eval];simp only[execOp,hx,Sem.run_bind,run_convert_to_unsafe hS hD n2 hc,Result.andThen_ok,Sem.run_pure]
 have he:(execOp a.eval ⟨dst,.convert S D x,ty,ps,af,none⟩).events P w #[]=#[]:=by
  rw[ha.eval];simp[execOp,hx,events_convert_to_unsafe hS hD n2 hc]
 show stepG P main (G (b.at a (.inRegion ops (i::List.range' (i+1) l.length)::k)) cs) w=_;rw[stepG_value ho (by rw[ha.yielded];rfl) hk hr];unfold listed;rw[he,seen_none]
end
section
variable {P:Program}{ρ:Operand->Value}{d:Option Nat}{ty:TypeId}{ps:String}{af:Array Edge}{g:Option (Nat×Bool)}{x y z:Operand}{T T':TypeId}{v:Value}
theorem J0 (h:ρ x=v):Pu P (execOp ρ ⟨d,.move x,ty,ps,af,g⟩) v:=⟨fun w=>by subst h;rfl,fun w=>by subst h;rfl⟩
theorem Q0 (h:ρ x=v):Pu P (execOp ρ ⟨d,.assign x,ty,ps,af,g⟩) v:=⟨fun w=>by subst h;rfl,fun w=>by subst h;rfl⟩
theorem I7 (h:ρ z= .bool true) (hx:ρ x=v):Pu P (execOp ρ ⟨d,.pick z x y,ty,ps,af,g⟩) v:=⟨fun w=>by subst hx;exact Go.Vc.X6 h,fun w=>by simp[execOp,h,asBool]⟩
theorem bc0 (h:ρ z= .bool false) (hy:ρ y=v):Pu P (execOp ρ ⟨d,.pick z x y,ty,ps,af,g⟩) v:=⟨fun w=>by subst hy;exact Go.Vc.V8 h,fun w=>by simp[execOp,h,asBool]⟩
theorem J3 {p:Addr} (h:ρ x= .pointer (some p)):Pu P (execOp ρ ⟨d,.nilCheck x,ty,ps,af,g⟩) (.pointer (some p)):=⟨fun w=>by simp[execOp,h],fun w=>by simp[execOp,h]⟩
theorem kp0 {S:TypeId} {b o f:Nat} {fs:Array Field} {fl:Field} {s:Nat} (hx:ρ x= .pointer (some ⟨b,o,none⟩)) (hT:P.underlying S=some (.struct fs)) (hf:fs[f]? =some fl) (hs:(P.info? fl.type).map (·.size)=some s) (h0:s≠0):Pu P (execOp ρ ⟨d,.fieldAddr S x f,ty,ps,af,g⟩) (.pointer (some ⟨b,o+fl.offset,none⟩)):=by
 refine⟨fun w=>Go.Vc.O0 hx hT hf hs h0,fun w=>?_⟩;obtain⟨i,hi,hs'⟩:=Option.map_eq_some_iff.1 hs;simp[execOp,hx,Instr.fieldAt,run_underlying hT,hf,Instr.sureAddr,fieldPlace,sizeOf,typeInfo,hi,hs',h0,go_sem]
theorem A3 {S:TypeId} {b f:Nat} (o r:Nat) {fs:Array Field} {fl:Field} {s:Nat} (hx:ρ x= .pointer (some ⟨b,o,none⟩)) (hT:P.underlying S=some (.struct fs)) (hf:fs[f]? =some fl) (hs:(P.info? fl.type).map (·.size)=some s) (h0:s≠0) (hr:o+fl.offset=r):Pu P (execOp ρ ⟨d,.fieldAddr S x f,ty,ps,af,g⟩) (.pointer (some ⟨b,r,none⟩)):=by subst hr;exact kp0 hx hT hf hs h0
variable {κ κ':IntKind}{m k r:Int}
theorem Pa0 (hx:ρ x= .int κ m) (hy:ρ y= .int κ k):Pu P (execOp ρ ⟨d,.binOp .lss T x y T',ty,ps,af,g⟩) (.bool (decide (m<k))):=⟨fun w=>Go.Vc.cm0 hx hy,fun w=>by simp[execOp,hx,hy,eqGuard,binOp,Op.intCmp]⟩
theorem Pb0 (hx:ρ x= .int κ m) (hy:ρ y= .int κ k):Pu P (execOp ρ ⟨d,.binOp .gtr T x y T',ty,ps,af,g⟩) (.bool (decide (k<m))):=⟨fun w=>Go.Vc.ud0 hx hy,fun w=>by simp[execOp,hx,hy,eqGuard,binOp,Op.intCmp]⟩
theorem Pc0 (hx:ρ x= .int κ m) (hy:ρ y= .int κ k):Pu P (execOp ρ ⟨d,.binOp .eql T x y T',ty,ps,af,g⟩) (.bool (decide (m=k))):=⟨fun w=>Go.Vc.M4 hx hy,fun w=>by simp[execOp,hx,hy,go_sem,eqGuard,binOp,Op.intCmp]⟩
theorem Pd0 (hx:ρ x= .int κ m) (hy:ρ y= .int κ k):Pu P (execOp ρ ⟨d,.binOp .neq T x y T',ty,ps,af,g⟩) (.bool (decide (m≠k))):=⟨fun w=>Go.Vc.kc0 hx hy,fun w=>by simp[execOp,hx,hy,go_sem,eqGuard,binOp,Op.intCmp]⟩
theorem ae0 {r:Bool} (hx:ρ x= .int κ m) (hy:ρ y= .int κ k) (hr:decide (m<k)=r):Pu P (execOp ρ ⟨d,.binOp .lss T x y T',ty,ps,af,g⟩) (.bool r):=by subst hr;exact Pa0 hx hy
theorem bs0 {r:Bool} (hx:ρ x= .int κ m) (hy:ρ y= .int κ k) (hr:decide (k<m)=r):Pu P (execOp ρ ⟨d,.binOp .gtr T x y T',ty,ps,af,g⟩) (.bool r):=by subst hr;exact Pb0 hx hy
theorem Z8 {r:Bool} (hx:ρ x= .int κ m) (hy:ρ y= .int κ k) (hr:decide (m=k)=r):Pu P (execOp ρ ⟨d,.binOp .eql T x y T',ty,ps,af,g⟩) (.bool r):=by subst hr;exact Pc0 hx hy
theorem c7 {r:Bool} (hx:ρ x= .int κ m) (hy:ρ y= .int κ k) (hr:decide (m≠k)=r):Pu P (execOp ρ ⟨d,.binOp .neq T x y T',ty,ps,af,g⟩) (.bool r):=by subst hr;exact Pd0 hx hy
theorem wt0 (hx:ρ x= .int κ m) (hy:ρ y= .int κ k) (hr:κ.wrap (m+k)=r):Pu P (execOp ρ ⟨d,.binOp .add T x y T',ty,ps,af,g⟩) (.int κ r):=⟨fun w=>by rw[<- hr];exact Go.Vc.kb0 hx hy,fun w=>by simp[execOp,hx,hy,eqGuard,binOp,Op.intArith]⟩
theorem Pe0 (hx:ρ x= .int κ m) (hy:ρ y= .int κ k) (hr:κ.wrap (m-k)=r):Pu P (execOp ρ ⟨d,.binOp .sub T x y T',ty,ps,af,g⟩) (.int κ r):=⟨fun w=>by rw[<- hr];exact Go.Vc.ze0 hx hy,fun w=>by simp[execOp,hx,hy,eqGuard,binOp,Op.intArith]⟩
theorem B6 (hx:ρ x= .int κ m) (hy:ρ y= .int κ k) (hr:κ.wrap ((BitVec.ofInt κ.bits m &&& BitVec.ofInt κ.bits k).toNat:Int)=r):Pu P (execOp ρ ⟨d,.binOp .and T x y T',ty,ps,af,g⟩) (.int κ r):=⟨fun w=>by subst hr;simp[execOp,hx,hy,eqGuard,binOp,Op.intBits],fun w=>by simp[execOp,hx,hy,eqGuard,binOp,Op.intBits]⟩
theorem Dx0 (hx:ρ x= .int κ m) (hy:ρ y= .int κ' k) (h0:0 <=k) (hr:κ.wrap (m*2 ^ (min k.toNat κ.bits))=r):Pu P (execOp ρ ⟨d,.binOp .shl T x y T',ty,ps,af,g⟩) (.int κ r):=⟨fun w=>by subst hr;simp[execOp,hx,hy,eqGuard,binOp,Op.shift,show ¬k<0 by omega],fun w=>by simp[execOp,hx,hy,eqGuard,binOp,Op.shift,show ¬k<0 by omega]⟩
theorem bt0 (hx:ρ x= .int κ m) (hy:ρ y= .int κ' k) (h0:0 <=k) (hr:m.fdiv (2 ^ (min k.toNat κ.bits))=r):Pu P (execOp ρ ⟨d,.binOp .shr T x y T',ty,ps,af,g⟩) (.int κ r):=⟨fun w=>by subst hr;simp[execOp,hx,hy,eqGuard,binOp,Op.shift,show ¬k<0 by omega],fun w=>by simp[execOp,hx,hy,eqGuard,binOp,Op.shift,show ¬k<0 by omega]⟩
theorem q3 {S D:TypeId} (hx:ρ x= .int κ m) (hS:P.underlying S=some (.int κ)) (hD:P.underlying D=some (.int κ')) (hr:κ'.wrap m=r):Pu P (execOp ρ ⟨d,.convert S D x,ty,ps,af,g⟩) (.int κ' r):=by
 subst hr;refine⟨fun w=>?_,fun w=>?_⟩ <;> simp[execOp,hx,convert,run_underlying hS,run_underlying hD,go_sem]
end
theorem Z0 (f:FuncId):(base f).kind≠.early:=by intro h;cases h
theorem bkd (f:FuncId):(baseD f).kind≠.early:=by intro h;cases h
theorem B3 (P:Program) (gr:H4):HF P false (fun e=>wd0 e=true) (fun m d g=>Lt P gr m d g) :=
 ⟨fun _m _d _g g' es h1 _ h3 h4 h5=>.inl ⟨g',es,⟨h1,h3,fun w _ _ _=>h4 w⟩,h5⟩⟩
theorem Uj0 (P:Program) (gr:H4):StG P false gr (fun m d g=>Lt P gr m d g) :=
 fun m d g g' h1 _ h3 h4=>.inl ⟨g',#[],⟨h1,fun e he=>by simp at he,h3⟩,h4⟩
theorem j0 (P:Program):HF P false (fun e=>Event.mute e=true) (fun m d g=>QuitsD P m d g) :=
 ⟨fun _m _d _g g' es h1 _ h3 h4 h5=>.inr ⟨h1,g',es,h3,h4,h5⟩⟩
theorem QuitsD.mono {P:Program}:∀{n m d:Nat} {g:Goroutine},QuitsD P n d g->n <=m->QuitsD P m d g
 |0,0,_,_,h,_=>h
 |0,_+1,_,_,h,_=>.inl h
 |n+1,0,_,_,_,hm=>absurd hm (by omega)
 |n+1,m+1,_,_,h,hm=>h.elim .inl fun⟨h1,g',es,h2,h3,h4⟩=>.inr ⟨h1,g',es,h2,h3,QuitsD.mono h4 (by omega)⟩
def quiet (e:Event):Bool:=match e.loc with
 | .mark .disable| .mark .enable| .mark (.read _)| .mark (.write _)| .mark (.release _)=>false
 | .mark _=>true
 |_=>false
theorem ei0 {e:Event} (h:quiet e=true):wd0 e=true/\e.loc≠.mark .disable/\e.loc≠.mark .enable:=by
 obtain⟨l,a,b⟩:=e;cases l with
 |mark m=>cases m <;> first|(cases h;done)|exact⟨rfl,by simp,by simp⟩
 |_=>cases h
theorem deaf_quiet {d:Nat} {es:Array Event} (h:∀e∈es,quiet e=true):deafBehind d es=d:=deafBehind_still (fun e he=>(ei0 (h e he)).2) d
theorem P0 (P:Program) (gr:H4) (s:Nat):HF P false (fun e=>quiet e=true) (fun m d g=>0<d->Lst P gr m s d g) :=
 ⟨fun m d g g' es h1 _ h3 h4 h5 hd=>⟨hd,.inl ⟨g',es,⟨h1,fun e he=>(ei0 (h3 e he)).1,fun w _ _ _=>h4 w⟩,fun e he=>(ei0 (h3 e he)).2,by rw[deaf_quiet h3]at h5;exact h5 hd⟩⟩⟩
theorem kq0 (v wt:Nat) (hw:wt <=1) (hv:v<2147483648):IntKind.u64.wrap ((BitVec.ofInt IntKind.u64.bits ((v*4294967296+wt:Nat):Int) &&& BitVec.ofInt IntKind.u64.bits 2147483648).toNat:Int)=0:=by
 have h1:(BitVec.ofInt 64 ((v*4294967296+wt:Nat):Int)).toNat=v*4294967296+wt:=by
  rw[BitVec.ofInt_natCast,BitVec.toNat_ofNat];exact Nat.mod_eq_of_lt (by omega)
 have h2:(BitVec.ofInt 64 2147483648).toNat=2147483648:=by decide
 show IntKind.u64.wrap ((BitVec.ofInt 64 ((v*4294967296+wt:Nat):Int) &&& BitVec.ofInt 64 2147483648).toNat:Int)=0;rw[BitVec.toNat_and,h1,h2];have h3:(v*4294967296+wt) &&& 2147483648=0:=by
  apply Nat.eq_of_testBit_eq;intro i;rw[Nat.testBit_and,Nat.zero_testBit];by_cases hi:i=31
  ·subst hi;have:(v*4294967296+wt).testBit 31=false:=by
    rw[Nat.testBit_eq_decide_div_mod_eq];have:(v*4294967296+wt)/2 ^ 31=v*2:=by omega
    rw[this];simp
   rw[this];rfl
  ·have:(2147483648:Nat).testBit i=false:=by
    rw[show(2147483648:Nat)=2 ^ 31 by decide,Nat.testBit_two_pow];simp;omega
   rw[this];simp
 rw[h3];decide
theorem ej0 (v wt:Nat) (hw:wt <=1) (hv:v<2147483648):IntKind.u64.wrap ((BitVec.ofInt IntKind.u64.bits ((v*4294967296+wt:Nat):Int) &&& BitVec.ofInt IntKind.u64.bits 2147483647).toNat:Int)=(wt:Int):=by
 have h1:(BitVec.ofInt 64 ((v*4294967296+wt:Nat):Int)).toNat=v*4294967296+wt:=by
  rw[BitVec.ofInt_natCast,BitVec.toNat_ofNat];exact Nat.mod_eq_of_lt (by omega)
 have h2:(BitVec.ofInt 64 2147483647).toNat=2147483647:=by decide
 show IntKind.u64.wrap ((BitVec.ofInt 64 ((v*4294967296+wt:Nat):Int) &&& BitVec.ofInt 64 2147483647).toNat:Int)=_;rw[BitVec.toNat_and,h1,h2,show(2147483647:Nat)=2 ^ 31-1 by decide,Nat.and_two_pow_sub_one_eq_mod];rw[IntKind.wrap_u64];omega
theorem kr0 (v wt:Nat) (hw:wt <=1):(((v*4294967296+wt:Nat):Int)).fdiv (2 ^ (min (32:Int).toNat IntKind.u64.bits))=(v:Int):=by
 have:(2:Int) ^ (min (32:Int).toNat IntKind.u64.bits)=4294967296:=by decide
 rw[this,Int.fdiv_eq_ediv_of_nonneg _ (by decide)];omega
theorem bd0 (v:Nat) (hv:v<2147483648):IntKind.i32.wrap (v:Int)=(v:Int):=by
 simp only[IntKind.wrap,IntKind.bits,IntKind.signed];simp;omega
attribute [local irreducible] KK
theorem uq0:KK=4294967296:=by unfold KK;rfl
theorem Dy0 (v wt:Nat) (h:v<2147483647) (hw:wt <=1):IntKind.u64.wrap ((((v+1)*4294967296+wt:Nat):Int)+18446744069414584320)=((v*4294967296+wt:Nat):Int):=by rw[IntKind.wrap_u64];omega
theorem Dz0 (v:Nat) (h:v<2147483647):IntKind.u64.wrap (((v*4294967296:Nat):Int)+4294967296)=(((v+1)*4294967296:Nat):Int):=by rw[IntKind.wrap_u64];omega
section
variable {P:Program}{gr:H4}{ft n:Nat}{b:Frame}{cs:List Frame}{ds:List Deferred}{d:Nat}{e:Env}{k:List Item}{ops:Array Oper}{i:Nat}{l:List Oper}{dst:Option Nat}{ty:TypeId}{ps:String}{af:Array Edge}{f:FuncId}{fn:Func}{x y z:Operand}{ats:Array TypeId}
abbrev YLt (P:Program) (gr:H4):Nat->Nat->Goroutine->Prop:=fun m d g=>Lt P gr m d g
abbrev YQ (P:Program):Nat->Nat->Goroutine->Prop:=fun m d g=>QuitsD P m d g
abbrev Bg0 (P:Program) (gr:H4) (s:Nat):Nat->Nat->Goroutine->Prop:=fun m d g=>0<d->Lst P gr m s d g
theorem I0.Ms0 (hk:b.kind≠.early) (hd:j4 n dst=true) (hf:P.funcs[f]? =some fn) (O2:(fn.name== "runtime.NumGoroutine")=false) (hb:fn.body.isNone=true) (hn:Extern.findNext fn=none) (he:Extern.find fn=some (Extern.Atomic.update (Op.intArith .add) .u64 true)) (hx:ev e x= .pointer (some ⟨gr.blk,gr.off,none⟩)) (hy:ev e y= .int .u64 18446744069414584320)
  (h1:∀v wt:Nat,wt <=1->v<2147483647->¬(v=0/\wt=1)->I0 (YQ P) ft n b cs ds (d+1) (m3 e dst (.int .u64 ((v*4294967296+wt:Nat):Int))) ops (i+1) l k)
  (h2:I0 (Bg0 P gr 2) ft n b cs ds (d+1) (m3 e dst (.int .u64 ((0*4294967296+1:Nat):Int))) ops (i+1) l k) :
  I0 (YLt P gr) (ft+1) n b cs ds (d+1) e ops i (⟨dst,.call {callee:=.value (.func f),args:=#[x,y],argTypes:=ats},ty,ps,af,none⟩::l) k:=by
 intro hl a ha;obtain⟨ho,x5⟩:=E3 hl;refine .inr ⟨rfl,Nat.succ_pos d,fun v wt hwt hv=>⟨G (b.at (a.put dst (.int .u64 ((v*4294967296+wt:Nat):Int))) (.inRegion ops (List.range' (i+1) l.length)::k)) cs,fun w hw=>?_,fun D3=>h1 v wt hwt hv D3 x5 _ (ha.put hd _),fun hl2=>?_⟩⟩
 ·rw[uq0]at hw⊢;obtain⟨c1,_,c3,_⟩:=hw.cells;show stepG P false (G (b.at a (.inRegion ops (i::List.range' (i+1) l.length)::k)) cs) w=_;rw[stepG_add_atomic ho (by rw[ha.yielded];rfl) hk rfl hf O2 hb hn .u64 he (ad:=stA gr) (by rw[ha.eval];exact hx) (by rw[ha.eval];exact hy) c1 c3,Dy0 v wt hv hwt];rfl
 ·obtain⟨rfl,rfl⟩:=hl2;exact h2 x5 _ (ha.put hd _) (Nat.succ_pos d)
theorem I0.Jm0 (hk:b.kind≠.early) (hd:j4 n dst=true) (hf:P.funcs[f]? =some fn) (O2:(fn.name== "runtime.NumGoroutine")=false) (hb:fn.body.isNone=true) (hn:Extern.findNext fn=none) (he:Extern.find fn=some (Extern.Atomic.loadT (.int .u64))) (hx:ev e x= .pointer (some ⟨gr.blk,gr.off,none⟩))
  (h:I0 (Bg0 P gr 1) ft n b cs ds d (m3 e dst (.int .u64 1)) ops (i+1) l k) :
  I0 (Bg0 P gr 2) (ft+1) n b cs ds d e ops i (⟨dst,.call {callee:=.value (.func f),args:=#[x],argTypes:=ats},ty,ps,af,none⟩::l) k:=by
 intro hl a ha h0;obtain⟨ho,x5⟩:=E3 hl;refine⟨h0,.inr ⟨rfl,G (b.at (a.put dst (.int .u64 1)) (.inRegion ops (List.range' (i+1) l.length)::k)) cs,fun w hw=>?_,h x5 _ (ha.put hd _) h0⟩⟩;exact stepG_load_atomic (v:=1) ho (by rw[ha.yielded];rfl) hk rfl hf O2 hb hn .u64 he (ad:=stA gr) (by rw[ha.eval];exact hx) hw.cells.1
theorem I0.Ea0 (hk:b.kind≠.early) (hd:j4 n dst=true) (hf:P.funcs[f]? =some fn) (O2:(fn.name== "runtime.NumGoroutine")=false) (hb:fn.body.isNone=true) (hn:Extern.findNext fn=none) (he:Extern.find fn=some Extern.Atomic.storeT) (hx:ev e x= .pointer (some ⟨gr.blk,gr.off,none⟩)) (hy:ev e y= .int .u64 0)
  (h:I0 (Bg0 P gr 0) ft n b cs ds d (m3 e dst (.tuple #[])) ops (i+1) l k) :
  I0 (Bg0 P gr 1) (ft+1) n b cs ds d e ops i (⟨dst,.call {callee:=.value (.func f),args:=#[x,y],argTypes:=ats},ty,ps,af,none⟩::l) k:=by
 intro hl a ha h0;obtain⟨ho,x5⟩:=E3 hl;refine⟨h0,.inr ⟨rfl,G (b.at (a.put dst (.tuple #[])) (.inRegion ops (List.range' (i+1) l.length)::k)) cs,fun w hw=>?_,h x5 _ (ha.put hd _) h0⟩⟩;exact stepG_store_atomic ho (by rw[ha.yielded];rfl) hk rfl hf O2 hb hn he (ad:=stA gr) (k:=.u64) (v:=0) (by rw[ha.eval];exact hx) (by rw[ha.eval];exact hy) hw.cells.1 hw.cells.2.2.1
theorem nb0 {a:Act} {rest:List Nat} {o:Oper} {xs:Array Operand}
  (ho:ops[i]? =some o) (C5:o.op= .call {callee:=.value (.func f),args:=xs,argTypes:=ats}) (hf:P.funcs[f]? =some fn) (hb:fn.body.isNone=true):mayWake P (G (b.at a (.inRegion ops (i::rest)::k)) cs)=true:=by
 have h2:fn.body=none:=by simpa using hb
 have ef:(b.at a (.inRegion ops (i::rest)::k)).eval (.func f)= .func (.func f) #[] #[]:=rfl;simp[mayWake,G,Frame.at,ho,C5]at ef⊢;simp[ef,hf,h2]
theorem I0.Pf0 (hk:b.kind≠.early) (hd:j4 n dst=true) (hf:P.funcs[f]? =some fn) (O2:(fn.name== "runtime.NumGoroutine")=false) (hb:fn.body.isNone=true) (hn:Extern.findNext fn=none) (he:Extern.find fn=some Extern.Sync.semrelease) {asx:Array Operand} (hx:(asx.toList.map (ev e))[0]? =some (.pointer (some ⟨gr.blk,gr.off+1,none⟩)))
  (h:I0 (YQ P) ft n b cs ds d (m3 e dst (.tuple #[])) ops (i+1) l k) :
  I0 (Bg0 P gr 0) (ft+1) n b cs ds d e ops i (⟨dst,.call {callee:=.value (.func f),args:=asx,argTypes:=ats},ty,ps,af,none⟩::l) k:=by
 intro hl a ha h0;obtain⟨ho,x5⟩:=E3 hl;refine⟨h0,.inr ⟨rfl,nb0 (rest:=List.range' (i+1) l.length) ho rfl hf hb,G (b.at (a.put dst (.tuple #[])) (.inRegion ops (List.range' (i+1) l.length)::k)) cs,fun w hw=>?_,h x5 _ (ha.put hd _)⟩⟩;have:=stepG_semrelease (P:=P) (main:=false) (b:=b) (kk:=k) (cs:=cs) (rest:=List.range' (i+1) l.length) (n:=0) ho (by rw[ha.yielded];rfl) hk rfl hf O2 hb hn he (ad:=smA gr) (by rw[ha.eval,R6 rfl];simpa [smA]using hx) hw.cells.2.1 hw.cells.2.2.2;exact this
variable {K:Goroutine->Prop}{E:Nat->Nat->Goroutine->Prop}{o:Option Nat}{V:Nat}
abbrev Eb0 (P:Program) (gr:H4) (K:Goroutine->Prop):Nat->Nat->Goroutine->Prop:=fun m d g=>Ck0 P gr K m d g
abbrev zn0 (P:Program) (gr:H4) (K:Goroutine->Prop):Nat->Nat->Goroutine->Prop:=fun m d g=>It0 P gr K m d g
abbrev XWH (P:Program) (gr:H4) (E:Nat->Nat->Goroutine->Prop) (o:Option Nat) (V:Nat):Nat->Nat->Goroutine->Prop:=fun m d g=>WH P gr E m o V d g
abbrev XWS (P:Program) (gr:H4) (E:Nat->Nat->Goroutine->Prop):Nat->Nat->Goroutine->Prop:=fun m d g=>WS P gr E m d g
abbrev YWH (P:Program) (gr:H4) (K:Goroutine->Prop) (o:Option Nat) (V:Nat):Nat->Nat->Goroutine->Prop:=XWH P gr (WE P gr K) o V
abbrev YWE (P:Program) (gr:H4) (K:Goroutine->Prop):Nat->Nat->Goroutine->Prop:=fun m d g=>WE P gr K m d g
def okM (gr:H4) (e:Event):Prop:=wd0 e=true\/e.loc= .mark (.read ⟨gr.blk,gr.off+1,none⟩)\/e.loc= .mark (.write ⟨gr.blk,gr.off+1,none⟩)
theorem so0 {e:Event} (h:okM gr e):GEv gr 0 e:=by
 rcases h with h|h|h
 ·exact ch0 h
 ·obtain⟨l,w,s⟩:=e;cases h;refine⟨fun b hb=>?_,by simp⟩;simp[MemAct.ofEvent,MemAct.touch?]at hb;subst hb;exact⟨⟨_,rfl,rfl,by simp⟩,by simp,fun h=>absurd rfl h⟩
 ·obtain⟨l,w,s⟩:=e;cases h;refine⟨fun b hb=>?_,by simp⟩;simp[MemAct.ofEvent,MemAct.touch?]at hb;subst hb;exact⟨⟨_,rfl,rfl,by simp⟩,by simp,fun h=>absurd rfl h⟩
theorem be0 {g g':Goroutine} {es:Array Event} (h1:g.status= .running) (h2:g'.status= .running) (h3:∀e∈es,okM gr e) (h4:∀w st sm,q7 gr st sm w->stepG P true g w= .go g' w es):oq0 P gr g g' es:=⟨h1,h2,fun e he=>so0 (h3 e he),h4⟩
theorem j3:HF P true (okM gr) (Eb0 P gr K):=⟨fun _m _d _g g' es h1 h2 h3 h4 h5=>.inl ⟨g',es,be0 h1 h2 h3 fun w _ _ _=>h4 w,h5⟩⟩
theorem W0:HF P true (okM gr) (zn0 P gr K):=⟨fun _m _d _g g' es h1 h2 h3 h4 h5=>.inr ⟨g',es,be0 h1 h2 h3 fun w _ _ _=>h4 w,h5⟩⟩
theorem Jn0:StG P true gr (zn0 P gr K):=fun m d g g' h1 h2 h3 h4=>.inr ⟨g',#[],be0 h1 h2 (fun e he=>by simp at he) h3,h4⟩
theorem A2:HF P true (okM gr) (XWH P gr E o V):=⟨fun _m _d _g g' es h1 h2 h3 h4 h5=>.inl ⟨g',es,be0 h1 h2 h3 fun w _ _ _=>h4 w,h5⟩⟩
theorem q4:HF P true (okM gr) (XWS P gr E):=⟨fun _m _d _g g' es h1 h2 h3 h4 h5=>.inl ⟨g',es,be0 h1 h2 h3 fun w _ _ _=>h4 w,h5⟩⟩
theorem Uk0:StG P true gr (XWS P gr E):=fun m d g g' h1 h2 h3 h4=>.inl ⟨g',#[],be0 h1 h2 (fun e he=>by simp at he) h3,h4⟩
theorem I2:HF P true (okM gr) (YWE P gr K):=⟨fun _m _d _g g' es h1 _h2 h3 h4 h5=>.inr ⟨g',es,h1,fun e he=>so0 (h3 e he),fun w _=>h4 w,h5⟩⟩
theorem Ul0:StG P true gr (YWE P gr K):=fun m d g g' h1 h2 h3 h4=>.inr ⟨g',#[],h1,fun e he=>by simp at he,fun w hw=>h3 w _ _ hw,h4⟩
theorem WE.mono:∀{n m d:Nat} {g:Goroutine},WE P gr K n d g->n <=m->WE P gr K m d g
 |0,0,_,_,h,_=>h
 |0,_+1,_,_,h,_=>.inl h
 |n+1,0,_,_,_,hm=>absurd hm (by omega)
 |n+1,m+1,_,_,h,hm=>h.elim .inl fun⟨g',es,h1,h2,h3,h4⟩=>.inr ⟨g',es,h1,h2,h3,WE.mono h4 (by omega)⟩
theorem WS.mono (hE:∀(n m d:Nat) (g:Goroutine),E n d g->n <=m->E m d g):∀{n m d:Nat} {g:Goroutine},WS P gr E n d g->n <=m->WS P gr E m d g
 |0,_,_,_,h,_=>h.elim
 |n+1,0,_,_,_,hm=>absurd hm (by omega)
 |n+1,m+1,_,_,h,hm=>by
  rcases h with⟨g',es,h1,h2⟩|⟨h0,h1,h2,h3,g',h4,h5⟩
  ·exact .inl ⟨g',es,h1,WS.mono hE h2 (by omega)⟩
  ·exact .inr ⟨h0,h1,h2,h3,g',h4,hE _ _ _ _ h5 (by omega)⟩
theorem WH.mono (hE:∀(n m d:Nat) (g:Goroutine),E n d g->n <=m->E m d g):∀{n m:Nat} {o:Option Nat} {V d:Nat} {g:Goroutine},WH P gr E n o V d g->n <=m->WH P gr E m o V d g
 |0,_,_,_,_,_,h,_=>h.elim
 |n+1,0,_,_,_,_,_,hm=>absurd hm (by omega)
 |n+1,m+1,o,V,d,g,h,hm=>by
  unfold WH at h⊢;rcases h with⟨g',es,h1,h2⟩|⟨h1,h2⟩
  ·exact .inl ⟨g',es,h1,WH.mono hE h2 (by omega)⟩
  ·refine .inr ⟨h1,?_⟩;cases o with
   |none=>
    intro v hv;obtain⟨g',h3,h4,h5⟩:=h2 v hv;exact⟨g',h3,fun hz=>hE _ _ _ _ (h4 hz) (by omega),fun hz=>WH.mono hE (h5 hz) (by omega)⟩
   |some vs=>
    obtain⟨⟨g',h3,h4⟩,h5⟩:=h2;refine⟨⟨g',h3,WS.mono (E:=E) hE h4 (by omega)⟩,fun v hv=>?_⟩;obtain⟨g2,h6,h7⟩:=h5 v hv;exact⟨g2,h6,WH.mono hE h7 (by omega)⟩
theorem At.jk0 {Y:Nat->Nat->Goroutine->Prop} {t:Nat} {v:Value} {todo:List Item} (h:∀e,At Y ft n b cs ds d (upd e t v) todo) (he:e t=v):At Y ft n b cs ds d e todo:=by rw[Go.Vc.S2 he];exact h e
theorem At.Ec0 (hE:∀(n m d:Nat) (g:Goroutine),E n d g->n <=m->E m d g) {ft':Nat} {todo:List Item} (h:At (XWH P gr E o V) ft n b cs ds d e todo) (hm:ft <=ft'):At (XWH P gr E o V) ft' n b cs ds d e todo:=fun a ha=>WH.mono (E:=E) hE (h a ha) hm
theorem At.Ed0 {ft':Nat} {todo:List Item} (h:At (YWH P gr K o V) ft n b cs ds d e todo) (hm:ft <=ft'):At (YWH P gr K o V) ft' n b cs ds d e todo:=At.Ec0 (E:=WE P gr K) (fun _ _ _ _=>WE.mono) h hm
theorem AtR.Ee0 {main:Bool} {ok:Event->Prop} {Y:Nat->Nat->Goroutine->Prop} {todo:List Item} (hY:HF P main ok Y) {c:Frame} (hn:b.kind= .normal) (hf:P.funcs[b.fn]? =some fn) (hr:fn.results=#[]) (h:Y ft d (G (c.finish (.tuple #[])) cs)):AtR Y (ft+1) n b (c::cs) [] d e todo :=
 fun _a ha=>hY.c rfl rfl (fun w=>stepG_leave hn ha.defers hf (results_none hr _ P w) (events_results_none hr _ _)) h
theorem Ef0 {g:Goroutine} (h:K g):zn0 P gr K n 0 g:=by cases n with
 |zero=>exact⟨rfl,h⟩
 |succ n=>exact .inl ⟨rfl,h⟩
theorem Pg0 {g:Goroutine} (h:K g):YWE P gr K n 0 g:=by cases n with
 |zero=>exact⟨rfl,h⟩
 |succ n=>exact .inl ⟨rfl,h⟩
theorem I0.Cl0 (hk:b.kind≠.early) (hd:j4 n dst=true) (hf:P.funcs[f]? =some fn) (O2:(fn.name== "runtime.NumGoroutine")=false) (hb:fn.body.isNone=true) (hn:Extern.findNext fn=none) (he:Extern.find fn=some (Extern.Atomic.update (Op.intArith .add) .u64 true)) (hx:ev e x= .pointer (some ⟨gr.blk,gr.off,none⟩)) (hy:ev e y= .int .u64 4294967296)
  (h:∀v:Nat,v<2147483647->I0 (zn0 P gr K) ft n b cs ds d (m3 e dst (.int .u64 (((v+1)*4294967296+0:Nat):Int))) ops (i+1) l k) :
  I0 (Eb0 P gr K) (ft+1) n b cs ds d e ops i (⟨dst,.call {callee:=.value (.func f),args:=#[x,y],argTypes:=ats},ty,ps,af,none⟩::l) k:=by
 intro hl a ha;obtain⟨ho,x5⟩:=E3 hl;simp only[Nat.add_zero]at h;refine .inr ⟨rfl,fun v hv=>⟨G (b.at (a.put dst (.int .u64 (((v+1)*4294967296:Nat):Int))) (.inRegion ops (List.range' (i+1) l.length)::k)) cs,rfl,fun w hw=>?_,h v hv x5 _ (ha.put hd _)⟩⟩;rw[uq0]at hw⊢;obtain⟨c1,_,c3,_⟩:=hw.cells;show stepG P true (G (b.at a (.inRegion ops (i::List.range' (i+1) l.length)::k)) cs) w=_;rw[stepG_add_atomic ho (by rw[ha.yielded];rfl) hk rfl hf O2 hb hn .u64 he (ad:=stA gr) (by rw[ha.eval];exact hx) (by rw[ha.eval];exact hy) c1 c3,Dz0 v hv];rfl
theorem I0.Eg0 (hk:b.kind≠.early) (hd:j4 n dst=true) (hf:P.funcs[f]? =some fn) (O2:(fn.name== "runtime.NumGoroutine")=false) (hb:fn.body.isNone=true) (hn:Extern.findNext fn=none) (he:Extern.find fn=some (Extern.Atomic.loadT (.int .u64))) (hx:ev e x= .pointer (some ⟨gr.blk,gr.off,none⟩))
  (h0:I0 E ft n b cs ds d (m3 e dst (.int .u64 0)) ops (i+1) l k)
  (h:∀v:Nat,v <=V->0<v->I0 (XWH P gr E (some v) V) ft n b cs ds d (m3 e dst (.int .u64 ((v*4294967296+0:Nat):Int))) ops (i+1) l k) :
  I0 (XWH P gr E none V) (ft+1) n b cs ds d e ops i (⟨dst,.call {callee:=.value (.func f),args:=#[x],argTypes:=ats},ty,ps,af,none⟩::l) k:=by
 intro hl a ha;obtain⟨ho,x5⟩:=E3 hl;simp only[Nat.add_zero]at h;refine .inr ⟨rfl,fun v hv=>⟨G (b.at (a.put dst (.int .u64 ((v*4294967296:Nat):Int))) (.inRegion ops (List.range' (i+1) l.length)::k)) cs,fun w hw=>?_,fun hz=>?_,fun hz=>h v hv (by omega) x5 _ (ha.put hd _)⟩⟩
 ·rw[uq0]at hw;exact stepG_load_atomic ho (by rw[ha.yielded];rfl) hk rfl hf O2 hb hn .u64 he (ad:=stA gr) (by rw[ha.eval];exact hx) hw.cells.1
 ·subst hz;rw[Nat.zero_mul];exact h0 x5 _ (ha.put hd _)
theorem I0.Mt0 {vs:Nat} (hk:b.kind≠.early) (hd:j4 n dst=true) (hf:P.funcs[f]? =some fn) (O2:(fn.name== "runtime.NumGoroutine")=false) (hb:fn.body.isNone=true) (hn:Extern.findNext fn=none) (he:Extern.find fn=some (Extern.Atomic.casT (.int .u64))) (hx:ev e x= .pointer (some ⟨gr.blk,gr.off,none⟩)) (hy:ev e y= .int .u64 ((vs*4294967296+0:Nat):Int)) (hz:ev e z= .int .u64 ((vs*4294967296+1:Nat):Int))
  (h0:I0 (XWS P gr E) ft n b cs ds d (m3 e dst (.bool true)) ops (i+1) l k)
  (h:∀v:Nat,v<vs->I0 (XWH P gr E none v) ft n b cs ds d (m3 e dst (.bool false)) ops (i+1) l k) :
  I0 (XWH P gr E (some vs) V) (ft+1) n b cs ds d e ops i (⟨dst,.call {callee:=.value (.func f),args:=#[x,y,z],argTypes:=ats},ty,ps,af,none⟩::l) k:=by
 intro hl a ha;obtain⟨ho,x5⟩:=E3 hl;rw[Nat.add_zero]at hy;refine .inr ⟨rfl,⟨G (b.at (a.put dst (.bool true)) (.inRegion ops (List.range' (i+1) l.length)::k)) cs,fun w hw=>?_,h0 x5 _ (ha.put hd _)⟩,fun v hv=>⟨G (b.at (a.put dst (.bool false)) (.inRegion ops (List.range' (i+1) l.length)::k)) cs,fun w hw=>?_,h v hv x5 _ (ha.put hd _)⟩⟩
 ·rw[uq0]at hw⊢;exact stepG_cas_hit ho (by rw[ha.yielded];rfl) hk rfl hf O2 hb hn .u64 he (ad:=stA gr) (by rw[ha.eval];exact hx) (by rw[ha.eval];exact hy) (by rw[ha.eval];exact hz) hw.cells.1 hw.cells.2.2.1
 ·rw[uq0]at hw;exact stepG_cas_miss ho (by rw[ha.yielded];rfl) hk rfl hf O2 hb hn .u64 he (ad:=stA gr) (by rw[ha.eval];exact hx) (by rw[ha.eval];exact hy) (by rw[ha.eval];exact hz) hw.cells.1 hw.cells.2.2.1 (by omega)
theorem I0.Um0 (hk:b.kind≠.early) (hd:j4 n dst=true) (hf:P.funcs[f]? =some fn) (O2:(fn.name== "runtime.NumGoroutine")=false) (hb:fn.body.isNone=true) (hn:Extern.findNext fn=none) (he:Extern.find fn=some Extern.Sync.semacquire) {asx:Array Operand} (hx:(asx.toList.map (ev e))[0]? =some (.pointer (some ⟨gr.blk,gr.off+1,none⟩)))
  (h:I0 E ft n b cs ds (d+1) (m3 e dst (.tuple #[])) ops (i+1) l k) :
  I0 (XWS P gr E) (ft+1) n b cs ds (d+1) e ops i (⟨dst,.call {callee:=.value (.func f),args:=asx,argTypes:=ats},ty,ps,af,none⟩::l) k:=by
 intro hl a ha;obtain⟨ho,x5⟩:=E3 hl;have W3:(asx.map a.eval)[0]? =some (.pointer (some (smA gr))):=by rw[ha.eval,R6 rfl];simpa [smA]using hx
 refine .inr ⟨Nat.succ_pos d,rfl,rfl,fun w st hw=>?_,G (b.at (a.put dst (.tuple #[])) (.inRegion ops (List.range' (i+1) l.length)::k)) cs,fun w hw=>?_,h x5 _ (ha.put hd _)⟩
 ·exact stepG_semacquire_wait ho (by rw[ha.yielded];rfl) rfl hf O2 hb hn he W3 hw.cells.2.1
 ·exact stepG_semacquire (n:=1) ho (by rw[ha.yielded];rfl) hk rfl hf O2 hb hn he W3 hw.cells.2.1 (by decide) hw.cells.2.2.2
theorem I0.Ph0 (hk:b.kind≠.early) (hd:j4 n dst=true) (hf:P.funcs[f]? =some fn) (O2:(fn.name== "runtime.NumGoroutine")=false) (hb:fn.body.isNone=true) (hn:Extern.findNext fn=none) (he:Extern.find fn=some (Extern.Atomic.loadT (.int .u64))) (hx:ev e x= .pointer (some ⟨gr.blk,gr.off,none⟩))
  (h:I0 (YWE P gr K) ft n b cs ds d (m3 e dst (.int .u64 0)) ops (i+1) l k) :
  I0 (YWE P gr K) (ft+1) n b cs ds d e ops i (⟨dst,.call {callee:=.value (.func f),args:=#[x],argTypes:=ats},ty,ps,af,none⟩::l) k:=by
 intro hl a ha;obtain⟨ho,x5⟩:=E3 hl;refine .inr ⟨G (b.at (a.put dst (.int .u64 0)) (.inRegion ops (List.range' (i+1) l.length)::k)) cs,#[rdA (stA gr)],rfl,gi0,fun w hw=>?_,?_⟩
 ·exact stepG_load_atomic ho (by rw[ha.yielded];rfl) hk rfl hf O2 hb hn .u64 he (ad:=stA gr) (by rw[ha.eval];exact hx) hw.cells.1
 ·rw[deafBehind_still n8];exact h x5 _ (ha.put hd _)
end
end
end Go.Wg
end
section
namespace Go.Vy
open Go Go.Conc Go.Yc Go.RowKit
open Go.Vc
section
variable {P:Program}[Ctx P]{Z:Goroutine->World->Prop}{Q:Exit->Act->World->Prop}{ops:Array Oper}{b:Frame}{k:List Item}{cs:List Frame}
theorem wu0 (hZ:Ctx.Zs P Z) (hb:b.kind≠.early) (hk:∀ch a' w',Q (.panic ch) a' w'->wf0 Z b k cs (.panic ch) a' w') {i:Nat} {rest:List Nat} {o:Oper} {a:Act} {w:World} (ho:ops[i]? =some o)
  (h:if Region.wanted o (yielded ops a.tmps) then mi0 P o a w (fun a w=>Z (G (b.at a (.inRegion ops rest::k)) cs) w) Q else Z (G (b.at (a.put o.dst undef) (.inRegion ops rest::k)) cs) w):Z (G (b.at a (.inRegion ops (i::rest)::k)) cs) w:=by
 cases hw:Region.wanted o (yielded ops a.tmps)with
 |false=>
  rw[hw]at h;exact(Ctx.cl Z hZ).ctl rfl rfl (fun w=>stepG_unwanted ho hw) h
 |true=>
  rw[hw,if_pos rfl]at h;have cb0:∀v,(b.at a (.inRegion ops (i::rest)::k)).finish v=b.at (a.put o.dst v) (.inRegion ops rest::k):=by
   intro v;rw[Frame.finish_at,ho];rfl
  have Cx0:(b.kind==CallKind.early)=false:=by simpa using hb
  refine(Ctx.cl Z hZ).own _ _ rfl fun τ d=>?_;obtain⟨r,w',hr,hK⟩:=h τ d;have fol:∀g',g'.status= .running->(∀x x' es,(execOp a.eval o).runT P x #[]=(r.res x',es)->stepG P (Ctx.main P) (G (b.at a (.inRegion ops (i::rest)::k)) cs) x= .go g' x' (seen P b.fn es))->o5 P (Ctx.main P) (G (b.at a (.inRegion ops (i::rest)::k)) cs) (W2 w τ d) g' w':=by
   intro g' r6 hs;refine⟨r6,fun ρ x hx=>?_⟩;obtain⟨h1,x',es,h2,h3,h4⟩:=hr ρ x hx;exact⟨h1,x',_,hs x x' es h2,h3,fun e he=>h4 e (mem_seen he)⟩
  have split:∀x x' es,(execOp a.eval o).runT P x #[]=(r.res x',es)->(execOp a.eval o).run P x=r.res x'/\(execOp a.eval o).events P x #[]=es:=fun x x' es h=>by
   rw[Sem.runT_eq]at h;exact Prod.mk.inj h
  cases r with
  |val v=>
   refine⟨G (b.at (a.put o.dst v) (.inRegion ops rest::k)) cs,w',w.drawn,fol _ rfl fun x x' es h=>?_,hK⟩;obtain⟨h1,h2⟩:=split x x' es h;rw[stepG_value ho hw hb h1,listed,h2]
  |skip=>
   refine⟨G (b.at (a.put o.dst undef) (.inRegion ops rest::k)) cs,w',w.drawn,fol _ rfl fun x x' es h=>?_,hK⟩;obtain⟨h1,h2⟩:=split x x' es h;rw[stepG_none ho hw hb h1,listed,h2]
  |enter f args=>
   refine⟨G (Frame.enter P f args .normal) (b.at a (.inRegion ops (i::rest)::k)::cs),w',w.drawn,fol _ rfl fun x x' es h=>?_,hK Z hZ _ fun e w'' fr he hf hl=>?_⟩
   ·obtain⟨h1,h2⟩:=split x x' es h;rw[stepG_enter ho hw hb h1,listed,h2]
   ·cases e with
    |returned v=>
     refine U566 ?_;exact he
    |panicked chain=>
     refine U553 ?_;exact hk _ _ _ he _
    |outgrown=>exact he.elim
  |panic v=>
   refine⟨G {b.at a (.inRegion ops (i::rest)::k)with mode:=.panicking [{v,recovered:=false}]} cs,w',w.drawn,fol _ rfl fun x x' es h=>?_,hk _ _ _ hK _⟩;obtain⟨h1,h2⟩:=split x x' es h;have h1':(execOp a.eval o).run P x= .halt (.panic v) x':=h1;rw[stepG_oper ho hw];simp[stepG.apply,h1',h2,G,Frame.at,Cx0,GStep.after,Frame.raise]
theorem dj0 (hZ:Ctx.Zs P Z) (hb:b.kind≠.early) {suf:List Nat} (hk:∀ch a' w',Q (.panic ch) a' w'->wf0 Z b k cs (.panic ch) a' w') (hn:∀a' w',Q .normal a' w'->Z (G (b.at a' (.inRegion ops suf::k)) cs) w') :
  ∀(pre:List Nat) (a:Act) (w:World),wpOps P ops Q pre a w->Z (G (b.at a (.inRegion ops (pre++suf)::k)) cs) w
 | [],a,w,h=>hn a w h
 |i::pre,a,w,h=>by
  unfold wpOps at h;cases ho:ops[i]? with
  |none=>rw[ho]at h;exact h.elim
  |some o=>
   rw[ho]at h;simp only at h;refine wu0 hZ hb hk ho ?_;show if _ then mi0 P o a w (fun a w=>Z (G (b.at a (.inRegion ops (pre++suf)::k)) cs) w) Q else _
   by_cases hw:Region.wanted o (yielded ops a.tmps)=true
   ·rw[if_pos hw]at h⊢;exact dg0 (fun a w h=>dj0 hZ hb hk hn pre a w h) (fun _ _ _ z=>z) h
   ·rw[if_neg hw]at h⊢;exact dj0 hZ hb hk hn pre _ _ h
def ZA (Z:Goroutine->World->Prop) (n:Nat) (b:Frame) (cs:List Frame) (e:Env) (todo:List Item) (w:World):Prop:=∀a,Rep n a e->Z (G (b.at a todo) cs) w
variable {n:Nat}{e:Env}{w:World}
theorem ZA.c (hZ:Ctx.Zs P Z) {todo ik0:List Item} (hs:∀a w,stepG P (Ctx.main P) (G (b.at a todo) cs) w= .go (G (b.at a ik0) cs) w #[]) (h:ZA Z n b cs e ik0 w):ZA Z n b cs e todo w :=
 fun a ha=>(Ctx.cl Z hZ).ctl rfl rfl (hs a) (h a ha)
theorem ZA.seq (hZ:Ctx.Zs P Z) {x y:Code} (h:ZA Z n b cs e (.code x :: .code y::k) w):ZA Z n b cs e (.code (.seq x y)::k) w:=ZA.c hZ (fun _ _=>stepG_seq) h
theorem ZA.skip (hZ:Ctx.Zs P Z) (h:ZA Z n b cs e k w):ZA Z n b cs e (.code .skip::k) w:=ZA.c hZ (fun _ _=>stepG_skip) h
theorem ZA.block (hZ:Ctx.Zs P Z) {id:Nat} {c:Code} (h:ZA Z n b cs e (.code c :: .inBlock id::k) w):ZA Z n b cs e (.code (.block id c)::k) w:=ZA.c hZ (fun _ _=>stepG_block) h
theorem ZA.loop (hZ:Ctx.Zs P Z) {c:Code} (h:ZA Z n b cs e (.code c :: .inLoop c::k) w):ZA Z n b cs e (.code (.loop c)::k) w:=ZA.c hZ (fun _ _=>stepG_loop) h
theorem ZA.inBlock (hZ:Ctx.Zs P Z) {id:Nat} (h:ZA Z n b cs e k w):ZA Z n b cs e (.inBlock id::k) w:=ZA.c hZ (fun _ _=>stepG_inBlock) h
theorem ZA.inLoop (hZ:Ctx.Zs P Z) {c:Code} (h:ZA Z n b cs e (.code c :: .inLoop c::k) w):ZA Z n b cs e (.inLoop c::k) w:=ZA.c hZ (fun _ _=>stepG_inLoop) h
theorem ZA.exit (hZ:Ctx.Zs P Z) {id:Nat} {k':List Item} (hk:exitTo id k=some k') (h:ZA Z n b cs e k' w):ZA Z n b cs e (.code (.exit id)::k) w:=ZA.c hZ (fun _ _=>stepG_exit hk) h
theorem ZA.cond (hZ:Ctx.Zs P Z) {c:Operand} {x y:Code} {t:Bool} (hc:ev e c= .bool t) (h:ZA Z n b cs e (.code (if t then x else y)::k) w):ZA Z n b cs e (.code (.cond c x y)::k) w :=
 fun a ha=>(Ctx.cl Z hZ).ctl rfl rfl (fun _=>stepG_cond (by rw[ha.eval];exact hc)) (h a ha)
theorem ZA.Z2 (hZ:Ctx.Zs P Z) (h:ZA Z n b cs e k w):ZA Z n b cs e (.inRegion ops []::k) w:=ZA.c hZ (fun _ _=>stepG_region_end) h
def ZR (Z:Goroutine->World->Prop) (n:Nat) (b:Frame) (cs:List Frame) (e:Env) (w:World):Prop:=∀todo,∀a,Rep n a e->Z (G {b.at a todo with mode:=.returning} cs) w
theorem ZA.ret (hZ:Ctx.Zs P Z) (h:ZR Z n b cs e w):ZA Z n b cs e (.code .ret::k) w:=fun a ha=>(Ctx.cl Z hZ).ctl rfl rfl (fun _=>stepG_ret') (h _ a ha)
theorem ZA.done (hZ:Ctx.Zs P Z) (h:ZR Z n b cs e w):ZA Z n b cs e [] w:=fun a ha=>(Ctx.cl Z hZ).ctl rfl rfl (fun _=>stepG_end) (h _ a ha)
theorem ZA.piece (hZ:Ctx.Zs P Z) (hb:b.kind≠.early) {c:Code} {R:Env->World->Prop} (h:W P n c (N8 R fun _ _ _=>False) e w) (hk:∀e' w',R e' w'->ZA Z n b cs e' k w'):ZA Z n b cs e (.code c::k) w:=by
 intro a ha;refine h a ha Z hZ b k cs hb fun x a' w' hx=>?_;obtain⟨e',r,hq⟩:=hx;cases x with
 |normal=>exact hk e' w' hq a' r
 |exit _=>exact hq.elim
 |goto _=>exact hq.elim
 |ret=>exact hq.elim
 |panic _=>exact hq.elim
 |outgrown=>exact hq.elim
theorem ek0:∀(l:List Oper) (k:Nat) (a:Act) (w:World),(∀j,j<l.length->l[j]? =ops[k+j]?)->wpList P ops Q l a w->wpOps P ops Q (List.range' k l.length) a w
 | [],_,_,_,_,h=>h
 |o::l,k,a,w,hj,h=>by
  have h0:ops[k]? =some o:=by simpa using(hj 0 (by simp)).symm
  have ih:=fun a w=>ek0 l (k+1) a w (fun j hl=>by have:=hj (j+1) (by simpa using hl);simpa [Nat.add_assoc,Nat.add_comm 1 j]using this);rw[List.length_cons,List.range'_succ];unfold wpOps;rw[h0];unfold wpList at h;by_cases hw:Region.wanted o (yielded ops a.tmps)=true
  ·simp only[if_pos hw]at h⊢;exact dg0 ih (fun _ _ _ z=>z) h
  ·simp only[if_neg hw]at h⊢;exact ih _ _ h
theorem ZA.upto (hZ:Ctx.Zs P Z) (hb:b.kind≠.early) (kk:Nat) {id:Nat} {l:List Oper} {R:Env->World->Prop} (hB:Jb0 n l=true) (hkl:Nat.ble kk l.length=true) (h:L P n l.toArray (N8 R fun _ _ _=>False) (l.take kk) e w)
  (hk:∀e' w',R e' w'->ZA Z n b cs e' (.inRegion l.toArray (List.range' kk (l.length-kk))::k) w'):ZA Z n b cs e (.code (.region id l.toArray false)::k) w:=by
 intro a ha;have hle:kk <=l.length:=Nat.le_of_ble_eq_true hkl;refine(Ctx.cl Z hZ).ctl rfl rfl (fun _=>stepG_region) ?_;have h1:=h (fun o ho=>List.all_eq_true.1 hB o (List.mem_of_mem_take ho)) a ha;have h2:=ek0 (l.take kk) 0 a w (fun j hj=>by
  rw[List.getElem?_take_of_lt (by simp at hj;omega)];simp) h1
 have h3:(l.take kk).length=kk:=by simp;omega
 rw[h3]at h2;have h4:List.range l.toArray.size=List.range' 0 kk++List.range' kk (l.length-kk):=by
  have:=List.range'_append_1 (s:=0) (m:=kk) (n:=l.length-kk);rw[Nat.zero_add]at this;rw[List.range_eq_range',List.size_toArray,this];congr 1;omega
 rw[h4];exact dj0 hZ hb (fun ch a' w' hx=>by obtain⟨_,_,hx⟩:=hx;exact hx.elim) (fun a' w' hx=>by
  obtain⟨e',r,hq⟩:=hx;exact hk e' w' hq a' r) _ a w h2
theorem Pi0 {V:(Nat->Bool)->Prop} {J:(Nat->Bool)->World->Prop} (WP:List Nat->Act->World->Prop) (Un0:∀i σ o a w,ops[i]? =some o->(if Region.wanted o (yielded ops a.tmps) then mi0 P o a w (WP σ) Q else WP σ (a.put o.dst undef) w)->WP (i::σ) a w) (h:Ord n ops) {e0:Env} {vals:Nat->Value} {k:Nat} (hk:k<ops.size) (Ou0:∀i o,i<k->ops[i]? =some o->Loc P ops V J i o (EE e0 ops.toList vals i) (vals i))
  (cj0:∀D,V D->∀i,k <=i->i<ops.size->D i=true->∀j,j<i->D j=true)
  (hQ:∀a w D,Rep n a (EE e0 ops.toList vals k)->(∀i,i<k->D i=true)->J D w->WP (List.range' k (ops.size-k)) a w) :
  ∀{listed:Array Bool} {σ:List Nat},Lin ops listed σ->(∀τ ρ,σ=τ++ρ->V (fun j=>listed.getD j false ||τ.contains j)) ->
   ∀(a:Act) (e:Env) (w:World),listed.size=ops.size->(∀j,k <=j->listed.getD j false=false)->Rep n a e->Mid ops e0 vals listed e->J (fun j=>listed.getD j false) w->WP σ a w:=by
 intro listed σ H6
 induction H6 with
 | @nil listed hr=>
  intro _ a e w hs hkf ha hm hJ;have:=gl0 h hs hr k (by omega);rw[hkf k (Nat.le_refl _)]at this;cases this
 | @cons listed i σ hi hl ih=>
  intro hV a e w hs hkf ha hm hJ;have hi0:=hi;obtain⟨h1,o,ho,fb0⟩:=mem_ready.1 hi;have hio:i<ops.size:=(Array.getElem?_eq_some_iff.1 ho).1;have g8:i<listed.size:=by omega
  have hDi:(fun j=>listed.getD j false) i=false:=by
   show listed.getD i false=false;simp only[Array.getD_eq_getD_getElem?,g8,Array.getElem?_eq_getElem,Option.getD_some]at h1⊢;exact h1
  have hVD:V (fun j=>listed.getD j false):=by
   have:=hV [] (i::σ) rfl;have e1:(fun j=>listed.getD j false ||([]:List Nat).contains j)=fun j=>listed.getD j false:=funext fun j=>by simp
   rw[e1]at this;exact this
  have hVD:V (fun j=>listed.getD j false)/\V (N6 (fun j=>listed.getD j false) i):=by
   refine⟨hVD,?_⟩;have:=hV [i] σ rfl;have e1:(fun j=>listed.getD j false ||([i]:List Nat).contains j)=N6 (fun j=>listed.getD j false) i:=funext fun j=>by
    unfold N6;by_cases hj:j=i
    ·simp[hj]
    ·simp[hj]
   rw[e1]at this;exact this
  by_cases hik:k <=i
  ·have E7:∀j,j<i->listed.getD j false=true:=fun j hj=>by
    have:=cj0 _ hVD.2 i hik hio (by simp[N6]) j hj;unfold N6 at this;rw[if_neg (by omega)]at this;exact this
   have X8:i=k:=by
    rcases Nat.lt_or_ge k i with h3|h3
    ·have:=E7 k h3;rw[hkf k (Nat.le_refl _)]at this;cases this
    ·omega
   subst X8;refine U544 ?_;intro hσ;have he:e=EE e0 ops.toList vals i:=by
    funext t;have hlz:∀j:Nat,ops.toList[j]? =ops[j]?:=fun j=>by rw[Array.getElem?_toList]
    by_cases hex:∃(j:Nat) (p:Oper),j<i/\ops[j]? =some p/\p.dst=some t
    ·obtain⟨j,p,hj,hp,hd⟩:=hex;exact U374
    ·rw[hm.mk0 t (fun j p hp hd=>by
      rcases Nat.lt_or_ge j i with h3|h3
      ·exact absurd ⟨j,p,h3,hp,hd⟩ hex
      ·exact hkf j h3)]
     exact(jg0 e0 ops.toList vals t _ (fun j p hj hp hd=>hex ⟨j,p,hj,by rw[<- hlz];exact hp,hd⟩)).symm
   subst he;exact hQ a w _ ha E7 hJ
  ·have hlk:=ua0 h hm ho fb0;have hex:=S8 (h.sel i o ho) hlk;have hwa:=T8 hlk;have hV':∀τ ρ,σ=τ++ρ->V (fun j=>(listed.setIfInBounds i true).getD j false ||τ.contains j):=by
    intro τ ρ hσ;have:=hV (i::τ) ρ (by rw[hσ];rfl);have e1:(fun j=>listed.getD j false ||(i::τ).contains j)=fun j=>(listed.setIfInBounds i true).getD j false ||τ.contains j:=by
     funext j;by_cases hj:i=j
     ·subst hj;simp[g8]
     ·rw[getD_set_ne false hj];simp[Ne.symm hj]
    rw[e1]at this;exact this
   have next:∀w',J (N6 (fun j=>listed.getD j false) i) w'->WP σ (a.put o.dst (vals i)) w':=by
    intro w' hJ';refine ih hV' _ _ w' (by simp[hs]) (fun j hj=>by rw[getD_set_ne false (by omega)];exact hkf j hj) (ha.put (h.dst i o ho) (vals i)) (hm.step h ho g8) ?_;rw[sh0 g8];exact hJ'
   refine Un0 i σ o a w ho ?_;rw[v5 ha,hwa];rcases Ou0 i o (by omega) ho with⟨hw,hl⟩|⟨hw,hv,hl⟩
   ·rw[if_pos hw];have x5:=hl (fun j=>listed.getD j false) w hDi hVD fb0 hJ;rw[<- hex,<- ha.eval]at x5;exact um0 x5 next
   ·rw[if_neg (by rw[hw];simp)];exact U525
theorem ZA.Uo0 (hZ:Ctx.Zs P Z) (hb:b.kind≠.early) {k':List Item} {id:Nat} {l:List Oper} (k:Nat) (hm:P.follows .mixedOrders=true) (hB:Az0 n l.toArray=true) (hA:mv0 l k=true) (hk:Nat.blt k l.length=true)
  (h:∀V:(Nat->Bool)->Prop,(∀D D',V D->V D'->(∀k,D k=true->D' k=true)\/(∀k,D' k=true->D k=true))->(∀D,V D->∀i o,l[i]? =some o->D i=true->j7 o D) ->
   ∃J:(Nat->Bool)->World->Prop,J (fun _=>false) w.drew/\JL P l.toArray V J (fun e'=>∀D w',(∀i,i<k->D i=true)->J D w'->ZA Z n b cs e' (.inRegion l.toArray (List.range' k (l.length-k))::k') w') 0 (l.take k) e):ZA Z n b cs e (.code (.region id l.toArray true)::k') w:=by
 intro a ha;have ho:=Dd0 hB;have hkl:k<l.length:=by rw[Nat.blt_eq]at hk;exact hk
 refine(Ctx.cl Z hZ).own _ _ rfl fun τ d=>?_;refine⟨G (b.at a (.inRegion l.toArray (Region.schedule (P.follows .mixedOrders) l.toArray (τ d (.order b.fn id)))::k')) cs,{W2 w τ d with drawn:=d+1},w.drawn+1,⟨rfl,fun ρ x hx=>⟨⟨Nat.le_refl _,fun _ o ho=>⟨o,ho,N3.refl o⟩⟩,{x with drawn:=x.drawn+1},#[],?_,?_,fun e he=>by simp at he⟩⟩,?_⟩
 ·rw[stepG_region_draw,hx.tape,hx.drawn];rfl
 ·exact⟨hx.os,hx.output,hx.tape,by show x.drawn+1=d+1;rw[hx.drawn];rfl,hx.size,hx.obj,hx.new,hx.u6⟩
 show Z (G (b.at a (.inRegion l.toArray (Region.schedule (P.follows .mixedOrders) l.toArray (τ d (.order b.fn id)))::k')) cs) w.drew;generalize τ d (.order b.fn id)=t;simp only[Region.schedule,hm,Bool.true_or,if_true];have H6:=si0 l.toArray l.toArray.size t (Array.replicate l.toArray.size false) (by simp) (by simp);unfold Region.linearise;generalize Region.linearise.go .any l.toArray l.toArray.size t (Array.replicate l.toArray.size false) []=σ at H6⊢;have fe0:=ed0 H6 (fun i o _ hi=>by rw[Y0]at hi;cases hi) (by simp);have Z9:∀D,Pre σ D->∀i o,l[i]? =some o->D i=true->j7 o D:=by
  rintro D ⟨τ,ρ,hσ,hD⟩ i o hi hDi x hx hb;have:=fe0 τ ρ hσ i o (by simpa using hi) (.inr ((hD i).1 hDi)) x hx hb;rcases this with h1|h1
  ·rw[Y0]at h1;cases h1
  ·exact(hD _).2 h1
 obtain⟨J,hJ,hjl⟩:=h (Pre σ) (fun D D' h1 h2=>h1.chain h2) Z9;obtain⟨vals,h1,h2⟩:=JL.collect (l.take k) 0 e hjl;have hEE:∀j,j <=k->EE e (l.take k) vals j=EE e l vals j:=by
  intro j
  induction j with
  |zero=>intro _;rfl
  |succ j ih=>
   intro hj;simp only[EE,ih (by omega)];rw[List.getElem?_take_of_lt (by omega)]
 have R2:(l.take k).length=k:=by simp;omega
 refine Pi0 (Q:=fun _ _ _=>False) (fun σ a w=>Z (G (b.at a (.inRegion l.toArray σ::k')) cs) w) (fun i σ o a w ho h=>wu0 hZ hb (fun _ _ _ hx=>hx.elim) ho h) (V:=Pre σ) (J:=J) ho (e0:=e) (vals:=vals) (k:=k) (by simpa using hkl) (fun i o' hi ho'=>?_) (fun D hD i X8 g8=>kh0 hA Z9 hD i X8 (by simpa using g8)) (fun a' w' D ha' hD hJ'=>?_) H6 ?_ a e _ (by simp) (fun j _=>Y0 _ _) ha ⟨fun j o t _ _ hl=>?_,fun t _=>rfl⟩ ?_
 ·have:=h1 i o' (by rw[List.getElem?_take_of_lt hi];simpa using ho');rw[hEE i (by omega)]at this;simpa using this
 ·rw[R2,hEE k (Nat.le_refl _)]at h2;have h6:l.toArray.size-k=l.length-k:=by simp
  rw[h6];exact h2 D w' hD hJ' a' (by simpa using ha')
 ·intro τ ρ hσ;exact⟨τ,ρ,hσ,fun k=>by show((Array.replicate l.toArray.size false).getD k false ||τ.contains k)=true↔_;rw[Y0];simp⟩
 ·rw[Y0]at hl;cases hl
 ·have:(fun k=>(Array.replicate l.toArray.size false).getD k false)=fun _=>false:=funext fun k=>Y0 _ _;rw[this];exact hJ
theorem ZA.fk0 (hZ:Ctx.Zs P Z) (hb:b.kind≠.early) {k':List Item} {id:Nat} {l:List Oper} (k:Nat) (Cl:World->Prop) (hm:P.follows .mixedOrders=true) (hB:Az0 n l.toArray=true) (hA:mv0 l k=true) (hk:Nat.blt k l.length=true)
  (hC:Cl w.drew) (h:QL P l.toArray Cl (fun e'=>∀w',Cl w'->ZA Z n b cs e' (.inRegion l.toArray (List.range' k (l.length-k))::k') w') 0 (l.take k) e):ZA Z n b cs e (.code (.region id l.toArray true)::k') w:=by
 refine ZA.Uo0 hZ hb k hm hB hA hk fun V _ _=>⟨fun _=>Cl,hC,?_⟩
 have mono:∀(l':List Oper) (i:Nat) (e:Env),JL P l.toArray V (fun _=>Cl) (fun e'=>∀w',Cl w'->ZA Z n b cs e' (.inRegion l.toArray (List.range' k (l.length-k))::k') w') i l' e->JL P l.toArray V (fun _=>Cl) (fun e'=>∀(D:Nat->Bool) w',(∀i,i<k->D i=true)->Cl w'->ZA Z n b cs e' (.inRegion l.toArray (List.range' k (l.length-k))::k') w') i l' e:=by
  intro l'
  induction l' with
  |nil=>exact fun i e h _ w' _ hw=>h w' hw
  |cons o l' ih=>exact fun i e ⟨v,h1,h2⟩=>⟨v,h1,ih _ _ h2⟩
 exact mono _ 0 e (h V)
end
def O1 (w:World) (b:Nat) (cs:Array Value) (T:TypeId) (f:Nat×Nat):Prop:=w.heap[b]? =some (.cells cs T f)
section
variable {w w':World}{b o:Nat}{cs:Array Value}{T:TypeId}{f:Nat×Nat}{v:Value}
theorem l4 (h:S0 w b cs T):O1 w b cs T (0,0):=h
theorem O1.lt (h:O1 w b cs T f):b<w.heap.size:=(Array.getElem?_eq_some_iff.1 h).1
theorem O1.cell (h:O1 w b cs T f) (hv:cs[o]? =some v):w.cell? ⟨b,o,none⟩=some v:=by
 unfold O1 at h;simp[World.cell?,h,hv]
theorem O1.A0 (h:O1 w b cs T f) (o:Nat) {v:Value} (hv:cs[o]? =some v):w.cell? ⟨b,o,none⟩=some v:=h.cell hv
theorem O1.J1 (h:O1 w b cs T f) {o:Nat} {l:List Value} (hl:(cs.toList.drop o).take l.length=l):∀(j:Nat) (v:Value),l[j]? =some v->w.cell? ⟨b,o+j,none⟩=some v:=by
 intro j v hj;refine h.cell ?_;have R2:j<l.length:=(List.getElem?_eq_some_iff.1 hj).1;rw[<- hl,List.getElem?_take_of_lt R2,List.getElem?_drop]at hj;simpa using hj
theorem O1.frozen (h:O1 w b cs T f) (o:Nat):w.frozen? ⟨b,o,none⟩=(decide (f.1 <=o)&&decide (o<f.2)):=by
 unfold O1 at h;obtain⟨lo,hi⟩:=f;simp[World.frozen?,h]
theorem O1.E0 (h:O1 w b cs T f) (hb:Below w.heap.size w w'):O1 w' b cs T f:=(hb.block b h.lt).trans h
theorem O1.other {b':Nat} (h:O1 w b cs T f) (hg:w.grownBy w' (some b')) (D3:b≠b'):O1 w' b cs T f:=(hg.block b h.lt (by simpa using D3)).trans h
theorem O1.grown {row:Option Nat} (h:O1 w b cs T f) (hg:w.grownBy w' row) (D3:some b≠row):O1 w' b cs T f:=(hg.block b h.lt D3).trans h
theorem O1.ne {b':Nat} {S5:Array Value} {T':TypeId} {f':Nat×Nat} (h:O1 w b cs T f) (h':O1 w b' S5 T' f') (hT:T≠T'):b≠b':=by
 intro hb;subst hb;unfold O1 at h h';rw[h]at h';exact hT (by cases h';rfl)
end
def P1 (w:World) (b:Nat) (cs:Array Value) (T:TypeId) (f:Nat×Nat):World:={w with heap:=w.heap.setIfInBounds b (.cells cs T f)}
section
variable {w:World}{b:Nat}{cs S5:Array Value}{T T':TypeId}{f:Nat×Nat}
theorem r5:(P1 w b cs T f).heap.size=w.heap.size:=by simp[P1]
theorem R4 (h:O1 w b cs T f) (S5:Array Value) (T':TypeId) (f':Nat×Nat):O1 (P1 w b S5 T' f') b S5 T' f':=by
 have:=h.lt;simp[O1,P1,this]
theorem S6 {k:Nat} (h:k≠b):(P1 w b cs T f).heap[k]? =w.heap[k]?:=by
 simp only[P1];rw[Array.getElem?_setIfInBounds_ne (Ne.symm h)]
theorem o2 (w:World) (b:Nat) (cs:Array Value) (T:TypeId) (f:Nat×Nat):w.grownBy (P1 w b cs T f) (some b) :=
 ⟨rfl,rfl,rfl,Nat.le_of_eq r5.symm,fun k _ hk=>S6 (fun e=>hk (by rw[e]))⟩
theorem bx0 {o:Nat} (h:O1 w b cs T f) (v:Value):w.setCell ⟨b,o,none⟩ v=P1 w b (cs.setIfInBounds o v) T f:=by
 have hl:=h.lt;have hg:w.heap[b]= .cells cs T f:=by have:=h;unfold O1 at this;rw[Array.getElem?_eq_getElem hl]at this;exact Option.some.inj this
 simp only[World.setCell,P1];congr 1;apply Array.ext_getElem?;intro i;by_cases hi:i=b
 ·subst hi;rw[Array.getElem?_modify,if_pos rfl,Array.getElem?_eq_getElem hl,hg];simp[hl]
 ·rw[Array.getElem?_modify,Array.getElem?_setIfInBounds_ne (Ne.symm hi),if_neg (Ne.symm hi)]
theorem nc0 (w:World) (b:Nat) (cs S5:Array Value) (T:TypeId) (f:Nat×Nat):P1 (P1 w b cs T f) b S5 T f=P1 w b S5 T f:=by
 simp[P1]
theorem sq0 (h:O1 w b cs T f):P1 w b cs T f=w:=by
 have hl:=h.lt;have hg:w.heap[b]= .cells cs T f:=by have:=h;unfold O1 at this;rw[Array.getElem?_eq_getElem hl]at this;exact Option.some.inj this
 have:w.heap.setIfInBounds b (.cells cs T f)=w.heap:=by
  apply Array.ext_getElem?;intro i;by_cases hi:i=b
  ·subst hi;simp[hl,hg]
  ·rw[Array.getElem?_setIfInBounds_ne (Ne.symm hi)]
 simp only[P1,this]
end
theorem P8 {P:Program} (b:Nat) (T:TypeId) (f:Nat×Nat):∀(vs:List Value) (o i:Nat) (cs:Array Value) (w:World),O1 w b cs T f->o+i+vs.length <=cs.size->(o+i+vs.length <=f.1\/f.2 <=o+i)->(∀v∈vs,v.oneCell'=true) ->
  (storeCells ⟨b,o,none⟩ vs i).run P w= .ok () (P1 w b (setRow cs (o+i) vs) T f)
 | [],o,i,cs,w,h,_,_,_=>by simp[storeCells,setRow,sq0 h]
 |v::vs,o,i,cs,w,h,hl,hf,h1=>by
  have ha:Addr.add ⟨b,o,none⟩ i=⟨b,o+i,none⟩:=by
   unfold Addr.add;split
   ·rename_i h0;simp[]
   ·rfl
  have R2:o+i<cs.size:=by simp only[List.length_cons]at hl;omega
  have hc:=h.cell (Array.getElem?_eq_getElem R2);have hfr:w.frozen? ⟨b,o+i,none⟩=false:=by
   rw[h.frozen];simp only[List.length_cons]at hf;rw[Bool.and_eq_false_iff];rcases hf with hf|hf
   ·exact .inl (decide_eq_false (by omega))
   ·exact .inr (decide_eq_false (by omega))
  have ih:=P8 (P:=P) b T f vs o (i+1) (cs.setIfInBounds (o+i) v) (P1 w b (cs.setIfInBounds (o+i) v) T f) (R4 h _ _ _) (by simp only[List.length_cons]at hl;simp;omega) (by simp only[List.length_cons]at hf;omega) (fun u hu=>h1 u (List.mem_cons_of_mem _ hu));rw[nc0]at ih;simp only[storeCells,Sem.run_bind,ha,run_store P w _ v .plain (h1 v List.mem_cons_self),hc,hfr,Bool.false_eq_true,if_false,Result.andThen_ok,bx0 h v];rw[ih];rfl
section
variable {P:Program}[Ctx P]{n:Nat}{ops:Array Oper}{Q:Exit->Env->World->Prop}{rest:List Oper}{e:Env}{w:World}{ty:TypeId}{ps:String}{af:Array Edge}{x y:Operand}{T:TypeId}
theorem L.Bh0 {b o s:Nat} {cs:Array Value} {vs:List Value} {E:TypeId} {f:Nat×Nat} {v:Value} (S5:Array Value) (hx:ev e x= .pointer (some ⟨b,o,none⟩)) (hy:ev e y=v) (hvs:v.cells.toList=vs) (hs:(P.info? T).map (·.size)=some s) (hl:vs.length=s) (h1:vs.all Value.oneCell'=true) (hB:O1 w b cs E f) (ho:o+s <=cs.size) (hf:o+s <=f.1\/f.2 <=o) (hcs:setRow cs o vs=S5)
  (k:L P n ops Q rest e (P1 w b S5 E f)):L P n ops Q (⟨none,.store T x y,ty,ps,af,none⟩::rest) e w:=by
 have Ow0:v.cells=vs.toArray:=by rw[<- hvs]
 have h1':∀u∈vs,u.oneCell'=true:=fun u hu=>List.all_eq_true.1 h1 u hu;rw[<- hcs]at k;refine L.st (w':=P1 w b (setRow cs o vs) E f) (.A1 (E2 rfl _) rfl rfl fun τ d=>?_) k;have:=P8 (P:=P) b E f vs o 0 cs (W2 w τ d) hB (by simp;omega) (by simp;omega) h1';show _=Result.ok Next.skip (P1 (W2 w τ d) b (setRow cs o vs) E f);simp[execOp,Instr.storeAt,hx,hy,Instr.sureAddr,storeVar,Go.Vc.run_sizeOf hs,Ow0,hl,this]
end
section
variable {P:Program}[Ctx P]{n:Nat}{Q:Exit->Env->World->Prop}{e:Env}{w:World}{ops:Array Oper}{rest:List Oper}
variable {d:Nat}{ty:TypeId}{ps:String}{af:Array Edge}{T E:TypeId}{x y:Operand}
theorem L.sr0 {B s bytes m c':Nat} {a:Option Addr} {k c:Nat} {xs news:List Value} {zv:Value} {ad:Addr} (hx:ev e x= .slice a k c) (hy:ev e y= .slice (some ad) m c') (hT:P.underlying T=some (.slice E))
  (hi:(P.info? E).map (fun i=>(i.zero,i.size,i.bytes))=some (some zv,s,bytes)) (hz:zv.cells.size=s) (hs:0<s) (l7:Own w B E s a k c xs)
  (hl:news.length=m*s) (ad0:∀(j:Nat) u,news[j]? =some u->w.cell? (ad.add j)=some u) (h1:∀u∈news,u.oneCell'=true) (un0:k+m <=9223372036854775807) (hb:(k+m)*bytes <=140737488355328) (hB:B <=w.heap.size)
  (h:∀a' c2 w',Own w' B E s a' (k+m) c2 (xs++news)->w.grownBy w' (Value.ownBlock (.slice a k c))->(a'≠none->(a≠none/\ab a'=ab a)\/w.heap.size <=ab a')->L P n ops Q rest (upd e d (.slice a' (k+m) c2)) w') :
  L P n ops Q (⟨some d,.call ⟨.builtin .append,#[x,y],#[T,T]⟩,ty,ps,af,none⟩::rest) e w:=by
 cases a with
 |none=>
  have h0:k=0/\c=0/\xs=[]:=by
   have hln:=l7.1;rcases l7.2 with⟨hv,h0⟩|⟨g,cap,cur,hv,_⟩
   ·cases hv;exact⟨rfl,rfl,by
     rw[Nat.zero_mul]at hln;exact List.eq_nil_of_length_eq_zero hln⟩
   ·cases hv
  obtain⟨rfl,rfl,rfl⟩:=h0;refine L.di0 hx hy hT hi hz hs (Own.nil w w.heap.size E s) (fun h=>by cases h) hl (fun ad' e=>by cases e;exact ad0) h1 un0 hb (Nat.le_refl _) fun a' c2 w' hO hg _ _=>?_;refine h a' c2 w' (hO.down hB) hg fun ha=>.inr ?_;exact(hO.row ha).choose_spec.2.1
 |some a0=>
  have ha0:∃b,a0=⟨b,0,none⟩:=by
   rcases l7.2 with⟨hv,_⟩|⟨g,cap,cur,hv,_⟩
   ·cases hv
   ·cases hv;exact⟨g,rfl⟩
  obtain⟨b,rfl⟩:=ha0;refine L.Jg0 hx hy hT hi hz hs l7 hl ad0 h1 un0 hb hB fun b' c2 w' hO hg hw=>?_;refine h _ c2 w' hO hg fun _=>?_;rcases hw with⟨rfl,_⟩|⟨rfl,_⟩
  ·exact .inl ⟨by simp,rfl⟩
  ·exact .inr (Nat.le_refl _)
end
structure el0 (S:Nat->Prop) (B:Nat) (w w':World):Prop where
 os:w'.os=w.os
 tape:w'.tape=w.tape
 output:w'.output=w.output
 size:w.heap.size <=w'.heap.size
 block:∀k,k<B->¬S k->w'.heap[k]? =w.heap[k]?
section
variable {S:Nat->Prop}{B:Nat}{w w1 w2:World}
theorem el0.refl (S:Nat->Prop) (B:Nat) (w:World):el0 S B w w:=⟨rfl,rfl,rfl,Nat.le_refl _,fun _ _ _=>rfl⟩
theorem el0.trans (h:el0 S B w w1) (h':el0 S B w1 w2):el0 S B w w2:=⟨h'.os.trans h.os,h'.tape.trans h.tape,h'.output.trans h.output,Nat.le_trans h.size h'.size,fun k hk hs=>(h'.block k hk hs).trans (h.block k hk hs)⟩
theorem el0.below (h:el0 S B w w1) (hb:Below w1.heap.size w1 w2) (hB:B <=w1.heap.size):el0 S B w w2:=h.trans ⟨hb.os,hb.tape,hb.output,hb.size,fun k hk _=>hb.block k (by omega)⟩
theorem el0.grown {row:Option Nat} (h:el0 S B w w1) (hg:w1.grownBy w2 row) (hB:B <=w1.heap.size) (hr:∀r,row=some r->S r\/B <=r):el0 S B w w2 :=
 h.trans ⟨hg.os,hg.tape,hg.output,hg.size,fun k hk hs=>hg.block k (by omega) (fun e=>by rcases hr k e.symm with z|z;exact hs z;omega)⟩
theorem Own.congr {E:TypeId} {s n c:Nat} {a:Option Addr} {xs:List Value} (h:Own w B E s a n c xs) (he:a≠none->w1.heap[ab a]? =w.heap[ab a]?):Own w1 B E s a n c xs:=by
 refine⟨h.1,?_⟩;rcases h.2 with h1|⟨g,cap,cur,hv,hb,hg,h2⟩
 ·exact .inl h1
 ·refine .inr ⟨g,cap,cur,hv,hb,?_,h2⟩;cases hv;exact(he (by simp)).trans hg
end
end Go.Vy
end
section
namespace Go.Proofs.YtnifpkopeheodaaGreat
theorem sz1:(Tryz.prog.info? 1).map (·.size)=some 1:=by kernel_rfl
theorem zr1:(Tryz.prog.info? 1).bind (·.zero)=some (.nilFunc):=by kernel_rfl
theorem sz2:(Tryz.prog.info? 2).map (·.size)=some 1:=by kernel_rfl
theorem zr2:(Tryz.prog.info? 2).bind (·.zero)=some (.int .i64 0):=by kernel_rfl
theorem in2:(Tryz.prog.info? 2).map (fun i=>(i.zero,i.size,i.bytes))=some (some (.int .i64 0),1,8):=by kernel_rfl
theorem sz3:(Tryz.prog.info? 3).map (·.size)=some 1:=by kernel_rfl
theorem zr3:(Tryz.prog.info? 3).bind (·.zero)=some (.int .i64 0):=by kernel_rfl
theorem in3:(Tryz.prog.info? 3).map (fun i=>(i.zero,i.size,i.bytes))=some (some (.int .i64 0),1,8):=by kernel_rfl
theorem sz4:(Tryz.prog.info? 4).map (·.size)=some 1:=by kernel_rfl
theorem zr4:(Tryz.prog.info? 4).bind (·.zero)=some (.bool false):=by kernel_rfl
theorem Jo0:(Tryz.prog.info? 23).map (·.size)=some 1:=by kernel_rfl
theorem Pj0:(Tryz.prog.info? 25).map (·.size)=some 1:=by kernel_rfl
theorem Jp0:(Tryz.prog.info? 26).map (·.size)=some 1:=by kernel_rfl
theorem Pk0:(Tryz.prog.info? 28).map (·.size)=some 1:=by kernel_rfl
theorem iw0:(Tryz.prog.info? 30).map (·.size)=some 6:=by kernel_rfl
theorem Jq0:(Tryz.prog.info? 30).bind (·.zero)=some (.agg #[.slice none 0 0,.slice none 0 0,.slice none 0 0,.slice none 0 0,.bool false,.int .i64 0]):=by kernel_rfl
theorem ap1:(Tryz.prog.info? 31).map (·.size)=some 1:=by kernel_rfl
theorem aq1:(Tryz.prog.info? 31).bind (·.zero)=some (.slice none 0 0):=by kernel_rfl
theorem Pl0:(Tryz.prog.info? 45).map (·.size)=some 1:=by kernel_rfl
theorem ar1:(Tryz.prog.info? 45).map (fun i=>(i.zero,i.size,i.bytes))=some (some (.slice none 0 0),1,24):=by kernel_rfl
theorem ss0:(Tryz.prog.info? 47).map (·.size)=some 3:=by kernel_rfl
theorem as1:(Tryz.prog.info? 47).map (fun i=>(i.zero,i.size,i.bytes))=some (some (.agg #[.int .i64 0,.int .i64 0,.int .i64 0]),3,24):=by kernel_rfl
theorem Pm0:(Tryz.prog.info? 49).map (·.size)=some 4:=by kernel_rfl
theorem at1:(Tryz.prog.info? 49).bind (·.zero)=some (.agg #[.int .i64 0,.int .i64 0,.int .i64 0,.int .i64 0]):=by kernel_rfl
theorem au1:(Tryz.prog.info? 49).map (fun i=>(i.zero,i.size,i.bytes))=some (some (.agg #[.int .i64 0,.int .i64 0,.int .i64 0,.int .i64 0]),4,32):=by kernel_rfl
theorem Pn0:(Tryz.prog.info? 50).map (·.size)=some 1:=by kernel_rfl
theorem Up0:(Tryz.prog.info? 50).bind (·.zero)=some (.slice none 0 0):=by kernel_rfl
theorem M1:(Tryz.prog.info? 52).map (·.size)=some 4:=by kernel_rfl
theorem Uq0:(Tryz.prog.info? 52).bind (·.zero)=some (.agg #[.int .i64 0,.int .i64 0,.int .i64 0,.int .i64 0]):=by kernel_rfl
theorem av1:(Tryz.prog.info? 54).map (·.size)=some 1:=by kernel_rfl
theorem aw1:(Tryz.prog.info? 54).bind (·.zero)=some (.pointer none):=by kernel_rfl
theorem Eh0:(Tryz.prog.info? 56).map (·.size)=some 1:=by kernel_rfl
theorem wv0:(Tryz.prog.info? 61).map (·.size)=some 1:=by kernel_rfl
theorem Ur0:(Tryz.prog.info? 62).map (·.size)=some 2:=by kernel_rfl
theorem st0:(Tryz.prog.info? 63).map (·.size)=some 1:=by kernel_rfl
theorem Us0:(Tryz.prog.info? 64).map (·.size)=some 2:=by kernel_rfl
theorem ur0:(Tryz.prog.info? 65).map (·.size)=some 1:=by kernel_rfl
theorem Po0:(Tryz.prog.info? 66).map (·.size)=some 2:=by kernel_rfl
theorem us0:(Tryz.prog.info? 67).map (·.size)=some 1:=by kernel_rfl
theorem Pp0:(Tryz.prog.info? 68).map (·.size)=some 2:=by kernel_rfl
theorem ut0:(Tryz.prog.info? 69).map (·.size)=some 1:=by kernel_rfl
theorem Pq0:(Tryz.prog.info? 70).map (·.size)=some 2:=by kernel_rfl
theorem Ut0:(Tryz.prog.info? 73).map (·.size)=some 1:=by kernel_rfl
theorem ax1:(Tryz.prog.info? 73).bind (·.zero)=some (.nilFunc):=by kernel_rfl
theorem ay1:(Tryz.prog.info? 73).map (fun i=>(i.zero,i.size,i.bytes))=some (some (.nilFunc),1,8):=by kernel_rfl
theorem az1:(Tryz.prog.info? 86).map (·.size)=some 1:=by kernel_rfl
theorem ba1:(Tryz.prog.info? 86).bind (·.zero)=some (.pointer none):=by kernel_rfl
theorem Ei0:(Tryz.prog.info? 91).map (·.size)=some 1:=by kernel_rfl
theorem Uu0:(Tryz.prog.info? 91).bind (·.zero)=some (.pointer none):=by kernel_rfl
theorem Pr0:(Tryz.prog.info? 91).map (fun i=>(i.zero,i.size,i.bytes))=some (some (.pointer none),1,8):=by kernel_rfl
theorem fq0:(Tryz.prog.info? 107).map (·.size)=some 2:=by kernel_rfl
theorem Mu0:(Tryz.prog.info? 111).map (·.size)=some 1:=by kernel_rfl
theorem Uv0:(Tryz.prog.info? 121).map (·.size)=some 1:=by kernel_rfl
theorem Uw0:(Tryz.prog.info? 128).map (·.size)=some 1:=by kernel_rfl
theorem Ux0:(Tryz.prog.info? 130).map (·.size)=some 1:=by kernel_rfl
theorem ks0:(Tryz.prog.info? 136).map (·.size)=some 1:=by kernel_rfl
theorem kt0:(Tryz.prog.info? 138).map (·.size)=some 1:=by kernel_rfl
theorem Ej0:(Tryz.prog.info? 139).map (·.size)=some 1:=by kernel_rfl
theorem Mv0:(Tryz.prog.info? 141).map (·.size)=some 2:=by kernel_rfl
theorem Mw0:(Tryz.prog.info? 141).bind (·.zero)=some (.agg #[.int .u64 0,.int .u32 0]):=by kernel_rfl
theorem Ek0:(Tryz.prog.info? 146).map (·.size)=some 1:=by kernel_rfl
theorem Mx0:(Tryz.prog.info? 147).map (·.size)=some 1:=by kernel_rfl
theorem My0:(Tryz.prog.info? 150).map (·.size)=some 1:=by kernel_rfl
theorem El0:(Tryz.prog.info? 151).map (·.size)=some 1:=by kernel_rfl
theorem bb1:(Tryz.f10.name== "runtime.NumGoroutine")=false:=by kernel_rfl
theorem bc1:(Tryz.f11.name== "runtime.NumGoroutine")=false:=by kernel_rfl
theorem b9:(Tryz.f15.name== "runtime.NumGoroutine")=false:=by kernel_rfl
theorem bd1:(Tryz.f16.name== "runtime.NumGoroutine")=false:=by kernel_rfl
theorem Uy0:(Tryz.f17.name== "runtime.NumGoroutine")=false:=by kernel_rfl
theorem Uz0:(Tryz.f20.name== "runtime.NumGoroutine")=false:=by kernel_rfl
theorem Va0:(Tryz.f21.name== "runtime.NumGoroutine")=false:=by kernel_rfl
theorem Vb0:(Tryz.f22.name== "runtime.NumGoroutine")=false:=by kernel_rfl
theorem Vc0:(Tryz.f23.name== "runtime.NumGoroutine")=false:=by kernel_rfl
theorem Vd0:(Tryz.f24.name== "runtime.NumGoroutine")=false:=by kernel_rfl
theorem Ve0:(Tryz.f25.name== "runtime.NumGoroutine")=false:=by kernel_rfl
theorem Vf0:(Tryz.f26.name== "runtime.NumGoroutine")=false:=by kernel_rfl
theorem Vg0:(Tryz.f27.name== "runtime.NumGoroutine")=false:=by kernel_rfl
theorem Vh0:(Tryz.f28.name== "runtime.NumGoroutine")=false:=by kernel_rfl
theorem Vi0:(Tryz.f29.name== "runtime.NumGoroutine")=false:=by kernel_rfl
theorem Vj0:(Tryz.f30.name== "runtime.NumGoroutine")=false:=by kernel_rfl
theorem Vk0:(Tryz.f33.name== "runtime.NumGoroutine")=false:=by kernel_rfl
theorem Vl0:(Tryz.f34.name== "runtime.NumGoroutine")=false:=by kernel_rfl
theorem Vm0:(Tryz.f36.name== "runtime.NumGoroutine")=false:=by kernel_rfl
theorem e5:(Tryz.f37.name== "runtime.NumGoroutine")=false:=by kernel_rfl
theorem go0:(Tryz.f39.name== "runtime.NumGoroutine")=false:=by kernel_rfl
theorem Vn0:(Tryz.f41.name== "runtime.NumGoroutine")=false:=by kernel_rfl
theorem Vo0:(Tryz.f42.name== "runtime.NumGoroutine")=false:=by kernel_rfl
theorem Vp0:(Tryz.f43.name== "runtime.NumGoroutine")=false:=by kernel_rfl
theorem su0:(Tryz.f44.name== "runtime.NumGoroutine")=false:=by kernel_rfl
theorem be1:(Tryz.f45.name== "runtime.NumGoroutine")=false:=by kernel_rfl
theorem bf1:(Tryz.f46.name== "runtime.NumGoroutine")=false:=by kernel_rfl
theorem bg1:(Tryz.f47.name== "runtime.NumGoroutine")=false:=by kernel_rfl
theorem bh1:(Tryz.f48.name== "runtime.NumGoroutine")=false:=by kernel_rfl
theorem bi1:(Tryz.f49.name== "runtime.NumGoroutine")=false:=by kernel_rfl
theorem Vq0:(Tryz.f51.name== "runtime.NumGoroutine")=false:=by kernel_rfl
theorem Vr0:(Tryz.f52.name== "runtime.NumGoroutine")=false:=by kernel_rfl
theorem Vs0:(Tryz.f53.name== "runtime.NumGoroutine")=false:=by kernel_rfl
theorem Vt0:(Tryz.f54.name== "runtime.NumGoroutine")=false:=by kernel_rfl
theorem Vu0:(Tryz.f55.name== "runtime.NumGoroutine")=false:=by kernel_rfl
theorem ix0:(Tryz.f56.name== "runtime.NumGoroutine")=false:=by kernel_rfl
theorem Vv0:(Tryz.f57.name== "runtime.NumGoroutine")=false:=by kernel_rfl
theorem Vw0:(Tryz.f58.name== "runtime.NumGoroutine")=false:=by kernel_rfl
theorem Vx0:(Tryz.f60.name== "runtime.NumGoroutine")=false:=by kernel_rfl
theorem bj1:(Tryz.f61.name== "runtime.NumGoroutine")=false:=by kernel_rfl
theorem Vy0:(Tryz.f62.name== "runtime.NumGoroutine")=false:=by kernel_rfl
theorem Vz0:(Tryz.f64.name== "runtime.NumGoroutine")=false:=by kernel_rfl
theorem Jr0:(Tryz.f66.name== "runtime.NumGoroutine")=false:=by kernel_rfl
theorem bk1:(Tryz.f67.name== "runtime.NumGoroutine")=false:=by kernel_rfl
theorem Wa0:(Tryz.f68.name== "runtime.NumGoroutine")=false:=by kernel_rfl
theorem bl1:(Tryz.f69.name== "runtime.NumGoroutine")=false:=by kernel_rfl
theorem Ps0:(Tryz.f70.name== "runtime.NumGoroutine")=false:=by kernel_rfl
theorem Wb0:(Tryz.f72.name== "runtime.NumGoroutine")=false:=by kernel_rfl
theorem bm1:(Tryz.f74.name== "runtime.NumGoroutine")=false:=by kernel_rfl
theorem bn1:(Tryz.f75.name== "runtime.NumGoroutine")=false:=by kernel_rfl
theorem bo1:(Tryz.f76.name== "runtime.NumGoroutine")=false:=by kernel_rfl
theorem Wc0:(Tryz.f77.name== "runtime.NumGoroutine")=false:=by kernel_rfl
theorem bp1:(Tryz.f78.name== "runtime.NumGoroutine")=false:=by kernel_rfl
theorem bq1:(Tryz.f79.name== "runtime.NumGoroutine")=false:=by kernel_rfl
theorem br1:(Tryz.f80.name== "runtime.NumGoroutine")=false:=by kernel_rfl
theorem bs1:(Tryz.f81.name== "runtime.NumGoroutine")=false:=by kernel_rfl
theorem bt1:(Tryz.f82.name== "runtime.NumGoroutine")=false:=by kernel_rfl
theorem Wd0:(Tryz.f83.name== "runtime.NumGoroutine")=false:=by kernel_rfl
theorem bu1:(Tryz.f85.name== "runtime.NumGoroutine")=false:=by kernel_rfl
theorem We0:(Tryz.f87.name== "runtime.NumGoroutine")=false:=by kernel_rfl
theorem Pt0:(Tryz.f88.name== "runtime.NumGoroutine")=false:=by kernel_rfl
theorem iy0:(Tryz.f89.name== "runtime.NumGoroutine")=false:=by kernel_rfl
theorem Wf0:(Tryz.f90.name== "runtime.NumGoroutine")=false:=by kernel_rfl
theorem Wg0:(Tryz.f94.name== "runtime.NumGoroutine")=false:=by kernel_rfl
theorem bv1:(Tryz.f95.name== "runtime.NumGoroutine")=false:=by kernel_rfl
theorem Js0:(Tryz.f96.name== "runtime.NumGoroutine")=false:=by kernel_rfl
theorem bw1:(Tryz.f97.name== "runtime.NumGoroutine")=false:=by kernel_rfl
theorem bx1:(Tryz.f99.name== "runtime.NumGoroutine")=false:=by kernel_rfl
theorem Mz0:(Tryz.f100.name== "runtime.NumGoroutine")=false:=by kernel_rfl
theorem Wh0:(Tryz.f102.name== "runtime.NumGoroutine")=false:=by kernel_rfl
theorem Wi0:(Tryz.f103.name== "runtime.NumGoroutine")=false:=by kernel_rfl
theorem Wj0:(Tryz.f104.name== "runtime.NumGoroutine")=false:=by kernel_rfl
theorem Wk0:(Tryz.f106.name== "runtime.NumGoroutine")=false:=by kernel_rfl
theorem Wl0:(Tryz.f107.name== "runtime.NumGoroutine")=false:=by kernel_rfl
theorem Em0:(Tryz.f109.name== "runtime.NumGoroutine")=false:=by kernel_rfl
theorem uu0:(Tryz.f110.name== "runtime.NumGoroutine")=false:=by kernel_rfl
theorem Wm0:(Tryz.f111.name== "runtime.NumGoroutine")=false:=by kernel_rfl
theorem Na0:(Tryz.f112.name== "runtime.NumGoroutine")=false:=by kernel_rfl
theorem Wn0:(Tryz.f113.name== "runtime.NumGoroutine")=false:=by kernel_rfl
theorem Nb0:(Tryz.f162.name== "runtime.NumGoroutine")=false:=by kernel_rfl
theorem Wo0:(Tryz.f163.name== "runtime.NumGoroutine")=false:=by kernel_rfl
theorem Wp0:(Tryz.f164.name== "runtime.NumGoroutine")=false:=by kernel_rfl
theorem Nc0:(Tryz.f165.name== "runtime.NumGoroutine")=false:=by kernel_rfl
theorem Wq0:(Tryz.f166.name== "runtime.NumGoroutine")=false:=by kernel_rfl
theorem Nd0:(Tryz.f167.name== "runtime.NumGoroutine")=false:=by kernel_rfl
theorem Wr0:(Tryz.f168.name== "runtime.NumGoroutine")=false:=by kernel_rfl
theorem Ne0:(Tryz.f169.name== "runtime.NumGoroutine")=false:=by kernel_rfl
theorem Nf0:(Tryz.f170.name== "runtime.NumGoroutine")=false:=by kernel_rfl
theorem Ng0:(Tryz.f171.name== "runtime.NumGoroutine")=false:=by kernel_rfl
end Go.Proofs.YtnifpkopeheodaaGreat
end
