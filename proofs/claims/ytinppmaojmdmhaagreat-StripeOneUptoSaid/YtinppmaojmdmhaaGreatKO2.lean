/- What the claim leans on, part 2. Laws. -/
import Derived.Test.YtinppmaojmdmhaaGreatKO1
import Derived.Laws.AppendOwnNone
import Derived.WideKeyRuns
import Derived.Laws.StructEq
import Derived.ChangeKeysEq
import Derived.Laws.Rows
import Derived.Laws.LoneSync
import Derived.Laws.Pointers
import Derived.Laws.ResultCell
import Derived.Laws.CopyRow
import Derived.FollowTie
import Derived.Scope
import Derived.Conc.AtomicLaws2
import Derived.Conc.MarkLaws
import Derived.Conc.SmallLaws
import Derived.Laws.Bits64
import Derived.Laws.BitsLemmas
set_option linter.unusedVariables false
section
namespace Go.Vc
open Go
def A6 (D:Nat->Bool) (i:Nat):Nat->Bool:=fun k=>if k=i then true else D k
def B6 (o:Oper) (D:Nat->Bool):Prop:=∀x∈o.after,Region.binds .any x=true->D x.on=true
def Bg0 (n:Nat) (ops:Array Oper):Bool :=
 (List.range ops.size).all fun i=>
  match ops[i]? with
  |none=>false
  |some o=>
   u6 n o.dst && !(match o.op with| .select ..=>true|_=>false) &&
   (o.after.all fun x=>!Region.binds .any x ||Nat.blt x.on i) &&
   (List.range ops.size).all fun j=>
    match ops[j]? with
    |none=>false
    |some p=>
     match p.dst with
     |none=>true
     |some t=>(i==j ||o.dst !=some t)&&(!(o.looksAt ops).contains t ||o.after.any fun x=>Region.binds .any x&&x.on==j)
structure Ord (n:Nat) (ops:Array Oper):Prop where
 dst:∀(i:Nat) (o:Oper),ops[i]? =some o->u6 n o.dst=true
 sel:∀(i:Nat) (o:Oper),ops[i]? =some o->∀cs b,o.op≠.select cs b
 back:∀(i:Nat) (o:Oper),ops[i]? =some o->∀x∈o.after,Region.binds .any x=true->x.on<i
 one:∀(i j:Nat) (o p:Oper) (t:Nat),ops[i]? =some o->ops[j]? =some p->o.dst=some t->p.dst=some t->i=j
 look:∀(i j:Nat) (o p:Oper) (t:Nat),ops[i]? =some o->ops[j]? =some p->p.dst=some t->t∈o.looksAt ops->∃x∈o.after,Region.binds .any x=true/\x.on=j
theorem Eo0 {n:Nat} {ops:Array Oper} (h:Bg0 n ops=true):Ord n ops:=by
 unfold Bg0 at h;have lt:∀{i:Nat} {o:Oper},ops[i]? =some o->i<ops.size:=fun h=>(Array.getElem?_eq_some_iff.1 h).1;have key:∀(i:Nat) (o:Oper),ops[i]? =some o->(u6 n o.dst=true/\(!(match o.op with| .select ..=>true|_=>false))=true) /\
   ((o.after.all fun x=>!Region.binds .any x ||Nat.blt x.on i)=true)/\∀(j:Nat) (p:Oper) (t:Nat),ops[j]? =some p->p.dst=some t->(i==j ||o.dst !=some t)=true/\(!(o.looksAt ops).contains t ||o.after.any fun x=>Region.binds .any x&&x.on==j)=true:=by
  intro i o ho;have h1:=List.all_eq_true.1 h i (List.mem_range.2 (lt ho));simp only[ho,Bool.and_eq_true]at h1;refine⟨h1.1.1,h1.1.2,fun j p t hp ht=>?_⟩;have h2:=List.all_eq_true.1 h1.2 j (List.mem_range.2 (lt hp));simp only[hp,ht,Bool.and_eq_true]at h2;exact h2
 refine⟨fun i o ho=>(key i o ho).1.1,fun i o ho cs b he=>?_,fun i o ho x hx hb=>?_,fun i j o p t ho hp h1 h2=>?_,fun i j o p t ho hp ht hl=>?_⟩
 ·have:=(key i o ho).1.2;rw[he]at this;cases this
 ·have:=(key i o ho).2.1;rw[Array.all_eq_true']at this;have:=this x hx;simp only[hb,Bool.not_true,Bool.false_or,Nat.blt_eq]at this;exact this
 ·have:=((key i o ho).2.2 j p t hp h2).1;simp only[h1,bne_self_eq_false,Bool.or_false,beq_iff_eq]at this;exact this
 ·have:=((key i o ho).2.2 j p t hp ht).2;have hc:(o.looksAt ops).contains t=true:=by simpa using hl
  rw[hc,Bool.not_true,Bool.false_or]at this;obtain⟨x,hx,hb⟩:=Array.any_eq_true'.1 this;simp only[Bool.and_eq_true,beq_iff_eq]at hb;exact⟨x,hx,hb.1,hb.2⟩
section
variable {ops:Array Oper}{n:Nat}
def EE (e:Env) (l:List Oper) (vals:Nat->Value):Nat->Env
 |0=>e
 |k+1=>R3 (EE e l vals k) ((l[k]?).bind (·.dst)) (vals k)
theorem yy0 (e:Env) (o:Oper) (l:List Oper) (vals:Nat->Value):∀k,EE e (o::l) vals (k+1)=EE (R3 e o.dst (vals 0)) l (fun k=>vals (k+1)) k
 |0=>rfl
 |k+1=>by
  show R3 (EE e (o::l) vals (k+1)) _ _=_;rw[yy0 e o l vals k];rfl
theorem kv0 (e:Env) (l:List Oper) (vals:Nat->Value) (t:Nat):∀k,(∀j o,j<k->l[j]? =some o->o.dst≠some t)->EE e l vals k t=e t
 |0,_=>rfl
 |k+1,h=>by
  have ih:=kv0 e l vals t k (fun j o hj ho=>h j o (by omega) ho);show R3 _ _ _ t=_;cases hk:l[k]? with
  |none=>exact ih
  |some o=>
   simp only[Option.bind_some];cases hd:o.dst with
   |none=>exact ih
   |some d=>
    have:t≠d:=fun hh=>h k o (by omega) hk (by rw[hd,hh]);show upd _ _ _ _=_;rw[upd_ne _ _ this];exact ih
theorem yz0 (e:Env) (l:List Oper) (vals:Nat->Value) (t j:Nat) (o:Oper) (hj:l[j]? =some o) (hd:o.dst=some t) (Ur0:∀i p,l[i]? =some p->p.dst=some t->i=j):∀k,j<k->EE e l vals k t=vals j
 |0,h=>by omega
 |k+1,h=>by
  show R3 _ _ _ t=_;by_cases hjk:k=j
  ·subst hjk;rw[hj];simp only[Option.bind_some,hd];exact upd_same _ _ _
  ·have ih:=yz0 e l vals t j o hj hd Ur0 k (by omega);cases hk:l[k]? with
   |none=>exact ih
   |some p=>
    simp only[Option.bind_some];cases hp:p.dst with
    |none=>exact ih
    |some d=>
     have:t≠d:=fun hh=>hjk (Ur0 k p hk (by rw[hp,hh]));show upd _ _ _ _=_;rw[upd_ne _ _ this];exact ih
structure Mid (ops:Array Oper) (e0:Env) (vals:Nat->Value) (listed:Array Bool) (e:Env):Prop where
 hit:∀j o t,ops[j]? =some o->o.dst=some t->listed.getD j false=true->e t=vals j
 pk0:∀t,(∀j o,ops[j]? =some o->o.dst=some t->listed.getD j false=false)->e t=e0 t
theorem pl0 (h:Ord n ops) {e0:Env} {vals:Nat->Value} {listed:Array Bool} {e:Env} (hm:Mid ops e0 vals listed e) {i:Nat} {o:Oper} (ho:ops[i]? =some o)
  (C6:∀x∈o.after,Region.binds .any x=true->listed.getD x.on false=true):∀t∈o.looksAt ops,e t=EE e0 ops.toList vals i t:=by
 intro t ht;have hl:∀j:Nat,ops.toList[j]? =ops[j]?:=fun j=>by rw[Array.getElem?_toList]
 by_cases hex:∃(j:Nat) (p:Oper),ops[j]? =some p/\p.dst=some t
 ·obtain⟨j,p,hp,hd⟩:=hex;obtain⟨x,hx,hb,rfl⟩:=h.look i j o p t ho hp hd ht;have O3:=h.back i o ho x hx hb;rw[hm.hit x.on p t hp hd (C6 x hx hb)];exact(yz0 e0 ops.toList vals t x.on p (by rw[hl];exact hp) hd (fun i' p' hp' L6=>h.one i' x.on p' p t (by rw[<- hl];exact hp') hp L6 hd) i O3).symm
 ·have hno:∀(j:Nat) (p:Oper),ops[j]? =some p->p.dst≠some t:=fun j p hp hd=>hex ⟨j,p,hp,hd⟩;rw[hm.pk0 t (fun j p hp hd=>absurd hd (hno j p hp))];exact(kv0 e0 ops.toList vals t i (fun j p _ hp=>hno j p (by rw[<- hl];exact hp))).symm
theorem fw0 {e e':Env} {o:Oper} (hs:∀cs b,o.op≠.select cs b) (h:∀t∈o.looksAt ops,e t=e' t):execOp (ev e) o=execOp (ev e') o:=by
 refine execOp_congr o hs fun x hx=>?_;cases x with
 |tmp t=>exact h t (List.mem_append_left _ (List.mem_filterMap.2 ⟨.tmp t,by simpa using hx,rfl⟩))
 |const v=>rfl
 |global g=>rfl
 |func f=>rfl
theorem fx0 {e e':Env} {o:Oper} (h:∀t∈o.looksAt ops,e t=e' t):Region.wanted o (G3 ops e)=Region.wanted o (G3 ops e'):=by
 unfold Region.wanted;cases hg:o.guard with
 |none=>rfl
 |some g=>
  obtain⟨j,b⟩:=g;simp only;have:G3 ops e j=G3 ops e' j:=by
   unfold G3;cases hj:(ops[j]?).bind (·.dst)with
   |none=>rfl
   |some t=>
    have:=h t (List.mem_append_right _ (by rw[hg];simp only[hj];simp));simp only[this]
  rw[this]
theorem ix0 {listed:Array Bool} (h:Ord n ops) (hs:listed.size=ops.size) (hr:Region.ready .any ops listed=[]):∀i,i<ops.size->listed.getD i false=true:=by
 intro i
 induction i using Nat.strongRecOn with
 |_ i ih=>
  intro hi;cases hl:listed.getD i false with
  |true=>rfl
  |false=>
   exfalso;have hi':i<listed.size:=by omega
   have jk0:i∈Region.ready .any ops listed:=by
    refine mem_ready.2 ⟨?_,ops[i],by simp[hi],fun x hx hb=>?_⟩
    ·simp only[Array.getD_eq_getD_getElem?,hi',Array.getElem?_eq_getElem,Option.getD_some]at hl⊢;exact hl
    ·have J1:=h.back i ops[i] (by simp[hi]) x hx hb;exact ih x.on J1 (by omega)
   rw[hr]at jk0;cases jk0
theorem count_set {l:Array Bool} {i:Nat} (h:l.getD i true=false):(l.setIfInBounds i true).toList.count false+1=l.toList.count false:=by
 have hi:i<l.size:=by
  rcases Nat.lt_or_ge i l.size with h'|h'
  ·exact h'
  ·simp[Array.getElem?_eq_none h']at h
 have hv:l[i]=false:=by simpa [hi]using h
 show List.countP (· ==false) _+1=List.countP (· ==false) _;rw[Array.toList_setIfInBounds,List.countP_set (by simpa using hi)];have hv':l.toList[i]'(by simpa using hi)=false:=by simpa using hv
 simp only[hv'];have:0<l.toList.countP (· ==false):=List.countP_pos_iff.2 ⟨false,by rw[<- hv'];exact List.getElem_mem _,rfl⟩;simp only[beq_self_eq_true,if_true];have e2:(if(true==false)=true then 1 else 0)=0:=rfl;rw[e2];omega
theorem Ep0 {l:Array Bool} (h:l.toList.count false=0):∀i,i<l.size->l.getD i false=true:=by
 intro i hi;simp only[Array.getD_eq_getD_getElem?,hi,Array.getElem?_eq_getElem,Option.getD_some];cases hv:l[i]with
 |true=>rfl
 |false=>
  exfalso;have:false∈l.toList:=by rw[<- hv];simp
  have:=List.count_pos_iff.2 this;omega
theorem kw0 {l:Array Bool} {i:Nat} (hi:i<l.size):(fun k=>(l.setIfInBounds i true).getD k false)=A6 (fun k=>l.getD k false) i:=by
 funext k;unfold A6;by_cases hk:k=i
 ·subst hk;simp[hi]
 ·rw[getD_set_ne false (Ne.symm hk),if_neg hk]
theorem Mid.step (h:Ord n ops) {e0:Env} {vals:Nat->Value} {listed:Array Bool} {e:Env} (hm:Mid ops e0 vals listed e) {i:Nat} {o:Oper} (ho:ops[i]? =some o) (hi:i<listed.size) :
  Mid ops e0 vals (listed.setIfInBounds i true) (R3 e o.dst (vals i)):=by
 constructor
 ·intro j p t hp ht hl;by_cases O3:j=i
  ·subst O3;obtain rfl:p=o:=Option.some.inj (hp.symm.trans ho);rw[ht];exact upd_same _ _ _
  ·rw[getD_set_ne false (Ne.symm O3)]at hl;have hv:=hm.hit j p t hp ht hl;cases hd:o.dst with
   |none=>exact hv
   |some d=>
    have:t≠d:=fun hh=>O3 (h.one j i p o t hp ho ht (by rw[hd,hh]));show upd _ _ _ _=_;rw[upd_ne _ _ this];exact hv
 ·intro t hno;have hv:=hm.pk0 t (fun j p hp ht=>by
   have:=hno j p hp ht;by_cases O3:j=i
   ·subst O3;simp[hi]at this
   ·rw[getD_set_ne false (Ne.symm O3)]at this;exact this)
  cases hd:o.dst with
  |none=>exact hv
  |some d=>
   have:t≠d:=fun hh=>by
    have:=hno i o ho (by rw[hd,hh]);simp[hi]at this
   show upd _ _ _ _=_;rw[upd_ne _ _ this];exact hv
inductive Lin (ops:Array Oper):Array Bool->List Nat->Prop
 |nil {listed}:Region.ready .any ops listed=[]->Lin ops listed []
 |cons {listed i σ}:i∈Region.ready .any ops listed->Lin ops (listed.setIfInBounds i true) σ->Lin ops listed (i::σ)
theorem jw0 (ops:Array Oper):∀(fuel t:Nat) (listed:Array Bool),listed.size=ops.size->listed.toList.count false <=fuel->Lin ops listed (Region.linearise.go .any ops fuel t listed []):=by
 intro fuel
 induction fuel with
 |zero=>
  intro t listed hs hc;have de0:=Ep0 (show listed.toList.count false=0 by omega);refine .nil ?_;cases hr:Region.ready .any ops listed with
  |nil=>rfl
  |cons i r=>
   exfalso;have jk0:i∈Region.ready .any ops listed:=by rw[hr];exact List.mem_cons_self
   obtain⟨h1,o,ho,_⟩:=mem_ready.1 jk0;have hi:i<ops.size:=(Array.getElem?_eq_some_iff.1 ho).1;have hi':i<listed.size:=by omega
   have:=de0 i hi';simp only[Array.getD_eq_getD_getElem?,hi',Array.getElem?_eq_getElem,Option.getD_some]at h1 this;rw[h1]at this;cases this
 |succ fuel ih=>
  intro t listed hs hc;simp only[Region.linearise.go];change Lin ops listed (match(Region.ready .any ops listed)[t%(Region.ready .any ops listed).length]? with
   |some i=>Region.linearise.go .any ops fuel (t/(Region.ready .any ops listed).length) (listed.setIfInBounds i true) [i]
   |none=>[].reverse)
  cases hi:(Region.ready .any ops listed)[t%(Region.ready .any ops listed).length]? with
  |none=>
   have Jo0:Region.ready .any ops listed=[]:=by
    cases hr:Region.ready .any ops listed with
    |nil=>rfl
    |cons x xs=>
     rw[hr]at hi;have J1:t%(x::xs).length<(x::xs).length:=Nat.mod_lt _ (by simp);simp at hi;simp at J1;omega
   exact .nil Jo0
  |some i=>
   simp only[];rw[linearise_go_acc,List.reverse_singleton,List.singleton_append];have jk0:=List.mem_of_getElem? hi;exact .cons jk0 (ih _ _ (by simp[hs]) (by have:=count_set (mem_ready.1 jk0).1;omega))
def Pre (σ:List Nat) (D:Nat->Bool):Prop:=∃τ ρ,σ=τ++ρ/\∀k,D k=true↔k∈τ
theorem Pre.chain {σ:List Nat} {D D':Nat->Bool} (h:Pre σ D) (h':Pre σ D'):(∀k,D k=true->D' k=true)\/(∀k,D' k=true->D k=true):=by
 obtain⟨τ,ρ,e1,h1⟩:=h;obtain⟨τ',ρ',e2,h2⟩:=h';rcases List.append_eq_append_iff.1 (e1.symm.trans e2)with⟨x,hx,_⟩|⟨x,hx,_⟩
 ·left;intro k hk;rw[h2,hx];exact List.mem_append_left _ ((h1 k).1 hk)
 ·right;intro k hk;rw[h1,hx];exact List.mem_append_left _ ((h2 k).1 hk)
theorem fy0:∀{listed:Array Bool} {σ:List Nat},Lin ops listed σ->(∀i o,ops[i]? =some o->listed.getD i false=true->∀x∈o.after,Region.binds .any x=true->listed.getD x.on false=true)->listed.size=ops.size ->
  ∀(τ ρ:List Nat),σ=τ++ρ->∀i o,ops[i]? =some o->(listed.getD i false=true\/i∈τ)->∀x∈o.after,Region.binds .any x=true->(listed.getD x.on false=true\/x.on∈τ):=by
 intro listed σ h
 induction h with
 |nil _=>
  intro hc _ τ ρ hσ i o ho hi x hx hb;have:τ=[]:=(List.append_eq_nil_iff.1 hσ.symm).1;subst this;rcases hi with hi|hi
  ·exact .inl (hc i o ho hi x hx hb)
  ·cases hi
 | @cons listed j σ hj _ ih=>
  intro hc hs τ ρ hσ i o ho hi x hx hb;cases τ with
  |nil=>
   rcases hi with hi|hi
   ·exact .inl (hc i o ho hi x hx hb)
   ·cases hi
  |cons t τ=>
   simp only[List.cons_append,List.cons.injEq]at hσ;obtain⟨rfl,hσ⟩:=hσ;obtain⟨_,oj,hoj,hdj⟩:=mem_ready.1 hj;have hjs:j<ops.size:=(Array.getElem?_eq_some_iff.1 hoj).1;have H8:∀i o,ops[i]? =some o->(listed.setIfInBounds j true).getD i false=true->∀x∈o.after,Region.binds .any x=true->(listed.setIfInBounds j true).getD x.on false=true:=by
    intro i o ho hi x hx hb;by_cases hij:j=i
    ·subst hij;obtain rfl:o=oj:=Option.some.inj (ho.symm.trans hoj);exact getD_set_true (hdj x hx hb)
    ·rw[getD_set_ne false hij]at hi;exact getD_set_true (hc i o ho hi x hx hb)
   have Za0:∀k,((listed.setIfInBounds j true).getD k false=true\/k∈τ)↔(listed.getD k false=true\/k∈j::τ):=by
    intro k;by_cases hk:j=k
    ·subst hk;simp[hs,hjs]
    ·rw[getD_set_ne false hk];simp[Ne.symm hk]
   exact(Za0 _).1 (ih H8 (by simp[hs]) τ ρ hσ i o ho ((Za0 _).2 hi) x hx hb)
theorem J0 (m j:Nat):(Array.replicate m false).getD j false=false:=by
 rcases Nat.lt_or_ge j m with h|h <;> simp[h]
end
section
variable {P:Program}{ρ:Operand->Value}{w:World}{d:Option Nat}{ty:TypeId}{ps:String}{af:Array Edge}{g:Option (Nat×Bool)}
variable {x y z:Operand}{T T' E S:TypeId}
theorem v5:(execOp ρ ⟨d,.move x,ty,ps,af,g⟩).run P w= .ok (.value (ρ x)) w:=rfl
theorem E7:(execOp ρ ⟨d,.assign x,ty,ps,af,g⟩).run P w= .ok (.value (ρ x)) w:=rfl
theorem C4 {κ:IntKind} {m:Int} (h:ρ x= .int κ m):(execOp ρ ⟨d,.move x,ty,ps,af,g⟩).run P w= .ok (.value (.int κ m)) w:=by rw[<- h];rfl
theorem gt0 {κ:IntKind} {m:Int} (h:ρ x= .int κ m):(execOp ρ ⟨d,.assign x,ty,ps,af,g⟩).run P w= .ok (.value (.int κ m)) w:=by rw[<- h];rfl
theorem bg0 {b:Bool} (h:ρ x= .bool b):(execOp ρ ⟨d,.move x,ty,ps,af,g⟩).run P w= .ok (.value (.bool b)) w:=by rw[<- h];rfl
theorem no0 {b:Bool} (h:ρ x= .bool b):(execOp ρ ⟨d,.assign x,ty,ps,af,g⟩).run P w= .ok (.value (.bool b)) w:=by rw[<- h];rfl
theorem R9 {a:Option Addr} {n c:Nat} (h:ρ x= .slice a n c):(execOp ρ ⟨d,.move x,ty,ps,af,g⟩).run P w= .ok (.value (.slice a n c)) w:=by rw[<- h];rfl
theorem Bh0 {a:Option Addr} {n c:Nat} (h:ρ x= .slice a n c):(execOp ρ ⟨d,.assign x,ty,ps,af,g⟩).run P w= .ok (.value (.slice a n c)) w:=by rw[<- h];rfl
theorem H3 {p:Option Addr} (h:ρ x= .pointer p):(execOp ρ ⟨d,.move x,ty,ps,af,g⟩).run P w= .ok (.value (.pointer p)) w:=by rw[<- h];rfl
theorem dr0 {p:Option Addr} (h:ρ x= .pointer p):(execOp ρ ⟨d,.assign x,ty,ps,af,g⟩).run P w= .ok (.value (.pointer p)) w:=by rw[<- h];rfl
theorem vv0 {cs:Array Value} (h:ρ x= .tuple cs):(execOp ρ ⟨d,.move x,ty,ps,af,g⟩).run P w= .ok (.value (.tuple cs)) w:=by rw[<- h];rfl
theorem Mr0 {fn:Fn} {xs ys:Array Value} (h:ρ x= .func fn xs ys):(execOp ρ ⟨d,.move x,ty,ps,af,g⟩).run P w= .ok (.value (.func fn xs ys)) w:=by rw[<- h];rfl
theorem Ms0 {fn:Fn} {xs ys:Array Value} (h:ρ x= .func fn xs ys):(execOp ρ ⟨d,.assign x,ty,ps,af,g⟩).run P w= .ok (.value (.func fn xs ys)) w:=by rw[<- h];rfl
theorem Mt0 {s:ByteArray} (h:ρ x= .string s):(execOp ρ ⟨d,.move x,ty,ps,af,g⟩).run P w= .ok (.value (.string s)) w:=by rw[<- h];rfl
theorem p6 (h:ρ z= .bool true):(execOp ρ ⟨d,.pick z x y,ty,ps,af,g⟩).run P w= .ok (.value (ρ x)) w:=by
 simp[execOp,h,asBool]
theorem A7 (h:ρ z= .bool false):(execOp ρ ⟨d,.pick z x y,ty,ps,af,g⟩).run P w= .ok (.value (ρ y)) w:=by
 simp[execOp,h,asBool]
section
variable {κ:IntKind}{m k:Int}(hx:ρ x= .int κ m)(hy:ρ y= .int κ k)
include hx hy
theorem gu0:(execOp ρ ⟨d,.binOp .add T x y T',ty,ps,af,g⟩).run P w= .ok (.value (.int κ (κ.wrap (m+k)))) w:=by simp[execOp,hx,hy,eqGuard_add,binOp_add,Op.intArith]
theorem vw0:(execOp ρ ⟨d,.binOp .sub T x y T',ty,ps,af,g⟩).run P w= .ok (.value (.int κ (κ.wrap (m-k)))) w:=by simp[execOp,hx,hy,eqGuard_sub,binOp_sub,Op.intArith]
theorem vx0:(execOp ρ ⟨d,.binOp .mul T x y T',ty,ps,af,g⟩).run P w= .ok (.value (.int κ (κ.wrap (m*k)))) w:=by simp[execOp,hx,hy,eqGuard_mul,binOp_mul,Op.intArith]
theorem Bi0 (h0:k≠0):(execOp ρ ⟨d,.binOp .quo T x y T',ty,ps,af,g⟩).run P w= .ok (.value (.int κ (κ.wrap (m.tdiv k)))) w:=by simp[execOp,hx,hy,eqGuard_quo,binOp_quo,Op.intDiv,h0]
theorem jq0 (h0:k≠0):(execOp ρ ⟨d,.binOp .rem T x y T',ty,ps,af,g⟩).run P w= .ok (.value (.int κ (m.tmod k))) w:=by simp[execOp,hx,hy,eqGuard_rem,binOp_rem,Op.intDiv,h0]
theorem gv0:(execOp ρ ⟨d,.binOp .lss T x y T',ty,ps,af,g⟩).run P w= .ok (.value (.bool (decide (m<k)))) w:=by simp[execOp,hx,hy,eqGuard_lss,binOp,Op.intCmp]
theorem Ho0:(execOp ρ ⟨d,.binOp .leq T x y T',ty,ps,af,g⟩).run P w= .ok (.value (.bool (decide (m <=k)))) w:=by simp[execOp,hx,hy,eqGuard_leq,binOp,Op.intCmp]
theorem np0:(execOp ρ ⟨d,.binOp .gtr T x y T',ty,ps,af,g⟩).run P w= .ok (.value (.bool (decide (k<m)))) w:=by simp[execOp,hx,hy,eqGuard_gtr,binOp,Op.intCmp]
theorem Hp0:(execOp ρ ⟨d,.binOp .geq T x y T',ty,ps,af,g⟩).run P w= .ok (.value (.bool (decide (k <=m)))) w:=by simp[execOp,hx,hy,eqGuard_geq,binOp,Op.intCmp]
theorem S9:(execOp ρ ⟨d,.binOp .eql T x y T',ty,ps,af,g⟩).run P w= .ok (.value (.bool (decide (m=k)))) w:=by
 simp only[execOp,hx,hy,eqGuard_at_int,binOp,Op.intCmp,pure_bind,Sem.run_bind,Sem.run_pure];by_cases h:m=k <;> simp[h]
theorem vy0:(execOp ρ ⟨d,.binOp .neq T x y T',ty,ps,af,g⟩).run P w= .ok (.value (.bool (decide (m≠k)))) w:=by
 simp only[execOp,hx,hy,eqGuard_at_int,binOp,Op.intCmp,pure_bind,Sem.run_bind,Sem.run_pure];by_cases h:m=k <;> simp[h]
end
theorem eh0 {m k:Int} (hx:ρ x= .int .i64 m) (hy:ρ y= .int .i64 k) (h:-9223372036854775808 <=m+k/\m+k <=9223372036854775807):(execOp ρ ⟨d,.binOp .add T x y T',ty,ps,af,g⟩).run P w= .ok (.value (.int .i64 (m+k))) w:=by
 rw[gu0 hx hy,IntWalk.i64_in _ h]
theorem Eq0 {m k:Int} (hx:ρ x= .int .i64 m) (hy:ρ y= .int .i64 k) (h:-9223372036854775808 <=m-k/\m-k <=9223372036854775807):(execOp ρ ⟨d,.binOp .sub T x y T',ty,ps,af,g⟩).run P w= .ok (.value (.int .i64 (m-k))) w:=by
 rw[vw0 hx hy,IntWalk.i64_in _ h]
theorem pm0 {k:Nat} (hx:ρ x= .int .i64 (k:Int)) (hy:ρ y= .int .i64 1) (h:k<9223372036854775807):(execOp ρ ⟨d,.binOp .add T x y T',ty,ps,af,g⟩).run P w= .ok (.value (.int .i64 ((k+1:Nat):Int))) w:=by
 rw[eh0 hx hy (by omega)];rfl
theorem nq0 {b:Bool} (hx:ρ x= .bool b):(execOp ρ ⟨d,.unOp .not T x,ty,ps,af,g⟩).run P w= .ok (.value (.bool (!b))) w:=by simp[execOp,hx,Op.unary]
theorem Mu0 {k:Int} (hx:ρ x= .int .i64 k) (h:-9223372036854775808<k/\k <=9223372036854775807):(execOp ρ ⟨d,.unOp .neg T x,ty,ps,af,g⟩).run P w= .ok (.value (.int .i64 (-k))) w:=by
 simp[execOp,hx,Op.unary,Op.intArith,IntWalk.i64_in (-k) (by omega)]
theorem M6 {a:Option Addr} {n c:Nat} {aT:Array TypeId} (hx:ρ x= .slice a n c) (hT:P.underlying T=some (.slice E)) (hA:aT[0]? =some T) :
  (execOp ρ ⟨d,.call ⟨.builtin .len,#[x],aT⟩,ty,ps,af,g⟩).run P w= .ok (.value (.int .i64 (n:Int))) w:=by
 simp[execOp,resolve,invoke,builtin,hx,Builtin.len_,hA,underlying,hT,goInt]
theorem io1 {m k:Int} {aT:Array TypeId} (hx:ρ x= .int .i64 m) (hy:ρ y= .int .i64 k) :
  (execOp ρ ⟨d,.call ⟨.builtin .max,#[x,y],aT⟩,ty,ps,af,g⟩).run P w= .ok (.value (.int .i64 (max m k))) w:=by
 have:max m k=if k>m then k else m:=by split <;> omega
 rw[this];simp[execOp,resolve,invoke,builtin,hx,hy,Builtin.max_,Builtin.max2]
theorem run_sizeOf {t:TypeId} {s:Nat} (h:(P.info? t).map (·.size)=some s):(sizeOf t).run P w= .ok s w:=by
 cases hi:P.info? t with
 |none=>rw[hi]at h;cases h
 |some i=>rw[hi]at h;simp at h;simp[sizeOf,typeInfo,hi,h]
theorem run_underlying {t:TypeId} {u:TypeDesc} (h:P.underlying t=some u):(underlying t).run P w= .ok u w:=by simp[underlying,h]
theorem ay0 {t:TypeId} {v:Value} (h:(P.info? t).bind (·.zero)=some v):(zeroValue t).run P w= .ok v w:=by
 cases hi:P.info? t with
 |none=>rw[hi]at h;cases h
 |some i=>rw[hi]at h;simp at h;simp[zeroValue,typeInfo,hi,h]
theorem az0 {b o n c s:Nat} {i:Nat} (hx:ρ x= .slice (some ⟨b,o,none⟩) n c) (hy:ρ y= .int .i64 (i:Int)) (hT:P.underlying T=some (.slice E)) (hs:(P.info? E).map (·.size)=some s) (h:i<n) :
  (execOp ρ ⟨d,.indexAddr T x y,ty,ps,af,g⟩).run P w= .ok (.value (.pointer (some ⟨b,o+i*s,none⟩))) w:=by
 have h1:(0:Int) <=(i:Int)/\(i:Int)<(n:Int):=by omega
 have h2:Addr.add ⟨b,o,none⟩ (i*s)=⟨b,o+i*s,none⟩:=by
  unfold Addr.add;split
  ·rename_i h0;simp[]
  ·rfl
 simp[execOp,Instr.indexAt,hx,hy,asIntOf,run_underlying hT,run_sizeOf hs,h1,h];simpa using h2
theorem Er0 {b o n s:Nat} {i:Int} (hx:ρ x= .pointer (some ⟨b,o,none⟩)) (hy:ρ y= .int .i64 i) (hT:P.underlying T=some (.array n E)) (hs:(P.info? E).map (·.size)=some s) (h0:0 <=i) (h:i<n) :
  (execOp ρ ⟨d,.indexAddr T x y,ty,ps,af,g⟩).run P w= .ok (.value (.pointer (some ⟨b,o+i.toNat*s,none⟩))) w:=by
 have h2:Addr.add ⟨b,o,none⟩ (i.toNat*s)=⟨b,o+i.toNat*s,none⟩:=by
  unfold Addr.add;split
  ·rename_i h0;simp[]
  ·rfl
 simp[execOp,Instr.indexAt,hx,hy,asIntOf,Instr.sureAddr,run_underlying hT,run_sizeOf hs,h0,h,h2]
theorem B0 {b o f:Nat} {fs:Array Field} {fl:Field} {s:Nat} (hx:ρ x= .pointer (some ⟨b,o,none⟩)) (hT:P.underlying S=some (.struct fs)) (hf:fs[f]? =some fl) (hs:(P.info? fl.type).map (·.size)=some s) (h0:s≠0) :
  (execOp ρ ⟨d,.fieldAddr S x f,ty,ps,af,g⟩).run P w= .ok (.value (.pointer (some ⟨b,o+fl.offset,none⟩))) w:=by
 have h2:Addr.add ⟨b,o,none⟩ fl.offset=⟨b,o+fl.offset,none⟩:=by
  unfold Addr.add;split
  ·rename_i h0;simp[]
  ·rfl
 simp[execOp,Instr.fieldAt,hx,Instr.sureAddr,run_underlying hT,hf,fieldPlace,run_sizeOf hs,h0,h2]
def bt0 (u:TypeDesc):Bool:=match u with| .struct _| .array ..=>false|_=>true
theorem cg0 {t:TypeId} {u:TypeDesc} (h:P.underlying t=some u):(isAgg t).run P w= .ok (!bt0 u) w:=by
 cases u <;> simp[isAgg,run_underlying h,bt0]
theorem A0 {p:Addr} {u:TypeDesc} {v:Value} (hx:ρ x= .pointer (some p)) (hT:P.underlying T=some u) (hu:bt0 u=true) (hc:w.cell? p=some v) :
  (execOp ρ ⟨d,.load T x,ty,ps,af,g⟩).run P w= .ok (.value v) w:=by
 simp[execOp,Instr.loadAt,hx,Instr.sureAddr,loadVar,cg0 hT,hu,hc]
theorem D2 {b o:Nat} {u:TypeDesc} {cs:List Value} {s:Nat} (hx:ρ x= .pointer (some ⟨b,o,none⟩)) (hT:P.underlying T=some u) (hu:bt0 u=false) (hs:(P.info? T).map (·.size)=some s) (hl:cs.length=s)
  (hc:∀j v,cs[j]? =some v->w.cell? ⟨b,o+j,none⟩=some v) :
  (execOp ρ ⟨d,.load T x,ty,ps,af,g⟩).run P w= .ok (.value (.agg cs.toArray)) w:=by
 have h2:∀j,Addr.add ⟨b,o,none⟩ j=⟨b,o+j,none⟩:=fun j=>by
  unfold Addr.add;split
  ·rename_i h0;simp[]
  ·rfl
 have:=run_loadCells_list (P:=P) (w:=w) ⟨b,o,none⟩ cs (fun j v hj=>by rw[h2];exact hc j v hj);rw[hl]at this;simp[execOp,Instr.loadAt,hx,Instr.sureAddr,loadVar,cg0 hT,hu,run_sizeOf hs,this]
theorem oo0 {p:Addr} {v v0:Value} (hx:ρ x= .pointer (some p)) (hy:ρ y=v) (hs:(P.info? T).map (·.size)=some 1) (h1:v.oneCell'=true) (hc:w.cell? p=some v0) (hf:w.frozen? p=false) :
  (execOp ρ ⟨d,.store T x y,ty,ps,af,g⟩).run P w= .ok .skip (w.setCell p v):=by
 have hv:v.cells=#[v]:=by cases v <;> first|rfl|(simp[Value.oneCell']at h1)
 have ha:p.add 0=p:=by simp[Addr.add]
 simp[execOp,Instr.storeAt,hx,hy,Instr.sureAddr,storeVar,run_sizeOf hs,hv,storeCells,ha,run_store P w p v .plain h1,hc,hf]
theorem D9 {vs:Array Value} {i:Nat} {v:Value} (hx:ρ x= .tuple vs) (hv:vs[i]? =some v):(execOp ρ ⟨d,.extract x i,ty,ps,af,g⟩).run P w= .ok (.value v) w:=by
 simp[execOp,Instr.extract,hx,hv]
theorem cp0 {f:FuncId} {first cap args:Array Value} {fn:Func} {xs:Array Operand} {aT:Array TypeId} (hx:ρ x= .func (.func f) first cap) (ha:xs.map ρ=args) (hf:P.funcs[f]? =some fn) (hb:fn.body.isSome=true) (hn:(fn.name== "runtime.NumGoroutine")=false) :
  (execOp ρ ⟨d,.call ⟨.value x,xs,aT⟩,ty,ps,af,g⟩).run P w= .ok (.enter f (first++args++cap)) w:=by
 have p7:fn.body≠none:=by intro h;rw[h]at hb;cases hb
 simp at hn;simp[execOp,resolve,hx,Deferred.ofValue,invoke,callFunc,hf,hn,p7,ha]
theorem kx0 {f:FuncId} {fn:Func} {aT:Array TypeId} (hf:P.funcs[f]? =some fn) (hb:fn.body.isSome=true) (hn:(fn.name== "runtime.NumGoroutine")=false) (hx:ρ (.func f)= .func (.func f) #[] #[]) :
  (execOp ρ ⟨d,.call ⟨.value (.func f),#[],aT⟩,ty,ps,af,g⟩).run P w= .ok (.enter f #[]) w:=by
 rw[cp0 hx rfl hf hb hn];simp
theorem K2 {f:FuncId} {fn:Func} {aT:Array TypeId} {x0:Operand} {v0:Value} (h0:ρ x0=v0) (hf:P.funcs[f]? =some fn) (hb:fn.body.isSome=true) (hn:(fn.name== "runtime.NumGoroutine")=false) (hx:ρ (.func f)= .func (.func f) #[] #[]) :
  (execOp ρ ⟨d,.call ⟨.value (.func f),#[x0],aT⟩,ty,ps,af,g⟩).run P w= .ok (.enter f #[v0]) w:=by
 rw[cp0 hx rfl hf hb hn];simp[h0]
theorem P2 {f:FuncId} {fn:Func} {aT:Array TypeId} {x0 x1:Operand} {v0 v1:Value} (h0:ρ x0=v0) (h1:ρ x1=v1) (hf:P.funcs[f]? =some fn) (hb:fn.body.isSome=true) (hn:(fn.name== "runtime.NumGoroutine")=false) (hx:ρ (.func f)= .func (.func f) #[] #[]) :
  (execOp ρ ⟨d,.call ⟨.value (.func f),#[x0,x1],aT⟩,ty,ps,af,g⟩).run P w= .ok (.enter f #[v0,v1]) w:=by
 rw[cp0 hx rfl hf hb hn];simp[h0,h1]
theorem r6 {f:FuncId} {fn:Func} {aT:Array TypeId} {x0 x1 x2:Operand} {v0 v1 v2:Value} (h0:ρ x0=v0) (h1:ρ x1=v1) (h2:ρ x2=v2) (hf:P.funcs[f]? =some fn) (hb:fn.body.isSome=true) (hn:(fn.name== "runtime.NumGoroutine")=false) (hx:ρ (.func f)= .func (.func f) #[] #[]) :
  (execOp ρ ⟨d,.call ⟨.value (.func f),#[x0,x1,x2],aT⟩,ty,ps,af,g⟩).run P w= .ok (.enter f #[v0,v1,v2]) w:=by
 rw[cp0 hx rfl hf hb hn];simp[h0,h1,h2]
theorem fz0 {f:FuncId} {fn:Func} {aT:Array TypeId} {x0 x1 x2 x3:Operand} {v0 v1 v2 v3:Value} (h0:ρ x0=v0) (h1:ρ x1=v1) (h2:ρ x2=v2) (h3:ρ x3=v3) (hf:P.funcs[f]? =some fn) (hb:fn.body.isSome=true) (hn:(fn.name== "runtime.NumGoroutine")=false) (hx:ρ (.func f)= .func (.func f) #[] #[]) :
  (execOp ρ ⟨d,.call ⟨.value (.func f),#[x0,x1,x2,x3],aT⟩,ty,ps,af,g⟩).run P w= .ok (.enter f #[v0,v1,v2,v3]) w:=by
 rw[cp0 hx rfl hf hb hn];simp[h0,h1,h2,h3]
theorem V7 {f:FuncId} {fn:Func} {aT:Array TypeId} {x0 x1 x2 x3 x4:Operand} {v0 v1 v2 v3 v4:Value} (h0:ρ x0=v0) (h1:ρ x1=v1) (h2:ρ x2=v2) (h3:ρ x3=v3) (h4:ρ x4=v4) (hf:P.funcs[f]? =some fn) (hb:fn.body.isSome=true) (hn:(fn.name== "runtime.NumGoroutine")=false) (hx:ρ (.func f)= .func (.func f) #[] #[]) :
  (execOp ρ ⟨d,.call ⟨.value (.func f),#[x0,x1,x2,x3,x4],aT⟩,ty,ps,af,g⟩).run P w= .ok (.enter f #[v0,v1,v2,v3,v4]) w:=by
 rw[cp0 hx rfl hf hb hn];simp[h0,h1,h2,h3,h4]
theorem Mv0 {v:Value} (hx:ρ x=v):(execOp ρ ⟨d,.box T x,ty,ps,af,g⟩).run P w= .ok (.value (.pointer (some ⟨w.heap.size,0,none⟩))) (w.alloc (.cells v.cells T)):=by
 simp[execOp,Instr.box,newVar,newRow,hx]
theorem za0 {v:Value} (hz:(P.info? T).bind (·.zero)=some v):(execOp ρ ⟨d,.alloc T,ty,ps,af,g⟩).run P w= .ok (.value (.pointer (some ⟨w.heap.size,0,none⟩))) (w.alloc (.cells v.cells T)):=by
 simp[execOp,Instr.alloc,newVar,newRow,ay0 hz]
theorem jx0 {fn:Fn} {xs ys:Array Operand}:(execOp ρ ⟨d,.makeFunc fn xs ys,ty,ps,af,g⟩).run P w= .ok (.value (.func fn (xs.map ρ) (ys.map ρ))) w:=rfl
end
section
end
section
end
def bq0 (args:Array Value):Env:=fun t=>args.getD t undef
def ends (P:Program) (fn:Func) (R:Value->World->Prop):Exit->Env->World->Prop:=fun x e w=>
 (x= .normal\/x= .ret)/\∃v,(∀tmps:Array Value,(∀t,tmps.getD t undef=e t)->(results fn tmps).run P w= .ok v w)/\R v w
theorem rb {a b:Bool} (h:a=b):Value.bool a=Value.bool b:=by rw[h]
end Go.Vc
end
section
namespace Go.Vc
open Go Go.RowKit
def K0 (w:World) (b:Nat) (cs:Array Value) (T:TypeId):Prop:=w.heap[b]? =some (.cells cs T (0,0))
theorem K0.lt {w:World} {b:Nat} {cs:Array Value} {T:TypeId} (h:K0 w b cs T):b<w.heap.size:=(Array.getElem?_eq_some_iff.1 h).1
theorem K0.cell {w:World} {b o:Nat} {cs:Array Value} {T:TypeId} {v:Value} (h:K0 w b cs T) (hv:cs[o]? =some v):w.cell? ⟨b,o,none⟩=some v:=by
 unfold K0 at h;simp[World.cell?,h,hv]
theorem K0.frozen {w:World} {b o:Nat} {cs:Array Value} {T:TypeId} (h:K0 w b cs T):w.frozen? ⟨b,o,none⟩=false:=by
 unfold K0 at h;simp[World.frozen?,h]
theorem K0.set {w:World} {b o:Nat} {cs:Array Value} {T:TypeId} (h:K0 w b cs T) (v:Value):K0 (w.setCell ⟨b,o,none⟩ v) b (cs.setIfInBounds o v) T:=by
 unfold K0 at *;simp only[World.setCell,Array.getElem?_modify,h];simp
theorem K0.below {B:Nat} {w w':World} {b:Nat} {cs:Array Value} {T:TypeId} (h:K0 w b cs T) (hb:Below B w w') (J1:b<B):K0 w' b cs T:=(hb.block b J1).trans h
theorem K0.j0 {w w':World} {b:Nat} {cs:Array Value} {T:TypeId} (h:K0 w b cs T) (hb:Below w.heap.size w w'):K0 w' b cs T:=h.below hb h.lt
structure gw0 (w w1:World) (b:Nat) (cs:Array Value) (T:TypeId):Prop where
 here:b=w.heap.size
 below:Below w.heap.size w w1
 size:w1.heap.size=w.heap.size+1
 blk:K0 w1 b cs T
theorem gw0.lq {w w1:World} {b n:Nat} {cs:Array Value} {T:TypeId} (F:gw0 w w1 b cs T) (h:n <=w.heap.size):n <=b:=F.here▸h
theorem v7 (w:World) (cs:Array Value) (T:TypeId):gw0 w (w.alloc (.cells cs T)) w.heap.size cs T :=
 ⟨rfl,(Below.refl _ _).alloc (Nat.le_refl _) _,by simp,by unfold K0;show(w.heap.push _)[_]? =_;simp⟩
section
variable {P:Program}{w:World}
variable {T:TypeId}
def setRow (cs:Array Value) (o:Nat):List Value->Array Value
 | []=>cs
 |v::vs=>setRow (cs.setIfInBounds o v) (o+1) vs
def D6 (w:World) (b:Nat) (cs:Array Value) (T:TypeId):World:={w with heap:=w.heap.setIfInBounds b (.cells cs T (0,0))}
theorem nr0 (w:World) (b:Nat) (cs:Array Value) (T:TypeId):(D6 w b cs T).heap.size=w.heap.size:=by simp[D6]
theorem il0 {w:World} {b:Nat} (cs k7:Array Value) (T:TypeId) (h:K0 w b cs T):K0 (D6 w b k7 T) b k7 T:=by
 have:=h.lt;simp[K0,D6,this]
theorem zb0 {w:World} {b k:Nat} (k7:Array Value) (T:TypeId) (h:k≠b):(D6 w b k7 T).heap[k]? =w.heap[k]?:=by
 simp only[D6];rw[Array.getElem?_setIfInBounds_ne (Ne.symm h)]
theorem pn0 {w:World} {b o:Nat} {cs:Array Value} {T:TypeId} (h:K0 w b cs T) (v:Value):w.setCell ⟨b,o,none⟩ v=D6 w b (cs.setIfInBounds o v) T:=by
 have hl:=h.lt;have hg:w.heap[b]= .cells cs T (0,0):=by have:=h;unfold K0 at this;rw[Array.getElem?_eq_getElem hl]at this;exact Option.some.inj this
 simp only[World.setCell,Vc.D6];congr 1;apply Array.ext_getElem?;intro i;by_cases hi:i=b
 ·subst hi;rw[Array.getElem?_modify,if_pos rfl,Array.getElem?_eq_getElem hl,hg];simp[hl]
 ·rw[Array.getElem?_modify,Array.getElem?_setIfInBounds_ne (Ne.symm hi),if_neg (Ne.symm hi)]
theorem sm0 (w:World) (b:Nat) (cs k7:Array Value) (T:TypeId):D6 (D6 w b cs T) b k7 T=D6 w b k7 T:=by
 simp[D6]
theorem Bj0 {w:World} {b:Nat} {cs:Array Value} {T:TypeId} (h:K0 w b cs T):D6 w b cs T=w:=by
 have hl:=h.lt;have hg:w.heap[b]= .cells cs T (0,0):=by have:=h;unfold K0 at this;rw[Array.getElem?_eq_getElem hl]at this;exact Option.some.inj this
 have:w.heap.setIfInBounds b (.cells cs T (0,0))=w.heap:=by
  apply Array.ext_getElem?;intro i;by_cases hi:i=b
  ·subst hi;simp[hl,hg]
  ·rw[Array.getElem?_setIfInBounds_ne (Ne.symm hi)]
 simp only[D6,this]
theorem m9 (b:Nat) (T:TypeId):∀(vs:List Value) (o i:Nat) (cs:Array Value) (w:World),K0 w b cs T->o+i+vs.length <=cs.size->(∀v∈vs,v.oneCell'=true) ->
  (storeCells ⟨b,o,none⟩ vs i).run P w= .ok () (D6 w b (setRow cs (o+i) vs) T)
 | [],o,i,cs,w,h,_,_=>by simp[storeCells,setRow,Bj0 h]
 |v::vs,o,i,cs,w,h,hl,h1=>by
  have ha:Addr.add ⟨b,o,none⟩ i=⟨b,o+i,none⟩:=by
   unfold Addr.add;split
   ·rename_i h0;simp[]
   ·rfl
  have J1:o+i<cs.size:=by simp only[List.length_cons]at hl;omega
  have hc:=h.cell (Array.getElem?_eq_getElem J1);have ih:=m9 b T vs o (i+1) (cs.setIfInBounds (o+i) v) (D6 w b (cs.setIfInBounds (o+i) v) T) (il0 cs _ T h) (by simp only[List.length_cons]at hl;simp;omega) (fun u hu=>h1 u (List.mem_cons_of_mem _ hu));rw[sm0]at ih;simp only[storeCells,Sem.run_bind,ha,run_store P w _ v .plain (h1 v List.mem_cons_self),hc,h.frozen,Bool.false_eq_true,if_false,Result.andThen_ok,pn0 h v];rw[ih];rfl
end
section
end
def ab (a:Option Addr):Nat:=(a.map (·.block)).getD 0
def ao (a:Option Addr):Nat:=(a.map (·.off)).getD 0
def SL (a:Option Addr) (n:Nat):Prop:=0<n->a=some ⟨ab a,ao a,none⟩
theorem SL.zero (a:Option Addr):SL a 0:=fun h=>by omega
section
variable {P:Program}{ρ:Operand->Value}{w:World}{d:Option Nat}{ty:TypeId}{ps:String}{af:Array Edge}{g:Option (Nat×Bool)}{x y:Operand}{T E:TypeId}
theorem S5 {a:Option Addr} {n c s:Nat} {i:Nat} (hx:ρ x= .slice a n c) (hy:ρ y= .int .i64 (i:Int)) (hT:P.underlying T=some (.slice E)) (hs:(P.info? E).map (·.size)=some s) (hS:SL a n) (h:i<n) :
  (execOp ρ ⟨d,.indexAddr T x y,ty,ps,af,g⟩).run P w= .ok (.value (.pointer (some ⟨ab a,ao a+i*s,none⟩))) w:=by
 have h0:=hS (by omega);rw[h0]at hx;exact az0 hx hy hT hs h
end
section
variable {next:Env->World->Prop}{Q:Exit->Env->World->Prop}{e:Env}{w:World}{id:Nat}
theorem T.nrm (h:next e w):dq0 next Q .normal e w:=h
theorem T.ret (h:Q .ret e w):dq0 next Q .ret e w:=h
theorem T.exit (h:Q (.exit id) e w):dq0 next Q (.exit id) e w:=h
theorem B.nrm (h:Q .normal e w):co0 id Q .normal e w:=h
theorem B.ret (h:Q .ret e w):co0 id Q .ret e w:=h
theorem B.bq1 (h:Q .normal e w):co0 id Q (.exit id) e w:=by simp only[co0,if_true];exact h
end
theorem vz0 {p:Prop} [Decidable p] {q:Prop} [Decidable (p/\q)] (h:decide p=false):false=decide (p/\q):=(decide_eq_false (fun h'=>of_decide_eq_false h h'.1)).symm
theorem wa0 {p:Prop} [Decidable p] {q:Prop} [Decidable q] [Decidable (p/\q)] (h:decide p=true):decide q=decide (p/\q):=decide_eq_decide.2 ⟨fun h'=>⟨of_decide_eq_true h,h'⟩,fun h'=>h'.2⟩
theorem G0 {w0 w w':World} (h:Below w0.heap.size w0 w) (h':Below w.heap.size w w'):Below w0.heap.size w0 w':=h.trans (h'.mono h.size)
def Own (w:World) (B:Nat) (E:TypeId) (s:Nat) (a:Option Addr) (n c:Nat) (xs:List Value):Prop:=w.ownsRow B E s (.slice a n c) n xs
section
variable {w w':World}{B:Nat}{E:TypeId}{s:Nat}{a:Option Addr}{n c:Nat}{xs:List Value}
theorem Own.nil (w:World) (B:Nat) (E:TypeId) (s:Nat):Own w B E s none 0 0 []:=World.ownsRow_nil w B E s
theorem Own.length (h:Own w B E s a n c xs):xs.length=n*s:=h.1
theorem Own.sl (h:Own w B E s a n c xs):SL a n:=fun hn=>by
 rcases h.2 with⟨_,h0⟩|⟨g,cap,cur,hv,_⟩
 ·omega
 ·cases hv;rfl
theorem Own.off (h:Own w B E s a n c xs):ao a=0:=by
 rcases h.2 with⟨hv,h0⟩|⟨g,cap,cur,hv,_⟩ <;> cases hv <;> rfl
theorem Own.row (h:Own w B E s a n c xs) (ha:a≠none):∃cur,K0 w (ab a) cur E/\B <=ab a/\n <=c/\c <=maxLen/\cur.size=c*s/\cur.toList.take (n*s)=xs:=by
 rcases h.2 with⟨hv,h0⟩|⟨g,cap,cur,hv,hb,hg,hn,hm,hs,ht⟩
 ·cases hv;exact absurd rfl ha
 ·cases hv;exact⟨cur,hg,hb,hn,hm,hs,ht⟩
theorem Own.ga0 (h:Own w B E s a n c xs) (hn:0<n):a≠none:=by rw[h.sl hn];simp
theorem Own.cell (h:Own w B E s a n c xs) {j:Nat} {v:Value} (hj:xs[j]? =some v):w.cell? ⟨ab a,j,none⟩=some v:=by
 have J1:j<xs.length:=(List.getElem?_eq_some_iff.1 hj).1;have hn:0<n:=by
  rcases Nat.eq_zero_or_pos n with h0|h0
  ·subst h0;rw[h.length]at J1;omega
  ·exact h0
 obtain⟨cur,hB,_,_,_,_,ht⟩:=h.row (h.ga0 hn);refine hB.cell ?_;rw[<- ht]at hj;rw[List.getElem?_take]at hj;split at hj
 ·simpa using hj
 ·cases hj
theorem Own.lt (h:Own w B E s a n c xs) (ha:a≠none):ab a<w.heap.size:=(h.row ha).choose_spec.1.lt
theorem Own.grown (h:Own w B E s a n c xs) {row:Option Nat} (hg:w.grownBy w' row) (N3:some (ab a)≠row):Own w' B E s a n c xs:=by
 refine World.ownsRow.kept h hg ?_;cases a with
 |none=>exact .inl rfl
 |some x=>exact .inr N3
theorem mf0 (hb:Below w.heap.size w w'):w.grownBy w' none:=⟨hb.os,hb.tape,hb.output,hb.size,fun k hk _=>hb.block k hk⟩
theorem Own.j0 (h:Own w B E s a n c xs) (hb:Below w.heap.size w w'):Own w' B E s a n c xs:=h.grown (mf0 hb) (by simp)
theorem K0.grown {b:Nat} {cs:Array Value} {T:TypeId} (h:K0 w b cs T) {row:Option Nat} (hg:w.grownBy w' row) (N3:some b≠row):K0 w' b cs T:=(hg.block b h.lt N3).trans h
theorem K0.ne {b b':Nat} {cs k7:Array Value} {T T':TypeId} (h:K0 w b cs T) (h':K0 w b' k7 T') (hT:T≠T'):b≠b':=by
 intro hb;subst hb;unfold K0 at h h';rw[h]at h';exact hT (by cases h';rfl)
end
theorem jr0 (z:Value) (s:Nat) (hs:0<s) (n:Nat):madeCells (Array.replicate s z) n=Array.replicate n z:=by
 apply Array.ext
 ·simp[madeCells]
 ·intro i h1 h2;have:i%s<s:=Nat.mod_lt _ hs;simp[madeCells,this]
section
theorem Mw0 (vs:List Value):∀(k:Nat) (cs:Array Value),cs.size=k+vs.length->(vs.zipIdx k).foldl (fun cs (cj:Value×Nat)=>cs.setIfInBounds (0+cj.2) cj.1) cs=(cs.toList.take k++vs).toArray:=by
 induction vs with
 |nil=>
  intro k cs h;have h':cs.size=k:=by simpa using h
  rw[List.append_nil,List.take_of_length_le (by simp[h'])];simp
 |cons v vs ih=>
  intro k cs h;simp only[List.zipIdx_cons,List.foldl_cons,Nat.zero_add];have:=ih (k+1) (cs.setIfInBounds k v) (by simp[h];omega);simp only[Nat.zero_add]at this;rw[this];congr 1;have hk:k<cs.size:=by simp at h;omega
  rw[Array.toList_setIfInBounds,List.take_succ_eq_append_getElem (by simpa using hk)];simp[List.take_set_of_le]
end
section
end
section
variable {P:Program}{ρ:Operand->Value}{w:World}{d:Option Nat}{ty:TypeId}{ps:String}{af:Array Edge}{g:Option (Nat×Bool)}{x y:Operand}{T E:TypeId}
theorem mg0 {a:Option Addr} {n c k s:Nat} (hx:ρ x= .slice a n c) (hy:ρ y= .int .i64 (k:Int)) (hT:P.underlying T=some (.slice E)) (hs:(P.info? E).map (·.size)=some s) (hk:k <=c) :
  (execOp ρ ⟨d,.slice T x none (some y) none,ty,ps,af,g⟩).run P w= .ok (.value (.slice a k c)) w:=by
 have h0:∀q:Addr,q.add 0=q:=fun q=>by simp[Addr.add]
 have h1:a.map (fun q=>q.add 0)=a:=by cases a <;> simp[h0]
 have h2:(0:Int) <=(k:Int)/\(k:Int) <=(c:Int):=by omega
 simp[execOp,Instr.sliceAt,Instr.slice,Instr.sliceBounds,Instr.sliceBound,hx,hy,asIntOf,run_underlying hT,run_sizeOf hs,h2,hk];intro _;exact h1
theorem G2 {parts:List (Nat×Operand)} {vs:List (Nat×Value)} {cells:Array Value} (hv:parts.map (fun(i,y)=>(i,ρ y))=vs) (hb:P.built T vs=some cells) :
  (execOp ρ ⟨d,.build T parts.toArray,ty,ps,af,g⟩).run P w= .ok (.value (.agg cells)) w:=by
 subst hv;have:=run_build (P:=P) w T (parts.map (fun(i,y)=>(i,ρ y))).toArray cells (by simpa using hb);simp only[execOp,List.map_toArray,Sem.run_bind,this,Result.andThen_ok,Sem.run_pure]
theorem op0 {a:Option Addr} {n c:Nat} (hx:ρ x= .slice a n c) (hy:ρ y= .slice none 0 0) (hT:P.underlying T=some (.slice E)) :
  (execOp ρ ⟨d,.binOp .eql T x y T,ty,ps,af,g⟩).run P w= .ok (.value (.bool a.isNone)) w:=by
 have h1:(Op.equalIn 10000 T (.slice a n c) (.slice none 0 0)).run P w= .ok a.isNone w:=by
  rw[show(10000:Nat)=9999+1 from rfl,Op.equalIn];cases a <;> simp[run_underlying hT]
 simp only[execOp,hx,hy,eqGuard_at_slice,binOp,Op.equal,Op.maxDepth,pure_bind,Sem.run_bind,h1,Result.andThen_ok,Sem.run_pure]
end
def arr (n:Nat) (f:Nat->Value):Array Value:=((List.range n).map f).toArray
theorem T5 (n:Nat) (f:Nat->Value):(arr n f).size=n:=by simp[arr]
theorem gb0 {n:Nat} {f:Nat->Value} {i:Nat} (h:i<n):(arr n f)[i]? =some (f i):=by simp[arr,h]
theorem Jp0 {n:Nat} {f g:Nat->Value} (h:∀i,i<n->f i=g i):arr n f=arr n g:=by
 unfold arr;congr 1;exact List.map_congr_left (fun i hi=>h i (List.mem_range.1 hi))
theorem Mx0 (n:Nat) (f:Nat->Value):(List.range (n+1)).map f=(List.range n).map f ++ [f n]:=by simp[List.range_succ]
theorem js0 (w:World) (p:Addr) (v:Value):w.grownBy (w.setCell p v) (some p.block) :=
 ⟨rfl,rfl,rfl,by simp[World.setCell],fun k _ hk=>Below.heap_setCell _ _ _ _ (fun h=>hk (by rw[h]))⟩
def upf {α:Type} (f:Nat->α) (i:Nat) (v:α):Nat->α:=fun k=>if k=i then v else f k
theorem po0 (o:Nat):∀(vs:List Value) (cs:Array Value) (j:Nat),o+vs.length <=cs.size->(setRow cs o vs)[j]? =if o <=j/\j<o+vs.length then vs[j-o]? else cs[j]?:=by
 intro vs
 induction vs generalizing o with
 |nil=>intro cs j h;rw[if_neg (by simp only[List.length_nil];omega)];rfl
 |cons v vs ih=>
  intro cs j h;simp only[List.length_cons]at h;show(setRow (cs.setIfInBounds o v) (o+1) vs)[j]? =_;rw[ih (o+1) _ j (by simp;omega)];by_cases hj:j=o
  ·subst hj;rw[if_neg (by omega),if_pos (by simp only[List.length_cons];omega),Nat.sub_self,Array.getElem?_setIfInBounds_self_of_lt (by omega)];rfl
  ·by_cases hj2:o+1 <=j/\j<o+1+vs.length
   ·rw[if_pos hj2,if_pos (by simp only[List.length_cons];omega),show j-o=(j-(o+1))+1 by omega,List.getElem?_cons_succ]
   ·rw[if_neg hj2,if_neg (by simp only[List.length_cons];omega),Array.getElem?_setIfInBounds_ne (by omega)]
theorem Es0 {N o m:Nat} {F g:Nat->Value} (h:o+m <=N):setRow (arr N F) o (arr m g).toList=arr N (fun x=>if o <=x/\x<o+m then g (x-o) else F x):=by
 have hm:(arr m g).toList.length=m:=by simp[arr]
 apply Array.ext_getElem?;intro j;rw[po0 _ _ _ _ (by rw[hm,T5];exact h),hm];by_cases hj:j<N
 ·rw[gb0 hj];rw[gb0 hj];split
  ·rename_i hc;rw[Array.getElem?_toList,gb0 (by omega)]
  ·rfl
 ·rw[Array.getElem?_eq_none (by rw[T5];omega),if_neg (by omega),Array.getElem?_eq_none (by rw[T5];omega)]
theorem K0.row {w:World} {b N o m:Nat} {F:Nat->Value} {T:TypeId} (h:K0 w b (arr N F) T) (ho:o+m <=N):∀(j:Nat) (v:Value),(arr m fun k=>F (o+k)).toList[j]? =some v->w.cell? ⟨b,o+j,none⟩=some v:=by
 intro j v hj;rw[Array.getElem?_toList]at hj;have hjm:j<m:=by have:=(Array.getElem?_eq_some_iff.1 hj).1;rw[T5]at this;exact this
 rw[gb0 hjm]at hj;cases hj;exact h.cell (gb0 (by omega))
section
end
def Z8 (l:List Oper):Nat->List Nat->List Nat
 |0,S=>S
 |k+1,S=>match l[k]? with
  |some o=>if S.contains k then Z8 l k (S++(o.after.toList.filter (fun x=>Region.binds .any x)).map (·.on)) else Z8 l k S
  |none=>Z8 l k S
theorem y8 {l:List Oper} {V:(Nat->Bool)->Prop} (hV:∀D,V D->∀i o,l[i]? =some o->D i=true->B6 o D) {D:Nat->Bool} (hD:V D) :
  ∀k S,(∀i∈S,D i=true)->∀i∈Z8 l k S,D i=true
 |0,S,hS,i,hi=>hS i hi
 |k+1,S,hS,i,hi=>by
  unfold Z8 at hi;cases ho:l[k]? with
  |none=>rw[ho]at hi;exact y8 hV hD k S hS i hi
  |some o=>
   rw[ho]at hi;simp only at hi;split at hi
   ·rename_i hk;refine y8 hV hD k _ (fun j hj=>?_) i hi;rw[List.mem_append]at hj;rcases hj with hj|hj
    ·exact hS j hj
    ·obtain⟨x,hx,rfl⟩:=List.mem_map.1 hj;rw[List.mem_filter]at hx;exact hV D hD k o ho (hS k (by simpa using hk)) x (by simpa using hx.1) hx.2
   ·exact y8 hV hD k S hS i hi
section
variable {w0 w w':World}
theorem gc0 (w:World) (r:Option Nat):w.grownBy w r:=⟨rfl,rfl,rfl,Nat.le_refl _,fun _ _ _=>rfl⟩
theorem Hq0 {r:Option Nat} (hg:w0.grownBy w r) (hb:Below w.heap.size w w'):w0.grownBy w' r :=
 ⟨hb.os.trans hg.os,hb.tape.trans hg.tape,hb.output.trans hg.output,Nat.le_trans hg.size hb.size,fun k hk hr=>(hb.block k (Nat.lt_of_lt_of_le hk hg.size)).trans (hg.block k hk hr)⟩
theorem My0 {r:Option Nat} (hg:w0.grownBy w r) {b:Nat} (hb:some b=r\/w0.heap.size <=b) (cs:Array Value) (T:TypeId):w0.grownBy (D6 w b cs T) r :=
 ⟨hg.os,hg.tape,hg.output,by rw[nr0];exact hg.size,fun k hk hr=>by
  rw[zb0 _ _ (by rintro rfl;rcases hb with hb|hb;exact hr hb;omega)];exact hg.block k hk hr⟩
theorem im0 {r:Option Nat} (hg:w0.grownBy w r) (hb:w.grownBy w' r):w0.grownBy w' r :=
 ⟨hb.os.trans hg.os,hb.tape.trans hg.tape,hb.output.trans hg.output,Nat.le_trans hg.size hb.size,fun k hk hr=>(hb.block k (Nat.lt_of_lt_of_le hk hg.size) hr).trans (hg.block k hk hr)⟩
theorem M4 {B b:Nat} (hg:Below B w0 w) (hs:B <=w.heap.size) (hb:w.grownBy w' (some b)) (hB:B <=b):Below B w0 w' :=
 ⟨hb.os.trans hg.os,hb.tape.trans hg.tape,hb.output.trans hg.output,Nat.le_trans hg.size hb.size,fun k hk=>(hb.block k (by omega) (by simp;omega)).trans (hg.block k hk)⟩
end
section
variable {P:Program}{T:TypeId}{ρ:Operand->Value}{w:World}{d:Option Nat}{ty:TypeId}{ps:String}{af:Array Edge}{g:Option (Nat×Bool)}{x y:Operand}
theorem E1 {p:Addr} (hx:ρ x= .pointer (some p)):(execOp ρ ⟨d,.nilCheck x,ty,ps,af,g⟩).run P w= .ok (.value (.pointer (some p))) w:=by
 simp[execOp,hx]
theorem Q8 {E T:TypeId} {b o n s i:Nat} (hx:ρ x= .pointer (some ⟨b,o,none⟩)) (hy:ρ y= .int .i64 (i:Int)) (hT:P.underlying T=some (.array n E)) (hs:(P.info? E).map (·.size)=some s) (h:i<n) :
  (execOp ρ ⟨d,.indexAddr T x y,ty,ps,af,g⟩).run P w= .ok (.value (.pointer (some ⟨b,o+i*s,none⟩))) w :=
 Er0 hx hy hT hs (by omega) (by omega)
theorem c5 {q:Option Addr} {E T':TypeId} (hx:ρ x= .pointer q) (hy:ρ y= .pointer none) (hT:P.underlying T=some (.pointer E)) :
  (execOp ρ ⟨d,.binOp .eql T x y T',ty,ps,af,g⟩).run P w= .ok (.value (.bool q.isNone)) w:=by
 have h1:(Op.equalIn 10000 T (.pointer q) (.pointer none)).run P w= .ok q.isNone w:=by
  rw[show(10000:Nat)=9999+1 from rfl,Op.equalIn];cases q <;> simp[run_underlying hT]
 have h2:(eqGuard .eql T x y (.pointer q) (.pointer none)).run P w= .ok () w:=by cases q <;> simp[eqGuard]
 have h3:(binOp .eql T (.pointer q) (.pointer none)).run P w= .ok (.bool q.isNone) w:=by
  simp only[binOp,Op.equal,Op.maxDepth,Sem.run_bind,h1,Result.andThen_ok,Sem.run_pure]
 simp only[execOp,hx,hy,Sem.run_bind,h2,h3,Result.andThen_ok,Sem.run_pure]
end
theorem Et0 {cs:Array Value} {vs:List Value} (h:cs.size=vs.length):setRow cs 0 vs=vs.toArray:=by
 apply Array.ext_getElem?;intro j;rw[po0 _ _ _ _ (by omega)];by_cases hj:j<vs.length
 ·rw[if_pos (by omega)];simp
 ·rw[if_neg (by omega),Array.getElem?_eq_none (by omega)];simp;omega
section
end
theorem Own.oq0 {w:World} {B:Nat} {E:TypeId} {s:Nat} {a:Option Addr} {n c:Nat} {xs:List Value} (h:Own w B E s a n c xs) (ha:a≠none):∃r,a=some ⟨r,0,none⟩:=by
 rcases h.2 with⟨hv,h0⟩|⟨g,cap,cur,hv,_⟩
 ·cases hv;exact absurd rfl ha
 ·cases hv;exact⟨g,rfl⟩
section
variable {ops:Array Oper}{V:(Nat->Bool)->Prop}{n:Nat}
theorem Eu0 (h:Ord n ops):∀{listed:Array Bool} {σ:List Nat},Lin ops listed σ->∀(m:Nat),m <=ops.size->listed.size=ops.size->(∀j,j<m->listed.getD j false=true)->(∀j,m <=j->listed.getD j false=false) ->
  (∀D,V D->∀i,m <=i->i<ops.size->D i=true->∀j,j<i->D j=true)->(∀τ ρ,σ=τ++ρ->V (fun j=>listed.getD j false ||τ.contains j))->σ=List.range' m (ops.size-m):=by
 intro listed σ H5
 induction H5 with
 | @nil listed hr=>
  intro m hms hs h1 h2 _ _;have:ops.size <=m:=by
   rcases Nat.lt_or_ge m ops.size with h3|h3
   ·have:=ix0 h hs hr m h3;rw[h2 m (Nat.le_refl _)]at this;cases this
   ·exact h3
  rw[show ops.size-m=0 by omega];rfl
 | @cons listed i σ hi hl ih=>
  intro m hms hs h1 h2 de0 hV;obtain⟨hli,o,ho,C6⟩:=mem_ready.1 hi;have hio:i<ops.size:=(Array.getElem?_eq_some_iff.1 ho).1;have M7:i<listed.size:=by omega
  have hDi:listed.getD i false=false:=by
   simp only[Array.getD_eq_getD_getElem?,M7,Array.getElem?_eq_getElem,Option.getD_some]at hli⊢;exact hli
  have hmi:m <=i:=by
   rcases Nat.lt_or_ge i m with h3|h3
   ·rw[h1 i h3]at hDi;cases hDi
   ·exact h3
  have hVi:=hV [i] σ rfl;have him:i=m:=by
   rcases Nat.lt_or_ge m i with h3|h3
   ·have:=de0 _ hVi i hmi hio (by simp) m h3;simp only[h2 m (Nat.le_refl _),Bool.false_or]at this;simp at this;omega
   ·omega
  subst him;rw[show ops.size-i=(ops.size-(i+1))+1 by omega,List.range'_succ];congr 1;refine ih (i+1) (by omega) (by simp[hs]) (fun j hj=>?_) (fun j hj=>?_) (fun D hD j hj=>de0 D hD j (by omega)) (fun τ ρ hσ=>?_)
  ·by_cases O3:i=j
   ·subst O3;simp[M7]
   ·rw[getD_set_ne false O3];exact h1 j (by omega)
  ·rw[getD_set_ne false (by omega)];exact h2 j (by omega)
  ·have:=hV (i::τ) ρ (by rw[hσ];rfl);have e1:(fun j=>listed.getD j false ||(i::τ).contains j)=fun j=>(listed.setIfInBounds i true).getD j false ||τ.contains j:=by
    funext j;by_cases hj:i=j
    ·subst hj;simp[M7]
    ·rw[getD_set_ne false hj];simp[Ne.symm hj]
   rw[e1]at this;exact this
def pp0 (l:List Oper) (k:Nat):Bool:=(List.range l.length).all fun i=>Nat.blt i k ||(List.range i).all fun j=>(Z8 l l.length [i]).contains j
theorem pq0 {l:List Oper} {k:Nat} (h:pp0 l k=true) {V:(Nat->Bool)->Prop} (hV:∀D,V D->∀i o,l[i]? =some o->D i=true->B6 o D) {D:Nat->Bool} (hD:V D):∀i,k <=i->i<l.length->D i=true->∀j,j<i->D j=true:=by
 intro i hki M7 hDi j hj;unfold pp0 at h;have h1:=List.all_eq_true.1 h i (List.mem_range.2 M7);have h2:Nat.blt i k=false:=by
  cases hb:Nat.blt i k with
  |false=>rfl
  |true=>rw[Nat.blt_eq]at hb;omega
 rw[h2,Bool.false_or]at h1;have h3:=List.all_eq_true.1 h1 j (List.mem_range.2 hj);exact y8 hV hD l.length [i] (fun x hx=>by simp at hx;rw[hx];exact hDi) j (List.contains_iff_mem.1 h3)
end
section
variable {P:Program}{ρ:Operand->Value}{w:World}{d:Option Nat}{ty:TypeId}{ps:String}{af:Array Edge}{g:Option (Nat×Bool)}
variable {x y:Operand}{T T' E:TypeId}
theorem m8 {q:Option Addr} (hx:ρ x= .pointer q) (hy:ρ y= .pointer none) (hT:P.underlying T=some (.pointer E)) :
  (execOp ρ ⟨d,.binOp .neq T x y T',ty,ps,af,g⟩).run P w= .ok (.value (.bool q.isSome)) w:=by
 have h1:(Op.equalIn 10000 T (.pointer q) (.pointer none)).run P w= .ok q.isNone w:=by
  rw[show(10000:Nat)=9999+1 from rfl,Op.equalIn];cases q <;> simp[run_underlying hT]
 have h2:(eqGuard .neq T x y (.pointer q) (.pointer none)).run P w= .ok () w:=by cases q <;> simp[eqGuard]
 simp only[execOp,hx,hy,Sem.run_bind,h2,binOp,Op.equal,Op.maxDepth,h1,Result.andThen_ok,Sem.run_pure];cases q <;> rfl
theorem ch0 {v:Value} {b:Bool} {u:TypeDesc} (hx:ρ x=v) (hv:(v= .nilFunc/\b=true)\/(∃f xs ys,v= .func f xs ys/\b=false)) (hy:ρ y= .nilFunc) (hT:P.underlying T=some u) (hu:∃a b c,u= .func a b c) :
  (execOp ρ ⟨d,.binOp .eql T x y T',ty,ps,af,g⟩).run P w= .ok (.value (.bool b)) w:=by
 obtain⟨a1,b1,c1,rfl⟩:=hu;have h1:(Op.equalIn 10000 T v .nilFunc).run P w= .ok b w:=by
  rw[show(10000:Nat)=9999+1 from rfl,Op.equalIn];rcases hv with⟨rfl,rfl⟩|⟨f,xs,ys,rfl,rfl⟩ <;> simp[run_underlying hT]
 have h2:(eqGuard .eql T x y v .nilFunc).run P w= .ok () w:=by
  rcases hv with⟨rfl,rfl⟩|⟨f,xs,ys,rfl,rfl⟩ <;> simp[eqGuard]
 simp only[execOp,hx,hy,Sem.run_bind,h2,binOp,Op.equal,Op.maxDepth,h1,Result.andThen_ok,Sem.run_pure]
theorem cq0 {v:Value} {b:Bool} {u:TypeDesc} (hx:ρ x=v) (hv:(v= .nilFunc/\b=false)\/(∃f xs ys,v= .func f xs ys/\b=true)) (hy:ρ y= .nilFunc) (hT:P.underlying T=some u) (hu:∃a b c,u= .func a b c) :
  (execOp ρ ⟨d,.binOp .neq T x y T',ty,ps,af,g⟩).run P w= .ok (.value (.bool b)) w:=by
 obtain⟨a1,b1,c1,rfl⟩:=hu;have h1:(Op.equalIn 10000 T v .nilFunc).run P w= .ok (!b) w:=by
  rw[show(10000:Nat)=9999+1 from rfl,Op.equalIn];rcases hv with⟨rfl,rfl⟩|⟨f,xs,ys,rfl,rfl⟩ <;> simp[run_underlying hT]
 have h2:(eqGuard .neq T x y v .nilFunc).run P w= .ok () w:=by
  rcases hv with⟨rfl,rfl⟩|⟨f,xs,ys,rfl,rfl⟩ <;> simp[eqGuard]
 simp only[execOp,hx,hy,Sem.run_bind,h2,binOp,Op.equal,Op.maxDepth,h1,Result.andThen_ok,Sem.run_pure];cases b <;> rfl
theorem in0 {f:FuncId} {fn:Func} {aT:Array TypeId} {ys:Array Value} (hx:ρ x= .func (.func f) #[] ys) (hf:P.funcs[f]? =some fn) (hb:fn.body.isSome=true) (hn:(fn.name== "runtime.NumGoroutine")=false) :
  (execOp ρ ⟨d,.call ⟨.value x,#[],aT⟩,ty,ps,af,g⟩).run P w= .ok (.enter f ys) w:=by
 rw[cp0 hx rfl hf hb hn];simp
end
end Go.Vc
end
section
namespace Go.Vc
open Go Go.RowKit
structure N4 (w w':World) (B:Nat) (TS:List TypeId):Prop where
 os:w'.os=w.os
 tape:w'.tape=w.tape
 output:w'.output=w.output
 size:w.heap.size <=w'.heap.size
 low:∀k,k<B->w'.heap[k]? =w.heap[k]?
 stay:∀k cs T,K0 w k cs T->TS.contains T=false->K0 w' k cs T
section
variable {w0 w w':World}{B:Nat}{TS:List TypeId}
theorem N4.trans (h:N4 w0 w B TS) (h':N4 w w' B TS):N4 w0 w' B TS :=
 ⟨h'.os.trans h.os,h'.tape.trans h.tape,h'.output.trans h.output,Nat.le_trans h.size h'.size,fun k hk=>(h'.low k hk).trans (h.low k hk),fun k cs T hb hT=>h'.stay k cs T (h.stay k cs T hb hT) hT⟩
theorem N4.put {b:Nat} {cs:Array Value} {T:TypeId} (hB:K0 w b cs T) (hg:w.grownBy w' (some b)) (hb:B <=b) (hT:TS.contains T=true):N4 w w' B TS :=
 ⟨hg.os,hg.tape,hg.output,hg.size,fun k hk=>by
  rcases Nat.lt_or_ge k w.heap.size with h1|h1
  ·exact hg.block k h1 (by simp;omega)
  ·have:=hB.lt;omega,fun k k7 T' h' hT'=>h'.grown hg (by
  intro hk;simp only[Option.some.injEq]at hk;subst hk;have:T'=T:=by
   unfold K0 at hB h';rw[hB]at h';cases h';rfl
  subst this;rw[hT]at hT';cases hT')⟩
theorem K0.mod {b:Nat} {cs:Array Value} {T:TypeId} (h:K0 w b cs T) (hm:N4 w w' B TS) (hT:TS.contains T=false):K0 w' b cs T:=hm.stay b cs T h hT
theorem Own.mod {B' s n c:Nat} {E:TypeId} {a:Option Addr} {xs:List Value} (h:Own w B' E s a n c xs) (hm:N4 w w' B TS) (hT:TS.contains E=false):Own w' B' E s a n c xs:=by
 refine⟨h.1,?_⟩;rcases h.2 with h1|⟨g,cap,cur,hv,hbg,hg,hr⟩
 ·exact .inl h1
 ·exact .inr ⟨g,cap,cur,hv,hbg,hm.stay g cur E hg hT,hr⟩
theorem N4.app {B' s k c n' c':Nat} {E:TypeId} {a a':Option Addr} {xs xs':List Value} (h:Own w B' E s a k c xs) (hg:w.grownBy w' (Value.ownBlock (.slice a k c))) (G1:Below B w w') (hT:TS.contains E=true) (_h':Own w' B' E s a' n' c' xs'):N4 w w' B TS:=by
 refine⟨hg.os,hg.tape,hg.output,hg.size,G1.block,fun j cs T hj hT'=>?_⟩;refine hj.grown hg ?_;cases a with
 |none=>simp[Value.ownBlock]
 |some q=>
  intro hjq;simp only[Value.ownBlock,Option.some.injEq]at hjq;obtain⟨cur,hc,-⟩:=h.row (by simp);subst hjq;have:T=E:=by
   unfold K0 at hj hc;simp only[ab,Option.map_some,Option.getD_some]at hc;rw[hj]at hc;cases hc;rfl
  subst this;rw[hT]at hT';cases hT'
end
theorem K0.q0 {w:World} {b:Nat} {cs:Array Value} {T:TypeId} (h:K0 w b cs T) (o:Nat) {v:Value} (hv:cs[o]? =some v):w.cell? ⟨b,o,none⟩=some v:=h.cell hv
theorem K0.T6 {w:World} {b:Nat} {cs:Array Value} {T:TypeId} (h:K0 w b cs T) {o:Nat} {l:List Value} (hl:(cs.toList.drop o).take l.length=l):∀(j:Nat) (v:Value),l[j]? =some v->w.cell? ⟨b,o+j,none⟩=some v:=by
 intro j v hj;refine h.cell ?_;rw[<- hl]at hj;rw[List.getElem?_take]at hj;split at hj
 ·rw[List.getElem?_drop]at hj;simpa using hj
 ·cases hj
section
end
end Go.Vc
namespace Go.Vc
open Go Go.RowKit
theorem N4.ei0 {w w':World} {b:Nat} {cs:Array Value} {T:TypeId} (hB:K0 w b cs T) (hg:w.grownBy w' (some b)):N4 w w' 0 [T]:=N4.put hB hg (Nat.zero_le _) (by simp)
theorem K0.other {w w':World} {b k:Nat} {cs:Array Value} {T:TypeId} (h:K0 w k cs T) (hg:w.grownBy w' (some b)) (hk:k≠b):K0 w' k cs T:=h.grown hg (by simpa using hk)
theorem gw0.ne {w w1:World} {b k:Nat} {cs k7:Array Value} {T T':TypeId} (F:gw0 w w1 b cs T) (h:K0 w k k7 T'):k≠b:=by have:=h.lt;have:=F.here;omega
end Go.Vc
namespace Go.Vc
open Go Go.RowKit
theorem u5 {P:Program} {ρ:Operand->Value} {w:World} {d:Option Nat} {ty:TypeId} {ps:String} {af:Array Edge} {g:Option (Nat×Bool)} {fn:Fn} {l:List Operand} {vs:List Value} (h:l.map ρ=vs) :
  (execOp ρ ⟨d,.makeFunc fn #[] l.toArray,ty,ps,af,g⟩).run P w= .ok (.value (.func fn #[] vs.toArray)) w:=by
 subst h;have:(execOp ρ ⟨d,.makeFunc fn #[] l.toArray,ty,ps,af,g⟩).run P w= .ok (.value (.func fn (#[].map ρ) (l.toArray.map ρ))) w:=rfl;rw[this];simp
end Go.Vc
namespace Go.Vc
open Go Go.RowKit
section
end
end Go.Vc
end
section
namespace Go.Vc
open Go Go.RowKit
section
end
section
end
section
end
section
variable {P:Program}{ρ:Operand->Value}{w:World}{d:Option Nat}{ty:TypeId}{ps:String}{af:Array Edge}{g:Option (Nat×Bool)}{x:Operand}{T E:TypeId}
theorem pr0 {v zv:Value} (hx:ρ x=v) (h1:v.oneCell'=true) (hT:P.underlying T=some (.slice E)) (hs:(P.info? E).map (·.size)=some 1) (hz:(P.info? E).bind (·.zero)=some zv) (hzc:zv.cells.size=1) :
  (execOp ρ ⟨d,.buildSlice T 1 #[(0,x)],ty,ps,af,g⟩).run P w= .ok (.value (.slice (some ⟨w.heap.size,0,none⟩) 1 1)) (w.alloc (.cells #[v] E)):=by
 have hv:v.cells=#[v]:=by cases v <;> first|rfl|(simp[Value.oneCell']at h1)
 have h2:((Array.map (fun x=>zv.cells[x%1]!) (Array.range 1)).setIfInBounds 0 v)=#[v]:=by
  apply Array.ext
  ·simp
  ·intro j h3 h4;have:j=0:=by simp at h4;omega
   subst this;simp
 simp[execOp,Instr.buildSlice,hx,run_underlying hT,run_sizeOf hs,ay0 hz,Instr.fill,hv,newRow,hzc,h2]
end
end Go.Vc
namespace Go.Vc
open Go Go.RowKit
end Go.Vc
namespace Go.Vc
open Go Go.RowKit
theorem Own.j6 {w w':World} {B s n c b:Nat} {E:TypeId} {a:Option Addr} {xs:List Value} (h:Own w B E s a n c xs) (hg:w.grownBy w' (some b)) (N3:a≠none->ab a≠b):Own w' B E s a n c xs:=by
 cases a with
 |none=>exact World.ownsRow.kept h hg (.inl rfl)
 |some q=>exact h.grown hg (by have:=N3 (by simp);simpa using this)
end Go.Vc
end
section
namespace Go.Vc
open Go Go.RowKit
def Zb0 (n:Nat) (ops:Array Oper):Bool:=(List.range ops.size).all fun i=>match ops[i]? with
 |none=>false
 |some o=>u6 n o.dst&&o.after.all fun x=>!Region.binds .any x ||Nat.blt x.on i
structure Bk (n:Nat) (ops:Array Oper):Prop where
 dst:∀(i:Nat) (o:Oper),ops[i]? =some o->u6 n o.dst=true
 back:∀(i:Nat) (o:Oper),ops[i]? =some o->∀x∈o.after,Region.binds .any x=true->x.on<i
theorem ip1 {n:Nat} {ops:Array Oper} (h:Zb0 n ops=true):Bk n ops:=by
 have key:∀(i:Nat) (o:Oper),ops[i]? =some o->u6 n o.dst=true/\(o.after.all fun x=>!Region.binds .any x ||Nat.blt x.on i)=true:=by
  intro i o ho;have h1:=List.all_eq_true.1 h i (List.mem_range.2 (Array.getElem?_eq_some_iff.1 ho).1);rw[ho]at h1;simpa only[Bool.and_eq_true]using h1
 refine⟨fun i o ho=>(key i o ho).1,fun i o ho x hx hb=>?_⟩;have:=(key i o ho).2;rw[Array.all_eq_true']at this;have:=this x hx;simp only[hb,Bool.not_true,Bool.false_or,Nat.blt_eq]at this;exact this
theorem jy0 {n:Nat} {ops:Array Oper} {listed:Array Bool} (h:Bk n ops) (hs:listed.size=ops.size) (hr:Region.ready .any ops listed=[]):∀i,i<ops.size->listed.getD i false=true:=by
 intro i
 induction i using Nat.strongRecOn with
 |_ i ih=>
  intro hi;cases hl:listed.getD i false with
  |true=>rfl
  |false=>
   exfalso;have hi':i<listed.size:=by omega
   have jk0:i∈Region.ready .any ops listed:=by
    refine mem_ready.2 ⟨?_,ops[i],by simp[hi],fun x hx hb=>?_⟩
    ·simp only[Array.getD_eq_getD_getElem?,hi',Array.getElem?_eq_getElem,Option.getD_some]at hl⊢;exact hl
    ·have J1:=h.back i ops[i] (by simp[hi]) x hx hb;exact ih x.on J1 (by omega)
   rw[hr]at jk0;cases jk0
section
end
end Go.Vc
end
section
namespace Go.Vc
open Go Go.RowKit
section
end
end Go.Vc
namespace Go.Vc
open Go Go.RowKit
def lst (f:Nat->Value) (n:Nat):List Value:=(List.range n).map f
theorem dt0 {f:Nat->Value} {n i:Nat} (h:i<n):(lst f n)[i]? =some (f i):=by simp[lst,h]
theorem du0 (f:Nat->Value) (n:Nat):(lst f n).length=n:=by simp[lst]
theorem mh0 {f g:Nat->Value} {n:Nat} (h:∀i,i<n->f i=g i):lst f n=lst g n:=List.map_congr_left fun i hi=>h i (List.mem_range.1 hi)
theorem Us0 (f:Nat->Value) (n:Nat) (v:Value):lst f n ++ [v]=lst (upf f n v) (n+1):=by
 unfold lst;rw[Mx0,List.map_congr_left (g:=upf f n v) fun i hi=>by
  have:=List.mem_range.1 hi;simp[upf,show i≠n by omega]]
 simp[upf]
theorem Ut0 {f:Nat->Value} {n i:Nat} {v:Value} (h:i<n):(lst f n).set i v=lst (upf f i v) n:=by
 apply List.ext_getElem?;intro j;rw[List.getElem?_set];by_cases hj:j<n
 ·rw[dt0 hj,dt0 hj];by_cases hij:i=j
  ·subst hij;rw[if_pos rfl,if_pos (by rw[du0];exact h)];simp[upf]
  ·rw[if_neg hij];simp[upf,Ne.symm hij]
 ·rw[List.getElem?_eq_none (by rw[du0];omega),List.getElem?_eq_none (by rw[du0];omega)];have:i≠j:=by omega
  simp[this]
theorem Own.at1 {w:World} {B:Nat} {E:TypeId} {a:Option Addr} {n c:Nat} {f:Nat->Value} (h:Own w B E 1 a n c (lst f n)) {j:Nat} (hj:j<n):w.cell? ⟨ab a,ao a+j*1,none⟩=some (f j):=by
 rw[h.off,Nat.zero_add,Nat.mul_one];exact h.cell (dt0 hj)
section
end
end Go.Vc
end
section
namespace Go.Vc
open Go
section
variable {P:Program}{ρ:Operand->Value}{w:World}{d:Option Nat}{ty:TypeId}{ps:String}{af:Array Edge}{g:Option (Nat×Bool)}
theorem bh0 {S:TypeId} {x:Operand} {v:Value} {td:TypeDesc} (hx:ρ x=v) (hT:P.underlying S=some td) (hn:(match td with| .interface _=>false|_=>true)=true) :
  (execOp ρ ⟨d,.makeInterface S x,ty,ps,af,g⟩).run P w= .ok (.value (.iface S v)) w:=by
 subst hx;simp only[execOp,Instr.makeInterface,Sem.run_bind,run_underlying hT,Result.andThen_ok];cases td <;> first|rfl|cases hn
end
end Go.Vc
end
section
namespace Go.Vc
open Go Go.RowKit
section
end
def wb0 (l0:List Oper) (k:Nat) (ch:Nat->Bool) (os:List Nat) (pr:List (Nat×Nat):=[]):Bool :=
 (List.range k).all (fun i=>os.contains i)&&(os.all fun i=>Nat.blt i k) &&
 (List.range os.length).all fun b=>match os[b]? with
  |none=>false
  |some y=>(match l0[y]? with|none=>false|some o=>o.after.all fun x=>!Region.binds .any x ||(os.take b).contains x.on) &&
   (List.range b).all fun a=>match os[a]? with|none=>false|some x=>x !=y&&(!ch x ||(Z8 l0 l0.length [y]).contains x ||pr.any fun p=>p.1==x&&(p.2==y ||(Z8 l0 l0.length [y]).contains p.2))
structure ps0 (l0:List Oper) (k:Nat) (ch:Nat->Bool) (os:List Nat) (V:(Nat->Bool)->Prop):Prop where
 all:∀i,i<k->i∈os
 lt:∀i∈os,i<k
 iq1:∀pre y suf,os=pre++y::suf->∃o,l0[y]? =some o/\∀x∈o.after,Region.binds .any x=true->x.on∈pre
 nodup:∀pre y suf,os=pre++y::suf->y∉pre
 wait:∀pre x mid y suf,os=pre++x::mid++y::suf->ch x=true->∀D,V D->D y=true->D x=true
theorem ky0 {l0:List Oper} {k:Nat} {ch:Nat->Bool} {os:List Nat} {pr:List (Nat×Nat)} {V:(Nat->Bool)->Prop} (dv0:∀D,V D->∀i o,l0[i]? =some o->D i=true->B6 o D) (hpr:∀p∈pr,∀D,V D->D p.2=true->D p.1=true) (h:wb0 l0 k ch os pr=true):ps0 l0 k ch os V:=by
 unfold wb0 at h;simp only[Bool.and_eq_true]at h;obtain⟨⟨h1,h2⟩,h3⟩:=h;have key:∀(b y:Nat),os[b]? =some y->(∃o,l0[y]? =some o/\∀x∈o.after,Region.binds .any x=true->x.on∈os.take b)/\∀a x,a<b->os[a]? =some x->x≠y/\(ch x=true->(Z8 l0 l0.length [y]).contains x=true\/∃p∈pr,p.1=x/\(p.2=y\/(Z8 l0 l0.length [y]).contains p.2=true)):=by
  intro b y hy;have h4:=List.all_eq_true.1 h3 b (List.mem_range.2 (List.getElem?_eq_some_iff.1 hy).1);rw[hy]at h4;simp only[Bool.and_eq_true]at h4;obtain⟨h5,h6⟩:=h4;constructor
  ·cases ho:l0[y]? with
   |none=>rw[ho]at h5;cases h5
   |some o=>
    rw[ho]at h5;refine⟨o,rfl,fun x hx hb=>?_⟩;simp only[Array.all_eq_true']at h5;have:=h5 x hx;rw[hb,Bool.not_true,Bool.false_or]at this;exact List.contains_iff_mem.1 this
  ·intro a x hab hx;have h7:=List.all_eq_true.1 h6 a (List.mem_range.2 hab);rw[hx]at h7;simp only[Bool.and_eq_true,bne_iff_ne,ne_eq,Bool.or_eq_true,Bool.not_eq_true']at h7;refine⟨h7.1,fun hc=>?_⟩;rcases h7.2 with(h8|h8)|h8
   ·rw[hc]at h8;cases h8
   ·exact .inl h8
   ·rw[List.any_eq_true]at h8;obtain⟨p,hp,h9⟩:=h8;simp only[Bool.and_eq_true,beq_iff_eq,Bool.or_eq_true]at h9;exact .inr ⟨p,hp,h9.1,h9.2⟩
 refine⟨fun i hi=>List.contains_iff_mem.1 (List.all_eq_true.1 h1 i (List.mem_range.2 hi)),fun i hi=>by have:=List.all_eq_true.1 h2 i hi;rwa [Nat.blt_eq]at this,?_,?_,?_⟩
 ·intro pre y suf he;have hy:os[pre.length]? =some y:=by rw[he];simp
  obtain⟨o,ho,h4⟩:=(key _ _ hy).1;exact⟨o,ho,fun x hx hb=>by have:=h4 x hx hb;rw[he]at this;simpa using this⟩
 ·intro pre y suf he hin;have hy:os[pre.length]? =some y:=by rw[he];simp
  obtain⟨a,ha⟩:=List.mem_iff_getElem?.1 hin;have hal:=(List.getElem?_eq_some_iff.1 ha).1;have hx:os[a]? =some y:=by rw[he,List.getElem?_append_left hal];exact ha
  exact((key _ _ hy).2 a y hal hx).1 rfl
 ·intro pre x mid y suf he hc;have hy:os[(pre++x::mid).length]? =some y:=by rw[he,List.getElem?_append_right (Nat.le_refl _)];simp
  have hx:os[pre.length]? =some x:=by rw[he];simp
  intro D hD hDy;have hbd:∀z,(Z8 l0 l0.length [y]).contains z=true->D z=true:=fun z hz=>y8 dv0 hD l0.length [y] (fun q hq=>by simp at hq;rw[hq];exact hDy) z (List.contains_iff_mem.1 hz);rcases((key _ _ hy).2 pre.length x (by simp) hx).2 hc with h9|⟨p,hp,rfl,h9⟩
  ·exact hbd x h9
  ·refine hpr p hp D hD ?_;rcases h9 with h9|h9
   ·rw[h9];exact hDy
   ·exact hbd _ h9
def Bk0 (n:Nat) (ops:Array Oper) (k:Nat):Bool :=
 (List.range ops.size).all fun i=>
  match ops[i]? with
  |none=>false
  |some o=>
   u6 n o.dst&&(o.after.all fun x=>!Region.binds .any x ||Nat.blt x.on i) &&
   (Nat.ble k i ||(!(match o.op with| .select ..=>true|_=>false) &&
   (List.range k).all fun j=>
    match ops[j]? with
    |none=>true
    |some p=>
     match p.dst with
     |none=>true
     |some t=>(i==j ||o.dst !=some t)&&(!(o.looksAt ops).contains t ||o.after.any fun x=>Region.binds .any x&&x.on==j)))
structure zc0 (n:Nat) (ops:Array Oper) (k:Nat):Prop where
 dst:∀(i:Nat) (o:Oper),ops[i]? =some o->u6 n o.dst=true
 sel:∀(i:Nat) (o:Oper),i<k->ops[i]? =some o->∀cs b,o.op≠.select cs b
 back:∀(i:Nat) (o:Oper),ops[i]? =some o->∀x∈o.after,Region.binds .any x=true->x.on<i
 one:∀(i j:Nat) (o p:Oper) (t:Nat),i<k->j<k->ops[i]? =some o->ops[j]? =some p->o.dst=some t->p.dst=some t->i=j
 look:∀(i j:Nat) (o p:Oper) (t:Nat),i<k->j<k->ops[i]? =some o->ops[j]? =some p->p.dst=some t->t∈o.looksAt ops->∃x∈o.after,Region.binds .any x=true/\x.on=j
theorem zc0.bk {n:Nat} {ops:Array Oper} {k:Nat} (h:zc0 n ops k):Bk n ops:=⟨h.dst,h.back⟩
theorem or0 {n:Nat} {ops:Array Oper} {k:Nat} (h:Bk0 n ops k=true):zc0 n ops k:=by
 unfold Bk0 at h;have lt:∀{i:Nat} {o:Oper},ops[i]? =some o->i<ops.size:=fun h=>(Array.getElem?_eq_some_iff.1 h).1;have key:∀(i:Nat) (o:Oper),ops[i]? =some o->(u6 n o.dst=true/\(o.after.all fun x=>!Region.binds .any x ||Nat.blt x.on i)=true)/\(i<k->(!(match o.op with| .select ..=>true|_=>false))=true /\
   ∀(j:Nat) (p:Oper) (t:Nat),j<k->ops[j]? =some p->p.dst=some t->(i==j ||o.dst !=some t)=true/\(!(o.looksAt ops).contains t ||o.after.any fun x=>Region.binds .any x&&x.on==j)=true):=by
  intro i o ho;have h1:=List.all_eq_true.1 h i (List.mem_range.2 (lt ho));simp only[ho,Bool.and_eq_true]at h1;refine⟨h1.1,fun hik=>?_⟩;have h2:=h1.2;have h3:Nat.ble k i=false:=by
   cases hb:Nat.ble k i with
   |false=>rfl
   |true=>have:=Nat.le_of_ble_eq_true hb;omega
  rw[h3,Bool.false_or,Bool.and_eq_true]at h2;refine⟨h2.1,fun j p t hj hp ht=>?_⟩;have h4:=List.all_eq_true.1 h2.2 j (List.mem_range.2 hj);simp only[hp,ht,Bool.and_eq_true]at h4;exact h4
 refine⟨fun i o ho=>(key i o ho).1.1,fun i o hi ho cs b he=>?_,fun i o ho x hx hb=>?_,fun i j o p t hi hj ho hp h1 h2=>?_,fun i j o p t hi hj ho hp ht hl=>?_⟩
 ·have:=((key i o ho).2 hi).1;rw[he]at this;cases this
 ·have:=(key i o ho).1.2;rw[Array.all_eq_true']at this;have:=this x hx;simp only[hb,Bool.not_true,Bool.false_or,Nat.blt_eq]at this;exact this
 ·have:=(((key i o ho).2 hi).2 j p t hj hp h2).1;simp only[h1,bne_self_eq_false,Bool.or_false,beq_iff_eq]at this;exact this
 ·have:=(((key i o ho).2 hi).2 j p t hj hp ht).2;have hc:(o.looksAt ops).contains t=true:=by simpa using hl
  rw[hc,Bool.not_true,Bool.false_or]at this;obtain⟨x,hx,hb⟩:=Array.any_eq_true'.1 this;simp only[Bool.and_eq_true,beq_iff_eq]at hb;exact⟨x,hx,hb.1,hb.2⟩
theorem Bl0 {n:Nat} {ops:Array Oper} {V:(Nat->Bool)->Prop} (h:Bk n ops):∀{listed:Array Bool} {σ:List Nat},Lin ops listed σ->∀(m:Nat),m <=ops.size->listed.size=ops.size->(∀j,j<m->listed.getD j false=true)->(∀j,m <=j->listed.getD j false=false) ->
  (∀D,V D->∀i,m <=i->i<ops.size->D i=true->∀j,j<i->D j=true)->(∀τ ρ,σ=τ++ρ->V (fun j=>listed.getD j false ||τ.contains j))->σ=List.range' m (ops.size-m):=by
 intro listed σ H5
 induction H5 with
 | @nil listed hr=>
  intro m hms hs h1 h2 _ _;have:ops.size <=m:=by
   rcases Nat.lt_or_ge m ops.size with h3|h3
   ·have:=jy0 h hs hr m h3;rw[h2 m (Nat.le_refl _)]at this;cases this
   ·exact h3
  rw[show ops.size-m=0 by omega];rfl
 | @cons listed i σ hi hl ih=>
  intro m hms hs h1 h2 de0 hV;obtain⟨hli,o,ho,C6⟩:=mem_ready.1 hi;have hio:i<ops.size:=(Array.getElem?_eq_some_iff.1 ho).1;have M7:i<listed.size:=by omega
  have hDi:listed.getD i false=false:=by
   simp only[Array.getD_eq_getD_getElem?,M7,Array.getElem?_eq_getElem,Option.getD_some]at hli⊢;exact hli
  have hmi:m <=i:=by
   rcases Nat.lt_or_ge i m with h3|h3
   ·rw[h1 i h3]at hDi;cases hDi
   ·exact h3
  have hVi:=hV [i] σ rfl;have him:i=m:=by
   rcases Nat.lt_or_ge m i with h3|h3
   ·have:=de0 _ hVi i hmi hio (by simp) m h3;simp only[h2 m (Nat.le_refl _),Bool.false_or]at this;simp at this;omega
   ·omega
  subst him;rw[show ops.size-i=(ops.size-(i+1))+1 by omega,List.range'_succ];congr 1;refine ih (i+1) (by omega) (by simp[hs]) (fun j hj=>?_) (fun j hj=>?_) (fun D hD j hj=>de0 D hD j (by omega)) (fun τ ρ hσ=>?_)
  ·by_cases O3:i=j
   ·subst O3;simp[M7]
   ·rw[getD_set_ne false O3];exact h1 j (by omega)
  ·rw[getD_set_ne false (by omega)];exact h2 j (by omega)
  ·have:=hV (i::τ) ρ (by rw[hσ];rfl);have e1:(fun j=>listed.getD j false ||(i::τ).contains j)=fun j=>(listed.setIfInBounds i true).getD j false ||τ.contains j:=by
    funext j;by_cases hj:i=j
    ·subst hj;simp[M7]
    ·rw[getD_set_ne false hj];simp[Ne.symm hj]
   rw[e1]at this;exact this
section
end
theorem Rep.ext [B4] {n:Nat} {a:Act} {e e':Env} (h:Rep n a e) (h':Rep n a e'):e=e':=funext fun t=>(h.get t).symm.trans (h'.get t)
theorem T9 {l:List Oper} {σ:List Nat} (H5:Lin l.toArray (Array.replicate l.toArray.size false) σ):∀D,Pre σ D->∀i o,l[i]? =some o->D i=true->B6 o D:=by
 have gd0:=fy0 H5 (fun i o _ hi=>by rw[J0]at hi;cases hi) (by simp);rintro D ⟨τ,ρ,hσ,hD⟩ i o hi hDi x hx hb;have:=gd0 τ ρ hσ i o (by simpa using hi) (.inr ((hD i).1 hDi)) x hx hb;rcases this with h1|h1
 ·rw[J0]at h1;cases h1
 ·exact(hD _).2 h1
section
variable {w:World}{B E:Nat}{s:Nat}{a:Option Addr}{n c:Nat}{xs:List Value}
theorem Own.down {B':Nat} (h:Own w B' E s a n c xs) (hB:B <=B'):Own w B E s a n c xs:=by
 refine⟨h.1,?_⟩;rcases h.2 with h2|⟨g,cap,cur,hv,hb,hg⟩
 ·exact .inl h2
 ·exact .inr ⟨g,cap,cur,hv,Nat.le_trans hB hb,hg⟩
theorem Own.src (h:Own w B E s a n c xs) {news:List Value} (hn:news.length <=n*s) (hx:∀(j:Nat) (u:Value),news[j]? =some u->xs[j]? =some u) (ad:Addr) (had:a=some ad) (j:Nat) (u:Value) (hj:news[j]? =some u):w.cell? (ad.add j)=some u:=by
 obtain⟨r,hr⟩:=Own.oq0 h (by rw[had];simp);rw[hr]at had;cases had;have:=h.cell (hx j u hj);rw[hr]at this;rw[Addr.add_lit,Nat.zero_add];exact this
theorem Own.Bm0 {b:Nat} {cs:Array Value} (h:K0 w b cs E) (hs:cs.size=c*s) (hb:B <=b) (hn:n <=c) (hm:c <=maxLen):Own w B E s (some ⟨b,0,none⟩) n c (cs.toList.take (n*s)):=by
 refine⟨?_,.inr ⟨b,c,cs,rfl,hb,h,hn,hm,hs,rfl⟩⟩;rw[List.length_take,Array.length_toList,hs];exact Nat.min_eq_left (Nat.mul_le_mul_right s hn)
end
section
variable {P:Program}{ρ:Operand->Value}{w:World}{d:Option Nat}{ty:TypeId}{ps:String}{af:Array Edge}{g:Option (Nat×Bool)}{x:Operand}{T E:TypeId}
theorem Ew0 {a:Option Addr} {n c:Nat} {m:Int} {aT:Array TypeId} (hm:((n:Nat):Int)=m) (hx:ρ x= .slice a n c) (hT:P.underlying T=some (.slice E)) (hA:aT[0]? =some T):(execOp ρ ⟨d,.call ⟨.builtin .len,#[x],aT⟩,ty,ps,af,g⟩).run P w= .ok (.value (.int .i64 m)) w:=by
 rw[<- hm];exact M6 hx hT hA
end
def noG (Q:Exit->Env->World->Prop):Exit->Env->World->Prop
 | .goto _,_,_=>False
 |x,e,w=>Q x e w
section
variable {Q:Exit->Env->World->Prop}{e:Env}{w:World}
theorem N.nrm (h:Q .normal e w):noG Q .normal e w:=h
theorem N.ret (h:Q .ret e w):noG Q .ret e w:=h
end
end Go.Vc
end
section
namespace Go.Yc
open Go
section
theorem ew0 {α:Type} {P:Program} (s:Unsupported):dead P (unsupported s:Sem α):=fun v h=>by cases h
theorem zd0 {P:Program} {α:Type} (a:Addr) (n:Nat) {f:Bool->Sem α} (hf:∀b,dead P (f b)):dead P (Builtin.holdsCells a n >>=f):=by
 show dead P (Sem.bind (Sem.bind (Sem.shape a.block .pure) _) f);intro s;cases s with
 |none=>exact hf _
 |some p=>obtain⟨t,n⟩:=p;exact hf _
theorem bind_assoc' {α β γ:Type} (s:Sem α) (f:α->Sem β) (g:β->Sem γ):(s >>=f) >>=g=s >>=fun a=>f a >>=g:=by
 show(s.bind f).bind g=s.bind fun a=>(f a).bind g
 induction s with
 |pure a=>rfl
 |halt h=>rfl
 |load m a k ih=>exact congrArg (Sem.load m a) (funext fun v=>ih v)
 |store m a v k ih=>exact congrArg (Sem.store m a v) ih
 |new o k ih=>exact congrArg (Sem.new o) (funext fun v=>ih v)
 |shape r k ih=>exact congrArg (Sem.shape r) (funext fun v=>ih v)
 |freeze a n k ih=>exact congrArg (Sem.freeze a n) ih
 |frozen a k ih=>exact congrArg (Sem.frozen a) (funext fun v=>ih v)
 |getObj r k ih=>exact congrArg (Sem.getObj r) (funext fun v=>ih v)
 |setObj r o k ih=>exact congrArg (Sem.setObj r o) ih
 |choose q k ih=>exact congrArg (Sem.choose q) (funext fun v=>ih v)
 |sys c k ih=>exact congrArg (Sem.sys c) (funext fun v=>ih v)
 |program k ih=>exact congrArg Sem.program (funext fun v=>ih v)
 |mark m k ih=>exact congrArg (Sem.mark m) ih
theorem Bn0 {P:Program} {α:Type} (a:Addr) {f:Bool->Sem α} (hf:∀b,dead P (f b)):dead P (frozen a >>=f):=fun b=>hf b
theorem br1 {P:Program} {α:Type} (size Ex0 n:Nat) (base:Option Addr) (x:Value) {f:Bool->Sem α} (hf:∀b,dead P (f b)):dead P (Builtin.mayShare size Ex0 n base x >>=f):=by
 have h2:∀y:Value,dead P ((match y with| .slice (some b) _ _=>(do pure (!(<- Builtin.holdsCells b (n*size)) ||base.any (·.block==b.block)):Sem Bool)|_=>pure false) >>=f):=by
  intro y;split
  ·rw[bind_assoc'];exact zd0 _ _ fun b=>hf _
  ·exact hf _
 unfold Builtin.mayShare;cases base with
 |none=>exact h2 x
 |some a=>
  simp only[bind_assoc'];refine zd0 _ _ fun b=>?_;refine Bn0 _ fun c=>?_;cases b <;> cases c <;> first|exact hf _|exact h2 x
theorem Bo0 {P:Program} {α:Type} (size Ex0 n:Nat) (base:Option Addr) (x:Value) {f:Bool->Sem α} (hf:∀b,dead P (f b)) (hg:∀b,j1 P (f b)):j1 P (Builtin.mayShare size Ex0 n base x >>=f):=by
 have h2:∀y:Value,j1 P ((match y with| .slice (some b) _ _=>(do pure (!(<- Builtin.holdsCells b (n*size)) ||base.any (·.block==b.block)):Sem Bool)|_=>pure false) >>=f):=by
  intro y;split
  ·rw[bind_assoc'];intro s;cases s with
   |none=>exact hf _
   |some p=>obtain⟨t,n⟩:=p;exact hf _
  ·exact hg _
 have h3:∀y:Value,dead P ((match y with| .slice (some b) _ _=>(do pure (!(<- Builtin.holdsCells b (n*size)) ||base.any (·.block==b.block)):Sem Bool)|_=>pure false) >>=f):=by
  intro y;split
  ·rw[bind_assoc'];exact zd0 _ _ fun b=>hf _
  ·exact hf _
 unfold Builtin.mayShare;cases base with
 |none=>exact h2 x
 |some a=>
  simp only[bind_assoc'];intro s;cases s with
  |none=>
   intro d;cases d <;> exact hf true
  |some p=>
   obtain⟨t,m⟩:=p;intro d;show dead P ((if(!((a.spot.isNone&&decide (a.off+Ex0*size <=m)) && !d))=true then(pure true:Sem Bool) else _) >>=f);cases(a.spot.isNone&&decide (a.off+Ex0*size <=m)) <;> cases d <;> first|exact hf _|exact h3 x
theorem Uu0 {P:Program} {α:Type} (size Ex0 n:Nat) (base:Option Addr) (x:Value) (u:Unsupported):j1 P (Builtin.mayShare size Ex0 n base x >>=fun b=>(if(!b)=true then(mark .noRoom >>=fun _=>(unsupported u:Sem α)) else(unsupported u:Sem α))):=by
 refine Bo0 _ _ _ _ _ (fun b=>?_) (fun b=>?_)
 ·cases b
  ·exact ew0 (P:=P) (α:=α) u
  ·exact ew0 (P:=P) (α:=α) u
 ·cases b
  ·show(if Eh0 Mark.noRoom=true then j1 P ((Sem.pure ()).bind fun _=>(unsupported u:Sem α)) else _);exact trivial
  ·exact trivial
theorem Bp0 {P:Program} {α:Type} {c:Prop} [Decidable c] {a b:Sem α} (ha:j1 P a) (hb:j1 P b):j1 P (if c then a else b):=by split <;> assumption
attribute [local irreducible] j1 dead
set_option maxHeartbeats 2000000 in
theorem Mz0 {P:Program} (a:Array TypeId) (t:TypeId) (x:Array Value):j1 P (Builtin.append_ a t x):=by
 unfold Builtin.append_
 repeat' (first|exact B1 _|exact I3 _|exact Uu0 _ _ _ _ _ _|exact fv0 _ _ _|exact yx0 _|exact o4 _ _ _|exact D7 _ _|exact G4 _|exact Y4 _|exact V1 _|exact P9 _|exact H2 _|exact e7 _|exact Z6 _|exact Z4 _|(refine C1 ?_ (fun _=>?_))|(refine Bp0 ?_ ?_)|split)
end
end Go.Yc
end
section
namespace Go.Yc
open Go Go.Vc
section
def ir1 (o:Oper):Bool:=match o.op with
 | .move _| .assign _| .pick .. | .alloc _| .box .. | .build .. | .buildSlice .. | .load .. | .store .. | .indexAddr .. | .extract .. | .field .. | .makeInterface .. | .makeFunc .. | .makeChan .. | .makeSlice .. | .slice .. | .unOp ..=>true
 | .call c=>match c.callee with
  | .builtin b=>(match b with| .len| .cap| .append| .copy=>true|_=>false)
  |_=>false
 |_=>false
attribute [local irreducible] j1 dead
theorem t_v {P:Program} {s:Sem Value} (h:j1 P s):j1 P (do pure (.value (<- s)):Sem Next):=C1 h fun _=>B1 _
theorem t_u {P:Program} {s:Sem Unit} (h:j1 P s):j1 P (do s;pure .skip:Sem Next):=C1 h fun _=>B1 _
theorem Y1 {P:Program} {o:Oper} (h:ir1 o=true) (ρ:Operand->Value):j1 P (execOp ρ o):=by
 unfold ir1 at h;unfold execOp;cases ho:o.op <;> rw[ho]at h <;> try(cases h;done)
 case move x=>exact B1 _
 case assign x=>exact B1 _
 case pick c a b=>exact C1 (Q9 _) fun _=>B1 _
 case alloc e=>exact t_v (dm0 _ _ _)
 case box e x=>exact t_v (nl0 _ _)
 case build t p=>exact t_v (dn0 _ _)
 case buildSlice t n p=>exact t_v (J6 _ _ _)
 case load t a=>exact t_v (bf0 _ _)
 case store t a x=>exact t_u (z9 _ _ _)
 case indexAddr t x i=>exact t_v (A9 _ _ _)
 case extract x i=>exact t_v (B9 _ _)
 case field t x f=>exact t_v (do0 _ _ _)
 case makeInterface t x=>exact t_v (p5 _ _)
 case makeFunc f a b=>exact t_v (B1 _)
 case makeChan t x=>exact t_v (l8 _ _)
 case makeSlice t a b=>exact t_v (u7 _ _ _)
 case slice t x a b c=>exact t_v (C9 _ _ _ _ _)
 case unOp op t x=>exact t_v (Hm0 _ _)
 case call c=>
  obtain⟨callee,args,aT⟩:=c;simp only at h;cases callee with
  |builtin b=>
   simp only at h;cases b <;> try(cases h;done)
   ·exact t_v (Mz0 _ _ _)
   ·exact t_v (in1 _ _ _)
   ·exact t_v (bp1 _ _ _)
   ·exact t_v (Hn0 _ _ _)
  |_=>cases h
end
section
theorem Zc0 {P:Program} {α:Type} {s t:Sem α} (h:s=t) (ht:j1 P t):j1 P s:=h▸ht
theorem Bq0 {P:Program} {α:Type} {f:Program->Sem α} (h:j1 P (f P)):j1 P (program >>=f):=h
theorem cr0 {P:Program} {α:Type} {f:TypeDesc->Sem α} {t:TypeId} {u:TypeDesc} (hT:P.underlying t=some u) (h:j1 P (f u)):j1 P (underlying t >>=f):=by
 show j1 P (((match P.underlying t with|some d=>pure d|none=>stuck "no such type":Sem TypeDesc)).bind f);rw[hT];exact h
theorem Na0 {P:Program} {α:Type} {f:TypeInfo->Sem α} {t:TypeId} {i:TypeInfo} (hT:P.info? t=some i) (h:j1 P (f i)):j1 P (typeInfo t >>=f):=by
 show j1 P (((match P.info? t with|some d=>pure d|none=>stuck "no such type":Sem TypeInfo)).bind f);rw[hT];exact h
theorem Nb0 {P:Program} {α:Type} {f:Nat->Sem α} {t:TypeId} {s:Nat} (hT:(P.info? t).map (·.size)=some s) (h:j1 P (f s)):j1 P (sizeOf t >>=f):=by
 cases hi:P.info? t with
 |none=>rw[hi]at hT;cases hT
 |some i=>
  rw[hi]at hT;obtain rfl:=Option.some.inj hT;unfold sizeOf;rw[bind_assoc'];exact Na0 hi h
attribute [local irreducible] j1 dead
section
variable {P:Program}{ρ:Operand->Value}{d:Option Nat}{ty:TypeId}{ps:String}{af:Array Edge}{g:Option (Nat×Bool)}{x y:Operand}{T T':TypeId}{op:BinOp}
theorem ge0 {a b:Value} (hx:ρ x=a) (hy:ρ y=b) (h1:j1 P (eqGuard op T x y a b)) (h2:j1 P (binOp op T a b)):j1 P (execOp ρ ⟨d,.binOp op T x y T',ty,ps,af,g⟩):=by
 show j1 P (do pure (.value (<- (do eqGuard op T x y (ρ x) (ρ y);binOp op T (ρ x) (ρ y)))):Sem Next);rw[hx,hy];exact t_v (C1 h1 fun _=>h2)
theorem gf0 {a b:Value} (hb:∀c,b≠.agg c) (hn:b≠.nilIface):j1 P (eqGuard op T x y a b):=by
 unfold eqGuard;refine Bp0 (B1 _) ?_;split
 ·exact absurd rfl hn
 ·exact absurd rfl (hb _)
 ·exact B1 _
theorem Nc0 {κ κ':IntKind} {m k:Int}:j1 P (binOp op T (.int κ m) (.int κ' k)):=by
 cases op <;> simp only[binOp,Op.shift,Op.intArith,Op.intDiv,Op.intBits,Op.intCmp] <;> (repeat' (first|exact B1 _|exact H2 _|exact T7 _|exact Y3 _|(refine Bp0 ?_ ?_)|split))
theorem N6 {κ κ':IntKind} {m k:Int} (hx:ρ x= .int κ m) (hy:ρ y= .int κ' k):j1 P (execOp ρ ⟨d,.binOp op T x y T',ty,ps,af,g⟩):=ge0 hx hy (gf0 (fun _ h=>by cases h) (fun h=>by cases h)) Nc0
theorem Nd0 {a b:ByteArray}:j1 P (binOp op T (.string a) (.string b)):=by
 cases op <;> simp only[binOp,Op.stringOp] <;> (repeat' (first|exact B1 _|exact H2 _|exact T7 _|exact Y3 _|(refine Bp0 ?_ ?_)|split))
theorem Ne0 {a b:ByteArray} (hx:ρ x= .string a) (hy:ρ y= .string b):j1 P (execOp ρ ⟨d,.binOp op T x y T',ty,ps,af,g⟩):=ge0 hx hy (gf0 (fun _ h=>by cases h) (fun h=>by cases h)) Nd0
def bs1:Value->Bool
 | .pointer (some _)| .agg _| .iface ..=>false
 |_=>true
theorem ex0 {n:Nat} {a b:Value} (hb:bs1 b=true):j1 P (Op.equalIn (n+1) T a b):=by
 unfold Op.equalIn;refine C1 (V1 _) fun u=>?_;split <;> first
  |exact B1 _|exact T7 _|exact Y3 _
  |(exact Bp0 (B1 _) (T7 _))
  |(cases hb;done)
  |(unfold samePointer;split <;> first|(cases hb;done)|exact B1 _)
  |skip
theorem Ey0 {a b:Value} (h:j1 P (Op.equal T a b)) (h1:binOp .eql T a b=(do pure (.bool (<- Op.equal T a b)):Sem Value)):j1 P (binOp .eql T a b):=by rw[h1];exact C1 h fun _=>B1 _
theorem Hr0 {a b:Value} (h:j1 P (Op.equal T a b)) (h1:binOp .neq T a b=(do pure (.bool (!(<- Op.equal T a b))):Sem Value)):j1 P (binOp .neq T a b):=by rw[h1];exact C1 h fun _=>B1 _
theorem Ez0 {q:Option Addr} (hx:ρ x= .pointer q) (hy:ρ y= .pointer none):j1 P (execOp ρ ⟨d,.binOp .eql T x y T',ty,ps,af,g⟩):=ge0 hx hy (gf0 (fun _ h=>by cases h) (fun h=>by cases h)) (Ey0 (ex0 rfl) rfl)
theorem Br0 {q:Option Addr} (hx:ρ x= .pointer q) (hy:ρ y= .pointer none):j1 P (execOp ρ ⟨d,.binOp .neq T x y T',ty,ps,af,g⟩):=ge0 hx hy (gf0 (fun _ h=>by cases h) (fun h=>by cases h)) (Hr0 (ex0 rfl) rfl)
theorem Jq0 {v:Value} (hv:v= .nilFunc\/∃f xs ys,v= .func f xs ys) (hx:ρ x=v) (hy:ρ y= .nilFunc):j1 P (execOp ρ ⟨d,.binOp .eql T x y T',ty,ps,af,g⟩) :=
 ge0 hx hy (gf0 (fun _ h=>by cases h) (fun h=>by cases h)) (Ey0 (ex0 rfl) (by rcases hv with rfl|⟨f,xs,ys,rfl⟩ <;> rfl))
theorem Fa0 {v:Value} (hv:v= .nilFunc\/∃f xs ys,v= .func f xs ys) (hx:ρ x=v) (hy:ρ y= .nilFunc):j1 P (execOp ρ ⟨d,.binOp .neq T x y T',ty,ps,af,g⟩) :=
 ge0 hx hy (gf0 (fun _ h=>by cases h) (fun h=>by cases h)) (Hr0 (ex0 rfl) (by rcases hv with rfl|⟨f,xs,ys,rfl⟩ <;> rfl))
theorem Jr0 {a:Option Addr} {n c:Nat} (hx:ρ x= .slice a n c) (hy:ρ y= .slice none 0 0):j1 P (execOp ρ ⟨d,.binOp .eql T x y T',ty,ps,af,g⟩):=ge0 hx hy (gf0 (fun _ h=>by cases h) (fun h=>by cases h)) (Ey0 (ex0 rfl) rfl)
theorem Fb0 {p:Option Addr} (hx:ρ x= .pointer p):j1 P (execOp ρ ⟨d,.nilCheck x,ty,ps,af,g⟩):=by
 unfold execOp;simp only[hx];cases p <;> first|exact H2 _|exact B1 _
theorem Bs0 {S:TypeId} {a:Option Addr} {f:Nat} {fs:Array Field} {fl:Field} {s:Nat} (hx:ρ x= .pointer a) (hT:P.underlying S=some (.struct fs)) (hf:fs[f]? =some fl) (hs:(P.info? fl.type).map (·.size)=some s) (h0:s≠0):j1 P (execOp ρ ⟨d,.fieldAddr S x f,ty,ps,af,g⟩):=by
 unfold execOp;simp only[hx];refine t_v ?_;unfold Instr.fieldAt;refine cr0 hT ?_;simp only[hf];refine C1 (P5 _) fun a=>?_;unfold fieldPlace;rw[bind_assoc'];refine Nb0 hs ?_;rw[if_neg h0];exact B1 _
theorem bx0 {f:FuncId} {first cap:Array Value} {fn:Func} {xs:Array Operand} {aT:Array TypeId} (hx:ρ x= .func (.func f) first cap) (hf:P.funcs[f]? =some fn) (hb:fn.body.isSome=true) (hn:(fn.name== "runtime.NumGoroutine")=false):j1 P (execOp ρ ⟨d,.call ⟨.value x,xs,aT⟩,ty,ps,af,g⟩):=by
 show j1 P (do let d <- Deferred.ofValue (ρ x) (xs.map ρ);invoke d.target d.args);rw[hx];show j1 P (callFunc f (first++xs.map ρ++cap));unfold callFunc;refine Bq0 ?_;rw[hf];simp only[hn,Bool.false_eq_true,if_false];have:fn.body.isNone=false:=by cases h:fn.body <;> simp_all
 simp only[this,Bool.false_eq_true,if_false];exact B1 _
end
end
end Go.Yc
end
section
namespace Go.Vy
open Go Go.Conc Go.Yc
open Go.Vc (Env upd R3 ev upd_same upd_ne P0 Rep u6 lift dq0 co0 Uq0 G3 nn0 Q5 Ret hav L0)
def W [Go.Vc.B4] (P:Program) [Ctx P] (n:Nat) (c:Code) (Q:Exit->Env->World->Prop) (e:Env) (w:World):Prop :=
 ∀a,Rep n a e->cwp P c (lift n Q) a w
section
variable {P:Program}[Ctx P]{n:Nat}{Q:Exit->Env->World->Prop}{e:Env}{w:World}
theorem W.seq [Go.Vc.B4] {x y:Code} (h:W P n x (dq0 (W P n y Q) Q) e w):W P n (.seq x y) Q e w:=by
 intro a ha;refine wp_seq (wp_mono (h a ha) ?_);rintro ex a' w' ⟨e',r,q⟩;cases ex with
 |normal=>exact q a' r
 |exit id=>exact⟨e',r,q⟩
 |goto l=>exact⟨e',r,q⟩
 |ret=>exact⟨e',r,q⟩
 |panic ch=>exact⟨e',r,q⟩
 |outgrown=>exact⟨e',r,q⟩
theorem W.skip [Go.Vc.B4] (h:Q .normal e w):W P n .skip Q e w:=fun _ ha=>wp_skip ⟨e,ha,h⟩
theorem W.exit [Go.Vc.B4] {id:Nat} (h:Q (.exit id) e w):W P n (.exit id) Q e w:=fun _ ha=>wp_exit ⟨e,ha,h⟩
theorem W.ret [Go.Vc.B4] (h:Q .ret e w):W P n .ret Q e w:=fun _ ha=>wp_ret ⟨e,ha,h⟩
theorem W.cond [Go.Vc.B4] {c:Operand} {x y:Code} {b:Bool} (hc:ev e c= .bool b) (ht:b=true->W P n x Q e w) (hf:b=false->W P n y Q e w) :
  W P n (.cond c x y) Q e w:=by
 intro a ha;have H8:a.eval c= .bool b:=by rw[ha.eval];exact hc
 cases b
 ·exact wp_cond_false H8 (hf rfl a ha)
 ·exact wp_cond_true H8 (ht rfl a ha)
theorem W.w6 [Go.Vc.B4] {c:Operand} {x y:Code} {p:Prop} [Decidable p] (hc:ev e c= .bool (decide p)) (ht:p->W P n x Q e w) (hf:¬p->W P n y Q e w) :
  W P n (.cond c x y) Q e w :=
 W.cond hc (fun h=>ht (of_decide_eq_true h)) (fun h=>hf (of_decide_eq_false h))
theorem W.W7 [Go.Vc.B4] {c:Operand} {x y:Code} (hc:ev e c= .bool true) (ht:W P n x Q e w):W P n (.cond c x y) Q e w :=
 W.cond hc (fun _=>ht) (fun h=>by cases h)
theorem W.V6 [Go.Vc.B4] {c:Operand} {x y:Code} (hc:ev e c= .bool false) (hf:W P n y Q e w):W P n (.cond c x y) Q e w :=
 W.cond hc (fun h=>by cases h) (fun _=>hf)
theorem W.block [Go.Vc.B4] {id:Nat} {c:Code} (h:W P n c (co0 id Q) e w):W P n (.block id c) Q e w:=by
 intro a ha;refine wp_block (wp_mono (h a ha) ?_);rintro ex a' w' ⟨e',r,q⟩;cases ex with
 |normal=>exact⟨e',r,q⟩
 |exit id'=>
  simp only[co0]at q;simp only[Exit.inBlock];split
  ·rename_i h;rw[if_pos h]at q;exact⟨e',r,q⟩
  ·rename_i h;rw[if_neg h]at q;exact⟨e',r,q⟩
 |goto l=>exact⟨e',r,q⟩
 |ret=>exact⟨e',r,q⟩
 |panic ch=>exact⟨e',r,q⟩
 |outgrown=>exact⟨e',r,q⟩
theorem W.loop [Go.Vc.B4] {c:Code} (I:Nat->Env->World->Prop) (k₀:Nat) (h₀:I k₀ e w)
  (round:∀k e w,I k e w->W P n c (dq0 (fun e' w'=>∃k',k'<k/\I k' e' w') Q) e w):W P n (.loop c) Q e w:=by
 intro a ha;refine wp_loop_ghost (fun k a w=>∃e,Rep n a e/\I k e w) k₀ ⟨e,ha,h₀⟩ ?_;rintro k a w ⟨e,ha,hI⟩;refine wp_mono (round k e w hI a ha) ?_;rintro ex a' w' ⟨e',r,q⟩;cases ex with
 |normal=>obtain⟨k',hk,hI'⟩:=q;exact⟨k',hk,e',r,hI'⟩
 |exit id=>exact⟨e',r,q⟩
 |goto l=>exact⟨e',r,q⟩
 |ret=>exact⟨e',r,q⟩
 |panic ch=>exact⟨e',r,q⟩
 |outgrown=>exact⟨e',r,q⟩
def L [Go.Vc.B4] (P:Program) [Ctx P] (n:Nat) (ops:Array Oper) (Q:Exit->Env->World->Prop) (l:List Oper) (e:Env) (w:World):Prop :=
 (∀o∈l,u6 n o.dst=true)->∀a,Rep n a e->wpList P ops (lift n Q) l a w
theorem W.region [Go.Vc.B4] {id:Nat} {l:List Oper} (hB:Uq0 n l=true) (h:L P n l.toArray Q l e w):W P n (.region id l.toArray false) Q e w :=
 fun a ha=>wp_region_lit (h (fun o ho=>List.all_eq_true.1 hB o ho) a ha)
variable {ops:Array Oper}{o:Oper}{rest:List Oper}{w':World}{v:Value}
theorem L.nil [Go.Vc.B4] (h:Q .normal e w):L P n ops Q [] e w:=fun _ _ ha=>(⟨e,ha,h⟩:lift n Q .normal _ _)
def is1 [Go.Vc.B4] (P:Program) [Ctx P] (n:Nat) (ops:Array Oper) (Q:Exit->Env->World->Prop) (rest:List Oper) (o:Oper) (e:Env) (r:Out) (w':World):Prop:=match r with
 | .val v=>L P n ops Q rest (R3 e o.dst v) w'
 | .skip=>L P n ops Q rest (R3 e o.dst undef) w'
 | .enter f args=>Calls P f args w' fun
  | .returned v,w''=>L P n ops Q rest (R3 e o.dst v) w''
  | .panicked chain,w''=>Q (.panic chain) e w''
  | .outgrown,_=>False
 | .panic v=>Q (.panic [{v,recovered:=false}]) e w'
theorem L.op' [Go.Vc.B4] {K:Out->World->Prop} (hw:Region.wanted o (G3 ops e)=true) (hr:∀τ d,∃r w',Bf0 P (execOp (ev e) o) (V2 w τ d) r w'/\K r (V2 w' w.tape w.drawn)) (k:∀r w',K r w'->is1 P n ops Q rest o e r w'):L P n ops Q (o::rest) e w:=by
 intro hd a ha;have L6:∀o∈rest,u6 n o.dst=true:=fun o' ho'=>hd o' (List.mem_cons_of_mem _ ho');have hdo:=hd o List.mem_cons_self;unfold wpList;rw[Q5 ha,if_pos hw];intro τ d;rw[ha.eval];obtain⟨r,w',h1,h2⟩:=hr τ d;refine⟨r,w',h1,?_⟩;have:=k r _ h2;cases r with
 |val v=>exact this L6 _ (ha.put hdo v)
 |skip=>exact this L6 _ (ha.put hdo undef)
 |enter f args=>
  refine Calls.mono this fun x w'' hx=>?_;cases x with
  |returned v=>exact hx L6 _ (ha.put hdo v)
  |panicked ch=>exact⟨e,ha,hx⟩
  |outgrown=>exact hx
 |panic v=>exact⟨e,ha,this⟩
theorem L.Nf0 [Go.Vc.B4] {r:Out} (hw:Region.wanted o (G3 ops e)=true) (hr:Does P (execOp (ev e) o) w r w') (k:is1 P n ops Q rest o e r w'):L P n ops Q (o::rest) e w:=by
 refine L.op' (K:=fun r' w1=>r'=r/\w1=w') hw (fun τ d=>⟨r,V2 w' τ d,hr.go τ d,rfl,?_⟩) ?_
 ·rw[<- hr.tape,<- hr.drawn];rfl
 ·rintro r' w1 ⟨rfl,rfl⟩;exact k
theorem L.it1 [Go.Vc.B4] (hw:Region.wanted o (G3 ops e)=true) (hr:Does P (execOp (ev e) o) w (.val v) w') (k:L P n ops Q rest (R3 e o.dst v) w'):L P n ops Q (o::rest) e w:=L.Nf0 hw hr k
theorem L.iu1 [Go.Vc.B4] (hw:Region.wanted o (G3 ops e)=true) (hr:Does P (execOp (ev e) o) w .skip w') (k:L P n ops Q rest (R3 e o.dst undef) w'):L P n ops Q (o::rest) e w:=L.Nf0 hw hr k
theorem L.bt1 [Go.Vc.B4] (hw:Region.wanted o (G3 ops e)=true) (hr:Does P (execOp (ev e) o) w (.panic v) w') (k:Q (.panic [{v,recovered:=false}]) e w'):L P n ops Q (o::rest) e w:=L.Nf0 hw hr k
theorem L.off [Go.Vc.B4] (hw:Region.wanted o (G3 ops e)=false) (k:L P n ops Q rest (R3 e o.dst undef) w):L P n ops Q (o::rest) e w:=by
 intro hd a ha;unfold wpList;rw[Q5 ha,hw];exact k (fun o' ho'=>hd o' (List.mem_cons_of_mem _ ho')) _ (ha.put (hd o List.mem_cons_self) undef)
def C (P:Program) [Ctx P] (f:FuncId) (args:Array Value) (w:World) (R:Value->World->Prop):Prop:=Calls P f args w (Ret R)
theorem C.mono {f:FuncId} {args:Array Value} {R R':Value->World->Prop} (h:C P f args w R) (hr:∀v w,R v w->R' v w):C P f args w R' :=
 Calls.mono h fun e w' he=>by cases e <;> first|exact hr _ _ he|exact he
theorem L.iv1 [Go.Vc.B4] {f:FuncId} {args:Array Value} {R:Value->World->Prop} (hw:Region.wanted o (G3 ops e)=true) (hr:Does P (execOp (ev e) o) w (.enter f args) w')
  (hc:C P f args w' R) (k:∀v w',R v w'->L P n ops Q rest (R3 e o.dst v) w'):L P n ops Q (o::rest) e w :=
 L.Nf0 hw hr (Calls.mono hc fun x w' hx=>by cases x <;> first|exact k _ _ hx|exact hx.elim)
theorem L.Y2 [Go.Vc.B4] {f:FuncId} {args:Array Value} {R:Ending->World->Prop} (hw:Region.wanted o (G3 ops e)=true) (hr:Does P (execOp (ev e) o) w (.enter f args) w')
  (hc:Calls P f args w' R) (k:∀v w',R (.returned v) w'->L P n ops Q rest (R3 e o.dst v) w') (kp:∀ch w',R (.panicked ch) w'->Q (.panic ch) e w') (ko:∀w',¬R .outgrown w'):L P n ops Q (o::rest) e w :=
 L.Nf0 hw hr (Calls.mono hc fun x w' hx=>by cases x <;> first|exact k _ _ hx|exact kp _ _ hx|exact ko _ hx)
end
section
variable {P:Program}[Ctx P]{n:Nat}{Q:Exit->Env->World->Prop}{e:Env}{w w':World}{ops:Array Oper}{rest:List Oper}{v:Value}
variable {d:Nat}{op:Op}{ty:TypeId}{ps:String}{af:Array Edge}
theorem L.va [Go.Vc.B4] (hr:Does P (execOp (ev e) ⟨some d,op,ty,ps,af,none⟩) w (.val v) w') (k:L P n ops Q rest (upd e d v) w'):L P n ops Q (⟨some d,op,ty,ps,af,none⟩::rest) e w :=
 L.it1 rfl hr k
theorem L.va0 [Go.Vc.B4] (hr:Does P (execOp (ev e) ⟨none,op,ty,ps,af,none⟩) w (.val v) w') (k:L P n ops Q rest e w'):L P n ops Q (⟨none,op,ty,ps,af,none⟩::rest) e w :=
 L.it1 rfl hr k
theorem L.st [Go.Vc.B4] (hr:Does P (execOp (ev e) ⟨none,op,ty,ps,af,none⟩) w .skip w') (k:L P n ops Q rest e w'):L P n ops Q (⟨none,op,ty,ps,af,none⟩::rest) e w :=
 L.iu1 rfl hr k
theorem L.call [Go.Vc.B4] {f:FuncId} {args:Array Value} {R:Value->World->Prop} (hr:Does P (execOp (ev e) ⟨some d,op,ty,ps,af,none⟩) w (.enter f args) w)
  (hc:C P f args w R) (k:∀v w',R v w'->L P n ops Q rest (upd e d v) w'):L P n ops Q (⟨some d,op,ty,ps,af,none⟩::rest) e w :=
 L.iv1 rfl hr hc k
variable {dst:Option Nat}{j:Nat}{want:Bool}
theorem L.on [Go.Vc.B4] (hw:G3 ops e j=some want) (k:L P n ops Q (⟨dst,op,ty,ps,af,none⟩::rest) e w):L P n ops Q (⟨dst,op,ty,ps,af,some (j,want)⟩::rest) e w:=by
 intro hd a ha;have:=k (fun o ho=>by
  rcases List.mem_cons.1 ho with rfl|ho
  ·exact(hd ⟨dst,op,ty,ps,af,some (j,want)⟩ List.mem_cons_self:u6 n dst=true)
  ·exact hd _ (List.mem_cons_of_mem _ ho)) a ha
 unfold wpList at this⊢;rw[Q5 ha]at this⊢;have h1:Region.wanted ⟨dst,op,ty,ps,af,some (j,want)⟩ (G3 ops e)=true:=by simp[Region.wanted,hw]
 have h2:Region.wanted ⟨dst,op,ty,ps,af,none⟩ (G3 ops e)=true:=rfl;rw[if_pos h1];rw[if_pos h2]at this;exact this
end
section
variable {P:Program}[Ctx P]{n:Nat}{Q:Exit->Env->World->Prop}{e:Env}{w:World}{ops:Array Oper}
theorem dw0 {Q1 Q2:Exit->Act->World->Prop} (hq:∀x a w,Q1 x a w->Q2 x a w):∀(l:List Oper) (a:Act) (w:World),wpList P ops Q1 l a w->wpList P ops Q2 l a w
 | [],_,_,h=>hq _ _ _ h
 |o::l,a,w,h=>by
  unfold wpList at h⊢;split
  ·rename_i hw;rw[if_pos hw]at h;exact iv0 (fun a w=>dw0 hq l a w) hq h
  ·rename_i hw;rw[if_neg hw]at h;exact dw0 hq l _ _ h
theorem R8 {Q':Exit->Act->World->Prop}:∀(l1 l2:List Oper) (a:Act) (w:World),wpList P ops (Exit.then (wpList P ops Q' l2) Q') l1 a w->wpList P ops Q' (l1++l2) a w
 | [],_,_,_,h=>h
 |o::l1,l2,a,w,h=>by
  show wpList P ops Q' (o::(l1++l2)) a w;unfold wpList at h⊢;split
  ·rename_i hw;rw[if_pos hw]at h;intro τ d;obtain⟨r,w',h1,h2⟩:=h τ d;refine⟨r,w',h1,?_⟩;cases r with
   |val v=>exact R8 l1 l2 _ _ h2
   |skip=>exact R8 l1 l2 _ _ h2
   |enter f args=>exact Calls.mono h2 fun x w'' hx=>by cases x <;> first|exact R8 l1 l2 _ _ hx|exact hx
   |panic v=>exact h2
  ·rename_i hw;rw[if_neg hw]at h;exact R8 l1 l2 _ _ h
theorem L.cut [Go.Vc.B4] (k:Nat) (R:Env->World->Prop) {l:List Oper} (h1:L P n ops (dq0 R Q) (l.take k) e w) (h2:∀e' w',R e' w'->L P n ops Q (l.drop k) e' w'):L P n ops Q l e w:=by
 intro hd a ha;rw[<- List.take_append_drop k l]at hd⊢;refine R8 _ _ _ _ (dw0 ?_ _ _ _ (h1 (fun o ho=>hd o (List.mem_append_left _ ho)) a ha));rintro x a' w' ⟨e',r,q⟩;cases x with
 |normal=>exact h2 e' w' q (fun o ho=>hd o (List.mem_append_right _ ho)) a' r
 |exit id=>exact⟨e',r,q⟩
 |goto l=>exact⟨e',r,q⟩
 |ret=>exact⟨e',r,q⟩
 |panic ch=>exact⟨e',r,q⟩
 |outgrown=>exact⟨e',r,q⟩
theorem L.meet [Go.Vc.B4] (k:Nat) (G:List Nat) (d:Nat) (v:Value) {l:List Oper} (h1:L P n ops (dq0 (fun e' w'=>w'=w/\e' d=v/\L0 G e' e) Q) (l.take k) e w) (h2:∀f,L P n ops Q (l.drop k) (upd (hav G f e) d v) w):L P n ops Q l e w:=by
 refine L.cut k _ h1 ?_;rintro e' w' ⟨rfl,hd,hA⟩;obtain⟨f,hf⟩:=hA.out;rw[P0 hd,hf];exact h2 f
end
end Go.Vy
end
section
namespace Go.Vy
open Go Go.Conc Go.Yc
open Go.Vc
def Ng0 (P:Program) [Ctx P] (J:(Nat->Bool)->World->Prop) (i:Nat) (v:Value) (D:Nat->Bool) (S:Sem Next) (w:World):Prop :=
 (∃w',Does P S w (.val v) w'/\J (A6 D i) w')\/(v=undef/\∃w',Does P S w .skip w'/\J (A6 D i) w') \/
 ∃f args w',Does P S w (.enter f args) w'/\C P f args w' (fun r w''=>r=v/\J (A6 D i) w'')
theorem pt0 {P:Program} [Ctx P] {J:(Nat->Bool)->World->Prop} {i:Nat} {v:Value} {D:Nat->Bool} {o:Oper} {a:Act} {w:World} {next:Act->World->Prop} {Q:Exit->Act->World->Prop} (h:Ng0 P J i v D (execOp a.eval o) w) (hn:∀w',J (A6 D i) w'->next (a.put o.dst v) w'):si0 P o a w next Q:=by
 rcases h with⟨w',h1,h2⟩|⟨rfl,w',h1,h2⟩|⟨f,args,w',h1,h2⟩
 ·exact ao0 h1 (hn w' h2)
 ·exact ao0 h1 (hn w' h2)
 ·refine ao0 h1 (Calls.mono h2 fun x w'' hx=>?_);cases x with
  |returned u=>obtain⟨rfl,hx⟩:=hx;exact hn w'' hx
  |panicked ch=>exact hx.elim
  |outgrown=>exact hx.elim
def Loc (P:Program) [Ctx P] (ops:Array Oper) (V:(Nat->Bool)->Prop) (J:(Nat->Bool)->World->Prop) (i:Nat) (o:Oper) (e:Env) (v:Value):Prop :=
 (Region.wanted o (G3 ops e)=true/\∀D w,D i=false->(V D/\V (A6 D i))->B6 o D->J D w->Ng0 P J i v D (execOp (ev e) o) w) \/
 (Region.wanted o (G3 ops e)=false/\v=undef/\∀D w,D i=false->(V D/\V (A6 D i))->B6 o D->J D w->J (A6 D i) w)
def JL (P:Program) [Ctx P] (ops:Array Oper) (V:(Nat->Bool)->Prop) (J:(Nat->Bool)->World->Prop) (Q:Env->Prop):Nat->List Oper->Env->Prop
 |_,[],e=>Q e
 |i,o::rest,e=>∃v,Loc P ops V J i o e v/\JL P ops V J Q (i+1) rest (R3 e o.dst v)
section
variable {P:Program}[Ctx P]{ops:Array Oper}{V:(Nat->Bool)->Prop}{J:(Nat->Bool)->World->Prop}{n:Nat}
theorem JL.collect {Q:Env->Prop}:∀(l:List Oper) (i:Nat) (e:Env),JL P ops V J Q i l e ->
  ∃vals:Nat->Value,(∀k o,l[k]? =some o->Loc P ops V J (i+k) o (EE e l vals k) (vals k))/\Q (EE e l vals l.length)
 | [],_,_,h=>⟨fun _=>undef,fun k o ho=>by simp at ho,h⟩
 |o::l,i,e,⟨v,hl,h⟩=>by
  obtain⟨vals,h1,h2⟩:=JL.collect l (i+1) _ h;refine⟨fun k=>match k with|0=>v|k+1=>vals k,?_,?_⟩
  ·intro k p hp;cases k with
   |zero=>simp at hp;subst hp;exact hl
   |succ k=>
    rw[yy0];have:=h1 k p (by simpa using hp);rw[show i+(k+1)=i+1+k by omega];exact this
  ·rw[List.length_cons,yy0];exact h2
theorem Uv0 [Go.Vc.B4] (h:Ord n ops) {e0:Env} {vals:Nat->Value} (Nh0:∀i o,ops[i]? =some o->Loc P ops V J i o (EE e0 ops.toList vals i) (vals i))
  {Q:Exit->Act->World->Prop} (hQ:∀a w D,Rep n a (EE e0 ops.toList vals ops.size)->(∀i,i<ops.size->D i=true)->J D w->Q .normal a w) :
  ∀{listed:Array Bool} {σ:List Nat},Lin ops listed σ->(∀τ ρ,σ=τ++ρ->V (fun k=>listed.getD k false ||τ.contains k)) ->
   ∀(a:Act) (e:Env) (w:World),listed.size=ops.size->Rep n a e->Mid ops e0 vals listed e->J (fun k=>listed.getD k false) w->wpOps P ops Q σ a w:=by
 have fin:∀(listed:Array Bool) (a:Act) (e:Env) (w:World),Rep n a e->Mid ops e0 vals listed e->J (fun k=>listed.getD k false) w->(∀i,i<ops.size->listed.getD i false=true)->Q .normal a w:=by
  intro listed a e w ha hm hJ de0;have he:e=EE e0 ops.toList vals ops.size:=by
   funext t;have hl:∀j:Nat,ops.toList[j]? =ops[j]?:=fun j=>by rw[Array.getElem?_toList]
   by_cases hex:∃(j:Nat) (p:Oper),ops[j]? =some p/\p.dst=some t
   ·obtain⟨j,p,hp,hd⟩:=hex;have hjs:j<ops.size:=(Array.getElem?_eq_some_iff.1 hp).1;rw[hm.hit j p t hp hd (de0 j hjs)];exact(yz0 e0 ops.toList vals t j p (by rw[hl];exact hp) hd (fun i' p' hp' L6=>h.one i' j p' p t (by rw[<- hl];exact hp') hp L6 hd) _ hjs).symm
   ·have hno:∀(j:Nat) (p:Oper),ops[j]? =some p->p.dst≠some t:=fun j p hp hd=>hex ⟨j,p,hp,hd⟩;rw[hm.pk0 t (fun j p hp hd=>absurd hd (hno j p hp))];exact(kv0 e0 ops.toList vals t _ (fun j p _ hp=>hno j p (by rw[<- hl];exact hp))).symm
  subst he;exact hQ a w _ ha de0 hJ
 intro listed σ H5
 induction H5 with
 | @nil listed hr=>
  intro _ a e w hs ha hm hJ;exact fin listed a e w ha hm hJ (ix0 h hs hr)
 | @cons listed i σ hi _ ih=>
  intro hV a e w hs ha hm hJ;obtain⟨h1,o,ho,C6⟩:=mem_ready.1 hi;have hio:i<ops.size:=(Array.getElem?_eq_some_iff.1 ho).1;have M7:i<listed.size:=by omega
  have hlk:=pl0 h hm ho C6;refine U327 ?_;intro hex hwa;have hDi:(fun k=>listed.getD k false) i=false:=by
   show listed.getD i false=false;simp only[Array.getD_eq_getD_getElem?,M7,Array.getElem?_eq_getElem,Option.getD_some]at h1⊢;exact h1
  have hVD:V (fun k=>listed.getD k false):=by
   have:=hV [] (i::σ) rfl;have e1:(fun k=>listed.getD k false ||([]:List Nat).contains k)=fun k=>listed.getD k false:=funext fun k=>by simp
   rw[e1]at this;exact this
  have hVD:V (fun k=>listed.getD k false)/\V (A6 (fun k=>listed.getD k false) i):=by
   refine⟨hVD,?_⟩;have:=hV [i] σ rfl;have e1:(fun k=>listed.getD k false ||([i]:List Nat).contains k)=A6 (fun k=>listed.getD k false) i:=funext fun k=>by
    unfold A6;by_cases hk:k=i
    ·simp[hk]
    ·simp[hk]
   rw[e1]at this;exact this
  have hV':∀τ ρ,σ=τ++ρ->V (fun k=>(listed.setIfInBounds i true).getD k false ||τ.contains k):=by
   intro τ ρ hσ;have:=hV (i::τ) ρ (by rw[hσ];rfl);have e1:(fun k=>listed.getD k false ||(i::τ).contains k)=fun k=>(listed.setIfInBounds i true).getD k false ||τ.contains k:=by
    funext k;by_cases hk:i=k
    ·subst hk;simp[M7]
    ·rw[getD_set_ne false hk];simp[Ne.symm hk]
   rw[e1]at this;exact this
  have next:∀w',J (A6 (fun k=>listed.getD k false) i) w'->wpOps P ops Q σ (a.put o.dst (vals i)) w':=by
   intro w' hJ';refine ih hV' _ _ w' (by simp[hs]) (ha.put (h.dst i o ho) (vals i)) (hm.step h ho M7) ?_;rw[kw0 M7];exact hJ'
  unfold wpOps;rw[ho];simp only;rw[Q5 ha,hwa];rcases Nh0 i o ho with⟨hw,hl⟩|⟨hw,hv,hl⟩
  ·rw[if_pos hw];have J7:=hl (fun k=>listed.getD k false) w hDi hVD C6 hJ;rw[<- hex,<- ha.eval]at J7;exact pt0 J7 next
  ·rw[if_neg (by rw[hw];simp)];rw[<- hv];exact next w (hl (fun k=>listed.getD k false) w hDi hVD C6 hJ)
theorem W.Ni0 [Go.Vc.B4] {id:Nat} {l:List Oper} {Q:Exit->Env->World->Prop} {e:Env} {w:World} (hm:P.follows .mixedOrders=true) (hB:Bg0 n l.toArray=true)
  (h:∀V:(Nat->Bool)->Prop,(∀D D',V D->V D'->(∀k,D k=true->D' k=true)\/(∀k,D' k=true->D k=true))->(∀D,V D->∀i o,l[i]? =some o->D i=true->B6 o D) ->
   ∃J:(Nat->Bool)->World->Prop,J (fun _=>false) w.drew/\JL P l.toArray V J (fun e'=>∀D w',(∀i,i<l.length->D i=true)->J D w'->Q .normal e' w') 0 l e):W P n (.region id l.toArray true) Q e w:=by
 intro a ha;have ho:=Eo0 hB;refine wp_region_draw fun t=>?_;simp only[Region.schedule,hm,Bool.true_or,if_true];have H5:=jw0 l.toArray l.toArray.size t (Array.replicate l.toArray.size false) (by simp) (by simp);unfold Region.linearise;generalize Region.linearise.go .any l.toArray l.toArray.size t (Array.replicate l.toArray.size false) []=σ at H5⊢;have gd0:=fy0 H5 (fun i o _ hi=>by rw[J0]at hi;cases hi) (by simp);obtain⟨J,hJ,hjl⟩:=h (Pre σ) (fun D D' h1 h2=>h1.chain h2) (by
  rintro D ⟨τ,ρ,hσ,hD⟩ i o hi hDi x hx hb;have:=gd0 τ ρ hσ i o (by simpa using hi) (.inr ((hD i).1 hDi)) x hx hb;rcases this with h1|h1
  ·rw[J0]at h1;cases h1
  ·exact(hD _).2 h1)
 obtain⟨vals,h1,h2⟩:=JL.collect l 0 e hjl;refine Uv0 (V:=Pre σ) (J:=J) ho (e0:=e) (vals:=vals) (fun i o hi=>?_) (fun a' w' D ha' hD hJ'=>?_) H5 ?_ a e _ (by simp) ha ⟨fun j o t _ _ hl=>?_,fun t _=>rfl⟩ ?_
 ·have:=h1 i o (by simpa using hi);simpa using this
 ·exact⟨_,ha',h2 D w' (fun i hi=>hD i (by simpa using hi)) hJ'⟩
 ·intro τ ρ hσ;exact⟨τ,ρ,hσ,fun k=>by show((Array.replicate l.toArray.size false).getD k false ||τ.contains k)=true↔_;rw[J0];simp⟩
 ·rw[J0]at hl;cases hl
 ·have:(fun k=>(Array.replicate l.toArray.size false).getD k false)=fun _=>false:=funext fun k=>J0 _ _;rw[this];exact hJ
end
section
variable {P:Program}[Ctx P]
end
section
variable {P:Program}{ρ:Operand->Value}{w:World}{d:Option Nat}{ty:TypeId}{ps:String}{af:Array Edge}{g:Option (Nat×Bool)}
variable {x y z:Operand}
theorem v5:Does P (execOp ρ ⟨d,.move x,ty,ps,af,g⟩) w (.val (ρ x)) w :=
 .Q0 (Y1 rfl _) rfl rfl fun _τ _d=>Go.Vc.v5
theorem E7:Does P (execOp ρ ⟨d,.assign x,ty,ps,af,g⟩) w (.val (ρ x)) w :=
 .Q0 (Y1 rfl _) rfl rfl fun _τ _d=>Go.Vc.E7
theorem C4 {κ:IntKind} {m:Int} (h:ρ x= .int κ m):Does P (execOp ρ ⟨d,.move x,ty,ps,af,g⟩) w (.val (.int κ m)) w :=
 .Q0 (Y1 rfl _) rfl rfl fun _τ _d=>Go.Vc.C4 (h:=h)
theorem gt0 {κ:IntKind} {m:Int} (h:ρ x= .int κ m):Does P (execOp ρ ⟨d,.assign x,ty,ps,af,g⟩) w (.val (.int κ m)) w :=
 .Q0 (Y1 rfl _) rfl rfl fun _τ _d=>Go.Vc.gt0 (h:=h)
theorem bg0 {b:Bool} (h:ρ x= .bool b):Does P (execOp ρ ⟨d,.move x,ty,ps,af,g⟩) w (.val (.bool b)) w :=
 .Q0 (Y1 rfl _) rfl rfl fun _τ _d=>Go.Vc.bg0 (h:=h)
theorem no0 {b:Bool} (h:ρ x= .bool b):Does P (execOp ρ ⟨d,.assign x,ty,ps,af,g⟩) w (.val (.bool b)) w :=
 .Q0 (Y1 rfl _) rfl rfl fun _τ _d=>Go.Vc.no0 (h:=h)
theorem R9 {a:Option Addr} {n c:Nat} (h:ρ x= .slice a n c):Does P (execOp ρ ⟨d,.move x,ty,ps,af,g⟩) w (.val (.slice a n c)) w :=
 .Q0 (Y1 rfl _) rfl rfl fun _τ _d=>Go.Vc.R9 (h:=h)
theorem Bh0 {a:Option Addr} {n c:Nat} (h:ρ x= .slice a n c):Does P (execOp ρ ⟨d,.assign x,ty,ps,af,g⟩) w (.val (.slice a n c)) w :=
 .Q0 (Y1 rfl _) rfl rfl fun _τ _d=>Go.Vc.Bh0 (h:=h)
theorem H3 {p:Option Addr} (h:ρ x= .pointer p):Does P (execOp ρ ⟨d,.move x,ty,ps,af,g⟩) w (.val (.pointer p)) w :=
 .Q0 (Y1 rfl _) rfl rfl fun _τ _d=>Go.Vc.H3 (h:=h)
theorem dr0 {p:Option Addr} (h:ρ x= .pointer p):Does P (execOp ρ ⟨d,.assign x,ty,ps,af,g⟩) w (.val (.pointer p)) w :=
 .Q0 (Y1 rfl _) rfl rfl fun _τ _d=>Go.Vc.dr0 (h:=h)
theorem vv0 {cs:Array Value} (h:ρ x= .tuple cs):Does P (execOp ρ ⟨d,.move x,ty,ps,af,g⟩) w (.val (.tuple cs)) w :=
 .Q0 (Y1 rfl _) rfl rfl fun _τ _d=>Go.Vc.vv0 (h:=h)
theorem Mr0 {fn:Fn} {xs ys:Array Value} (h:ρ x= .func fn xs ys):Does P (execOp ρ ⟨d,.move x,ty,ps,af,g⟩) w (.val (.func fn xs ys)) w :=
 .Q0 (Y1 rfl _) rfl rfl fun _τ _d=>Go.Vc.Mr0 (h:=h)
theorem Ms0 {fn:Fn} {xs ys:Array Value} (h:ρ x= .func fn xs ys):Does P (execOp ρ ⟨d,.assign x,ty,ps,af,g⟩) w (.val (.func fn xs ys)) w :=
 .Q0 (Y1 rfl _) rfl rfl fun _τ _d=>Go.Vc.Ms0 (h:=h)
theorem Mt0 {s:ByteArray} (h:ρ x= .string s):Does P (execOp ρ ⟨d,.move x,ty,ps,af,g⟩) w (.val (.string s)) w :=
 .Q0 (Y1 rfl _) rfl rfl fun _τ _d=>Go.Vc.Mt0 (h:=h)
theorem p6 (h:ρ z= .bool true):Does P (execOp ρ ⟨d,.pick z x y,ty,ps,af,g⟩) w (.val (ρ x)) w :=
 .Q0 (Y1 rfl _) rfl rfl fun _τ _d=>Go.Vc.p6 (h:=h)
theorem A7 (h:ρ z= .bool false):Does P (execOp ρ ⟨d,.pick z x y,ty,ps,af,g⟩) w (.val (ρ y)) w :=
 .Q0 (Y1 rfl _) rfl rfl fun _τ _d=>Go.Vc.A7 (h:=h)
end
section
variable {P:Program}[Ctx P]{ρ:Operand->Value}
variable {x y:Operand}
section
variable {κ:IntKind}{m k:Int}(hx:ρ x= .int κ m)(hy:ρ y= .int κ k)
include hx hy
end
end
section
variable {P:Program}{ρ:Operand->Value}{w:World}{d:Option Nat}{ty:TypeId}{ps:String}{af:Array Edge}{g:Option (Nat×Bool)}
variable {x y:Operand}{T T':TypeId}
variable {κ:IntKind}{m k:Int}(hx:ρ x= .int κ m)(hy:ρ y= .int κ k)
include hx hy
theorem gu0:Does P (execOp ρ ⟨d,.binOp .add T x y T',ty,ps,af,g⟩) w (.val (.int κ (κ.wrap (m+k)))) w :=
 .Q0 (N6 hx hy) rfl rfl fun _τ _d=>Go.Vc.gu0 (hx:=hx) (hy:=hy)
theorem vw0:Does P (execOp ρ ⟨d,.binOp .sub T x y T',ty,ps,af,g⟩) w (.val (.int κ (κ.wrap (m-k)))) w :=
 .Q0 (N6 hx hy) rfl rfl fun _τ _d=>Go.Vc.vw0 (hx:=hx) (hy:=hy)
theorem vx0:Does P (execOp ρ ⟨d,.binOp .mul T x y T',ty,ps,af,g⟩) w (.val (.int κ (κ.wrap (m*k)))) w :=
 .Q0 (N6 hx hy) rfl rfl fun _τ _d=>Go.Vc.vx0 (hx:=hx) (hy:=hy)
theorem Bi0 (h0:k≠0):Does P (execOp ρ ⟨d,.binOp .quo T x y T',ty,ps,af,g⟩) w (.val (.int κ (κ.wrap (m.tdiv k)))) w :=
 .Q0 (N6 hx hy) rfl rfl fun _τ _d=>Go.Vc.Bi0 (hx:=hx) (hy:=hy) (h0:=h0)
theorem jq0 (h0:k≠0):Does P (execOp ρ ⟨d,.binOp .rem T x y T',ty,ps,af,g⟩) w (.val (.int κ (m.tmod k))) w :=
 .Q0 (N6 hx hy) rfl rfl fun _τ _d=>Go.Vc.jq0 (hx:=hx) (hy:=hy) (h0:=h0)
theorem gv0:Does P (execOp ρ ⟨d,.binOp .lss T x y T',ty,ps,af,g⟩) w (.val (.bool (decide (m<k)))) w :=
 .Q0 (N6 hx hy) rfl rfl fun _τ _d=>Go.Vc.gv0 (hx:=hx) (hy:=hy)
theorem Ho0:Does P (execOp ρ ⟨d,.binOp .leq T x y T',ty,ps,af,g⟩) w (.val (.bool (decide (m <=k)))) w :=
 .Q0 (N6 hx hy) rfl rfl fun _τ _d=>Go.Vc.Ho0 (hx:=hx) (hy:=hy)
theorem np0:Does P (execOp ρ ⟨d,.binOp .gtr T x y T',ty,ps,af,g⟩) w (.val (.bool (decide (k<m)))) w :=
 .Q0 (N6 hx hy) rfl rfl fun _τ _d=>Go.Vc.np0 (hx:=hx) (hy:=hy)
theorem Hp0:Does P (execOp ρ ⟨d,.binOp .geq T x y T',ty,ps,af,g⟩) w (.val (.bool (decide (k <=m)))) w :=
 .Q0 (N6 hx hy) rfl rfl fun _τ _d=>Go.Vc.Hp0 (hx:=hx) (hy:=hy)
theorem S9:Does P (execOp ρ ⟨d,.binOp .eql T x y T',ty,ps,af,g⟩) w (.val (.bool (decide (m=k)))) w :=
 .Q0 (N6 hx hy) rfl rfl fun _τ _d=>Go.Vc.S9 (hx:=hx) (hy:=hy)
theorem vy0:Does P (execOp ρ ⟨d,.binOp .neq T x y T',ty,ps,af,g⟩) w (.val (.bool (decide (m≠k)))) w :=
 .Q0 (N6 hx hy) rfl rfl fun _τ _d=>Go.Vc.vy0 (hx:=hx) (hy:=hy)
end
section
variable {P:Program}[Ctx P]{ρ:Operand->Value}
variable {x y:Operand}
section
variable {κ:IntKind}{m k:Int}(hx:ρ x= .int κ m)(hy:ρ y= .int κ k)
include hx hy
end
end
section
variable {P:Program}{ρ:Operand->Value}{w:World}{d:Option Nat}{ty:TypeId}{ps:String}{af:Array Edge}{g:Option (Nat×Bool)}
variable {x y:Operand}{T T' E S:TypeId}
theorem eh0 {m k:Int} (hx:ρ x= .int .i64 m) (hy:ρ y= .int .i64 k) (h:-9223372036854775808 <=m+k/\m+k <=9223372036854775807):Does P (execOp ρ ⟨d,.binOp .add T x y T',ty,ps,af,g⟩) w (.val (.int .i64 (m+k))) w :=
 .Q0 (N6 hx hy) rfl rfl fun _τ _d=>Go.Vc.eh0 (hx:=hx) (hy:=hy) (h:=h)
theorem Eq0 {m k:Int} (hx:ρ x= .int .i64 m) (hy:ρ y= .int .i64 k) (h:-9223372036854775808 <=m-k/\m-k <=9223372036854775807):Does P (execOp ρ ⟨d,.binOp .sub T x y T',ty,ps,af,g⟩) w (.val (.int .i64 (m-k))) w :=
 .Q0 (N6 hx hy) rfl rfl fun _τ _d=>Go.Vc.Eq0 (hx:=hx) (hy:=hy) (h:=h)
theorem pm0 {k:Nat} (hx:ρ x= .int .i64 (k:Int)) (hy:ρ y= .int .i64 1) (h:k<9223372036854775807):Does P (execOp ρ ⟨d,.binOp .add T x y T',ty,ps,af,g⟩) w (.val (.int .i64 ((k+1:Nat):Int))) w :=
 .Q0 (N6 hx hy) rfl rfl fun _τ _d=>Go.Vc.pm0 (hx:=hx) (hy:=hy) (h:=h)
theorem nq0 {b:Bool} (hx:ρ x= .bool b):Does P (execOp ρ ⟨d,.unOp .not T x,ty,ps,af,g⟩) w (.val (.bool (!b))) w :=
 .Q0 (Y1 rfl _) rfl rfl fun _τ _d=>Go.Vc.nq0 (hx:=hx)
theorem Mu0 {k:Int} (hx:ρ x= .int .i64 k) (h:-9223372036854775808<k/\k <=9223372036854775807):Does P (execOp ρ ⟨d,.unOp .neg T x,ty,ps,af,g⟩) w (.val (.int .i64 (-k))) w :=
 .Q0 (Y1 rfl _) rfl rfl fun _τ _d=>Go.Vc.Mu0 (hx:=hx) (h:=h)
theorem M6 {a:Option Addr} {n c:Nat} {aT:Array TypeId} (hx:ρ x= .slice a n c) (hT:P.underlying T=some (.slice E)) (hA:aT[0]? =some T) :
  Does P (execOp ρ ⟨d,.call ⟨.builtin .len,#[x],aT⟩,ty,ps,af,g⟩) w (.val (.int .i64 (n:Int))) w :=
 .Q0 (Y1 rfl _) rfl rfl fun _τ _d=>Go.Vc.M6 (hx:=hx) (hT:=hT) (hA:=hA)
theorem az0 {b o n c s:Nat} {i:Nat} (hx:ρ x= .slice (some ⟨b,o,none⟩) n c) (hy:ρ y= .int .i64 (i:Int)) (hT:P.underlying T=some (.slice E)) (hs:(P.info? E).map (·.size)=some s) (h:i<n) :
  Does P (execOp ρ ⟨d,.indexAddr T x y,ty,ps,af,g⟩) w (.val (.pointer (some ⟨b,o+i*s,none⟩))) w :=
 .Q0 (Y1 rfl _) rfl rfl fun _τ _d=>Go.Vc.az0 (hx:=hx) (hy:=hy) (hT:=hT) (hs:=hs) (h:=h)
theorem B0 {b o f:Nat} {fs:Array Field} {fl:Field} {s:Nat} (hx:ρ x= .pointer (some ⟨b,o,none⟩)) (hT:P.underlying S=some (.struct fs)) (hf:fs[f]? =some fl) (hs:(P.info? fl.type).map (·.size)=some s) (h0:s≠0) :
  Does P (execOp ρ ⟨d,.fieldAddr S x f,ty,ps,af,g⟩) w (.val (.pointer (some ⟨b,o+fl.offset,none⟩))) w :=
 .Q0 (Bs0 hx hT hf hs h0) rfl rfl fun _τ _d=>Go.Vc.B0 (hx:=hx) (hT:=hT) (hf:=hf) (hs:=hs) (h0:=h0)
theorem A0 {p:Addr} {u:TypeDesc} {v:Value} (hx:ρ x= .pointer (some p)) (hT:P.underlying T=some u) (hu:bt0 u=true) (hc:w.cell? p=some v) :
  Does P (execOp ρ ⟨d,.load T x,ty,ps,af,g⟩) w (.val v) w :=
 .Q0 (Y1 rfl _) rfl rfl fun _τ _d=>Go.Vc.A0 (hx:=hx) (hT:=hT) (hu:=hu) (hc:=hc)
theorem D2 {b o:Nat} {u:TypeDesc} {cs:List Value} {s:Nat} (hx:ρ x= .pointer (some ⟨b,o,none⟩)) (hT:P.underlying T=some u) (hu:bt0 u=false) (hs:(P.info? T).map (·.size)=some s) (hl:cs.length=s)
  (hc:∀j v,cs[j]? =some v->w.cell? ⟨b,o+j,none⟩=some v) :
  Does P (execOp ρ ⟨d,.load T x,ty,ps,af,g⟩) w (.val (.agg cs.toArray)) w :=
 .Q0 (Y1 rfl _) rfl rfl fun _τ _d=>Go.Vc.D2 (hx:=hx) (hT:=hT) (hu:=hu) (hs:=hs) (hl:=hl) (hc:=hc)
theorem oo0 {p:Addr} {v v0:Value} (hx:ρ x= .pointer (some p)) (hy:ρ y=v) (hs:(P.info? T).map (·.size)=some 1) (h1:v.oneCell'=true) (hc:w.cell? p=some v0) (hf:w.frozen? p=false) :
  Does P (execOp ρ ⟨d,.store T x y,ty,ps,af,g⟩) w .skip (w.setCell p v) :=
 .Q0 (Y1 rfl _) rfl rfl fun _τ _d=>Go.Vc.oo0 (hx:=hx) (hy:=hy) (hs:=hs) (h1:=h1) (hc:=hc) (hf:=hf)
theorem D9 {vs:Array Value} {i:Nat} {v:Value} (hx:ρ x= .tuple vs) (hv:vs[i]? =some v):Does P (execOp ρ ⟨d,.extract x i,ty,ps,af,g⟩) w (.val v) w :=
 .Q0 (Y1 rfl _) rfl rfl fun _τ _d=>Go.Vc.D9 (hx:=hx) (hv:=hv)
theorem cp0 {f:FuncId} {first cap args:Array Value} {fn:Func} {xs:Array Operand} {aT:Array TypeId} (hx:ρ x= .func (.func f) first cap) (ha:xs.map ρ=args) (hf:P.funcs[f]? =some fn) (hb:fn.body.isSome=true) (hn:(fn.name== "runtime.NumGoroutine")=false) :
  Does P (execOp ρ ⟨d,.call ⟨.value x,xs,aT⟩,ty,ps,af,g⟩) w (.enter f (first++args++cap)) w :=
 .Q0 (bx0 hx hf hb hn) rfl rfl fun _τ _d=>Go.Vc.cp0 (hx:=hx) (ha:=ha) (hf:=hf) (hb:=hb) (hn:=hn)
theorem kx0 {f:FuncId} {fn:Func} {aT:Array TypeId} (hf:P.funcs[f]? =some fn) (hb:fn.body.isSome=true) (hn:(fn.name== "runtime.NumGoroutine")=false) (hx:ρ (.func f)= .func (.func f) #[] #[]) :
  Does P (execOp ρ ⟨d,.call ⟨.value (.func f),#[],aT⟩,ty,ps,af,g⟩) w (.enter f #[]) w :=
 .Q0 (bx0 hx hf hb hn) rfl rfl fun _τ _d=>Go.Vc.kx0 (hf:=hf) (hb:=hb) (hn:=hn) (hx:=hx)
theorem K2 {f:FuncId} {fn:Func} {aT:Array TypeId} {x0:Operand} {v0:Value} (h0:ρ x0=v0) (hf:P.funcs[f]? =some fn) (hb:fn.body.isSome=true) (hn:(fn.name== "runtime.NumGoroutine")=false) (hx:ρ (.func f)= .func (.func f) #[] #[]) :
  Does P (execOp ρ ⟨d,.call ⟨.value (.func f),#[x0],aT⟩,ty,ps,af,g⟩) w (.enter f #[v0]) w :=
 .Q0 (bx0 hx hf hb hn) rfl rfl fun _τ _d=>Go.Vc.K2 (h0:=h0) (hf:=hf) (hb:=hb) (hn:=hn) (hx:=hx)
theorem P2 {f:FuncId} {fn:Func} {aT:Array TypeId} {x0 x1:Operand} {v0 v1:Value} (h0:ρ x0=v0) (h1:ρ x1=v1) (hf:P.funcs[f]? =some fn) (hb:fn.body.isSome=true) (hn:(fn.name== "runtime.NumGoroutine")=false) (hx:ρ (.func f)= .func (.func f) #[] #[]) :
  Does P (execOp ρ ⟨d,.call ⟨.value (.func f),#[x0,x1],aT⟩,ty,ps,af,g⟩) w (.enter f #[v0,v1]) w :=
 .Q0 (bx0 hx hf hb hn) rfl rfl fun _τ _d=>Go.Vc.P2 (h0:=h0) (h1:=h1) (hf:=hf) (hb:=hb) (hn:=hn) (hx:=hx)
theorem r6 {f:FuncId} {fn:Func} {aT:Array TypeId} {x0 x1 x2:Operand} {v0 v1 v2:Value} (h0:ρ x0=v0) (h1:ρ x1=v1) (h2:ρ x2=v2) (hf:P.funcs[f]? =some fn) (hb:fn.body.isSome=true) (hn:(fn.name== "runtime.NumGoroutine")=false) (hx:ρ (.func f)= .func (.func f) #[] #[]) :
  Does P (execOp ρ ⟨d,.call ⟨.value (.func f),#[x0,x1,x2],aT⟩,ty,ps,af,g⟩) w (.enter f #[v0,v1,v2]) w :=
 .Q0 (bx0 hx hf hb hn) rfl rfl fun _τ _d=>Go.Vc.r6 (h0:=h0) (h1:=h1) (h2:=h2) (hf:=hf) (hb:=hb) (hn:=hn) (hx:=hx)
theorem fz0 {f:FuncId} {fn:Func} {aT:Array TypeId} {x0 x1 x2 x3:Operand} {v0 v1 v2 v3:Value} (h0:ρ x0=v0) (h1:ρ x1=v1) (h2:ρ x2=v2) (h3:ρ x3=v3) (hf:P.funcs[f]? =some fn) (hb:fn.body.isSome=true) (hn:(fn.name== "runtime.NumGoroutine")=false) (hx:ρ (.func f)= .func (.func f) #[] #[]) :
  Does P (execOp ρ ⟨d,.call ⟨.value (.func f),#[x0,x1,x2,x3],aT⟩,ty,ps,af,g⟩) w (.enter f #[v0,v1,v2,v3]) w :=
 .Q0 (bx0 hx hf hb hn) rfl rfl fun _τ _d=>Go.Vc.fz0 (h0:=h0) (h1:=h1) (h2:=h2) (h3:=h3) (hf:=hf) (hb:=hb) (hn:=hn) (hx:=hx)
theorem V7 {f:FuncId} {fn:Func} {aT:Array TypeId} {x0 x1 x2 x3 x4:Operand} {v0 v1 v2 v3 v4:Value} (h0:ρ x0=v0) (h1:ρ x1=v1) (h2:ρ x2=v2) (h3:ρ x3=v3) (h4:ρ x4=v4) (hf:P.funcs[f]? =some fn) (hb:fn.body.isSome=true) (hn:(fn.name== "runtime.NumGoroutine")=false) (hx:ρ (.func f)= .func (.func f) #[] #[]) :
  Does P (execOp ρ ⟨d,.call ⟨.value (.func f),#[x0,x1,x2,x3,x4],aT⟩,ty,ps,af,g⟩) w (.enter f #[v0,v1,v2,v3,v4]) w :=
 .Q0 (bx0 hx hf hb hn) rfl rfl fun _τ _d=>Go.Vc.V7 (h0:=h0) (h1:=h1) (h2:=h2) (h3:=h3) (h4:=h4) (hf:=hf) (hb:=hb) (hn:=hn) (hx:=hx)
theorem Mv0 {v:Value} (hx:ρ x=v):Does P (execOp ρ ⟨d,.box T x,ty,ps,af,g⟩) w (.val (.pointer (some ⟨w.heap.size,0,none⟩))) (w.alloc (.cells v.cells T)) :=
 .Q0 (Y1 rfl _) rfl rfl fun _τ _d=>Go.Vc.Mv0 (hx:=hx)
theorem za0 {v:Value} (hz:(P.info? T).bind (·.zero)=some v):Does P (execOp ρ ⟨d,.alloc T,ty,ps,af,g⟩) w (.val (.pointer (some ⟨w.heap.size,0,none⟩))) (w.alloc (.cells v.cells T)) :=
 .Q0 (Y1 rfl _) rfl rfl fun _τ _d=>Go.Vc.za0 (hz:=hz)
theorem jx0 {fn:Fn} {xs ys:Array Operand}:Does P (execOp ρ ⟨d,.makeFunc fn xs ys,ty,ps,af,g⟩) w (.val (.func fn (xs.map ρ) (ys.map ρ))) w :=
 .Q0 (Y1 rfl _) rfl rfl fun _τ _d=>Go.Vc.jx0
end
section
variable {P:Program}[Ctx P]
end
def QL (P:Program) [Ctx P] (ops:Array Oper) (Cl:World->Prop) (Q:Env->Prop) (i:Nat) (l:List Oper) (e:Env):Prop:=∀V:(Nat->Bool)->Prop,JL P ops V (fun _=>Cl) Q i l e
section
variable {P:Program}[Ctx P]{ops:Array Oper}{Cl:World->Prop}{Q:Env->Prop}{i:Nat}{e:Env}{rest:List Oper}{v:Value}
variable {d:Nat}{op:Op}{ty:TypeId}{ps:String}{af:Array Edge}
theorem D.nil (h:Q e):QL P ops Cl Q i [] e:=fun _=>h
theorem D.va (hr:∀w,Cl w->Does P (execOp (ev e) ⟨some d,op,ty,ps,af,none⟩) w (.val v) w) (k:QL P ops Cl Q (i+1) rest (upd e d v)):QL P ops Cl Q i (⟨some d,op,ty,ps,af,none⟩::rest) e :=
 fun V=>⟨v,.inl ⟨rfl,fun _ w _ _ _ hw=>.inl ⟨w,hr w hw,hw⟩⟩,k V⟩
theorem D.call {f:FuncId} {args:Array Value} (hr:∀w,Cl w->Does P (execOp (ev e) ⟨some d,op,ty,ps,af,none⟩) w (.enter f args) w) (hc:∀w,Cl w->C P f args w (fun r w'=>r=v/\Cl w'))
  (k:QL P ops Cl Q (i+1) rest (upd e d v)):QL P ops Cl Q i (⟨some d,op,ty,ps,af,none⟩::rest) e :=
 fun V=>⟨v,.inl ⟨rfl,fun _ w _ _ _ hw=>.inr (.inr ⟨_,_,w,hr w hw,hc w hw⟩)⟩,k V⟩
theorem W.quiet [Go.Vc.B4] {n:Nat} {id:Nat} {l:List Oper} {Q:Exit->Env->World->Prop} {e:Env} {w:World} (Cl:World->Prop) (hm:P.follows .mixedOrders=true) (hB:Bg0 n l.toArray=true)
  (hC:Cl w.drew) (h:QL P l.toArray Cl (fun e'=>∀w',Cl w'->Q .normal e' w') 0 l e):W P n (.region id l.toArray true) Q e w:=by
 refine W.Ni0 hm hB fun V _ _=>⟨fun _=>Cl,hC,?_⟩
 have mono:∀(l':List Oper) (i:Nat) (e:Env),JL P l.toArray V (fun _=>Cl) (fun e'=>∀w',Cl w'->Q .normal e' w') i l' e->JL P l.toArray V (fun _=>Cl) (fun e'=>∀(D:Nat->Bool) w',(∀i,i<l.length->D i=true)->Cl w'->Q .normal e' w') i l' e:=by
  intro l'
  induction l' with
  |nil=>exact fun i e h _ w' _ hw=>h w' hw
  |cons o l' ih=>exact fun i e ⟨v,h1,h2⟩=>⟨v,h1,ih _ _ h2⟩
 exact mono l 0 e (h V)
end
section
variable {P:Program}[Ctx P]
end
def ends (P:Program) (fn:Func) (R:Value->World->Prop):Exit->Env->World->Prop:=fun x e w=>
 (x= .normal\/x= .ret)/\∃v,(∀tmps:Array Value,(∀t,tmps.getD t undef=e t)->aw0 P fn tmps w v)/\R v w
theorem z8 {P:Program} {fn:Func} {tmps:Array Value} {w:World} {v:Value} (h1:∀w,(results fn tmps).run P w= .ok v w) (h2:∀w,(results fn tmps).events P w #[]=#[]):aw0 P fn tmps w v :=
 fun τ d ρ x hx=>⟨x,#[],by rw[Sem.runT_eq,h1,h2],hx,fun e he=>by simp at he⟩
theorem wpOps_eq_wpList {P:Program} [Ctx P] {ops:Array Oper} {Q:Exit->Act->World->Prop} (l:List Oper):∀k,(∀j,l[j]? =ops[k+j]?)->wpOps P ops Q (List.range' k l.length)=wpList P ops Q l:=by
 induction l with
 |nil=>intro k _;funext a w;simp[wpOps,wpList]
 |cons o l ih=>
  intro k h;have h0:ops[k]? =some o:=by simpa using(h 0).symm
  have ih':=ih (k+1) (fun j=>by have:=h (j+1);simpa [Nat.add_assoc,Nat.add_comm 1 j]using this);funext a w;simp only[List.length_cons,List.range'_succ,wpOps,h0,wpList,ih']
theorem iw1 {v:Value} {p q:Prop} (hv:(v= .nilFunc/\p)\/(∃f xs ys,v= .func f xs ys/\q)):v= .nilFunc\/∃f xs ys,v= .func f xs ys:=hv.imp (fun h=>h.1) fun⟨f,xs,ys,h,_⟩=>⟨f,xs,ys,h⟩
theorem gg0 {P:Program} {fn:Func} {tmps:Array Value} {w:World} {v:Value} (ht:j1 P (results fn tmps)) (h1:∀τ d,(results fn tmps).run P (V2 w τ d)= .ok v (V2 w τ d)):aw0 P fn tmps w v:=by
 intro τ d ρ x hs;have h1':((results fn tmps).runT P (V2 w τ d) #[]).1= .ok v (V2 w τ d):=by rw[Sem.runT_eq];exact h1 τ d
 have hf:Yc.At0 ((results fn tmps).runT P (V2 w τ d) #[]).1:=by rw[h1'];trivial
 obtain⟨⟨x',h2,h3⟩,h4,h5⟩:=e8 ht hs hf;rw[h1']at h2 h3;refine⟨x',_,h2,h3,fun e he=>(h5 e he).resolve_left (by simp)⟩
theorem gh0 {P:Program} {fn:Func} {tmps:Array Value}:j1 P (results fn tmps):=by
 unfold results;refine C1 (P1 (fun r=>?_) _) fun vs=>B1 _;cases r with
 |tmp t=>exact B1 _
 |cell a t=>exact C1 (P8 _) fun a=>L7 _ _
theorem C.enter {P:Program} [Ctx P] {f:FuncId} {fn:Func} {c:Code} {args:Array Value} {w:World} {R:Value->World->Prop} {n:Nat} (hf:P.funcs[f]? =some fn) (hb:fn.body=some c) (hn:args.size+(fn.ntmps-args.size)=n)
  (h:W P n c (ends P fn R) (bq0 args) w):C P f args w R:=by
 refine calls_of_wp hf hb (wp_mono (h _ ⟨?_,rfl,?_⟩) ?_)
 ·simp[hn]
 ·intro t;simp only[bq0,Array.getD_eq_getD_getElem?,Array.getElem?_append];split
  ·rfl
  ·rename_i ht;rw[Array.getElem?_eq_none (by omega:args.size <=t)];simp only[Array.getElem?_replicate];split <;> rfl
 ·rintro x a w' ⟨e',r,hx,v,hv,hR⟩;have:=hv a.tmps r.get;rcases hx with rfl|rfl
  ·exact⟨r.defers,v,this,hR⟩
  ·exact⟨r.defers,v,this,hR⟩
theorem ends.one {P:Program} {fn:Func} {R:Value->World->Prop} {x:Exit} {e:Env} {w:World} {t:Nat} (hx:x= .normal\/x= .ret) (hr:fn.results=#[.tmp t]) (h:R (e t) w):ends P fn R x e w :=
 ⟨hx,_,fun tmps ht=>z8 (fun w=>by rw[results_tmp hr,ht]) (fun w=>events_results_tmp hr _ _),h⟩
theorem ends.two {P:Program} {fn:Func} {R:Value->World->Prop} {x:Exit} {e:Env} {w:World} {t u:Nat} (hx:x= .normal\/x= .ret) (hr:fn.results=#[.tmp t,.tmp u]) (h:R (.tuple #[e t,e u]) w):ends P fn R x e w :=
 ⟨hx,_,fun tmps ht=>z8 (fun w=>by rw[results_tmp2 hr,ht,ht]) (fun w=>events_results_tmp2 hr _ _),h⟩
theorem ends.none {P:Program} {fn:Func} {R:Value->World->Prop} {x:Exit} {e:Env} {w:World} (hx:x= .normal\/x= .ret) (hr:fn.results=#[]) (h:R (.tuple #[]) w):ends P fn R x e w :=
 ⟨hx,_,fun tmps _=>z8 (fun w=>results_none hr tmps P w) (fun _w=>events_results_none hr _ _),h⟩
end Go.Vy
end
section
namespace Go.Vy
open Go Go.Yc Go.RowKit
open Go.Vc
section
variable {P:Program}[Ctx P]{n:Nat}{Q:Exit->Env->World->Prop}{e:Env}{w:World}{ops:Array Oper}{rest:List Oper}
variable {d:Nat}{ty:TypeId}{ps:String}{af:Array Edge}{T:TypeId}{x y:Operand}
theorem L.box [Go.Vc.B4] {v:Value} {cs:Array Value} (hx:ev e x=v) (hcs:v.cells=cs) (k:∀w1 b,gw0 w w1 b cs T->L P n ops Q rest (upd e d (.pointer (some ⟨b,0,none⟩))) w1) :
  L P n ops Q (⟨some d,.box T x,ty,ps,af,none⟩::rest) e w:=by
 subst hcs;exact L.va (Mv0 hx) (k _ _ (v7 w _ T))
theorem L.alloc [Go.Vc.B4] {v:Value} {cs:Array Value} (hz:(P.info? T).bind (·.zero)=some v) (hcs:v.cells=cs) (k:∀w1 b,gw0 w w1 b cs T->L P n ops Q rest (upd e d (.pointer (some ⟨b,0,none⟩))) w1) :
  L P n ops Q (⟨some d,.alloc T,ty,ps,af,none⟩::rest) e w:=by
 subst hcs;exact L.va (za0 hz) (k _ _ (v7 w _ T))
theorem L.store [Go.Vc.B4] {b o:Nat} {cs:Array Value} {E:TypeId} {v:Value} (hx:ev e x= .pointer (some ⟨b,o,none⟩)) (hy:ev e y=v) (hs:(P.info? T).map (·.size)=some 1) (h1:v.oneCell'=true) (hB:K0 w b cs E) (ho:o<cs.size)
  (k:L P n ops Q rest e (w.setCell ⟨b,o,none⟩ v)):L P n ops Q (⟨none,.store T x y,ty,ps,af,none⟩::rest) e w :=
 L.st (oo0 hx hy hs h1 (hB.cell (Array.getElem?_eq_getElem ho)) hB.frozen) k
theorem L.Nj0 [Go.Vc.B4] {b o s:Nat} {cs vs:Array Value} {E:TypeId} {v:Value} (hx:ev e x= .pointer (some ⟨b,o,none⟩)) (hy:ev e y=v) (hvs:v.cells=vs) (hs:(P.info? T).map (·.size)=some s) (hl:vs.size=s) (h1:∀v∈vs.toList,v.oneCell'=true) (hB:K0 w b cs E) (ho:o+s <=cs.size)
  (k:L P n ops Q rest e (D6 w b (setRow cs o vs.toList) E)):L P n ops Q (⟨none,.store T x y,ty,ps,af,none⟩::rest) e w:=by
 refine L.st (w':=D6 w b (setRow cs o vs.toList) E) (.Q0 (Y1 rfl _) rfl rfl fun τ d=>?_) k;have:=m9 (P:=P) b E vs.toList o 0 cs (V2 w τ d) hB (by simp;omega) h1;show _=Result.ok Next.skip (D6 (V2 w τ d) b (setRow cs o vs.toList) E);simp[execOp,Instr.storeAt,hx,hy,Instr.sureAddr,storeVar,Go.Vc.run_sizeOf hs,hvs,hl,this]
end
section
variable {P:Program}[Ctx P]{n:Nat}{Q:Exit->Env->World->Prop}{e:Env}{w:World}{ops:Array Oper}
theorem L.ns0 [Go.Vc.B4] (k:Nat) (G:List Nat) (d:Nat) (v:Value) {tj:Nat} {b:Bool} {l:List Oper} (hb:e tj= .bool b)
  (ht:b=true->L P n ops (dq0 (fun e' w'=>w'=w/\e' d=v/\L0 G e' e) Q) (l.take k) (upd e tj (.bool true)) w)
  (hf:b=false->L P n ops (dq0 (fun e' w'=>w'=w/\e' d=v/\L0 G e' e) Q) (l.take k) (upd e tj (.bool false)) w)
  (h2:∀f,L P n ops Q (l.drop k) (upd (hav G f e) d v) w):L P n ops Q l e w:=by
 refine L.meet k G d v ?_ h2;cases b
 ·have:=hf rfl;rw[<- P0 hb]at this;exact this
 ·have:=ht rfl;rw[<- P0 hb]at this;exact this
end
section
variable {P:Program}[Ctx P]
end
section
variable {P:Program}{ρ:Operand->Value}{w:World}{d:Option Nat}{ty:TypeId}{ps:String}{af:Array Edge}{g:Option (Nat×Bool)}{x y:Operand}{T E:TypeId}
theorem S5 {a:Option Addr} {n c s:Nat} {i:Nat} (hx:ρ x= .slice a n c) (hy:ρ y= .int .i64 (i:Int)) (hT:P.underlying T=some (.slice E)) (hs:(P.info? E).map (·.size)=some s) (hS:SL a n) (h:i<n) :
  Does P (execOp ρ ⟨d,.indexAddr T x y,ty,ps,af,g⟩) w (.val (.pointer (some ⟨ab a,ao a+i*s,none⟩))) w :=
 .Q0 (Y1 rfl _) rfl rfl fun _τ _d=>Go.Vc.S5 (hx:=hx) (hy:=hy) (hT:=hT) (hs:=hs) (hS:=hS) (h:=h)
end
section
variable {P:Program}[Ctx P]
end
section
end
section
end
section
variable {P:Program}[Ctx P]{n:Nat}{Q:Exit->Env->World->Prop}{e:Env}{w:World}{ops:Array Oper}{rest:List Oper}
variable {d:Nat}{ty:TypeId}{ps:String}{af:Array Edge}{T E:TypeId}{x y:Operand}
theorem L.may [Go.Vc.B4] {P:Program} [Ctx P] {n:Nat} {Q:Exit->Env->World->Prop} {e:Env} {w:World} {ops:Array Oper} {rest:List Oper} {d:Nat} {op:Op} {ty:TypeId} {ps:String} {af:Array Edge} {R:Value->World->Prop} (ht:j1 P (execOp (ev e) ⟨some d,op,ty,ps,af,none⟩))
  (hr:∀τ d',∃v w',(execOp (ev e) ⟨some d,op,ty,ps,af,none⟩).run P (V2 w τ d')= .ok (.value v) w'/\R v (V2 w' w.tape w.drawn)) (k:∀v w',R v w'->L P n ops Q rest (upd e d v) w'):L P n ops Q (⟨some d,op,ty,ps,af,none⟩::rest) e w:=by
 refine L.op' (K:=fun r w'=>∃v,r= .val v/\R v w') rfl (fun τ d'=>?_) ?_
 ·obtain⟨v,w',h1,h2⟩:=hr τ d';exact⟨.val v,w',jp0 ht h1,v,rfl,h2⟩
 ·rintro r w' ⟨v,rfl,h⟩;exact k v w' h
theorem wm0 {w w':World} {τ:Tape} {d:Nat} {x:Option Nat} (h:(V2 w τ d).grownBy w' x):w.grownBy (V2 w' w.tape w.drawn) x:=⟨h.os,rfl,h.output,h.size,h.block⟩
theorem wn0 {B:Nat} {w w':World} {τ:Tape} {d:Nat} (h:Below B (V2 w τ d) w'):Below B w (V2 w' w.tape w.drawn):=⟨h.os,rfl,h.output,h.size,h.block⟩
theorem L.make [Go.Vc.B4] {m s bytes:Nat} {zv z0:Value} (hx:ev e x= .int .i64 (m:Int)) (hy:ev e y= .int .i64 (m:Int)) (hT:P.underlying T=some (.slice E)) (hi:(P.info? E).map (fun i=>(i.zero,i.size,i.bytes))=some (some zv,s,bytes)) (hz:zv.cells=Array.replicate s z0) (hs:0<s)
  (hm:m <=9223372036854775807) (hb:m*bytes <=281474976710656) (k:∀w1 b,gw0 w w1 b (Array.replicate (m*s) z0) E->L P n ops Q rest (upd e d (.slice (some ⟨b,0,none⟩) m m)) w1) :
  L P n ops Q (⟨some d,.makeSlice T x y,ty,ps,af,none⟩::rest) e w:=by
 refine L.va (w':=w.alloc (.cells (Array.replicate (m*s) z0) E)) (.Q0 (Y1 rfl _) rfl rfl fun τ d'=>?_) (k _ _ (v7 w _ E));show(execOp (ev e) ⟨some d,.makeSlice T x y,ty,ps,af,none⟩).run P (V2 w τ d')= .ok (.value (.slice (some ⟨(V2 w τ d').heap.size,0,none⟩) m m)) ((V2 w τ d').alloc (.cells (Array.replicate (m*s) z0) E));generalize V2 w τ d'=w;obtain⟨i,hi'⟩:∃i,P.info? E=some i:=by cases hh:P.info? E with|none=>rw[hh]at hi;cases hi|some i=>exact⟨i,rfl⟩
 rw[hi']at hi;simp only[Option.map_some,Option.some.injEq,Prod.mk.injEq]at hi;obtain⟨h1,rfl,rfl⟩:=hi;have hr:=run_make (P:=P) w T E i zv hT hi' h1 .i64 .i64 (m:Int) (m:Int) (by omega) (Int.le_refl _) (by
  have:((m*i.bytes:Nat):Int) <=281474976710656:=by omega
  rw[Int.natCast_mul,Int.mul_comm]at this;exact this) (by omega)
 rw[hz,jr0 _ _ hs]at hr;simp only[Int.toNat_natCast]at hr;simp only[execOp,hx,hy,Sem.run_bind,hr,Result.andThen_ok,Sem.run_pure]
theorem L.ct0 [Go.Vc.B4] {s:Nat} {v:Value} {cs:Array Value} (hx:ev e x=v) (hcs:v.cells=cs) (hT:P.underlying T=some (.slice E)) (hs:(P.info? E).map (·.size)=some s) (hl:cs.size=s) (hz:∃zv,(P.info? E).bind (·.zero)=some zv) (J1:0<s/\s <=16777216)
  (k:∀w1 b,gw0 w w1 b cs E->L P n ops Q rest (upd e d (.slice (some ⟨b,0,none⟩) 1 1)) w1) :
  L P n ops Q (⟨some d,.buildSlice T 1 #[(0,x)],ty,ps,af,none⟩::rest) e w:=by
 refine L.va (w':=w.alloc (.cells cs E)) (.Q0 (Y1 rfl _) rfl rfl fun τ d'=>?_) (k _ _ (v7 w _ E));show(execOp (ev e) ⟨some d,.buildSlice T 1 #[(0,x)],ty,ps,af,none⟩).run P (V2 w τ d')= .ok (.value (.slice (some ⟨(V2 w τ d').heap.size,0,none⟩) 1 1)) ((V2 w τ d').alloc (.cells cs E));generalize V2 w τ d'=w;obtain⟨zv,hz⟩:=hz;have Uw0:¬(1*s>2 ^ 24):=by omega
 have N2:v.cells.size=s:=by rw[hcs,hl]
 have hf:=fun cs0:Array Value=>fun h:cs0.size=s=>Mw0 v.cells.toList 0 cs0 (by simp[h,N2]);simp only[execOp,Instr.buildSlice,List.map_toArray,List.map_cons,List.map_nil,hx,Go.Vc.run_underlying hT,Go.Vc.run_sizeOf hs,Sem.run_bind,Result.andThen_ok,Uw0,if_false,Sem.run_pure];have h0:¬1*s=0:=by omega
 ·simp only[h0,if_false,Sem.run_bind,Go.Vc.ay0 hz,Result.andThen_ok,Sem.run_pure,Instr.fill,Nat.zero_mul,N2,ne_eq,not_true_eq_false,decide_false,Bool.false_or];have h3:=hf ((Array.range (1*s)).map (fun i=>zv.cells[i%zv.cells.size]!)) (by simp);simp only[List.take_zero,List.nil_append]at h3;have h4:¬(0+s>(Array.map (fun x=>zv.cells[x%zv.cells.size]!) (Array.range (1*s))).size):=by simp
  rw[<- Array.foldl_toList,Array.toList_zipIdx];rw[h3];simp[newRow,hcs]
theorem L.Nk0 [Go.Vc.B4] {s:Nat} (hT:P.underlying T=some (.slice E)) (hs:(P.info? E).map (·.size)=some s) (k:∀w1 b,gw0 w w1 b #[] E->L P n ops Q rest (upd e d (.slice (some ⟨b,0,none⟩) 0 0)) w1) :
  L P n ops Q (⟨some d,.buildSlice T 0 #[],ty,ps,af,none⟩::rest) e w:=by
 refine L.va (w':=w.alloc (.cells #[] E)) (.Q0 (Y1 rfl _) rfl rfl fun τ d'=>?_) (k _ _ (v7 w _ E));show(execOp (ev e) ⟨some d,.buildSlice T 0 #[],ty,ps,af,none⟩).run P (V2 w τ d')= .ok (.value (.slice (some ⟨(V2 w τ d').heap.size,0,none⟩) 0 0)) ((V2 w τ d').alloc (.cells #[] E));generalize V2 w τ d'=w;simp[execOp,Instr.buildSlice,Go.Vc.run_underlying hT,Go.Vc.run_sizeOf hs,Instr.fill,newRow,Array.range_zero']
theorem L.append [Go.Vc.B4] {B s bytes m c':Nat} {a:Option Addr} {k c:Nat} {xs news:List Value} {zv:Value} {ad:Addr} (hx:ev e x= .slice a k c) (hy:ev e y= .slice (some ad) m c') (hT:P.underlying T=some (.slice E))
  (hi:(P.info? E).map (fun i=>(i.zero,i.size,i.bytes))=some (some zv,s,bytes)) (hz:zv.cells.size=s) (hs:0<s) (by0:Own w B E s a k c xs)
  (hl:news.length=m*s) (dx0:∀(j:Nat) u,news[j]? =some u->w.cell? (ad.add j)=some u) (h1:∀u∈news,u.oneCell'=true) (Bt0:k+m <=9223372036854775807) (hb:(k+m)*bytes <=140737488355328) (hB:B <=w.heap.size)
  (h:∀a' c2 w',Own w' B E s a' (k+m) c2 (xs++news)->w.grownBy w' (Value.ownBlock (.slice a k c))->Below B w w'->(a'=none↔a=none/\m=0)->L P n ops Q rest (upd e d (.slice a' (k+m) c2)) w') :
  L P n ops Q (⟨some d,.call ⟨.builtin .append,#[x,y],#[T,T]⟩,ty,ps,af,none⟩::rest) e w:=by
 refine L.may (R:=fun v w'=>∃a' c2,v= .slice a' (k+m) c2/\Own w' B E s a' (k+m) c2 (xs++news)/\w.grownBy w' (Value.ownBlock (.slice a k c))/\Below B w w'/\(a'=none↔a=none/\m=0)) (Y1 rfl _) (fun τ d'=>?_) (by rintro v w' ⟨a',c2,rfl,h2,h3,h4,h5⟩;exact h a' c2 w' h2 h3 h4 h5);generalize hu:V2 w τ d'=u;have by0:Own u B E s a k c xs:=by rw[<- hu];exact by0
 have dx0:∀(j:Nat) v,news[j]? =some v->u.cell? (ad.add j)=some v:=by rw[<- hu];exact dx0
 have hB:B <=u.heap.size:=by rw[<- hu];exact hB
 obtain⟨i,hi'⟩:∃i,P.info? E=some i:=by cases hh:P.info? E with|none=>rw[hh]at hi;cases hi|some i=>exact⟨i,rfl⟩
 rw[hi']at hi;simp only[Option.map_some,Option.some.injEq,Prod.mk.injEq]at hi;obtain⟨g1,g2,g3⟩:=hi;obtain⟨v',w',hr,h2,h3,h4⟩:=run_append_own (P:=P) u B T ty E i zv s bytes hT hi' g1 g2 g3 hz hs (.slice a k c) k xs by0 ad m c' news hl dx0 h1 (by simpa [maxLen]using Bt0) hb hB;obtain⟨a',c2,rfl⟩:∃a' c2,v'= .slice a' (k+m) c2:=by
  rcases h2.2 with⟨hv,h0⟩|⟨g,cap,cur,hv,_⟩
  ·exact⟨none,0,by rw[hv,h0]⟩
  ·exact⟨_,_,hv⟩
 have G1:Below B u w':=(Below.refl B u).grown h3 hB (fun r hr=>by
  cases a with
  |none=>cases hr
  |some q=>
   simp only[Value.ownBlock,Option.some.injEq]at hr;subst hr;exact(by0.row (by simp)).choose_spec.2.1)
 have ix1:a'=none↔a=none/\m=0:=by
  constructor
  ·intro hn;subst hn;rcases h2.2 with⟨hv,h0⟩|⟨g,cap,cur,hv,_⟩
   ·have:=h4.1 hv;exact⟨by have:=this.1;simp at this;exact this.1,this.2⟩
   ·cases hv
  ·rintro⟨rfl,rfl⟩;have hk0:k=0/\c=0:=by
    rcases by0.2 with⟨hv,h0⟩|⟨g,cap,cur,hv,_⟩
    ·cases hv;exact⟨rfl,rfl⟩
    ·cases hv
   obtain⟨rfl,rfl⟩:=hk0;have:=h4.2 ⟨rfl,rfl⟩;simp at this;exact this.1
 refine⟨_,w',?_,a',c2,rfl,h2,by subst hu;exact wm0 h3,by subst hu;exact wn0 G1,ix1⟩;simp only[execOp,resolve,invoke,builtin,Sem.run_bind,Sem.run_pure,Result.andThen_ok,List.map_toArray,List.map_cons,List.map_nil,hx,hy,hr]
end
section
variable {P:Program}[Ctx P]{n:Nat}{Q:Exit->Env->World->Prop}{e:Env}{w:World}{ops:Array Oper}{rest:List Oper}
variable {d:Nat}{ty:TypeId}{ps:String}{af:Array Edge}{T E:TypeId}{x y:Operand}
theorem L.E9 [Go.Vc.B4] {B s bytes m c':Nat} {a src:Option Addr} {k c:Nat} {xs news:List Value} {zv:Value} (hx:ev e x= .slice a k c) (hy:ev e y= .slice src m c') (hT:P.underlying T=some (.slice E))
  (hi:(P.info? E).map (fun i=>(i.zero,i.size,i.bytes))=some (some zv,s,bytes)) (hz:zv.cells.size=s) (hs:0<s) (by0:Own w B E s a k c xs) (pt1:src=none->m=0/\c'=0)
  (hl:news.length=m*s) (dx0:∀ad,src=some ad->∀(j:Nat) u,news[j]? =some u->w.cell? (ad.add j)=some u) (h1:∀u∈news,u.oneCell'=true) (Bt0:k+m <=9223372036854775807) (hb:(k+m)*bytes <=140737488355328) (hB:B <=w.heap.size)
  (h:∀a' c2 w',Own w' B E s a' (k+m) c2 (xs++news)->w.grownBy w' (Value.ownBlock (.slice a k c))->Below B w w'->(a'=none↔a=none/\m=0)->L P n ops Q rest (upd e d (.slice a' (k+m) c2)) w') :
  L P n ops Q (⟨some d,.call ⟨.builtin .append,#[x,y],#[T,T]⟩,ty,ps,af,none⟩::rest) e w:=by
 cases src with
 |some ad=>exact L.append hx hy hT hi hz hs by0 hl (dx0 ad rfl) h1 Bt0 hb hB h
 |none=>
  obtain⟨rfl,rfl⟩:=pt1 rfl;obtain⟨i,hi'⟩:∃i,P.info? E=some i:=by cases hh:P.info? E with|none=>rw[hh]at hi;cases hi|some i=>exact⟨i,rfl⟩
  have hr:=fun τ d'=>run_append_owned_none (P:=P) (w:=V2 w τ d') B T ty E i s hT hi' (.slice a k c) k xs by0;have hn:news=[]:=List.eq_nil_of_length_eq_zero (by omega);subst hn;refine L.va (v:=.slice a (k+0) c) (w':=w) (.Q0 (Y1 rfl _) rfl rfl fun τ d'=>?_) (h a c w (by simpa using by0) ⟨rfl,rfl,rfl,Nat.le_refl _,fun _ _ _=>rfl⟩ (Below.refl _ _) (by simp));simp only[execOp,resolve,invoke,builtin,Sem.run_bind,Sem.run_pure,Result.andThen_ok,List.map_toArray,List.map_cons,List.map_nil,hx,hy,hr τ d'];rfl
end
section
variable {P:Program}[Ctx P]
end
section
variable {P:Program}{ρ:Operand->Value}{w:World}{d:Option Nat}{ty:TypeId}{ps:String}{af:Array Edge}{g:Option (Nat×Bool)}{x y:Operand}{T E:TypeId}
theorem mg0 {a:Option Addr} {n c k s:Nat} (hx:ρ x= .slice a n c) (hy:ρ y= .int .i64 (k:Int)) (hT:P.underlying T=some (.slice E)) (hs:(P.info? E).map (·.size)=some s) (hk:k <=c) :
  Does P (execOp ρ ⟨d,.slice T x none (some y) none,ty,ps,af,g⟩) w (.val (.slice a k c)) w :=
 .Q0 (Y1 rfl _) rfl rfl fun _τ _d=>Go.Vc.mg0 (hx:=hx) (hy:=hy) (hT:=hT) (hs:=hs) (hk:=hk)
theorem G2 {parts:List (Nat×Operand)} {vs:List (Nat×Value)} {cells:Array Value} (hv:parts.map (fun(i,y)=>(i,ρ y))=vs) (hb:P.built T vs=some cells) :
  Does P (execOp ρ ⟨d,.build T parts.toArray,ty,ps,af,g⟩) w (.val (.agg cells)) w :=
 .Q0 (Y1 rfl _) rfl rfl fun _τ _d=>Go.Vc.G2 (hv:=hv) (hb:=hb)
theorem op0 {a:Option Addr} {n c:Nat} (hx:ρ x= .slice a n c) (hy:ρ y= .slice none 0 0) (hT:P.underlying T=some (.slice E)) :
  Does P (execOp ρ ⟨d,.binOp .eql T x y T,ty,ps,af,g⟩) w (.val (.bool a.isNone)) w :=
 .Q0 (Jr0 hx hy) rfl rfl fun _τ _d=>Go.Vc.op0 (hx:=hx) (hy:=hy) (hT:=hT)
end
section
variable {P:Program}[Ctx P]
end
section
variable {P:Program}[Ctx P]
end
theorem ends.Ux0 {P:Program} {fn:Func} {R:Value->World->Prop} {x:Exit} {e:Env} {w:World} {t b:Nat} {cs:Array Value} {T E:TypeId} {u:TypeDesc} (hx:x= .normal\/x= .ret) (hr:fn.results=#[.cell t T])
  (he:e t= .pointer (some ⟨b,0,Option.none⟩)) (hT:P.underlying T=some u) (hu:bt0 u=false) (hs:(P.info? T).map (·.size)=some cs.size) (hB:K0 w b cs E) (h:R (.agg cs) w):ends P fn R x e w :=
 ⟨hx,_,fun tmps ht=>gg0 gh0 fun τ d=>results_cell_row hr tmps (V2 w τ d) b E cs (0,0) u (by rw[ht,he]) hB hT (by cases u <;> first|rfl|(simp[bt0]at hu)) hs,h⟩
section
end
section
variable {P:Program}[Ctx P]
end
section
variable {P:Program}{T:TypeId}{ρ:Operand->Value}{w:World}{d:Option Nat}{ty:TypeId}{ps:String}{af:Array Edge}{g:Option (Nat×Bool)}{x y:Operand}
theorem E1 {p:Addr} (hx:ρ x= .pointer (some p)):Does P (execOp ρ ⟨d,.nilCheck x,ty,ps,af,g⟩) w (.val (.pointer (some p))) w :=
 .Q0 (Fb0 hx) rfl rfl fun _τ _d=>Go.Vc.E1 (hx:=hx)
theorem Q8 {E T:TypeId} {b o n s i:Nat} (hx:ρ x= .pointer (some ⟨b,o,none⟩)) (hy:ρ y= .int .i64 (i:Int)) (hT:P.underlying T=some (.array n E)) (hs:(P.info? E).map (·.size)=some s) (h:i<n) :
  Does P (execOp ρ ⟨d,.indexAddr T x y,ty,ps,af,g⟩) w (.val (.pointer (some ⟨b,o+i*s,none⟩))) w :=
 .Q0 (Y1 rfl _) rfl rfl fun _τ _d=>Go.Vc.Q8 (hx:=hx) (hy:=hy) (hT:=hT) (hs:=hs) (h:=h)
theorem c5 {q:Option Addr} {E T':TypeId} (hx:ρ x= .pointer q) (hy:ρ y= .pointer none) (hT:P.underlying T=some (.pointer E)) :
  Does P (execOp ρ ⟨d,.binOp .eql T x y T',ty,ps,af,g⟩) w (.val (.bool q.isNone)) w :=
 .Q0 (Ez0 hx hy) rfl rfl fun _τ _d=>Go.Vc.c5 (hx:=hx) (hy:=hy) (hT:=hT)
end
section
variable {P:Program}[Ctx P]
end
section
variable {P:Program}[Ctx P]
end
section
variable {P:Program}[Ctx P]{n:Nat}{Q:Exit->Env->World->Prop}{e:Env}{w:World}{ops:Array Oper}{rest:List Oper}
variable {d:Nat}{ty:TypeId}{ps:String}{af:Array Edge}{T E:TypeId}{x y z:Operand}
theorem L.Uy0 [Go.Vc.B4] {B s bytes m c':Nat} {b k c:Nat} {xs news:List Value} {zv:Value} {ad:Addr} (hx:ev e x= .slice (some ⟨b,0,none⟩) k c) (hy:ev e y= .slice (some ad) m c') (hT:P.underlying T=some (.slice E))
  (hi:(P.info? E).map (fun i=>(i.zero,i.size,i.bytes))=some (some zv,s,bytes)) (hz:zv.cells.size=s) (hs:0<s) (by0:Own w B E s (some ⟨b,0,none⟩) k c xs)
  (hl:news.length=m*s) (dx0:∀(j:Nat) u,news[j]? =some u->w.cell? (ad.add j)=some u) (h1:∀u∈news,u.oneCell'=true) (Bt0:k+m <=9223372036854775807) (hb:(k+m)*bytes <=140737488355328) (hB:B <=w.heap.size)
  (h:∀b' c2 w',Own w' B E s (some ⟨b',0,none⟩) (k+m) c2 (xs++news)->w.grownBy w' (some b)->((b'=b/\c2=c)\/(b'=w.heap.size/\Below w.heap.size w w'))->L P n ops Q rest (upd e d (.slice (some ⟨b',0,none⟩) (k+m) c2)) w') :
  L P n ops Q (⟨some d,.call ⟨.builtin .append,#[x,y],#[T,T]⟩,ty,ps,af,none⟩::rest) e w:=by
 refine L.may (R:=fun v w'=>∃b' c2,v= .slice (some ⟨b',0,none⟩) (k+m) c2/\Own w' B E s (some ⟨b',0,none⟩) (k+m) c2 (xs++news)/\w.grownBy w' (some b)/\((b'=b/\c2=c)\/(b'=w.heap.size/\Below w.heap.size w w'))) (Y1 rfl _) (fun τ d'=>?_) (by rintro v w' ⟨b',c2,rfl,h2,h3,h4⟩;exact h b' c2 w' h2 h3 h4);generalize hu:V2 w τ d'=u;have by0:Own u B E s (some ⟨b,0,none⟩) k c xs:=by rw[<- hu];exact by0
 have dx0:∀(j:Nat) v,news[j]? =some v->u.cell? (ad.add j)=some v:=by rw[<- hu];exact dx0
 have hB:B <=u.heap.size:=by rw[<- hu];exact hB
 obtain⟨i,hi'⟩:∃i,P.info? E=some i:=by cases hh:P.info? E with|none=>rw[hh]at hi;cases hi|some i=>exact⟨i,rfl⟩
 rw[hi']at hi;simp only[Option.map_some,Option.some.injEq,Prod.mk.injEq]at hi;obtain⟨g1,g2,g3⟩:=hi;obtain⟨v',w',hr,h2,h3,h4⟩:=run_append_own (P:=P) u B T ty E i zv s bytes hT hi' g1 g2 g3 hz hs (.slice (some ⟨b,0,none⟩) k c) k xs by0 ad m c' news hl dx0 h1 (by simpa [maxLen]using Bt0) hb hB;have hv:∃b' c2,v'= .slice (some ⟨b',0,none⟩) (k+m) c2/\((b'=b/\c2=c)\/(b'=u.heap.size/\Below u.heap.size u w')):=by
  rcases by0.2 with⟨hv0,_⟩|⟨g,cap,cur,hv0,hbg,hg,hnc,hcm,hcs,ty1⟩
  ·cases hv0
  ·cases hv0;by_cases Zd0:k+m <=c
   ·have bu1:k*i.size+news.length <=cur.size:=by rw[hl,hcs,g2,<- Nat.add_mul];exact Nat.mul_le_mul_right _ Zd0
    have:=run_append_room (P:=P) u T ty E i hT hi' b k c cur hg ad m c' news (by rw[g2];exact hl) dx0 h1 Zd0 bu1;rw[hr]at this;cases this;exact⟨_,_,rfl,.inl ⟨rfl,rfl⟩⟩
   ·have holds:∀j z,xs[j]? =some z->u.cell? ((⟨b,0,none⟩:Addr).add j)=some z:=by0.cells (g:=b) rfl;have:=run_append_grow (P:=P) u T ty E i zv hT hi' g1 ⟨b,0,none⟩ k c xs (by rw[g2];exact by0.1) holds ad m c' news (by rw[g2];exact hl) dx0 (by omega) (by omega) (growslice_fits (by omega) (by rw[g3];exact hb));rw[hr]at this;cases this;exact⟨_,_,rfl,.inr ⟨rfl,(Below.refl _ _).drew.alloc (Nat.le_refl _) _⟩⟩
 obtain⟨b',c2,rfl,hbb⟩:=hv;refine⟨_,w',?_,b',c2,rfl,h2,by subst hu;exact wm0 h3,by subst hu;exact hbb.imp id fun h=>⟨h.1,wn0 h.2⟩⟩;simp only[execOp,resolve,invoke,builtin,Sem.run_bind,Sem.run_pure,Result.andThen_ok,List.map_toArray,List.map_cons,List.map_nil,hx,hy,hr]
end
section
variable {P:Program}[Ctx P]{ops:Array Oper}{V:(Nat->Bool)->Prop}{J:(Nat->Bool)->World->Prop}{n:Nat}
theorem Nl0 [Go.Vc.B4] (h:Ord n ops) {e0:Env} {vals:Nat->Value} {k:Nat} (hk:k<ops.size) (Nh0:∀i o,i<k->ops[i]? =some o->Loc P ops V J i o (EE e0 ops.toList vals i) (vals i))
  (de0:∀D,V D->∀i,k <=i->i<ops.size->D i=true->∀j,j<i->D j=true)
  {Q:Exit->Act->World->Prop} (hQ:∀a w D,Rep n a (EE e0 ops.toList vals k)->(∀i,i<k->D i=true)->J D w->wpOps P ops Q (List.range' k (ops.size-k)) a w) :
  ∀{listed:Array Bool} {σ:List Nat},Lin ops listed σ->(∀τ ρ,σ=τ++ρ->V (fun j=>listed.getD j false ||τ.contains j)) ->
   ∀(a:Act) (e:Env) (w:World),listed.size=ops.size->(∀j,k <=j->listed.getD j false=false)->Rep n a e->Mid ops e0 vals listed e->J (fun j=>listed.getD j false) w->wpOps P ops Q σ a w:=by
 intro listed σ H5
 induction H5 with
 | @nil listed hr=>
  intro _ a e w hs hkf ha hm hJ;have:=ix0 h hs hr k (by omega);rw[hkf k (Nat.le_refl _)]at this;cases this
 | @cons listed i σ hi hl ih=>
  intro hV a e w hs hkf ha hm hJ;have hi0:=hi;obtain⟨h1,o,ho,C6⟩:=mem_ready.1 hi;have hio:i<ops.size:=(Array.getElem?_eq_some_iff.1 ho).1;have M7:i<listed.size:=by omega
  have hDi:(fun j=>listed.getD j false) i=false:=by
   show listed.getD i false=false;simp only[Array.getD_eq_getD_getElem?,M7,Array.getElem?_eq_getElem,Option.getD_some]at h1⊢;exact h1
  have hVD:V (fun j=>listed.getD j false):=by
   have:=hV [] (i::σ) rfl;have e1:(fun j=>listed.getD j false ||([]:List Nat).contains j)=fun j=>listed.getD j false:=funext fun j=>by simp
   rw[e1]at this;exact this
  have hVD:V (fun j=>listed.getD j false)/\V (A6 (fun j=>listed.getD j false) i):=by
   refine⟨hVD,?_⟩;have:=hV [i] σ rfl;have e1:(fun j=>listed.getD j false ||([i]:List Nat).contains j)=A6 (fun j=>listed.getD j false) i:=funext fun j=>by
    unfold A6;by_cases hj:j=i
    ·simp[hj]
    ·simp[hj]
   rw[e1]at this;exact this
  by_cases hik:k <=i
  ·have V9:∀j,j<i->listed.getD j false=true:=fun j hj=>by
    have:=de0 _ hVD.2 i hik hio (by simp[A6]) j hj;unfold A6 at this;rw[if_neg (by omega)]at this;exact this
   have hki:i=k:=by
    rcases Nat.lt_or_ge k i with h3|h3
    ·have:=V9 k h3;rw[hkf k (Nat.le_refl _)]at this;cases this
    ·omega
   subst hki;refine U506 ?_;intro hσ;have he:e=EE e0 ops.toList vals i:=by
    funext t;have hlz:∀j:Nat,ops.toList[j]? =ops[j]?:=fun j=>by rw[Array.getElem?_toList]
    by_cases hex:∃(j:Nat) (p:Oper),j<i/\ops[j]? =some p/\p.dst=some t
    ·obtain⟨j,p,hj,hp,hd⟩:=hex;exact U388
    ·rw[hm.pk0 t (fun j p hp hd=>by
      rcases Nat.lt_or_ge j i with h3|h3
      ·exact absurd ⟨j,p,h3,hp,hd⟩ hex
      ·exact hkf j h3)]
     exact(kv0 e0 ops.toList vals t _ (fun j p hj hp hd=>hex ⟨j,p,hj,by rw[<- hlz];exact hp,hd⟩)).symm
   subst he;exact hQ a w _ ha V9 hJ
  ·have hlk:=pl0 h hm ho C6;refine U327 ?_;intro hex hwa;have hV':∀τ ρ,σ=τ++ρ->V (fun j=>(listed.setIfInBounds i true).getD j false ||τ.contains j):=by
    intro τ ρ hσ;have:=hV (i::τ) ρ (by rw[hσ];rfl);have e1:(fun j=>listed.getD j false ||(i::τ).contains j)=fun j=>(listed.setIfInBounds i true).getD j false ||τ.contains j:=by
     funext j;by_cases hj:i=j
     ·subst hj;simp[M7]
     ·rw[getD_set_ne false hj];simp[Ne.symm hj]
    rw[e1]at this;exact this
   have next:∀w',J (A6 (fun j=>listed.getD j false) i) w'->wpOps P ops Q σ (a.put o.dst (vals i)) w':=by
    intro w' hJ';refine ih hV' _ _ w' (by simp[hs]) (fun j hj=>by rw[getD_set_ne false (by omega)];exact hkf j hj) (ha.put (h.dst i o ho) (vals i)) (hm.step h ho M7) ?_;rw[kw0 M7];exact hJ'
   unfold wpOps;rw[ho];simp only;rw[Q5 ha,hwa];rcases Nh0 i o (by omega) ho with⟨hw,hl⟩|⟨hw,hv,hl⟩
   ·rw[if_pos hw];have J7:=hl (fun j=>listed.getD j false) w hDi hVD C6 hJ;rw[<- hex,<- ha.eval]at J7;exact pt0 J7 next
   ·rw[if_neg (by rw[hw];simp)];exact U488
theorem W.bv1 [Go.Vc.B4] {id:Nat} {l:List Oper} {Q:Exit->Env->World->Prop} {e:Env} {w:World} (k:Nat) (hm:P.follows .mixedOrders=true) (hB:Bg0 n l.toArray=true) (hA:pp0 l k=true) (hk:Nat.blt k l.length=true)
  (h:∀V:(Nat->Bool)->Prop,(∀D D',V D->V D'->(∀k,D k=true->D' k=true)\/(∀k,D' k=true->D k=true))->(∀D,V D->∀i o,l[i]? =some o->D i=true->B6 o D) ->
   ∃J:(Nat->Bool)->World->Prop,J (fun _=>false) w.drew/\JL P l.toArray V J (fun e'=>∀D w',(∀i,i<k->D i=true)->J D w'->L P n l.toArray Q (l.drop k) e' w') 0 (l.take k) e):W P n (.region id l.toArray true) Q e w:=by
 intro a ha;have ho:=Eo0 hB;have hkl:k<l.length:=by rw[Nat.blt_eq]at hk;exact hk
 refine wp_region_draw fun t=>?_;simp only[Region.schedule,hm,Bool.true_or,if_true];have H5:=jw0 l.toArray l.toArray.size t (Array.replicate l.toArray.size false) (by simp) (by simp);unfold Region.linearise;generalize Region.linearise.go .any l.toArray l.toArray.size t (Array.replicate l.toArray.size false) []=σ at H5⊢;have gd0:=fy0 H5 (fun i o _ hi=>by rw[J0]at hi;cases hi) (by simp);have dv0:∀D,Pre σ D->∀i o,l[i]? =some o->D i=true->B6 o D:=by
  rintro D ⟨τ,ρ,hσ,hD⟩ i o hi hDi x hx hb;have:=gd0 τ ρ hσ i o (by simpa using hi) (.inr ((hD i).1 hDi)) x hx hb;rcases this with h1|h1
  ·rw[J0]at h1;cases h1
  ·exact(hD _).2 h1
 obtain⟨J,hJ,hjl⟩:=h (Pre σ) (fun D D' h1 h2=>h1.chain h2) dv0;obtain⟨vals,h1,h2⟩:=JL.collect (l.take k) 0 e hjl;have hEE:∀j,j <=k->EE e (l.take k) vals j=EE e l vals j:=by
  intro j
  induction j with
  |zero=>intro _;rfl
  |succ j ih=>
   intro hj;simp only[EE,ih (by omega)];rw[List.getElem?_take_of_lt (by omega)]
 have J1:(l.take k).length=k:=by simp;omega
 refine Nl0 (V:=Pre σ) (J:=J) ho (e0:=e) (vals:=vals) (k:=k) (by simpa using hkl) (fun i o' hi ho'=>?_) (fun D hD i hki M7=>pq0 hA dv0 hD i hki (by simpa using M7)) (fun a' w' D ha' hD hJ'=>?_) H5 ?_ a e _ (by simp) (fun j _=>J0 _ _) ha ⟨fun j o t _ _ hl=>?_,fun t _=>rfl⟩ ?_
 ·have:=h1 i o' (by rw[List.getElem?_take_of_lt hi];simpa using ho');rw[hEE i (by omega)]at this;simpa using this
 ·rw[J1,hEE k (Nat.le_refl _)]at h2;have h3:=h2 D w' hD hJ';have h4:=h3 (fun o' ho'=>by
   obtain⟨i,hi⟩:=List.mem_iff_getElem?.1 ho';rw[List.getElem?_drop]at hi;exact ho.dst (k+i) o' (by simpa using hi)) a' (by simpa using ha')
  have h5:=wpOps_eq_wpList (P:=P) (ops:=l.toArray) (Q:=lift n Q) (l.drop k) k (fun j=>by rw[List.getElem?_drop];simp);rw[List.length_drop]at h5;have h6:l.toArray.size-k=l.length-k:=by simp
  rw[h6,h5];exact h4
 ·intro τ ρ hσ;exact⟨τ,ρ,hσ,fun k=>by show((Array.replicate l.toArray.size false).getD k false ||τ.contains k)=true↔_;rw[J0];simp⟩
 ·rw[J0]at hl;cases hl
 ·have:(fun k=>(Array.replicate l.toArray.size false).getD k false)=fun _=>false:=funext fun k=>J0 _ _;rw[this];exact hJ
theorem W.nt0 [Go.Vc.B4] {id:Nat} {l:List Oper} {Q:Exit->Env->World->Prop} {e:Env} {w:World} (k:Nat) (Cl:World->Prop) (hm:P.follows .mixedOrders=true) (hB:Bg0 n l.toArray=true) (hA:pp0 l k=true) (hk:Nat.blt k l.length=true)
  (hC:Cl w.drew) (h:QL P l.toArray Cl (fun e'=>∀w',Cl w'->L P n l.toArray Q (l.drop k) e' w') 0 (l.take k) e):W P n (.region id l.toArray true) Q e w:=by
 refine W.bv1 k hm hB hA hk fun V _ _=>⟨fun _=>Cl,hC,?_⟩
 have mono:∀(l':List Oper) (i:Nat) (e:Env),JL P l.toArray V (fun _=>Cl) (fun e'=>∀w',Cl w'->L P n l.toArray Q (l.drop k) e' w') i l' e->JL P l.toArray V (fun _=>Cl) (fun e'=>∀(D:Nat->Bool) w',(∀i,i<k->D i=true)->Cl w'->L P n l.toArray Q (l.drop k) e' w') i l' e:=by
  intro l'
  induction l' with
  |nil=>exact fun i e h _ w' _ hw=>h w' hw
  |cons o l' ih=>exact fun i e ⟨v,h1,h2⟩=>⟨v,h1,ih _ _ h2⟩
 exact mono _ 0 e (h V)
end
section
variable {P:Program}[Ctx P]
end
section
variable {P:Program}{ρ:Operand->Value}{w:World}{d:Option Nat}{ty:TypeId}{ps:String}{af:Array Edge}{g:Option (Nat×Bool)}
variable {x y:Operand}{T T' E:TypeId}
theorem m8 {q:Option Addr} (hx:ρ x= .pointer q) (hy:ρ y= .pointer none) (hT:P.underlying T=some (.pointer E)) :
  Does P (execOp ρ ⟨d,.binOp .neq T x y T',ty,ps,af,g⟩) w (.val (.bool q.isSome)) w :=
 .Q0 (Br0 hx hy) rfl rfl fun _τ _d=>Go.Vc.m8 (hx:=hx) (hy:=hy) (hT:=hT)
theorem ch0 {v:Value} {b:Bool} {u:TypeDesc} (hx:ρ x=v) (hv:(v= .nilFunc/\b=true)\/(∃f xs ys,v= .func f xs ys/\b=false)) (hy:ρ y= .nilFunc) (hT:P.underlying T=some u) (hu:∃a b c,u= .func a b c) :
  Does P (execOp ρ ⟨d,.binOp .eql T x y T',ty,ps,af,g⟩) w (.val (.bool b)) w :=
 .Q0 (Jq0 (iw1 hv) hx hy) rfl rfl fun _τ _d=>Go.Vc.ch0 (hx:=hx) (hv:=hv) (hy:=hy) (hT:=hT) (hu:=hu)
theorem cq0 {v:Value} {b:Bool} {u:TypeDesc} (hx:ρ x=v) (hv:(v= .nilFunc/\b=false)\/(∃f xs ys,v= .func f xs ys/\b=true)) (hy:ρ y= .nilFunc) (hT:P.underlying T=some u) (hu:∃a b c,u= .func a b c) :
  Does P (execOp ρ ⟨d,.binOp .neq T x y T',ty,ps,af,g⟩) w (.val (.bool b)) w :=
 .Q0 (Fa0 (iw1 hv) hx hy) rfl rfl fun _τ _d=>Go.Vc.cq0 (hx:=hx) (hv:=hv) (hy:=hy) (hT:=hT) (hu:=hu)
theorem in0 {f:FuncId} {fn:Func} {aT:Array TypeId} {ys:Array Value} (hx:ρ x= .func (.func f) #[] ys) (hf:P.funcs[f]? =some fn) (hb:fn.body.isSome=true) (hn:(fn.name== "runtime.NumGoroutine")=false) :
  Does P (execOp ρ ⟨d,.call ⟨.value x,#[],aT⟩,ty,ps,af,g⟩) w (.enter f ys) w :=
 .Q0 (bx0 hx hf hb hn) rfl rfl fun _τ _d=>Go.Vc.in0 (hx:=hx) (hf:=hf) (hb:=hb) (hn:=hn)
end
section
variable {P:Program}[Ctx P]
end
section
end
section
variable {P:Program}[Ctx P]{n:Nat}{ops:Array Oper}{Q:Exit->Env->World->Prop}{rest:List Oper}{e:Env}{w:World}{ty:TypeId}{ps:String}{af:Array Edge}{x y:Operand}{T:TypeId}
theorem L.put [Go.Vc.B4] {b o s:Nat} {cs:Array Value} {vs:List Value} {E:TypeId} {v:Value} (k7:Array Value) (hx:ev e x= .pointer (some ⟨b,o,none⟩)) (hy:ev e y=v) (hvs:v.cells.toList=vs) (hs:(P.info? T).map (·.size)=some s) (hl:vs.length=s) (h1:vs.all Value.oneCell'=true) (hB:K0 w b cs E) (ho:o+s <=cs.size) (hcs:setRow cs o vs=k7)
  (k:∀w1,K0 w1 b k7 E->w.grownBy w1 (some b)->w1.heap.size=w.heap.size->L P n ops Q rest e w1):L P n ops Q (⟨none,.store T x y,ty,ps,af,none⟩::rest) e w:=by
 have bw1:v.cells=vs.toArray:=by rw[<- hvs]
 refine L.Nj0 hx hy bw1 hs (by simpa using hl) (by simpa using h1) hB ho ?_;rw[List.toList_toArray,hcs];exact k _ (il0 _ _ _ hB) (My0 (gc0 _ _) (.inl rfl) _ _) (nr0 _ _ _ _)
theorem L.pu [Go.Vc.B4] {b s:Nat} {cs:Array Value} {E:TypeId} {v:Value} (o:Nat) (vs:List Value) (k7:Array Value) (hs:(P.info? T).map (·.size)=some s) (hB:K0 w b cs E) (k:∀w1,K0 w1 b k7 E->w.grownBy w1 (some b)->w1.heap.size=w.heap.size->L P n ops Q rest e w1) (hx:ev e x= .pointer (some ⟨b,o,none⟩):=by rfl) (hy:ev e y=v:=by rfl) (hvs:v.cells.toList=vs:=by rfl) (hl:vs.length=s:=by rfl) (h1:vs.all Value.oneCell'=true:=by rfl) (ho:o+s <=cs.size:=by exact Nat.le_of_ble_eq_true rfl) (hcs:setRow cs o vs=k7:=by rfl):L P n ops Q (⟨none,.store T x y,ty,ps,af,none⟩::rest) e w:=L.put k7 hx hy hvs hs hl h1 hB ho hcs k
theorem L.pa [Go.Vc.B4] {b s:Nat} {cs:Array Value} {E:TypeId} {v:Value} (vs:List Value) (hs:(P.info? T).map (·.size)=some s) (hB:K0 w b cs E) (k:∀w1,K0 w1 b vs.toArray E->w.grownBy w1 (some b)->w1.heap.size=w.heap.size->L P n ops Q rest e w1) (hx:ev e x= .pointer (some ⟨b,0,none⟩):=by rfl) (hy:ev e y=v:=by rfl) (hvs:v.cells.toList=vs:=by rfl) (hl:vs.length=s:=by rfl) (h1:vs.all Value.oneCell'=true:=by rfl) (ho:0+s <=cs.size:=by exact Nat.le_of_ble_eq_true rfl) (hcs:setRow cs 0 vs=vs.toArray:=by exact Et0 rfl):L P n ops Q (⟨none,.store T x y,ty,ps,af,none⟩::rest) e w:=L.put vs.toArray hx hy hvs hs hl h1 hB ho hcs k
end
theorem ends.cell {P:Program} [Ctx P] {fn:Func} {R:Value->World->Prop} {x:Exit} {e:Env} {w:World} {t b:Nat} {cs:Array Value} {T E:TypeId} {u:TypeDesc} (hx:x= .normal\/x= .ret) (hr:fn.results=#[.cell t T])
  (he:e t= .pointer (some ⟨b,0,Option.none⟩)) (hT:P.underlying T=some u) (hu:bt0 u=false) (hs:(P.info? T).map (·.size)=some cs.size) (hB:K0 w b cs E) (h:R (.agg cs) w):ends P fn R x e w:=ends.Ux0 hx hr he hT hu hs hB h
theorem ends.Uz0 {P:Program} [Ctx P] {fn:Func} {R:Value->World->Prop} {x:Exit} {e:Env} {w:World} {t u b:Nat} {cs:Array Value} {T E:TypeId} {d:TypeDesc} (hx:x= .normal\/x= .ret) (hr:fn.results=#[.cell t T,.tmp u])
  (he:e t= .pointer (some ⟨b,0,Option.none⟩)) (hT:P.underlying T=some d) (hu:bt0 d=false) (hs:(P.info? T).map (·.size)=some cs.size) (hB:K0 w b cs E) (h:R (.tuple #[.agg cs,e u]) w):ends P fn R x e w :=
 ⟨hx,_,fun tmps ht=>gg0 gh0 fun τ d'=>by
  have hB:K0 (V2 w τ d') b cs E:=hB;generalize V2 w τ d'=w at hB⊢;have h1:(loadVar T ⟨b,0,Option.none⟩).run P w= .ok (.agg cs) w:=by
   have h2:∀j v,cs.toList[j]? =some v->w.cell? ((⟨b,0,Option.none⟩:Addr).add j)=some v:=fun j v hj=>by
    rw[Addr.add_lit,Nat.zero_add];exact hB.cell (by simpa using hj)
   have:=run_loadCells_list (P:=P) (w:=w) ⟨b,0,Option.none⟩ cs.toList h2;simp only[Array.length_toList]at this;simp[loadVar,Go.Vc.cg0 hT,hu,Go.Vc.run_sizeOf hs,this]
  have h3:tmps.getD t undef= .pointer (some ⟨b,0,Option.none⟩):=by rw[ht,he]
  rw[results_cell_tmp hr,h3];simp[asAddr,h1,ht],h⟩
theorem u5 {P:Program} [Ctx P] {ρ:Operand->Value} {w:World} {d:Option Nat} {ty:TypeId} {ps:String} {af:Array Edge} {g:Option (Nat×Bool)} {fn:Fn} {l:List Operand} {vs:List Value} (h:l.map ρ=vs) :
  Does P (execOp ρ ⟨d,.makeFunc fn #[] l.toArray,ty,ps,af,g⟩) w (.val (.func fn #[] vs.toArray)) w :=
 .Q0 (Y1 rfl _) rfl rfl fun _τ _d=>Go.Vc.u5 (h:=h)
section
variable {P:Program}[Ctx P]
end
section
variable {P:Program}[Ctx P]
end
section
variable {P:Program}[Ctx P]{n:Nat}{Q:Exit->Env->World->Prop}{e:Env}{w:World}{ops:Array Oper}{rest:List Oper}
variable {d:Nat}{ty:TypeId}{ps:String}{af:Array Edge}{T E:TypeId}{x y:Operand}
theorem L.Va0 [Go.Vc.B4] {m c s bytes:Nat} {zv z0:Value} (hx:ev e x= .int .i64 (m:Int)) (hy:ev e y= .int .i64 (c:Int)) (hT:P.underlying T=some (.slice E)) (hi:(P.info? E).map (fun i=>(i.zero,i.size,i.bytes))=some (some zv,s,bytes)) (hz:zv.cells=Array.replicate s z0) (hs:0<s)
  (hmc:m <=c) (hm:c <=9223372036854775807) (hb:c*bytes <=281474976710656) (k:∀w1 b,gw0 w w1 b (Array.replicate (c*s) z0) E->L P n ops Q rest (upd e d (.slice (some ⟨b,0,none⟩) m c)) w1) :
  L P n ops Q (⟨some d,.makeSlice T x y,ty,ps,af,none⟩::rest) e w:=by
 refine L.va (w':=w.alloc (.cells (Array.replicate (c*s) z0) E)) (.Q0 (Y1 rfl _) rfl rfl fun τ d'=>?_) (k _ _ (v7 w _ E));show(execOp (ev e) ⟨some d,.makeSlice T x y,ty,ps,af,none⟩).run P (V2 w τ d')= .ok (.value (.slice (some ⟨(V2 w τ d').heap.size,0,none⟩) m c)) ((V2 w τ d').alloc (.cells (Array.replicate (c*s) z0) E));generalize V2 w τ d'=w;obtain⟨i,hi'⟩:∃i,P.info? E=some i:=by cases hh:P.info? E with|none=>rw[hh]at hi;cases hi|some i=>exact⟨i,rfl⟩
 rw[hi']at hi;simp only[Option.map_some,Option.some.injEq,Prod.mk.injEq]at hi;obtain⟨h1,rfl,rfl⟩:=hi;have hr:=run_make (P:=P) w T E i zv hT hi' h1 .i64 .i64 (m:Int) (c:Int) (by omega) (by omega) (by
  have:((c*i.bytes:Nat):Int) <=281474976710656:=by omega
  rw[Int.natCast_mul,Int.mul_comm]at this;exact this) (by omega)
 rw[hz,jr0 _ _ hs]at hr;simp only[Int.toNat_natCast]at hr;simp only[execOp,hx,hy,Sem.run_bind,hr,Result.andThen_ok,Sem.run_pure]
end
section
variable {P:Program}[Ctx P]
end
section
variable {P:Program}[Ctx P]
end
section
variable {P:Program}{ρ:Operand->Value}{w:World}{d:Option Nat}{ty:TypeId}{ps:String}{af:Array Edge}{g:Option (Nat×Bool)}{x:Operand}{T E:TypeId}
theorem pr0 {v zv:Value} (hx:ρ x=v) (h1:v.oneCell'=true) (hT:P.underlying T=some (.slice E)) (hs:(P.info? E).map (·.size)=some 1) (hz:(P.info? E).bind (·.zero)=some zv) (hzc:zv.cells.size=1) :
  Does P (execOp ρ ⟨d,.buildSlice T 1 #[(0,x)],ty,ps,af,g⟩) w (.val (.slice (some ⟨w.heap.size,0,none⟩) 1 1)) (w.alloc (.cells #[v] E)) :=
 .Q0 (Y1 rfl _) rfl rfl fun _τ _d=>Go.Vc.pr0 (hx:=hx) (h1:=h1) (hT:=hT) (hs:=hs) (hz:=hz) (hzc:=hzc)
end
section
variable {P:Program}[Ctx P]
end
section
variable {P:Program}[Ctx P]{ops:Array Oper}{n:Nat}{I:(Nat->Bool)->Env->World->Prop}
def pu1 (P:Program) [Ctx P] (I:(Nat->Bool)->Env->World->Prop) (i:Nat) (o:Oper) (D:Nat->Bool) (e:Env) (r:Out) (w':World):Prop:=match r with
 | .val v=>I (A6 D i) (R3 e o.dst v) w'
 | .skip=>I (A6 D i) (R3 e o.dst undef) w'
 | .enter f args=>C P f args w' (fun v w''=>I (A6 D i) (R3 e o.dst v) w'')
 | .panic _=>False
def Hs0 (P:Program) [Ctx P] (ops:Array Oper) (I:(Nat->Bool)->Env->World->Prop) (i:Nat) (o:Oper) (D:Nat->Bool) (e:Env) (w:World):Prop :=
 (Region.wanted o (G3 ops e)=true/\∀τ d,∃r w',Bf0 P (execOp (ev e) o) (V2 w τ d) r w'/\pu1 P I i o D e r (V2 w' w.tape w.drawn)) \/
 (Region.wanted o (G3 ops e)=false/\I (A6 D i) (R3 e o.dst undef) w)
theorem Vb0 [Go.Vc.B4] (h:Bk n ops) (bi0:∀i o,ops[i]? =some o->∀D e w,D i=false->B6 o D->(∀j o',ops[j]? =some o'->D j=true->B6 o' D)->I D e w->Hs0 P ops I i o D e w)
  {Q:Exit->Act->World->Prop} (hQ:∀a w D e,Rep n a e->(∀i,i<ops.size->D i=true)->I D e w->Q .normal a w) :
  ∀{listed:Array Bool} {σ:List Nat},Lin ops listed σ->∀(a:Act) (e:Env) (w:World),listed.size=ops.size->Rep n a e->(∀j o',ops[j]? =some o'->listed.getD j false=true->B6 o' (fun k=>listed.getD k false))->I (fun k=>listed.getD k false) e w->wpOps P ops Q σ a w:=by
 intro listed σ H5
 induction H5 with
 | @nil listed hr=>
  intro a e w hs ha _ hI;exact hQ a w _ e ha (jy0 h hs hr) hI
 | @cons listed i σ hi _ ih=>
  intro a e w hs ha r7 hI;obtain⟨h1,o,ho,C6⟩:=mem_ready.1 hi;have hio:i<ops.size:=(Array.getElem?_eq_some_iff.1 ho).1;have M7:i<listed.size:=by omega
  have hDi:(fun k=>listed.getD k false) i=false:=by
   show listed.getD i false=false;simp only[Array.getD_eq_getD_getElem?,M7,Array.getElem?_eq_getElem,Option.getD_some]at h1⊢;exact h1
  have hs':=bi0 i o ho (fun k=>listed.getD k false) e w hDi C6 r7 hI;have jl0:∀j o',ops[j]? =some o'->(listed.setIfInBounds i true).getD j false=true->B6 o' (fun k=>(listed.setIfInBounds i true).getD k false):=by
   intro j o' ho' hj x hx hb;by_cases hij:i=j
   ·subst hij;obtain rfl:o'=o:=Option.some.inj (ho'.symm.trans ho);exact getD_set_true (C6 x hx hb)
   ·rw[getD_set_ne false hij]at hj;exact getD_set_true (r7 j o' ho' hj x hx hb)
  have next:∀v w',I (A6 (fun k=>listed.getD k false) i) (R3 e o.dst v) w'->wpOps P ops Q σ (a.put o.dst v) w':=fun v w' hI'=>
   ih _ _ w' (by simp[hs]) (ha.put (h.dst i o ho) v) jl0 (by rw[kw0 M7];exact hI')
  unfold wpOps;rw[ho];simp only;rw[Q5 ha];rcases hs' with⟨hw,hr⟩|⟨hw,hr⟩
  ·rw[if_pos hw];intro τ d;rw[ha.eval];obtain⟨r,w',h1,h2⟩:=hr τ d;refine⟨r,w',h1,?_⟩;cases r with
   |val u=>exact next u _ h2
   |skip=>exact next undef _ h2
   |enter f args=>
    refine Calls.mono h2 fun x w'' hx=>?_;cases x with
    |returned u=>exact next u w'' hx
    |panicked ch=>exact hx.elim
    |outgrown=>exact hx.elim
   |panic u=>exact h2.elim
  ·rw[if_neg (by rw[hw];simp)];exact next undef w hr
theorem W.inv [Go.Vc.B4] {id:Nat} {l:List Oper} {Q:Exit->Env->World->Prop} {e:Env} {w:World} (I:(Nat->Bool)->Env->World->Prop) (hm:P.follows .mixedOrders=true) (hB:Zb0 n l.toArray=true) (h0:I (fun _=>false) e w.drew)
  (bi0:∀i o,l[i]? =some o->∀D e w,D i=false->B6 o D->(∀j o',l[j]? =some o'->D j=true->B6 o' D)->I D e w->Hs0 P l.toArray I i o D e w)
  (dd0:∀D e w,(∀i,i<l.length->D i=true)->I D e w->Q .normal e w):W P n (.region id l.toArray true) Q e w:=by
 intro a ha;have ho:=ip1 hB;refine wp_region_draw fun t=>?_;simp only[Region.schedule,hm,Bool.true_or,if_true];have H5:=jw0 l.toArray l.toArray.size t (Array.replicate l.toArray.size false) (by simp) (by simp);unfold Region.linearise;generalize Region.linearise.go .any l.toArray l.toArray.size t (Array.replicate l.toArray.size false) []=σ at H5⊢;refine Vb0 (I:=I) ho (fun i o hi D e w h1 h2 h3 h4=>bi0 i o (by simpa using hi) D e w h1 h2 (fun j o' hj=>h3 j o' (by simpa using hj)) h4) (fun a' w' D e' ha' hD hI=>⟨e',ha',dd0 D e' w' (fun i hi=>hD i (by simpa using hi)) hI⟩) H5 a e _ (by simp) ha (fun j o' _ hj=>?_) ?_
 ·rw[J0]at hj;cases hj
 ·have:(fun k=>(Array.replicate l.toArray.size false).getD k false)=fun _=>false:=funext fun k=>J0 _ _;rw[this];exact h0
end
section
variable {P:Program}[Ctx P]
end
section
variable {P:Program}[Ctx P]{n:Nat}{ops:Array Oper}{Q:Exit->Env->World->Prop}{rest:List Oper}{e:Env}{w:World}{ty:TypeId}{ps:String}{af:Array Edge}{x y:Operand}{T:TypeId}
theorem L.Bu0 [Go.Vc.B4] {B m c i:Nat} {E:TypeId} {a:Option Addr} {f:Nat->Value} {v:Value} (hx:ev e x= .pointer (some ⟨ab a,ao a+i*1,none⟩)) (hy:ev e y=v) (hs:(P.info? T).map (·.size)=some 1) (h1:v.oneCell'=true) (hO:Own w B E 1 a m c (lst f m)) (hi:i<m)
  (k:∀w1,Own w1 B E 1 a m c (lst (upf f i v) m)->N4 w w1 B [E]->L P n ops Q rest e w1):L P n ops Q (⟨none,.store T x y,ty,ps,af,none⟩::rest) e w:=by
 have ha:=hO.ga0 (by omega);obtain⟨r,rfl⟩:=hO.oq0 ha;obtain⟨cur,hB,hb,hnc,hcm,hcs,ht⟩:=hO.row ha;simp only[ab,ao,Option.map_some,Option.getD_some,Nat.zero_add,Nat.mul_one]at *;refine L.store hx hy hs h1 hB (by omega) ?_;have hB':=hB.set (o:=i) v;refine k _ ⟨by rw[du0];omega,.inr ⟨r,c,_,rfl,hb,hB',hnc,hcm,by rw[Array.size_setIfInBounds];omega,?_⟩⟩ (N4.put hB (js0 w ⟨r,i,none⟩ v) hb (by simp));rw[Nat.mul_one,Array.toList_setIfInBounds,List.take_set,ht,Ut0 hi]
end
section
variable {P:Program}[Ctx P]
end
section
variable {P:Program}{ρ:Operand->Value}{w:World}{d:Option Nat}{ty:TypeId}{ps:String}{af:Array Edge}{g:Option (Nat×Bool)}
theorem bh0 {S:TypeId} {x:Operand} {v:Value} {td:TypeDesc} (hx:ρ x=v) (hT:P.underlying S=some td) (hn:(match td with| .interface _=>false|_=>true)=true) :
  Does P (execOp ρ ⟨d,.makeInterface S x,ty,ps,af,g⟩) w (.val (.iface S v)) w :=
 .Q0 (Y1 rfl _) rfl rfl fun _τ _d=>Go.Vc.bh0 (hx:=hx) (hT:=hT) (hn:=hn)
end
section
variable {P:Program}[Ctx P]
end
def FL [Go.Vc.B4] (P:Program) [Ctx P] (n:Nat) (l0:List Oper) (K:World->Prop) (ch:Nat->Bool) (Q:Env->World->Prop):List Nat->Env->World->Prop
 | [],e,w=>Q e w
 |i::rest,e,w=>∃o,l0[i]? =some o/\if ch i=true then L P n l0.toArray (fun x e' w'=>x= .normal/\K w'/\FL P n l0 K ch Q rest e' w') [o] e w
  else ∃v,((Region.wanted o (G3 l0.toArray e)=true/\∀w',K w'->Does P (execOp (ev e) o) w' (.val v) w')\/(Region.wanted o (G3 l0.toArray e)=false/\v=undef))/\FL P n l0 K ch Q rest (R3 e o.dst v) w
section
variable {P:Program}[Ctx P]{n:Nat}{l0:List Oper}{K:World->Prop}{ch:Nat->Bool}{Q:Env->World->Prop}{rest:List Nat}{e:Env}{w:World}{d:Nat}{op:Op}{ty:TypeId}{ps:String}{af:Array Edge}{v:Value}{i:Nat}{o:Oper}
theorem F.nil [Go.Vc.B4] (h:Q e w):FL P n l0 K ch Q [] e w:=h
theorem F.va [Go.Vc.B4] (hl:l0[i]? =some ⟨some d,op,ty,ps,af,none⟩) (hc:ch i=false) (hr:∀w',K w'->Does P (execOp (ev e) ⟨some d,op,ty,ps,af,none⟩) w' (.val v) w') (k:FL P n l0 K ch Q rest (upd e d v) w):FL P n l0 K ch Q (i::rest) e w :=
 ⟨_,hl,by rw[if_neg (by simp[hc])];exact⟨v,.inl ⟨rfl,hr⟩,k⟩⟩
theorem F.doo [Go.Vc.B4] (hl:l0[i]? =some o) (hc:ch i=true) (h:L P n l0.toArray (fun x e' w'=>x= .normal/\K w'/\FL P n l0 K ch Q rest e' w') [o] e w):FL P n l0 K ch Q (i::rest) e w :=
 ⟨_,hl,by rw[if_pos hc];exact h⟩
end
def Ze0 (P:Program) [Ctx P] (S:Sem Next) (v:Value) (w:World):Prop:=Does P S w (.val v) w\/∃f args,Does P S w (.enter f args) w/\C P f args w fun r w'=>r=v/\w'=w
def FP [Go.Vc.B4] (P:Program) [Ctx P] (n:Nat) (l0:List Oper) (PQ:List PanicEntry->World->Prop) (ch al:Nat->Bool) (Q:Env->World->Prop):List Nat->(World->Prop)->Env->World->Prop
 | [],_,e,w=>Q e w
 |i::rest,K,e,w=>∃o,l0[i]? =some o/\if ch i=true then L P n l0.toArray (fun x e' w'=>(x= .normal/\∃K',(K'=K\/al i=true)/\K' w'/\FP P n l0 PQ ch al Q rest K' e' w')\/∃c,x= .panic c/\PQ c w') [o] e w
  else ∃v,((Region.wanted o (G3 l0.toArray e)=true/\∀w',K w'->Ze0 P (execOp (ev e) o) v w')\/(Region.wanted o (G3 l0.toArray e)=false/\v=undef))/\FP P n l0 PQ ch al Q rest K (R3 e o.dst v) w
section
variable {P:Program}[Ctx P]{n:Nat}{l0:List Oper}{PQ:List PanicEntry->World->Prop}{K:World->Prop}{ch al:Nat->Bool}{Q:Env->World->Prop}{rest:List Nat}{e:Env}{w:World}{d:Nat}{op:Op}{ty:TypeId}{ps:String}{af:Array Edge}{v:Value}{i:Nat}{o:Oper}
theorem FP.nil [Go.Vc.B4] (h:Q e w):FP P n l0 PQ ch al Q [] K e w:=h
theorem FP.va [Go.Vc.B4] (hl:l0[i]? =some ⟨some d,op,ty,ps,af,none⟩) (hc:ch i=false) (hr:∀w',K w'->Does P (execOp (ev e) ⟨some d,op,ty,ps,af,none⟩) w' (.val v) w') (k:FP P n l0 PQ ch al Q rest K (upd e d v) w):FP P n l0 PQ ch al Q (i::rest) K e w :=
 ⟨_,hl,by rw[if_neg (by simp[hc])];exact⟨v,.inl ⟨rfl,fun w' h=>.inl (hr w' h)⟩,k⟩⟩
theorem FP.doo [Go.Vc.B4] (hl:l0[i]? =some o) (hc:ch i=true) (h:L P n l0.toArray (fun x e' w'=>(x= .normal/\∃K',(K'=K\/al i=true)/\K' w'/\FP P n l0 PQ ch al Q rest K' e' w')\/∃c,x= .panic c/\PQ c w') [o] e w):FP P n l0 PQ ch al Q (i::rest) K e w :=
 ⟨_,hl,by rw[if_pos hc];exact h⟩
end
def iy1 (l0:List Oper) (os:List Nat) (al:Nat->Bool):Bool:=(List.range os.length).all fun b=>match os[b]? with
 |none=>false
 |some y=>!al y ||(os.take b).all fun x=>(Z8 l0 l0.length [y]).contains x
def bx1 (os:List Nat) (al:Nat->Bool) (V:(Nat->Bool)->Prop):Prop:=∀pre c suf,os=pre++c::suf->al c=true->∀D,V D->D c=true->∀j∈pre,D j=true
theorem Vc0 {l0:List Oper} {os:List Nat} {al:Nat->Bool} {V:(Nat->Bool)->Prop} (dv0:∀D,V D->∀i o,l0[i]? =some o->D i=true->B6 o D) (h:iy1 l0 os al=true):bx1 os al V:=by
 intro pre c suf he hc D hD hDc j hj;have h1:=List.all_eq_true.1 h pre.length (List.mem_range.2 (by rw[he];simp));have hy:os[pre.length]? =some c:=by rw[he];simp
 rw[hy]at h1;simp only[hc,Bool.not_true,Bool.false_or]at h1;have ht:os.take pre.length=pre:=by rw[he];simp
 rw[ht]at h1;exact y8 dv0 hD l0.length [c] (fun q hq=>by simp at hq;rw[hq];exact hDc) j (List.contains_iff_mem.1 (List.all_eq_true.1 h1 j hj))
structure FJ [Go.Vc.B4] (P:Program) [Ctx P] (n:Nat) (l0:List Oper) (k:Nat) (PQ:List PanicEntry->World->Prop) (K:World->Prop) (ch al:Nat->Bool) (Q:Env->World->Prop) (os:List Nat) (e0:Env) (D:Nat->Bool) (pre suf:List Nat) (e es:Env) (w:World):Prop where
 cat:os=pre++suf
 fl:FP P n l0 PQ ch al Q suf K es w
 done:∀x∈pre,ch x=true->D x=true
 sub:∀j,j<k->D j=true->j∈pre
 kD:K w
 hit:∀j o t,j<k->l0[j]? =some o->o.dst=some t->D j=true->e t=es t
 pk0:∀t,(∀j o,j<k->l0[j]? =some o->o.dst=some t->D j=false)->e t=e0 t
 out:∀t,(∀j o,l0[j]? =some o->j∈pre->o.dst≠some t)->es t=e0 t
 wait:∀j∈pre,D j=false->∃o E v,l0[j]? =some o/\(∀t∈o.looksAt l0.toArray,E t=es t)/\(∀t,o.dst=some t->es t=v) /\
  ((Region.wanted o (G3 l0.toArray E)=true/\∀w',K w'->Ze0 P (execOp (ev E) o) v w')\/(Region.wanted o (G3 l0.toArray E)=false/\v=undef))
 rep:∃a,Rep n a es
section
variable {P:Program}[Ctx P]{n:Nat}{l0:List Oper}{k:Nat}{PQ:List PanicEntry->World->Prop}{K:World->Prop}{ch al:Nat->Bool}{Q:Env->World->Prop}{os:List Nat}{e0:Env}{D:Nat->Bool}{V:(Nat->Bool)->Prop}
theorem FJ.look [Go.Vc.B4] (h:zc0 n l0.toArray k) (ho:ps0 l0 k ch os V) {pre suf:List Nat} {i:Nat} {e es:Env} {w:World} (hI:FJ P n l0 k PQ K ch al Q os e0 D pre (i::suf) e es w) (hc:ch i=false):∃es',FJ P n l0 k PQ K ch al Q os e0 D (pre ++ [i]) suf e es' w:=by
 obtain⟨o,hl,hf⟩:=hI.fl;rw[if_neg (by simp[hc])]at hf;obtain⟨v,hv,hf⟩:=hf;have hla:l0.toArray[i]? =some o:=by simpa using hl
 have pv1:D i=false:=by
  cases hD:D i with
  |false=>rfl
  |true=>exact absurd (hI.sub i (ho.lt i (by rw[hI.cat];simp)) hD) (ho.nodup pre i suf hI.cat)
 have pw1:=h.dst i o hla;have hik:i<k:=ho.lt i (by rw[hI.cat];simp);have hpk:∀j∈pre,j<k:=fun j hj=>ho.lt j (by rw[hI.cat];exact List.mem_append_left _ hj);have A1:∀t,o.dst=some t->∀j p,j<k->l0[j]? =some p->p.dst=some t->j=i:=fun t ht j p hj hp hpt=>h.one j i p o t hj hik (by simpa using hp) hla hpt ht;refine⟨R3 es o.dst v,⟨by rw[hI.cat];simp,hf,fun x hx hcx=>?_,fun j hj hD=>List.mem_append_left _ (hI.sub j hj hD),hI.kD,fun j p t hjk hp ht hD=>?_,hI.pk0,fun t hno=>?_,fun j hj hD=>?_,?_⟩⟩
 ·rcases List.mem_append.1 hx with hx|hx
  ·exact hI.done x hx hcx
  ·simp at hx;subst hx;rw[hc]at hcx;cases hcx
 ·rw[hI.hit j p t hjk hp ht hD];cases hd:o.dst with
  |none=>rfl
  |some d=>
   have:t≠d:=fun hh=>by
    have:=A1 d hd j p hjk hp (by rw[ht,hh]);subst this;rw[pv1]at hD;cases hD
   exact(upd_ne _ _ this).symm
 ·cases hd:o.dst with
  |none=>exact hI.out t (fun j p hp hj=>hno j p hp (List.mem_append_left _ hj))
  |some d=>
   have:t≠d:=fun hh=>hno i o hl (List.mem_append_right _ (by simp)) (by rw[hd,hh]);show upd es d v t=e0 t;rw[upd_ne _ _ this];exact hI.out t (fun j p hp hj=>hno j p hp (List.mem_append_left _ hj))
 ·rcases List.mem_append.1 hj with hjp|hj
  ·obtain⟨p,E,u,hp,hE,hu,hr⟩:=hI.wait j hjp hD;have N3:∀t,(t∈p.looksAt l0.toArray\/p.dst=some t)->R3 es o.dst v t=es t:=by
    intro t ht;cases hd:o.dst with
    |none=>rfl
    |some d=>
     refine upd_ne _ _ (fun hh=>?_);subst hh;rcases ht with ht|ht
     ·obtain⟨x,hx,hb,rfl⟩:=h.look j i p o t (hpk j hjp) hik (by simpa using hp) hla hd ht;obtain⟨q1,q2,hq⟩:=List.append_of_mem hjp;obtain⟨p',hp',Nm0⟩:=ho.iq1 q1 j (q2++x.on::suf) (by rw[hI.cat,hq];simp);obtain rfl:p'=p:=Option.some.inj (hp'.symm.trans hp);have hin:=Nm0 x hx hb;exact ho.nodup pre x.on suf hI.cat (by rw[hq];exact List.mem_append_left _ hin)
     ·have:=A1 t hd j p (hpk j hjp) hp ht;subst this;exact ho.nodup pre j suf hI.cat hjp
   exact⟨p,E,u,hp,fun t ht=>(hE t ht).trans (N3 t (.inl ht)).symm,fun t ht=>(N3 t (.inr ht)).trans (hu t ht),hr⟩
  ·simp at hj;subst hj;refine⟨o,es,v,hl,fun t ht=>?_,fun t ht=>by rw[ht];exact upd_same _ _ _,hv⟩;cases hd:o.dst with
   |none=>rfl
   |some d=>
    have hdt:t≠d:=fun hh=>by
     subst hh;obtain⟨x,hx,hb,he⟩:=h.look j j o o t hik hik hla hla hd ht;have:=h.back j o hla x hx hb;omega
    exact(upd_ne es v hdt).symm
 ·obtain⟨a,ha⟩:=hI.rep;exact⟨_,ha.put pw1 v⟩
theorem FJ.norm [Go.Vc.B4] (h:zc0 n l0.toArray k) (ho:ps0 l0 k ch os V):∀(suf pre:List Nat) {e es:Env} {w:World},FJ P n l0 k PQ K ch al Q os e0 D pre suf e es w->∃px1 by1 es',FJ P n l0 k PQ K ch al Q os e0 D px1 by1 e es' w/\(by1=[]\/∃c r,by1=c::r/\ch c=true)
 | [],pre,_,es,_,hI=>⟨pre,[],es,hI,.inl rfl⟩
 |i::suf,pre,_,es,_,hI=>by
  cases hc:ch i with
  |true=>exact⟨pre,i::suf,es,hI,.inr ⟨i,suf,rfl,hc⟩⟩
  |false=>
   obtain⟨es',hI'⟩:=hI.look h ho hc;exact FJ.norm h ho suf _ hI'
theorem FJ.looks [Go.Vc.B4] (h:zc0 n l0.toArray k) {pre suf:List Nat} {e es:Env} {w:World} (ho:ps0 l0 k ch os V) (hI:FJ P n l0 k PQ K ch al Q os e0 D pre suf e es w) {i:Nat} (hik:i<k) {o:Oper} (hl:l0[i]? =some o) (C6:B6 o D):∀t∈o.looksAt l0.toArray,e t=es t:=by
 intro t ht;by_cases hex:∃(j:Nat) (p:Oper),j<k/\l0[j]? =some p/\p.dst=some t
 ·obtain⟨j,p,hj,hp,hd⟩:=hex;obtain⟨x,hx,hb,rfl⟩:=h.look i j o p t hik hj (by simpa using hl) (by simpa using hp) hd ht;exact hI.hit x.on p t hj hp hd (C6 x hx hb)
 ·rw[hI.pk0 t (fun j p hj hp hd=>absurd ⟨j,p,hj,hp,hd⟩ hex),hI.out t (fun j p hp hj hd=>hex ⟨j,p,ho.lt j (by rw[hI.cat];exact List.mem_append_left _ hj),hp,hd⟩)]
end
theorem Nn0 [Go.Vc.B4] {P:Program} [Ctx P] {n:Nat} {l0:List Oper} {k:Nat} {PQ:List PanicEntry->World->Prop} {ch al:Nat->Bool} {Q:Env->World->Prop} {os:List Nat} {e0:Env} {V:(Nat->Bool)->Prop} (h:zc0 n l0.toArray k) (ho:ps0 l0 k ch os V) (hk:k <=l0.length) (hal:bx1 os al V)
  (de0:∀D,V D->∀i,k <=i->i<l0.toArray.size->D i=true->∀j,j<i->D j=true) (_hdeps:∀D,V D->∀i o,l0[i]? =some o->D i=true->B6 o D)
  {Q':Exit->Act->World->Prop} (hPQ:∀c w a e,Rep n a e->PQ c w->Q' (.panic c) a w) (hQ:∀a w e,Rep n a e->Q e w->wpOps P l0.toArray Q' (List.range' k (l0.toArray.size-k)) a w) :
  ∀{listed:Array Bool} {σ:List Nat},Lin l0.toArray listed σ->(∀τ ρ,σ=τ++ρ->V (fun j=>listed.getD j false ||τ.contains j)) ->
   ∀(K:World->Prop) (a:Act) (e es:Env) (w:World) (pre suf:List Nat),listed.size=l0.toArray.size->(∀j,k <=j->listed.getD j false=false)->Rep n a e->FJ P n l0 k PQ K ch al Q os e0 (fun j=>listed.getD j false) pre suf e es w->(suf=[]\/∃c r,suf=c::r/\ch c=true)->wpOps P l0.toArray Q' σ a w:=by
 have fin:∀{K:World->Prop} {D:Nat->Bool} {e es:Env} {w:World} {pre suf:List Nat},(∀j,j<k->D j=true)->(∀j,k <=j->D j=false)->FJ P n l0 k PQ K ch al Q os e0 D pre suf e es w->(suf=[]\/∃c r,suf=c::r/\ch c=true)->Q e w:=by
  intro K D e es w pre suf hD hD2 hI hs;have py1:suf=[]:=by
   rcases hs with hs|⟨c,r,rfl,_⟩
   ·exact hs
   ·have r7:=ho.lt c (by rw[hI.cat];simp);exact absurd (hI.sub c r7 (hD c r7)) (ho.nodup pre c r hI.cat)
  subst py1;have he:e=es:=by
   funext t;by_cases hex:∃(j:Nat) (p:Oper),j<k/\l0[j]? =some p/\p.dst=some t
   ·obtain⟨j,p,hj,hp,hd⟩:=hex;exact hI.hit j p t hj hp hd (hD j hj)
   ·rw[hI.pk0 t (fun j p hj hp hd=>absurd ⟨j,p,hj,hp,hd⟩ hex),hI.out t (fun j p hp hj hd=>hex ⟨j,p,ho.lt j (by rw[hI.cat];simpa using hj),hp,hd⟩)]
  rw[he];exact hI.fl
 intro listed σ H5
 induction H5 with
 | @nil listed hr=>
  intro _ K a e es w pre suf hs hkf ha hI hsf;have l7:=jy0 h.bk hs hr;have hkl:l0.toArray.size <=k:=by
   rcases Nat.lt_or_ge k l0.toArray.size with h3|h3
   ·have:=l7 k h3;rw[hkf k (Nat.le_refl _)]at this;cases this
   ·exact h3
  have:=hQ a w e ha (fin (fun j hj=>l7 j (by simp;omega)) hkf hI hsf);rw[show l0.toArray.size-k=0 by omega]at this;exact this
 | @cons listed i σ hi hl ih=>
  intro hV K a e es w pre suf hs hkf ha hI hsf;have hi0:=hi;obtain⟨h1,o,kz0,C6⟩:=mem_ready.1 hi;have hlo:l0[i]? =some o:=by simpa using kz0
  have hio:i<l0.toArray.size:=(Array.getElem?_eq_some_iff.1 kz0).1;have M7:i<listed.size:=by omega
  have hDi:listed.getD i false=false:=by
   simp only[Array.getD_eq_getD_getElem?,M7,Array.getElem?_eq_getElem,Option.getD_some]at h1⊢;exact h1
  have hVD:V (fun j=>listed.getD j false)/\V (A6 (fun j=>listed.getD j false) i):=by
   constructor
   ·have:=hV [] (i::σ) rfl;have e1:(fun j=>listed.getD j false ||([]:List Nat).contains j)=fun j=>listed.getD j false:=funext fun j=>by simp
    rw[e1]at this;exact this
   ·have:=hV [i] σ rfl;have e1:(fun j=>listed.getD j false ||([i]:List Nat).contains j)=A6 (fun j=>listed.getD j false) i:=funext fun j=>by
     unfold A6;by_cases hj:j=i
     ·simp[hj]
     ·simp[hj]
    rw[e1]at this;exact this
  by_cases hik:k <=i
  ·have V9:∀j,j<i->listed.getD j false=true:=fun j hj=>by
    have:=de0 _ hVD.2 i hik hio (by simp[A6]) j hj;unfold A6 at this;rw[if_neg (by omega)]at this;exact this
   have hki:i=k:=by
    rcases Nat.lt_or_ge k i with h3|h3
    ·have:=V9 k h3;rw[hkf k (Nat.le_refl _)]at this;cases this
    ·omega
   subst hki;rw[Bl0 (V:=V) h.bk (.cons hi0 hl) i (by omega) hs V9 (fun j hj=>hkf j hj) de0 hV];exact hQ a w e ha (fin V9 hkf hI hsf)
  ·have hik:i<k:=by omega
   have hV':∀τ ρ,σ=τ++ρ->V (fun j=>(listed.setIfInBounds i true).getD j false ||τ.contains j):=by
    intro τ ρ hσ;have:=hV (i::τ) ρ (by rw[hσ];rfl);have e1:(fun j=>listed.getD j false ||(i::τ).contains j)=fun j=>(listed.setIfInBounds i true).getD j false ||τ.contains j:=by
     funext j;by_cases hj:i=j
     ·subst hj;simp[M7]
     ·rw[getD_set_ne false hj];simp[Ne.symm hj]
    rw[e1]at this;exact this
   have iz1:∀j,k <=j->(listed.setIfInBounds i true).getD j false=false:=fun j hj=>by rw[getD_set_ne false (by omega)];exact hkf j hj
   have hlk:=hI.looks h ho hik hlo C6;have Uo0:(fun j=>(listed.setIfInBounds i true).getD j false)=A6 (fun j=>listed.getD j false) i:=kw0 M7;have hD1:A6 (fun j=>listed.getD j false) i i=true:=by simp[A6]
   have hDn:∀j,j≠i->A6 (fun j=>listed.getD j false) i j=listed.getD j false:=fun j hj=>by simp[A6,hj]
   have mem:i∈pre\/i∈suf:=by have:=ho.all i hik;rw[hI.cat]at this;exact List.mem_append.1 this
   rcases mem with hip|his
   ·
    obtain⟨o',E,v,J7,hE,hu,hr⟩:=hI.wait i hip hDi;obtain rfl:o'=o:=Option.some.inj (J7.symm.trans hlo);have hEe:∀t∈o'.looksAt l0.toArray,e t=E t:=fun t ht=>(hlk t ht).trans (hE t ht).symm;have hex:=fw0 (h.sel i o' hik kz0) hEe;have hwa:=fx0 hEe;have next:wpOps P l0.toArray Q' σ (a.put o'.dst v) w:=by
     refine ih hV' K _ (R3 e o'.dst v) es w pre suf (by simp[hs]) iz1 (ha.put (h.dst i o' kz0) v) ?_ hsf;rw[Uo0];refine⟨hI.cat,hI.fl,fun x hx hc=>?_,fun j hj hD=>?_,hI.kD,fun j p t hjk hp ht hD=>?_,fun t hno=>?_,hI.out,fun j hj hD=>?_,hI.rep⟩
     ·by_cases hxi:x=i
      ·subst hxi;exact hD1
      ·rw[hDn x hxi];exact hI.done x hx hc
     ·by_cases O3:j=i
      ·subst O3;exact hip
      ·rw[hDn j O3]at hD;exact hI.sub j hj hD
     ·by_cases O3:j=i
      ·subst O3;obtain rfl:p=o':=Option.some.inj (hp.symm.trans hlo);rw[ht];exact(upd_same _ _ _).trans (hu t ht).symm
      ·rw[hDn j O3]at hD;cases hd:o'.dst with
       |none=>exact hI.hit j p t hjk hp ht hD
       |some d=>
        have:t≠d:=fun hh=>O3 (h.one j i p o' t hjk hik (by simpa using hp) kz0 ht (by rw[hd,hh]));exact(upd_ne _ _ this).trans (hI.hit j p t hjk hp ht hD)
     ·have hnt:o'.dst≠some t:=fun hh=>by have:=hno i o' hik hlo hh;rw[hD1]at this;cases this
      have hm:=hI.pk0 t (fun j p hjk hp hd=>by
       have:=hno j p hjk hp hd;by_cases O3:j=i
       ·subst O3;exact hDi
       ·rwa [hDn j O3]at this)
      cases hd:o'.dst with
      |none=>exact hm
      |some d=>exact(upd_ne _ _ (fun hh=>hnt (by rw[hd,hh]))).trans hm
     ·have O3:j≠i:=fun hh=>by subst hh;rw[hD1]at hD;cases hD
      rw[hDn j O3]at hD;exact hI.wait j hj hD
    unfold wpOps;rw[kz0];simp only;rw[Q5 ha,hwa];rcases hr with⟨hw,hr⟩|⟨hw,hv⟩
    ·rw[if_pos hw];rcases hr w hI.kD with h9|⟨f,args,h9,hc9⟩
     ·exact ao0 (r:=.val v) (w':=w) (by rw[ha.eval,hex];exact h9) next
     ·refine ao0 (r:=.enter f args) (w':=w) (by rw[ha.eval,hex];exact h9) (Calls.mono hc9 fun x w'' hx=>?_);cases x with
      |returned u=>obtain⟨rfl,rfl⟩:=hx;exact next
      |panicked c=>exact hx.elim
      |outgrown=>exact hx.elim
    ·rw[if_neg (by rw[hw];simp),<- hv];exact next
   ·
    rcases hsf with hsf|⟨c,r,rfl,hc⟩
    ·rw[hsf]at his;cases his
    have hic:i=c:=by
     rcases List.mem_cons.1 his with h9|h9
     ·exact h9
     ·exfalso;obtain⟨m1,m2,hm⟩:=List.append_of_mem h9;have:=ho.wait pre c m1 i m2 (by rw[hI.cat,hm];simp) hc _ hVD.2 hD1;have hci:c≠i:=fun hh=>by
       subst hh;exact ho.nodup (pre++c::m1) c m2 (by rw[hI.cat,hm];simp) (by simp)
      rw[hDn c hci]at this;exact ho.nodup pre c r hI.cat (hI.sub c (ho.lt c (by rw[hI.cat];simp)) this)
    subst hic;obtain⟨o',J7,hf⟩:=hI.fl;obtain rfl:o'=o:=Option.some.inj (J7.symm.trans hlo);rw[if_pos hc]at hf;obtain⟨asx,has⟩:=hI.rep;have hfa:=hf (fun q hq=>by simp at hq;subst hq;exact h.dst i q kz0) asx has;have hex:=fw0 (h.sel i o' hik kz0) hlk;have hwa:=fx0 hlk;have next:∀v w' (K':World->Prop),(K'=K\/al i=true)->K' w'->FP P n l0 PQ ch al Q r K' (R3 es o'.dst v) w'->wpOps P l0.toArray Q' σ (a.put o'.dst v) w':=by
     intro v w' K' hKK hK hfl;have hI':FJ P n l0 k PQ K' ch al Q os e0 (A6 (fun j=>listed.getD j false) i) (pre ++ [i]) r (R3 e o'.dst v) (R3 es o'.dst v) w':=by
      have A1:∀t,o'.dst=some t->∀j p,j<k->l0[j]? =some p->p.dst=some t->j=i:=fun t ht j p hjk hp hpt=>h.one j i p o' t hjk hik (by simpa using hp) kz0 hpt ht;have hpk:∀j∈pre,j<k:=fun j hj=>ho.lt j (by rw[hI.cat];exact List.mem_append_left _ hj);refine⟨by rw[hI.cat];simp,hfl,fun x hx hcx=>?_,fun j hj hD=>?_,hK,fun j p t hjk hp ht hD=>?_,fun t hno=>?_,fun t hno=>?_,fun j hj hD=>?_,⟨_,has.put (h.dst i o' kz0) v⟩⟩
      ·by_cases hxi:x=i
       ·subst hxi;exact hD1
       ·rw[hDn x hxi];rcases List.mem_append.1 hx with hx|hx
        ·exact hI.done x hx hcx
        ·simp at hx;exact absurd hx hxi
      ·by_cases O3:j=i
       ·subst O3;simp
       ·rw[hDn j O3]at hD;exact List.mem_append_left _ (hI.sub j hj hD)
      ·by_cases O3:j=i
       ·subst O3;obtain rfl:p=o':=Option.some.inj (hp.symm.trans hlo);rw[ht];exact(upd_same _ _ _).trans (upd_same _ _ _).symm
       ·rw[hDn j O3]at hD;cases hd:o'.dst with
        |none=>exact hI.hit j p t hjk hp ht hD
        |some d=>
         have:t≠d:=fun hh=>O3 (A1 d hd j p hjk hp (by rw[ht,hh]));show upd e d v t=upd es d v t;rw[upd_ne _ _ this,upd_ne _ _ this];exact hI.hit j p t hjk hp ht hD
      ·have hnt:o'.dst≠some t:=fun hh=>by have:=hno i o' hik hlo hh;rw[hD1]at this;cases this
       have hm:=hI.pk0 t (fun j p hjk hp hd=>by
        have:=hno j p hjk hp hd;by_cases O3:j=i
        ·subst O3;exact hDi
        ·rwa [hDn j O3]at this)
       cases hd:o'.dst with
       |none=>exact hm
       |some d=>exact(upd_ne _ _ (fun hh=>hnt (by rw[hd,hh]))).trans hm
      ·have hnt:o'.dst≠some t:=hno i o' hlo (by simp);have hm:=hI.out t (fun j p hp hj=>hno j p hp (List.mem_append_left _ hj));cases hd:o'.dst with
       |none=>exact hm
       |some d=>exact(upd_ne _ _ (fun hh=>hnt (by rw[hd,hh]))).trans hm
      ·have O3:j≠i:=fun hh=>by subst hh;rw[hD1]at hD;cases hD
       rw[hDn j O3]at hD;have hjp:j∈pre:=by
        rcases List.mem_append.1 hj with hj|hj
        ·exact hj
        ·simp at hj;exact absurd hj O3
       rcases hKK with rfl|hKK
       rotate_left
       ·exfalso;have:=hal pre i r hI.cat hKK _ hVD.2 hD1 j hjp;rw[hDn j O3,hD]at this;cases this
       obtain⟨p,E,u,hp,hE,hu,hr⟩:=hI.wait j hjp hD;have N3:∀t,(t∈p.looksAt l0.toArray\/p.dst=some t)->R3 es o'.dst v t=es t:=by
        intro t ht;cases hd:o'.dst with
        |none=>rfl
        |some d=>
         refine upd_ne _ _ (fun hh=>?_);subst hh;rcases ht with ht|ht
         ·obtain⟨x,hx,hb,rfl⟩:=h.look j i p o' t (hpk j hjp) hik (by simpa using hp) kz0 hd ht;obtain⟨q1,q2,hq⟩:=List.append_of_mem hjp;obtain⟨p',hp',Nm0⟩:=ho.iq1 q1 j (q2++x.on::r) (by rw[hI.cat,hq];simp);obtain rfl:p'=p:=Option.some.inj (hp'.symm.trans hp);have hin:=Nm0 x hx hb;exact ho.nodup pre x.on r hI.cat (by rw[hq];exact List.mem_append_left _ hin)
         ·exact O3 (A1 t hd j p (hpk j hjp) hp ht)
       exact⟨p,E,u,hp,fun t ht=>(hE t ht).trans (N3 t (.inl ht)).symm,fun t ht=>(N3 t (.inr ht)).trans (hu t ht),hr⟩
     obtain⟨pz1,qa1,es2,hI2,hs2⟩:=FJ.norm h ho r _ hI';exact ih hV' K' _ _ es2 w' pz1 qa1 (by simp[hs]) iz1 (ha.put (h.dst i o' kz0) v) (by rw[Uo0];exact hI2) hs2
    have nx:∀v w',lift n (fun x e' w'=>(x=Exit.normal/\∃K',(K'=K\/al i=true)/\K' w'/\FP P n l0 PQ ch al Q r K' e' w')\/∃c,x=Exit.panic c/\PQ c w') .normal (asx.put o'.dst v) w'->wpOps P l0.toArray Q' σ (a.put o'.dst v) w':=by
     rintro v w' ⟨e',hre,h9⟩;rcases h9 with⟨_,K',hKK,hK,hfl⟩|⟨c,h9,_⟩
     rotate_left
     ·cases h9
     have:e'=R3 es o'.dst v:=Rep.ext hre (has.put (h.dst i o' kz0) v);rw[this]at hfl;exact next v w' K' hKK hK hfl
    unfold wpOps;rw[kz0];simp only;rw[Q5 ha,hwa];unfold wpList at hfa;rw[Q5 has]at hfa;split at hfa
    ·rename_i hw;rw[if_pos hw];intro τ d;obtain⟨rr,w',h1,h2⟩:=hfa τ d;rw[has.eval]at h1;refine⟨rr,w',by rw[ha.eval,hex];exact h1,?_⟩;cases rr with
     |val u=>exact nx u _ h2
     |skip=>exact nx undef _ h2
     |enter f args=>
      refine Calls.mono h2 fun x w'' hx=>?_;cases x with
      |returned u=>exact nx u w'' hx
      |panicked ch=>
       obtain⟨e9,_,h9⟩:=hx;rcases h9 with⟨h9,_⟩|⟨c,h9,hp9⟩
       ·cases h9
       ·cases h9;exact hPQ _ _ _ _ ha hp9
      |outgrown=>exact hx.elim
     |panic u=>
      obtain⟨e9,_,h9⟩:=h2;rcases h9 with⟨h9,_⟩|⟨c,h9,hp9⟩
      ·cases h9
      ·cases h9;exact hPQ _ _ _ _ ha hp9
    ·rename_i hw;rw[if_neg hw];exact nx undef w hfa
theorem Zf0 [Go.Vc.B4] {P:Program} [Ctx P] {n:Nat} {l:List Oper} {Q:Exit->Env->World->Prop} {e:Env} {w:World} {k:Nat} {ch al:Nat->Bool} {os:List Nat} {PQ:List PanicEntry->World->Prop} {K:World->Prop} {σ:List Nat} (ho:zc0 n l.toArray k) (hA:pp0 l k=true) (hkl:k <=l.length) (hoo:ps0 l k ch os (Pre σ)) (hal:bx1 os al (Pre σ)) (H5:Lin l.toArray (Array.replicate l.toArray.size false) σ) (dv0:∀D,Pre σ D->∀i o,l[i]? =some o->D i=true->B6 o D)
  (hPQ:∀c w e,PQ c w->Q (.panic c) e w) (hK:K w) (h:FP P n l PQ ch al (fun e' w'=>L P n l.toArray Q (l.drop k) e' w') os K e w) {a:Act} (ha:Rep n a e):wpOps P l.toArray (lift n Q) σ a w:=by
 have h0:FJ P n l k PQ K ch al (fun e' w'=>L P n l.toArray Q (l.drop k) e' w') os e (fun j=>(Array.replicate l.toArray.size false).getD j false) [] os e e w :=
  ⟨rfl,h,(fun x hx=>by cases hx),(fun j _ hD=>absurd hD (by rw[J0];simp)),hK,(fun j o t _ _ _ hD=>absurd hD (by rw[J0];simp)),(fun t _=>rfl),(fun t _=>rfl),(fun j hj=>by cases hj),⟨a,ha⟩⟩
 obtain⟨pre,suf,es,hI,hs⟩:=FJ.norm ho hoo _ _ h0;refine Nn0 (V:=Pre σ) (PQ:=PQ) ho hoo hkl hal (fun D hD i hki M7=>pq0 hA dv0 hD i hki (by simpa using M7)) dv0 (fun c w' a' e' ha' hp=>⟨e',ha',hPQ c w' e' hp⟩) (fun a' w' e' ha' hq=>?_) H5 ?_ K a e es _ pre suf (by simp) (fun j _=>J0 _ _) ha hI hs
 ·have h4:=hq (fun o' ho'=>by
   obtain⟨i,hi⟩:=List.mem_iff_getElem?.1 ho';rw[List.getElem?_drop]at hi;exact ho.dst (k+i) o' (by simpa using hi)) a' ha'
  have h5:=wpOps_eq_wpList (P:=P) (ops:=l.toArray) (Q:=lift n Q) (l.drop k) k (fun j=>by rw[List.getElem?_drop];simp);rw[List.length_drop]at h5;have h6:l.toArray.size-k=l.length-k:=by simp
  rw[h6,h5];exact h4
 ·intro τ ρ hσ;exact⟨τ,ρ,hσ,fun k=>by show((Array.replicate l.toArray.size false).getD k false ||τ.contains k)=true↔_;rw[J0];simp⟩
theorem FL.fp [Go.Vc.B4] {P:Program} [Ctx P] {n:Nat} {l0:List Oper} {K:World->Prop} {ch:Nat->Bool} {Q:Env->World->Prop}:∀{os:List Nat} {e:Env} {w:World},FL P n l0 K ch Q os e w->FP P n l0 (fun _ _=>False) ch (fun _=>false) Q os K e w
 | [],_,_,h=>h
 |i::rest,e,w,⟨o,hl,h⟩=>by
  refine⟨o,hl,?_⟩;split at h
  ·rename_i hc;rw[if_pos hc];intro hd a ha;exact dw0 (fun x a w h=>by
    obtain⟨e',h1,h2,h3,h4⟩:=h;exact⟨e',h1,.inl ⟨h2,K,.inl rfl,h3,FL.fp h4⟩⟩) _ _ _ (h hd a ha)
  ·rename_i hc;rw[if_neg hc];obtain⟨v,h1,h2⟩:=h;exact⟨v,h1.imp (fun h=>⟨h.1,fun w' k=>.inl (h.2 w' k)⟩) id,FL.fp h2⟩
theorem No0 [Go.Vc.B4] {P:Program} [Ctx P] {n:Nat} {l:List Oper} {Q:Exit->Env->World->Prop} {e:Env} {w:World} {k:Nat} {ch:Nat->Bool} {os:List Nat} {K:World->Prop} {σ:List Nat} (ho:zc0 n l.toArray k) (hA:pp0 l k=true) (hkl:k <=l.length) (hoo:ps0 l k ch os (Pre σ)) (H5:Lin l.toArray (Array.replicate l.toArray.size false) σ) (dv0:∀D,Pre σ D->∀i o,l[i]? =some o->D i=true->B6 o D) (hK:K w) (h:FL P n l K ch (fun e' w'=>L P n l.toArray Q (l.drop k) e' w') os e w) {a:Act} (ha:Rep n a e):wpOps P l.toArray (lift n Q) σ a w :=
 Zf0 ho hA hkl hoo (fun _ _ _ _ hc=>by cases hc) H5 dv0 (fun _ _ _ h=>h.elim) hK h.fp ha
theorem W.fl [Go.Vc.B4] {P:Program} [Ctx P] {n:Nat} {id:Nat} {l:List Oper} {Q:Exit->Env->World->Prop} {e:Env} {w:World} (k:Nat) (ch:List Nat) (os:List Nat) (K:World->Prop) (hm:P.follows .mixedOrders=true) (hB:Bk0 n l.toArray k=true) (hA:pp0 l k=true) (hk:Nat.ble k l.length=true) (hO:wb0 l k (fun i=>ch.contains i) os=true)
  (hK:K w.drew) (h:FL P n l K (fun i=>ch.contains i) (fun e' w'=>L P n l.toArray Q (l.drop k) e' w') os e w.drew):W P n (.region id l.toArray true) Q e w:=by
 intro a ha;refine wp_region_draw fun t=>?_;simp only[Region.schedule,hm,Bool.true_or,if_true];have H5:=jw0 l.toArray l.toArray.size t (Array.replicate l.toArray.size false) (by simp) (by simp);unfold Region.linearise;generalize Region.linearise.go .any l.toArray l.toArray.size t (Array.replicate l.toArray.size false) []=σ at H5⊢;exact No0 (or0 hB) hA (Nat.le_of_ble_eq_true hk) (ky0 (T9 H5) (fun p hp=>by cases hp) hO) H5 (T9 H5) hK h ha
theorem W.fl2 [Go.Vc.B4] {P:Program} [Ctx P] {n:Nat} {id:Nat} {l:List Oper} {Q:Exit->Env->World->Prop} {e:Env} {w:World} (k:Nat) (ch:List Nat) (x y:Nat) (os os2:List Nat) (K:World->Prop) (hm:P.follows .mixedOrders=true) (hB:Bk0 n l.toArray k=true) (hA:pp0 l k=true) (hk:Nat.ble k l.length=true) (hO:wb0 l k (fun i=>ch.contains i) os [(x,y)]=true) (hO2:wb0 l k (fun i=>ch.contains i) os2 [(y,x)]=true)
  (hK:K w.drew) (h:FL P n l K (fun i=>ch.contains i) (fun e' w'=>L P n l.toArray Q (l.drop k) e' w') os e w.drew) (h2:FL P n l K (fun i=>ch.contains i) (fun e' w'=>L P n l.toArray Q (l.drop k) e' w') os2 e w.drew):W P n (.region id l.toArray true) Q e w:=by
 intro a ha;refine wp_region_draw fun t=>?_;simp only[Region.schedule,hm,Bool.true_or,if_true];have H5:=jw0 l.toArray l.toArray.size t (Array.replicate l.toArray.size false) (by simp) (by simp);unfold Region.linearise;generalize Region.linearise.go .any l.toArray l.toArray.size t (Array.replicate l.toArray.size false) []=σ at H5⊢;by_cases hxy:∀D,Pre σ D->D y=true->D x=true
 ·exact No0 (or0 hB) hA (Nat.le_of_ble_eq_true hk) (ky0 (T9 H5) (fun p hp=>by simp at hp;subst hp;exact hxy) hO) H5 (T9 H5) hK h ha
 ·have hyx:∀D,Pre σ D->D x=true->D y=true:=by
   intro D hD hDx;cases hDy:D y with
   |true=>rfl
   |false=>
    exfalso;refine hxy fun D' hD' hy'=>?_;rcases hD.chain hD' with h9|h9
    ·exact h9 x hDx
    ·have:=h9 y hy';rw[hDy]at this;cases this
  exact No0 (or0 hB) hA (Nat.le_of_ble_eq_true hk) (ky0 (T9 H5) (fun p hp=>by simp at hp;subst hp;exact hyx) hO2) H5 (T9 H5) hK h2 ha
section
end
section
variable {P:Program}[Ctx P]
end
section
variable {P:Program}{ρ:Operand->Value}{w:World}{d:Option Nat}{ty:TypeId}{ps:String}{af:Array Edge}{g:Option (Nat×Bool)}{x:Operand}{T E:TypeId}
theorem Ew0 {a:Option Addr} {n c:Nat} {m:Int} {aT:Array TypeId} (hm:((n:Nat):Int)=m) (hx:ρ x= .slice a n c) (hT:P.underlying T=some (.slice E)) (hA:aT[0]? =some T):Does P (execOp ρ ⟨d,.call ⟨.builtin .len,#[x],aT⟩,ty,ps,af,g⟩) w (.val (.int .i64 m)) w :=
 .Q0 (Y1 rfl _) rfl rfl fun _τ _d=>Go.Vc.Ew0 (hm:=hm) (hx:=hx) (hT:=hT) (hA:=hA)
end
section
variable {P:Program}[Ctx P]
end
section
variable {P:Program}[Ctx P]
end
end Go.Vy
end
section
namespace Go.Vy
open Go Go.Conc Go.Yc
abbrev Hid:=Nat->Option Obj
def over (H:Hid) (u:World):World:={u with heap:=u.heap.mapIdx fun b o=>(H b).getD o}
theorem pu0 (H:Hid) (u:World) (b:Nat):(over H u).heap[b]? =(u.heap[b]?).map fun o=>(H b).getD o:=by
 simp[over,Array.getElem?_mapIdx]
theorem o5 (H:Hid) (u:World):(over H u).heap.size=u.heap.size:=by simp[over]
theorem bj0 {H:Hid} {u:World} {b:Nat} {o:Obj} (h:H b=some o) (hb:b<u.heap.size):(over H u).heap[b]? =some o:=by
 rw[pu0,Array.getElem?_eq_getElem hb];simp[h]
theorem G6 {H:Hid} (u:World) {b:Nat} (h:H b=none):(over H u).heap[b]? =u.heap[b]?:=by
 rw[pu0,h];cases u.heap[b]? <;> rfl
structure n8 (H:Hid) (u:World):Prop where
 gone:∀b o,H b=some o->ji0 u b
 view:∀b o,H b=some o->Q4 o=false
theorem _root_.Go.Yc.ji0.lt {u:World} {b:Nat} (h:ji0 u b):b<u.heap.size:=by obtain⟨T,f,h⟩:=h;exact(Array.getElem?_eq_some_iff.1 h).1
theorem n8.evo {H:Hid} {u u':World} (h:n8 H u) (he:Evo u u'):n8 H u':=⟨fun b o hb=>(h.gone b o hb).evo he,h.view⟩
theorem n8.V2 {H:Hid} {u:World} (h:n8 H u) (τ:Tape) (d:Nat):n8 H (Yc.V2 u τ d):=⟨h.gone,h.view⟩
def nu0 (H:Hid) (ρ:Nat->C7) (w:World) (b:Nat):C7:=match H b,w.heap[b]? with
 |some _,some y=>.gone y
 |_,_=>ρ b
theorem X6.under {H:Hid} {ρ:Nat->C7} {u w:World} (hH:n8 H u) (h:X6 ρ (over H u) w):X6 (nu0 H ρ w) u w:=by
 refine⟨h.os,h.output,h.tape,h.drawn,by rw[h.size,o5],fun b x hx=>?_,fun b hb=>?_,fun b x hx=>?_⟩
 ·have J1:=(Array.getElem?_eq_some_iff.1 hx).1;cases hb:H b with
  |none=>
   obtain⟨y,h1,h2⟩:=h.obj b x (by rw[G6 u hb];exact hx);exact⟨y,h1,by simp only[nu0,hb];exact h2⟩
  |some o=>
   obtain⟨y,h1,h2⟩:=h.obj b o (bj0 hb J1);obtain⟨T,f,hg⟩:=hH.gone b o hb;rw[hx]at hg;obtain rfl:=Option.some.inj hg;exact⟨y,h1,by simp only[nu0,hb,h1];exact .gone _ _ _⟩
 ·cases p7:H b with
  |none=>simp only[nu0,p7];exact h.new b (by rw[o5];exact hb)
  |some o=>have:=(hH.gone b o p7).lt;omega
 ·cases hb:H b with
  |none=>exact h.G8 b x (by rw[G6 u hb];exact hx)
  |some o=>
   obtain⟨T,f,hg⟩:=hH.gone b o hb;rw[hx]at hg;obtain rfl:=Option.some.inj hg;rfl
theorem X6.over {H:Hid} {ρ:Nat->C7} {u u' w w':World} (hH:n8 H u) (h:X6 ρ (over H u) w) (he:Evo u u') (h':X6 (nu0 H ρ w) u' w'):X6 ρ (Vy.over H u') w':=by
 have hH':=hH.evo he;refine⟨h'.os,h'.output,h'.tape,h'.drawn,by rw[h'.size,o5],fun b x hx=>?_,fun b hb=>?_,fun b x hx=>?_⟩
 ·cases hb:H b with
  |none=>
   rw[G6 u' hb]at hx;obtain⟨y,h1,h2⟩:=h'.obj b x hx;simp only[nu0,hb]at h2;exact⟨y,h1,h2⟩
  |some o=>
   have J1:=(hH.gone b o hb).lt;obtain⟨T,f,hg⟩:=hH'.gone b o hb;rw[bj0 hb (hH'.gone b o hb).lt]at hx;obtain rfl:=Option.some.inj hx;obtain⟨y,h1,h2⟩:=h.obj b o (bj0 hb J1);obtain⟨y',h3,h4⟩:=h'.obj b _ hg;simp only[nu0,hb,h1]at h4;cases h4;exact⟨y,h3,h2⟩
 ·rw[o5]at hb;have:=h'.new b hb;cases p7:H b with
  |none=>simp only[nu0,p7]at this;exact this
  |some o=>have:=(hH'.gone b o p7).lt;omega
 ·cases hb:H b with
  |none=>exact h'.G8 b x (by rw[G6 u' hb]at hx;exact hx)
  |some o=>
   rw[bj0 hb (hH'.gone b o hb).lt]at hx;obtain rfl:=Option.some.inj hx;exact hH.view b o hb
theorem Np0 {H:Hid} {u u':World} (hH:n8 H u) (he:Evo u u'):Evo (over H u) (over H u'):=by
 refine⟨by rw[o5,o5];exact he.size,fun b x hx=>?_⟩;cases hb:H b with
 |none=>
  rw[G6 u hb]at hx;obtain⟨y,h1,h2⟩:=he.obj b x hx;exact⟨y,by rw[G6 u' hb];exact h1,h2⟩
 |some o=>
  rw[bj0 hb (hH.gone b o hb).lt]at hx;obtain rfl:=Option.some.inj hx;exact⟨_,bj0 hb ((hH.evo he).gone b _ hb).lt,I4.refl _⟩
theorem ws0 {H:Hid} {u:World} (hH:n8 H u) {e:Event} (h:kq0 u e):kq0 (over H u) e:=by
 obtain⟨l,wr,sy⟩:=e;cases l with
 |cell a=>
  intro J1;rw[o5]at J1;obtain⟨⟨v,hv⟩,hw⟩:=h J1;obtain⟨c,T,f,hb,hs,hc⟩:=X5 hv;have hn:H a.block=none:=by
   cases hh:H a.block with
   |none=>rfl
   |some o=>
    obtain⟨T',f',hg⟩:=hH.gone _ _ hh;rw[hb]at hg;cases hg;simp at hc
  have:=w8 (u:=u) (u':=over H u) (a:=a) (G6 u hn);exact⟨⟨v,by rw[this.1];exact hv⟩,fun z=>by rw[this.2];exact hw z⟩
 |obj r=>
  intro J1;rw[o5]at J1;obtain⟨x,hx,hc⟩:=h J1;have hn:H r=none:=by
   cases hh:H r with
   |none=>rfl
   |some o=>
    obtain⟨T',f',hg⟩:=hH.gone _ _ hh;rw[hx]at hg;cases hg;cases hc
  exact⟨x,by rw[G6 u hn];exact hx,hc⟩
 |output=>exact h
 |goroutines=>exact h
 |mark m=>exact h
theorem W9 (H:Hid) (u:World) (τ:Tape) (d:Nat):over H (V2 u τ d)=V2 (over H u) τ d:=rfl
section
variable {P:Program}{main:Bool}{H:Hid}
theorem I6.over {g g':Goroutine} {u u':World} (hH:n8 H u) (h:I6 P main g u g' u'):I6 P main g (Vy.over H u) g' (Vy.over H u')/\(∀ρ w,X6 ρ (Vy.over H u) w->Evo u u'):=by
 obtain⟨hr,h⟩:=h;refine⟨⟨hr,fun ρ w hs=>?_⟩,fun ρ w hs=>(h _ w (X6.under hH hs)).1⟩;obtain⟨he,w',es,h1,h2,h3⟩:=h _ w (X6.under hH hs);exact⟨Np0 hH he,w',es,h1,X6.over hH hs he h2,fun e hee=>ws0 hH (h3 e hee)⟩
theorem ze0 {fn:Func} {tmps:Array Value} {w:World} {v:Value} (hH:n8 H w) (h:aw0 P fn tmps w v):aw0 P fn tmps (over H w) v:=by
 intro τ d ρ x hs;rw[<- W9]at hs;obtain⟨x',es,h1,h2,h3⟩:=h τ d _ x (X6.under (hH.V2 τ d) hs);exact⟨x',es,h1,by rw[<- W9];exact X6.over (hH.V2 τ d) hs (Evo.refl _) h2,fun e he=>by rw[<- W9];exact ws0 (hH.V2 τ d) (h3 e he)⟩
theorem nv0 {fr:Frame} {w:World} {e:Ending} (hH:n8 H w) (h:Leaves P fr w e):Leaves P fr (over H w) e:=by
 cases e with
 |returned v=>obtain⟨h1,h2,h3,fn,h4,h5⟩:=h;exact⟨h1,h2,h3,fn,h4,ze0 hH h5⟩
 |panicked ch=>exact h
 |outgrown=>exact h
end
section
variable {P:Program}{Post:Value->World->Prop}{X:Gh}{h:Nat}{u:World}
theorem Fin.ja1 {g:Goroutine} (K3:g.status= .running) (hs:∀τ d,∃g' u',I6 P (h==0) g (V2 u τ d) g' u'/\((∃ρ w,X6 ρ (V2 u τ d) w)->Fin P Post X h g' u')):Fin P Post X h g u:=by
 refine Fin.dk0 K3 fun live T gs w sl d sl' q hg S2 C=>?_;obtain⟨g',u',hF,hK⟩:=hs (w.at d).tape (w.at d).drawn;obtain⟨ρ,mc0,_⟩:=C.sim;obtain⟨w',es,hgo,C',B5⟩:=C.own hg hF;exact Ends.step (S2.trans (runT_crowd_go (sl:=sl') hg hgo)) (hK ⟨ρ,_,mc0⟩ _ _ _ _ _ _ B5 C')
def la0 (P:Program) (Post:Value->World->Prop) (X:Gh) (h:Nat) (H:Hid) (g:Goroutine) (u:World):Prop:=n8 H u->Fin P Post X h g (over H u)
theorem Ht0 {u u':World} {τ:Tape} {d:Nat} (h:Evo (V2 u τ d) u'):Evo u u':=⟨h.size,h.obj⟩
theorem pv0 {H:Hid} {g:Goroutine} (K3:g.status= .running) (hs:∀τ d,∃g' u',I6 P (h==0) g (V2 u τ d) g' u'/\(Evo u u'->la0 P Post X h H g' u')):la0 P Post X h H g u:=by
 intro hH;refine Fin.ja1 K3 fun τ d=>?_;obtain⟨g',u',hF,hK⟩:=hs τ d;obtain⟨h1,h2⟩:=I6.over (hH.V2 τ d) hF;rw[W9]at h1;refine⟨g',over H u',h1,fun⟨ρ,w,hs⟩=>?_⟩;have hE:=Ht0 (h2 ρ w (by rw[W9];exact hs));exact hK hE (hH.evo hE)
theorem cu0 {H:Hid} {g:Goroutine} {τ:Tape} {d:Nat} (hF:la0 P Post X h H g (V2 u τ d)):la0 P Post X h H g u:=fun hH=>on0 (hF (hH.V2 τ d))
theorem Vd0 (H:Hid):Cl P (h==0) (la0 P Post X h H) :=
 ⟨fun g u hr hs=>pv0 hr fun τ d=>by
  obtain⟨g',u',d',hF,hZ⟩:=hs τ d;exact⟨g',u',hF,fun _=>cu0 hZ⟩⟩
def X9 (V:Nat->Prop) [DecidablePred V] (U:World):Hid:=fun b=>if V b then none else U.heap[b]?
def S3 (V:Nat->Prop) [DecidablePred V] (U:World):World:={U with heap:=U.heap.mapIdx fun b o=>if V b then o else nothing}
theorem mi0 (V:Nat->Prop) [DecidablePred V] (U:World) (b:Nat):(S3 V U).heap[b]? =(U.heap[b]?).map fun o=>if V b then o else nothing:=by simp[S3,Array.getElem?_mapIdx]
theorem ci0 {V:Nat->Prop} [DecidablePred V] (U:World) {b:Nat} (h:V b):(S3 V U).heap[b]? =U.heap[b]?:=by rw[mi0];simp[h]
theorem jz0 {V:Nat->Prop} [DecidablePred V] {U:World} {b:Nat} (h:¬V b) (hb:b<U.heap.size):(S3 V U).heap[b]? =some nothing:=by rw[mi0,Array.getElem?_eq_getElem hb];simp[h]
theorem aq0 (V:Nat->Prop) [DecidablePred V] (U:World):(S3 V U).heap.size=U.heap.size:=by simp[S3]
theorem lb0 (V:Nat->Prop) [DecidablePred V] (U:World):over (X9 V U) (S3 V U)=U:=by
 have:(over (X9 V U) (S3 V U)).heap=U.heap:=by
  apply Array.ext_getElem?;intro b;rw[pu0,mi0];unfold X9;cases hb:U.heap[b]? with
  |none=>rfl
  |some o=>by_cases hv:V b <;> simp[hv]
 show{S3 V U with heap:=(over (X9 V U) (S3 V U)).heap}=U;rw[this];rfl
theorem pw0 {V:Nat->Prop} [DecidablePred V] {U:World} (hv:∀(b:Nat) (o:Obj),U.heap[b]? =some o->Q4 o=false):n8 (X9 V U) (S3 V U):=by
 refine⟨fun b o h=>?_,fun b o h=>?_⟩
 ·unfold X9 at h;by_cases hb:V b
  ·simp[hb]at h
  ·simp only[hb,if_false]at h;exact⟨0,(0,0),jz0 hb (Array.getElem?_eq_some_iff.1 h).1⟩
 ·unfold X9 at h;by_cases hb:V b
  ·simp[hb]at h
  ·simp only[hb,if_false]at h;exact hv b o h
end
def Q7 (u:World):Prop:=∀(b:Nat) (o:Obj),u.heap[b]? =some o->Q4 o=false
theorem Q7.sim {u:World} (h:Q7 u):X6 (fun _=>.all) u u:=⟨rfl,rfl,rfl,rfl,rfl,fun _b x hx=>⟨x,hx,.same x⟩,fun _ _=>rfl,h⟩
theorem Q7.V2 {u:World} (h:Q7 u) (τ:Tape) (d:Nat):Q7 (Yc.V2 u τ d):=h
theorem I6.evo {P:Program} {main:Bool} {g g':Goroutine} {u u':World} (h:I6 P main g u g' u') (hv:Q7 u):Evo u u'/\Q7 u':=by
 obtain⟨h1,w',es,_,h2,_⟩:=h.2 _ _ hv.sim;exact⟨h1,h2.G8⟩
def Ign (Z:Goroutine->World->Prop):Prop:=∀g u,(Q7 u->Z g u)->Z g u
@[reducible] def B2 (P:Program) (main:Bool):Ctx P:=⟨main,fun Z=>Cl P main Z/\Ign Z,fun _ h=>h.1⟩
theorem bz0 {P:Program} {Post:Value->World->Prop} {X:Gh} {h:Nat}:Ign (Fin P Post X h):=by
 intro g u hF live T gs w sl q hg C;obtain⟨ρ,hs,_⟩:=C.sim;exact hF (show Q7 (V2 u w.tape w.drawn)from hs.G8) _ _ _ _ _ _ hg C
section
variable {P:Program}{main:Bool}{f:FuncId}{args:Array Value}{w:World}{R:Ending->World->Prop}
theorem lc0 {H:Hid} {u:World} (hH:n8 H u) (h:Q7 (over H u)):Q7 u:=by
 intro b o ho;cases hb:H b with
 |none=>exact h b o (by rw[G6 u hb];exact ho)
 |some o'=>
  obtain⟨T,f,hg⟩:=hH.gone b o' hb;rw[ho]at hg;obtain rfl:=Option.some.inj hg;rfl
theorem Calls.frame {H:Hid} (h:@Calls P (B2 P main) f args w R) (hH:n8 H w):@Calls P (B2 P main) f args (over H w) (fun e w'=>∃u',w'=over H u'/\n8 H u'/\R e u'):=by
 intro Z hZ cs hk;obtain⟨hc,hi⟩:=hZ;have r7:Cl P main (fun g u=>Q7 u->n8 H u->Z g (over H u)):=⟨fun g u hr hs hv hH=>by
  refine hc.own g (over H u) hr fun τ d=>?_;obtain⟨g',u',d',hF,hz⟩:=hs τ d;obtain⟨he,hv'⟩:=I6.evo hF (hv.V2 τ d);have h1:=(I6.over (hH.V2 τ d) hF).1;rw[W9]at h1;refine⟨g',over H u',d',h1,?_⟩;have:=hz (hv'.V2 _ _) ((hH.evo (Ht0 he)).V2 _ _);rw[W9]at this;exact this⟩
 refine hi _ _ fun hv=>?_;refine h (fun g u=>Q7 u->n8 H u->Z g (over H u)) ⟨r7,fun g u z v=>z v v⟩ cs (fun e w' fr he hf hl hv hH'=>?_) (lc0 hH hv) hH;exact hk e _ fr ⟨w',rfl,hH',he⟩ hf (nv0 hH' hl)
theorem Calls.seen (V:Nat->Prop) [DecidablePred V] (h:@Calls P (B2 P main) f args (S3 V w) R):@Calls P (B2 P main) f args w (fun e w'=>∃u',w'=over (X9 V w) u'/\n8 (X9 V w) u'/\R e u'):=by
 intro Z hZ cs hk;refine hZ.2 _ _ fun hv=>?_;have:=Calls.frame h (H:=X9 V w) (pw0 hv);rw[lb0]at this;exact this Z hZ cs hk
end
end Go.Vy
end
section
namespace Go.Vy
open Go Go.Conc Go.Yc Go.RowKit
open Go.Vc (Ret)
def gh (w:World) (i:Nat):Nat:=w.tape i (.sched 0)
def ez0 (w:World) (i v:Nat):World:={w with tape:=fun j q=>if j=i then v else w.tape j q}
theorem bz1 (w:World) (i v:Nat):gh (ez0 w i v) i=v:=by simp[gh,ez0]
theorem Js0 (w:World) {i j:Nat} (v:Nat) (h:j≠i):gh (ez0 w i v) j=gh w j:=by simp[gh,ez0,h]
abbrev Gm:=Nat->Nat
def gm (w:World):Gm:=fun i=>gh w (i+3)
theorem J3 {w w':World} (h:w'.tape=w.tape) (i:Nat):gh w' i=gh w i:=by simp[gh,h]
theorem ca0 {w w':World} (h:w'.tape=w.tape):gm w'=gm w:=funext fun _i=>J3 h _
structure Stp where
 kind:Int
 obj:Int
 num:Int
structure Nte where
 kind:Int
 text:ByteArray
structure k6 (S L:Type) where
 s:S
 nts:List Nte
 N1:L ⊕ Nat
def ld0 (s:Stp):Value:=.agg #[.int .i64 s.kind,.int .i64 s.obj,.int .i64 s.num]
structure Y9 (P:Program) where
 S:Type
 L:Type
 stp:L->Stp
 rdy:L->S->Bool
 go:L->S->k6 S L
 out:Nat->k6 S L
 sOf:Nat->S
 Z1:Nat->Nat
 le:Gm->Gm->Prop
 gu:Gm->Gm->Prop
 Inv:S->Gm->World->(Nat->Prop)->Prop
 At:Nat->L->Prop
 BAt:Nat->Prop
 num:Nat
 ptr:Nat
 base:World
 le0:FuncId
 Nq0:Option FuncId
 P4:FuncId
 Nr0:Option FuncId
 Ns0:FuncId
 top:List Frame
section
variable {P:Program}
structure Y9.Told (K:Y9 P) (w:World) (m:Gm) (F:Nat->Prop) (N1:K.L ⊕ Nat):Prop where
 on:gh w 2=0
 N1:(K.out (gh w 0)).N1=N1
 nts:gh w 1=(K.out (gh w 0)).nts.length
 inv:K.Inv (K.out (gh w 0)).s m w F
 le:K.gu (gm w) m
 os:w.os=K.base.os
 output:w.output=K.base.output
structure Y9.y6 (K:Y9 P) (w:World) (m:Gm) (F:Nat->Prop) (u:World) (F':Nat->Prop):Prop where
 size:w.heap.size <=u.heap.size
 j0:∀b,b<w.heap.size->w.heap[b]? ≠some nothing->¬F b->u.heap[b]? =w.heap[b]?/\¬F' b
 inv:K.Inv (K.sOf (gh u 0)) (gm u) u F'
 le:K.le m (gm u)
 os:u.os=w.os
 output:u.output=w.output
def m6 (ch:List PanicEntry):Prop:=∃v H4,ch={v,recovered:=false} :: H4/\H4.dropWhile (!·.goexit)=[]
def Ve0 (P:Program) (v:Value) (f:FuncId) (caps:Array Value):Prop:=v= .func (.func f) #[] caps/\∃fn,P.funcs[f]? =some fn/\fn.body.isSome=true/\(fn.name== "runtime.NumGoroutine")=false
def FnV (P:Program) (v:Value):Prop:=v= .nilFunc\/∃f caps,Ve0 P v f caps
def Y9.gi0 (K:Y9 P) (w:World) (m:Gm) (F:Nat->Prop) (rf:Value) (l:K.L):Prop :=
 (rf= .nilFunc/\∀s,K.rdy l s=true)\/∃f caps,Ve0 P rf f caps/\∀u F',K.y6 w m F u F'->@Calls P (B2 P true) f caps u (Ret fun v u'=>v= .bool (K.rdy l (K.sOf (gh u 0)))/\Below u.heap.size u u')
def Nt0 (P:Program) (f:FuncId):Prop:=∃fn,P.funcs[f]? =some fn/\fn.body.isSome=true
def qb1 (P:Program) (fN:FuncId) (ptr num:Nat) (Z:Goroutine->World->Prop):Prop:=Nt0 P fN->∀cs w,(∀fr,fr.fn=fN->Leaves P fr w (.returned (.int .i64 num))->Z (G fr cs) w)->Z (G (Frame.enter P fN #[.pointer (some ⟨ptr,0,none⟩)] .normal) cs) w
@[reducible] def I5 (P:Program) (fN:FuncId) (ptr num:Nat):Ctx P:=⟨false,fun Z=>(Cl P false Z/\Ign Z)/\qb1 P fN ptr num Z,fun _ h=>h.1.1⟩
def Jt0 (P:Program) (C0:Ctx P) (df:Value) (u:World) (R:World->Prop):Prop :=
 (df= .nilFunc/\R u)\/∃f caps,Ve0 P df f caps/\@Calls P C0 f caps u (Ret fun _ u2=>R u2)
@[reducible] def Y9.I5 (K:Y9 P):Ctx P:=Go.Vy.I5 P K.P4 K.ptr K.num
structure Y9.Goes (K:Y9 P) (w:World) (m:Gm) (F:Nat->Prop) (l:K.L) (u:World) (F':Nat->Prop):Prop where
 j4:K.y6 w m F u F'
 nts:gh u 1=0
 on:gh u 2=0
 out:K.out (gh u 0)=K.go l (K.sOf (gh u 0))
 rdy:K.rdy l (K.sOf (gh u 0))=true
 at_:K.At (gh u 0) l
structure io0 (w w':World):Prop where
 os:w'.os=w.os
 output:w'.output=w.output
 size:w.heap.size <=w'.heap.size
 block:∀b,b<w.heap.size->w'.heap[b]? =w.heap[b]?
def Y9.Ju0 (K:Y9 P) (w:World) (F:Nat->Prop):Ending->Prop
 | .returned _=>(∃m,K.Told w m F (.inr 1))\/(gh w 2=1/\(∃m,K.gu (gm w) m/\K.Inv (K.sOf (gh w 0)) m w F)/\w.os=K.base.os/\w.output=K.base.output)
 | .panicked ch=>m6 ch/\((∃m,K.Told w m F (.inr 2))\/(gh w 2=1/\(∃m,K.gu (gm w) m/\K.Inv (K.sOf (gh w 0)) m w F)/\w.os=K.base.os/\w.output=K.base.output))
 | .outgrown=>False
inductive ah0 (K:Y9 P):Goroutine->World->Prop
 |own {g u} (hr:g.status= .running) (g':Tape->Nat->Goroutine) (u':Tape->Nat->World) (d':Tape->Nat->Nat) (hf:∀τ d,I6 P false g (V2 u τ d) (g' τ d) (u' τ d)) (hk:∀τ d,ah0 K (g' τ d) (V2 (u' τ d) u.tape (d' τ d))):ah0 K g u
 |ign {g u} (h:Q7 u->ah0 K g u):ah0 K g u
 |step {cs w s rf df l m F} (ht:K.Told w m F (.inl l)) (hs:s=ld0 (K.stp l)) (hr:K.gi0 w m F rf l) (hdf:FnV P df) (Rdo:World->World->Prop)
   (hdo:∀u F',K.Goes w m F l u F'->Jt0 P K.I5 df u (Rdo u))
   (go:∀u F' u2,K.Goes w m F l u F'->Rdo u u2->u2.tape=u.tape->∀fr,fr.fn=K.le0->Leaves P fr u2 (.returned (.tuple #[]))->ah0 K (G fr cs) u2)
   (stop:∀u F',K.y6 w m F u F'->gh u 2=1->∀fr ch,fr.fn=K.le0->m6 ch->Leaves P fr u (.panicked ch)->ah0 K (G fr cs) u) :
   ah0 K (G (Frame.enter P K.le0 #[.pointer (some ⟨K.ptr,0,none⟩),s,rf,df] .normal) cs) w
 |again {cs w s rf df} (h2:gh w 2=1) (hs:∃s0,s=ld0 s0) (k:∀w' fr ch,io0 w w'->w'.tape=w.tape->fr.fn=K.le0->m6 ch->Leaves P fr w' (.panicked ch)->ah0 K (G fr cs) w') :
   ah0 K (G (Frame.enter P K.le0 #[.pointer (some ⟨K.ptr,0,none⟩),s,rf,df] .normal) cs) w
 |note {cs w kind text f} (hfn:K.Nq0=some f) (h2:gh w 2=0) (hx:(K.out (gh w 0)).nts[gh w 1]? =some ⟨kind,text⟩)
   (k:∀w' fr,io0 w w'->gh w' 0=gh w 0->gh w' 1=gh w 1+1->gh w' 2=0->gm w'=gm w->fr.fn=f->Leaves P fr w' (.returned (.tuple #[]))->ah0 K (G fr cs) w') :
   ah0 K (G (Frame.enter P f #[.pointer (some ⟨K.ptr,0,none⟩),.int .i64 kind,.string text] .normal) cs) w
 |number {cs w} (hN:Nt0 P K.P4) (k:∀fr,fr.fn=K.P4->Leaves P fr w (.returned (.int .i64 K.num))->ah0 K (G fr cs) w) :
   ah0 K (G (Frame.enter P K.P4 #[.pointer (some ⟨K.ptr,0,none⟩)] .normal) cs) w
 |Z1 {cs w f} (hfn:K.Nr0=some f) (h2:gh w 2=0) (k:∀fr,fr.fn=f->Leaves P fr w (.returned (.int .i64 (K.Z1 (gh w 0))))->ah0 K (G fr cs) w) :
   ah0 K (G (Frame.enter P f #[.pointer (some ⟨K.ptr,0,none⟩)] .normal) cs) w
 |done {fr w e F} (hf:fr.fn=K.Ns0) (hl:Leaves P fr w e) (hd:K.Ju0 w F e):ah0 K (G fr K.top) w
theorem Vf0 (K:Y9 P):Cl P false (ah0 K):=⟨fun g u hr hs=>by
 have h1:∀τ d,∃x:Goroutine×World×Nat,I6 P false g (V2 u τ d) x.1 x.2.1/\ah0 K x.1 (V2 x.2.1 u.tape x.2.2):=fun τ d=>by
  obtain⟨g',u',d',hf,hk⟩:=hs τ d;exact⟨⟨g',u',d'⟩,hf,hk⟩
 exact .own hr (fun τ d=>(h1 τ d).choose.1) (fun τ d=>(h1 τ d).choose.2.1) (fun τ d=>(h1 τ d).choose.2.2) (fun τ d=>(h1 τ d).choose_spec.1) (fun τ d=>(h1 τ d).choose_spec.2)⟩
@[reducible] def I0 (K:Y9 P):Ctx P:=⟨false,fun Z=>Z=ah0 K,fun _ h=>h▸Vf0 K⟩
theorem Jv0 {K:Y9 P} {w:World} {s rf df:Value} {l:K.L} {m:Gm} {F:Nat->Prop} (ht:K.Told w m F (.inl l)) (hs:s=ld0 (K.stp l)) (hr:K.gi0 w m F rf l) (hdf:FnV P df) (Rdo:World->World->Prop) (hdo:∀u F',K.Goes w m F l u F'->Jt0 P K.I5 df u (Rdo u)) :
  @Calls P (I0 K) K.le0 #[.pointer (some ⟨K.ptr,0,none⟩),s,rf,df] w (fun e u2=>match e with
   | .returned v=>v= .tuple #[]/\∃u F',K.Goes w m F l u F'/\Rdo u u2/\u2.tape=u.tape
   | .panicked ch=>m6 ch/\∃F',K.y6 w m F u2 F'/\gh u2 2=1
   | .outgrown=>False):=by
 intro Z hZ cs hk;have h':Z=ah0 K:=hZ;subst h';exact .step ht hs hr hdf Rdo hdo (fun u F' u2 h1 h2 h3 fr h4 h5=>hk (.returned (.tuple #[])) u2 fr ⟨rfl,u,F',h1,h2,h3⟩ h4 h5) (fun u F' h1 h2 fr ch h3 h4 h5=>hk (.panicked ch) u fr ⟨h4,F',h1,h2⟩ h3 h5)
theorem Fc0 {K:Y9 P} {w:World} {s rf df:Value} (h2:gh w 2=1) (hs:∃s0,s=ld0 s0) :
  @Calls P (I0 K) K.le0 #[.pointer (some ⟨K.ptr,0,none⟩),s,rf,df] w (fun e w'=>match e with
   | .panicked ch=>m6 ch/\io0 w w'/\w'.tape=w.tape
   |_=>False):=by
 intro Z hZ cs hk;have h':Z=ah0 K:=hZ;subst h';exact .again h2 hs fun w' fr ch h3 h4 h5 h6 h7=>hk (.panicked ch) w' fr ⟨h6,h3,h4⟩ h5 h7
theorem wu0 {K:Y9 P} {w:World} {kind:Int} {text:ByteArray} {f:FuncId} (hfn:K.Nq0=some f) (h2:gh w 2=0) (hx:(K.out (gh w 0)).nts[gh w 1]? =some ⟨kind,text⟩) :
  @C P (I0 K) f #[.pointer (some ⟨K.ptr,0,none⟩),.int .i64 kind,.string text] w (fun v w'=>v= .tuple #[]/\io0 w w'/\gh w' 0=gh w 0/\gh w' 1=gh w 1+1/\gh w' 2=0/\gm w'=gm w):=by
 intro Z hZ cs hk;have h':Z=ah0 K:=hZ;subst h';exact .note hfn h2 hx fun w' fr h3 h4 h5 h6 h9 h7 h8=>hk (.returned (.tuple #[])) w' fr ⟨rfl,h3,h4,h5,h6,h9⟩ h7 h8
end
end Go.Vy
end
section
namespace Go.Wg
open Go Go.Conc Go.Yc
open Go.Vc (Env upd R3 ev u6 G3)
section
structure HF (P:Program) (main:Bool) (ok:Event->Prop) (Y:Nat->Nat->Goroutine->Prop):Prop where
 st:∀m d g g' es,g.status= .running->g'.status= .running->(∀e∈es,ok e)->(∀w,stepG P main g w= .go g' w es)->Y m (deafBehind d es) g'->Y (m+1) d g
theorem HF.c {P:Program} {main:Bool} {ok:Event->Prop} {Y:Nat->Nat->Goroutine->Prop} (hY:HF P main ok Y) {d:Nat} {g g':Goroutine} (h1:g.status= .running) (h2:g'.status= .running) (hs:∀w,stepG P main g w= .go g' w #[]) {m:Nat} (h:Y m d g'):Y (m+1) d g :=
 hY.st m d g g' #[] h1 h2 (fun e he=>by simp at he) hs h
structure ka0 (n:Nat) (a:Act) (e:Env) (ds:List Deferred):Prop where
 size:a.tmps.size=n
 defers:a.defers=ds
 get:∀t,a.tmps.getD t undef=e t
theorem ka0.eval {n:Nat} {a:Act} {e:Env} {ds:List Deferred} (h:ka0 n a e ds):a.eval=ev e:=by
 funext x;cases x <;> simp[Act.eval,ev,h.get]
theorem ka0.put {n:Nat} {a:Act} {e:Env} {ds:List Deferred} (h:ka0 n a e ds) {d:Option Nat} (hd:u6 n d=true) (v:Value):ka0 n (a.put d v) (R3 e d v) ds:=by
 cases d with
 |none=>exact h
 |some d=>
  have L6:d<n:=by simpa [u6,Nat.blt_eq]using hd
  refine⟨by simp[Act.put,h.size],by simp[Act.put,h.defers],fun t=>?_⟩;have hg:=h.get t;simp only[Act.put,R3,upd,Array.getD_eq_getD_getElem?,Array.getElem?_setIfInBounds]at hg⊢;by_cases htd:t=d
  ·subst htd;simp[h.size,L6]
  ·simp only[htd,if_false,Ne.symm htd];exact hg
theorem ka0.yielded {n:Nat} {a:Act} {e:Env} {ds:List Deferred} (h:ka0 n a e ds) {ops:Array Oper} (o:Oper):Region.wanted o (Go.yielded ops a.tmps)=Region.wanted o (G3 ops e):=by
 have h2:Go.Vc.Rep n {a with defers:=[]} e:=⟨h.size,rfl,h.get⟩
 exact Go.Vc.Q5 (a:={a with defers:=[]}) h2 o
def bq0 (args:Array Value):Env:=fun t=>args.getD t undef
theorem fa0 {n:Nat} (args:Array Value) (m:Nat) (hn:args.size+(m-args.size)=n):ka0 n {tmps:=args++Array.replicate (m-args.size) undef,defers:=[]} (bq0 args) []:=by
 refine⟨by simp[hn],rfl,fun t=>?_⟩;simp only[bq0,Array.getD_eq_getD_getElem?,Array.getElem?_append];by_cases h:t<args.size
 ·rw[if_pos h]
 ·rw[if_neg h];rw[Array.getElem?_eq_none (xs:=args) (by omega)];rw[Array.getElem?_replicate];split <;> rfl
def At (Y:Nat->Nat->Goroutine->Prop) (ft n:Nat) (b:Frame) (cs:List Frame) (ds:List Deferred) (d:Nat) (e:Env) (todo:List Item):Prop:=∀a,ka0 n a e ds->Y ft d (G (b.at a todo) cs)
def AtR (Y:Nat->Nat->Goroutine->Prop) (ft n:Nat) (b:Frame) (cs:List Frame) (ds:List Deferred) (d:Nat) (e:Env) (todo:List Item):Prop:=∀a,ka0 n a e ds->Y ft d (G {b.at a todo with mode:=.returning} cs)
section
variable {P:Program}{main:Bool}{ok:Event->Prop}{Y:Nat->Nat->Goroutine->Prop}{ft n:Nat}{b:Frame}{cs:List Frame}{ds:List Deferred}{d:Nat}{e:Env}{k todo:List Item}
theorem At.c (hY:HF P main ok Y) {nw0:List Item} (hs:∀a w,stepG P main (G (b.at a todo) cs) w= .go (G (b.at a nw0) cs) w #[]) (h:At Y ft n b cs ds d e nw0):At Y (ft+1) n b cs ds d e todo :=
 fun a ha=>hY.c rfl rfl (hs a) (h a ha)
theorem At.seq (hY:HF P main ok Y) {x y:Code} (h:At Y ft n b cs ds d e (.code x :: .code y::k)):At Y (ft+1) n b cs ds d e (.code (.seq x y)::k):=At.c hY (fun _ _=>stepG_seq) h
theorem At.skip (hY:HF P main ok Y) (h:At Y ft n b cs ds d e k):At Y (ft+1) n b cs ds d e (.code .skip::k):=At.c hY (fun _ _=>stepG_skip) h
theorem At.block (hY:HF P main ok Y) {id:Nat} {c:Code} (h:At Y ft n b cs ds d e (.code c :: .inBlock id::k)):At Y (ft+1) n b cs ds d e (.code (.block id c)::k):=At.c hY (fun _ _=>stepG_block) h
theorem At.loop (hY:HF P main ok Y) {c:Code} (h:At Y ft n b cs ds d e (.code c :: .inLoop c::k)):At Y (ft+1) n b cs ds d e (.code (.loop c)::k):=At.c hY (fun _ _=>stepG_loop) h
theorem At.inBlock (hY:HF P main ok Y) {id:Nat} (h:At Y ft n b cs ds d e k):At Y (ft+1) n b cs ds d e (.inBlock id::k):=At.c hY (fun _ _=>stepG_inBlock) h
theorem At.inLoop (hY:HF P main ok Y) {c:Code} (h:At Y ft n b cs ds d e (.code c :: .inLoop c::k)):At Y (ft+1) n b cs ds d e (.inLoop c::k):=At.c hY (fun _ _=>stepG_inLoop) h
theorem At.exit (hY:HF P main ok Y) {id:Nat} {k':List Item} (hk:exitTo id k=some k') (h:At Y ft n b cs ds d e k'):At Y (ft+1) n b cs ds d e (.code (.exit id)::k):=At.c hY (fun _ _=>stepG_exit hk) h
theorem At.cond (hY:HF P main ok Y) {c:Operand} {x y:Code} {t:Bool} (hc:ev e c= .bool t) (h:At Y ft n b cs ds d e (.code (if t then x else y)::k)):At Y (ft+1) n b cs ds d e (.code (.cond c x y)::k) :=
 fun a ha=>hY.c rfl rfl (fun _=>stepG_cond (by rw[ha.eval];exact hc)) (h a ha)
theorem At.W7 (hY:HF P main ok Y) {c:Operand} {x y:Code} (hc:ev e c= .bool true) (h:At Y ft n b cs ds d e (.code x::k)):At Y (ft+1) n b cs ds d e (.code (.cond c x y)::k):=At.cond hY hc h
theorem At.V6 (hY:HF P main ok Y) {c:Operand} {x y:Code} (hc:ev e c= .bool false) (h:At Y ft n b cs ds d e (.code y::k)):At Y (ft+1) n b cs ds d e (.code (.cond c x y)::k):=At.cond hY hc h
theorem At.ret (hY:HF P main ok Y) (h:∀todo,AtR Y ft n b cs ds d e todo):At Y (ft+1) n b cs ds d e (.code .ret::k):=fun a ha=>hY.c rfl rfl (fun _=>stepG_ret') (h _ a ha)
theorem At.done (hY:HF P main ok Y) (h:∀todo,AtR Y ft n b cs ds d e todo):At Y (ft+1) n b cs ds d e []:=fun a ha=>hY.c rfl rfl (fun _=>stepG_end) (h _ a ha)
variable {ops:Array Oper}{i:Nat}{o:Oper}
structure Pu (P:Program) (S:Sem Next) (v:Value):Prop where
 run:∀w,S.run P w= .ok (.value v) w
 evs:∀w,S.events P w #[]=#[]
def N0 (Y:Nat->Nat->Goroutine->Prop) (ft n:Nat) (b:Frame) (cs:List Frame) (ds:List Deferred) (d:Nat) (e:Env) (ops:Array Oper) (i:Nat) (l:List Oper) (k:List Item):Prop :=
 (∀j,l[j]? =ops[i+j]?)->At Y ft n b cs ds d e (.inRegion ops (List.range' i l.length)::k)
structure ca1 (n:Nat) (b:Frame) (cs:List Frame) (ds:List Deferred) (e:Env) (ops:Array Oper) (i:Nat) (dst:Option Nat) (l:List Oper) (k:List Item) (k7:List Frame):Prop where
 rep:∃a,ka0 n a e ds/\k7=b.at a (.inRegion ops (i::List.range' (i+1) l.length)::k)::cs
 slot:(ops[i]?).bind (·.dst)=dst
 ok:u6 n dst=true
 tail:∀j,l[j]? =ops[i+1+j]?
variable {l:List Oper}{dst:Option Nat}{t:Nat}{op:Op}{ty:TypeId}{ps:String}{af:Array Edge}
theorem At.region (hY:HF P main ok Y) {id:Nat} {l:List Oper} (h:N0 Y ft n b cs ds d e l.toArray 0 l k):At Y (ft+1) n b cs ds d e (.code (.region id l.toArray false)::k) :=
 At.c hY (fun _ _=>by rw[stepG_region]) (by
  have:=h (fun j=>by simp);rw[show List.range l.toArray.size=List.range' 0 l.length by simp[List.range_eq_range']];exact this)
theorem N0.nil (hY:HF P main ok Y) (h:At Y ft n b cs ds d e k):N0 Y (ft+1) n b cs ds d e ops i [] k:=fun _=>At.c hY (fun _ _=>stepG_region_end) h
theorem M5 {ops:Array Oper} {i:Nat} {o:Oper} {l:List Oper} (h:∀j,(o::l)[j]? =ops[i+j]?):ops[i]? =some o/\∀j,l[j]? =ops[i+1+j]? :=
 ⟨by simpa using(h 0).symm,fun j=>by have:=h (j+1);simpa [Nat.add_assoc,Nat.add_comm 1 j]using this⟩
theorem N0.val (hY:HF P main ok Y) (hk:b.kind≠.early) (hd:u6 n dst=true) {v:Value} (hp:Pu P (execOp (ev e) ⟨dst,op,ty,ps,af,none⟩) v) (h:N0 Y ft n b cs ds d (R3 e dst v) ops (i+1) l k):N0 Y (ft+1) n b cs ds d e ops i (⟨dst,op,ty,ps,af,none⟩::l) k:=by
 intro hl a ha;obtain⟨ho,J7⟩:=M5 hl;refine hY.c rfl rfl (fun w=>?_) (h J7 _ (ha.put hd v));show stepG P main (G (b.at a (.inRegion ops (i::List.range' (i+1) l.length)::k)) cs) w=_;rw[stepG_value ho (by rw[ha.yielded];rfl) hk (by rw[ha.eval];exact hp.run w)];unfold listed;rw[ha.eval,hp.evs w,seen_none]
theorem N0.ek0 {gu:Nat×Bool} (hY:HF P main ok Y) (hk:b.kind≠.early) (hw:G3 ops e gu.1=some gu.2) (hd:u6 n dst=true) {v:Value} (hp:Pu P (execOp (ev e) ⟨dst,op,ty,ps,af,some gu⟩) v) (h:N0 Y ft n b cs ds d (R3 e dst v) ops (i+1) l k):N0 Y (ft+1) n b cs ds d e ops i (⟨dst,op,ty,ps,af,some gu⟩::l) k:=by
 intro hl a ha;obtain⟨ho,J7⟩:=M5 hl;refine hY.c rfl rfl (fun w=>?_) (h J7 _ (ha.put hd v));show stepG P main (G (b.at a (.inRegion ops (i::List.range' (i+1) l.length)::k)) cs) w=_;rw[stepG_value ho (by rw[ha.yielded];simp[Region.wanted,hw]) hk (by rw[ha.eval];exact hp.run w)];unfold listed;rw[ha.eval,hp.evs w,seen_none]
theorem N0.off {gu:Nat×Bool} (hY:HF P main ok Y) (hw:G3 ops e gu.1=some (!gu.2)) (hd:u6 n dst=true) (h:N0 Y ft n b cs ds d (R3 e dst undef) ops (i+1) l k):N0 Y (ft+1) n b cs ds d e ops i (⟨dst,op,ty,ps,af,some gu⟩::l) k:=by
 intro hl a ha;obtain⟨ho,J7⟩:=M5 hl;refine hY.c rfl rfl (fun w=>?_) (h J7 _ (ha.put hd undef));exact stepG_unwanted ho (by
  rw[ha.yielded];obtain⟨j,want⟩:=gu;cases want <;> simp[Region.wanted]at hw⊢<;> simp[hw])
theorem bk0 {args:Array Operand} {f:Operand->Value} {vl:List Value} (h:args.toList.map f=vl):args.map f=vl.toArray:=by rw[<- h,<- Array.toList_map,Array.toArray_toList]
theorem N0.call (hY:HF P main ok Y) (hk:b.kind≠.early) {f:FuncId} {fn:Func} {c:Code} {args:Array Operand} {ats:Array TypeId} (vs:List Value) (m:Nat) (hd:u6 n dst=true) (hf:P.funcs[f]? =some fn) (D4:(fn.name== "runtime.NumGoroutine")=false) (hb:fn.body=some c)
  (hv:args.toList.map (ev e)=vs) (hm:vs.toArray.size+(fn.ntmps-vs.toArray.size)=m) (h:∀k7,ca1 n b cs ds e ops i dst l k k7->At Y ft m (base f) k7 [] d (bq0 vs.toArray) [.code c]):N0 Y (ft+1) n b cs ds d e ops i (⟨dst,.call {callee:=.value (.func f),args,argTypes:=ats},ty,ps,af,none⟩::l) k:=by
 intro hl a ha;obtain⟨ho,J7⟩:=M5 hl;have p7:fn.body.isNone=false:=by rw[hb];rfl
 refine hY.c rfl rfl (fun w=>?_) (h _ ⟨⟨a,ha,rfl⟩,by rw[ho];rfl,hd,J7⟩ {tmps:=vs.toArray++Array.replicate (fn.ntmps-vs.toArray.size) undef,defers:=[]} (fa0 vs.toArray _ hm));show stepG P main (G (b.at a (.inRegion ops (i::List.range' (i+1) l.length)::k)) cs) w=_;rw[stepG_enter ho (by rw[ha.yielded];rfl) hk (run_call_body rfl hf D4 p7),enter_at _ hf hb];have h1:listed P b.fn a ⟨dst,.call {callee:=.value (.func f),args,argTypes:=ats},ty,ps,af,none⟩ w=#[]:=by unfold listed;rw[events_call_body rfl hf D4 p7];exact seen_none P _
 have h2:args.map a.eval=vs.toArray:=by rw[ha.eval];exact bk0 hv
 rw[h1,h2]
theorem N0.Hu0 (hY:HF P main ok Y) (hk:b.kind≠.early) (mk:Mark) (hm:∀g,mk≠.extern g) (hok:ok ⟨.mark mk,false,true⟩) {f:FuncId} {fn:Func} {asx:Array Operand} {ats:Array TypeId} (hd:u6 n dst=true)
  (hf:P.funcs[f]? =some fn) (D4:(fn.name== "runtime.NumGoroutine")=false) (hb:fn.body.isNone=true) (hn:Extern.findNext fn=none) (he:Extern.find fn=some (fun _=>do mark mk;pure Extern.Race.none_))
  (h:N0 Y ft n b cs ds (deafBehind d #[⟨.mark mk,false,true⟩]) (R3 e dst (.tuple #[])) ops (i+1) l k):N0 Y (ft+1) n b cs ds d e ops i (⟨dst,.call {callee:=.value (.func f),args:=asx,argTypes:=ats},ty,ps,af,none⟩::l) k:=by
 intro hl a ha;obtain⟨ho,J7⟩:=M5 hl;exact hY.st _ _ _ _ #[⟨.mark mk,false,true⟩] rfl rfl (fun x hx=>by simp at hx;subst hx;exact hok) (fun w=>stepG_mark0 mk hm ho (by rw[ha.yielded];rfl) hk rfl hf D4 hb hn he) (h J7 _ (ha.put hd _))
theorem N0.zf0 (hY:HF P main ok Y) (hk:b.kind≠.early) (mk:Addr->Mark) (hm:∀ad g,mk ad≠.extern g) {ad:Addr} (hok:ok ⟨.mark (mk ad),false,true⟩) {f:FuncId} {fn:Func} {asx:Array Operand} {ats:Array TypeId} (hd:u6 n dst=true)
  (hf:P.funcs[f]? =some fn) (D4:(fn.name== "runtime.NumGoroutine")=false) (hb:fn.body.isNone=true) (hn:Extern.findNext fn=none) (he:Extern.find fn=some (Extern.Race.marked mk)) (hx:(asx.toList.map (ev e))[0]? =some (.pointer (some ad)))
  (h:N0 Y ft n b cs ds (deafBehind d #[⟨.mark (mk ad),false,true⟩]) (R3 e dst (.tuple #[])) ops (i+1) l k):N0 Y (ft+1) n b cs ds d e ops i (⟨dst,.call {callee:=.value (.func f),args:=asx,argTypes:=ats},ty,ps,af,none⟩::l) k:=by
 intro hl a ha;obtain⟨ho,J7⟩:=M5 hl;exact hY.st _ _ _ _ #[⟨.mark (mk ad),false,true⟩] rfl rfl (fun x hx=>by simp at hx;subst hx;exact hok) (fun w=>stepG_markAt mk hm ho (by rw[ha.yielded];rfl) hk rfl hf D4 hb hn he (by rw[ha.eval,bk0 rfl];simpa using hx)) (h J7 _ (ha.put hd _))
theorem N0.wv0 (hY:HF P main ok Y) (hk:b.kind≠.early) (v:Value) {f:FuncId} {fn:Func} {asx:Array Operand} {ats:Array TypeId} (hd:u6 n dst=true)
  (hf:P.funcs[f]? =some fn) (D4:(fn.name== "runtime.NumGoroutine")=false) (hb:fn.body.isNone=true) (hn:Extern.findNext fn=none) (he:Extern.find fn=some (fun _=>pure v))
  (h:N0 Y ft n b cs ds d (R3 e dst v) ops (i+1) l k):N0 Y (ft+1) n b cs ds d e ops i (⟨dst,.call {callee:=.value (.func f),args:=asx,argTypes:=ats},ty,ps,af,none⟩::l) k:=by
 intro hl a ha;obtain⟨ho,J7⟩:=M5 hl;exact hY.c rfl rfl (fun w=>stepG_entry_pure v ho (by rw[ha.yielded];rfl) hk rfl hf D4 hb hn he) (h J7 _ (ha.put hd _))
theorem N0.defer (hY:HF P main ok Y) (hk:b.kind≠.early) {f:FuncId} {asx:Array Operand} {ats:Array TypeId} (vs:List Value) (hv:asx.toList.map (ev e)=vs)
  (h:N0 Y ft n b cs (dcall f vs.toArray::ds) d e ops (i+1) l k):N0 Y (ft+1) n b cs ds d e ops i (⟨none,.defer {callee:=.value (.func f),args:=asx,argTypes:=ats},ty,ps,af,none⟩::l) k:=by
 intro hl a ha;obtain⟨ho,J7⟩:=M5 hl;refine hY.c rfl rfl (fun w=>stepG_defer ho (by rw[ha.yielded];rfl) hk rfl) ?_;rw[ha.eval,bk0 hv,ha.defers];exact h J7 _ ⟨ha.size,rfl,ha.get⟩
theorem AtR.leave1 (hY:HF P main ok Y) {fn:Func} {t:Tmp} {n0:Nat} {b0:Frame} {ds0:List Deferred} {e0:Env} {k0:List Item} {k7:List Frame} (hB:ca1 n0 b0 cs ds0 e0 ops i dst l k0 k7) (hn:b.kind= .normal) (hf:P.funcs[b.fn]? =some fn) (hr:fn.results=#[.tmp t]) (v:Value) (hv:e t=v)
  (h:N0 Y ft n0 b0 cs ds0 d (R3 e0 dst v) ops (i+1) l k0):AtR Y (ft+1) n b k7 [] d e todo:=by
 intro a ha;obtain⟨a0,ha0,rfl⟩:=hB.rep;subst hv;refine hY.c rfl rfl (fun w=>?_) (h hB.tail _ (ha0.put hB.ok (e t)));rw[stepG_leave hn ha.defers hf (results_tmp hr _ P w) (events_results_tmp hr _ _),Frame.finish_at,ha.get,hB.slot]
theorem AtR.leave0 (hY:HF P main ok Y) {fn:Func} {n0:Nat} {b0:Frame} {ds0:List Deferred} {e0:Env} {k0:List Item} {k7:List Frame} (hB:ca1 n0 b0 cs ds0 e0 ops i dst l k0 k7) (hn:b.kind= .normal) (hf:P.funcs[b.fn]? =some fn) (hr:fn.results=#[])
  (h:N0 Y ft n0 b0 cs ds0 d (R3 e0 dst (.tuple #[])) ops (i+1) l k0):AtR Y (ft+1) n b k7 [] d e todo:=by
 intro a ha;obtain⟨a0,ha0,rfl⟩:=hB.rep;refine hY.c rfl rfl (fun w=>?_) (h hB.tail _ (ha0.put hB.ok (.tuple #[])));rw[stepG_leave hn ha.defers hf (results_none hr _ P w) (events_results_none hr _ _),Frame.finish_at,hB.slot]
theorem AtR.mark (hY:HF P main ok Y) (mk:Mark) (hm:∀g,mk≠.extern g) (hok:ok ⟨.mark mk,false,true⟩) {f:FuncId} {fn:Func} (hf:P.funcs[f]? =some fn) (D4:(fn.name== "runtime.NumGoroutine")=false) (hb:fn.body.isNone=true) (hn:Extern.findNext fn=none) (he:Extern.find fn=some (fun _=>do mark mk;pure Extern.Race.none_))
  (h:AtR Y ft n b cs ds (deafBehind d #[⟨.mark mk,false,true⟩]) e todo):AtR Y (ft+1) n b cs (dcall f #[]::ds) d e todo:=by
 intro a ha;refine hY.st _ _ _ _ #[⟨.mark mk,false,true⟩] rfl rfl (fun x hx=>by simp at hx;subst hx;exact hok) (fun w=>stepG_unwind_entry (v:=.tuple #[]) (evs:=#[⟨.mark mk,false,true⟩]) ha.defers hf D4 hb hn he (by simp[Extern.Race.none_]) (by simp) (by
  intro x V5;simp at V5;subst V5;exact⟨rfl,fun g h=>hm g (Loc.mark.inj h)⟩)) ?_
 exact h ⟨a.tmps,ds⟩ ⟨ha.size,rfl,ha.get⟩
theorem AtR.leaveD (hY:HF P main ok Y) {fn:Func} {c:Frame} (hn:b.kind= .deferred) (hf:P.funcs[b.fn]? =some fn) (hr:fn.results=#[]) (hc:c.mode= .returning) (h:Y ft d (G c cs)):AtR Y (ft+1) n b (c::cs) [] d e todo :=
 fun _a ha=>hY.c rfl rfl (fun w=>stepG_leave_deferred hn ha.defers hf (results_none hr _ P w) (events_results_none hr _ _) hc) h
def StG (P:Program) (main:Bool) (gr:K7) (Y:Nat->Nat->Goroutine->Prop):Prop:=∀m d g g',g.status= .running->g'.status= .running->(∀w st sm,GAt gr st sm w->stepG P main g w= .go g' w #[])->Y m d g'->Y (m+1) d g
theorem N0.toUnsafe {gr:K7} (hG:StG P main gr Y) (hk:b.kind≠.early) {S D t:TypeId} {x:Operand} {off:Nat} (hd:u6 n dst=true) (hx:ev e x= .pointer (some ⟨gr.blk,off,none⟩)) (Uk0:off=gr.off\/off=gr.off+1)
  (hS:P.underlying S=some (.pointer t)) (hD:P.underlying D=some .unsafePointer) (N2:(P.info? t).map (fun i=>decide (i.size=0))=some false)
  (h:N0 Y ft n b cs ds d (R3 e dst (.pointer (some ⟨gr.blk,off,none⟩))) ops (i+1) l k):N0 Y (ft+1) n b cs ds d e ops i (⟨dst,.convert S D x,ty,ps,af,none⟩::l) k:=by
 intro hl a ha;obtain⟨ho,J7⟩:=M5 hl;refine hG _ _ _ _ rfl rfl (fun w st sm hw=>?_) (h J7 _ (ha.put hd _));obtain⟨h1,h2,_,_⟩:=hw.cells;obtain⟨v,hc⟩:∃v,w.cell? ⟨gr.blk,off,none⟩=some v:=by
  rcases Uk0 with rfl|rfl
  ·exact⟨_,h1⟩
  ·exact⟨_,h2⟩
 have hr:(execOp a.eval ⟨dst,.convert S D x,ty,ps,af,none⟩).run P w= .ok (.value (.pointer (some ⟨gr.blk,off,none⟩))) w:=by
  rw[ha.eval];simp only[execOp,hx,Sem.run_bind,run_convert_to_unsafe hS hD N2 hc,Result.andThen_ok,Sem.run_pure]
 have he:(execOp a.eval ⟨dst,.convert S D x,ty,ps,af,none⟩).events P w #[]=#[]:=by
  rw[ha.eval];simp[execOp,hx,events_convert_to_unsafe hS hD N2 hc]
 show stepG P main (G (b.at a (.inRegion ops (i::List.range' (i+1) l.length)::k)) cs) w=_;rw[stepG_value ho (by rw[ha.yielded];rfl) hk hr];unfold listed;rw[he,seen_none]
end
section
variable {P:Program}{ρ:Operand->Value}{d:Option Nat}{ty:TypeId}{ps:String}{af:Array Edge}{g:Option (Nat×Bool)}{x y z:Operand}{T T':TypeId}{v:Value}
theorem M0 (h:ρ x=v):Pu P (execOp ρ ⟨d,.move x,ty,ps,af,g⟩) v:=⟨fun w=>by subst h;rfl,fun w=>by subst h;rfl⟩
theorem I1 (h:ρ x=v):Pu P (execOp ρ ⟨d,.assign x,ty,ps,af,g⟩) v:=⟨fun w=>by subst h;rfl,fun w=>by subst h;rfl⟩
theorem bl0 (h:ρ z= .bool true) (hx:ρ x=v):Pu P (execOp ρ ⟨d,.pick z x y,ty,ps,af,g⟩) v:=⟨fun w=>by subst hx;exact Go.Vc.p6 h,fun w=>by simp[execOp,h,asBool]⟩
theorem fb0 (h:ρ z= .bool false) (hy:ρ y=v):Pu P (execOp ρ ⟨d,.pick z x y,ty,ps,af,g⟩) v:=⟨fun w=>by subst hy;exact Go.Vc.A7 h,fun w=>by simp[execOp,h,asBool]⟩
theorem J5 {p:Addr} (h:ρ x= .pointer (some p)):Pu P (execOp ρ ⟨d,.nilCheck x,ty,ps,af,g⟩) (.pointer (some p)):=⟨fun w=>by simp[execOp,h],fun w=>by simp[execOp,h]⟩
theorem px0 {S:TypeId} {b o f:Nat} {fs:Array Field} {fl:Field} {s:Nat} (hx:ρ x= .pointer (some ⟨b,o,none⟩)) (hT:P.underlying S=some (.struct fs)) (hf:fs[f]? =some fl) (hs:(P.info? fl.type).map (·.size)=some s) (h0:s≠0):Pu P (execOp ρ ⟨d,.fieldAddr S x f,ty,ps,af,g⟩) (.pointer (some ⟨b,o+fl.offset,none⟩)):=by
 refine⟨fun w=>Go.Vc.B0 hx hT hf hs h0,fun w=>?_⟩;obtain⟨i,hi,hs'⟩:=Option.map_eq_some_iff.1 hs;simp[execOp,hx,Instr.fieldAt,run_underlying hT,hf,Instr.sureAddr,fieldPlace,sizeOf,typeInfo,hi,hs',h0,go_sem]
theorem z5 {S:TypeId} {b f:Nat} (o r:Nat) {fs:Array Field} {fl:Field} {s:Nat} (hx:ρ x= .pointer (some ⟨b,o,none⟩)) (hT:P.underlying S=some (.struct fs)) (hf:fs[f]? =some fl) (hs:(P.info? fl.type).map (·.size)=some s) (h0:s≠0) (hr:o+fl.offset=r):Pu P (execOp ρ ⟨d,.fieldAddr S x f,ty,ps,af,g⟩) (.pointer (some ⟨b,r,none⟩)):=by subst hr;exact px0 hx hT hf hs h0
variable {κ κ':IntKind}{m k r:Int}
theorem cb1 (hx:ρ x= .int κ m) (hy:ρ y= .int κ k):Pu P (execOp ρ ⟨d,.binOp .lss T x y T',ty,ps,af,g⟩) (.bool (decide (m<k))):=⟨fun w=>Go.Vc.gv0 hx hy,fun w=>by simp[execOp,hx,hy,eqGuard,binOp,Op.intCmp]⟩
theorem cc1 (hx:ρ x= .int κ m) (hy:ρ y= .int κ k):Pu P (execOp ρ ⟨d,.binOp .gtr T x y T',ty,ps,af,g⟩) (.bool (decide (k<m))):=⟨fun w=>Go.Vc.np0 hx hy,fun w=>by simp[execOp,hx,hy,eqGuard,binOp,Op.intCmp]⟩
theorem cd1 (hx:ρ x= .int κ m) (hy:ρ y= .int κ k):Pu P (execOp ρ ⟨d,.binOp .eql T x y T',ty,ps,af,g⟩) (.bool (decide (m=k))):=⟨fun w=>Go.Vc.S9 hx hy,fun w=>by simp[execOp,hx,hy,go_sem,eqGuard,binOp,Op.intCmp]⟩
theorem ce1 (hx:ρ x= .int κ m) (hy:ρ y= .int κ k):Pu P (execOp ρ ⟨d,.binOp .neq T x y T',ty,ps,af,g⟩) (.bool (decide (m≠k))):=⟨fun w=>Go.Vc.vy0 hx hy,fun w=>by simp[execOp,hx,hy,go_sem,eqGuard,binOp,Op.intCmp]⟩
theorem iy0 {r:Bool} (hx:ρ x= .int κ m) (hy:ρ y= .int κ k) (hr:decide (m<k)=r):Pu P (execOp ρ ⟨d,.binOp .lss T x y T',ty,ps,af,g⟩) (.bool r):=by subst hr;exact cb1 hx hy
theorem gj0 {r:Bool} (hx:ρ x= .int κ m) (hy:ρ y= .int κ k) (hr:decide (k<m)=r):Pu P (execOp ρ ⟨d,.binOp .gtr T x y T',ty,ps,af,g⟩) (.bool r):=by subst hr;exact cc1 hx hy
theorem dy0 {r:Bool} (hx:ρ x= .int κ m) (hy:ρ y= .int κ k) (hr:decide (m=k)=r):Pu P (execOp ρ ⟨d,.binOp .eql T x y T',ty,ps,af,g⟩) (.bool r):=by subst hr;exact cd1 hx hy
theorem Z9 {r:Bool} (hx:ρ x= .int κ m) (hy:ρ y= .int κ k) (hr:decide (m≠k)=r):Pu P (execOp ρ ⟨d,.binOp .neq T x y T',ty,ps,af,g⟩) (.bool r):=by subst hr;exact ce1 hx hy
theorem cf1 (hx:ρ x= .int κ m) (hy:ρ y= .int κ k) (hr:κ.wrap (m+k)=r):Pu P (execOp ρ ⟨d,.binOp .add T x y T',ty,ps,af,g⟩) (.int κ r):=⟨fun w=>by rw[<- hr];exact Go.Vc.gu0 hx hy,fun w=>by simp[execOp,hx,hy,eqGuard,binOp,Op.intArith]⟩
theorem cg1 (hx:ρ x= .int κ m) (hy:ρ y= .int κ k) (hr:κ.wrap (m-k)=r):Pu P (execOp ρ ⟨d,.binOp .sub T x y T',ty,ps,af,g⟩) (.int κ r):=⟨fun w=>by rw[<- hr];exact Go.Vc.vw0 hx hy,fun w=>by simp[execOp,hx,hy,eqGuard,binOp,Op.intArith]⟩
theorem I8 (hx:ρ x= .int κ m) (hy:ρ y= .int κ k) (hr:κ.wrap ((BitVec.ofInt κ.bits m &&& BitVec.ofInt κ.bits k).toNat:Int)=r):Pu P (execOp ρ ⟨d,.binOp .and T x y T',ty,ps,af,g⟩) (.int κ r):=⟨fun w=>by subst hr;simp[execOp,hx,hy,eqGuard,binOp,Op.intBits],fun w=>by simp[execOp,hx,hy,eqGuard,binOp,Op.intBits]⟩
theorem Nu0 (hx:ρ x= .int κ m) (hy:ρ y= .int κ' k) (h0:0 <=k) (hr:κ.wrap (m*2 ^ (min k.toNat κ.bits))=r):Pu P (execOp ρ ⟨d,.binOp .shl T x y T',ty,ps,af,g⟩) (.int κ r):=⟨fun w=>by subst hr;simp[execOp,hx,hy,eqGuard,binOp,Op.shift,show ¬k<0 by omega],fun w=>by simp[execOp,hx,hy,eqGuard,binOp,Op.shift,show ¬k<0 by omega]⟩
theorem ip0 (hx:ρ x= .int κ m) (hy:ρ y= .int κ' k) (h0:0 <=k) (hr:m.fdiv (2 ^ (min k.toNat κ.bits))=r):Pu P (execOp ρ ⟨d,.binOp .shr T x y T',ty,ps,af,g⟩) (.int κ r):=⟨fun w=>by subst hr;simp[execOp,hx,hy,eqGuard,binOp,Op.shift,show ¬k<0 by omega],fun w=>by simp[execOp,hx,hy,eqGuard,binOp,Op.shift,show ¬k<0 by omega]⟩
theorem E4 {S D:TypeId} (hx:ρ x= .int κ m) (hS:P.underlying S=some (.int κ)) (hD:P.underlying D=some (.int κ')) (hr:κ'.wrap m=r):Pu P (execOp ρ ⟨d,.convert S D x,ty,ps,af,g⟩) (.int κ' r):=by
 subst hr;refine⟨fun w=>?_,fun w=>?_⟩ <;> simp[execOp,hx,convert,run_underlying hS,run_underlying hD,go_sem]
end
theorem M1 (f:FuncId):(base f).kind≠.early:=by intro h;cases h
theorem bkd (f:FuncId):(baseD f).kind≠.early:=by intro h;cases h
theorem T3 (P:Program) (gr:K7):HF P false (fun e=>Ek0 e=true) (fun m d g=>Lt P gr m d g) :=
 ⟨fun _m _d _g g' es h1 _ h3 h4 h5=>.inl ⟨g',es,⟨h1,h3,fun w _ _ _=>h4 w⟩,h5⟩⟩
theorem jb1 (P:Program) (gr:K7):StG P false gr (fun m d g=>Lt P gr m d g) :=
 fun m d g g' h1 _ h3 h4=>.inl ⟨g',#[],⟨h1,fun e he=>by simp at he,h3⟩,h4⟩
theorem E0 (P:Program):HF P false (fun e=>Event.mute e=true) (fun m d g=>QuitsD P m d g) :=
 ⟨fun _m _d _g g' es h1 _ h3 h4 h5=>.inr ⟨h1,g',es,h3,h4,h5⟩⟩
theorem QuitsD.mono {P:Program}:∀{n m d:Nat} {g:Goroutine},QuitsD P n d g->n <=m->QuitsD P m d g
 |0,0,_,_,h,_=>h
 |0,_+1,_,_,h,_=>.inl h
 |n+1,0,_,_,_,hm=>absurd hm (by omega)
 |n+1,m+1,_,_,h,hm=>h.elim .inl fun⟨h1,g',es,h2,h3,h4⟩=>.inr ⟨h1,g',es,h2,h3,QuitsD.mono h4 (by omega)⟩
def quiet (e:Event):Bool:=match e.loc with
 | .mark .disable| .mark .enable| .mark (.read _)| .mark (.write _)| .mark (.release _)=>false
 | .mark _=>true
 |_=>false
theorem kb0 {e:Event} (h:quiet e=true):Ek0 e=true/\e.loc≠.mark .disable/\e.loc≠.mark .enable:=by
 obtain⟨l,a,b⟩:=e;cases l with
 |mark m=>cases m <;> first|(cases h;done)|exact⟨rfl,by simp,by simp⟩
 |_=>cases h
theorem deaf_quiet {d:Nat} {es:Array Event} (h:∀e∈es,quiet e=true):deafBehind d es=d:=deafBehind_still (fun e he=>(kb0 (h e he)).2) d
theorem W0 (P:Program) (gr:K7) (s:Nat):HF P false (fun e=>quiet e=true) (fun m d g=>0<d->Lst P gr m s d g) :=
 ⟨fun m d g g' es h1 _ h3 h4 h5 hd=>⟨hd,.inl ⟨g',es,⟨h1,fun e he=>(kb0 (h3 e he)).1,fun w _ _ _=>h4 w⟩,fun e he=>(kb0 (h3 e he)).2,by rw[deaf_quiet h3]at h5;exact h5 hd⟩⟩⟩
theorem py0 (v wt:Nat) (hw:wt <=1) (hv:v<2147483648):IntKind.u64.wrap ((BitVec.ofInt IntKind.u64.bits ((v*4294967296+wt:Nat):Int) &&& BitVec.ofInt IntKind.u64.bits 2147483648).toNat:Int)=0:=by
 have h1:(BitVec.ofInt 64 ((v*4294967296+wt:Nat):Int)).toNat=v*4294967296+wt:=by
  rw[BitVec.ofInt_natCast,BitVec.toNat_ofNat];exact Nat.mod_eq_of_lt (by omega)
 have h2:(BitVec.ofInt 64 2147483648).toNat=2147483648:=by decide
 show IntKind.u64.wrap ((BitVec.ofInt 64 ((v*4294967296+wt:Nat):Int) &&& BitVec.ofInt 64 2147483648).toNat:Int)=0;rw[BitVec.toNat_and,h1,h2];have h3:(v*4294967296+wt) &&& 2147483648=0:=by
  apply Nat.eq_of_testBit_eq;intro i;rw[Nat.testBit_and,Nat.zero_testBit];by_cases hi:i=31
  ·subst hi;have:(v*4294967296+wt).testBit 31=false:=by
    rw[Nat.testBit_eq_decide_div_mod_eq];have:(v*4294967296+wt)/2 ^ 31=v*2:=by omega
    rw[this];simp
   rw[this];rfl
  ·have:(2147483648:Nat).testBit i=false:=by
    rw[show(2147483648:Nat)=2 ^ 31 by decide,Nat.testBit_two_pow];simp;omega
   rw[this];simp
 rw[h3];decide
theorem kc0 (v wt:Nat) (hw:wt <=1) (hv:v<2147483648):IntKind.u64.wrap ((BitVec.ofInt IntKind.u64.bits ((v*4294967296+wt:Nat):Int) &&& BitVec.ofInt IntKind.u64.bits 2147483647).toNat:Int)=(wt:Int):=by
 have h1:(BitVec.ofInt 64 ((v*4294967296+wt:Nat):Int)).toNat=v*4294967296+wt:=by
  rw[BitVec.ofInt_natCast,BitVec.toNat_ofNat];exact Nat.mod_eq_of_lt (by omega)
 have h2:(BitVec.ofInt 64 2147483647).toNat=2147483647:=by decide
 show IntKind.u64.wrap ((BitVec.ofInt 64 ((v*4294967296+wt:Nat):Int) &&& BitVec.ofInt 64 2147483647).toNat:Int)=_;rw[BitVec.toNat_and,h1,h2,show(2147483647:Nat)=2 ^ 31-1 by decide,Nat.and_two_pow_sub_one_eq_mod];rw[IntKind.wrap_u64];omega
theorem pz0 (v wt:Nat) (hw:wt <=1):(((v*4294967296+wt:Nat):Int)).fdiv (2 ^ (min (32:Int).toNat IntKind.u64.bits))=(v:Int):=by
 have:(2:Int) ^ (min (32:Int).toNat IntKind.u64.bits)=4294967296:=by decide
 rw[this,Int.fdiv_eq_ediv_of_nonneg _ (by decide)];omega
theorem fc0 (v:Nat) (hv:v<2147483648):IntKind.i32.wrap (v:Int)=(v:Int):=by
 simp only[IntKind.wrap,IntKind.bits,IntKind.signed];simp;omega
attribute [local irreducible] KK
theorem Bv0:KK=4294967296:=by unfold KK;rfl
theorem Nv0 (v wt:Nat) (h:v<2147483647) (hw:wt <=1):IntKind.u64.wrap ((((v+1)*4294967296+wt:Nat):Int)+18446744069414584320)=((v*4294967296+wt:Nat):Int):=by rw[IntKind.wrap_u64];omega
theorem Nw0 (v:Nat) (h:v<2147483647):IntKind.u64.wrap (((v*4294967296:Nat):Int)+4294967296)=(((v+1)*4294967296:Nat):Int):=by rw[IntKind.wrap_u64];omega
section
variable {P:Program}{gr:K7}{ft n:Nat}{b:Frame}{cs:List Frame}{ds:List Deferred}{d:Nat}{e:Env}{k:List Item}{ops:Array Oper}{i:Nat}{l:List Oper}{dst:Option Nat}{ty:TypeId}{ps:String}{af:Array Edge}{f:FuncId}{fn:Func}{x y z:Operand}{ats:Array TypeId}
abbrev YLt (P:Program) (gr:K7):Nat->Nat->Goroutine->Prop:=fun m d g=>Lt P gr m d g
abbrev YQ (P:Program):Nat->Nat->Goroutine->Prop:=fun m d g=>QuitsD P m d g
abbrev Jw0 (P:Program) (gr:K7) (s:Nat):Nat->Nat->Goroutine->Prop:=fun m d g=>0<d->Lst P gr m s d g
theorem N0.jc1 (hk:b.kind≠.early) (hd:u6 n dst=true) (hf:P.funcs[f]? =some fn) (D4:(fn.name== "runtime.NumGoroutine")=false) (hb:fn.body.isNone=true) (hn:Extern.findNext fn=none) (he:Extern.find fn=some (Extern.Atomic.update (Op.intArith .add) .u64 true)) (hx:ev e x= .pointer (some ⟨gr.blk,gr.off,none⟩)) (hy:ev e y= .int .u64 18446744069414584320)
  (h1:∀v wt:Nat,wt <=1->v<2147483647->¬(v=0/\wt=1)->N0 (YQ P) ft n b cs ds (d+1) (R3 e dst (.int .u64 ((v*4294967296+wt:Nat):Int))) ops (i+1) l k)
  (h2:N0 (Jw0 P gr 2) ft n b cs ds (d+1) (R3 e dst (.int .u64 ((0*4294967296+1:Nat):Int))) ops (i+1) l k) :
  N0 (YLt P gr) (ft+1) n b cs ds (d+1) e ops i (⟨dst,.call {callee:=.value (.func f),args:=#[x,y],argTypes:=ats},ty,ps,af,none⟩::l) k:=by
 intro hl a ha;obtain⟨ho,J7⟩:=M5 hl;refine .inr ⟨rfl,Nat.succ_pos d,fun v wt hwt hv=>⟨G (b.at (a.put dst (.int .u64 ((v*4294967296+wt:Nat):Int))) (.inRegion ops (List.range' (i+1) l.length)::k)) cs,fun w hw=>?_,fun N3=>h1 v wt hwt hv N3 J7 _ (ha.put hd _),fun hl2=>?_⟩⟩
 ·rw[Bv0]at hw⊢;obtain⟨c1,_,c3,_⟩:=hw.cells;show stepG P false (G (b.at a (.inRegion ops (i::List.range' (i+1) l.length)::k)) cs) w=_;rw[stepG_add_atomic ho (by rw[ha.yielded];rfl) hk rfl hf D4 hb hn .u64 he (ad:=stA gr) (by rw[ha.eval];exact hx) (by rw[ha.eval];exact hy) c1 c3,Nv0 v wt hv hwt];rfl
 ·obtain⟨rfl,rfl⟩:=hl2;exact h2 J7 _ (ha.put hd _) (Nat.succ_pos d)
theorem N0.Vg0 (hk:b.kind≠.early) (hd:u6 n dst=true) (hf:P.funcs[f]? =some fn) (D4:(fn.name== "runtime.NumGoroutine")=false) (hb:fn.body.isNone=true) (hn:Extern.findNext fn=none) (he:Extern.find fn=some (Extern.Atomic.loadT (.int .u64))) (hx:ev e x= .pointer (some ⟨gr.blk,gr.off,none⟩))
  (h:N0 (Jw0 P gr 1) ft n b cs ds d (R3 e dst (.int .u64 1)) ops (i+1) l k) :
  N0 (Jw0 P gr 2) (ft+1) n b cs ds d e ops i (⟨dst,.call {callee:=.value (.func f),args:=#[x],argTypes:=ats},ty,ps,af,none⟩::l) k:=by
 intro hl a ha h0;obtain⟨ho,J7⟩:=M5 hl;refine⟨h0,.inr ⟨rfl,G (b.at (a.put dst (.int .u64 1)) (.inRegion ops (List.range' (i+1) l.length)::k)) cs,fun w hw=>?_,h J7 _ (ha.put hd _) h0⟩⟩;exact stepG_load_atomic (v:=1) ho (by rw[ha.yielded];rfl) hk rfl hf D4 hb hn .u64 he (ad:=stA gr) (by rw[ha.eval];exact hx) hw.cells.1
theorem N0.Nx0 (hk:b.kind≠.early) (hd:u6 n dst=true) (hf:P.funcs[f]? =some fn) (D4:(fn.name== "runtime.NumGoroutine")=false) (hb:fn.body.isNone=true) (hn:Extern.findNext fn=none) (he:Extern.find fn=some Extern.Atomic.storeT) (hx:ev e x= .pointer (some ⟨gr.blk,gr.off,none⟩)) (hy:ev e y= .int .u64 0)
  (h:N0 (Jw0 P gr 0) ft n b cs ds d (R3 e dst (.tuple #[])) ops (i+1) l k) :
  N0 (Jw0 P gr 1) (ft+1) n b cs ds d e ops i (⟨dst,.call {callee:=.value (.func f),args:=#[x,y],argTypes:=ats},ty,ps,af,none⟩::l) k:=by
 intro hl a ha h0;obtain⟨ho,J7⟩:=M5 hl;refine⟨h0,.inr ⟨rfl,G (b.at (a.put dst (.tuple #[])) (.inRegion ops (List.range' (i+1) l.length)::k)) cs,fun w hw=>?_,h J7 _ (ha.put hd _) h0⟩⟩;exact stepG_store_atomic ho (by rw[ha.yielded];rfl) hk rfl hf D4 hb hn he (ad:=stA gr) (k:=.u64) (v:=0) (by rw[ha.eval];exact hx) (by rw[ha.eval];exact hy) hw.cells.1 hw.cells.2.2.1
theorem sy0 {a:Act} {rest:List Nat} {o:Oper} {xs:Array Operand}
  (ho:ops[i]? =some o) (hop:o.op= .call {callee:=.value (.func f),args:=xs,argTypes:=ats}) (hf:P.funcs[f]? =some fn) (hb:fn.body.isNone=true):mayWake P (G (b.at a (.inRegion ops (i::rest)::k)) cs)=true:=by
 have h2:fn.body=none:=by simpa using hb
 have ef:(b.at a (.inRegion ops (i::rest)::k)).eval (.func f)= .func (.func f) #[] #[]:=rfl;simp[mayWake,G,Frame.at,ho,hop]at ef⊢;simp[ef,hf,h2]
theorem N0.ch1 (hk:b.kind≠.early) (hd:u6 n dst=true) (hf:P.funcs[f]? =some fn) (D4:(fn.name== "runtime.NumGoroutine")=false) (hb:fn.body.isNone=true) (hn:Extern.findNext fn=none) (he:Extern.find fn=some Extern.Sync.semrelease) {asx:Array Operand} (hx:(asx.toList.map (ev e))[0]? =some (.pointer (some ⟨gr.blk,gr.off+1,none⟩)))
  (h:N0 (YQ P) ft n b cs ds d (R3 e dst (.tuple #[])) ops (i+1) l k) :
  N0 (Jw0 P gr 0) (ft+1) n b cs ds d e ops i (⟨dst,.call {callee:=.value (.func f),args:=asx,argTypes:=ats},ty,ps,af,none⟩::l) k:=by
 intro hl a ha h0;obtain⟨ho,J7⟩:=M5 hl;refine⟨h0,.inr ⟨rfl,sy0 (rest:=List.range' (i+1) l.length) ho rfl hf hb,G (b.at (a.put dst (.tuple #[])) (.inRegion ops (List.range' (i+1) l.length)::k)) cs,fun w hw=>?_,h J7 _ (ha.put hd _)⟩⟩;have:=stepG_semrelease (P:=P) (main:=false) (b:=b) (kk:=k) (cs:=cs) (rest:=List.range' (i+1) l.length) (n:=0) ho (by rw[ha.yielded];rfl) hk rfl hf D4 hb hn he (ad:=smA gr) (by rw[ha.eval,bk0 rfl];simpa [smA]using hx) hw.cells.2.1 hw.cells.2.2.2;exact this
variable {K:Goroutine->Prop}{E:Nat->Nat->Goroutine->Prop}{o:Option Nat}{V:Nat}
abbrev Ny0 (P:Program) (gr:K7) (K:Goroutine->Prop):Nat->Nat->Goroutine->Prop:=fun m d g=>Mf0 P gr K m d g
abbrev Hv0 (P:Program) (gr:K7) (K:Goroutine->Prop):Nat->Nat->Goroutine->Prop:=fun m d g=>Ul0 P gr K m d g
abbrev XWH (P:Program) (gr:K7) (E:Nat->Nat->Goroutine->Prop) (o:Option Nat) (V:Nat):Nat->Nat->Goroutine->Prop:=fun m d g=>WH P gr E m o V d g
abbrev XWS (P:Program) (gr:K7) (E:Nat->Nat->Goroutine->Prop):Nat->Nat->Goroutine->Prop:=fun m d g=>WS P gr E m d g
abbrev YWH (P:Program) (gr:K7) (K:Goroutine->Prop) (o:Option Nat) (V:Nat):Nat->Nat->Goroutine->Prop:=XWH P gr (WE P gr K) o V
abbrev YWE (P:Program) (gr:K7) (K:Goroutine->Prop):Nat->Nat->Goroutine->Prop:=fun m d g=>WE P gr K m d g
def okM (gr:K7) (e:Event):Prop:=Ek0 e=true\/e.loc= .mark (.read ⟨gr.blk,gr.off+1,none⟩)\/e.loc= .mark (.write ⟨gr.blk,gr.off+1,none⟩)
theorem Hw0 {e:Event} (h:okM gr e):GEv gr 0 e:=by
 rcases h with h|h|h
 ·exact pe0 h
 ·obtain⟨l,w,s⟩:=e;cases h;refine⟨fun b hb=>?_,by simp⟩;simp[MemAct.ofEvent,MemAct.touch?]at hb;subst hb;exact⟨⟨_,rfl,rfl,by simp⟩,by simp,fun h=>absurd rfl h⟩
 ·obtain⟨l,w,s⟩:=e;cases h;refine⟨fun b hb=>?_,by simp⟩;simp[MemAct.ofEvent,MemAct.touch?]at hb;subst hb;exact⟨⟨_,rfl,rfl,by simp⟩,by simp,fun h=>absurd rfl h⟩
theorem fd0 {g g':Goroutine} {es:Array Event} (h1:g.status= .running) (h2:g'.status= .running) (h3:∀e∈es,okM gr e) (h4:∀w st sm,GAt gr st sm w->stepG P true g w= .go g' w es):vs0 P gr g g' es:=⟨h1,h2,fun e he=>Hw0 (h3 e he),h4⟩
theorem C3:HF P true (okM gr) (Ny0 P gr K):=⟨fun _m _d _g g' es h1 h2 h3 h4 h5=>.inl ⟨g',es,fd0 h1 h2 h3 fun w _ _ _=>h4 w,h5⟩⟩
theorem V0:HF P true (okM gr) (Hv0 P gr K):=⟨fun _m _d _g g' es h1 h2 h3 h4 h5=>.inr ⟨g',es,fd0 h1 h2 h3 fun w _ _ _=>h4 w,h5⟩⟩
theorem Vh0:StG P true gr (Hv0 P gr K):=fun m d g g' h1 h2 h3 h4=>.inr ⟨g',#[],fd0 h1 h2 (fun e he=>by simp at he) h3,h4⟩
theorem Z2:HF P true (okM gr) (XWH P gr E o V):=⟨fun _m _d _g g' es h1 h2 h3 h4 h5=>.inl ⟨g',es,fd0 h1 h2 h3 fun w _ _ _=>h4 w,h5⟩⟩
theorem W5:HF P true (okM gr) (XWS P gr E):=⟨fun _m _d _g g' es h1 h2 h3 h4 h5=>.inl ⟨g',es,fd0 h1 h2 h3 fun w _ _ _=>h4 w,h5⟩⟩
theorem jd1:StG P true gr (XWS P gr E):=fun m d g g' h1 h2 h3 h4=>.inl ⟨g',#[],fd0 h1 h2 (fun e he=>by simp at he) h3,h4⟩
theorem R2:HF P true (okM gr) (YWE P gr K):=⟨fun _m _d _g g' es h1 _h2 h3 h4 h5=>.inr ⟨g',es,h1,fun e he=>Hw0 (h3 e he),fun w _=>h4 w,h5⟩⟩
theorem je1:StG P true gr (YWE P gr K):=fun m d g g' h1 h2 h3 h4=>.inr ⟨g',#[],h1,fun e he=>by simp at he,fun w hw=>h3 w _ _ hw,h4⟩
theorem WE.mono:∀{n m d:Nat} {g:Goroutine},WE P gr K n d g->n <=m->WE P gr K m d g
 |0,0,_,_,h,_=>h
 |0,_+1,_,_,h,_=>.inl h
 |n+1,0,_,_,_,hm=>absurd hm (by omega)
 |n+1,m+1,_,_,h,hm=>h.elim .inl fun⟨g',es,h1,h2,h3,h4⟩=>.inr ⟨g',es,h1,h2,h3,WE.mono h4 (by omega)⟩
theorem WS.mono (hE:∀(n m d:Nat) (g:Goroutine),E n d g->n <=m->E m d g):∀{n m d:Nat} {g:Goroutine},WS P gr E n d g->n <=m->WS P gr E m d g
 |0,_,_,_,h,_=>h.elim
 |n+1,0,_,_,_,hm=>absurd hm (by omega)
 |n+1,m+1,_,_,h,hm=>by
  rcases h with⟨g',es,h1,h2⟩|⟨h0,h1,h2,h3,g',h4,h5⟩
  ·exact .inl ⟨g',es,h1,WS.mono hE h2 (by omega)⟩
  ·exact .inr ⟨h0,h1,h2,h3,g',h4,hE _ _ _ _ h5 (by omega)⟩
theorem WH.mono (hE:∀(n m d:Nat) (g:Goroutine),E n d g->n <=m->E m d g):∀{n m:Nat} {o:Option Nat} {V d:Nat} {g:Goroutine},WH P gr E n o V d g->n <=m->WH P gr E m o V d g
 |0,_,_,_,_,_,h,_=>h.elim
 |n+1,0,_,_,_,_,_,hm=>absurd hm (by omega)
 |n+1,m+1,o,V,d,g,h,hm=>by
  unfold WH at h⊢;rcases h with⟨g',es,h1,h2⟩|⟨h1,h2⟩
  ·exact .inl ⟨g',es,h1,WH.mono hE h2 (by omega)⟩
  ·refine .inr ⟨h1,?_⟩;cases o with
   |none=>
    intro v hv;obtain⟨g',h3,h4,h5⟩:=h2 v hv;exact⟨g',h3,fun hz=>hE _ _ _ _ (h4 hz) (by omega),fun hz=>WH.mono hE (h5 hz) (by omega)⟩
   |some vs=>
    obtain⟨⟨g',h3,h4⟩,h5⟩:=h2;refine⟨⟨g',h3,WS.mono (E:=E) hE h4 (by omega)⟩,fun v hv=>?_⟩;obtain⟨g2,h6,h7⟩:=h5 v hv;exact⟨g2,h6,WH.mono hE h7 (by omega)⟩
theorem At.Hx0 {Y:Nat->Nat->Goroutine->Prop} {t:Nat} {v:Value} {todo:List Item} (h:∀e,At Y ft n b cs ds d (upd e t v) todo) (he:e t=v):At Y ft n b cs ds d e todo:=by rw[Go.Vc.P0 he];exact h e
theorem At.jf1 (hE:∀(n m d:Nat) (g:Goroutine),E n d g->n <=m->E m d g) {ft':Nat} {todo:List Item} (h:At (XWH P gr E o V) ft n b cs ds d e todo) (hm:ft <=ft'):At (XWH P gr E o V) ft' n b cs ds d e todo:=fun a ha=>WH.mono (E:=E) hE (h a ha) hm
theorem At.Nz0 {ft':Nat} {todo:List Item} (h:At (YWH P gr K o V) ft n b cs ds d e todo) (hm:ft <=ft'):At (YWH P gr K o V) ft' n b cs ds d e todo:=At.jf1 (E:=WE P gr K) (fun _ _ _ _=>WE.mono) h hm
theorem AtR.Oa0 {main:Bool} {ok:Event->Prop} {Y:Nat->Nat->Goroutine->Prop} {todo:List Item} (hY:HF P main ok Y) {c:Frame} (hn:b.kind= .normal) (hf:P.funcs[b.fn]? =some fn) (hr:fn.results=#[]) (h:Y ft d (G (c.finish (.tuple #[])) cs)):AtR Y (ft+1) n b (c::cs) [] d e todo :=
 fun _a ha=>hY.c rfl rfl (fun w=>stepG_leave hn ha.defers hf (results_none hr _ P w) (events_results_none hr _ _)) h
theorem Ob0 {g:Goroutine} (h:K g):Hv0 P gr K n 0 g:=by cases n with
 |zero=>exact⟨rfl,h⟩
 |succ n=>exact .inl ⟨rfl,h⟩
theorem ci1 {g:Goroutine} (h:K g):YWE P gr K n 0 g:=by cases n with
 |zero=>exact⟨rfl,h⟩
 |succ n=>exact .inl ⟨rfl,h⟩
theorem N0.Um0 (hk:b.kind≠.early) (hd:u6 n dst=true) (hf:P.funcs[f]? =some fn) (D4:(fn.name== "runtime.NumGoroutine")=false) (hb:fn.body.isNone=true) (hn:Extern.findNext fn=none) (he:Extern.find fn=some (Extern.Atomic.update (Op.intArith .add) .u64 true)) (hx:ev e x= .pointer (some ⟨gr.blk,gr.off,none⟩)) (hy:ev e y= .int .u64 4294967296)
  (h:∀v:Nat,v<2147483647->N0 (Hv0 P gr K) ft n b cs ds d (R3 e dst (.int .u64 (((v+1)*4294967296+0:Nat):Int))) ops (i+1) l k) :
  N0 (Ny0 P gr K) (ft+1) n b cs ds d e ops i (⟨dst,.call {callee:=.value (.func f),args:=#[x,y],argTypes:=ats},ty,ps,af,none⟩::l) k:=by
 intro hl a ha;obtain⟨ho,J7⟩:=M5 hl;simp only[Nat.add_zero]at h;refine .inr ⟨rfl,fun v hv=>⟨G (b.at (a.put dst (.int .u64 (((v+1)*4294967296:Nat):Int))) (.inRegion ops (List.range' (i+1) l.length)::k)) cs,rfl,fun w hw=>?_,h v hv J7 _ (ha.put hd _)⟩⟩;rw[Bv0]at hw⊢;obtain⟨c1,_,c3,_⟩:=hw.cells;show stepG P true (G (b.at a (.inRegion ops (i::List.range' (i+1) l.length)::k)) cs) w=_;rw[stepG_add_atomic ho (by rw[ha.yielded];rfl) hk rfl hf D4 hb hn .u64 he (ad:=stA gr) (by rw[ha.eval];exact hx) (by rw[ha.eval];exact hy) c1 c3,Nw0 v hv];rfl
theorem N0.cj1 (hk:b.kind≠.early) (hd:u6 n dst=true) (hf:P.funcs[f]? =some fn) (D4:(fn.name== "runtime.NumGoroutine")=false) (hb:fn.body.isNone=true) (hn:Extern.findNext fn=none) (he:Extern.find fn=some (Extern.Atomic.loadT (.int .u64))) (hx:ev e x= .pointer (some ⟨gr.blk,gr.off,none⟩))
  (h0:N0 E ft n b cs ds d (R3 e dst (.int .u64 0)) ops (i+1) l k)
  (h:∀v:Nat,v <=V->0<v->N0 (XWH P gr E (some v) V) ft n b cs ds d (R3 e dst (.int .u64 ((v*4294967296+0:Nat):Int))) ops (i+1) l k) :
  N0 (XWH P gr E none V) (ft+1) n b cs ds d e ops i (⟨dst,.call {callee:=.value (.func f),args:=#[x],argTypes:=ats},ty,ps,af,none⟩::l) k:=by
 intro hl a ha;obtain⟨ho,J7⟩:=M5 hl;simp only[Nat.add_zero]at h;refine .inr ⟨rfl,fun v hv=>⟨G (b.at (a.put dst (.int .u64 ((v*4294967296:Nat):Int))) (.inRegion ops (List.range' (i+1) l.length)::k)) cs,fun w hw=>?_,fun hz=>?_,fun hz=>h v hv (by omega) J7 _ (ha.put hd _)⟩⟩
 ·rw[Bv0]at hw;exact stepG_load_atomic ho (by rw[ha.yielded];rfl) hk rfl hf D4 hb hn .u64 he (ad:=stA gr) (by rw[ha.eval];exact hx) hw.cells.1
 ·subst hz;rw[Nat.zero_mul];exact h0 J7 _ (ha.put hd _)
theorem N0.jg1 {vs:Nat} (hk:b.kind≠.early) (hd:u6 n dst=true) (hf:P.funcs[f]? =some fn) (D4:(fn.name== "runtime.NumGoroutine")=false) (hb:fn.body.isNone=true) (hn:Extern.findNext fn=none) (he:Extern.find fn=some (Extern.Atomic.casT (.int .u64))) (hx:ev e x= .pointer (some ⟨gr.blk,gr.off,none⟩)) (hy:ev e y= .int .u64 ((vs*4294967296+0:Nat):Int)) (hz:ev e z= .int .u64 ((vs*4294967296+1:Nat):Int))
  (h0:N0 (XWS P gr E) ft n b cs ds d (R3 e dst (.bool true)) ops (i+1) l k)
  (h:∀v:Nat,v<vs->N0 (XWH P gr E none v) ft n b cs ds d (R3 e dst (.bool false)) ops (i+1) l k) :
  N0 (XWH P gr E (some vs) V) (ft+1) n b cs ds d e ops i (⟨dst,.call {callee:=.value (.func f),args:=#[x,y,z],argTypes:=ats},ty,ps,af,none⟩::l) k:=by
 intro hl a ha;obtain⟨ho,J7⟩:=M5 hl;rw[Nat.add_zero]at hy;refine .inr ⟨rfl,⟨G (b.at (a.put dst (.bool true)) (.inRegion ops (List.range' (i+1) l.length)::k)) cs,fun w hw=>?_,h0 J7 _ (ha.put hd _)⟩,fun v hv=>⟨G (b.at (a.put dst (.bool false)) (.inRegion ops (List.range' (i+1) l.length)::k)) cs,fun w hw=>?_,h v hv J7 _ (ha.put hd _)⟩⟩
 ·rw[Bv0]at hw⊢;exact stepG_cas_hit ho (by rw[ha.yielded];rfl) hk rfl hf D4 hb hn .u64 he (ad:=stA gr) (by rw[ha.eval];exact hx) (by rw[ha.eval];exact hy) (by rw[ha.eval];exact hz) hw.cells.1 hw.cells.2.2.1
 ·rw[Bv0]at hw;exact stepG_cas_miss ho (by rw[ha.yielded];rfl) hk rfl hf D4 hb hn .u64 he (ad:=stA gr) (by rw[ha.eval];exact hx) (by rw[ha.eval];exact hy) (by rw[ha.eval];exact hz) hw.cells.1 hw.cells.2.2.1 (by omega)
theorem N0.jh1 (hk:b.kind≠.early) (hd:u6 n dst=true) (hf:P.funcs[f]? =some fn) (D4:(fn.name== "runtime.NumGoroutine")=false) (hb:fn.body.isNone=true) (hn:Extern.findNext fn=none) (he:Extern.find fn=some Extern.Sync.semacquire) {asx:Array Operand} (hx:(asx.toList.map (ev e))[0]? =some (.pointer (some ⟨gr.blk,gr.off+1,none⟩)))
  (h:N0 E ft n b cs ds (d+1) (R3 e dst (.tuple #[])) ops (i+1) l k) :
  N0 (XWS P gr E) (ft+1) n b cs ds (d+1) e ops i (⟨dst,.call {callee:=.value (.func f),args:=asx,argTypes:=ats},ty,ps,af,none⟩::l) k:=by
 intro hl a ha;obtain⟨ho,J7⟩:=M5 hl;have V5:(asx.map a.eval)[0]? =some (.pointer (some (smA gr))):=by rw[ha.eval,bk0 rfl];simpa [smA]using hx
 refine .inr ⟨Nat.succ_pos d,rfl,rfl,fun w st hw=>?_,G (b.at (a.put dst (.tuple #[])) (.inRegion ops (List.range' (i+1) l.length)::k)) cs,fun w hw=>?_,h J7 _ (ha.put hd _)⟩
 ·exact stepG_semacquire_wait ho (by rw[ha.yielded];rfl) rfl hf D4 hb hn he V5 hw.cells.2.1
 ·exact stepG_semacquire (n:=1) ho (by rw[ha.yielded];rfl) hk rfl hf D4 hb hn he V5 hw.cells.2.1 (by decide) hw.cells.2.2.2
theorem N0.ck1 (hk:b.kind≠.early) (hd:u6 n dst=true) (hf:P.funcs[f]? =some fn) (D4:(fn.name== "runtime.NumGoroutine")=false) (hb:fn.body.isNone=true) (hn:Extern.findNext fn=none) (he:Extern.find fn=some (Extern.Atomic.loadT (.int .u64))) (hx:ev e x= .pointer (some ⟨gr.blk,gr.off,none⟩))
  (h:N0 (YWE P gr K) ft n b cs ds d (R3 e dst (.int .u64 0)) ops (i+1) l k) :
  N0 (YWE P gr K) (ft+1) n b cs ds d e ops i (⟨dst,.call {callee:=.value (.func f),args:=#[x],argTypes:=ats},ty,ps,af,none⟩::l) k:=by
 intro hl a ha;obtain⟨ho,J7⟩:=M5 hl;refine .inr ⟨G (b.at (a.put dst (.int .u64 0)) (.inRegion ops (List.range' (i+1) l.length)::k)) cs,#[rdA (stA gr)],rfl,El0,fun w hw=>?_,?_⟩
 ·exact stepG_load_atomic ho (by rw[ha.yielded];rfl) hk rfl hf D4 hb hn .u64 he (ad:=stA gr) (by rw[ha.eval];exact hx) hw.cells.1
 ·rw[deafBehind_still ku0];exact h J7 _ (ha.put hd _)
end
end
end Go.Wg
end
