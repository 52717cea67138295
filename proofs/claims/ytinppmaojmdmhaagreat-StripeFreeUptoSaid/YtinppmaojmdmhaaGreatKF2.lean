/- What the claim leans on, part 2. Laws. -/
import Derived.Test.YtinppmaojmdmhaaGreatKF1
import Derived.Laws.AppendOwnNone
import Derived.WideKeyRuns
import Derived.Laws.StructEq
import Derived.ChangeKeysEq
import Derived.Laws.Rows
import Derived.Laws.LoneSync
import Derived.Laws.Pointers
import Derived.Laws.ResultCell
import Derived.Laws.CopyRow
import Derived.FollowTie
import Derived.Scope
set_option linter.unusedVariables false
set_option maxHeartbeats 4000000
section
namespace Go.Vc
open Go
def E4(D:Nat->Bool)(i:Nat):Nat->Bool:=fun k=>if k=i then true else D k
def j6(o:Oper)(D:Nat->Bool):Prop:=∀x∈o.after,Region.binds .any x=true->D x.on=true
def vs0(n:Nat)(ops:Array Oper):Bool:=
 (List.range ops.size).all fun i=>
  match ops[i]? with
  |none=>false
  |some o=>
   z6 n o.dst && !(match o.op with| .select ..=>true|_=>false) &&
   (o.after.all fun x=>!Region.binds .any x ||Nat.blt x.on i) &&
   (List.range ops.size).all fun j=>
    match ops[j]? with
    |none=>false
    |some p=>
     match p.dst with
     |none=>true
     |some t=>(i==j ||o.dst !=some t)&&(!(o.looksAt ops).contains t ||o.after.any fun x=>Region.binds .any x&&x.on==j)
structure Ord(n:Nat)(ops:Array Oper):Prop where
 dst:∀(i:Nat)(o:Oper),ops[i]? =some o->z6 n o.dst=true
 sel:∀(i:Nat)(o:Oper),ops[i]? =some o->∀cs b,o.op≠.select cs b
 back:∀(i:Nat)(o:Oper),ops[i]? =some o->∀x∈o.after,Region.binds .any x=true->x.on<i
 one:∀(i j:Nat)(o p:Oper)(t:Nat),ops[i]? =some o->ops[j]? =some p->o.dst=some t->p.dst=some t->i=j
 look:∀(i j:Nat)(o p:Oper)(t:Nat),ops[i]? =some o->ops[j]? =some p->p.dst=some t->t∈o.looksAt ops->∃x∈o.after,Region.binds .any x=true/\x.on=j
theorem Iu0{n:Nat}{ops:Array Oper}(h:vs0 n ops=true):Ord n ops:=by
 unfold vs0 at h;have lt:∀{i:Nat}{o:Oper},ops[i]? =some o->i<ops.size:=fun h=>(Array.getElem?_eq_some_iff.1 h).1;have key:∀(i:Nat)(o:Oper),ops[i]? =some o->(z6 n o.dst=true/\(!(match o.op with| .select ..=>true|_=>false))=true) /\
   ((o.after.all fun x=>!Region.binds .any x ||Nat.blt x.on i)=true)/\∀(j:Nat)(p:Oper)(t:Nat),ops[j]? =some p->p.dst=some t->(i==j ||o.dst !=some t)=true/\(!(o.looksAt ops).contains t ||o.after.any fun x=>Region.binds .any x&&x.on==j)=true:=by
  intro i o ho;have h1:=List.all_eq_true.1 h i (List.mem_range.2 (lt ho));simp only[ho,Bool.and_eq_true]at h1;refine⟨h1.1.1,h1.1.2,fun j p t hp ht=>?_⟩;have h2:=List.all_eq_true.1 h1.2 j (List.mem_range.2 (lt hp));simp only[hp,ht,Bool.and_eq_true]at h2;exact h2
 refine⟨fun i o ho=>(key i o ho).1.1,fun i o ho cs b he=>?_,fun i o ho x hx hb=>?_,fun i j o p t ho hp h1 h2=>?_,fun i j o p t ho hp ht hl=>?_⟩
 ·have:=(key i o ho).1.2;rw[he]at this;cases this
 ·have:=(key i o ho).2.1;rw[Array.all_eq_true']at this;have:=this x hx;simp only[hb,Bool.not_true,Bool.false_or,Nat.blt_eq]at this;exact this
 ·have:=((key i o ho).2.2 j p t hp h2).1;simp only[h1,bne_self_eq_false,Bool.or_false,beq_iff_eq]at this;exact this
 ·have:=((key i o ho).2.2 j p t hp ht).2;have hc:(o.looksAt ops).contains t=true:=by simpa using hl
  rw[hc,Bool.not_true,Bool.false_or]at this;obtain⟨x,hx,hb⟩:=Array.any_eq_true'.1 this;simp only[Bool.and_eq_true,beq_iff_eq]at hb;exact⟨x,hx,hb.1,hb.2⟩
section
variable{ops:Array Oper}{n:Nat}
def EE(e:Env)(l:List Oper)(vals:Nat->Value):Nat->Env
 |0=>e
 |k+1=>V3 (EE e l vals k) ((l[k]?).bind (·.dst)) (vals k)
theorem Ct0(e:Env)(o:Oper)(l:List Oper)(vals:Nat->Value):∀k,EE e (o::l) vals (k+1)=EE (V3 e o.dst (vals 0)) l (fun k=>vals (k+1)) k
 |0=>rfl
 |k+1=>by
  show V3 (EE e (o::l) vals (k+1)) _ _=_;rw[Ct0 e o l vals k];rfl
theorem my0(e:Env)(l:List Oper)(vals:Nat->Value)(t:Nat):∀k,(∀j o,j<k->l[j]? =some o->o.dst≠some t)->EE e l vals k t=e t
 |0,_=>rfl
 |k+1,h=>by
  have ih:=my0 e l vals t k (fun j o hj ho=>h j o Uo ho);show V3 _ _ _ t=_;cases hk:l[k]? with
  |none=>exact ih
  |some o=>
   simp only[Option.bind_some];cases hd:o.dst with
   |none=>exact ih
   |some d=>
    have:t≠d:=fun hh=>h k o Uo hk (by rw[hd,hh]);show upd _ _ _ _=_;rw[upd_ne _ _ this];exact ih
theorem Cu0(e:Env)(l:List Oper)(vals:Nat->Value)(t j:Nat)(o:Oper)(hj:l[j]? =some o)(hd:o.dst=some t)(ah1:∀i p,l[i]? =some p->p.dst=some t->i=j):∀k,j<k->EE e l vals k t=vals j
 |0,h=>by omega
 |k+1,h=>by
  show V3 _ _ _ t=_;by_cases hjk:k=j
  ·subst hjk;rw[hj];simp only[Option.bind_some,hd];exact upd_same _ _ _
  ·have ih:=Cu0 e l vals t j o hj hd ah1 k Uo;cases hk:l[k]? with
   |none=>exact ih
   |some p=>
    simp only[Option.bind_some];cases hp:p.dst with
    |none=>exact ih
    |some d=>
     have:t≠d:=fun hh=>hjk (ah1 k p hk (by rw[hp,hh]));show upd _ _ _ _=_;rw[upd_ne _ _ this];exact ih
structure Mid(ops:Array Oper)(e0:Env)(vals:Nat->Value)(listed:Array Bool)(e:Env):Prop where
 hit:∀j o t,ops[j]? =some o->o.dst=some t->listed.getD j false=true->e t=vals j
 rt0:∀t,(∀j o,ops[j]? =some o->o.dst=some t->listed.getD j false=false)->e t=e0 t
section
variable{listed l:Array Bool}{e e':Env}{i:Nat}{o:Oper}
theorem ru0(h:Ord n ops){e0:Env}{vals:Nat->Value}(hm:Mid ops e0 vals listed e)(ho:ops[i]? =some o)
  (P5:∀x∈o.after,Region.binds .any x=true->listed.getD x.on false=true):∀t∈o.looksAt ops,e t=EE e0 ops.toList vals i t:=by
 intro t ht;have hl:∀j:Nat,ops.toList[j]? =ops[j]?:=fun j=>by rw[Array.getElem?_toList]
 by_cases hex:∃(j:Nat) (p:Oper),ops[j]? =some p/\p.dst=some t
 ·obtain⟨j,p,hp,hd⟩:=hex;obtain⟨x,hx,hb,rfl⟩:=h.look i j o p t ho hp hd ht;have M3:=h.back i o ho x hx hb;rw[hm.hit x.on p t hp hd (P5 x hx hb)];exact(Cu0 e0 ops.toList vals t x.on p (by rw[hl];exact hp) hd (fun i' p' hp' R6=>h.one i' x.on p' p t (by rw[<- hl];exact hp') hp R6 hd) i M3).symm
 ·have r9:∀(j:Nat)(p:Oper),ops[j]? =some p->p.dst≠some t:=fun j p hp hd=>hex ⟨j,p,hp,hd⟩;rw[hm.rt0 t (fun j p hp hd=>absurd hd (r9 j p hp))];exact(my0 e0 ops.toList vals t i (fun j p _ hp=>r9 j p (by rw[<- hl];exact hp))).symm
theorem io0(hs:∀cs b,o.op≠.select cs b)(h:∀t∈o.looksAt ops,e t=e' t):execOp (ev e) o=execOp (ev e') o:=by
 refine execOp_congr o hs fun x hx=>?_;cases x with
 |tmp t=>exact h t (List.mem_append_left _ (List.mem_filterMap.2 ⟨.tmp t,by simpa using hx,rfl⟩))
 |const v=>rfl
 |global g=>rfl
 |func f=>rfl
theorem ip0(h:∀t∈o.looksAt ops,e t=e' t):Region.wanted o (G3 ops e)=Region.wanted o (G3 ops e'):=by
 unfold Region.wanted;cases hg:o.guard with
 |none=>rfl
 |some g=>
  obtain⟨j,b⟩:=g;simp only;have:G3 ops e j=G3 ops e' j:=by
   unfold G3;cases hj:(ops[j]?).bind (·.dst)with
   |none=>rfl
   |some t=>
    have:=h t (List.mem_append_right _ (by rw[hg];simp only[hj];simp));simp only[this]
  rw[this]
theorem la0(h:Ord n ops)(hs:listed.size=ops.size)(hr:Region.ready .any ops listed=[]):∀i,i<ops.size->listed.getD i false=true:=by
 intro i
 induction i using Nat.strongRecOn with
 |_ i ih=>
  intro hi;cases hl:listed.getD i false with
  |true=>rfl
  |false=>
   exfalso;have hi':i<listed.size:=by omega
   have vt0:i∈Region.ready .any ops listed:=by
    refine mem_ready.2 ⟨?_,ops[i],by simp[hi],fun x hx hb=>?_⟩
    ·simp only[Array.getD_eq_getD_getElem?,hi',Array.getElem?_eq_getElem,Option.getD_some]at hl⊢;exact hl
    ·have O1:=h.back i ops[i] (by simp[hi]) x hx hb;exact ih x.on O1 Uo
   rw[hr]at vt0;cases vt0
theorem count_set(h:l.getD i true=false):(l.setIfInBounds i true).toList.count false+1=l.toList.count false:=by
 have hi:i<l.size:=by
  rcases Nat.lt_or_ge i l.size with h'|h'
  ·exact h'
  ·simp[Array.getElem?_eq_none h']at h
 have hv:l[i]=false:=by simpa [hi]using h
 show List.countP (· ==false) _+1=List.countP (· ==false) _;rw[Array.toList_setIfInBounds,List.countP_set (by simpa using hi)];have hv':l.toList[i]'(by simpa using hi)=false:=by simpa using hv
 simp only[hv'];have:0<l.toList.countP (· ==false):=List.countP_pos_iff.2 ⟨false,by rw[<- hv'];exact List.getElem_mem _,rfl⟩;simp only[beq_self_eq_true,if_true];have e2:(if(true==false)=true then 1 else 0)=0:=rfl;rw[e2];omega
theorem Iv0(h:l.toList.count false=0):∀i,i<l.size->l.getD i false=true:=by
 intro i hi;simp only[Array.getD_eq_getD_getElem?,hi,Array.getElem?_eq_getElem,Option.getD_some];cases hv:l[i]with
 |true=>rfl
 |false=>
  exfalso;have:false∈l.toList:=by rw[<- hv];simp
  have:=List.count_pos_iff.2 this;omega
theorem mz0(hi:i<l.size):(fun k=>(l.setIfInBounds i true).getD k false)=E4 (fun k=>l.getD k false) i:=by
 funext k;unfold E4;by_cases hk:k=i
 ·subst hk;simp[hi]
 ·rw[getD_set_ne false (Ne.symm hk),if_neg hk]
theorem Mid.step(h:Ord n ops){e0:Env}{vals:Nat->Value}{listed:Array Bool}{e:Env}(hm:Mid ops e0 vals listed e){i:Nat}{o:Oper}(ho:ops[i]? =some o)(hi:i<listed.size):Mid ops e0 vals (listed.setIfInBounds i true) (V3 e o.dst (vals i)):=by
 constructor
 ·intro j p t hp ht hl;by_cases M3:j=i
  ·subst M3;obtain rfl:p=o:=Option.some.inj (hp.symm.trans ho);rw[ht];exact upd_same _ _ _
  ·rw[getD_set_ne false (Ne.symm M3)]at hl;have hv:=hm.hit j p t hp ht hl;cases hd:o.dst with
   |none=>exact hv
   |some d=>
    have:t≠d:=fun hh=>M3 (h.one j i p o t hp ho ht (by rw[hd,hh]));show upd _ _ _ _=_;rw[upd_ne _ _ this];exact hv
 ·intro t r9;have hv:=hm.rt0 t (fun j p hp ht=>by
   have:=r9 j p hp ht;by_cases M3:j=i
   ·subst M3;simp[hi]at this
   ·rw[getD_set_ne false (Ne.symm M3)]at this;exact this)
  cases hd:o.dst with
  |none=>exact hv
  |some d=>
   have:t≠d:=fun hh=>by
    have:=r9 i o ho (by rw[hd,hh]);simp[hi]at this
   show upd _ _ _ _=_;rw[upd_ne _ _ this];exact hv
end
inductive Lin(ops:Array Oper):Array Bool->List Nat->Prop
 |nil {listed}:Region.ready .any ops listed=[]->Lin ops listed []
 |cons {listed i σ}:i∈Region.ready .any ops listed->Lin ops (listed.setIfInBounds i true) σ->Lin ops listed (i::σ)
theorem lw0(ops:Array Oper):∀(fuel t:Nat)(listed:Array Bool),listed.size=ops.size->listed.toList.count false <=fuel->Lin ops listed (Region.linearise.go .any ops fuel t listed []):=by
 intro fuel
 induction fuel with
 |zero=>
  intro t listed hs hc;have ep0:=Iv0 (show listed.toList.count false=0 by omega);refine .nil ?_;cases hr:Region.ready .any ops listed with
  |nil=>rfl
  |cons i r=>
   exfalso;have vt0:i∈Region.ready .any ops listed:=by rw[hr];exact List.mem_cons_self
   obtain⟨h1,o,ho,_⟩:=mem_ready.1 vt0;have hi:i<ops.size:=(Array.getElem?_eq_some_iff.1 ho).1;have hi':i<listed.size:=by omega
   have:=ep0 i hi';simp only[Array.getD_eq_getD_getElem?,hi',Array.getElem?_eq_getElem,Option.getD_some]at h1 this;rw[h1]at this;cases this
 |succ fuel ih=>
  intro t listed hs hc;simp only[Region.linearise.go];change Lin ops listed (match(Region.ready .any ops listed)[t%(Region.ready .any ops listed).length]? with
   |some i=>Region.linearise.go .any ops fuel (t/(Region.ready .any ops listed).length) (listed.setIfInBounds i true) [i]
   |none=>[].reverse)
  cases hi:(Region.ready .any ops listed)[t%(Region.ready .any ops listed).length]? with
  |none=>
   have rv0:Region.ready .any ops listed=[]:=by
    cases hr:Region.ready .any ops listed with
    |nil=>rfl
    |cons x xs=>
     rw[hr]at hi;have O1:t%(x::xs).length<(x::xs).length:=Nat.mod_lt _ (by simp);simp at hi;simp at O1;omega
   exact .nil rv0
  |some i=>
   simp only[];rw[linearise_go_acc,List.reverse_singleton,List.singleton_append];have vt0:=List.mem_of_getElem? hi;exact .cons vt0 (ih _ _ (by simp[hs]) (by have:=count_set (mem_ready.1 vt0).1;omega))
def Pre(σ:List Nat)(D:Nat->Bool):Prop:=∃τ ρ,σ=τ++ρ/\∀k,D k=true↔k∈τ
theorem Pre.chain{σ:List Nat}{D D':Nat->Bool}(h:Pre σ D)(h':Pre σ D'):(∀k,D k=true->D' k=true)\/(∀k,D' k=true->D k=true):=by
 obtain⟨τ,ρ,e1,h1⟩:=h;obtain⟨τ',ρ',e2,h2⟩:=h';rcases List.append_eq_append_iff.1 (e1.symm.trans e2)with⟨x,hx,_⟩|⟨x,hx,_⟩
 ·left;intro k hk;rw[h2,hx];exact List.mem_append_left _ ((h1 k).1 hk)
 ·right;intro k hk;rw[h1,hx];exact List.mem_append_left _ ((h2 k).1 hk)
theorem iq0:∀{listed:Array Bool}{σ:List Nat},Lin ops listed σ->(∀i o,ops[i]? =some o->listed.getD i false=true->∀x∈o.after,Region.binds .any x=true->listed.getD x.on false=true)->listed.size=ops.size->∀(τ ρ:List Nat),σ=τ++ρ->∀i o,ops[i]? =some o->(listed.getD i false=true\/i∈τ)->∀x∈o.after,Region.binds .any x=true->(listed.getD x.on false=true\/x.on∈τ):=by
 intro listed σ h
 induction h with
 |nil _=>
  intro hc _ τ ρ hσ i o ho hi x hx hb;have:τ=[]:=(List.append_eq_nil_iff.1 hσ.symm).1;subst this;rcases hi with hi|hi
  ·exact .inl (hc i o ho hi x hx hb)
  ·cases hi
 | @cons listed j σ hj _ ih=>
  intro hc hs τ ρ hσ i o ho hi x hx hb;cases τ with
  |nil=>
   rcases hi with hi|hi
   ·exact .inl (hc i o ho hi x hx hb)
   ·cases hi
  |cons t τ=>
   simp only[List.cons_append,List.cons.injEq]at hσ;obtain⟨rfl,hσ⟩:=hσ;obtain⟨_,oj,hoj,hdj⟩:=mem_ready.1 hj;have hjs:j<ops.size:=(Array.getElem?_eq_some_iff.1 hoj).1;have hc':∀i o,ops[i]? =some o->(listed.setIfInBounds j true).getD i false=true->∀x∈o.after,Region.binds .any x=true->(listed.setIfInBounds j true).getD x.on false=true:=by
    intro i o ho hi x hx hb;by_cases hij:j=i
    ·subst hij;obtain rfl:o=oj:=Option.some.inj (ho.symm.trans hoj);exact getD_set_true (hdj x hx hb)
    ·rw[getD_set_ne false hij]at hi;exact getD_set_true (hc i o ho hi x hx hb)
   have fb1:∀k,((listed.setIfInBounds j true).getD k false=true\/k∈τ)↔(listed.getD k false=true\/k∈j::τ):=by
    intro k;by_cases hk:j=k
    ·subst hk;simp[hs,hjs]
    ·rw[getD_set_ne false hk];simp[Ne.symm hk]
   exact(fb1 _).1 (ih hc' (by simp[hs]) τ ρ hσ i o ho ((fb1 _).2 hi) x hx hb)
theorem K0(m j:Nat):(Array.replicate m false).getD j false=false:=by
 rcases Nat.lt_or_ge j m with h|h <;> simp[h]
end
section
variable{P:Program}{ρ:Operand->Value}{w:World}{d:Option Nat}{ty:TypeId}{ps:String}{af:Array Edge}{g:Option (Nat×Bool)}
variable{x y z:Operand}{T T' E S:TypeId}
section
variable{κ:IntKind}{m:Int}{b:Bool}{a p:Option Addr}{n c:Nat}{r:Option Nat}{fn:Fn}{xs ys:Array Value}
theorem G5:(execOp ρ ⟨d,.move x,ty,ps,af,g⟩).run P w= .ok (.value (ρ x)) w:=rfl
theorem Q5:(execOp ρ ⟨d,.assign x,ty,ps,af,g⟩).run P w= .ok (.value (ρ x)) w:=rfl
theorem N3(h:ρ x= .int κ m):(execOp ρ ⟨d,.move x,ty,ps,af,g⟩).run P w= .ok (.value (.int κ m)) w:=by rw[<- h];rfl
theorem fd0(h:ρ x= .int κ m):(execOp ρ ⟨d,.assign x,ty,ps,af,g⟩).run P w= .ok (.value (.int κ m)) w:=by rw[<- h];rfl
theorem n8(h:ρ x= .bool b):(execOp ρ ⟨d,.move x,ty,ps,af,g⟩).run P w= .ok (.value (.bool b)) w:=by rw[<- h];rfl
theorem jm0(h:ρ x= .bool b):(execOp ρ ⟨d,.assign x,ty,ps,af,g⟩).run P w= .ok (.value (.bool b)) w:=by rw[<- h];rfl
theorem dx0(h:ρ x= .slice a n c):(execOp ρ ⟨d,.move x,ty,ps,af,g⟩).run P w= .ok (.value (.slice a n c)) w:=by rw[<- h];rfl
theorem kg0(h:ρ x= .slice a n c):(execOp ρ ⟨d,.assign x,ty,ps,af,g⟩).run P w= .ok (.value (.slice a n c)) w:=by rw[<- h];rfl
theorem D3(h:ρ x= .pointer p):(execOp ρ ⟨d,.move x,ty,ps,af,g⟩).run P w= .ok (.value (.pointer p)) w:=by rw[<- h];rfl
theorem Z9(h:ρ x= .pointer p):(execOp ρ ⟨d,.assign x,ty,ps,af,g⟩).run P w= .ok (.value (.pointer p)) w:=by rw[<- h];rfl
theorem pt0(h:ρ x= .map r):(execOp ρ ⟨d,.move x,ty,ps,af,g⟩).run P w= .ok (.value (.map r)) w:=by rw[<- h];rfl
theorem rw0(h:ρ x= .map r):(execOp ρ ⟨d,.assign x,ty,ps,af,g⟩).run P w= .ok (.value (.map r)) w:=by rw[<- h];rfl
theorem zn0{cs:Array Value}(h:ρ x= .tuple cs):(execOp ρ ⟨d,.move x,ty,ps,af,g⟩).run P w= .ok (.value (.tuple cs)) w:=by rw[<- h];rfl
theorem rx0(h:ρ x= .func fn xs ys):(execOp ρ ⟨d,.move x,ty,ps,af,g⟩).run P w= .ok (.value (.func fn xs ys)) w:=by rw[<- h];rfl
theorem Lt0(h:ρ x= .func fn xs ys):(execOp ρ ⟨d,.assign x,ty,ps,af,g⟩).run P w= .ok (.value (.func fn xs ys)) w:=by rw[<- h];rfl
theorem Ru0{s:ByteArray}(h:ρ x= .string s):(execOp ρ ⟨d,.move x,ty,ps,af,g⟩).run P w= .ok (.value (.string s)) w:=by rw[<- h];rfl
theorem k7(h:ρ z= .bool true):(execOp ρ ⟨d,.pick z x y,ty,ps,af,g⟩).run P w= .ok (.value (ρ x)) w:=by
 simp[execOp,h,asBool]
theorem H7(h:ρ z= .bool false):(execOp ρ ⟨d,.pick z x y,ty,ps,af,g⟩).run P w= .ok (.value (ρ y)) w:=by
 simp[execOp,h,asBool]
end
section
variable{κ:IntKind}{m k:Int}(hx:ρ x= .int κ m)(hy:ρ y= .int κ k)
include hx hy
theorem jn0:(execOp ρ ⟨d,.binOp .add T x y T',ty,ps,af,g⟩).run P w= .ok (.value (.int κ (κ.wrap (m+k)))) w:=by simp[execOp,hx,hy,eqGuard_add,binOp_add,Op.intArith]
theorem Fh0:(execOp ρ ⟨d,.binOp .sub T x y T',ty,ps,af,g⟩).run P w= .ok (.value (.int κ (κ.wrap (m-k)))) w:=by simp[execOp,hx,hy,eqGuard_sub,binOp_sub,Op.intArith]
theorem zo0:(execOp ρ ⟨d,.binOp .mul T x y T',ty,ps,af,g⟩).run P w= .ok (.value (.int κ (κ.wrap (m*k)))) w:=by simp[execOp,hx,hy,eqGuard_mul,binOp_mul,Op.intArith]
theorem Lu0(h0:k≠0):(execOp ρ ⟨d,.binOp .quo T x y T',ty,ps,af,g⟩).run P w= .ok (.value (.int κ (κ.wrap (m.tdiv k)))) w:=by simp[execOp,hx,hy,eqGuard_quo,binOp_quo,Op.intDiv,h0]
theorem na0(h0:k≠0):(execOp ρ ⟨d,.binOp .rem T x y T',ty,ps,af,g⟩).run P w= .ok (.value (.int κ (m.tmod k))) w:=by simp[execOp,hx,hy,eqGuard_rem,binOp_rem,Op.intDiv,h0]
theorem jo0:(execOp ρ ⟨d,.binOp .lss T x y T',ty,ps,af,g⟩).run P w= .ok (.value (.bool (decide (m<k)))) w:=by simp[execOp,hx,hy,eqGuard_lss,binOp,Op.intCmp]
theorem Rv0:(execOp ρ ⟨d,.binOp .leq T x y T',ty,ps,af,g⟩).run P w= .ok (.value (.bool (decide (m <=k)))) w:=by simp[execOp,hx,hy,eqGuard_leq,binOp,Op.intCmp]
theorem lr0:(execOp ρ ⟨d,.binOp .gtr T x y T',ty,ps,af,g⟩).run P w= .ok (.value (.bool (decide (k<m)))) w:=by simp[execOp,hx,hy,eqGuard_gtr,binOp,Op.intCmp]
theorem zp0:(execOp ρ ⟨d,.binOp .geq T x y T',ty,ps,af,g⟩).run P w= .ok (.value (.bool (decide (k <=m)))) w:=by simp[execOp,hx,hy,eqGuard_geq,binOp,Op.intCmp]
theorem dy0:(execOp ρ ⟨d,.binOp .eql T x y T',ty,ps,af,g⟩).run P w= .ok (.value (.bool (decide (m=k)))) w:=by
 simp only[execOp,hx,hy,eqGuard_at_int,binOp,Op.intCmp,pure_bind,Sem.run_bind,Sem.run_pure];by_cases h:m=k <;> simp[h]
theorem pu0:(execOp ρ ⟨d,.binOp .neq T x y T',ty,ps,af,g⟩).run P w= .ok (.value (.bool (decide (m≠k)))) w:=by
 simp only[execOp,hx,hy,eqGuard_at_int,binOp,Op.intCmp,pure_bind,Sem.run_bind,Sem.run_pure];by_cases h:m=k <;> simp[h]
end
section
variable{m k:Int}{n c s b o:Nat}{aT:Array TypeId}{t:TypeId}
theorem fs0(hx:ρ x= .int .i64 m)(hy:ρ y= .int .i64 k)(h:-9223372036854775808 <=m+k/\m+k <=9223372036854775807):(execOp ρ ⟨d,.binOp .add T x y T',ty,ps,af,g⟩).run P w= .ok (.value (.int .i64 (m+k))) w:=by
 rw[jn0 hx hy,IntWalk.i64_in _ h]
theorem ry0{k:Nat}(hx:ρ x= .int .i64 (k:Int))(hy:ρ y= .int .i64 1)(h:k<9223372036854775807):(execOp ρ ⟨d,.binOp .add T x y T',ty,ps,af,g⟩).run P w= .ok (.value (.int .i64 ((k+1:Nat):Int))) w:=by
 rw[fs0 hx hy Uo];rfl
theorem pv0{b:Bool}(hx:ρ x= .bool b):(execOp ρ ⟨d,.unOp .not T x,ty,ps,af,g⟩).run P w= .ok (.value (.bool (!b))) w:=by simp[execOp,hx,Op.unary]
theorem Rw0(hx:ρ x= .int .i64 k)(h:-9223372036854775808<k/\k <=9223372036854775807):(execOp ρ ⟨d,.unOp .neg T x,ty,ps,af,g⟩).run P w= .ok (.value (.int .i64 (-k))) w:=by
 simp[execOp,hx,Op.unary,Op.intArith,IntWalk.i64_in (-k) Uo]
theorem A7{a:Option Addr}(hx:ρ x= .slice a n c)(hT:P.underlying T=some (.slice E))(hA:aT[0]? =some T):(execOp ρ ⟨d,.call ⟨.builtin .len,#[x],aT⟩,ty,ps,af,g⟩).run P w= .ok (.value (.int .i64 (n:Int))) w:=by
 simp[execOp,resolve,invoke,builtin,hx,Builtin.len_,hA,underlying,hT,goInt]
theorem pd1(hx:ρ x= .int .i64 m)(hy:ρ y= .int .i64 k):(execOp ρ ⟨d,.call ⟨.builtin .max,#[x,y],aT⟩,ty,ps,af,g⟩).run P w= .ok (.value (.int .i64 (max m k))) w:=by
 have:max m k=if k>m then k else m:=by split <;> omega
 rw[this];simp[execOp,resolve,invoke,builtin,hx,hy,Builtin.max_,Builtin.max2]
theorem run_sizeOf(h:(P.info? t).map (·.size)=some s):(sizeOf t).run P w= .ok s w:=by
 cases hi:P.info? t with
 |none=>rw[hi]at h;cases h
 |some i=>rw[hi]at h;simp at h;simp[sizeOf,typeInfo,hi,h]
theorem run_underlying{u:TypeDesc}(h:P.underlying t=some u):(underlying t).run P w= .ok u w:=by simp[underlying,h]
theorem Z7{v:Value}(h:(P.info? t).bind (·.zero)=some v):(zeroValue t).run P w= .ok v w:=by
 cases hi:P.info? t with
 |none=>rw[hi]at h;cases h
 |some i=>rw[hi]at h;simp at h;simp[zeroValue,typeInfo,hi,h]
theorem cb0{i:Nat}(hx:ρ x= .slice (some ⟨b,o,none⟩) n c)(hy:ρ y= .int .i64 (i:Int))(hT:P.underlying T=some (.slice E))(hs:(P.info? E).map (·.size)=some s)(h:i<n):(execOp ρ ⟨d,.indexAddr T x y,ty,ps,af,g⟩).run P w= .ok (.value (.pointer (some ⟨b,o+i*s,none⟩))) w:=by
 have h1:(0:Int) <=(i:Int)/\(i:Int)<(n:Int):=by omega
 have h2:Addr.add ⟨b,o,none⟩ (i*s)=⟨b,o+i*s,none⟩:=by
  unfold Addr.add;split
  ·rename_i h0;simp[]
  ·rfl
 simp[execOp,Instr.indexAt,hx,hy,asIntOf,run_underlying hT,run_sizeOf hs,h1,h];simpa using h2
theorem G8{i:Int}(hx:ρ x= .pointer (some ⟨b,o,none⟩))(hy:ρ y= .int .i64 i)(hT:P.underlying T=some (.array n E))(hs:(P.info? E).map (·.size)=some s)(h0:0 <=i)(h:i<n):(execOp ρ ⟨d,.indexAddr T x y,ty,ps,af,g⟩).run P w= .ok (.value (.pointer (some ⟨b,o+i.toNat*s,none⟩))) w:=by
 have h2:Addr.add ⟨b,o,none⟩ (i.toNat*s)=⟨b,o+i.toNat*s,none⟩:=by
  unfold Addr.add;split
  ·rename_i h0;simp[]
  ·rfl
 simp[execOp,Instr.indexAt,hx,hy,asIntOf,Instr.sureAddr,run_underlying hT,run_sizeOf hs,h0,h,h2]
theorem A0{f:Nat}{fs:Array Field}{fl:Field}(hx:ρ x= .pointer (some ⟨b,o,none⟩))(hT:P.underlying S=some (.struct fs))(hf:fs[f]? =some fl)(hs:(P.info? fl.type).map (·.size)=some s)(h0:s≠0):(execOp ρ ⟨d,.fieldAddr S x f,ty,ps,af,g⟩).run P w= .ok (.value (.pointer (some ⟨b,o+fl.offset,none⟩))) w:=by
 have h2:Addr.add ⟨b,o,none⟩ fl.offset=⟨b,o+fl.offset,none⟩:=by
  unfold Addr.add;split
  ·rename_i h0;simp[]
  ·rfl
 simp[execOp,Instr.fieldAt,hx,Instr.sureAddr,run_underlying hT,hf,fieldPlace,run_sizeOf hs,h0,h2]
end
def bm0(u:TypeDesc):Bool:=match u with| .struct _| .array ..=>false|_=>true
section
variable{u:TypeDesc}{p:Addr}{v v0 v1 v2 v3:Value}{f:FuncId}{fn:Func}{xs:Array Operand}{aT:Array TypeId}{x0 x1 x2 x3:Operand}
theorem dn0{t:TypeId}(h:P.underlying t=some u):(isAgg t).run P w= .ok (!bm0 u) w:=by
 cases u <;> simp[isAgg,run_underlying h,bm0]
theorem q0(hx:ρ x= .pointer (some p))(hT:P.underlying T=some u)(hu:bm0 u=true)(hc:w.cell? p=some v):(execOp ρ ⟨d,.load T x,ty,ps,af,g⟩).run P w= .ok (.value v) w:=by
 simp[execOp,Instr.loadAt,hx,Instr.sureAddr,loadVar,dn0 hT,hu,hc]
theorem A2{b o:Nat}{cs:List Value}{s:Nat}(hx:ρ x= .pointer (some ⟨b,o,none⟩))(hT:P.underlying T=some u)(hu:bm0 u=false)(hs:(P.info? T).map (·.size)=some s)(hl:cs.length=s)
  (hc:∀j v,cs[j]? =some v->w.cell? ⟨b,o+j,none⟩=some v) :
  (execOp ρ ⟨d,.load T x,ty,ps,af,g⟩).run P w= .ok (.value (.agg cs.toArray)) w:=by
 have h2:∀j,Addr.add ⟨b,o,none⟩ j=⟨b,o+j,none⟩:=fun j=>by
  unfold Addr.add;split
  ·rename_i h0;simp[]
  ·rfl
 have:=run_loadCells_list (P:=P) (w:=w) ⟨b,o,none⟩ cs (fun j v hj=>by rw[h2];exact hc j v hj);rw[hl]at this;simp[execOp,Instr.loadAt,hx,Instr.sureAddr,loadVar,dn0 hT,hu,run_sizeOf hs,this]
theorem nb0(hx:ρ x= .pointer (some p))(hy:ρ y=v)(hs:(P.info? T).map (·.size)=some 1)(h1:v.oneCell'=true)(hc:w.cell? p=some v0)(hf:w.frozen? p=false):(execOp ρ ⟨d,.store T x y,ty,ps,af,g⟩).run P w= .ok .skip (w.setCell p v):=by
 have hv:v.cells=#[v]:=by cases v <;> first|rfl|(simp[Value.oneCell']at h1)
 have ha:p.add 0=p:=by simp[Addr.add]
 simp[execOp,Instr.storeAt,hx,hy,Instr.sureAddr,storeVar,run_sizeOf hs,hv,storeCells,ha,run_store P w p v .plain h1,hc,hf]
theorem K6{vs:Array Value}{i:Nat}(hx:ρ x= .tuple vs)(hv:vs[i]? =some v):(execOp ρ ⟨d,.extract x i,ty,ps,af,g⟩).run P w= .ok (.value v) w:=by
 simp[execOp,Instr.extract,hx,hv]
theorem cv0{first cap args:Array Value}(hx:ρ x= .func (.func f) first cap)(ha:xs.map ρ=args)(hf:P.funcs[f]? =some fn)(hb:fn.body.isSome=true)(hn:Ue fn):(execOp ρ ⟨d,.call ⟨.value x,xs,aT⟩,ty,ps,af,g⟩).run P w= .ok (.enter f (first++args++cap)) w:=by
 have Z8:fn.body≠none:=by intro h;rw[h]at hb;cases hb
 simp at hn;simp[execOp,resolve,hx,Deferred.ofValue,invoke,callFunc,hf,hn,Z8,ha]
theorem lb0(hf:P.funcs[f]? =some fn)(hb:fn.body.isSome=true)(hn:Ue fn)(hx:ρ (.func f)= .func (.func f) #[] #[]):(execOp ρ ⟨d,.call ⟨.value (.func f),#[],aT⟩,ty,ps,af,g⟩).run P w= .ok (.enter f #[]) w:=by
 rw[cv0 hx rfl hf hb hn];simp
theorem N2(h0:ρ x0=v0)(hf:P.funcs[f]? =some fn)(hb:fn.body.isSome=true)(hn:Ue fn)(hx:ρ (.func f)= .func (.func f) #[] #[]):(execOp ρ ⟨d,.call ⟨.value (.func f),#[x0],aT⟩,ty,ps,af,g⟩).run P w= .ok (.enter f #[v0]) w:=by
 rw[cv0 hx rfl hf hb hn];simp[h0]
theorem B2(h0:ρ x0=v0)(h1:ρ x1=v1)(hf:P.funcs[f]? =some fn)(hb:fn.body.isSome=true)(hn:Ue fn)(hx:ρ (.func f)= .func (.func f) #[] #[]):(execOp ρ ⟨d,.call ⟨.value (.func f),#[x0,x1],aT⟩,ty,ps,af,g⟩).run P w= .ok (.enter f #[v0,v1]) w:=by
 rw[cv0 hx rfl hf hb hn];simp[h0,h1]
theorem D6(h0:ρ x0=v0)(h1:ρ x1=v1)(h2:ρ x2=v2)(hf:P.funcs[f]? =some fn)(hb:fn.body.isSome=true)(hn:Ue fn)(hx:ρ (.func f)= .func (.func f) #[] #[]):(execOp ρ ⟨d,.call ⟨.value (.func f),#[x0,x1,x2],aT⟩,ty,ps,af,g⟩).run P w= .ok (.enter f #[v0,v1,v2]) w:=by
 rw[cv0 hx rfl hf hb hn];simp[h0,h1,h2]
theorem fe0(h0:ρ x0=v0)(h1:ρ x1=v1)(h2:ρ x2=v2)(h3:ρ x3=v3)(hf:P.funcs[f]? =some fn)(hb:fn.body.isSome=true)(hn:Ue fn)(hx:ρ (.func f)= .func (.func f) #[] #[]):(execOp ρ ⟨d,.call ⟨.value (.func f),#[x0,x1,x2,x3],aT⟩,ty,ps,af,g⟩).run P w= .ok (.enter f #[v0,v1,v2,v3]) w:=by
 rw[cv0 hx rfl hf hb hn];simp[h0,h1,h2,h3]
theorem o8{x4:Operand}{v4:Value}(h0:ρ x0=v0)(h1:ρ x1=v1)(h2:ρ x2=v2)(h3:ρ x3=v3)(h4:ρ x4=v4)(hf:P.funcs[f]? =some fn)(hb:fn.body.isSome=true)(hn:Ue fn)(hx:ρ (.func f)= .func (.func f) #[] #[]):(execOp ρ ⟨d,.call ⟨.value (.func f),#[x0,x1,x2,x3,x4],aT⟩,ty,ps,af,g⟩).run P w= .ok (.enter f #[v0,v1,v2,v3,v4]) w:=by
 rw[cv0 hx rfl hf hb hn];simp[h0,h1,h2,h3,h4]
theorem Rx0(hx:ρ x=v):(execOp ρ ⟨d,.box T x,ty,ps,af,g⟩).run P w= .ok (.value (.pointer (some ⟨w.heap.size,0,none⟩))) (w.alloc (.cells v.cells T)):=by
 simp[execOp,Instr.box,newVar,newRow,hx]
theorem Cv0(hz:(P.info? T).bind (·.zero)=some v):(execOp ρ ⟨d,.alloc T,ty,ps,af,g⟩).run P w= .ok (.value (.pointer (some ⟨w.heap.size,0,none⟩))) (w.alloc (.cells v.cells T)):=by
 simp[execOp,Instr.alloc,newVar,newRow,Z7 hz]
theorem lx0{fn:Fn}{ys:Array Operand}:(execOp ρ ⟨d,.makeFunc fn xs ys,ty,ps,af,g⟩).run P w= .ok (.value (.func fn (xs.map ρ) (ys.map ρ))) w:=rfl
end
end
section
end
section
end
def cw0(args:Array Value):Env:=fun t=>args.getD t undef
def ends(P:Program)(fn:Func)(R:Value->World->Prop):Exit->Env->World->Prop:=fun x e w=>
 (x= .normal\/x= .ret)/\∃v,(∀tmps:Array Value,(∀t,tmps.getD t undef=e t)->(results fn tmps).run P w= .ok v w)/\R v w
theorem rb{a b:Bool}(h:a=b):Value.bool a=Value.bool b:=by rw[h]
end Go.Vc
end
section
namespace Go.Vc
open Go Go.RowKit
def I0(w:World)(b:Nat)(cs:Array Value)(T:TypeId):Prop:=w.heap[b]? =some (.cells cs T (0,0))
section
variable{w w':World}{b o:Nat}{cs:Array Value}{T:TypeId}{v:Value}{p:Addr}
theorem I0.lt(h:I0 w b cs T):b<w.heap.size:=(Array.getElem?_eq_some_iff.1 h).1
theorem I0.cell(h:I0 w b cs T)(hv:cs[o]? =some v):w.cell? ⟨b,o,none⟩=some v:=by
 unfold I0 at h;simp[World.cell?,h,hv]
theorem I0.frozen(h:I0 w b cs T):w.frozen? ⟨b,o,none⟩=false:=by
 unfold I0 at h;simp[World.frozen?,h]
theorem I0.set(h:I0 w b cs T)(v:Value):I0 (w.setCell ⟨b,o,none⟩ v) b (cs.setIfInBounds o v) T:=by
 unfold I0 at *;simp only[World.setCell,Array.getElem?_modify,h];simp
theorem I0.Fi0(h:I0 w b cs T)(hp:b≠p.block)(v:Value):I0 (w.setCell p v) b cs T:=by
 unfold I0 at *;rw[Below.heap_setCell _ _ _ _ hp];exact h
theorem I0.below{B:Nat}(h:I0 w b cs T)(hb:Below B w w')(O1:b<B):I0 w' b cs T:=(hb.block b O1).trans h
theorem I0.j0(h:I0 w b cs T)(hb:Below w.heap.size w w'):I0 w' b cs T:=h.below hb h.lt
theorem bl0{w0:World}(h:Below w0.heap.size w0 w)(hc:w0.cell? p=some v):w.cell? p=some v:=by
 rw[h.cell (World.block_lt_of_cell? w0 _ hc)];exact hc
end
structure jp0(w w1:World)(b:Nat)(cs:Array Value)(T:TypeId):Prop where
 here:b=w.heap.size
 below:Below w.heap.size w w1
 size:w1.heap.size=w.heap.size+1
 blk:I0 w1 b cs T
theorem jp0.lq{w w1:World}{b n:Nat}{cs:Array Value}{T:TypeId}(F:jp0 w w1 b cs T)(h:n <=w.heap.size):n <=b:=F.here▸h
theorem B7(w:World)(cs:Array Value)(T:TypeId):jp0 w (w.alloc (.cells cs T)) w.heap.size cs T:=
 ⟨rfl,(Below.refl _ _).alloc (Nat.le_refl _) _,by simp,by unfold I0;show(w.heap.push _)[_]? =_;simp⟩
section
variable{P:Program}{w:World}
variable{T:TypeId}
def setRow(cs:Array Value)(o:Nat):List Value->Array Value
 | []=>cs
 |v::vs=>setRow (cs.setIfInBounds o v) (o+1) vs
def R4(w:World)(b:Nat)(cs:Array Value)(T:TypeId):World:={w with heap:=w.heap.setIfInBounds b (.cells cs T (0,0))}
section
variable{b k:Nat}{cs:Array Value}
theorem ff0(w:World)(b:Nat)(cs:Array Value)(T:TypeId):(R4 w b cs T).heap.size=w.heap.size:=by simp[R4]
theorem T2{w:World}(cs S6:Array Value)(T:TypeId)(h:I0 w b cs T):I0 (R4 w b S6 T) b S6 T:=by
 have:=h.lt;simp[I0,R4,this]
theorem dc0{w:World}(S6:Array Value)(T:TypeId)(h:k≠b):(R4 w b S6 T).heap[k]? =w.heap[k]?:=by
 simp only[R4];rw[Array.getElem?_setIfInBounds_ne (Ne.symm h)]
theorem I0.A3{w:World}{E:TypeId}(h:I0 w k cs E)(hk:k≠b)(S6:Array Value)(T:TypeId):I0 (R4 w b S6 T) k cs E:=by
 unfold I0;rw[dc0 _ _ hk];exact h
theorem Below.R4{B:Nat}{a w:World}(h:Below B a w){b:Nat}(hb:B <=b)(cs:Array Value)(T:TypeId):Below B a (Vc.R4 w b cs T):=
 h.trans ⟨rfl,rfl,rfl,by simp[Vc.R4],fun k hk=>dc0 _ _ Uo⟩
theorem rz0{w:World}{o:Nat}{T:TypeId}(h:I0 w b cs T)(v:Value):w.setCell ⟨b,o,none⟩ v=R4 w b (cs.setIfInBounds o v) T:=by
 have hl:=h.lt;have hg:w.heap[b]= .cells cs T (0,0):=by have:=h;unfold I0 at this;rw[Array.getElem?_eq_getElem hl]at this;exact Option.some.inj this
 simp only[World.setCell,Vc.R4];congr 1;apply Array.ext_getElem?;intro i;by_cases hi:i=b
 ·subst hi;rw[Array.getElem?_modify,if_pos rfl,Array.getElem?_eq_getElem hl,hg];simp[hl]
 ·rw[Array.getElem?_modify,Array.getElem?_setIfInBounds_ne (Ne.symm hi),if_neg (Ne.symm hi)]
theorem vw0(w:World)(b:Nat)(cs S6:Array Value)(T:TypeId):R4 (R4 w b cs T) b S6 T=R4 w b S6 T:=by
 simp[R4]
theorem Fj0{w:World}{T:TypeId}(h:I0 w b cs T):R4 w b cs T=w:=by
 have hl:=h.lt;have hg:w.heap[b]= .cells cs T (0,0):=by have:=h;unfold I0 at this;rw[Array.getElem?_eq_getElem hl]at this;exact Option.some.inj this
 have:w.heap.setIfInBounds b (.cells cs T (0,0))=w.heap:=by
  apply Array.ext_getElem?;intro i;by_cases hi:i=b
  ·subst hi;simp[hl,hg]
  ·rw[Array.getElem?_setIfInBounds_ne (Ne.symm hi)]
 simp only[R4,this]
theorem I7(b:Nat)(T:TypeId):∀(vs:List Value)(o i:Nat)(cs:Array Value)(w:World),I0 w b cs T->o+i+vs.length <=cs.size->(∀v∈vs,v.oneCell'=true) ->
  (storeCells ⟨b,o,none⟩ vs i).run P w= .ok () (R4 w b (setRow cs (o+i) vs) T)
 | [],o,i,cs,w,h,_,_=>by simp[storeCells,setRow,Fj0 h]
 |v::vs,o,i,cs,w,h,hl,h1=>by
  have ha:Addr.add ⟨b,o,none⟩ i=⟨b,o+i,none⟩:=by
   unfold Addr.add;split
   ·rename_i h0;simp[]
   ·rfl
  have O1:o+i<cs.size:=by simp only[List.length_cons]at hl;omega
  have hc:=h.cell (Array.getElem?_eq_getElem O1);have ih:=I7 b T vs o (i+1) (cs.setIfInBounds (o+i) v) (R4 w b (cs.setIfInBounds (o+i) v) T) (T2 cs _ T h) (by simp only[List.length_cons]at hl;simp;omega) (fun u hu=>h1 u (List.mem_cons_of_mem _ hu));rw[vw0]at ih;simp only[storeCells,Sem.run_bind,ha,run_store P w _ v .plain (h1 v List.mem_cons_self),hc,h.frozen,Bool.false_eq_true,if_false,Result.andThen_ok,rz0 h v];rw[ih];rfl
end
end
section
end
def ab(a:Option Addr):Nat:=(a.map (·.block)).getD 0
def ao(a:Option Addr):Nat:=(a.map (·.off)).getD 0
def SL(a:Option Addr)(n:Nat):Prop:=0<n->a=some ⟨ab a,ao a,none⟩
theorem SL.zero(a:Option Addr):SL a 0:=fun h=>by omega
theorem SL.mk(b o n:Nat):SL (some ⟨b,o,none⟩) n:=fun _=>rfl
section
variable{P:Program}{ρ:Operand->Value}{w:World}{d:Option Nat}{ty:TypeId}{ps:String}{af:Array Edge}{g:Option (Nat×Bool)}{x y:Operand}{T E:TypeId}
theorem Q7{a:Option Addr}{n c s:Nat}{i:Nat}(hx:ρ x= .slice a n c)(hy:ρ y= .int .i64 (i:Int))(hT:P.underlying T=some (.slice E))(hs:(P.info? E).map (·.size)=some s)(hS:SL a n)(h:i<n):(execOp ρ ⟨d,.indexAddr T x y,ty,ps,af,g⟩).run P w= .ok (.value (.pointer (some ⟨ab a,ao a+i*s,none⟩))) w:=by
 have h0:=hS Uo;rw[h0]at hx;exact cb0 hx hy hT hs h
end
section
variable{next:Env->World->Prop}{Q:Exit->Env->World->Prop}{e:Env}{w:World}{id id':Nat}
theorem T.nrm(h:next e w):x9 next Q .normal e w:=h
theorem T.ret(h:Q .ret e w):x9 next Q .ret e w:=h
theorem T.exit(h:Q (.exit id) e w):x9 next Q (.exit id) e w:=h
theorem B.nrm(h:Q .normal e w):ao0 id Q .normal e w:=h
theorem B.ret(h:Q .ret e w):ao0 id Q .ret e w:=h
theorem B.Ry0(h:Q .normal e w):ao0 id Q (.exit id) e w:=by simp only[ao0,if_true];exact h
theorem B.Rz0(X2:id'≠id)(h:Q (.exit id') e w):ao0 id Q (.exit id') e w:=by simp only[ao0,if_neg X2];exact h
end
section
variable{p q:Prop}
theorem ii1[Decidable p][Decidable (p\/q)](h:decide p=true):true=decide (p\/q):=(decide_eq_true (Or.inl (of_decide_eq_true h))).symm
theorem ij1[Decidable p][Decidable q][Decidable (p\/q)](h:decide p=false):decide q=decide (p\/q):=decide_eq_decide.2 ⟨Or.inr,fun h'=>h'.resolve_left (of_decide_eq_false h)⟩
theorem zq0[Decidable p][Decidable (p/\q)](h:decide p=false):false=decide (p/\q):=(decide_eq_false (fun h'=>of_decide_eq_false h h'.1)).symm
theorem zr0[Decidable p][Decidable q][Decidable (p/\q)](h:decide p=true):decide q=decide (p/\q):=decide_eq_decide.2 ⟨fun h'=>⟨of_decide_eq_true h,h'⟩,fun h'=>h'.2⟩
theorem B0{w0 w w':World}(h:Below w0.heap.size w0 w)(h':Below w.heap.size w w'):Below w0.heap.size w0 w':=h.trans (h'.mono h.size)
end
def Own(w:World)(B:Nat)(E:TypeId)(s:Nat)(a:Option Addr)(n c:Nat)(xs:List Value):Prop:=w.ownsRow B E s (.slice a n c) n xs
section
variable{w w':World}{B:Nat}{E:TypeId}{s:Nat}{a:Option Addr}{n c:Nat}{xs:List Value}
section
variable{b:Nat}{cs:Array Value}{T:TypeId}
theorem Own.nil(w:World)(B:Nat)(E:TypeId)(s:Nat):Own w B E s none 0 0 []:=World.ownsRow_nil w B E s
theorem Own.length(h:Own w B E s a n c xs):xs.length=n*s:=h.1
theorem Own.sl(h:Own w B E s a n c xs):SL a n:=fun hn=>by
 rcases h.2 with⟨_,h0⟩|⟨g,cap,cur,hv,_⟩
 ·omega
 ·cases hv;rfl
theorem Own.off(h:Own w B E s a n c xs):ao a=0:=by
 rcases h.2 with⟨hv,h0⟩|⟨g,cap,cur,hv,_⟩ <;> cases hv <;> rfl
theorem Own.row(h:Own w B E s a n c xs)(ha:a≠none):∃cur,I0 w (ab a) cur E/\B <=ab a/\n <=c/\c <=maxLen/\cur.size=c*s/\cur.toList.take (n*s)=xs:=by
 rcases h.2 with⟨hv,h0⟩|⟨g,cap,cur,hv,hb,hg,hn,hm,hs,ht⟩
 ·cases hv;exact absurd rfl ha
 ·cases hv;exact⟨cur,hg,hb,hn,hm,hs,ht⟩
theorem Own.ir0(h:Own w B E s a n c xs)(hn:0<n):a≠none:=by rw[h.sl hn];simp
theorem Own.cell(h:Own w B E s a n c xs){j:Nat}{v:Value}(hj:xs[j]? =some v):w.cell? ⟨ab a,j,none⟩=some v:=by
 have O1:j<xs.length:=(List.getElem?_eq_some_iff.1 hj).1;have hn:0<n:=by
  rcases Nat.eq_zero_or_pos n with h0|h0
  ·subst h0;rw[h.length]at O1;omega
  ·exact h0
 obtain⟨cur,hB,_,_,_,_,ht⟩:=h.row (h.ir0 hn);refine hB.cell ?_;rw[<- ht]at hj;rw[List.getElem?_take]at hj;split at hj
 ·simpa using hj
 ·cases hj
theorem Own.lt(h:Own w B E s a n c xs)(ha:a≠none):ab a<w.heap.size:=(h.row ha).choose_spec.1.lt
theorem Own.grown(h:Own w B E s a n c xs){row:Option Nat}(hg:w.grownBy w' row)(X2:some (ab a)≠row):Own w' B E s a n c xs:=by
 refine World.ownsRow.kept h hg ?_;cases a with
 |none=>exact .inl rfl
 |some x=>exact .inr X2
theorem br0(hb:Below w.heap.size w w'):w.grownBy w' none:=⟨hb.os,hb.tape,hb.output,hb.size,fun k hk _=>hb.block k hk⟩
theorem Own.j0(h:Own w B E s a n c xs)(hb:Below w.heap.size w w'):Own w' B E s a n c xs:=h.grown (br0 hb) (by simp)
theorem I0.grown(h:I0 w b cs T){row:Option Nat}(hg:w.grownBy w' row)(X2:some b≠row):I0 w' b cs T:=(hg.block b h.lt X2).trans h
theorem I0.ne{b':Nat}{S6:Array Value}{T':TypeId}(h:I0 w b cs T)(h':I0 w b' S6 T')(hT:T≠T'):b≠b':=by
 intro hb;subst hb;unfold I0 at h h';rw[h]at h';exact hT (by cases h';rfl)
end
end
theorem ls0(z:Value)(s:Nat)(hs:0<s)(n:Nat):madeCells (Array.replicate s z) n=Array.replicate n z:=by
 apply Array.ext
 ·simp[madeCells]
 ·intro i h1 h2;have:i%s<s:=Nat.mod_lt _ hs;simp[madeCells,this]
section
theorem Sa0(vs:List Value):∀(k:Nat)(cs:Array Value),cs.size=k+vs.length->(vs.zipIdx k).foldl (fun cs (cj:Value×Nat)=>cs.setIfInBounds (0+cj.2) cj.1) cs=(cs.toList.take k++vs).toArray:=by
 induction vs with
 |nil=>
  intro k cs h;have h':cs.size=k:=by simpa using h
  rw[List.append_nil,List.take_of_length_le (by simp[h'])];simp
 |cons v vs ih=>
  intro k cs h;simp only[List.zipIdx_cons,List.foldl_cons,Nat.zero_add];have:=ih (k+1) (cs.setIfInBounds k v) (by simp[h];omega);simp only[Nat.zero_add]at this;rw[this];congr 1;have hk:k<cs.size:=by simp at h;omega
  rw[Array.toList_setIfInBounds,List.take_succ_eq_append_getElem (by simpa using hk)];simp[List.take_set_of_le]
end
section
end
section
variable{P:Program}{ρ:Operand->Value}{w:World}{d:Option Nat}{ty:TypeId}{ps:String}{af:Array Edge}{g:Option (Nat×Bool)}{x y:Operand}{T E:TypeId}
section
variable{a:Option Addr}{n c:Nat}
theorem ol0{k s:Nat}(hx:ρ x= .slice a n c)(hy:ρ y= .int .i64 (k:Int))(hT:P.underlying T=some (.slice E))(hs:(P.info? E).map (·.size)=some s)(hk:k <=c):(execOp ρ ⟨d,.slice T x none (some y) none,ty,ps,af,g⟩).run P w= .ok (.value (.slice a k c)) w:=by
 have h0:∀q:Addr,q.add 0=q:=fun q=>by simp[Addr.add]
 have h1:a.map (fun q=>q.add 0)=a:=by cases a <;> simp[h0]
 have h2:(0:Int) <=(k:Int)/\(k:Int) <=(c:Int):=by omega
 simp[execOp,Instr.sliceAt,Instr.slice,Instr.sliceBounds,Instr.sliceBound,hx,hy,asIntOf,run_underlying hT,run_sizeOf hs,h2,hk];intro _;exact h1
theorem P2{parts:List (Nat×Operand)}{vs:List (Nat×Value)}{cells:Array Value}(hv:parts.map (fun(i,y)=>(i,ρ y))=vs)(hb:P.built T vs=some cells):(execOp ρ ⟨d,.build T parts.toArray,ty,ps,af,g⟩).run P w= .ok (.value (.agg cells)) w:=by
 subst hv;have:=run_build (P:=P) w T (parts.map (fun(i,y)=>(i,ρ y))).toArray cells (by simpa using hb);simp only[execOp,List.map_toArray,Sem.run_bind,this,Result.andThen_ok,Sem.run_pure]
theorem qw0(hx:ρ x= .slice a n c)(hy:ρ y= .slice none 0 0)(hT:P.underlying T=some (.slice E)):(execOp ρ ⟨d,.binOp .eql T x y T,ty,ps,af,g⟩).run P w= .ok (.value (.bool a.isNone)) w:=by
 have h1:(Op.equalIn 10000 T (.slice a n c) (.slice none 0 0)).run P w= .ok a.isNone w:=by
  rw[show(10000:Nat)=9999+1 from rfl,Op.equalIn];cases a <;> simp[run_underlying hT]
 simp only[execOp,hx,hy,eqGuard_at_slice,binOp,Op.equal,Op.maxDepth,pure_bind,Sem.run_bind,h1,Result.andThen_ok,Sem.run_pure]
end
end
def arr(n:Nat)(f:Nat->Value):Array Value:=((List.range n).map f).toArray
section
variable{n i:Nat}{f g:Nat->Value}
theorem I4(n:Nat)(f:Nat->Value):(arr n f).size=n:=by simp[arr]
theorem T6(h:i<n):(arr n f)[i]? =some (f i):=by simp[arr,h]
theorem Lv0{v:Value}:(arr n f).setIfInBounds i v=arr n (fun x=>if x=i then v else f x):=by
 apply Array.ext_getElem?;intro j;rw[Array.getElem?_setIfInBounds];by_cases hj:j<n
 ·by_cases hij:i=j
  ·subst hij;rw[if_pos rfl,if_pos (by rw[I4];exact hj),T6 hj];simp
  ·simp[hij,T6 hj,Ne.symm hij]
 ·have h1:(arr n f)[j]? =none:=Array.getElem?_eq_none (by rw[I4];omega);have h2:(arr n (fun x=>if x=i then v else f x))[j]? =none:=Array.getElem?_eq_none (by rw[I4];omega);rw[h1,h2];by_cases hij:i=j
  ·subst hij;rw[if_pos rfl,if_neg (by rw[I4];exact hj)]
  ·rw[if_neg hij]
theorem do0(h:∀i,i<n->f i=g i):arr n f=arr n g:=by
 unfold arr;congr 1;exact List.map_congr_left (fun i hi=>h i (List.mem_range.1 hi))
theorem qx0(n:Nat)(v:Value):Array.replicate n v=arr n (fun _=>v):=by
 apply Array.ext_getElem?;intro j;by_cases hj:j<n
 ·simp[T6 hj,hj]
 ·rw[Array.getElem?_eq_none (by simp;omega),Array.getElem?_eq_none (by rw[I4];omega)]
theorem Sb0(n:Nat)(f:Nat->Value):(List.range (n+1)).map f=(List.range n).map f ++ [f n]:=by simp[List.range_succ]
theorem ft0(w:World)(p:Addr)(v:Value):w.grownBy (w.setCell p v) (some p.block):=
 ⟨rfl,rfl,rfl,by simp[World.setCell],fun k _ hk=>Below.heap_setCell _ _ _ _ (fun h=>hk (by rw[h]))⟩
theorem I0.H8{w:World}{b:Nat}{T:TypeId}(h:I0 w b (arr n f) T)(hfg:∀i,i<n->f i=g i):I0 w b (arr n g) T:=by rw[<- do0 hfg];exact h
end
def upf{α:Type}(f:Nat->α)(i:Nat)(v:α):Nat->α:=fun k=>if k=i then v else f k
def K1(w:World)(r:Nat)(o:Obj):World:={w with heap:=w.heap.setIfInBounds r o}
theorem dd0(w:World){r k:Nat}(o:Obj)(h:k≠r):(K1 w r o).heap[k]? =w.heap[k]?:=by
 show(w.heap.setIfInBounds r o)[k]? =_;rw[Array.getElem?_setIfInBounds_ne (Ne.symm h)]
theorem kh0(w:World)(r:Nat)(o:Obj):(K1 w r o).heap.size=w.heap.size:=by simp[K1]
theorem aa0{w:World}{r:Nat}(o:Obj)(h:r<w.heap.size):(K1 w r o).heap[r]? =some o:=by simp[K1,h]
theorem is0(w:World)(r:Nat)(o:Obj):w.grownBy (K1 w r o) (some r):=
 ⟨rfl,rfl,rfl,Nat.le_of_eq (kh0 w r o).symm,fun _ _ hk=>dd0 w o (fun h=>hk (by rw[h]))⟩
theorem W2{B:Nat}{a w:World}(h:Below B a w){r:Nat}(hr:B <=r)(o:Obj):Below B a (K1 w r o):=
 h.trans ⟨rfl,rfl,rfl,Nat.le_of_eq (kh0 w r o).symm,fun _ hk=>dd0 w o Uo⟩
structure gi0(P:Program)(T:TypeId){α:Type}[DecidableEq α](κ:α->Value):Prop where
 check:∀(b:Bool)(a:α)(w:World),(Instr.checkKey b 10000 T (κ a)).run P w= .ok () w
 bits:∀a,Instr.sameBits 10000 (κ a) (κ a)=true
 eq:∀(a b:α)(w:World),(Op.equal T (κ a) (κ b)).run P w= .ok (decide (a=b)) w
 now:∀(d:TypeDesc),P.underlying T=some d->(∀a b,Instr.sameNow d (κ a) (κ b)=some (decide (a=b)))\/(∀a b,Instr.sameNow d (κ a) (κ b)=none)
 und:∃d,P.underlying T=some d
section
variable{α:Type}[DecidableEq α]
def scan(a:α):List (α×Value)->Nat->Option (Nat×Value)
 | [],_=>none
 |p::L,i=>if a=p.1 then some (i,p.2) else scan a L (i+1)
def O3(L:List (α×Value))(a:α):Option Value:=(scan a L 0).map (·.2)
theorem dz0(a:α):∀(L:List (α×Value))(i:Nat),scan a L i=(scan a L 0).map fun x=>(x.1+i,x.2)
 | [],_=>rfl
 |p::L,i=>by
  unfold scan;split
  ·simp
  ·rw[dz0 a L (i+1),dz0 a L (0+1),Option.map_map];congr 1;funext x;simp;omega
theorem I8(p:α×Value)(L:List (α×Value))(a:α):O3 (p::L) a=if a=p.1 then some p.2 else O3 L a:=by
 unfold O3
 conv=>lhs;unfold scan
 split
 ·rfl
 ·rw[dz0 a L (0+1),Option.map_map];rfl
theorem zs0(a:α):O3 ([]:List (α×Value)) a=none:=rfl
theorem nc0(L M:List (α×Value))(a:α):O3 (L++M) a=(O3 L a).or (O3 M a):=by
 induction L with
 |nil=>rfl
 |cons p L ih=>
  rw[List.cons_append,I8,I8];split
  ·rfl
  ·exact ih
theorem zt0{a:α}:∀{L:List (α×Value)}{i:Nat}{v:Value},scan a L 0=some (i,v)->L[i]? =some (a,v)
 | [],_,_,h=>by cases h
 |p::L,i,v,h=>by
  unfold scan at h;split at h
  ·rename_i hp;cases h;simp[hp]
  ·rw[dz0]at h;cases hs:scan a L 0 with
   |none=>rw[hs]at h;cases h
   |some x=>
    rw[hs]at h;simp at h;obtain⟨rfl,rfl⟩:=h;have:=zt0 (a:=a) (L:=L) (i:=x.1) (v:=x.2) hs;simpa using this
def bs0(L:List (α×Value))(a:α)(v:Value):List (α×Value):=
 match scan a L 0 with
 |some (i,_)=>L.set i (a,v)
 |none=>L ++ [(a,v)]
theorem Oi0{L:List (α×Value)}{a:α}{i:Nat}{u v:Value}(h:scan a L 0=some (i,u))(b:α):O3 (L.set i (a,v)) b=if b=a then some v else O3 L b:=by
 induction L generalizing i with
 |nil=>cases h
 |cons p L ih=>
  unfold scan at h;split at h
  ·rename_i hp;cases h;rw[List.set_cons_zero,I8,I8];by_cases hb:b=a
   ·subst hb;simp
   ·simp[hb,<- hp]
  ·rename_i hp;rw[dz0]at h;cases hs:scan a L 0 with
   |none=>rw[hs]at h;cases h
   |some x=>
    rw[hs]at h;simp at h;obtain⟨rfl,rfl⟩:=h;rw[List.set_cons_succ,I8,I8,ih (i:=x.1) hs];by_cases hb:b=a
    ·subst hb;simp[hp]
    ·by_cases hb2:b=p.1 <;> simp[hb,hb2]
     intro hh;exact absurd hh.symm hp
theorem om0(L:List (α×Value))(a:α)(v:Value)(b:α):O3 (bs0 L a v) b=if b=a then some v else O3 L b:=by
 unfold bs0;cases hs:scan a L 0 with
 |some x=>exact Oi0 (i:=x.1) (u:=x.2) hs b
 |none=>
  simp only;rw[nc0,I8,zs0];by_cases hb:b=a
  ·subst hb;simp[O3,hs]
  ·simp[hb]
def A5{α:Type}(w:World)(r:Nat)(κ:α->Value)(L:List (α×Value)):Prop:=
 ∃es ck,w.heap[r]? =some (.map es ck)/\es.toList.map (fun e=>(e.key,e.val))=L.map (fun p=>(κ p.1,p.2))/\(es.toList.map (·.born)).Nodup/\∀e∈es.toList,e.born<ck
section
omit [DecidableEq α]
variable{w w':World}{r:Nat}{κ:α->Value}{L:List (α×Value)}
theorem A5.lt(h:A5 w r κ L):r<w.heap.size:=by obtain⟨es,ck,h,_⟩:=h;exact(Array.getElem?_eq_some_iff.1 h).1
theorem A5.grown(h:A5 w r κ L){row:Option Nat}(hg:w.grownBy w' row)(X2:some r≠row):A5 w' r κ L:=by
 have:=h.lt;obtain⟨es,ck,h,hr⟩:=h;exact⟨es,ck,(hg.block r this X2).trans h,hr⟩
theorem A5.j0(h:A5 w r κ L)(hb:Below w.heap.size w w'):A5 w' r κ L:=h.grown (br0 hb) (by simp)
theorem A5.ne(h:A5 w r κ L){b:Nat}{cs:Array Value}{T:TypeId}(h':I0 w b cs T):r≠b:=by
 intro hb;subst hb;obtain⟨es,ck,h,_⟩:=h;unfold I0 at h';rw[h]at h';cases h'
theorem A5.made(w:World)(κ:α->Value):A5 (w.alloc (.map #[] 0)) w.heap.size κ ([]:List (α×Value)):=
 ⟨#[],0,by show(w.heap.push _)[_]? =_;simp,rfl,by simp,fun e he=>by simp at he⟩
end
section
variable{P:Program}{T:TypeId}{κ:α->Value}
theorem run_findKey(K:gi0 P T κ)(a:α)(w:World):∀(es:List MapEntry)(L:List (α×Value)),es.map (fun e=>(e.key,e.val))=L.map (fun p=>(κ p.1,p.2))->(Instr.findKey T (κ a) es).run P w= .ok (scan a L 0) w:=by
 obtain⟨d,hd⟩:=K.und;have ik1:∀(es:List MapEntry)(L:List (α×Value))(i:Nat),es.map (fun e=>(e.key,e.val))=L.map (fun p=>(κ p.1,p.2))->(Instr.findAsking T (κ a) es i).run P w= .ok (scan a L i) w:=by
  intro es
  induction es with
  |nil=>intro L i h;cases L with
   |nil=>rfl
   |cons p L=>simp at h
  |cons e es ih=>
   intro L i h;cases L with
   |nil=>simp at h
   |cons p L=>
    simp only[List.map_cons,List.cons.injEq,Prod.mk.injEq]at h;obtain⟨⟨h1,h2⟩,h3⟩:=h;unfold Instr.findAsking;simp only[Sem.run_bind,h1,K.eq,Result.andThen_ok,Sem.run_ite];unfold scan;by_cases hp:a=p.1
    ·simp[hp,h2]
    ·simp only[hp,decide_false,Bool.false_eq_true,if_false];exact ih L (i+1) h3
 have on0:(∀a b,Instr.sameNow d (κ a) (κ b)=some (decide (a=b)))->∀(es:List MapEntry)(L:List (α×Value))(i:Nat),es.map (fun e=>(e.key,e.val))=L.map (fun p=>(κ p.1,p.2))->Instr.findNow d (κ a) es i=some (scan a L i):=by
  intro hn es
  induction es with
  |nil=>intro L i h;cases L with
   |nil=>rfl
   |cons p L=>simp at h
  |cons e es ih=>
   intro L i h;cases L with
   |nil=>simp at h
   |cons p L=>
    simp only[List.map_cons,List.cons.injEq,Prod.mk.injEq]at h;obtain⟨⟨h1,h2⟩,h3⟩:=h;unfold Instr.findNow scan;rw[h1,hn];by_cases hp:a=p.1
    ·simp[hp,h2]
    ·simp only[hp,decide_false,if_false];exact ih L (i+1) h3
 intro es L h;unfold Instr.findKey;simp only[Sem.run_bind,run_underlying hd,Result.andThen_ok];rcases K.now d hd with hn|hn
 ·rw[on0 hn es L 0 h];rfl
 ·cases es with
  |nil=>cases L with
   |nil=>rfl
   |cons p L=>simp at h
  |cons e es=>
   cases L with
   |nil=>simp at h
   |cons p L=>
    have h1:e.key=κ p.1:=by simp only[List.map_cons,List.cons.injEq,Prod.mk.injEq]at h;exact h.1.1
    have:Instr.findNow d (κ a) (e::es) 0=none:=by unfold Instr.findNow;rw[h1,hn]
    rw[this];exact ik1 (e::es) (p::L) 0 h
end
section
variable{P:Program}{T KT ET:TypeId}{κ:α->Value}{ρ:Operand->Value}{w:World}{d:Option Nat}{ty:TypeId}{ps:String}{af:Array Edge}{g:Option (Nat×Bool)}{x y:Operand}{r:Nat}{L:List (α×Value)}{a:α}{zv:Value}
section
variable{es:Array MapEntry}{ck:Nat}{l:List (α×Value)}
omit [DecidableEq α] in
theorem it0(h:w.heap[r]? =some (.map es ck)):(getObj r).run P w= .ok (.map es ck) w:=by simp[getObj,Sem.run,h]
omit [DecidableEq α] in
theorem ea0{o:Obj}(h:w.heap[r]? =some (.map es ck)):(setObj r o).run P w= .ok () (K1 w r o):=by simp[setObj,Sem.run,h,K1]
theorem sb0{b:Bool}(hU:P.underlying T=some (.map KT ET))(K:gi0 P KT κ)(hZ:(P.info? ET).bind (·.zero)=some zv)(hM:A5 w r κ L):(Instr.lookup T (.map (some r)) (κ a) b).run P w= .ok (if b then .tuple #[(O3 L a).getD zv,.bool (O3 L a).isSome] else(O3 L a).getD zv) w:=by
 obtain⟨es,ck,h,hes,-,-⟩:=hM;have hf:=run_findKey K a w es.toList L hes;unfold Instr.lookup;simp only[Sem.run_bind,run_underlying hU,Result.andThen_ok,it0 h,Sem.run_pure,K.check,hf];unfold O3;cases scan a L 0 with
 |none=>simp[Z7 hZ]
 |some p=>simp
theorem ki0(hU:P.underlying T=some (.map KT ET))(K:gi0 P KT κ)(hZ:(P.info? ET).bind (·.zero)=some zv)(hx:ρ x= .map (some r))(hy:ρ y=κ a)(hM:A5 w r κ L):(execOp ρ ⟨d,.lookup T x y false,ty,ps,af,g⟩).run P w= .ok (.value ((O3 L a).getD zv)) w:=by
 simp only[execOp,hx,hy,Sem.run_bind,sb0 hU K hZ hM,Result.andThen_ok,Sem.run_pure,Bool.false_eq_true,if_false]
theorem ly0(hU:P.underlying T=some (.map KT ET))(K:gi0 P KT κ)(hZ:(P.info? ET).bind (·.zero)=some zv)(hx:ρ x= .map (some r))(hy:ρ y=κ a)(hM:A5 w r κ L):(execOp ρ ⟨d,.lookup T x y true,ty,ps,af,g⟩).run P w= .ok (.value (.tuple #[(O3 L a).getD zv,.bool (O3 L a).isSome])) w:=by
 simp only[execOp,hx,hy,Sem.run_bind,sb0 hU K hZ hM,Result.andThen_ok,Sem.run_pure,if_true]
omit [DecidableEq α] in
theorem Iw0{es:List MapEntry}(h:es.map (fun e=>(e.key,e.val))=l.map (fun p=>(κ p.1,p.2)))(i:Nat)(a:α)(v:Value):(es.modify i fun e=>{e with key:=κ a,val:=v}).map (fun e=>(e.key,e.val))=(l.set i (a,v)).map (fun p=>(κ p.1,p.2)):=by
 induction es generalizing l i with
 |nil=>cases l with
  |nil=>simp
  |cons p l=>simp at h
 |cons e es ih=>
  cases l with
  |nil=>simp at h
  |cons p l=>
   simp only[List.map_cons,List.cons.injEq]at h;cases i with
   |zero=>simp[h.2]
   |succ i=>simp[h.1,ih h.2 i]
omit [DecidableEq α] in
theorem pw0(es:List MapEntry)(i:Nat)(f:MapEntry->MapEntry)(hf:∀e,(f e).born=e.born):(es.modify i f).map (·.born)=es.map (·.born):=by
 induction es generalizing i with
 |nil=>simp
 |cons e es ih=>cases i with
  |zero=>simp[hf]
  |succ i=>simp[ih i]
theorem Ix0{es:List MapEntry}(h:es.map (fun e=>(e.key,e.val))=l.map (fun p=>(κ p.1,p.2))){i:Nat}{v:Value}(hs:scan a l 0=some (i,v)):∃e,es[i]? =some e/\e.key=κ a/\e.val=v:=by
 have h1:=zt0 hs;have h2:(es.map (fun e=>(e.key,e.val)))[i]? =some (κ a,v):=by rw[h,List.getElem?_map,h1];rfl
 rw[List.getElem?_map]at h2;cases he:es[i]? with
 |none=>rw[he]at h2;cases h2
 |some e=>rw[he]at h2;simp at h2;exact⟨e,rfl,h2.1,h2.2⟩
omit [DecidableEq α] in
theorem A5.modify{es:Array MapEntry}{ck:Nat}(hes:es.toList.map (fun e=>(e.key,e.val))=L.map (fun p=>(κ p.1,p.2)))(hn:(es.toList.map (·.born)).Nodup)(hl:∀e∈es.toList,e.born<ck)(hr:r<w.heap.size)(i:Nat)(a:α)(v:Value):A5 (K1 w r (.map (es.modify i fun e=>{e with key:=κ a,val:=v}) ck)) r κ (L.set i (a,v)):=by
 refine⟨_,ck,aa0 _ hr,by rw[Array.toList_modify];exact Iw0 hes i a v,by rw[Array.toList_modify,pw0];exact hn;exact fun _=>rfl,fun e he=>?_⟩;rw[Array.toList_modify]at he;have:e.born∈es.toList.map (·.born):=by rw[<- pw0 es.toList i (fun e=>{e with key:=κ a,val:=v}) (fun _=>rfl)];exact List.mem_map_of_mem he
 obtain⟨e',j8,hb⟩:=List.mem_map.1 this;rw[<- hb];exact hl e' j8
omit [DecidableEq α] in
theorem A5.Sc0(hes:es.toList.map (fun e=>(e.key,e.val))=L.map (fun p=>(κ p.1,p.2)))(hn:(es.toList.map (·.born)).Nodup)(hl:∀e∈es.toList,e.born<ck)(hr:r<w.heap.size)(a:α)(v:Value):A5 (K1 w r (.map (es.push {key:=κ a,val:=v,born:=ck}) (ck+1))) r κ (L ++ [(a,v)]):=by
 refine⟨_,_,aa0 _ hr,by simp[hes],?_,fun e he=>?_⟩
 ·rw[Array.toList_push,List.map_append,List.nodup_append];refine⟨hn,by simp,fun b hb c hc=>?_⟩;simp at hc;subst hc;obtain⟨e',j8,hb⟩:=List.mem_map.1 hb;have:=hl e' j8;omega
 ·simp at he;rcases he with he|rfl
  ·have:=hl e (by simpa using he);omega
  ·exact Nat.lt_succ_self _
theorem lt0(hU:P.underlying T=some (.map KT ET))(K:gi0 P KT κ)(hM:A5 w r κ L)(v:Value):∃o,(Instr.mapUpdate T (.map (some r)) (κ a) v).run P w= .ok () (K1 w r o)/\A5 (K1 w r o) r κ (bs0 L a v):=by
 have hr:=hM.lt;obtain⟨es,ck,h,hes,hn,hl⟩:=hM;have hf:=run_findKey K a w es.toList L hes;unfold Instr.mapUpdate;simp only[Sem.run_bind,run_underlying hU,Result.andThen_ok,it0 h,K.check,hf];unfold bs0;cases hs:scan a L 0 with
 |none=>exact⟨_,ea0 h,A5.Sc0 hes hn hl hr a v⟩
 |some p=>
  obtain⟨i,u⟩:=p;obtain⟨e,he,hk,-⟩:=Ix0 hes hs;have il1:((es[i]?).map (·.key)).getD (κ a)=κ a:=by rw[<- Array.getElem?_toList,he];simp[hk]
  simp only[il1];have O2:(Instr.keyThatStays (κ a) (κ a)).run P w= .ok (κ a) w:=by simp[Instr.keyThatStays,K.bits]
  simp only[Sem.run_bind,O2,Result.andThen_ok];exact⟨_,ea0 h,A5.modify hes hn hl hr i a v⟩
end
def sc0(L:List (α×Value))(a:α)(zv:Value):List (α×Value):=match scan a L 0 with|some _=>L|none=>L ++ [(a,zv)]
theorem Oj0(L:List (α×Value))(a:α)(zv:Value)(b:α):O3 (sc0 L a zv) b=if b=a then some ((O3 L a).getD zv) else O3 L b:=by
 unfold sc0;cases hs:scan a L 0 with
 |some x=>
  have ha:O3 L a=some x.2:=by unfold O3;rw[hs];rfl
  by_cases hb:b=a
  ·subst hb;simp[ha]
  ·simp[hb]
 |none=>
  have ha:O3 L a=none:=by unfold O3;rw[hs];rfl
  simp only;rw[nc0,I8,zs0];by_cases hb:b=a
  ·subst hb;simp[ha]
  ·simp[hb]
def sd0(w:World)(r:Nat)(κ:α->Value)(L:List (α×Value))(a:α)(t:Nat):Prop:=
 ∃es ck i u,w.heap[r]? =some (.map es ck)/\es.toList.map (fun e=>(e.key,e.val))=L.map (fun p=>(κ p.1,p.2))/\(es.toList.map (·.born)).Nodup/\(∀e∈es.toList,e.born<ck)/\scan a L 0=some (i,u)/\(es.toList[i]?).map (·.born)=some t
theorem sd0.map{t:Nat}(h:sd0 w r κ L a t):A5 w r κ L:=by obtain⟨es,ck,i,u,h1,h2,h3,h4,-⟩:=h;exact⟨es,ck,h1,h2,h3,h4⟩
theorem sd0.grown{t:Nat}{w':World}{row:Option Nat}(h:sd0 w r κ L a t)(hg:w.grownBy w' row)(X2:some r≠row):sd0 w' r κ L a t:=by
 have:=h.map.lt;obtain⟨es,ck,i,u,h1,hr⟩:=h;exact⟨es,ck,i,u,(hg.block r this X2).trans h1,hr⟩
theorem Cw0(hU:P.underlying T=some (.map KT ET))(K:gi0 P KT κ)(hZ:(P.info? ET).bind (·.zero)=some zv)(hM:A5 w r κ L):∃o,∃t:Nat,(Instr.mapEntry T (.map (some r)) (κ a)).run P w= .ok (.tuple #[(O3 L a).getD zv,.int .i64 (t:Int)]) (K1 w r o)/\sd0 (K1 w r o) r κ (sc0 L a zv) a t:=by
 have hr:=hM.lt;obtain⟨es,ck,h,hes,hn,hl⟩:=hM;have hf:=run_findKey K a w es.toList L hes;unfold Instr.mapEntry;simp only[Sem.run_bind,run_underlying hU,Result.andThen_ok,it0 h,K.check,hf];cases hs:scan a L 0 with
 |none=>
  have ha:O3 L a=none:=by unfold O3;rw[hs];rfl
  simp only[Sem.run_bind,Z7 hZ,Result.andThen_ok,ea0 h,Sem.run_pure,ha,Option.getD_none];refine⟨_,ck,rfl,?_⟩;obtain⟨es2,ck2,h1,h2,h3,h4⟩:=A5.Sc0 (r:=r) (w:=w) hes hn hl hr a zv;have hlen:es.toList.length=L.length:=by have:=congrArg List.length hes;simpa using this
  have im1:sc0 L a zv=L ++ [(a,zv)]:=by unfold sc0;rw[hs]
  rw[im1];have hsc:∀(M:List (α×Value))(j:Nat),scan a M j=none->scan a (M ++ [(a,zv)]) j=some (j+M.length,zv):=by
   intro M
   induction M with
   |nil=>intro j _;simp[scan]
   |cons q M ih=>
    intro j hj;unfold scan at hj;split at hj
    ·cases hj
    ·rename_i hq;rw[List.cons_append];unfold scan;rw[if_neg hq,ih (j+1) hj];simp;omega
  refine⟨_,_,L.length,zv,aa0 _ hr,by simp[hes],?_,?_,by rw[hsc L 0 hs,Nat.zero_add],?_⟩
  ·rw[aa0 _ hr]at h1;cases h1;exact h3
  ·rw[aa0 _ hr]at h1;cases h1;exact h4
  ·rw[<- hlen];simp
 |some p=>
  obtain⟨i,u⟩:=p;obtain⟨e,he,hk,hv⟩:=Ix0 hes hs;have ha:O3 L a=some u:=by unfold O3;rw[hs];rfl
  have j8:es[i]? =some e:=by rw[<- Array.getElem?_toList,he]
  have il1:((es[i]?).map (·.key)).getD (κ a)=κ a:=by rw[j8];simp[hk]
  have O2:(Instr.keyThatStays (κ a) (κ a)).run P w= .ok (κ a) w:=by simp[Instr.keyThatStays,K.bits]
  simp only[il1,ha,Option.getD_some];simp only[Sem.run_bind,O2,Result.andThen_ok,ea0 h,Sem.run_pure,j8,Option.map_some,Option.getD_some,goInt];refine⟨_,e.born,rfl,?_⟩;have im1:sc0 L a zv=L:=by unfold sc0;rw[hs]
  rw[im1];have hm:(es.modify i fun e=>{e with key:=κ a}).toList=es.toList:=by
   rw[Array.toList_modify];apply List.ext_getElem?;intro j;rw[List.getElem?_modify];by_cases hij:i=j
   ·subst hij;rw[he];simp[<- hk]
   ·simp[hij]
  refine⟨_,_,i,u,aa0 _ hr,?_,?_,?_,hs,?_⟩
  ·rw[hm];exact hes
  ·rw[hm];exact hn
  ·rw[hm];exact hl
  ·rw[hm,he];rfl
theorem se0{t:Nat}(hM:sd0 w r κ L a t)(v:Value):∃o,(Instr.entryStore T (.map (some r)) (.int .i64 (t:Int)) v).run P w= .ok () (K1 w r o)/\A5 (K1 w r o) r κ (bs0 L a v):=by
 have hr:=hM.map.lt;obtain⟨es,ck,i,u,h,hes,hn,hl,hs,hb⟩:=hM;obtain⟨e,he,hk,hv⟩:=Ix0 hes hs;have j8:es[i]? =some e:=by rw[<- Array.getElem?_toList,he]
 obtain rfl:e.born=t:=by rw[he]at hb;simpa using hb
 have hi:i<es.size:=(Array.getElem?_eq_some_iff.1 j8).1;have hfi:es.findIdx? (fun x=>(x.born:Int)==(e.born:Int))=some i:=by
  rw[Array.findIdx?_eq_some_iff_getElem];refine⟨hi,?_,fun j hj=>?_⟩
  ·rw[(Array.getElem?_eq_some_iff.1 j8).2];simp
  ·have X2:es[j].born≠e.born:=by
    intro heq;have h1:(es.toList.map (·.born))[j]? =some e.born:=by simp[show j<es.size by omega,heq]
    have h2:(es.toList.map (·.born))[i]? =some e.born:=by rw[List.getElem?_map,he];rfl
    have:=(List.getElem?_inj (by simp;omega) hn).1 (h1.trans h2.symm);omega
   simp;omega
 unfold Instr.entryStore;have has:(asInt (Value.int .i64 (e.born:Int))).run P w= .ok (e.born:Int) w:=by simp[asInt,asIntOf]
 simp only[Sem.run_bind,it0 h,Result.andThen_ok,has,hfi];refine⟨_,ea0 h,?_⟩;have hpl:bs0 L a v=L.set i (a,v):=by unfold bs0;rw[hs]
 rw[hpl];have wu1:(es.modify i fun e=>{e with val:=v})=(es.modify i fun e=>{e with key:=κ a,val:=v}):=by
  apply Array.ext_getElem?;intro j;rw[Array.getElem?_modify,Array.getElem?_modify];by_cases hij:i=j
  ·subst hij;rw[j8];simp[<- hk]
  ·simp[hij]
 rw[wu1];exact A5.modify hes hn hl hr i a v
end
section
end
theorem nd0(n:Nat)(a:Int):Instr.sameBits n (.int .i64 a) (.int .i64 a)=true:=by cases n <;> simp[Instr.sameBits]
theorem vz0(n:Nat)(a b:Int):Instr.sameBits (n+1) (.agg #[.int .i64 a,.int .i64 b]) (.agg #[.int .i64 a,.int .i64 b])=true:=by simp[Instr.sameBits,nd0]
theorem gi0.i64{P:Program}{T:TypeId}(hT:P.underlying T=some (.int .i64)):gi0 P T (fun a:Int=>.int .i64 a) where
 check b a w:=by
  show(Instr.checkKey b (9999+1) T _).run P w=_;unfold Instr.checkKey;simp only[Sem.run_bind,run_underlying hT,Result.andThen_ok,Sem.run_pure]
 bits a:=nd0 _ a
 eq a b w:=by
  show(Op.equalIn (9999+1) T _ _).run P w=_;rw[run_equalIn_int w 9999 T .i64 .i64 a b hT];by_cases h:a=b <;> simp[h]
 now d hd:=by
  rw[hT]at hd;cases hd;left;intro a b;by_cases h:a=b <;> simp[Instr.sameNow,h]
 und:=⟨_,hT⟩
def ac0(p:Int×Int):Value:=.agg #[.int .i64 p.1,.int .i64 p.2]
theorem gi0.pair{P:Program}{T It:TypeId}{f0 f1:Field}(hT:P.underlying T=some (.struct #[f0,f1]))(h0:f0.name≠ "_"/\f0.type=It/\f0.offset=0)(h1:f1.name≠ "_"/\f1.type=It/\f1.offset=1)
  (hI:P.underlying It=some (.int .i64)) (O2:P.stoodInHeld T=false):gi0 P T ac0:=by
 have hpl:P.plainKey It=true:=by unfold Program.plainKey;simp[hI]
 have p0:∀(a b:Int)(w:World),(part It #[Value.int .i64 a,.int .i64 b] 0).run P w= .ok (.int .i64 a) w:=fun a b w=>run_part_plain w hpl rfl;have p1:∀(a b:Int)(w:World),(part It #[Value.int .i64 a,.int .i64 b] 1).run P w= .ok (.int .i64 b) w:=fun a b w=>run_part_plain w hpl rfl;have hF:P.fieldsOf T=#[f0,f1]:=by unfold Program.fieldsOf;simp[hT]
 refine⟨fun b a w=>?_,fun a=>vz0 9999 _ _,fun a b w=>?_,fun d hd=>?_,⟨_,hT⟩⟩
 ·show(Instr.checkKey b (9999+1) T _).run P w=_;have hc:∀(c:Int)(w:World),(Instr.checkKey b 9999 It (.int .i64 c)).run P w= .ok () w:=fun c w=>by
   show(Instr.checkKey b (9998+1) It _).run P w=_;unfold Instr.checkKey;simp only[Sem.run_bind,run_underlying hI,Result.andThen_ok,Sem.run_pure]
  generalize 9999=m at hc⊢;unfold Instr.checkKey;simp[run_underlying hT,ac0,h0,h1,p0,p1,hc,Sem.run_bind]
 ·show(Op.equalIn (9999+1) T _ _).run P w=_;have he:∀(c d:Int)(w:World),(Op.equalIn 9999 It (.int .i64 c) (.int .i64 d)).run P w= .ok (c==d) w:=fun c d w=>run_equalIn_int w 9998 It .i64 .i64 c d hI;generalize 9999=m at he⊢;unfold ac0;rw[run_equalIn_struct w m T _ _ (by rw[hF];exact hT) O2,hF];simp only[Op.eqFields,h0,h1,ne_eq,not_false_eq_true,if_true,Sem.run_bind,p0,p1,Result.andThen_ok,he,Sem.run_ite,Sem.run_pure];obtain⟨a1,a2⟩:=a;obtain⟨b1,b2⟩:=b;by_cases h1:a1=b1 <;> by_cases h2:a2=b2 <;> simp[h1,h2]
 ·rw[hT]at hd;cases hd;right;intro a b;simp[Instr.sameNow]
end
section
variable{N o m:Nat}{F:Nat->Value}
theorem sf0(o:Nat):∀(vs:List Value)(cs:Array Value)(j:Nat),o+vs.length <=cs.size->(setRow cs o vs)[j]? =if o <=j/\j<o+vs.length then vs[j-o]? else cs[j]?:=by
 intro vs
 induction vs generalizing o with
 |nil=>intro cs j h;rw[if_neg (by simp only[List.length_nil];omega)];rfl
 |cons v vs ih=>
  intro cs j h;simp only[List.length_cons]at h;show(setRow (cs.setIfInBounds o v) (o+1) vs)[j]? =_;rw[ih (o+1) _ j (by simp;omega)];by_cases hj:j=o
  ·subst hj;rw[if_neg Uo,if_pos (by simp only[List.length_cons];omega),Nat.sub_self,Array.getElem?_setIfInBounds_self_of_lt Uo];rfl
  ·by_cases hj2:o+1 <=j/\j<o+1+vs.length
   ·rw[if_pos hj2,if_pos (by simp only[List.length_cons];omega),show j-o=(j-(o+1))+1 by omega,List.getElem?_cons_succ]
   ·rw[if_neg hj2,if_neg (by simp only[List.length_cons];omega),Array.getElem?_setIfInBounds_ne Uo]
theorem sg0{g:Nat->Value}(h:o+m <=N):setRow (arr N F) o (arr m g).toList=arr N (fun x=>if o <=x/\x<o+m then g (x-o) else F x):=by
 have hm:(arr m g).toList.length=m:=by simp[arr]
 apply Array.ext_getElem?;intro j;rw[sf0 _ _ _ _ (by rw[hm,I4];exact h),hm];by_cases hj:j<N
 ·rw[T6 hj];rw[T6 hj];split
  ·rename_i hc;rw[Array.getElem?_toList,T6 Uo]
  ·rfl
 ·rw[Array.getElem?_eq_none (by rw[I4];omega),if_neg Uo,Array.getElem?_eq_none (by rw[I4];omega)]
theorem I0.row{w:World}{b:Nat}{T:TypeId}(h:I0 w b (arr N F) T)(ho:o+m <=N):∀(j:Nat)(v:Value),(arr m fun k=>F (o+k)).toList[j]? =some v->w.cell? ⟨b,o+j,none⟩=some v:=by
 intro j v hj;rw[Array.getElem?_toList]at hj;have hjm:j<m:=by have:=(Array.getElem?_eq_some_iff.1 hj).1;rw[I4]at this;exact this
 rw[T6 hjm]at hj;cases hj;exact h.cell (T6 Uo)
theorem Cx0(n:Nat)(f:Nat->Value):(arr n f).toList.length=n:=by simp[arr]
theorem Lw0{n:Nat}{f:Nat->Value}(h:∀k,(f k).oneCell'=true):∀v∈(arr n f).toList,v.oneCell'=true:=by
 intro v hv;simp[arr]at hv;obtain⟨a,_,rfl⟩:=hv;exact h a
end
section
variable{P:Program}{T:TypeId}{ρ:Operand->Value}{w:World}{d:Option Nat}{ty:TypeId}{ps:String}{af:Array Edge}{g:Option (Nat×Bool)}{x y:Operand}
section
variable{b o N m:Nat}{F G:Nat->Value}{E:TypeId}
theorem H3{u:TypeDesc}(hx:ρ x= .pointer (some ⟨b,o,none⟩))(hT:P.underlying T=some u)(hu:bm0 u=false)(hs:(P.info? T).map (·.size)=some m)(hB:I0 w b (arr N F) E)(ho:o+m <=N)(hG:∀k,k<m->F (o+k)=G k):(execOp ρ ⟨d,.load T x,ty,ps,af,g⟩).run P w= .ok (.value (.agg (arr m G))) w:=by
 rw[<- do0 hG];exact A2 hx hT hu hs (Cx0 _ _) (hB.row ho)
theorem L4(hx:ρ x= .pointer (some ⟨b,o,none⟩))(hy:ρ y= .agg (arr m G))(hs:(P.info? T).map (·.size)=some m)(h1:∀k,(G k).oneCell'=true)(hB:I0 w b (arr N F) E)(ho:o+m <=N):(execOp ρ ⟨none,.store T x y,ty,ps,af,g⟩).run P w= .ok .skip (R4 w b (arr N (fun x=>if o <=x/\x<o+m then G (x-o) else F x)) E):=by
 have:=I7 (P:=P) b E (arr m G).toList o 0 (arr N F) w hB (by rw[Cx0,I4];omega) (Lw0 h1);rw[Nat.add_zero,sg0 ho]at this;have hc:(Value.agg (arr m G)).cells=arr m G:=rfl;have H2:=I4 m G;simp[execOp,Instr.storeAt,hx,hy,Instr.sureAddr,storeVar,run_sizeOf hs,hc,H2,this]
theorem sh0{It:TypeId}(hI:P.underlying It=some (.int .i64))(hz:P.cellsOf It=1){m n:Nat}{F G:Nat->Int}(w:World):∀(is:List Nat),(∀i∈is,i<n) ->
  (Op.eqItems (m+1) It (P.cellsOf It) (arr n fun k=>.int .i64 (F k)) (arr n fun k=>.int .i64 (G k)) is).run P w= .ok (decide (∀i∈is,F i=G i)) w
 | [],_=>by simp[Op.eqItems]
 |i::is,h=>by
  have hpl:P.plainKey It=true:=by unfold Program.plainKey;simp[hI]
  have hi:=h i List.mem_cons_self;have ih:=sh0 (m:=m) (F:=F) (G:=G) (n:=n) hI hz w is (fun j hj=>h j (List.mem_cons_of_mem _ hj));have p1:(part It (arr n fun k=>.int .i64 (F k)) (i*P.cellsOf It)).run P w= .ok (.int .i64 (F i)) w:=run_part_plain w hpl (by rw[hz,Nat.mul_one];exact T6 hi);have p2:(part It (arr n fun k=>.int .i64 (G k)) (i*P.cellsOf It)).run P w= .ok (.int .i64 (G i)) w:=run_part_plain w hpl (by rw[hz,Nat.mul_one];exact T6 hi);simp only[Op.eqItems,Sem.run_bind,p1,p2,Result.andThen_ok,run_equalIn_int w m It .i64 .i64 _ _ hI,Sem.run_ite,ih,Sem.run_pure];by_cases hFG:F i=G i
  ·simp[hFG]
  ·simp[hFG]
theorem Cy0{It T':TypeId}{n:Nat}{F G:Nat->Int}{i:TypeInfo}(hT:P.underlying T=some (.array n It))(hI:P.underlying It=some (.int .i64))(hi:P.info? It=some i)(hz:P.cellsOf It=1)(hg:P.eqGuardType P.depth T=false)
  (hx:ρ x= .agg (arr n fun k=>.int .i64 (F k))) (hy:ρ y= .agg (arr n fun k=>.int .i64 (G k))) :
  (execOp ρ ⟨d,.binOp .eql T x y T',ty,ps,af,g⟩).run P w= .ok (.value (.bool (decide (∀k,k<n->F k=G k)))) w:=by
 have h1:(eqGuard .eql T x y (.agg (arr n fun k=>.int .i64 (F k))) (.agg (arr n fun k=>.int .i64 (G k)))).run P w= .ok () w:=run_eqGuard_agg w _ _ _ _ _ _ hg;have h2:(Op.equalIn 10000 T (.agg (arr n fun k=>.int .i64 (F k))) (.agg (arr n fun k=>.int .i64 (G k)))).run P w= .ok (decide (∀i∈List.range n,F i=G i)) w:=by
  show(Op.equalIn (9998+1+1) _ _ _).run P w=_;rw[run_equalIn_array w (9998+1) _ _ hT hi];exact sh0 hI hz w _ (fun i hi=>List.mem_range.1 hi)
 have h3:(decide (∀i∈List.range n,F i=G i))=decide (∀k,k<n->F k=G k):=by simp
 rw[h3]at h2;simp only[execOp,hx,hy,Sem.run_bind,h1,Result.andThen_ok,run_eql_struct,h2,Sem.run_pure]
end
end
def p8(l:List Oper):Nat->List Nat->List Nat
 |0,S=>S
 |k+1,S=>match l[k]? with
  |some o=>if S.contains k then p8 l k (S++(o.after.toList.filter (fun x=>Region.binds .any x)).map (·.on)) else p8 l k S
  |none=>p8 l k S
def ai1(l:List Oper)(k:Nat):Bool:=(List.range l.length).all fun i=>(p8 l l.length [k]).contains i
theorem V6{l:List Oper}{V:(Nat->Bool)->Prop}(hV:∀D,V D->∀i o,l[i]? =some o->D i=true->j6 o D){D:Nat->Bool}(hD:V D) :
  ∀k S,(∀i∈S,D i=true)->∀i∈p8 l k S,D i=true
 |0,S,hS,i,hi=>hS i hi
 |k+1,S,hS,i,hi=>by
  unfold p8 at hi;cases ho:l[k]? with
  |none=>rw[ho]at hi;exact V6 hV hD k S hS i hi
  |some o=>
   rw[ho]at hi;simp only at hi;split at hi
   ·rename_i hk;refine V6 hV hD k _ (fun j hj=>?_) i hi;rw[List.mem_append]at hj;rcases hj with hj|hj
    ·exact hS j hj
    ·obtain⟨x,hx,rfl⟩:=List.mem_map.1 hj;rw[List.mem_filter]at hx;exact hV D hD k o ho (hS k (by simpa using hk)) x (by simpa using hx.1) hx.2
   ·exact V6 hV hD k S hS i hi
theorem si0{l:List Oper}{k:Nat}(h:ai1 l k=true){V:(Nat->Bool)->Prop}(hV:∀D,V D->∀i o,l[i]? =some o->D i=true->j6 o D){D:Nat->Bool}(hD:V D)(hk:D k=true):∀i,i<l.length->D i=true:=by
 intro i hi;unfold ai1 at h;rw[List.all_eq_true]at h;exact V6 hV hD l.length [k] (fun j hj=>by simp at hj;rw[hj];exact hk) i (by have:=h i (List.mem_range.2 hi);exact List.contains_iff_mem.1 this)
section
variable{w0 w w':World}
section
variable{r:Option Nat}{b:Nat}
theorem ap0(w:World)(r:Option Nat):w.grownBy w r:=⟨rfl,rfl,rfl,Nat.le_refl _,fun _ _ _=>rfl⟩
theorem aq0(hg:w0.grownBy w r)(hb:Below w.heap.size w w'):w0.grownBy w' r:=
 ⟨hb.os.trans hg.os,hb.tape.trans hg.tape,hb.output.trans hg.output,Nat.le_trans hg.size hb.size,fun k hk hr=>(hb.block k (Nat.lt_of_lt_of_le hk hg.size)).trans (hg.block k hk hr)⟩
theorem ar0(hg:w0.grownBy w r)(hb:some b=r\/w0.heap.size <=b)(cs:Array Value)(T:TypeId):w0.grownBy (R4 w b cs T) r:=
 ⟨hg.os,hg.tape,hg.output,by rw[ff0];exact hg.size,fun k hk hr=>by
  rw[dc0 _ _ (by rintro rfl;rcases hb with hb|hb;exact hr hb;omega)];exact hg.block k hk hr⟩
theorem gj0(hg:w0.grownBy w r)(hb:w.grownBy w' r):w0.grownBy w' r:=
 ⟨hb.os.trans hg.os,hb.tape.trans hg.tape,hb.output.trans hg.output,Nat.le_trans hg.size hb.size,fun k hk hr=>(hb.block k (Nat.lt_of_lt_of_le hk hg.size) hr).trans (hg.block k hk hr)⟩
theorem W3{B:Nat}(hg:Below B w0 w)(hs:B <=w.heap.size)(hb:w.grownBy w' (some b))(hB:B <=b):Below B w0 w':=
 ⟨hb.os.trans hg.os,hb.tape.trans hg.tape,hb.output.trans hg.output,Nat.le_trans hg.size hb.size,fun k hk=>(hb.block k Uo (by simp;omega)).trans (hg.block k hk)⟩
end
end
section
variable{P:Program}{T:TypeId}{ρ:Operand->Value}{w:World}{d:Option Nat}{ty:TypeId}{ps:String}{af:Array Edge}{g:Option (Nat×Bool)}{x y:Operand}
theorem j1{p:Addr}(hx:ρ x= .pointer (some p)):(execOp ρ ⟨d,.nilCheck x,ty,ps,af,g⟩).run P w= .ok (.value (.pointer (some p))) w:=by
 simp[execOp,hx]
theorem p7{E T:TypeId}{b o n s i:Nat}(hx:ρ x= .pointer (some ⟨b,o,none⟩))(hy:ρ y= .int .i64 (i:Int))(hT:P.underlying T=some (.array n E))(hs:(P.info? E).map (·.size)=some s)(h:i<n):(execOp ρ ⟨d,.indexAddr T x y,ty,ps,af,g⟩).run P w= .ok (.value (.pointer (some ⟨b,o+i*s,none⟩))) w:=
 G8 hx hy hT hs Uo Uo
theorem v5{q:Option Addr}{E T':TypeId}(hx:ρ x= .pointer q)(hy:ρ y= .pointer none)(hT:P.underlying T=some (.pointer E)):(execOp ρ ⟨d,.binOp .eql T x y T',ty,ps,af,g⟩).run P w= .ok (.value (.bool q.isNone)) w:=by
 have h1:(Op.equalIn 10000 T (.pointer q) (.pointer none)).run P w= .ok q.isNone w:=by
  rw[show(10000:Nat)=9999+1 from rfl,Op.equalIn];cases q <;> simp[run_underlying hT]
 have h2:(eqGuard .eql T x y (.pointer q) (.pointer none)).run P w= .ok () w:=by cases q <;> simp[eqGuard]
 have h3:(binOp .eql T (.pointer q) (.pointer none)).run P w= .ok (.bool q.isNone) w:=by
  simp only[binOp,Op.equal,Op.maxDepth,Sem.run_bind,h1,Result.andThen_ok,Sem.run_pure]
 simp only[execOp,hx,hy,Sem.run_bind,h2,h3,Result.andThen_ok,Sem.run_pure]
end
theorem sj0{P:Program}{ρ:Operand->Value}{w:World}{d:Option Nat}{ty:TypeId}{ps:String}{af:Array Edge}{g:Option (Nat×Bool)}{x:Operand}{f:FuncId}{fn:Func}{aT:Array TypeId}{x0 x1:Operand}{v0 v1:Value}(hx:ρ x= .func (.func f) #[] #[])(h0:ρ x0=v0)(h1:ρ x1=v1)(hf:P.funcs[f]? =some fn)(hb:fn.body.isSome=true)(hn:Ue fn):(execOp ρ ⟨d,.call ⟨.value x,#[x0,x1],aT⟩,ty,ps,af,g⟩).run P w= .ok (.enter f #[v0,v1]) w:=by
 rw[cv0 hx rfl hf hb hn];simp[h0,h1]
theorem sk0{cs:Array Value}{vs:List Value}(h:cs.size=vs.length):setRow cs 0 vs=vs.toArray:=by
 apply Array.ext_getElem?;intro j;rw[sf0 _ _ _ _ Uo];by_cases hj:j<vs.length
 ·rw[if_pos Uo];simp
 ·rw[if_neg Uo,Array.getElem?_eq_none Uo];simp;omega
theorem I0.all{w:World}{b:Nat}{cs:List Value}{T:TypeId}(h:I0 w b cs.toArray T):∀(j:Nat)(v:Value),cs[j]? =some v->w.cell? ⟨b,0+j,none⟩=some v:=by
 intro j v hj;rw[Nat.zero_add];exact h.cell (by simpa using hj)
theorem I0.K1{α:Type}{w:World}{b r:Nat}{cs:Array Value}{T:TypeId}{κ:α->Value}{Lm:List (α×Value)}(h:I0 w b cs T)(hM:A5 w r κ Lm)(o:Obj):I0 (Vc.K1 w r o) b cs T:=by
 unfold I0;rw[dd0 _ _ (Ne.symm (hM.ne h))];exact h
section
end
structure Gr2(w w':World)(a b:Nat):Prop where
 os:w'.os=w.os
 tape:w'.tape=w.tape
 output:w'.output=w.output
 size:w.heap.size <=w'.heap.size
 block:∀k,k<w.heap.size->k≠a->k≠b->w'.heap[k]? =w.heap[k]?
section
variable{w w':World}{a b c B:Nat}
theorem Sd0(w:World)(a b:Nat):Gr2 w w.drew a b:=⟨rfl,rfl,rfl,Nat.le_refl _,fun _ _ _ _=>rfl⟩
theorem Lx0(h:Gr2 w w' a b)(hc:c=a\/c=b)(cs:Array Value)(T:TypeId):Gr2 w (R4 w' c cs T) a b:=
 ⟨h.os,h.tape,h.output,by rw[ff0];exact h.size,fun k hk ha hb=>by rw[dc0 _ _ (by rintro rfl;rcases hc with hc|hc <;> contradiction)];exact h.block k hk ha hb⟩
theorem I0.gr2{cs:Array Value}{T:TypeId}(h:I0 w c cs T)(hg:Gr2 w w' a b)(ha:c≠a)(hb:c≠b):I0 w' c cs T:=(hg.block c h.lt ha hb).trans h
theorem A5.gr2{α:Type}{κ:α->Value}{r:Nat}{L:List (α×Value)}(h:A5 w r κ L)(hg:Gr2 w w' a b)(ha:r≠a)(hb:r≠b):A5 w' r κ L:=by
 have:=h.lt;obtain⟨es,ck,h1,h2⟩:=h;exact⟨es,ck,(hg.block r this ha hb).trans h1,h2⟩
theorem Ol0{w0:World}(h:Below B w0 w)(hs:B <=w.heap.size)(hg:Gr2 w w' a b)(ha:B <=a)(hb:B <=b):Below B w0 w':=
 ⟨hg.os.trans h.os,hg.tape.trans h.tape,hg.output.trans h.output,Nat.le_trans h.size hg.size,fun k hk=>(hg.block k Uo Uo Uo).trans (h.block k hk)⟩
theorem Own.qy0{E:TypeId}{s:Nat}{a:Option Addr}{n:Nat}{xs:List Value}(h:Own w B E s a n c xs)(ha:a≠none):∃r,a=some ⟨r,0,none⟩:=by
 rcases h.2 with⟨hv,h0⟩|⟨g,cap,cur,hv,_⟩
 ·cases hv;exact absurd rfl ha
 ·cases hv;exact⟨g,rfl⟩
end
section
variable{ops:Array Oper}{V:(Nat->Bool)->Prop}{n:Nat}
theorem Iy0(h:Ord n ops):∀{listed:Array Bool}{σ:List Nat},Lin ops listed σ->∀(m:Nat),m <=ops.size->listed.size=ops.size->(∀j,j<m->listed.getD j false=true)->(∀j,m <=j->listed.getD j false=false)->(∀D,V D->∀i,m <=i->i<ops.size->D i=true->∀j,j<i->D j=true)->(∀τ ρ,σ=τ++ρ->V (fun j=>listed.getD j false ||τ.contains j))->σ=List.range' m (ops.size-m):=by
 intro listed σ R5
 induction R5 with
 | @nil listed hr=>
  intro m hms hs h1 h2 _ _;have:ops.size <=m:=by
   rcases Nat.lt_or_ge m ops.size with h3|h3
   ·have:=la0 h hs hr m h3;rw[h2 m (Nat.le_refl _)]at this;cases this
   ·exact h3
  rw[show ops.size-m=0 by omega];rfl
 | @cons listed i σ hi hl ih=>
  intro m hms hs h1 h2 ep0 hV;obtain⟨hli,o,ho,P5⟩:=mem_ready.1 hi;have hio:i<ops.size:=(Array.getElem?_eq_some_iff.1 ho).1;have z8:i<listed.size:=by omega
  have K9:listed.getD i false=false:=by
   simp only[Array.getD_eq_getD_getElem?,z8,Array.getElem?_eq_getElem,Option.getD_some]at hli⊢;exact hli
  have hmi:m <=i:=by
   rcases Nat.lt_or_ge i m with h3|h3
   ·rw[h1 i h3]at K9;cases K9
   ·exact h3
  have hVi:=hV [i] σ rfl;have him:i=m:=by
   rcases Nat.lt_or_ge m i with h3|h3
   ·have:=ep0 _ hVi i hmi hio (by simp) m h3;simp only[h2 m (Nat.le_refl _),Bool.false_or]at this;simp at this;omega
   ·omega
  subst him;rw[show ops.size-i=(ops.size-(i+1))+1 by omega,List.range'_succ];congr 1;refine ih (i+1) Uo (by simp[hs]) (fun j hj=>?_) (fun j hj=>?_) (fun D hD j hj=>ep0 D hD j Uo) (fun τ ρ hσ=>?_)
  ·by_cases M3:i=j
   ·subst M3;simp[z8]
   ·rw[getD_set_ne false M3];exact h1 j Uo
  ·rw[getD_set_ne false Uo];exact h2 j Uo
  ·have:=hV (i::τ) ρ (by rw[hσ];rfl);have e1:(fun j=>listed.getD j false ||(i::τ).contains j)=fun j=>(listed.setIfInBounds i true).getD j false ||τ.contains j:=by
    funext j;by_cases hj:i=j
    ·subst hj;simp[z8]
    ·rw[getD_set_ne false hj];simp[Ne.symm hj]
   rw[e1]at this;exact this
def sl0(l:List Oper)(k:Nat):Bool:=(List.range l.length).all fun i=>Nat.blt i k ||(List.range i).all fun j=>(p8 l l.length [i]).contains j
theorem sm0{l:List Oper}{k:Nat}(h:sl0 l k=true){V:(Nat->Bool)->Prop}(hV:∀D,V D->∀i o,l[i]? =some o->D i=true->j6 o D){D:Nat->Bool}(hD:V D):∀i,k <=i->i<l.length->D i=true->∀j,j<i->D j=true:=by
 intro i hki z8 K9 j hj;unfold sl0 at h;have h1:=List.all_eq_true.1 h i (List.mem_range.2 z8);have h2:Nat.blt i k=false:=by
  cases hb:Nat.blt i k with
  |false=>rfl
  |true=>rw[Nat.blt_eq]at hb;omega
 rw[h2,Bool.false_or]at h1;have h3:=List.all_eq_true.1 h1 j (List.mem_range.2 hj);exact V6 hV hD l.length [i] (fun x hx=>by simp at hx;rw[hx];exact K9) j (List.contains_iff_mem.1 h3)
end
section
variable{P:Program}{ρ:Operand->Value}{w:World}{d:Option Nat}{ty:TypeId}{ps:String}{af:Array Edge}{g:Option (Nat×Bool)}
variable{x y:Operand}{T T' E:TypeId}
section
variable{v:Value}{b:Bool}{u:TypeDesc}
theorem J8{q:Option Addr}(hx:ρ x= .pointer q)(hy:ρ y= .pointer none)(hT:P.underlying T=some (.pointer E)):(execOp ρ ⟨d,.binOp .neq T x y T',ty,ps,af,g⟩).run P w= .ok (.value (.bool q.isSome)) w:=by
 have h1:(Op.equalIn 10000 T (.pointer q) (.pointer none)).run P w= .ok q.isNone w:=by
  rw[show(10000:Nat)=9999+1 from rfl,Op.equalIn];cases q <;> simp[run_underlying hT]
 have h2:(eqGuard .neq T x y (.pointer q) (.pointer none)).run P w= .ok () w:=by cases q <;> simp[eqGuard]
 simp only[execOp,hx,hy,Sem.run_bind,h2,binOp,Op.equal,Op.maxDepth,h1,Result.andThen_ok,Sem.run_pure];cases q <;> rfl
theorem dp0(hx:ρ x=v)(hv:(v= .nilFunc/\b=true)\/(∃f xs ys,v= .func f xs ys/\b=false))(hy:ρ y= .nilFunc)(hT:P.underlying T=some u)(hu:∃a b c,u= .func a b c):(execOp ρ ⟨d,.binOp .eql T x y T',ty,ps,af,g⟩).run P w= .ok (.value (.bool b)) w:=by
 obtain⟨a1,b1,c1,rfl⟩:=hu;have h1:(Op.equalIn 10000 T v .nilFunc).run P w= .ok b w:=by
  rw[show(10000:Nat)=9999+1 from rfl,Op.equalIn];rcases hv with⟨rfl,rfl⟩|⟨f,xs,ys,rfl,rfl⟩ <;> simp[run_underlying hT]
 have h2:(eqGuard .eql T x y v .nilFunc).run P w= .ok () w:=by
  rcases hv with⟨rfl,rfl⟩|⟨f,xs,ys,rfl,rfl⟩ <;> simp[eqGuard]
 simp only[execOp,hx,hy,Sem.run_bind,h2,binOp,Op.equal,Op.maxDepth,h1,Result.andThen_ok,Sem.run_pure]
theorem ec0(hx:ρ x=v)(hv:(v= .nilFunc/\b=false)\/(∃f xs ys,v= .func f xs ys/\b=true))(hy:ρ y= .nilFunc)(hT:P.underlying T=some u)(hu:∃a b c,u= .func a b c):(execOp ρ ⟨d,.binOp .neq T x y T',ty,ps,af,g⟩).run P w= .ok (.value (.bool b)) w:=by
 obtain⟨a1,b1,c1,rfl⟩:=hu;have h1:(Op.equalIn 10000 T v .nilFunc).run P w= .ok (!b) w:=by
  rw[show(10000:Nat)=9999+1 from rfl,Op.equalIn];rcases hv with⟨rfl,rfl⟩|⟨f,xs,ys,rfl,rfl⟩ <;> simp[run_underlying hT]
 have h2:(eqGuard .neq T x y v .nilFunc).run P w= .ok () w:=by
  rcases hv with⟨rfl,rfl⟩|⟨f,xs,ys,rfl,rfl⟩ <;> simp[eqGuard]
 simp only[execOp,hx,hy,Sem.run_bind,h2,binOp,Op.equal,Op.maxDepth,h1,Result.andThen_ok,Sem.run_pure];cases b <;> rfl
theorem kj0{f:FuncId}{fn:Func}{aT:Array TypeId}{ys:Array Value}(hx:ρ x= .func (.func f) #[] ys)(hf:P.funcs[f]? =some fn)(hb:fn.body.isSome=true)(hn:Ue fn):(execOp ρ ⟨d,.call ⟨.value x,#[],aT⟩,ty,ps,af,g⟩).run P w= .ok (.enter f ys) w:=by
 rw[cv0 hx rfl hf hb hn];simp
end
end
end Go.Vc
end
section
namespace Go.Vc
open Go Go.RowKit
structure y5(w w':World)(B:Nat)(TS:List TypeId):Prop where
 os:w'.os=w.os
 tape:w'.tape=w.tape
 output:w'.output=w.output
 size:w.heap.size <=w'.heap.size
 low:∀k,k<B->w'.heap[k]? =w.heap[k]?
 stay:∀k cs T,I0 w k cs T->TS.contains T=false->I0 w' k cs T
section
variable{w0 w w':World}{B:Nat}{TS:List TypeId}
section
variable{b B' s c:Nat}{cs:Array Value}{T E:TypeId}{a:Option Addr}{xs:List Value}
theorem y5.trans(h:y5 w0 w B TS)(h':y5 w w' B TS):y5 w0 w' B TS:=
 ⟨h'.os.trans h.os,h'.tape.trans h.tape,h'.output.trans h.output,Nat.le_trans h.size h'.size,fun k hk=>(h'.low k hk).trans (h.low k hk),fun k cs T hb hT=>h'.stay k cs T (h.stay k cs T hb hT) hT⟩
theorem y5.put(hB:I0 w b cs T)(hg:w.grownBy w' (some b))(hb:B <=b)(hT:TS.contains T=true):y5 w w' B TS:=
 ⟨hg.os,hg.tape,hg.output,hg.size,fun k hk=>by
  rcases Nat.lt_or_ge k w.heap.size with h1|h1
  ·exact hg.block k h1 (by simp;omega)
  ·have:=hB.lt;omega,fun k S6 T' h' hT'=>h'.grown hg (by
  intro hk;simp only[Option.some.injEq]at hk;subst hk;have:T'=T:=by
   unfold I0 at hB h';rw[hB]at h';cases h';rfl
  subst this;rw[hT]at hT';cases hT')⟩
theorem I0.mod(h:I0 w b cs T)(hm:y5 w w' B TS)(hT:TS.contains T=false):I0 w' b cs T:=hm.stay b cs T h hT
theorem Own.mod{n:Nat}(h:Own w B' E s a n c xs)(hm:y5 w w' B TS)(hT:TS.contains E=false):Own w' B' E s a n c xs:=by
 refine⟨h.1,?_⟩;rcases h.2 with h1|⟨g,cap,cur,hv,hbg,hg,hr⟩
 ·exact .inl h1
 ·exact .inr ⟨g,cap,cur,hv,hbg,hm.stay g cur E hg hT,hr⟩
theorem y5.app{k n' c':Nat}{a':Option Addr}{xs':List Value}(h:Own w B' E s a k c xs)(hg:w.grownBy w' (Value.ownBlock (.slice a k c)))(A1:Below B w w')(hT:TS.contains E=true)(_h':Own w' B' E s a' n' c' xs'):y5 w w' B TS:=by
 refine⟨hg.os,hg.tape,hg.output,hg.size,A1.block,fun j cs T hj hT'=>?_⟩;refine hj.grown hg ?_;cases a with
 |none=>simp[Value.ownBlock]
 |some q=>
  intro hjq;simp only[Value.ownBlock,Option.some.injEq]at hjq;obtain⟨cur,hc,-⟩:=h.row (by simp);subst hjq;have:T=E:=by
   unfold I0 at hj hc;simp only[ab,Option.map_some,Option.getD_some]at hc;rw[hj]at hc;cases hc;rfl
  subst this;rw[hT]at hT';cases hT'
end
end
section
variable{w:World}{b:Nat}{cs:Array Value}{T:TypeId}
theorem I0.E0(h:I0 w b cs T)(o:Nat){v:Value}(hv:cs[o]? =some v):w.cell? ⟨b,o,none⟩=some v:=h.cell hv
theorem I0.R7(h:I0 w b cs T){o:Nat}{l:List Value}(hl:(cs.toList.drop o).take l.length=l):∀(j:Nat)(v:Value),l[j]? =some v->w.cell? ⟨b,o+j,none⟩=some v:=by
 intro j v hj;refine h.cell ?_;rw[<- hl]at hj;rw[List.getElem?_take]at hj;split at hj
 ·rw[List.getElem?_drop]at hj;simpa using hj
 ·cases hj
end
section
end
end Go.Vc
namespace Go.Vc
open Go Go.RowKit
section
variable{w w':World}{b k:Nat}{cs:Array Value}{T:TypeId}
theorem y5.gk0(hB:I0 w b cs T)(hg:w.grownBy w' (some b)):y5 w w' 0 [T]:=y5.put hB hg (Nat.zero_le _) (by simp)
theorem I0.other(h:I0 w k cs T)(hg:w.grownBy w' (some b))(hk:k≠b):I0 w' k cs T:=h.grown hg (by simpa using hk)
theorem jp0.ne{w1:World}{S6:Array Value}{T':TypeId}(F:jp0 w w1 b cs T)(h:I0 w k S6 T'):k≠b:=by have:=h.lt;have:=F.here;omega
end
end Go.Vc
namespace Go.Vc
open Go Go.RowKit
theorem p6{P:Program}{ρ:Operand->Value}{w:World}{d:Option Nat}{ty:TypeId}{ps:String}{af:Array Edge}{g:Option (Nat×Bool)}{fn:Fn}{l:List Operand}{vs:List Value}(h:l.map ρ=vs):(execOp ρ ⟨d,.makeFunc fn #[] l.toArray,ty,ps,af,g⟩).run P w= .ok (.value (.func fn #[] vs.toArray)) w:=by
 subst h;have:(execOp ρ ⟨d,.makeFunc fn #[] l.toArray,ty,ps,af,g⟩).run P w= .ok (.value (.func fn (#[].map ρ) (l.toArray.map ρ))) w:=rfl;rw[this];simp
end Go.Vc
namespace Go.Vc
open Go Go.RowKit
section
end
end Go.Vc
end
section
namespace Go.Vc
open Go Go.RowKit
section
end
section
end
section
end
section
variable{P:Program}{ρ:Operand->Value}{w:World}{d:Option Nat}{ty:TypeId}{ps:String}{af:Array Edge}{g:Option (Nat×Bool)}{x:Operand}{T E:TypeId}
theorem sn0{v zv:Value}(hx:ρ x=v)(h1:v.oneCell'=true)(hT:P.underlying T=some (.slice E))(hs:(P.info? E).map (·.size)=some 1)(hz:(P.info? E).bind (·.zero)=some zv)(hzc:zv.cells.size=1):(execOp ρ ⟨d,.buildSlice T 1 #[(0,x)],ty,ps,af,g⟩).run P w= .ok (.value (.slice (some ⟨w.heap.size,0,none⟩) 1 1)) (w.alloc (.cells #[v] E)):=by
 have hv:v.cells=#[v]:=by cases v <;> first|rfl|(simp[Value.oneCell']at h1)
 have h2:((Array.map (fun x=>zv.cells[x%1]!) (Array.range 1)).setIfInBounds 0 v)=#[v]:=by
  apply Array.ext
  ·simp
  ·intro j h3 h4;have:j=0:=by simp at h4;omega
   subst this;simp
 simp[execOp,Instr.buildSlice,hx,run_underlying hT,run_sizeOf hs,Z7 hz,Instr.fill,hv,newRow,hzc,h2]
end
end Go.Vc
namespace Go.Vc
open Go Go.RowKit
end Go.Vc
namespace Go.Vc
open Go Go.RowKit
theorem Own.H6{w w':World}{B s n c b:Nat}{E:TypeId}{a:Option Addr}{xs:List Value}(h:Own w B E s a n c xs)(hg:w.grownBy w' (some b))(X2:a≠none->ab a≠b):Own w' B E s a n c xs:=by
 cases a with
 |none=>exact World.ownsRow.kept h hg (.inl rfl)
 |some q=>exact h.grown hg (by have:=X2 (by simp);simpa using this)
end Go.Vc
end
section
namespace Go.Vc
open Go Go.RowKit
def fc1(n:Nat)(ops:Array Oper):Bool:=(List.range ops.size).all fun i=>match ops[i]? with
 |none=>false
 |some o=>z6 n o.dst&&o.after.all fun x=>!Region.binds .any x ||Nat.blt x.on i
structure Bk(n:Nat)(ops:Array Oper):Prop where
 dst:∀(i:Nat)(o:Oper),ops[i]? =some o->z6 n o.dst=true
 back:∀(i:Nat)(o:Oper),ops[i]? =some o->∀x∈o.after,Region.binds .any x=true->x.on<i
theorem pe1{n:Nat}{ops:Array Oper}(h:fc1 n ops=true):Bk n ops:=by
 have key:∀(i:Nat)(o:Oper),ops[i]? =some o->z6 n o.dst=true/\(o.after.all fun x=>!Region.binds .any x ||Nat.blt x.on i)=true:=by
  intro i o ho;have h1:=List.all_eq_true.1 h i (List.mem_range.2 (Array.getElem?_eq_some_iff.1 ho).1);rw[ho]at h1;simpa only[Bool.and_eq_true]using h1
 refine⟨fun i o ho=>(key i o ho).1,fun i o ho x hx hb=>?_⟩;have:=(key i o ho).2;rw[Array.all_eq_true']at this;have:=this x hx;simp only[hb,Bool.not_true,Bool.false_or,Nat.blt_eq]at this;exact this
theorem lz0{n:Nat}{ops:Array Oper}{listed:Array Bool}(h:Bk n ops)(hs:listed.size=ops.size)(hr:Region.ready .any ops listed=[]):∀i,i<ops.size->listed.getD i false=true:=by
 intro i
 induction i using Nat.strongRecOn with
 |_ i ih=>
  intro hi;cases hl:listed.getD i false with
  |true=>rfl
  |false=>
   exfalso;have hi':i<listed.size:=by omega
   have vt0:i∈Region.ready .any ops listed:=by
    refine mem_ready.2 ⟨?_,ops[i],by simp[hi],fun x hx hb=>?_⟩
    ·simp only[Array.getD_eq_getD_getElem?,hi',Array.getElem?_eq_getElem,Option.getD_some]at hl⊢;exact hl
    ·have O1:=h.back i ops[i] (by simp[hi]) x hx hb;exact ih x.on O1 Uo
   rw[hr]at vt0;cases vt0
section
end
end Go.Vc
end
section
namespace Go.Vc
open Go Go.RowKit
section
end
end Go.Vc
namespace Go.Vc
open Go Go.RowKit
def lst(f:Nat->Value)(n:Nat):List Value:=(List.range n).map f
section
variable{f:Nat->Value}{n i:Nat}
theorem fg0(h:i<n):(lst f n)[i]? =some (f i):=by simp[lst,h]
theorem fh0(f:Nat->Value)(n:Nat):(lst f n).length=n:=by simp[lst]
theorem oo0{g:Nat->Value}(h:∀i,i<n->f i=g i):lst f n=lst g n:=List.map_congr_left fun i hi=>h i (List.mem_range.1 hi)
theorem aj1(f:Nat->Value)(n:Nat)(v:Value):lst f n ++ [v]=lst (upf f n v) (n+1):=by
 unfold lst;rw[Sb0,List.map_congr_left (g:=upf f n v) fun i hi=>by
  have:=List.mem_range.1 hi;simp[upf,show i≠n by omega]]
 simp[upf]
theorem ak1{v:Value}(h:i<n):(lst f n).set i v=lst (upf f i v) n:=by
 apply List.ext_getElem?;intro j;rw[List.getElem?_set];by_cases hj:j<n
 ·rw[fg0 hj,fg0 hj];by_cases hij:i=j
  ·subst hij;rw[if_pos rfl,if_pos (by rw[fh0];exact h)];simp[upf]
  ·rw[if_neg hij];simp[upf,Ne.symm hij]
 ·rw[List.getElem?_eq_none (by rw[fh0];omega),List.getElem?_eq_none (by rw[fh0];omega)];have:i≠j:=by omega
  simp[this]
theorem Own.at1{w:World}{B:Nat}{E:TypeId}{a:Option Addr}{c:Nat}(h:Own w B E 1 a n c (lst f n)){j:Nat}(hj:j<n):w.cell? ⟨ab a,ao a+j*1,none⟩=some (f j):=by
 rw[h.off,Nat.zero_add,Nat.mul_one];exact h.cell (fg0 hj)
end
section
end
end Go.Vc
end
section
namespace Go.Vc
open Go
section
variable{P:Program}{ρ:Operand->Value}{w:World}{d:Option Nat}{ty:TypeId}{ps:String}{af:Array Edge}{g:Option (Nat×Bool)}
theorem cj0{S:TypeId}{x:Operand}{v:Value}{td:TypeDesc}(hx:ρ x=v)(hT:P.underlying S=some td)(hn:(match td with| .interface _=>false|_=>true)=true):(execOp ρ ⟨d,.makeInterface S x,ty,ps,af,g⟩).run P w= .ok (.value (.iface S v)) w:=by
 subst hx;simp only[execOp,Instr.makeInterface,Sem.run_bind,run_underlying hT,Result.andThen_ok];cases td <;> first|rfl|cases hn
end
end Go.Vc
end
section
namespace Go.Vc
open Go Go.RowKit
section
end
def zu0(l0:List Oper)(k:Nat)(ch:Nat->Bool)(os:List Nat)(pr:List (Nat×Nat):=[]):Bool:=
 (List.range k).all (fun i=>os.contains i)&&(os.all fun i=>Nat.blt i k) &&
 (List.range os.length).all fun b=>match os[b]? with
  |none=>false
  |some y=>(match l0[y]? with|none=>false|some o=>o.after.all fun x=>!Region.binds .any x ||(os.take b).contains x.on) &&
   (List.range b).all fun a=>match os[a]? with|none=>false|some x=>x !=y&&(!ch x ||(p8 l0 l0.length [y]).contains x ||pr.any fun p=>p.1==x&&(p.2==y ||(p8 l0 l0.length [y]).contains p.2))
structure so0(l0:List Oper)(k:Nat)(ch:Nat->Bool)(os:List Nat)(V:(Nat->Bool)->Prop):Prop where
 all:∀i,i<k->i∈os
 lt:∀i∈os,i<k
 pf1:∀pre y suf,os=pre++y::suf->∃o,l0[y]? =some o/\∀x∈o.after,Region.binds .any x=true->x.on∈pre
 nodup:∀pre y suf,os=pre++y::suf->y∉pre
 wait:∀pre x mid y suf,os=pre++x::mid++y::suf->ch x=true->∀D,V D->D y=true->D x=true
theorem ne0{l0:List Oper}{k:Nat}{ch:Nat->Bool}{os:List Nat}{pr:List (Nat×Nat)}{V:(Nat->Bool)->Prop}(fi0:∀D,V D->∀i o,l0[i]? =some o->D i=true->j6 o D)(hpr:∀p∈pr,∀D,V D->D p.2=true->D p.1=true)(h:zu0 l0 k ch os pr=true):so0 l0 k ch os V:=by
 unfold zu0 at h;simp only[Bool.and_eq_true]at h;obtain⟨⟨h1,h2⟩,h3⟩:=h;have key:∀(b y:Nat),os[b]? =some y->(∃o,l0[y]? =some o/\∀x∈o.after,Region.binds .any x=true->x.on∈os.take b)/\∀a x,a<b->os[a]? =some x->x≠y/\(ch x=true->(p8 l0 l0.length [y]).contains x=true\/∃p∈pr,p.1=x/\(p.2=y\/(p8 l0 l0.length [y]).contains p.2=true)):=by
  intro b y hy;have h4:=List.all_eq_true.1 h3 b (List.mem_range.2 (List.getElem?_eq_some_iff.1 hy).1);rw[hy]at h4;simp only[Bool.and_eq_true]at h4;obtain⟨h5,h6⟩:=h4;constructor
  ·cases ho:l0[y]? with
   |none=>rw[ho]at h5;cases h5
   |some o=>
    rw[ho]at h5;refine⟨o,rfl,fun x hx hb=>?_⟩;simp only[Array.all_eq_true']at h5;have:=h5 x hx;rw[hb,Bool.not_true,Bool.false_or]at this;exact List.contains_iff_mem.1 this
  ·intro a x hab hx;have h7:=List.all_eq_true.1 h6 a (List.mem_range.2 hab);rw[hx]at h7;simp only[Bool.and_eq_true,bne_iff_ne,ne_eq,Bool.or_eq_true,Bool.not_eq_true']at h7;refine⟨h7.1,fun hc=>?_⟩;rcases h7.2 with(h8|h8)|h8
   ·rw[hc]at h8;cases h8
   ·exact .inl h8
   ·rw[List.any_eq_true]at h8;obtain⟨p,hp,h9⟩:=h8;simp only[Bool.and_eq_true,beq_iff_eq,Bool.or_eq_true]at h9;exact .inr ⟨p,hp,h9.1,h9.2⟩
 refine⟨fun i hi=>List.contains_iff_mem.1 (List.all_eq_true.1 h1 i (List.mem_range.2 hi)),fun i hi=>by have:=List.all_eq_true.1 h2 i hi;rwa [Nat.blt_eq]at this,?_,?_,?_⟩
 ·intro pre y suf he;have hy:os[pre.length]? =some y:=by rw[he];simp
  obtain⟨o,ho,h4⟩:=(key _ _ hy).1;exact⟨o,ho,fun x hx hb=>by have:=h4 x hx hb;rw[he]at this;simpa using this⟩
 ·intro pre y suf he hin;have hy:os[pre.length]? =some y:=by rw[he];simp
  obtain⟨a,ha⟩:=List.mem_iff_getElem?.1 hin;have hal:=(List.getElem?_eq_some_iff.1 ha).1;have hx:os[a]? =some y:=by rw[he,List.getElem?_append_left hal];exact ha
  exact((key _ _ hy).2 a y hal hx).1 rfl
 ·intro pre x mid y suf he hc;have hy:os[(pre++x::mid).length]? =some y:=by rw[he,List.getElem?_append_right (Nat.le_refl _)];simp
  have hx:os[pre.length]? =some x:=by rw[he];simp
  intro D hD hDy;have hbd:∀z,(p8 l0 l0.length [y]).contains z=true->D z=true:=fun z hz=>V6 fi0 hD l0.length [y] (fun q hq=>by simp at hq;rw[hq];exact hDy) z (List.contains_iff_mem.1 hz);rcases((key _ _ hy).2 pre.length x (by simp) hx).2 hc with h9|⟨p,hp,rfl,h9⟩
  ·exact hbd x h9
  ·refine hpr p hp D hD ?_;rcases h9 with h9|h9
   ·rw[h9];exact hDy
   ·exact hbd _ h9
def Fk0(n:Nat)(ops:Array Oper)(k:Nat):Bool:=
 (List.range ops.size).all fun i=>
  match ops[i]? with
  |none=>false
  |some o=>
   z6 n o.dst&&(o.after.all fun x=>!Region.binds .any x ||Nat.blt x.on i) &&
   (Nat.ble k i ||(!(match o.op with| .select ..=>true|_=>false) &&
   (List.range k).all fun j=>
    match ops[j]? with
    |none=>true
    |some p=>
     match p.dst with
     |none=>true
     |some t=>(i==j ||o.dst !=some t)&&(!(o.looksAt ops).contains t ||o.after.any fun x=>Region.binds .any x&&x.on==j)))
structure Cz0(n:Nat)(ops:Array Oper)(k:Nat):Prop where
 dst:∀(i:Nat)(o:Oper),ops[i]? =some o->z6 n o.dst=true
 sel:∀(i:Nat)(o:Oper),i<k->ops[i]? =some o->∀cs b,o.op≠.select cs b
 back:∀(i:Nat)(o:Oper),ops[i]? =some o->∀x∈o.after,Region.binds .any x=true->x.on<i
 one:∀(i j:Nat)(o p:Oper)(t:Nat),i<k->j<k->ops[i]? =some o->ops[j]? =some p->o.dst=some t->p.dst=some t->i=j
 look:∀(i j:Nat)(o p:Oper)(t:Nat),i<k->j<k->ops[i]? =some o->ops[j]? =some p->p.dst=some t->t∈o.looksAt ops->∃x∈o.after,Region.binds .any x=true/\x.on=j
section
variable{n k:Nat}{ops:Array Oper}
theorem Cz0.bk(h:Cz0 n ops k):Bk n ops:=⟨h.dst,h.back⟩
theorem qz0(h:Fk0 n ops k=true):Cz0 n ops k:=by
 unfold Fk0 at h;have lt:∀{i:Nat}{o:Oper},ops[i]? =some o->i<ops.size:=fun h=>(Array.getElem?_eq_some_iff.1 h).1;have key:∀(i:Nat)(o:Oper),ops[i]? =some o->(z6 n o.dst=true/\(o.after.all fun x=>!Region.binds .any x ||Nat.blt x.on i)=true)/\(i<k->(!(match o.op with| .select ..=>true|_=>false))=true /\
   ∀(j:Nat)(p:Oper)(t:Nat),j<k->ops[j]? =some p->p.dst=some t->(i==j ||o.dst !=some t)=true/\(!(o.looksAt ops).contains t ||o.after.any fun x=>Region.binds .any x&&x.on==j)=true):=by
  intro i o ho;have h1:=List.all_eq_true.1 h i (List.mem_range.2 (lt ho));simp only[ho,Bool.and_eq_true]at h1;refine⟨h1.1,fun hik=>?_⟩;have h2:=h1.2;have h3:Nat.ble k i=false:=by
   cases hb:Nat.ble k i with
   |false=>rfl
   |true=>have:=Nat.le_of_ble_eq_true hb;omega
  rw[h3,Bool.false_or,Bool.and_eq_true]at h2;refine⟨h2.1,fun j p t hj hp ht=>?_⟩;have h4:=List.all_eq_true.1 h2.2 j (List.mem_range.2 hj);simp only[hp,ht,Bool.and_eq_true]at h4;exact h4
 refine⟨fun i o ho=>(key i o ho).1.1,fun i o hi ho cs b he=>?_,fun i o ho x hx hb=>?_,fun i j o p t hi hj ho hp h1 h2=>?_,fun i j o p t hi hj ho hp ht hl=>?_⟩
 ·have:=((key i o ho).2 hi).1;rw[he]at this;cases this
 ·have:=(key i o ho).1.2;rw[Array.all_eq_true']at this;have:=this x hx;simp only[hb,Bool.not_true,Bool.false_or,Nat.blt_eq]at this;exact this
 ·have:=(((key i o ho).2 hi).2 j p t hj hp h2).1;simp only[h1,bne_self_eq_false,Bool.or_false,beq_iff_eq]at this;exact this
 ·have:=(((key i o ho).2 hi).2 j p t hj hp ht).2;have hc:(o.looksAt ops).contains t=true:=by simpa using hl
  rw[hc,Bool.not_true,Bool.false_or]at this;obtain⟨x,hx,hb⟩:=Array.any_eq_true'.1 this;simp only[Bool.and_eq_true,beq_iff_eq]at hb;exact⟨x,hx,hb.1,hb.2⟩
theorem Fl0{V:(Nat->Bool)->Prop}(h:Bk n ops):∀{listed:Array Bool}{σ:List Nat},Lin ops listed σ->∀(m:Nat),m <=ops.size->listed.size=ops.size->(∀j,j<m->listed.getD j false=true)->(∀j,m <=j->listed.getD j false=false)->(∀D,V D->∀i,m <=i->i<ops.size->D i=true->∀j,j<i->D j=true)->(∀τ ρ,σ=τ++ρ->V (fun j=>listed.getD j false ||τ.contains j))->σ=List.range' m (ops.size-m):=by
 intro listed σ R5
 induction R5 with
 | @nil listed hr=>
  intro m hms hs h1 h2 _ _;have:ops.size <=m:=by
   rcases Nat.lt_or_ge m ops.size with h3|h3
   ·have:=lz0 h hs hr m h3;rw[h2 m (Nat.le_refl _)]at this;cases this
   ·exact h3
  rw[show ops.size-m=0 by omega];rfl
 | @cons listed i σ hi hl ih=>
  intro m hms hs h1 h2 ep0 hV;obtain⟨hli,o,ho,P5⟩:=mem_ready.1 hi;have hio:i<ops.size:=(Array.getElem?_eq_some_iff.1 ho).1;have z8:i<listed.size:=by omega
  have K9:listed.getD i false=false:=by
   simp only[Array.getD_eq_getD_getElem?,z8,Array.getElem?_eq_getElem,Option.getD_some]at hli⊢;exact hli
  have hmi:m <=i:=by
   rcases Nat.lt_or_ge i m with h3|h3
   ·rw[h1 i h3]at K9;cases K9
   ·exact h3
  have hVi:=hV [i] σ rfl;have him:i=m:=by
   rcases Nat.lt_or_ge m i with h3|h3
   ·have:=ep0 _ hVi i hmi hio (by simp) m h3;simp only[h2 m (Nat.le_refl _),Bool.false_or]at this;simp at this;omega
   ·omega
  subst him;rw[show ops.size-i=(ops.size-(i+1))+1 by omega,List.range'_succ];congr 1;refine ih (i+1) Uo (by simp[hs]) (fun j hj=>?_) (fun j hj=>?_) (fun D hD j hj=>ep0 D hD j Uo) (fun τ ρ hσ=>?_)
  ·by_cases M3:i=j
   ·subst M3;simp[z8]
   ·rw[getD_set_ne false M3];exact h1 j Uo
  ·rw[getD_set_ne false Uo];exact h2 j Uo
  ·have:=hV (i::τ) ρ (by rw[hσ];rfl);have e1:(fun j=>listed.getD j false ||(i::τ).contains j)=fun j=>(listed.setIfInBounds i true).getD j false ||τ.contains j:=by
    funext j;by_cases hj:i=j
    ·subst hj;simp[z8]
    ·rw[getD_set_ne false hj];simp[Ne.symm hj]
   rw[e1]at this;exact this
end
section
end
theorem Rep.ext[K3]{n:Nat}{a:Act}{e e':Env}(h:Rep n a e)(h':Rep n a e'):e=e':=funext fun t=>(h.get t).symm.trans (h'.get t)
theorem as0{l:List Oper}{σ:List Nat}(R5:Lin l.toArray (Array.replicate l.toArray.size false) σ):∀D,Pre σ D->∀i o,l[i]? =some o->D i=true->j6 o D:=by
 have iu0:=iq0 R5 (fun i o _ hi=>by rw[K0]at hi;cases hi) (by simp);rintro D ⟨τ,ρ,hσ,hD⟩ i o hi K9 x hx hb;have:=iu0 τ ρ hσ i o (by simpa using hi) (.inr ((hD i).1 K9)) x hx hb;rcases this with h1|h1
 ·rw[K0]at h1;cases h1
 ·exact(hD _).2 h1
section
variable{w:World}{B E:Nat}{s:Nat}{a:Option Addr}{n c:Nat}{xs:List Value}
theorem Own.down{B':Nat}(h:Own w B' E s a n c xs)(hB:B <=B'):Own w B E s a n c xs:=by
 refine⟨h.1,?_⟩;rcases h.2 with h2|⟨g,cap,cur,hv,hb,hg⟩
 ·exact .inl h2
 ·exact .inr ⟨g,cap,cur,hv,Nat.le_trans hB hb,hg⟩
theorem Own.src(h:Own w B E s a n c xs){news:List Value}(hn:news.length <=n*s)(hx:∀(j:Nat)(u:Value),news[j]? =some u->xs[j]? =some u)(ad:Addr)(had:a=some ad)(j:Nat)(u:Value)(hj:news[j]? =some u):w.cell? (ad.add j)=some u:=by
 obtain⟨r,hr⟩:=Own.qy0 h (by rw[had];simp);rw[hr]at had;cases had;have:=h.cell (hx j u hj);rw[hr]at this;rw[Addr.add_lit,Nat.zero_add];exact this
theorem Own.Fm0{b:Nat}{cs:Array Value}(h:I0 w b cs E)(hs:cs.size=c*s)(hb:B <=b)(hn:n <=c)(hm:c <=maxLen):Own w B E s (some ⟨b,0,none⟩) n c (cs.toList.take (n*s)):=by
 refine⟨?_,.inr ⟨b,c,cs,rfl,hb,h,hn,hm,hs,rfl⟩⟩;rw[List.length_take,Array.length_toList,hs];exact Nat.min_eq_left (Nat.mul_le_mul_right s hn)
end
section
variable{P:Program}{ρ:Operand->Value}{w:World}{d:Option Nat}{ty:TypeId}{ps:String}{af:Array Edge}{g:Option (Nat×Bool)}{x:Operand}{T E:TypeId}
theorem Da0{a:Option Addr}{n c:Nat}{m:Int}{aT:Array TypeId}(hm:((n:Nat):Int)=m)(hx:ρ x= .slice a n c)(hT:P.underlying T=some (.slice E))(hA:aT[0]? =some T):(execOp ρ ⟨d,.call ⟨.builtin .len,#[x],aT⟩,ty,ps,af,g⟩).run P w= .ok (.value (.int .i64 m)) w:=by
 rw[<- hm];exact A7 hx hT hA
end
def noG(Q:Exit->Env->World->Prop):Exit->Env->World->Prop
 | .goto _,_,_=>False
 |x,e,w=>Q x e w
section
variable{Q:Exit->Env->World->Prop}{e:Env}{w:World}
theorem N.nrm(h:Q .normal e w):noG Q .normal e w:=h
theorem N.ret(h:Q .ret e w):noG Q .ret e w:=h
end
end Go.Vc
end
section
namespace Go.Yc
open Go
section
section
variable{α:Type}{P:Program}{f:Bool->Sem α}
theorem gl0(s:Unsupported):dead P (unsupported s:Sem α):=fun v h=>by cases h
theorem Db0(a:Addr)(n:Nat)(hf:∀b,dead P (f b)):dead P (Builtin.holdsCells a n >>=f):=by
 show dead P (Sem.bind (Sem.bind (Sem.shape a.block .pure) _) f);intro s;cases s with
 |none=>exact hf _
 |some p=>obtain⟨t,n⟩:=p;exact hf _
theorem bind_assoc'{β γ:Type}(s:Sem α)(f:α->Sem β)(g:β->Sem γ):(s >>=f) >>=g=s >>=fun a=>f a >>=g:=by
 show(s.bind f).bind g=s.bind fun a=>(f a).bind g
 induction s with
 |pure a=>rfl
 |halt h=>rfl
 |load m a k ih=>exact congrArg (Sem.load m a) (funext fun v=>ih v)
 |store m a v k ih=>exact congrArg (Sem.store m a v) ih
 |new o k ih=>exact congrArg (Sem.new o) (funext fun v=>ih v)
 |shape r k ih=>exact congrArg (Sem.shape r) (funext fun v=>ih v)
 |freeze a n k ih=>exact congrArg (Sem.freeze a n) ih
 |frozen a k ih=>exact congrArg (Sem.frozen a) (funext fun v=>ih v)
 |getObj r k ih=>exact congrArg (Sem.getObj r) (funext fun v=>ih v)
 |setObj r o k ih=>exact congrArg (Sem.setObj r o) ih
 |choose q k ih=>exact congrArg (Sem.choose q) (funext fun v=>ih v)
 |sys c k ih=>exact congrArg (Sem.sys c) (funext fun v=>ih v)
 |program k ih=>exact congrArg Sem.program (funext fun v=>ih v)
 |mark m k ih=>exact congrArg (Sem.mark m) ih
theorem Fn0(a:Addr)(hf:∀b,dead P (f b)):dead P (frozen a >>=f):=fun b=>hf b
theorem in1(size Iz0 n:Nat)(base:Option Addr)(x:Value)(hf:∀b,dead P (f b)):dead P (Builtin.mayShare size Iz0 n base x >>=f):=by
 have h2:∀y:Value,dead P ((match y with| .slice (some b) _ _=>(do pure (!(<- Builtin.holdsCells b (n*size)) ||base.any (·.block==b.block)):Sem Bool)|_=>pure false) >>=f):=by
  intro y;split
  ·rw[bind_assoc'];exact Db0 _ _ fun b=>hf _
  ·exact hf _
 unfold Builtin.mayShare;cases base with
 |none=>exact h2 x
 |some a=>
  simp only[bind_assoc'];refine Db0 _ _ fun b=>?_;refine Fn0 _ fun c=>?_;cases b <;> cases c <;> first|exact hf _|exact h2 x
theorem Fo0(size Iz0 n:Nat)(base:Option Addr)(x:Value)(hf:∀b,dead P (f b))(hg:∀b,S0 P (f b)):S0 P (Builtin.mayShare size Iz0 n base x >>=f):=by
 have h2:∀y:Value,S0 P ((match y with| .slice (some b) _ _=>(do pure (!(<- Builtin.holdsCells b (n*size)) ||base.any (·.block==b.block)):Sem Bool)|_=>pure false) >>=f):=by
  intro y;split
  ·rw[bind_assoc'];intro s;cases s with
   |none=>exact hf _
   |some p=>obtain⟨t,n⟩:=p;exact hf _
  ·exact hg _
 have h3:∀y:Value,dead P ((match y with| .slice (some b) _ _=>(do pure (!(<- Builtin.holdsCells b (n*size)) ||base.any (·.block==b.block)):Sem Bool)|_=>pure false) >>=f):=by
  intro y;split
  ·rw[bind_assoc'];exact Db0 _ _ fun b=>hf _
  ·exact hf _
 unfold Builtin.mayShare;cases base with
 |none=>exact h2 x
 |some a=>
  simp only[bind_assoc'];intro s;cases s with
  |none=>
   intro d;cases d <;> exact hf true
  |some p=>
   obtain⟨t,m⟩:=p;intro d;show dead P ((if(!((a.spot.isNone&&decide (a.off+Iz0*size <=m)) && !d))=true then(pure true:Sem Bool) else _) >>=f);cases(a.spot.isNone&&decide (a.off+Iz0*size <=m)) <;> cases d <;> first|exact hf _|exact h3 x
theorem al1(size Iz0 n:Nat)(base:Option Addr)(x:Value)(u:Unsupported):S0 P (Builtin.mayShare size Iz0 n base x >>=fun b=>(if(!b)=true then(mark .noRoom >>=fun _=>(unsupported u:Sem α)) else(unsupported u:Sem α))):=by
 refine Fo0 _ _ _ _ _ (fun b=>?_) (fun b=>?_)
 ·cases b
  ·exact gl0 (P:=P) (α:=α) u
  ·exact gl0 (P:=P) (α:=α) u
 ·cases b
  ·show(if Im0 Mark.noRoom=true then S0 P ((Sem.pure ()).bind fun _=>(unsupported u:Sem α)) else _);exact trivial
  ·exact trivial
theorem r8{c:Prop}[Decidable c]{a b:Sem α}(ha:S0 P a)(hb:S0 P b):S0 P (if c then a else b):=by split <;> assumption
end
attribute [local irreducible] S0 dead
theorem Se0{P:Program}(a:Array TypeId)(t:TypeId)(x:Array Value):S0 P (Builtin.append_ a t x):=by
 unfold Builtin.append_
 repeat' (first|exact M0 _|exact E3 _|exact al1 _ _ _ _ _ _|exact in0 _ _ _|exact Cs0 _|exact D4 _ _ _|exact P7 _ _|exact I3 _|exact u5 _|exact M1 _|exact J9 _|exact C2 _|exact n7 _|exact N6 _|exact Q4 _|(refine O0 ?_ (fun _=>?_))|(refine r8 ?_ ?_)|split)
end
end Go.Yc
end
section
namespace Go.Yc
open Go Go.Vc
section
def pg1(o:Oper):Bool:=match o.op with
 | .move _| .assign _| .pick .. | .alloc _| .box .. | .build .. | .buildSlice .. | .load .. | .store .. | .indexAddr .. | .extract .. | .field .. | .makeInterface .. | .makeFunc .. | .makeChan .. | .makeSlice .. | .slice .. | .unOp ..=>true
 | .call c=>match c.callee with
  | .builtin b=>(match b with| .len| .cap| .append| .copy=>true|_=>false)
  |_=>false
 |_=>false
attribute [local irreducible] S0 dead
theorem t_v{P:Program}{s:Sem Value}(h:S0 P s):S0 P (do pure (.value (<- s)):Sem Next):=O0 h fun _=>M0 _
theorem t_u{P:Program}{s:Sem Unit}(h:S0 P s):S0 P (do s;pure .skip:Sem Next):=O0 h fun _=>M0 _
theorem N1{P:Program}{o:Oper}(h:pg1 o=true)(ρ:Operand->Value):S0 P (execOp ρ o):=by
 unfold pg1 at h;unfold execOp;cases ho:o.op <;> rw[ho]at h <;> try(cases h;done)
 case move x=>exact M0 _
 case assign x=>exact M0 _
 case pick c a b=>exact O0 (an0 _) fun _=>M0 _
 case alloc e=>exact t_v (ez0 _ _ _)
 case box e x=>exact t_v (pq0 _ _)
 case build t p=>exact t_v (fa0 _ _)
 case buildSlice t n p=>exact t_v (P6 _ _ _)
 case load t a=>exact t_v (ci0 _ _)
 case store t a x=>exact t_u (V9 _ _ _)
 case indexAddr t x i=>exact t_v (W9 _ _ _)
 case extract x i=>exact t_v (X9 _ _)
 case field t x f=>exact t_v (fb0 _ _ _)
 case makeInterface t x=>exact t_v (z5 _ _)
 case makeFunc f a b=>exact t_v (M0 _)
 case makeChan t x=>exact t_v (E8 _ _)
 case makeSlice t a b=>exact t_v (z7 _ _ _)
 case slice t x a b c=>exact t_v (Y9 _ _ _ _ _)
 case unOp op t x=>exact t_v (Ls0 _ _)
 case call c=>
  obtain⟨callee,args,aT⟩:=c;simp only at h;cases callee with
  |builtin b=>
   simp only at h;cases b <;> try(cases h;done)
   ·exact t_v (Se0 _ _ _)
   ·exact t_v (pc1 _ _ _)
   ·exact t_v (ih1 _ _ _)
   ·exact t_v (Rs0 _ _ _)
  |_=>cases h
end
section
section
variable{P:Program}{α:Type}{t:TypeId}
theorem fd1{s t:Sem α}(h:s=t)(ht:S0 P t):S0 P s:=h▸ht
theorem nf0{f:Program->Sem α}(h:S0 P (f P)):S0 P (program >>=f):=h
theorem W6{f:TypeDesc->Sem α}{u:TypeDesc}(hT:P.underlying t=some u)(h:S0 P (f u)):S0 P (underlying t >>=f):=by
 show S0 P (((match P.underlying t with|some d=>pure d|none=>stuck "no such type":Sem TypeDesc)).bind f);rw[hT];exact h
theorem Sf0{f:TypeInfo->Sem α}{i:TypeInfo}(hT:P.info? t=some i)(h:S0 P (f i)):S0 P (typeInfo t >>=f):=by
 show S0 P (((match P.info? t with|some d=>pure d|none=>stuck "no such type":Sem TypeInfo)).bind f);rw[hT];exact h
theorem Sg0{f:Nat->Sem α}{s:Nat}(hT:(P.info? t).map (·.size)=some s)(h:S0 P (f s)):S0 P (sizeOf t >>=f):=by
 cases hi:P.info? t with
 |none=>rw[hi]at hT;cases hT
 |some i=>
  rw[hi]at hT;obtain rfl:=Option.some.inj hT;unfold sizeOf;rw[bind_assoc'];exact Sf0 hi h
end
attribute [local irreducible] S0 dead
section
variable{P:Program}{ρ:Operand->Value}{d:Option Nat}{ty:TypeId}{ps:String}{af:Array Edge}{g:Option (Nat×Bool)}{x y:Operand}{T T':TypeId}{op:BinOp}
section
variable{a b:ByteArray}{κ κ':IntKind}{m k:Int}
theorem fj0{a b:Value}(hx:ρ x=a)(hy:ρ y=b)(h1:S0 P (eqGuard op T x y a b))(h2:S0 P (binOp op T a b)):S0 P (execOp ρ ⟨d,.binOp op T x y T',ty,ps,af,g⟩):=by
 show S0 P (do pure (.value (<- (do eqGuard op T x y (ρ x) (ρ y);binOp op T (ρ x) (ρ y)))):Sem Next);rw[hx,hy];exact t_v (O0 h1 fun _=>h2)
theorem iv0{a b:Value}(hb:∀c,b≠.agg c)(hn:b≠.nilIface):S0 P (eqGuard op T x y a b):=by
 unfold eqGuard;refine r8 (M0 _) ?_;split
 ·exact absurd rfl hn
 ·exact absurd rfl (hb _)
 ·exact M0 _
theorem Sh0:S0 P (binOp op T (.int κ m) (.int κ' k)):=by
 cases op <;> simp only[binOp,Op.shift,Op.intArith,Op.intDiv,Op.intBits,Op.intCmp] <;> (repeat' (first|exact M0 _|exact C2 _|exact C4 _|exact j2 _|(refine r8 ?_ ?_)|split))
theorem r7(hx:ρ x= .int κ m)(hy:ρ y= .int κ' k):S0 P (execOp ρ ⟨d,.binOp op T x y T',ty,ps,af,g⟩):=fj0 hx hy (iv0 Uy Uz) Sh0
theorem Si0:S0 P (binOp op T (.string a) (.string b)):=by
 cases op <;> simp only[binOp,Op.stringOp] <;> (repeat' (first|exact M0 _|exact C2 _|exact C4 _|exact j2 _|(refine r8 ?_ ?_)|split))
theorem Sj0(hx:ρ x= .string a)(hy:ρ y= .string b):S0 P (execOp ρ ⟨d,.binOp op T x y T',ty,ps,af,g⟩):=fj0 hx hy (iv0 Uy Uz) Si0
end
def ma0:Value->Bool
 | .pointer (some _)| .agg _| .iface ..=>false
 |_=>true
section
variable{n:Nat}{a q:Option Addr}{b v:Value}
theorem dq0{a:Value}(hb:ma0 b=true):S0 P (Op.equalIn (n+1) T a b):=by
 unfold Op.equalIn;refine O0 (M1 _) fun u=>?_;split <;> first
  |exact M0 _|exact C4 _|exact j2 _
  |(exact r8 (M0 _) (C4 _))
  |(cases hb;done)
  |(unfold samePointer;split <;> first|(cases hb;done)|exact M0 _)
  |skip
theorem Dc0{a:Value}(h:S0 P (Op.equal T a b))(h1:binOp .eql T a b=(do pure (.bool (<- Op.equal T a b)):Sem Value)):S0 P (binOp .eql T a b):=by rw[h1];exact O0 h fun _=>M0 _
theorem Ly0{a:Value}(h:S0 P (Op.equal T a b))(h1:binOp .neq T a b=(do pure (.bool (!(<- Op.equal T a b))):Sem Value)):S0 P (binOp .neq T a b):=by rw[h1];exact O0 h fun _=>M0 _
theorem Ja0(hx:ρ x= .pointer q)(hy:ρ y= .pointer none):S0 P (execOp ρ ⟨d,.binOp .eql T x y T',ty,ps,af,g⟩):=fj0 hx hy (iv0 Uy Uz) (Dc0 (dq0 rfl) rfl)
theorem Fp0(hx:ρ x= .pointer q)(hy:ρ y= .pointer none):S0 P (execOp ρ ⟨d,.binOp .neq T x y T',ty,ps,af,g⟩):=fj0 hx hy (iv0 Uy Uz) (Ly0 (dq0 rfl) rfl)
theorem Om0(hv:v= .nilFunc\/∃f xs ys,v= .func f xs ys)(hx:ρ x=v)(hy:ρ y= .nilFunc):S0 P (execOp ρ ⟨d,.binOp .eql T x y T',ty,ps,af,g⟩):=
 fj0 hx hy (iv0 Uy Uz) (Dc0 (dq0 rfl) (by rcases hv with rfl|⟨f,xs,ys,rfl⟩ <;> rfl))
theorem Jb0(hv:v= .nilFunc\/∃f xs ys,v= .func f xs ys)(hx:ρ x=v)(hy:ρ y= .nilFunc):S0 P (execOp ρ ⟨d,.binOp .neq T x y T',ty,ps,af,g⟩):=
 fj0 hx hy (iv0 Uy Uz) (Ly0 (dq0 rfl) (by rcases hv with rfl|⟨f,xs,ys,rfl⟩ <;> rfl))
theorem On0{c:Nat}(hx:ρ x= .slice a n c)(hy:ρ y= .slice none 0 0):S0 P (execOp ρ ⟨d,.binOp .eql T x y T',ty,ps,af,g⟩):=fj0 hx hy (iv0 Uy Uz) (Dc0 (dq0 rfl) rfl)
theorem Jc0{p:Option Addr}(hx:ρ x= .pointer p):S0 P (execOp ρ ⟨d,.nilCheck x,ty,ps,af,g⟩):=by
 unfold execOp;simp only[hx];cases p <;> first|exact C2 _|exact M0 _
theorem Fq0{S:TypeId}{f:Nat}{fs:Array Field}{fl:Field}{s:Nat}(hx:ρ x= .pointer a)(hT:P.underlying S=some (.struct fs))(hf:fs[f]? =some fl)(hs:(P.info? fl.type).map (·.size)=some s)(h0:s≠0):S0 P (execOp ρ ⟨d,.fieldAddr S x f,ty,ps,af,g⟩):=by
 unfold execOp;simp only[hx];refine t_v ?_;unfold Instr.fieldAt;refine W6 hT ?_;simp only[hf];refine O0 (b6 _) fun a=>?_;unfold fieldPlace;rw[bind_assoc'];refine Sg0 hs ?_;rw[if_neg h0];exact M0 _
theorem cc0{f:FuncId}{first cap:Array Value}{fn:Func}{xs:Array Operand}{aT:Array TypeId}(hx:ρ x= .func (.func f) first cap)(hf:P.funcs[f]? =some fn)(hb:fn.body.isSome=true)(hn:Ue fn):S0 P (execOp ρ ⟨d,.call ⟨.value x,xs,aT⟩,ty,ps,af,g⟩):=by
 show S0 P (do let d <- Deferred.ofValue (ρ x) (xs.map ρ);invoke d.target d.args);rw[hx];show S0 P (callFunc f (first++xs.map ρ++cap));unfold callFunc;refine nf0 ?_;rw[hf];simp only[hn,Bool.false_eq_true,if_false];have:fn.body.isNone=false:=by cases h:fn.body <;> simp_all
 simp only[this,Bool.false_eq_true,if_false];exact M0 _
end
end
end
section
attribute [local irreducible] S0 dead
section
variable{P:Program}{α β:Type}
theorem gn0{P:Program}{α β:Type}{f:α->β->Sem (ForInStep β)}(h:∀a b,S0 P (f a b)):∀(l:List α)(b:β),S0 P (forIn l b f)
 | [],b=>by rw[List.forIn_nil];exact M0 _
 |a::l,b=>by
  rw[List.forIn_cons];refine O0 (h a b) fun r=>?_;cases r with
  |done b=>exact M0 _
  |yield b=>exact gn0 h l b
theorem sq0{f:α->β->Sem (ForInStep β)}(h:∀a b,S0 P (f a b))(l:Array α)(b:β):S0 P (forIn l b f):=by
 rw[<- Array.forIn_toList];exact gn0 h _ _
theorem Sk0{f:Nat->β->Sem (ForInStep β)}(h:∀a b,S0 P (f a b))(r:Std.Legacy.Range)(b:β):S0 P (forIn r b f):=by
 rw[Std.Legacy.Range.forIn_eq_forIn_range'];exact gn0 h _ _
theorem Dd0{t:TypeId}{cs:Array Value}{off:Nat}{f:Value->Sem α}(h1:∀s,S0 P (f (.agg (cs.extract off (off+s)))))(h2:∀v,v∈cs->S0 P (f v)):S0 P (part t cs off >>=f):=by
 unfold part;rw[bind_assoc'];refine O0 (ak0 _) fun b=>?_;cases b with
 |true=>
  simp only[if_true];rw[bind_assoc'];exact O0 (Q4 _) fun s=>h1 s
 |false=>
  simp only[Bool.false_eq_true,if_false];cases hc:cs[off]? with
  |none=>exact(E3 _:S0 P (Sem.halt (Halt.stuck "part: no such cell"):Sem α))
  |some v=>exact h2 v (Array.mem_of_getElem? hc)
end
def fe1(v:Value):Prop:=ma0 v=true\/∃cs:Array Value,v= .agg cs/\∀c∈cs,ma0 c=true
theorem sr0{cs:Array Value}(h:∀c∈cs,ma0 c=true)(a b:Nat):fe1 (.agg (cs.extract a b)):=.inr ⟨_,rfl,fun c hc=>h c (by
 obtain⟨i,hi,rfl⟩:=Array.mem_iff_getElem.1 hc;simp)⟩
theorem ck0{P:Program}:∀(n:Nat)(T:TypeId)(a b:Value),fe1 b->S0 P (Op.equalIn n T a b)
 |0,_,_,_,_=>by unfold Op.equalIn;exact j2 _
 |n+1,T,a,b,hb=>by
  rcases hb with hb|⟨cs,rfl,hcs⟩
  ·exact dq0 hb
  ·unfold Op.equalIn;refine O0 (M1 _) fun u=>?_;split <;> first
    |exact M0 _|exact C4 _|exact j2 _
    |(rename_i he;cases he;done)
    |skip
   ·rename_i he;obtain rfl:=Value.agg.inj he;refine O0 X5 fun p=>r8 (j2 _) (O0 (sq0 (fun f r=>?_) _ _) fun r=>?_)
    ·refine r8 ?_ (M0 _);refine O0 (am0 _ _ _) fun x=>Dd0 (fun s=>?_) (fun v hv=>?_)
     ·exact O0 (ck0 n _ _ _ (sr0 hcs _ _)) fun b=>r8 (M0 _) (M0 _)
     ·exact O0 (ck0 n _ _ _ (.inl (hcs v hv))) fun b=>r8 (M0 _) (M0 _)
    ·obtain⟨_|r,z⟩:=r <;> exact M0 _
   ·rename_i he;obtain rfl:=Value.agg.inj he;refine O0 (Q4 _) fun k=>O0 (Sk0 (fun f r=>?_) _ _) fun r=>?_
    ·refine O0 (am0 _ _ _) fun x=>Dd0 (fun s=>?_) (fun v hv=>?_)
     ·exact O0 (ck0 n _ _ _ (sr0 hcs _ _)) fun b=>r8 (M0 _) (M0 _)
     ·exact O0 (ck0 n _ _ _ (.inl (hcs v hv))) fun b=>r8 (M0 _) (M0 _)
    ·obtain⟨_|r,z⟩:=r <;> exact M0 _
section
variable{P:Program}{ρ:Operand->Value}{d:Option Nat}{ty:TypeId}{ps:String}{af:Array Edge}{g:Option (Nat×Bool)}{x y:Operand}{T T':TypeId}{op:BinOp}
section
variable{a b:Array Value}
theorem Jd0(hg:P.eqGuardType P.depth T=false):S0 P (eqGuard op T x y (.agg a) (.agg b)):=by
 unfold eqGuard;refine r8 (M0 _) ?_;simp only;refine nf0<|nf0 ?_;rw[hg];exact M0 _
theorem am1(hg:P.eqGuardType P.depth T=false)(hb:∀c∈b,ma0 c=true)(hx:ρ x= .agg a)(hy:ρ y= .agg b):S0 P (execOp ρ ⟨d,.binOp .eql T x y T',ty,ps,af,g⟩):=fj0 hx hy (Jd0 hg) (Dc0 (ck0 _ _ _ _ (.inr ⟨_,rfl,hb⟩)) rfl)
end
end
end
end Go.Yc
end
section
namespace Go.Vy
open Go Go.Conc Go.Yc
open Go.Vc (Env upd V3 ev upd_same upd_ne L0 Rep z6 lift x9 ao0 ag1 G3 pr0 c6 Ret hav bk0)
section
def W[Go.Vc.K3](P:Program)[Ctx P](n:Nat)(c:Code)(Q:Exit->Env->World->Prop)(e:Env)(w:World):Prop:=
 ∀a,Rep n a e->cwp P c (lift n Q) a w
section
variable{P:Program}[Ctx P]{n:Nat}{Q Q':Exit->Env->World->Prop}{e:Env}{w:World}
section
variable{c:Operand}{x y:Code}
theorem W.mono[Go.Vc.K3]{c:Code}(hq:∀x e w,Q x e w->Q' x e w)(h:W P n c Q e w):W P n c Q' e w:=
 fun a ha=>wp_mono (h a ha) fun x _ _ ⟨e',r,q⟩=>⟨e',r,hq x _ _ q⟩
theorem W.seq[Go.Vc.K3]{x y:Code}(h:W P n x (x9 (W P n y Q) Q) e w):W P n (.seq x y) Q e w:=by
 intro a ha;refine wp_seq (wp_mono (h a ha) ?_);rintro ex a' w' ⟨e',r,q⟩;cases ex with
 |normal=>exact q a' r
 |exit id=>exact⟨e',r,q⟩
 |goto l=>exact⟨e',r,q⟩
 |ret=>exact⟨e',r,q⟩
 |panic ch=>exact⟨e',r,q⟩
 |outgrown=>exact⟨e',r,q⟩
theorem W.skip[Go.Vc.K3](h:Q .normal e w):W P n .skip Q e w:=fun _ ha=>wp_skip ⟨e,ha,h⟩
theorem W.exit[Go.Vc.K3]{id:Nat}(h:Q (.exit id) e w):W P n (.exit id) Q e w:=fun _ ha=>wp_exit ⟨e,ha,h⟩
theorem W.ret[Go.Vc.K3](h:Q .ret e w):W P n .ret Q e w:=fun _ ha=>wp_ret ⟨e,ha,h⟩
theorem W.cond[Go.Vc.K3]{c:Operand}{x y:Code}{b:Bool}(hc:ev e c= .bool b)(ht:b=true->W P n x Q e w)(hf:b=false->W P n y Q e w):W P n (.cond c x y) Q e w:=by
 intro a ha;have hc':a.eval c= .bool b:=by rw[ha.eval];exact hc
 cases b
 ·exact wp_cond_false hc' (hf rfl a ha)
 ·exact wp_cond_true hc' (ht rfl a ha)
theorem W.m6[Go.Vc.K3]{p:Prop}[Decidable p](hc:ev e c= .bool (decide p))(ht:p->W P n x Q e w)(hf:¬p->W P n y Q e w):W P n (.cond c x y) Q e w:=
 W.cond hc (fun h=>ht (of_decide_eq_true h)) (fun h=>hf (of_decide_eq_false h))
theorem W.v8[Go.Vc.K3](hc:ev e c= .bool true)(ht:W P n x Q e w):W P n (.cond c x y) Q e w:=
 W.cond hc (fun _=>ht) Uz
theorem W.X6[Go.Vc.K3](hc:ev e c= .bool false)(hf:W P n y Q e w):W P n (.cond c x y) Q e w:=
 W.cond hc Uz (fun _=>hf)
theorem W.block[Go.Vc.K3]{id:Nat}{c:Code}(h:W P n c (ao0 id Q) e w):W P n (.block id c) Q e w:=by
 intro a ha;refine wp_block (wp_mono (h a ha) ?_);rintro ex a' w' ⟨e',r,q⟩;cases ex with
 |normal=>exact⟨e',r,q⟩
 |exit id'=>
  simp only[ao0]at q;simp only[Exit.inBlock];split
  ·rename_i h;rw[if_pos h]at q;exact⟨e',r,q⟩
  ·rename_i h;rw[if_neg h]at q;exact⟨e',r,q⟩
 |goto l=>exact⟨e',r,q⟩
 |ret=>exact⟨e',r,q⟩
 |panic ch=>exact⟨e',r,q⟩
 |outgrown=>exact⟨e',r,q⟩
theorem W.loop[Go.Vc.K3]{c:Code}(I:Nat->Env->World->Prop)(k₀:Nat)(h₀:I k₀ e w)
  (round:∀k e w,I k e w->W P n c (x9 (fun e' w'=>∃k',k'<k/\I k' e' w') Q) e w):W P n (.loop c) Q e w:=by
 intro a ha;refine wp_loop_ghost (fun k a w=>∃e,Rep n a e/\I k e w) k₀ ⟨e,ha,h₀⟩ ?_;rintro k a w ⟨e,ha,hI⟩;refine wp_mono (round k e w hI a ha) ?_;rintro ex a' w' ⟨e',r,q⟩;cases ex with
 |normal=>obtain⟨k',hk,hI'⟩:=q;exact⟨k',hk,e',r,hI'⟩
 |exit id=>exact⟨e',r,q⟩
 |goto l=>exact⟨e',r,q⟩
 |ret=>exact⟨e',r,q⟩
 |panic ch=>exact⟨e',r,q⟩
 |outgrown=>exact⟨e',r,q⟩
theorem W.cut[Go.Vc.K3]{c:Code}{next:Env->World->Prop}(R:Env->World->Prop)(h:W P n c (x9 R Q) e w)(k:∀e' w',R e' w'->next e' w'):W P n c (x9 next Q) e w:=by
 refine W.mono ?_ h;intro x e w q;cases x <;> first|exact k _ _ q|exact q
end
def L[Go.Vc.K3](P:Program)[Ctx P](n:Nat)(ops:Array Oper)(Q:Exit->Env->World->Prop)(l:List Oper)(e:Env)(w:World):Prop:=
 (∀o∈l,z6 n o.dst=true)->∀a,Rep n a e->wpList P ops (lift n Q) l a w
theorem W.region[Go.Vc.K3]{id:Nat}{l:List Oper}(hB:ag1 n l=true)(h:L P n l.toArray Q l e w):W P n (.region id l.toArray false) Q e w:=
 fun a ha=>wp_region_lit (h (fun o ho=>List.all_eq_true.1 hB o ho) a ha)
variable{ops:Array Oper}{o:Oper}{rest:List Oper}{w':World}{v:Value}
theorem L.nil[Go.Vc.K3](h:Q .normal e w):L P n ops Q [] e w:=fun _ _ ha=>(⟨e,ha,h⟩:lift n Q .normal _ _)
def ph1[Go.Vc.K3](P:Program)[Ctx P](n:Nat)(ops:Array Oper)(Q:Exit->Env->World->Prop)(rest:List Oper)(o:Oper)(e:Env)(r:Out)(w':World):Prop:=match r with
 | .val v=>L P n ops Q rest (V3 e o.dst v) w'
 | .skip=>L P n ops Q rest (V3 e o.dst undef) w'
 | .enter f args=>Calls P f args w' fun
  | .returned v,w''=>L P n ops Q rest (V3 e o.dst v) w''
  | .panicked chain,w''=>Q (.panic chain) e w''
  | .outgrown,_=>False
 | .panic v=>Q (.panic [{v,recovered:=false}]) e w'
theorem L.op'[Go.Vc.K3]{K:Out->World->Prop}(hw:Region.wanted o (G3 ops e)=true)(hr:∀τ d,∃r w',Fg0 P (execOp (ev e) o) (G2 w τ d) r w'/\K r (G2 w' w.tape w.drawn))(k:∀r w',K r w'->ph1 P n ops Q rest o e r w'):L P n ops Q (o::rest) e w:=by
 intro hd a ha;have R6:∀o∈rest,z6 n o.dst=true:=fun o' ho'=>hd o' (List.mem_cons_of_mem _ ho');have hdo:=hd o List.mem_cons_self;unfold wpList;rw[c6 ha,if_pos hw];intro τ d;rw[ha.eval];obtain⟨r,w',h1,h2⟩:=hr τ d;refine⟨r,w',h1,?_⟩;have:=k r _ h2;cases r with
 |val v=>exact this R6 _ (ha.put hdo v)
 |skip=>exact this R6 _ (ha.put hdo undef)
 |enter f args=>
  refine Calls.mono this fun x w'' hx=>?_;cases x with
  |returned v=>exact hx R6 _ (ha.put hdo v)
  |panicked ch=>exact⟨e,ha,hx⟩
  |outgrown=>exact hx
 |panic v=>exact⟨e,ha,this⟩
theorem L.Sl0[Go.Vc.K3]{r:Out}(hw:Region.wanted o (G3 ops e)=true)(hr:Does P (execOp (ev e) o) w r w')(k:ph1 P n ops Q rest o e r w'):L P n ops Q (o::rest) e w:=by
 refine L.op' (K:=fun r' w1=>r'=r/\w1=w') hw (fun τ d=>⟨r,G2 w' τ d,hr.go τ d,rfl,?_⟩) ?_
 ·rw[<- hr.tape,<- hr.drawn];rfl
 ·rintro r' w1 ⟨rfl,rfl⟩;exact k
theorem L.pi1[Go.Vc.K3](hw:Region.wanted o (G3 ops e)=true)(hr:Does P (execOp (ev e) o) w (.val v) w')(k:L P n ops Q rest (V3 e o.dst v) w'):L P n ops Q (o::rest) e w:=L.Sl0 hw hr k
theorem L.pj1[Go.Vc.K3](hw:Region.wanted o (G3 ops e)=true)(hr:Does P (execOp (ev e) o) w .skip w')(k:L P n ops Q rest (V3 e o.dst undef) w'):L P n ops Q (o::rest) e w:=L.Sl0 hw hr k
theorem L.io1[Go.Vc.K3](hw:Region.wanted o (G3 ops e)=true)(hr:Does P (execOp (ev e) o) w (.panic v) w')(k:Q (.panic [{v,recovered:=false}]) e w'):L P n ops Q (o::rest) e w:=L.Sl0 hw hr k
theorem L.off[Go.Vc.K3](hw:Region.wanted o (G3 ops e)=false)(k:L P n ops Q rest (V3 e o.dst undef) w):L P n ops Q (o::rest) e w:=by
 intro hd a ha;unfold wpList;rw[c6 ha,hw];exact k (fun o' ho'=>hd o' (List.mem_cons_of_mem _ ho')) _ (ha.put (hd o List.mem_cons_self) undef)
def C(P:Program)[Ctx P](f:FuncId)(args:Array Value)(w:World)(R:Value->World->Prop):Prop:=Calls P f args w (Ret R)
section
variable{f:FuncId}{args:Array Value}
theorem C.mono{f:FuncId}{args:Array Value}{R R':Value->World->Prop}(h:C P f args w R)(hr:∀v w,R v w->R' v w):C P f args w R':=
 Calls.mono h fun e w' he=>by cases e <;> first|exact hr _ _ he|exact he
theorem L.pk1[Go.Vc.K3]{R:Value->World->Prop}(hw:Region.wanted o (G3 ops e)=true)(hr:Does P (execOp (ev e) o) w (.enter f args) w')
  (hc:C P f args w' R) (k:∀v w',R v w'->L P n ops Q rest (V3 e o.dst v) w'):L P n ops Q (o::rest) e w:=
 L.Sl0 hw hr (Calls.mono hc fun x w' hx=>by cases x <;> first|exact k _ _ hx|exact hx.elim)
theorem L.Y2[Go.Vc.K3]{R:Ending->World->Prop}(hw:Region.wanted o (G3 ops e)=true)(hr:Does P (execOp (ev e) o) w (.enter f args) w')
  (hc:Calls P f args w' R) (k:∀v w',R (.returned v) w'->L P n ops Q rest (V3 e o.dst v) w') (kp:∀ch w',R (.panicked ch) w'->Q (.panic ch) e w') (ko:∀w',¬R .outgrown w'):L P n ops Q (o::rest) e w:=
 L.Sl0 hw hr (Calls.mono hc fun x w' hx=>by cases x <;> first|exact k _ _ hx|exact kp _ _ hx|exact ko _ hx)
end
end
section
variable{P:Program}[Ctx P]{n:Nat}{Q:Exit->Env->World->Prop}{e:Env}{w w':World}{ops:Array Oper}{rest:List Oper}{v:Value}
variable{d:Nat}{op:Op}{ty:TypeId}{ps:String}{af:Array Edge}
theorem L.va[Go.Vc.K3](hr:Does P (execOp (ev e) ⟨some d,op,ty,ps,af,none⟩) w (.val v) w')(k:L P n ops Q rest (upd e d v) w'):L P n ops Q (⟨some d,op,ty,ps,af,none⟩::rest) e w:=
 L.pi1 rfl hr k
theorem L.va0[Go.Vc.K3](hr:Does P (execOp (ev e) ⟨none,op,ty,ps,af,none⟩) w (.val v) w')(k:L P n ops Q rest e w'):L P n ops Q (⟨none,op,ty,ps,af,none⟩::rest) e w:=
 L.pi1 rfl hr k
theorem L.st[Go.Vc.K3](hr:Does P (execOp (ev e) ⟨none,op,ty,ps,af,none⟩) w .skip w')(k:L P n ops Q rest e w'):L P n ops Q (⟨none,op,ty,ps,af,none⟩::rest) e w:=
 L.pj1 rfl hr k
theorem L.call[Go.Vc.K3]{f:FuncId}{args:Array Value}{R:Value->World->Prop}(hr:Does P (execOp (ev e) ⟨some d,op,ty,ps,af,none⟩) w (.enter f args) w)
  (hc:C P f args w R) (k:∀v w',R v w'->L P n ops Q rest (upd e d v) w'):L P n ops Q (⟨some d,op,ty,ps,af,none⟩::rest) e w:=
 L.pk1 rfl hr hc k
variable{dst:Option Nat}{j:Nat}{want:Bool}
theorem L.on[Go.Vc.K3](hw:G3 ops e j=some want)(k:L P n ops Q (⟨dst,op,ty,ps,af,none⟩::rest) e w):L P n ops Q (⟨dst,op,ty,ps,af,some (j,want)⟩::rest) e w:=by
 intro hd a ha;have:=k (fun o ho=>by
  rcases List.mem_cons.1 ho with rfl|ho
  ·exact(hd ⟨dst,op,ty,ps,af,some (j,want)⟩ List.mem_cons_self:z6 n dst=true)
  ·exact hd _ (List.mem_cons_of_mem _ ho)) a ha
 unfold wpList at this⊢;rw[c6 ha]at this⊢;have h1:Region.wanted ⟨dst,op,ty,ps,af,some (j,want)⟩ (G3 ops e)=true:=by simp[Region.wanted,hw]
 have h2:Region.wanted ⟨dst,op,ty,ps,af,none⟩ (G3 ops e)=true:=rfl;rw[if_pos h1];rw[if_pos h2]at this;exact this
end
section
variable{P:Program}[Ctx P]{n:Nat}{Q:Exit->Env->World->Prop}{e:Env}{w:World}{ops:Array Oper}
theorem fk0{Q1 Q2:Exit->Act->World->Prop}(hq:∀x a w,Q1 x a w->Q2 x a w):∀(l:List Oper)(a:Act)(w:World),wpList P ops Q1 l a w->wpList P ops Q2 l a w
 | [],_,_,h=>hq _ _ _ h
 |o::l,a,w,h=>by
  unfold wpList at h⊢;split
  ·rename_i hw;rw[if_pos hw]at h;exact ky0 (fun a w=>fk0 hq l a w) hq h
  ·rename_i hw;rw[if_neg hw]at h;exact fk0 hq l _ _ h
theorem y9{Q':Exit->Act->World->Prop}:∀(l1 l2:List Oper)(a:Act)(w:World),wpList P ops (Exit.then (wpList P ops Q' l2) Q') l1 a w->wpList P ops Q' (l1++l2) a w
 | [],_,_,_,h=>h
 |o::l1,l2,a,w,h=>by
  show wpList P ops Q' (o::(l1++l2)) a w;unfold wpList at h⊢;split
  ·rename_i hw;rw[if_pos hw]at h;intro τ d;obtain⟨r,w',h1,h2⟩:=h τ d;refine⟨r,w',h1,?_⟩;cases r with
   |val v=>exact y9 l1 l2 _ _ h2
   |skip=>exact y9 l1 l2 _ _ h2
   |enter f args=>exact Calls.mono h2 fun x w'' hx=>by cases x <;> first|exact y9 l1 l2 _ _ hx|exact hx
   |panic v=>exact h2
  ·rename_i hw;rw[if_neg hw]at h;exact y9 l1 l2 _ _ h
theorem L.cut[Go.Vc.K3](k:Nat)(R:Env->World->Prop){l:List Oper}(h1:L P n ops (x9 R Q) (l.take k) e w)(h2:∀e' w',R e' w'->L P n ops Q (l.drop k) e' w'):L P n ops Q l e w:=by
 intro hd a ha;rw[<- List.take_append_drop k l]at hd⊢;refine y9 _ _ _ _ (fk0 ?_ _ _ _ (h1 (fun o ho=>hd o (List.mem_append_left _ ho)) a ha));rintro x a' w' ⟨e',r,q⟩;cases x with
 |normal=>exact h2 e' w' q (fun o ho=>hd o (List.mem_append_right _ ho)) a' r
 |exit id=>exact⟨e',r,q⟩
 |goto l=>exact⟨e',r,q⟩
 |ret=>exact⟨e',r,q⟩
 |panic ch=>exact⟨e',r,q⟩
 |outgrown=>exact⟨e',r,q⟩
theorem L.meet[Go.Vc.K3](k:Nat)(G:List Nat)(d:Nat)(v:Value){l:List Oper}(h1:L P n ops (x9 (fun e' w'=>w'=w/\e' d=v/\bk0 G e' e) Q) (l.take k) e w)(h2:∀f,L P n ops Q (l.drop k) (upd (hav G f e) d v) w):L P n ops Q l e w:=by
 refine L.cut k _ h1 ?_;rintro e' w' ⟨rfl,hd,hA⟩;obtain⟨f,hf⟩:=hA.out;rw[L0 hd,hf];exact h2 f
end
end
end Go.Vy
end
section
namespace Go.Vy
open Go Go.Conc Go.Yc
open Go.Vc
def mb0(P:Program)[Ctx P](J:(Nat->Bool)->World->Prop)(i:Nat)(v:Value)(D:Nat->Bool)(S:Sem Next)(w:World):Prop:=
 (∃w',Does P S w (.val v) w'/\J (E4 D i) w')\/(v=undef/\∃w',Does P S w .skip w'/\J (E4 D i) w') \/
 ∃f args w',Does P S w (.enter f args) w'/\C P f args w' (fun r w''=>r=v/\J (E4 D i) w'')
theorem ss0{P:Program}[Ctx P]{J:(Nat->Bool)->World->Prop}{i:Nat}{v:Value}{D:Nat->Bool}{o:Oper}{a:Act}{w:World}{next:Act->World->Prop}{Q:Exit->Act->World->Prop}(h:mb0 P J i v D (execOp a.eval o) w)(hn:∀w',J (E4 D i) w'->next (a.put o.dst v) w'):vq0 P o a w next Q:=by
 rcases h with⟨w',h1,h2⟩|⟨rfl,w',h1,h2⟩|⟨f,args,w',h1,h2⟩
 ·exact bp0 h1 (hn w' h2)
 ·exact bp0 h1 (hn w' h2)
 ·refine bp0 h1 (Calls.mono h2 fun x w'' hx=>?_);cases x with
  |returned u=>obtain⟨rfl,hx⟩:=hx;exact hn w'' hx
  |panicked ch=>exact hx.elim
  |outgrown=>exact hx.elim
theorem mb0.mono{P:Program}[Ctx P]{J J':(Nat->Bool)->World->Prop}{i:Nat}{v:Value}{D:Nat->Bool}{S:Sem Next}{w:World}(h:mb0 P J i v D S w)(hj:∀w',J (E4 D i) w'->J' (E4 D i) w'):mb0 P J' i v D S w:=by
 rcases h with⟨w',h1,h2⟩|⟨rfl,w',h1,h2⟩|⟨f,args,w',h1,h2⟩
 ·exact .inl ⟨w',h1,hj _ h2⟩
 ·exact .inr (.inl ⟨rfl,w',h1,hj _ h2⟩)
 ·exact .inr (.inr ⟨f,args,w',h1,C.mono h2 fun r w'' h=>⟨h.1,hj _ h.2⟩⟩)
def Loc(P:Program)[Ctx P](ops:Array Oper)(V:(Nat->Bool)->Prop)(J:(Nat->Bool)->World->Prop)(i:Nat)(o:Oper)(e:Env)(v:Value):Prop:=
 (Region.wanted o (G3 ops e)=true/\∀D w,D i=false->(V D/\V (E4 D i))->j6 o D->J D w->mb0 P J i v D (execOp (ev e) o) w) \/
 (Region.wanted o (G3 ops e)=false/\v=undef/\∀D w,D i=false->(V D/\V (E4 D i))->j6 o D->J D w->J (E4 D i) w)
def JL(P:Program)[Ctx P](ops:Array Oper)(V:(Nat->Bool)->Prop)(J:(Nat->Bool)->World->Prop)(Q:Env->Prop):Nat->List Oper->Env->Prop
 |_,[],e=>Q e
 |i,o::rest,e=>∃v,Loc P ops V J i o e v/\JL P ops V J Q (i+1) rest (V3 e o.dst v)
section
variable{P:Program}[Ctx P]{ops:Array Oper}{V:(Nat->Bool)->Prop}{J:(Nat->Bool)->World->Prop}{n:Nat}
theorem JL.collect{Q:Env->Prop}:∀(l:List Oper)(i:Nat)(e:Env),JL P ops V J Q i l e ->
  ∃vals:Nat->Value,(∀k o,l[k]? =some o->Loc P ops V J (i+k) o (EE e l vals k) (vals k))/\Q (EE e l vals l.length)
 | [],_,_,h=>⟨fun _=>undef,fun k o ho=>by simp at ho,h⟩
 |o::l,i,e,⟨v,hl,h⟩=>by
  obtain⟨vals,h1,h2⟩:=JL.collect l (i+1) _ h;refine⟨fun k=>match k with|0=>v|k+1=>vals k,?_,?_⟩
  ·intro k p hp;cases k with
   |zero=>simp at hp;subst hp;exact hl
   |succ k=>
    rw[Ct0];have:=h1 k p (by simpa using hp);rw[show i+(k+1)=i+1+k by omega];exact this
  ·rw[List.length_cons,Ct0];exact h2
theorem an1[Go.Vc.K3](h:Ord n ops){e0:Env}{vals:Nat->Value}(Sm0:∀i o,ops[i]? =some o->Loc P ops V J i o (EE e0 ops.toList vals i) (vals i))
  {Q:Exit->Act->World->Prop} (hQ:∀a w D,Rep n a (EE e0 ops.toList vals ops.size)->(∀i,i<ops.size->D i=true)->J D w->Q .normal a w) :
  ∀{listed:Array Bool}{σ:List Nat},Lin ops listed σ->(∀τ ρ,σ=τ++ρ->V (fun k=>listed.getD k false ||τ.contains k)) ->
   ∀(a:Act)(e:Env)(w:World),listed.size=ops.size->Rep n a e->Mid ops e0 vals listed e->J (fun k=>listed.getD k false) w->wpOps P ops Q σ a w:=by
 have fin:∀(listed:Array Bool)(a:Act)(e:Env)(w:World),Rep n a e->Mid ops e0 vals listed e->J (fun k=>listed.getD k false) w->(∀i,i<ops.size->listed.getD i false=true)->Q .normal a w:=by
  intro listed a e w ha hm hJ ep0;have he:e=EE e0 ops.toList vals ops.size:=by
   funext t;have hl:∀j:Nat,ops.toList[j]? =ops[j]?:=fun j=>by rw[Array.getElem?_toList]
   by_cases hex:∃(j:Nat) (p:Oper),ops[j]? =some p/\p.dst=some t
   ·obtain⟨j,p,hp,hd⟩:=hex;have hjs:j<ops.size:=(Array.getElem?_eq_some_iff.1 hp).1;rw[hm.hit j p t hp hd (ep0 j hjs)];exact(Cu0 e0 ops.toList vals t j p (by rw[hl];exact hp) hd (fun i' p' hp' R6=>h.one i' j p' p t (by rw[<- hl];exact hp') hp R6 hd) _ hjs).symm
   ·have r9:∀(j:Nat)(p:Oper),ops[j]? =some p->p.dst≠some t:=fun j p hp hd=>hex ⟨j,p,hp,hd⟩;rw[hm.rt0 t (fun j p hp hd=>absurd hd (r9 j p hp))];exact(my0 e0 ops.toList vals t _ (fun j p _ hp=>r9 j p (by rw[<- hl];exact hp))).symm
  subst he;exact hQ a w _ ha ep0 hJ
 intro listed σ R5
 induction R5 with
 | @nil listed hr=>
  intro _ a e w hs ha hm hJ;exact fin listed a e w ha hm hJ (la0 h hs hr)
 | @cons listed i σ hi _ ih=>
  intro hV a e w hs ha hm hJ;obtain⟨h1,o,ho,P5⟩:=mem_ready.1 hi;have hio:i<ops.size:=(Array.getElem?_eq_some_iff.1 ho).1;have z8:i<listed.size:=by omega
  have hlk:=ru0 h hm ho P5;refine U347 ?_;intro hex hwa;have K9:(fun k=>listed.getD k false) i=false:=by
   show listed.getD i false=false;simp only[Array.getD_eq_getD_getElem?,z8,Array.getElem?_eq_getElem,Option.getD_some]at h1⊢;exact h1
  have hVD:V (fun k=>listed.getD k false):=by
   have:=hV [] (i::σ) rfl;have e1:(fun k=>listed.getD k false ||([]:List Nat).contains k)=fun k=>listed.getD k false:=funext fun k=>by simp
   rw[e1]at this;exact this
  have hVD:V (fun k=>listed.getD k false)/\V (E4 (fun k=>listed.getD k false) i):=by
   refine⟨hVD,?_⟩;have:=hV [i] σ rfl;have e1:(fun k=>listed.getD k false ||([i]:List Nat).contains k)=E4 (fun k=>listed.getD k false) i:=funext fun k=>by
    unfold E4;by_cases hk:k=i
    ·simp[hk]
    ·simp[hk]
   rw[e1]at this;exact this
  have hV':∀τ ρ,σ=τ++ρ->V (fun k=>(listed.setIfInBounds i true).getD k false ||τ.contains k):=by
   intro τ ρ hσ;have:=hV (i::τ) ρ (by rw[hσ];rfl);have e1:(fun k=>listed.getD k false ||(i::τ).contains k)=fun k=>(listed.setIfInBounds i true).getD k false ||τ.contains k:=by
    funext k;by_cases hk:i=k
    ·subst hk;simp[z8]
    ·rw[getD_set_ne false hk];simp[Ne.symm hk]
   rw[e1]at this;exact this
  have next:∀w',J (E4 (fun k=>listed.getD k false) i) w'->wpOps P ops Q σ (a.put o.dst (vals i)) w':=by
   intro w' hJ';refine ih hV' _ _ w' (by simp[hs]) (ha.put (h.dst i o ho) (vals i)) (hm.step h ho z8) ?_;rw[mz0 z8];exact hJ'
  unfold wpOps;rw[ho];simp only;rw[c6 ha,hwa];rcases Sm0 i o ho with⟨hw,hl⟩|⟨hw,hv,hl⟩
  ·rw[if_pos hw];have x8:=hl (fun k=>listed.getD k false) w K9 hVD P5 hJ;rw[<- hex,<- ha.eval]at x8;exact ss0 x8 next
  ·rw[if_neg (by rw[hw];simp)];rw[<- hv];exact next w (hl (fun k=>listed.getD k false) w K9 hVD P5 hJ)
theorem W.Ac0[Go.Vc.K3]{id:Nat}{l:List Oper}{Q:Exit->Env->World->Prop}{e:Env}{w:World}(hm:P.follows .mixedOrders=true)(hB:vs0 n l.toArray=true)
  (h:∀V:(Nat->Bool)->Prop,(∀D D',V D->V D'->(∀k,D k=true->D' k=true)\/(∀k,D' k=true->D k=true))->(∀D,V D->∀i o,l[i]? =some o->D i=true->j6 o D) ->
   ∃J:(Nat->Bool)->World->Prop,J (fun _=>false) w.drew/\JL P l.toArray V J (fun e'=>∀D w',(∀i,i<l.length->D i=true)->J D w'->Q .normal e' w') 0 l e):W P n (.region id l.toArray true) Q e w:=by
 intro a ha;have ho:=Iu0 hB;refine wp_region_draw fun t=>?_;simp only[Region.schedule,hm,Bool.true_or,if_true];have R5:=lw0 l.toArray l.toArray.size t (Array.replicate l.toArray.size false) (by simp) (by simp);unfold Region.linearise;generalize Region.linearise.go .any l.toArray l.toArray.size t (Array.replicate l.toArray.size false) []=σ at R5⊢;have iu0:=iq0 R5 (fun i o _ hi=>by rw[K0]at hi;cases hi) (by simp);obtain⟨J,hJ,hjl⟩:=h (Pre σ) (fun D D' h1 h2=>h1.chain h2) (by
  rintro D ⟨τ,ρ,hσ,hD⟩ i o hi K9 x hx hb;have:=iu0 τ ρ hσ i o (by simpa using hi) (.inr ((hD i).1 K9)) x hx hb;rcases this with h1|h1
  ·rw[K0]at h1;cases h1
  ·exact(hD _).2 h1)
 obtain⟨vals,h1,h2⟩:=JL.collect l 0 e hjl;refine an1 (V:=Pre σ) (J:=J) ho (e0:=e) (vals:=vals) (fun i o hi=>?_) (fun a' w' D ha' hD hJ'=>?_) R5 ?_ a e _ (by simp) ha ⟨fun j o t _ _ hl=>?_,fun t _=>rfl⟩ ?_
 ·have:=h1 i o (by simpa using hi);simpa using this
 ·exact⟨_,ha',h2 D w' (fun i hi=>hD i (by simpa using hi)) hJ'⟩
 ·intro τ ρ hσ;exact⟨τ,ρ,hσ,fun k=>by show((Array.replicate l.toArray.size false).getD k false ||τ.contains k)=true↔_;rw[K0];simp⟩
 ·rw[K0]at hl;cases hl
 ·have:(fun k=>(Array.replicate l.toArray.size false).getD k false)=fun _=>false:=funext fun k=>K0 _ _;rw[this];exact hJ
end
section
variable{P:Program}[Ctx P]
end
section
variable{P:Program}{ρ:Operand->Value}{w:World}{d:Option Nat}{ty:TypeId}{ps:String}{af:Array Edge}{g:Option (Nat×Bool)}
variable{x y z:Operand}
theorem G5:Does P (execOp ρ ⟨d,.move x,ty,ps,af,g⟩) w (.val (ρ x)) w:=
 .N0 (N1 rfl _) rfl rfl fun _τ _d=>Go.Vc.G5
theorem Q5:Does P (execOp ρ ⟨d,.assign x,ty,ps,af,g⟩) w (.val (ρ x)) w:=
 .N0 (N1 rfl _) rfl rfl fun _τ _d=>Go.Vc.Q5
theorem N3{κ:IntKind}{m:Int}(h:ρ x= .int κ m):Does P (execOp ρ ⟨d,.move x,ty,ps,af,g⟩) w (.val (.int κ m)) w:=
 .N0 (N1 rfl _) rfl rfl fun _τ _d=>Go.Vc.N3 (h:=h)
theorem fd0{κ:IntKind}{m:Int}(h:ρ x= .int κ m):Does P (execOp ρ ⟨d,.assign x,ty,ps,af,g⟩) w (.val (.int κ m)) w:=
 .N0 (N1 rfl _) rfl rfl fun _τ _d=>Go.Vc.fd0 (h:=h)
theorem n8{b:Bool}(h:ρ x= .bool b):Does P (execOp ρ ⟨d,.move x,ty,ps,af,g⟩) w (.val (.bool b)) w:=
 .N0 (N1 rfl _) rfl rfl fun _τ _d=>Go.Vc.n8 (h:=h)
theorem jm0{b:Bool}(h:ρ x= .bool b):Does P (execOp ρ ⟨d,.assign x,ty,ps,af,g⟩) w (.val (.bool b)) w:=
 .N0 (N1 rfl _) rfl rfl fun _τ _d=>Go.Vc.jm0 (h:=h)
theorem dx0{a:Option Addr}{n c:Nat}(h:ρ x= .slice a n c):Does P (execOp ρ ⟨d,.move x,ty,ps,af,g⟩) w (.val (.slice a n c)) w:=
 .N0 (N1 rfl _) rfl rfl fun _τ _d=>Go.Vc.dx0 (h:=h)
theorem kg0{a:Option Addr}{n c:Nat}(h:ρ x= .slice a n c):Does P (execOp ρ ⟨d,.assign x,ty,ps,af,g⟩) w (.val (.slice a n c)) w:=
 .N0 (N1 rfl _) rfl rfl fun _τ _d=>Go.Vc.kg0 (h:=h)
theorem D3{p:Option Addr}(h:ρ x= .pointer p):Does P (execOp ρ ⟨d,.move x,ty,ps,af,g⟩) w (.val (.pointer p)) w:=
 .N0 (N1 rfl _) rfl rfl fun _τ _d=>Go.Vc.D3 (h:=h)
theorem Z9{p:Option Addr}(h:ρ x= .pointer p):Does P (execOp ρ ⟨d,.assign x,ty,ps,af,g⟩) w (.val (.pointer p)) w:=
 .N0 (N1 rfl _) rfl rfl fun _τ _d=>Go.Vc.Z9 (h:=h)
theorem pt0{r:Option Nat}(h:ρ x= .map r):Does P (execOp ρ ⟨d,.move x,ty,ps,af,g⟩) w (.val (.map r)) w:=
 .N0 (N1 rfl _) rfl rfl fun _τ _d=>Go.Vc.pt0 (h:=h)
theorem rw0{r:Option Nat}(h:ρ x= .map r):Does P (execOp ρ ⟨d,.assign x,ty,ps,af,g⟩) w (.val (.map r)) w:=
 .N0 (N1 rfl _) rfl rfl fun _τ _d=>Go.Vc.rw0 (h:=h)
theorem zn0{cs:Array Value}(h:ρ x= .tuple cs):Does P (execOp ρ ⟨d,.move x,ty,ps,af,g⟩) w (.val (.tuple cs)) w:=
 .N0 (N1 rfl _) rfl rfl fun _τ _d=>Go.Vc.zn0 (h:=h)
theorem rx0{fn:Fn}{xs ys:Array Value}(h:ρ x= .func fn xs ys):Does P (execOp ρ ⟨d,.move x,ty,ps,af,g⟩) w (.val (.func fn xs ys)) w:=
 .N0 (N1 rfl _) rfl rfl fun _τ _d=>Go.Vc.rx0 (h:=h)
theorem Lt0{fn:Fn}{xs ys:Array Value}(h:ρ x= .func fn xs ys):Does P (execOp ρ ⟨d,.assign x,ty,ps,af,g⟩) w (.val (.func fn xs ys)) w:=
 .N0 (N1 rfl _) rfl rfl fun _τ _d=>Go.Vc.Lt0 (h:=h)
theorem Ru0{s:ByteArray}(h:ρ x= .string s):Does P (execOp ρ ⟨d,.move x,ty,ps,af,g⟩) w (.val (.string s)) w:=
 .N0 (N1 rfl _) rfl rfl fun _τ _d=>Go.Vc.Ru0 (h:=h)
theorem k7(h:ρ z= .bool true):Does P (execOp ρ ⟨d,.pick z x y,ty,ps,af,g⟩) w (.val (ρ x)) w:=
 .N0 (N1 rfl _) rfl rfl fun _τ _d=>Go.Vc.k7 (h:=h)
theorem H7(h:ρ z= .bool false):Does P (execOp ρ ⟨d,.pick z x y,ty,ps,af,g⟩) w (.val (ρ y)) w:=
 .N0 (N1 rfl _) rfl rfl fun _τ _d=>Go.Vc.H7 (h:=h)
end
section
variable{P:Program}[Ctx P]{ρ:Operand->Value}
variable{x y:Operand}
section
variable{κ:IntKind}{m k:Int}(hx:ρ x= .int κ m)(hy:ρ y= .int κ k)
include hx hy
end
end
section
variable{P:Program}{ρ:Operand->Value}{w:World}{d:Option Nat}{ty:TypeId}{ps:String}{af:Array Edge}{g:Option (Nat×Bool)}
variable{x y:Operand}{T T':TypeId}
variable{κ:IntKind}{m k:Int}(hx:ρ x= .int κ m)(hy:ρ y= .int κ k)
include hx hy
theorem jn0:Does P (execOp ρ ⟨d,.binOp .add T x y T',ty,ps,af,g⟩) w (.val (.int κ (κ.wrap (m+k)))) w:=
 .N0 (r7 hx hy) rfl rfl fun _τ _d=>Go.Vc.jn0 (hx:=hx) (hy:=hy)
theorem Fh0:Does P (execOp ρ ⟨d,.binOp .sub T x y T',ty,ps,af,g⟩) w (.val (.int κ (κ.wrap (m-k)))) w:=
 .N0 (r7 hx hy) rfl rfl fun _τ _d=>Go.Vc.Fh0 (hx:=hx) (hy:=hy)
theorem zo0:Does P (execOp ρ ⟨d,.binOp .mul T x y T',ty,ps,af,g⟩) w (.val (.int κ (κ.wrap (m*k)))) w:=
 .N0 (r7 hx hy) rfl rfl fun _τ _d=>Go.Vc.zo0 (hx:=hx) (hy:=hy)
theorem Lu0(h0:k≠0):Does P (execOp ρ ⟨d,.binOp .quo T x y T',ty,ps,af,g⟩) w (.val (.int κ (κ.wrap (m.tdiv k)))) w:=
 .N0 (r7 hx hy) rfl rfl fun _τ _d=>Go.Vc.Lu0 (hx:=hx) (hy:=hy) (h0:=h0)
theorem na0(h0:k≠0):Does P (execOp ρ ⟨d,.binOp .rem T x y T',ty,ps,af,g⟩) w (.val (.int κ (m.tmod k))) w:=
 .N0 (r7 hx hy) rfl rfl fun _τ _d=>Go.Vc.na0 (hx:=hx) (hy:=hy) (h0:=h0)
theorem jo0:Does P (execOp ρ ⟨d,.binOp .lss T x y T',ty,ps,af,g⟩) w (.val (.bool (decide (m<k)))) w:=
 .N0 (r7 hx hy) rfl rfl fun _τ _d=>Go.Vc.jo0 (hx:=hx) (hy:=hy)
theorem Rv0:Does P (execOp ρ ⟨d,.binOp .leq T x y T',ty,ps,af,g⟩) w (.val (.bool (decide (m <=k)))) w:=
 .N0 (r7 hx hy) rfl rfl fun _τ _d=>Go.Vc.Rv0 (hx:=hx) (hy:=hy)
theorem lr0:Does P (execOp ρ ⟨d,.binOp .gtr T x y T',ty,ps,af,g⟩) w (.val (.bool (decide (k<m)))) w:=
 .N0 (r7 hx hy) rfl rfl fun _τ _d=>Go.Vc.lr0 (hx:=hx) (hy:=hy)
theorem zp0:Does P (execOp ρ ⟨d,.binOp .geq T x y T',ty,ps,af,g⟩) w (.val (.bool (decide (k <=m)))) w:=
 .N0 (r7 hx hy) rfl rfl fun _τ _d=>Go.Vc.zp0 (hx:=hx) (hy:=hy)
theorem dy0:Does P (execOp ρ ⟨d,.binOp .eql T x y T',ty,ps,af,g⟩) w (.val (.bool (decide (m=k)))) w:=
 .N0 (r7 hx hy) rfl rfl fun _τ _d=>Go.Vc.dy0 (hx:=hx) (hy:=hy)
theorem pu0:Does P (execOp ρ ⟨d,.binOp .neq T x y T',ty,ps,af,g⟩) w (.val (.bool (decide (m≠k)))) w:=
 .N0 (r7 hx hy) rfl rfl fun _τ _d=>Go.Vc.pu0 (hx:=hx) (hy:=hy)
end
section
variable{P:Program}[Ctx P]{ρ:Operand->Value}
variable{x y:Operand}
section
variable{κ:IntKind}{m k:Int}(hx:ρ x= .int κ m)(hy:ρ y= .int κ k)
include hx hy
end
end
section
variable{P:Program}{ρ:Operand->Value}{w:World}{d:Option Nat}{ty:TypeId}{ps:String}{af:Array Edge}{g:Option (Nat×Bool)}
variable{x y:Operand}{T T' E S:TypeId}
theorem fs0{m k:Int}(hx:ρ x= .int .i64 m)(hy:ρ y= .int .i64 k)(h:-9223372036854775808 <=m+k/\m+k <=9223372036854775807):Does P (execOp ρ ⟨d,.binOp .add T x y T',ty,ps,af,g⟩) w (.val (.int .i64 (m+k))) w:=
 .N0 (r7 hx hy) rfl rfl fun _τ _d=>Go.Vc.fs0 (hx:=hx) (hy:=hy) (h:=h)
theorem ry0{k:Nat}(hx:ρ x= .int .i64 (k:Int))(hy:ρ y= .int .i64 1)(h:k<9223372036854775807):Does P (execOp ρ ⟨d,.binOp .add T x y T',ty,ps,af,g⟩) w (.val (.int .i64 ((k+1:Nat):Int))) w:=
 .N0 (r7 hx hy) rfl rfl fun _τ _d=>Go.Vc.ry0 (hx:=hx) (hy:=hy) (h:=h)
theorem pv0{b:Bool}(hx:ρ x= .bool b):Does P (execOp ρ ⟨d,.unOp .not T x,ty,ps,af,g⟩) w (.val (.bool (!b))) w:=
 .N0 (N1 rfl _) rfl rfl fun _τ _d=>Go.Vc.pv0 (hx:=hx)
theorem Rw0{k:Int}(hx:ρ x= .int .i64 k)(h:-9223372036854775808<k/\k <=9223372036854775807):Does P (execOp ρ ⟨d,.unOp .neg T x,ty,ps,af,g⟩) w (.val (.int .i64 (-k))) w:=
 .N0 (N1 rfl _) rfl rfl fun _τ _d=>Go.Vc.Rw0 (hx:=hx) (h:=h)
theorem A7{a:Option Addr}{n c:Nat}{aT:Array TypeId}(hx:ρ x= .slice a n c)(hT:P.underlying T=some (.slice E))(hA:aT[0]? =some T):Does P (execOp ρ ⟨d,.call ⟨.builtin .len,#[x],aT⟩,ty,ps,af,g⟩) w (.val (.int .i64 (n:Int))) w:=
 .N0 (N1 rfl _) rfl rfl fun _τ _d=>Go.Vc.A7 (hx:=hx) (hT:=hT) (hA:=hA)
theorem cb0{b o n c s:Nat}{i:Nat}(hx:ρ x= .slice (some ⟨b,o,none⟩) n c)(hy:ρ y= .int .i64 (i:Int))(hT:P.underlying T=some (.slice E))(hs:(P.info? E).map (·.size)=some s)(h:i<n):Does P (execOp ρ ⟨d,.indexAddr T x y,ty,ps,af,g⟩) w (.val (.pointer (some ⟨b,o+i*s,none⟩))) w:=
 .N0 (N1 rfl _) rfl rfl fun _τ _d=>Go.Vc.cb0 (hx:=hx) (hy:=hy) (hT:=hT) (hs:=hs) (h:=h)
theorem G8{b o n s:Nat}{i:Int}(hx:ρ x= .pointer (some ⟨b,o,none⟩))(hy:ρ y= .int .i64 i)(hT:P.underlying T=some (.array n E))(hs:(P.info? E).map (·.size)=some s)(h0:0 <=i)(h:i<n):Does P (execOp ρ ⟨d,.indexAddr T x y,ty,ps,af,g⟩) w (.val (.pointer (some ⟨b,o+i.toNat*s,none⟩))) w:=
 .N0 (N1 rfl _) rfl rfl fun _τ _d=>Go.Vc.G8 (hx:=hx) (hy:=hy) (hT:=hT) (hs:=hs) (h0:=h0) (h:=h)
theorem A0{b o f:Nat}{fs:Array Field}{fl:Field}{s:Nat}(hx:ρ x= .pointer (some ⟨b,o,none⟩))(hT:P.underlying S=some (.struct fs))(hf:fs[f]? =some fl)(hs:(P.info? fl.type).map (·.size)=some s)(h0:s≠0):Does P (execOp ρ ⟨d,.fieldAddr S x f,ty,ps,af,g⟩) w (.val (.pointer (some ⟨b,o+fl.offset,none⟩))) w:=
 .N0 (Fq0 hx hT hf hs h0) rfl rfl fun _τ _d=>Go.Vc.A0 (hx:=hx) (hT:=hT) (hf:=hf) (hs:=hs) (h0:=h0)
theorem q0{p:Addr}{u:TypeDesc}{v:Value}(hx:ρ x= .pointer (some p))(hT:P.underlying T=some u)(hu:bm0 u=true)(hc:w.cell? p=some v):Does P (execOp ρ ⟨d,.load T x,ty,ps,af,g⟩) w (.val v) w:=
 .N0 (N1 rfl _) rfl rfl fun _τ _d=>Go.Vc.q0 (hx:=hx) (hT:=hT) (hu:=hu) (hc:=hc)
theorem A2{b o:Nat}{u:TypeDesc}{cs:List Value}{s:Nat}(hx:ρ x= .pointer (some ⟨b,o,none⟩))(hT:P.underlying T=some u)(hu:bm0 u=false)(hs:(P.info? T).map (·.size)=some s)(hl:cs.length=s)
  (hc:∀j v,cs[j]? =some v->w.cell? ⟨b,o+j,none⟩=some v) :
  Does P (execOp ρ ⟨d,.load T x,ty,ps,af,g⟩) w (.val (.agg cs.toArray)) w:=
 .N0 (N1 rfl _) rfl rfl fun _τ _d=>Go.Vc.A2 (hx:=hx) (hT:=hT) (hu:=hu) (hs:=hs) (hl:=hl) (hc:=hc)
theorem nb0{p:Addr}{v v0:Value}(hx:ρ x= .pointer (some p))(hy:ρ y=v)(hs:(P.info? T).map (·.size)=some 1)(h1:v.oneCell'=true)(hc:w.cell? p=some v0)(hf:w.frozen? p=false):Does P (execOp ρ ⟨d,.store T x y,ty,ps,af,g⟩) w .skip (w.setCell p v):=
 .N0 (N1 rfl _) rfl rfl fun _τ _d=>Go.Vc.nb0 (hx:=hx) (hy:=hy) (hs:=hs) (h1:=h1) (hc:=hc) (hf:=hf)
theorem K6{vs:Array Value}{i:Nat}{v:Value}(hx:ρ x= .tuple vs)(hv:vs[i]? =some v):Does P (execOp ρ ⟨d,.extract x i,ty,ps,af,g⟩) w (.val v) w:=
 .N0 (N1 rfl _) rfl rfl fun _τ _d=>Go.Vc.K6 (hx:=hx) (hv:=hv)
theorem cv0{f:FuncId}{first cap args:Array Value}{fn:Func}{xs:Array Operand}{aT:Array TypeId}(hx:ρ x= .func (.func f) first cap)(ha:xs.map ρ=args)(hf:P.funcs[f]? =some fn)(hb:fn.body.isSome=true)(hn:Ue fn):Does P (execOp ρ ⟨d,.call ⟨.value x,xs,aT⟩,ty,ps,af,g⟩) w (.enter f (first++args++cap)) w:=
 .N0 (cc0 hx hf hb hn) rfl rfl fun _τ _d=>Go.Vc.cv0 (hx:=hx) (ha:=ha) (hf:=hf) (hb:=hb) (hn:=hn)
theorem lb0{f:FuncId}{fn:Func}{aT:Array TypeId}(hf:P.funcs[f]? =some fn)(hb:fn.body.isSome=true)(hn:Ue fn)(hx:ρ (.func f)= .func (.func f) #[] #[]):Does P (execOp ρ ⟨d,.call ⟨.value (.func f),#[],aT⟩,ty,ps,af,g⟩) w (.enter f #[]) w:=
 .N0 (cc0 hx hf hb hn) rfl rfl fun _τ _d=>Go.Vc.lb0 (hf:=hf) (hb:=hb) (hn:=hn) (hx:=hx)
theorem N2{f:FuncId}{fn:Func}{aT:Array TypeId}{x0:Operand}{v0:Value}(h0:ρ x0=v0)(hf:P.funcs[f]? =some fn)(hb:fn.body.isSome=true)(hn:Ue fn)(hx:ρ (.func f)= .func (.func f) #[] #[]):Does P (execOp ρ ⟨d,.call ⟨.value (.func f),#[x0],aT⟩,ty,ps,af,g⟩) w (.enter f #[v0]) w:=
 .N0 (cc0 hx hf hb hn) rfl rfl fun _τ _d=>Go.Vc.N2 (h0:=h0) (hf:=hf) (hb:=hb) (hn:=hn) (hx:=hx)
theorem B2{f:FuncId}{fn:Func}{aT:Array TypeId}{x0 x1:Operand}{v0 v1:Value}(h0:ρ x0=v0)(h1:ρ x1=v1)(hf:P.funcs[f]? =some fn)(hb:fn.body.isSome=true)(hn:Ue fn)(hx:ρ (.func f)= .func (.func f) #[] #[]):Does P (execOp ρ ⟨d,.call ⟨.value (.func f),#[x0,x1],aT⟩,ty,ps,af,g⟩) w (.enter f #[v0,v1]) w:=
 .N0 (cc0 hx hf hb hn) rfl rfl fun _τ _d=>Go.Vc.B2 (h0:=h0) (h1:=h1) (hf:=hf) (hb:=hb) (hn:=hn) (hx:=hx)
theorem D6{f:FuncId}{fn:Func}{aT:Array TypeId}{x0 x1 x2:Operand}{v0 v1 v2:Value}(h0:ρ x0=v0)(h1:ρ x1=v1)(h2:ρ x2=v2)(hf:P.funcs[f]? =some fn)(hb:fn.body.isSome=true)(hn:Ue fn)(hx:ρ (.func f)= .func (.func f) #[] #[]):Does P (execOp ρ ⟨d,.call ⟨.value (.func f),#[x0,x1,x2],aT⟩,ty,ps,af,g⟩) w (.enter f #[v0,v1,v2]) w:=
 .N0 (cc0 hx hf hb hn) rfl rfl fun _τ _d=>Go.Vc.D6 (h0:=h0) (h1:=h1) (h2:=h2) (hf:=hf) (hb:=hb) (hn:=hn) (hx:=hx)
theorem fe0{f:FuncId}{fn:Func}{aT:Array TypeId}{x0 x1 x2 x3:Operand}{v0 v1 v2 v3:Value}(h0:ρ x0=v0)(h1:ρ x1=v1)(h2:ρ x2=v2)(h3:ρ x3=v3)(hf:P.funcs[f]? =some fn)(hb:fn.body.isSome=true)(hn:Ue fn)(hx:ρ (.func f)= .func (.func f) #[] #[]):Does P (execOp ρ ⟨d,.call ⟨.value (.func f),#[x0,x1,x2,x3],aT⟩,ty,ps,af,g⟩) w (.enter f #[v0,v1,v2,v3]) w:=
 .N0 (cc0 hx hf hb hn) rfl rfl fun _τ _d=>Go.Vc.fe0 (h0:=h0) (h1:=h1) (h2:=h2) (h3:=h3) (hf:=hf) (hb:=hb) (hn:=hn) (hx:=hx)
theorem o8{f:FuncId}{fn:Func}{aT:Array TypeId}{x0 x1 x2 x3 x4:Operand}{v0 v1 v2 v3 v4:Value}(h0:ρ x0=v0)(h1:ρ x1=v1)(h2:ρ x2=v2)(h3:ρ x3=v3)(h4:ρ x4=v4)(hf:P.funcs[f]? =some fn)(hb:fn.body.isSome=true)(hn:Ue fn)(hx:ρ (.func f)= .func (.func f) #[] #[]):Does P (execOp ρ ⟨d,.call ⟨.value (.func f),#[x0,x1,x2,x3,x4],aT⟩,ty,ps,af,g⟩) w (.enter f #[v0,v1,v2,v3,v4]) w:=
 .N0 (cc0 hx hf hb hn) rfl rfl fun _τ _d=>Go.Vc.o8 (h0:=h0) (h1:=h1) (h2:=h2) (h3:=h3) (h4:=h4) (hf:=hf) (hb:=hb) (hn:=hn) (hx:=hx)
theorem Rx0{v:Value}(hx:ρ x=v):Does P (execOp ρ ⟨d,.box T x,ty,ps,af,g⟩) w (.val (.pointer (some ⟨w.heap.size,0,none⟩))) (w.alloc (.cells v.cells T)):=
 .N0 (N1 rfl _) rfl rfl fun _τ _d=>Go.Vc.Rx0 (hx:=hx)
theorem Cv0{v:Value}(hz:(P.info? T).bind (·.zero)=some v):Does P (execOp ρ ⟨d,.alloc T,ty,ps,af,g⟩) w (.val (.pointer (some ⟨w.heap.size,0,none⟩))) (w.alloc (.cells v.cells T)):=
 .N0 (N1 rfl _) rfl rfl fun _τ _d=>Go.Vc.Cv0 (hz:=hz)
theorem lx0{fn:Fn}{xs ys:Array Operand}:Does P (execOp ρ ⟨d,.makeFunc fn xs ys,ty,ps,af,g⟩) w (.val (.func fn (xs.map ρ) (ys.map ρ))) w:=
 .N0 (N1 rfl _) rfl rfl fun _τ _d=>Go.Vc.lx0
end
section
variable{P:Program}[Ctx P]
end
def QL(P:Program)[Ctx P](ops:Array Oper)(Cl:World->Prop)(Q:Env->Prop)(i:Nat)(l:List Oper)(e:Env):Prop:=∀V:(Nat->Bool)->Prop,JL P ops V (fun _=>Cl) Q i l e
section
variable{P:Program}[Ctx P]{ops:Array Oper}{Cl:World->Prop}{Q:Env->Prop}{i:Nat}{e:Env}{rest:List Oper}{v:Value}
variable{d:Nat}{op:Op}{ty:TypeId}{ps:String}{af:Array Edge}
theorem D.nil(h:Q e):QL P ops Cl Q i [] e:=fun _=>h
theorem D.va(hr:∀w,Cl w->Does P (execOp (ev e) ⟨some d,op,ty,ps,af,none⟩) w (.val v) w)(k:QL P ops Cl Q (i+1) rest (upd e d v)):QL P ops Cl Q i (⟨some d,op,ty,ps,af,none⟩::rest) e:=
 fun V=>⟨v,.inl ⟨rfl,fun _ w _ _ _ hw=>.inl ⟨w,hr w hw,hw⟩⟩,k V⟩
theorem D.call{f:FuncId}{args:Array Value}(hr:∀w,Cl w->Does P (execOp (ev e) ⟨some d,op,ty,ps,af,none⟩) w (.enter f args) w)(hc:∀w,Cl w->C P f args w (fun r w'=>r=v/\Cl w'))
  (k:QL P ops Cl Q (i+1) rest (upd e d v)):QL P ops Cl Q i (⟨some d,op,ty,ps,af,none⟩::rest) e:=
 fun V=>⟨v,.inl ⟨rfl,fun _ w _ _ _ hw=>.inr (.inr ⟨_,_,w,hr w hw,hc w hw⟩)⟩,k V⟩
theorem W.quiet[Go.Vc.K3]{n:Nat}{id:Nat}{l:List Oper}{Q:Exit->Env->World->Prop}{e:Env}{w:World}(Cl:World->Prop)(hm:P.follows .mixedOrders=true)(hB:vs0 n l.toArray=true)
  (hC:Cl w.drew) (h:QL P l.toArray Cl (fun e'=>∀w',Cl w'->Q .normal e' w') 0 l e):W P n (.region id l.toArray true) Q e w:=by
 refine W.Ac0 hm hB fun V _ _=>⟨fun _=>Cl,hC,?_⟩
 have mono:∀(l':List Oper)(i:Nat)(e:Env),JL P l.toArray V (fun _=>Cl) (fun e'=>∀w',Cl w'->Q .normal e' w') i l' e->JL P l.toArray V (fun _=>Cl) (fun e'=>∀(D:Nat->Bool) w',(∀i,i<l.length->D i=true)->Cl w'->Q .normal e' w') i l' e:=by
  intro l'
  induction l' with
  |nil=>exact fun i e h _ w' _ hw=>h w' hw
  |cons o l' ih=>exact fun i e ⟨v,h1,h2⟩=>⟨v,h1,ih _ _ h2⟩
 exact mono l 0 e (h V)
end
section
variable{P:Program}[Ctx P]{ops:Array Oper}{V:(Nat->Bool)->Prop}{J:(Nat->Bool)->World->Prop}{Q:Env->Prop}{i:Nat}{e:Env}{rest:List Oper}{v:Value}
variable{d:Nat}{op:Op}{ty:TypeId}{ps:String}{af:Array Edge}
theorem J.nil(h:Q e):JL P ops V J Q i [] e:=h
theorem J.va(hr:∀D w,D i=false->(V D/\V (E4 D i))->j6 ⟨some d,op,ty,ps,af,none⟩ D->J D w->Does P (execOp (ev e) ⟨some d,op,ty,ps,af,none⟩) w (.val v) w)(hJ:∀D w,J D w->J (E4 D i) w)(k:JL P ops V J Q (i+1) rest (upd e d v)):JL P ops V J Q i (⟨some d,op,ty,ps,af,none⟩::rest) e:=
 ⟨v,.inl ⟨rfl,fun D w hi hV hd hw=>.inl ⟨w,hr D w hi hV hd hw,hJ D w hw⟩⟩,k⟩
theorem J.st(hr:∀D w,D i=false->(V D/\V (E4 D i))->j6 ⟨none,op,ty,ps,af,none⟩ D->J D w->∃w',Does P (execOp (ev e) ⟨none,op,ty,ps,af,none⟩) w .skip w'/\J (E4 D i) w')(k:JL P ops V J Q (i+1) rest e):JL P ops V J Q i (⟨none,op,ty,ps,af,none⟩::rest) e:=
 ⟨undef,.inl ⟨rfl,fun D w hi hV hd hw=>.inr (.inl ⟨rfl,hr D w hi hV hd hw⟩)⟩,k⟩
end
def ends(P:Program)(fn:Func)(R:Value->World->Prop):Exit->Env->World->Prop:=fun x e w=>
 (x= .normal\/x= .ret)/\∃v,(∀tmps:Array Value,(∀t,tmps.getD t undef=e t)->ca0 P fn tmps w v)/\R v w
section
variable{P:Program}{fn:Func}{tmps:Array Value}{w:World}{v:Value}{n t:Nat}{R:Value->World->Prop}{x:Exit}{e:Env}
theorem T8(h1:∀w,(results fn tmps).run P w= .ok v w)(h2:∀w,(results fn tmps).events P w #[]=#[]):ca0 P fn tmps w v:=
 fun τ d ρ x hx=>⟨x,#[],by rw[Sem.runT_eq,h1,h2],hx,fun e he=>by simp at he⟩
theorem wpOps_eq_wpList[Ctx P]{ops:Array Oper}{Q:Exit->Act->World->Prop}(l:List Oper):∀k,(∀j,l[j]? =ops[k+j]?)->wpOps P ops Q (List.range' k l.length)=wpList P ops Q l:=by
 induction l with
 |nil=>intro k _;funext a w;simp[wpOps,wpList]
 |cons o l ih=>
  intro k h;have h0:ops[k]? =some o:=by simpa using(h 0).symm
  have ih':=ih (k+1) (fun j=>by have:=h (j+1);simpa [Nat.add_assoc,Nat.add_comm 1 j]using this);funext a w;simp only[List.length_cons,List.range'_succ,wpOps,h0,wpList,ih']
theorem pl1{p q:Prop}(hv:(v= .nilFunc/\p)\/(∃f xs ys,v= .func f xs ys/\q)):v= .nilFunc\/∃f xs ys,v= .func f xs ys:=hv.imp (fun h=>h.1) fun⟨f,xs,ys,h,_⟩=>⟨f,xs,ys,h⟩
theorem iw0(ht:S0 P (results fn tmps))(h1:∀τ d,(results fn tmps).run P (G2 w τ d)= .ok v (G2 w τ d)):ca0 P fn tmps w v:=by
 intro τ d ρ x hs;have h1':((results fn tmps).runT P (G2 w τ d) #[]).1= .ok v (G2 w τ d):=by rw[Sem.runT_eq];exact h1 τ d
 have hf:Yc.Et0 ((results fn tmps).runT P (G2 w τ d) #[]).1:=by rw[h1'];trivial
 obtain⟨⟨x',h2,h3⟩,h4,h5⟩:=B8 ht hs hf;rw[h1']at h2 h3;refine⟨x',_,h2,h3,fun e he=>(h5 e he).resolve_left (by simp)⟩
theorem ix0:S0 P (results fn tmps):=by
 unfold results;refine O0 (S1 (fun r=>?_) _) fun vs=>M0 _;cases r with
 |tmp t=>exact M0 _
 |cell a t=>exact O0 (v9 _) fun a=>Y7 _ _
theorem Je0{F:Nat->Value}(h:∀k,ma0 (F k)=true):∀c∈arr n F,ma0 c=true:=by
 intro c hc;obtain⟨i,hi,rfl⟩:=Array.mem_iff_getElem.1 hc;simpa [arr]using h i
theorem C.enter[Ctx P]{f:FuncId}{c:Code}{args:Array Value}(hf:P.funcs[f]? =some fn)(hb:fn.body=some c)(hn:args.size+(fn.ntmps-args.size)=n)
  (h:W P n c (ends P fn R) (cw0 args) w):C P f args w R:=by
 refine calls_of_wp hf hb (wp_mono (h _ ⟨?_,rfl,?_⟩) ?_)
 ·simp[hn]
 ·intro t;simp only[cw0,Array.getD_eq_getD_getElem?,Array.getElem?_append];split
  ·rfl
  ·rename_i ht;rw[Array.getElem?_eq_none (by omega:args.size <=t)];simp only[Array.getElem?_replicate];split <;> rfl
 ·rintro x a w' ⟨e',r,hx,v,hv,hR⟩;have:=hv a.tmps r.get;rcases hx with rfl|rfl
  ·exact⟨r.defers,v,this,hR⟩
  ·exact⟨r.defers,v,this,hR⟩
theorem ends.one(hx:x= .normal\/x= .ret)(hr:fn.results=#[.tmp t])(h:R (e t) w):ends P fn R x e w:=
 ⟨hx,_,fun tmps ht=>T8 (fun w=>by rw[results_tmp hr,ht]) (fun w=>events_results_tmp hr _ _),h⟩
theorem ends.two{u:Nat}(hx:x= .normal\/x= .ret)(hr:fn.results=#[.tmp t,.tmp u])(h:R (.tuple #[e t,e u]) w):ends P fn R x e w:=
 ⟨hx,_,fun tmps ht=>T8 (fun w=>by rw[results_tmp2 hr,ht,ht]) (fun w=>events_results_tmp2 hr _ _),h⟩
theorem ends.none(hx:x= .normal\/x= .ret)(hr:fn.results=#[])(h:R (.tuple #[]) w):ends P fn R x e w:=
 ⟨hx,_,fun tmps _=>T8 (fun w=>results_none hr tmps P w) (fun _w=>events_results_none hr _ _),h⟩
end
end Go.Vy
end
section
namespace Go.Vy
open Go Go.Yc Go.RowKit
open Go.Vc
section
variable{P:Program}[Ctx P]{n:Nat}{Q:Exit->Env->World->Prop}{e:Env}{w:World}{ops:Array Oper}{rest:List Oper}
variable{d:Nat}{ty:TypeId}{ps:String}{af:Array Edge}{T:TypeId}{x y:Operand}
theorem L.box[Go.Vc.K3]{v:Value}{cs:Array Value}(hx:ev e x=v)(hcs:v.cells=cs)(k:∀w1 b,jp0 w w1 b cs T->L P n ops Q rest (upd e d (.pointer (some ⟨b,0,none⟩))) w1):L P n ops Q (⟨some d,.box T x,ty,ps,af,none⟩::rest) e w:=by
 subst hcs;exact L.va (Rx0 hx) (k _ _ (B7 w _ T))
theorem L.alloc[Go.Vc.K3]{v:Value}{cs:Array Value}(hz:(P.info? T).bind (·.zero)=some v)(hcs:v.cells=cs)(k:∀w1 b,jp0 w w1 b cs T->L P n ops Q rest (upd e d (.pointer (some ⟨b,0,none⟩))) w1):L P n ops Q (⟨some d,.alloc T,ty,ps,af,none⟩::rest) e w:=by
 subst hcs;exact L.va (Cv0 hz) (k _ _ (B7 w _ T))
theorem L.store[Go.Vc.K3]{b o:Nat}{cs:Array Value}{E:TypeId}{v:Value}(hx:ev e x= .pointer (some ⟨b,o,none⟩))(hy:ev e y=v)(hs:(P.info? T).map (·.size)=some 1)(h1:v.oneCell'=true)(hB:I0 w b cs E)(ho:o<cs.size)
  (k:L P n ops Q rest e (w.setCell ⟨b,o,none⟩ v)):L P n ops Q (⟨none,.store T x y,ty,ps,af,none⟩::rest) e w:=
 L.st (nb0 hx hy hs h1 (hB.cell (Array.getElem?_eq_getElem ho)) hB.frozen) k
theorem L.Fr0[Go.Vc.K3]{b o s:Nat}{cs vs:Array Value}{E:TypeId}{v:Value}(hx:ev e x= .pointer (some ⟨b,o,none⟩))(hy:ev e y=v)(hvs:v.cells=vs)(hs:(P.info? T).map (·.size)=some s)(hl:vs.size=s)(h1:∀v∈vs.toList,v.oneCell'=true)(hB:I0 w b cs E)(ho:o+s <=cs.size)
  (k:L P n ops Q rest e (R4 w b (setRow cs o vs.toList) E)):L P n ops Q (⟨none,.store T x y,ty,ps,af,none⟩::rest) e w:=by
 refine L.st (w':=R4 w b (setRow cs o vs.toList) E) (.N0 (N1 rfl _) rfl rfl fun τ d=>?_) k;have:=I7 (P:=P) b E vs.toList o 0 cs (G2 w τ d) hB (by simp;omega) h1;show _=Result.ok Next.skip (R4 (G2 w τ d) b (setRow cs o vs.toList) E);simp[execOp,Instr.storeAt,hx,hy,Instr.sureAddr,storeVar,Go.Vc.run_sizeOf hs,hvs,hl,this]
end
section
variable{P:Program}[Ctx P]{n:Nat}{Q:Exit->Env->World->Prop}{e:Env}{w:World}{ops:Array Oper}
theorem L.kk0[Go.Vc.K3](k:Nat)(G:List Nat)(d:Nat)(v:Value){tj:Nat}{b:Bool}{l:List Oper}(hb:e tj= .bool b)
  (ht:b=true->L P n ops (x9 (fun e' w'=>w'=w/\e' d=v/\bk0 G e' e) Q) (l.take k) (upd e tj (.bool true)) w)
  (hf:b=false->L P n ops (x9 (fun e' w'=>w'=w/\e' d=v/\bk0 G e' e) Q) (l.take k) (upd e tj (.bool false)) w)
  (h2:∀f,L P n ops Q (l.drop k) (upd (hav G f e) d v) w):L P n ops Q l e w:=by
 refine L.meet k G d v ?_ h2;cases b
 ·have:=hf rfl;rw[<- L0 hb]at this;exact this
 ·have:=ht rfl;rw[<- L0 hb]at this;exact this
end
section
variable{P:Program}[Ctx P]
end
section
variable{P:Program}{ρ:Operand->Value}{w:World}{d:Option Nat}{ty:TypeId}{ps:String}{af:Array Edge}{g:Option (Nat×Bool)}{x y:Operand}{T E:TypeId}
theorem Q7{a:Option Addr}{n c s:Nat}{i:Nat}(hx:ρ x= .slice a n c)(hy:ρ y= .int .i64 (i:Int))(hT:P.underlying T=some (.slice E))(hs:(P.info? E).map (·.size)=some s)(hS:SL a n)(h:i<n):Does P (execOp ρ ⟨d,.indexAddr T x y,ty,ps,af,g⟩) w (.val (.pointer (some ⟨ab a,ao a+i*s,none⟩))) w:=
 .N0 (N1 rfl _) rfl rfl fun _τ _d=>Go.Vc.Q7 (hx:=hx) (hy:=hy) (hT:=hT) (hs:=hs) (hS:=hS) (h:=h)
end
section
variable{P:Program}[Ctx P]
end
section
end
section
end
section
variable{P:Program}[Ctx P]{n:Nat}{Q:Exit->Env->World->Prop}{e:Env}{w:World}{ops:Array Oper}{rest:List Oper}
variable{d:Nat}{ty:TypeId}{ps:String}{af:Array Edge}{T E:TypeId}{x y:Operand}
section
variable{w':World}{τ:Tape}{s:Nat}
theorem L.may[Go.Vc.K3]{P:Program}[Ctx P]{n:Nat}{Q:Exit->Env->World->Prop}{e:Env}{w:World}{ops:Array Oper}{rest:List Oper}{d:Nat}{op:Op}{ty:TypeId}{ps:String}{af:Array Edge}{R:Value->World->Prop}(ht:S0 P (execOp (ev e) ⟨some d,op,ty,ps,af,none⟩))
  (hr:∀τ d',∃v w',(execOp (ev e) ⟨some d,op,ty,ps,af,none⟩).run P (G2 w τ d')= .ok (.value v) w'/\R v (G2 w' w.tape w.drawn)) (k:∀v w',R v w'->L P n ops Q rest (upd e d v) w'):L P n ops Q (⟨some d,op,ty,ps,af,none⟩::rest) e w:=by
 refine L.op' (K:=fun r w'=>∃v,r= .val v/\R v w') rfl (fun τ d'=>?_) ?_
 ·obtain⟨v,w',h1,h2⟩:=hr τ d';exact⟨.val v,w',X7 ht h1,v,rfl,h2⟩
 ·rintro r w' ⟨v,rfl,h⟩;exact k v w' h
theorem Ag0{w:World}{d:Nat}{x:Option Nat}(h:(G2 w τ d).grownBy w' x):w.grownBy (G2 w' w.tape w.drawn) x:=⟨h.os,rfl,h.output,h.size,h.block⟩
theorem Ah0{B:Nat}{w:World}{d:Nat}(h:Below B (G2 w τ d) w'):Below B w (G2 w' w.tape w.drawn):=⟨h.os,rfl,h.output,h.size,h.block⟩
theorem L.make[Go.Vc.K3]{m bytes:Nat}{zv z0:Value}(hx:ev e x= .int .i64 (m:Int))(hy:ev e y= .int .i64 (m:Int))(hT:P.underlying T=some (.slice E))(hi:(P.info? E).map (fun i=>(i.zero,i.size,i.bytes))=some (some zv,s,bytes))(hz:zv.cells=Array.replicate s z0)(hs:0<s)
  (hm:m <=9223372036854775807) (hb:m*bytes <=281474976710656) (k:∀w1 b,jp0 w w1 b (Array.replicate (m*s) z0) E->L P n ops Q rest (upd e d (.slice (some ⟨b,0,none⟩) m m)) w1) :
  L P n ops Q (⟨some d,.makeSlice T x y,ty,ps,af,none⟩::rest) e w:=by
 refine L.va (w':=w.alloc (.cells (Array.replicate (m*s) z0) E)) (.N0 (N1 rfl _) rfl rfl fun τ d'=>?_) (k _ _ (B7 w _ E));show(execOp (ev e) ⟨some d,.makeSlice T x y,ty,ps,af,none⟩).run P (G2 w τ d')= .ok (.value (.slice (some ⟨(G2 w τ d').heap.size,0,none⟩) m m)) ((G2 w τ d').alloc (.cells (Array.replicate (m*s) z0) E));generalize G2 w τ d'=w;obtain⟨i,hi'⟩:∃i,P.info? E=some i:=by cases hh:P.info? E with|none=>rw[hh]at hi;cases hi|some i=>exact⟨i,rfl⟩
 rw[hi']at hi;simp only[Option.map_some,Option.some.injEq,Prod.mk.injEq]at hi;obtain⟨h1,rfl,rfl⟩:=hi;have hr:=run_make (P:=P) w T E i zv hT hi' h1 .i64 .i64 (m:Int) (m:Int) Uo (Int.le_refl _) (by
  have:((m*i.bytes:Nat):Int) <=281474976710656:=by omega
  rw[Int.natCast_mul,Int.mul_comm]at this;exact this) Uo
 rw[hz,ls0 _ _ hs]at hr;simp only[Int.toNat_natCast]at hr;simp only[execOp,hx,hy,Sem.run_bind,hr,Result.andThen_ok,Sem.run_pure]
theorem L.cx0[Go.Vc.K3]{v:Value}{cs:Array Value}(hx:ev e x=v)(hcs:v.cells=cs)(hT:P.underlying T=some (.slice E))(hs:(P.info? E).map (·.size)=some s)(hl:cs.size=s)(hz:∃zv,(P.info? E).bind (·.zero)=some zv)(O1:0<s/\s <=16777216)
  (k:∀w1 b,jp0 w w1 b cs E->L P n ops Q rest (upd e d (.slice (some ⟨b,0,none⟩) 1 1)) w1) :
  L P n ops Q (⟨some d,.buildSlice T 1 #[(0,x)],ty,ps,af,none⟩::rest) e w:=by
 refine L.va (w':=w.alloc (.cells cs E)) (.N0 (N1 rfl _) rfl rfl fun τ d'=>?_) (k _ _ (B7 w _ E));show(execOp (ev e) ⟨some d,.buildSlice T 1 #[(0,x)],ty,ps,af,none⟩).run P (G2 w τ d')= .ok (.value (.slice (some ⟨(G2 w τ d').heap.size,0,none⟩) 1 1)) ((G2 w τ d').alloc (.cells cs E));generalize G2 w τ d'=w;obtain⟨zv,hz⟩:=hz;have pm1:¬(1*s>2 ^ 24):=by omega
 have H2:v.cells.size=s:=by rw[hcs,hl]
 have hf:=fun cs0:Array Value=>fun h:cs0.size=s=>Sa0 v.cells.toList 0 cs0 (by simp[h,H2]);simp only[execOp,Instr.buildSlice,List.map_toArray,List.map_cons,List.map_nil,hx,Go.Vc.run_underlying hT,Go.Vc.run_sizeOf hs,Sem.run_bind,Result.andThen_ok,pm1,if_false,Sem.run_pure];have h0:¬1*s=0:=by omega
 ·simp only[h0,if_false,Sem.run_bind,Go.Vc.Z7 hz,Result.andThen_ok,Sem.run_pure,Instr.fill,Nat.zero_mul,H2,ne_eq,not_true_eq_false,decide_false,Bool.false_or];have h3:=hf ((Array.range (1*s)).map (fun i=>zv.cells[i%zv.cells.size]!)) (by simp);simp only[List.take_zero,List.nil_append]at h3;have h4:¬(0+s>(Array.map (fun x=>zv.cells[x%zv.cells.size]!) (Array.range (1*s))).size):=by simp
  rw[<- Array.foldl_toList,Array.toList_zipIdx];rw[h3];simp[newRow,hcs]
theorem L.Sn0[Go.Vc.K3](hT:P.underlying T=some (.slice E))(hs:(P.info? E).map (·.size)=some s)(k:∀w1 b,jp0 w w1 b #[] E->L P n ops Q rest (upd e d (.slice (some ⟨b,0,none⟩) 0 0)) w1):L P n ops Q (⟨some d,.buildSlice T 0 #[],ty,ps,af,none⟩::rest) e w:=by
 refine L.va (w':=w.alloc (.cells #[] E)) (.N0 (N1 rfl _) rfl rfl fun τ d'=>?_) (k _ _ (B7 w _ E));show(execOp (ev e) ⟨some d,.buildSlice T 0 #[],ty,ps,af,none⟩).run P (G2 w τ d')= .ok (.value (.slice (some ⟨(G2 w τ d').heap.size,0,none⟩) 0 0)) ((G2 w τ d').alloc (.cells #[] E));generalize G2 w τ d'=w;simp[execOp,Instr.buildSlice,Go.Vc.run_underlying hT,Go.Vc.run_sizeOf hs,Instr.fill,newRow,Array.range_zero']
theorem L.append[Go.Vc.K3]{B s bytes m c':Nat}{a:Option Addr}{k c:Nat}{xs news:List Value}{zv:Value}{ad:Addr}(hx:ev e x= .slice a k c)(hy:ev e y= .slice (some ad) m c')(hT:P.underlying T=some (.slice E))
  (hi:(P.info? E).map (fun i=>(i.zero,i.size,i.bytes))=some (some zv,s,bytes)) (hz:zv.cells.size=s) (hs:0<s) (l9:Own w B E s a k c xs)
  (hl:news.length=m*s) (fl0:∀(j:Nat) u,news[j]? =some u->w.cell? (ad.add j)=some u) (h1:∀u∈news,u.oneCell'=true) (Fs0:k+m <=9223372036854775807) (hb:(k+m)*bytes <=140737488355328) (hB:B <=w.heap.size)
  (h:∀a' c2 w',Own w' B E s a' (k+m) c2 (xs++news)->w.grownBy w' (Value.ownBlock (.slice a k c))->Below B w w'->(a'=none↔a=none/\m=0)->L P n ops Q rest (upd e d (.slice a' (k+m) c2)) w') :
  L P n ops Q (⟨some d,.call ⟨.builtin .append,#[x,y],#[T,T]⟩,ty,ps,af,none⟩::rest) e w:=by
 refine L.may (R:=fun v w'=>∃a' c2,v= .slice a' (k+m) c2/\Own w' B E s a' (k+m) c2 (xs++news)/\w.grownBy w' (Value.ownBlock (.slice a k c))/\Below B w w'/\(a'=none↔a=none/\m=0)) (N1 rfl _) (fun τ d'=>?_) (by rintro v w' ⟨a',c2,rfl,h2,h3,h4,h5⟩;exact h a' c2 w' h2 h3 h4 h5);generalize hu:G2 w τ d'=u;have l9:Own u B E s a k c xs:=by rw[<- hu];exact l9
 have fl0:∀(j:Nat) v,news[j]? =some v->u.cell? (ad.add j)=some v:=by rw[<- hu];exact fl0
 have hB:B <=u.heap.size:=by rw[<- hu];exact hB
 obtain⟨i,hi'⟩:∃i,P.info? E=some i:=by cases hh:P.info? E with|none=>rw[hh]at hi;cases hi|some i=>exact⟨i,rfl⟩
 rw[hi']at hi;simp only[Option.map_some,Option.some.injEq,Prod.mk.injEq]at hi;obtain⟨g1,g2,g3⟩:=hi;obtain⟨v',w',hr,h2,h3,h4⟩:=run_append_own (P:=P) u B T ty E i zv s bytes hT hi' g1 g2 g3 hz hs (.slice a k c) k xs l9 ad m c' news hl fl0 h1 (by simpa [maxLen]using Fs0) hb hB;obtain⟨a',c2,rfl⟩:∃a' c2,v'= .slice a' (k+m) c2:=by
  rcases h2.2 with⟨hv,h0⟩|⟨g,cap,cur,hv,_⟩
  ·exact⟨none,0,by rw[hv,h0]⟩
  ·exact⟨_,_,hv⟩
 have A1:Below B u w':=(Below.refl B u).grown h3 hB (fun r hr=>by
  cases a with
  |none=>cases hr
  |some q=>
   simp only[Value.ownBlock,Option.some.injEq]at hr;subst hr;exact(l9.row (by simp)).choose_spec.2.1)
 have pn1:a'=none↔a=none/\m=0:=by
  constructor
  ·intro hn;subst hn;rcases h2.2 with⟨hv,h0⟩|⟨g,cap,cur,hv,_⟩
   ·have:=h4.1 hv;exact⟨by have:=this.1;simp at this;exact this.1,this.2⟩
   ·cases hv
  ·rintro⟨rfl,rfl⟩;have hk0:k=0/\c=0:=by
    rcases l9.2 with⟨hv,h0⟩|⟨g,cap,cur,hv,_⟩
    ·cases hv;exact⟨rfl,rfl⟩
    ·cases hv
   obtain⟨rfl,rfl⟩:=hk0;have:=h4.2 ⟨rfl,rfl⟩;simp at this;exact this.1
 refine⟨_,w',?_,a',c2,rfl,h2,by subst hu;exact Ag0 h3,by subst hu;exact Ah0 A1,pn1⟩;simp only[execOp,resolve,invoke,builtin,Sem.run_bind,Sem.run_pure,Result.andThen_ok,List.map_toArray,List.map_cons,List.map_nil,hx,hy,hr]
end
end
section
variable{P:Program}[Ctx P]{n:Nat}{Q:Exit->Env->World->Prop}{e:Env}{w:World}{ops:Array Oper}{rest:List Oper}
variable{d:Nat}{ty:TypeId}{ps:String}{af:Array Edge}{T E:TypeId}{x y:Operand}
theorem L.dr0[Go.Vc.K3]{B s bytes m c':Nat}{a src:Option Addr}{k c:Nat}{xs news:List Value}{zv:Value}(hx:ev e x= .slice a k c)(hy:ev e y= .slice src m c')(hT:P.underlying T=some (.slice E))
  (hi:(P.info? E).map (fun i=>(i.zero,i.size,i.bytes))=some (some zv,s,bytes)) (hz:zv.cells.size=s) (hs:0<s) (l9:Own w B E s a k c xs) (wv1:src=none->m=0/\c'=0)
  (hl:news.length=m*s) (fl0:∀ad,src=some ad->∀(j:Nat) u,news[j]? =some u->w.cell? (ad.add j)=some u) (h1:∀u∈news,u.oneCell'=true) (Fs0:k+m <=9223372036854775807) (hb:(k+m)*bytes <=140737488355328) (hB:B <=w.heap.size)
  (h:∀a' c2 w',Own w' B E s a' (k+m) c2 (xs++news)->w.grownBy w' (Value.ownBlock (.slice a k c))->Below B w w'->(a'=none↔a=none/\m=0)->L P n ops Q rest (upd e d (.slice a' (k+m) c2)) w') :
  L P n ops Q (⟨some d,.call ⟨.builtin .append,#[x,y],#[T,T]⟩,ty,ps,af,none⟩::rest) e w:=by
 cases src with
 |some ad=>exact L.append hx hy hT hi hz hs l9 hl (fl0 ad rfl) h1 Fs0 hb hB h
 |none=>
  obtain⟨rfl,rfl⟩:=wv1 rfl;obtain⟨i,hi'⟩:∃i,P.info? E=some i:=by cases hh:P.info? E with|none=>rw[hh]at hi;cases hi|some i=>exact⟨i,rfl⟩
  have hr:=fun τ d'=>run_append_owned_none (P:=P) (w:=G2 w τ d') B T ty E i s hT hi' (.slice a k c) k xs l9;have hn:news=[]:=List.eq_nil_of_length_eq_zero Uo;subst hn;refine L.va (v:=.slice a (k+0) c) (w':=w) (.N0 (N1 rfl _) rfl rfl fun τ d'=>?_) (h a c w (by simpa using l9) ⟨rfl,rfl,rfl,Nat.le_refl _,fun _ _ _=>rfl⟩ (Below.refl _ _) (by simp));simp only[execOp,resolve,invoke,builtin,Sem.run_bind,Sem.run_pure,Result.andThen_ok,List.map_toArray,List.map_cons,List.map_nil,hx,hy,hr τ d'];rfl
end
section
variable{P:Program}[Ctx P]
end
section
variable{P:Program}{ρ:Operand->Value}{w:World}{d:Option Nat}{ty:TypeId}{ps:String}{af:Array Edge}{g:Option (Nat×Bool)}{x y:Operand}{T E:TypeId}
theorem ol0{a:Option Addr}{n c k s:Nat}(hx:ρ x= .slice a n c)(hy:ρ y= .int .i64 (k:Int))(hT:P.underlying T=some (.slice E))(hs:(P.info? E).map (·.size)=some s)(hk:k <=c):Does P (execOp ρ ⟨d,.slice T x none (some y) none,ty,ps,af,g⟩) w (.val (.slice a k c)) w:=
 .N0 (N1 rfl _) rfl rfl fun _τ _d=>Go.Vc.ol0 (hx:=hx) (hy:=hy) (hT:=hT) (hs:=hs) (hk:=hk)
theorem P2{parts:List (Nat×Operand)}{vs:List (Nat×Value)}{cells:Array Value}(hv:parts.map (fun(i,y)=>(i,ρ y))=vs)(hb:P.built T vs=some cells):Does P (execOp ρ ⟨d,.build T parts.toArray,ty,ps,af,g⟩) w (.val (.agg cells)) w:=
 .N0 (N1 rfl _) rfl rfl fun _τ _d=>Go.Vc.P2 (hv:=hv) (hb:=hb)
theorem qw0{a:Option Addr}{n c:Nat}(hx:ρ x= .slice a n c)(hy:ρ y= .slice none 0 0)(hT:P.underlying T=some (.slice E)):Does P (execOp ρ ⟨d,.binOp .eql T x y T,ty,ps,af,g⟩) w (.val (.bool a.isNone)) w:=
 .N0 (On0 hx hy) rfl rfl fun _τ _d=>Go.Vc.qw0 (hx:=hx) (hy:=hy) (hT:=hT)
end
section
variable{P:Program}[Ctx P]
end
section
variable{P:Program}[Ctx P]
end
section
variable{P:Program}{T:TypeId}{ρ:Operand->Value}{w:World}{d:Option Nat}{ty:TypeId}{ps:String}{af:Array Edge}{g:Option (Nat×Bool)}{x y:Operand}
theorem H3{b o N m:Nat}{F G:Nat->Value}{E:TypeId}{u:TypeDesc}(hx:ρ x= .pointer (some ⟨b,o,none⟩))(hT:P.underlying T=some u)(hu:bm0 u=false)(hs:(P.info? T).map (·.size)=some m)(hB:I0 w b (arr N F) E)(ho:o+m <=N)(hG:∀k,k<m->F (o+k)=G k):Does P (execOp ρ ⟨d,.load T x,ty,ps,af,g⟩) w (.val (.agg (arr m G))) w:=
 .N0 (N1 rfl _) rfl rfl fun _τ _d=>Go.Vc.H3 (hx:=hx) (hT:=hT) (hu:=hu) (hs:=hs) (hB:=hB) (ho:=ho) (hG:=hG)
theorem L4{b o N m:Nat}{F G:Nat->Value}{E:TypeId}(hx:ρ x= .pointer (some ⟨b,o,none⟩))(hy:ρ y= .agg (arr m G))(hs:(P.info? T).map (·.size)=some m)(h1:∀k,(G k).oneCell'=true)(hB:I0 w b (arr N F) E)(ho:o+m <=N):Does P (execOp ρ ⟨none,.store T x y,ty,ps,af,g⟩) w .skip (R4 w b (arr N (fun x=>if o <=x/\x<o+m then G (x-o) else F x)) E):=
 .N0 (N1 rfl _) rfl rfl fun _τ _d=>Go.Vc.L4 (hx:=hx) (hy:=hy) (hs:=hs) (h1:=h1) (hB:=hB) (ho:=ho)
theorem Cy0{It T':TypeId}{n:Nat}{F G:Nat->Int}{i:TypeInfo}(hT:P.underlying T=some (.array n It))(hI:P.underlying It=some (.int .i64))(hi:P.info? It=some i)(hz:P.cellsOf It=1)(hg:P.eqGuardType P.depth T=false)
  (hx:ρ x= .agg (arr n fun k=>.int .i64 (F k))) (hy:ρ y= .agg (arr n fun k=>.int .i64 (G k))) :
  Does P (execOp ρ ⟨d,.binOp .eql T x y T',ty,ps,af,g⟩) w (.val (.bool (decide (∀k,k<n->F k=G k)))) w:=
 .N0 (am1 hg (Je0 fun _=>rfl) hx hy) rfl rfl fun _τ _d=>Go.Vc.Cy0 (hT:=hT) (hI:=hI) (hi:=hi) (hz:=hz) (hg:=hg) (hx:=hx) (hy:=hy)
end
section
variable{P:Program}[Ctx P]
end
section
variable{P:Program}{e:Env}{w:World}{T:TypeId}
theorem ends.Lz0{fn:Func}{R:Value->World->Prop}{x:Exit}{t b:Nat}{cs:Array Value}{E:TypeId}{u:TypeDesc}(hx:x= .normal\/x= .ret)(hr:fn.results=#[.cell t T])
  (he:e t= .pointer (some ⟨b,0,Option.none⟩)) (hT:P.underlying T=some u) (hu:bm0 u=false) (hs:(P.info? T).map (·.size)=some cs.size) (hB:I0 w b cs E) (h:R (.agg cs) w):ends P fn R x e w:=
 ⟨hx,_,fun tmps ht=>iw0 ix0 fun τ d=>results_cell_row hr tmps (G2 w τ d) b E cs (0,0) u (by rw[ht,he]) hB hT (by cases u <;> first|rfl|(simp[bm0]at hu)) hs,h⟩
theorem JL.out{P:Program}[Ctx P]{ops:Array Oper}{V:(Nat->Bool)->Prop}{J:(Nat->Bool)->World->Prop}{Q:Env->Prop}:∀{l:List Oper}{i:Nat}{e:Env},JL P ops V J Q i l e->∃e',Q e'/\JL P ops V J (fun x=>x=e') i l e
 | [],_,e,h=>⟨e,h,rfl⟩
 |o::l,i,e,⟨v,h1,h2⟩=>by obtain⟨e',h3,h4⟩:=JL.out h2;exact⟨e',h3,v,h1,h4⟩
theorem W.last[Go.Vc.K3][Ctx P]{n:Nat}{id:Nat}{l:List Oper}{Q:Exit->Env->World->Prop}(k:Nat)(Cl:World->Prop){x y:Operand}{ty:TypeId}{ps:String}{af:Array Edge}
  (hm:P.follows .mixedOrders=true) (hB:vs0 n l.toArray=true) (hA:ai1 l k=true) (hk:l.drop k=[⟨none,.store T x y,ty,ps,af,none⟩])
  (hC:Cl w.drew) (h:QL P l.toArray Cl (fun e'=>∀w',Cl w'->∃w'',Does P (execOp (ev e') ⟨none,.store T x y,ty,ps,af,none⟩) w' .skip w''/\Q .normal e' w'') 0 (l.take k) e):W P n (.region id l.toArray true) Q e w:=by
 refine W.Ac0 hm hB fun V hch hV=>?_;obtain⟨e',j8,hJ⟩:=JL.out (h V);have hlen:l.length=k+1:=by
  have:=congrArg List.length hk;simp at this;omega
 refine⟨fun D w=>if D k=true then Q .normal e' w else Cl w,by simpa using hC,?_⟩;have hl:l=l.take k ++ [⟨none,.store T x y,ty,ps,af,none⟩]:=by rw[<- hk,List.take_append_drop]
 have key:∀(m:List Oper)(i:Nat)(e:Env),i+m.length=k->JL P l.toArray V (fun _=>Cl) (fun x=>x=e') i m e ->
   JL P l.toArray V (fun D w=>if D k=true then Q .normal e' w else Cl w) (fun e2=>∀(D:Nat->Bool) w',(∀i,i<l.length->D i=true)->(if D k=true then Q .normal e' w' else Cl w')->Q .normal e2 w') i (m ++ [⟨none,.store T x y,ty,ps,af,none⟩]) e:=by
  intro m
  induction m with
  |nil=>
   intro i e2 hi hm2;obtain rfl:i=k:=by simpa using hi
   have ip1:e2=e':=hm2;subst ip1;refine⟨undef,.inl ⟨rfl,fun D w K9 _ _ hJw=>?_⟩,fun D w' hD W0=>?_⟩
   ·have So0:Cl w:=by have h9:=hJw;simp only[K9,Bool.false_eq_true,if_false]at h9;exact h9
    obtain⟨w'',h1,h2⟩:=j8 w So0;exact .inr (.inl ⟨rfl,w'',h1,by simp only[E4,if_true];exact h2⟩)
   ·rw[if_pos (hD i Uo)]at W0;exact W0
  |cons o m ih=>
   rintro i e2 hi ⟨v,h1,h2⟩;simp only[List.length_cons]at hi;have ao1:∀D,D i=false->V D->D k=false:=fun D K9 hVD=>by
    cases hDk:D k with
    |false=>rfl
    |true=>have:=si0 hA hV hVD hDk i Uo;rw[K9]at this;cases this
   have Ir0:∀D,D i=false->V D->E4 D i k=false:=fun D K9 hVD=>by
    unfold E4;rw[if_neg Uo];exact ao1 D K9 hVD
   refine⟨v,?_,ih (i+1) _ Uo h2⟩;rcases h1 with⟨hw,hr⟩|⟨hw,hv,hr⟩
   ·refine .inl ⟨hw,fun D w K9 su0 P5 hJw=>?_⟩;refine U512 ?_;intro hVD hc;have h3:=hr D w K9 su0 P5 hc;have hs:=Ir0 D K9 hVD;exact mb0.mono h3 fun w' h4=>by simp only[hs,Bool.false_eq_true,if_false];exact h4
   ·refine .inr ⟨hw,hv,fun D w K9 su0 P5 hJw=>?_⟩;refine U512 ?_;intro hVD hc;simp only[Ir0 D K9 hVD,Bool.false_eq_true,if_false];exact hc
 have:=key (l.take k) 0 e (by simp;omega) hJ;rw[<- hl]at this;exact this
end
section
end
section
variable{P:Program}[Ctx P]
end
section
variable{P:Program}{T:TypeId}{ρ:Operand->Value}{w:World}{d:Option Nat}{ty:TypeId}{ps:String}{af:Array Edge}{g:Option (Nat×Bool)}{x y:Operand}
theorem j1{p:Addr}(hx:ρ x= .pointer (some p)):Does P (execOp ρ ⟨d,.nilCheck x,ty,ps,af,g⟩) w (.val (.pointer (some p))) w:=
 .N0 (Jc0 hx) rfl rfl fun _τ _d=>Go.Vc.j1 (hx:=hx)
theorem p7{E T:TypeId}{b o n s i:Nat}(hx:ρ x= .pointer (some ⟨b,o,none⟩))(hy:ρ y= .int .i64 (i:Int))(hT:P.underlying T=some (.array n E))(hs:(P.info? E).map (·.size)=some s)(h:i<n):Does P (execOp ρ ⟨d,.indexAddr T x y,ty,ps,af,g⟩) w (.val (.pointer (some ⟨b,o+i*s,none⟩))) w:=
 .N0 (N1 rfl _) rfl rfl fun _τ _d=>Go.Vc.p7 (hx:=hx) (hy:=hy) (hT:=hT) (hs:=hs) (h:=h)
theorem v5{q:Option Addr}{E T':TypeId}(hx:ρ x= .pointer q)(hy:ρ y= .pointer none)(hT:P.underlying T=some (.pointer E)):Does P (execOp ρ ⟨d,.binOp .eql T x y T',ty,ps,af,g⟩) w (.val (.bool q.isNone)) w:=
 .N0 (Ja0 hx hy) rfl rfl fun _τ _d=>Go.Vc.v5 (hx:=hx) (hy:=hy) (hT:=hT)
end
section
variable{P:Program}[Ctx P]
end
theorem W.po1[Go.Vc.K3]{P:Program}[Ctx P]{n:Nat}{id:Nat}{l:List Oper}{Q:Exit->Env->World->Prop}{e:Env}{w:World}(k:Nat)(Cl R1:World->Prop)(v:Value){d:Nat}{op:Op}{ty0:TypeId}{ps0:String}{af0:Array Edge}{T:TypeId}{x y:Operand}{ty:TypeId}{ps:String}{af:Array Edge}
  (hm:P.follows .mixedOrders=true) (hB:vs0 n l.toArray=true) (hA:ai1 l (k+1)=true) (hA0:((List.range k).all fun i=>(p8 l l.length [k]).contains i)=true) (hk:l.drop k=[⟨some d,op,ty0,ps0,af0,none⟩,⟨none,.store T x y,ty,ps,af,none⟩])
  (hC:Cl w.drew) (h:QL P l.toArray Cl (fun e'=>(∀w',Cl w'->∃f args,Does P (execOp (ev e') ⟨some d,op,ty0,ps0,af0,none⟩) w' (.enter f args) w'/\C P f args w' (fun r w''=>r=v/\R1 w'')) /\
   ∀w',R1 w'->∃w'',Does P (execOp (ev (upd e' d v)) ⟨none,.store T x y,ty,ps,af,none⟩) w' .skip w''/\Q .normal (upd e' d v) w'') 0 (l.take k) e):W P n (.region id l.toArray true) Q e w:=by
 refine W.Ac0 hm hB fun V hch hV=>?_;obtain⟨e',⟨sv0,iq1⟩,hJ⟩:=JL.out (h V);have hlen:l.length=k+2:=by
  have:=congrArg List.length hk;simp at this;omega
 have hl:l=l.take k ++ [⟨some d,op,ty0,ps0,af0,none⟩,⟨none,.store T x y,ty,ps,af,none⟩]:=by rw[<- hk,List.take_append_drop]
 have pp1:∀{D:Nat->Bool},V D->D k=true->∀i,i<k->D i=true:=fun{D} hD hDk i hi=>by
  rw[List.all_eq_true]at hA0;exact V6 hV hD l.length [k] (fun j hj=>by simp at hj;rw[hj];exact hDk) i (List.contains_iff_mem.1 (hA0 i (List.mem_range.2 hi)))
 refine⟨fun D w=>if D (k+1)=true then Q .normal (upd e' d v) w else if D k=true then R1 w else Cl w,by simpa using hC,?_⟩;have Ma0:∀(D:Nat->Bool)(i:Nat),i<k+1->D i=false->V D->D (k+1)=false:=fun D i hi K9 hVD=>by
  cases hDk:D (k+1)with
  |false=>rfl
  |true=>have:=si0 hA hV hVD hDk i Uo;rw[K9]at this;cases this
 have ff1:∀(D:Nat->Bool)(i:Nat),i<k->D i=false->V D->D k=false:=fun D i hi K9 hVD=>by
  cases hDk:D k with
  |false=>rfl
  |true=>have:=pp1 hVD hDk i hi;rw[K9]at this;cases this
 have key:∀(m:List Oper)(i:Nat)(e:Env),i+m.length=k->JL P l.toArray V (fun _=>Cl) (fun x=>x=e') i m e ->
   JL P l.toArray V (fun D w=>if D (k+1)=true then Q .normal (upd e' d v) w else if D k=true then R1 w else Cl w) (fun e2=>∀(D:Nat->Bool) w',(∀i,i<l.length->D i=true)->(if D (k+1)=true then Q .normal (upd e' d v) w' else if D k=true then R1 w' else Cl w')->Q .normal e2 w') i
    (m ++ [⟨some d,op,ty0,ps0,af0,none⟩,⟨none,.store T x y,ty,ps,af,none⟩]) e:=by
  intro m
  induction m with
  |nil=>
   intro i e2 hi hm2;obtain rfl:i=k:=by simpa using hi
   have ip1:e2=e':=hm2;subst ip1;refine⟨v,.inl ⟨rfl,fun D w K9 su0 _ hJw=>?_⟩,undef,.inl ⟨rfl,fun D w K9 su0 P5 hJw=>?_⟩,fun D w' hD W0=>?_⟩
   ·have hVD:=su0.1;have So0:Cl w:=by have h9:=hJw;simp only[K9,Ma0 D i Uo K9 hVD,Bool.false_eq_true,if_false]at h9;exact h9
    have hs1:E4 D i (i+1)=false:=by unfold E4;rw[if_neg Uo];exact Ma0 D i Uo K9 hVD
    have hs0:E4 D i i=true:=by simp[E4]
    obtain⟨f,args,h1,h2⟩:=sv0 w So0;exact .inr (.inr ⟨f,args,w,h1,C.mono h2 fun r w'' h3=>⟨h3.1,by simp only[hs1,hs0,Bool.false_eq_true,if_false,if_true];exact h3.2⟩⟩)
   ·have hVD:=su0.1;have hDk:D i=true:=by
     have:=si0 hA (V:=fun D'=>V D'\/(D'=E4 D (i+1))) (by
      rintro D' (hD'|rfl) j o hj hDj
      ·exact hV D' hD' j o hj hDj
      ·intro x hx hb;by_cases M3:j=i+1
       ·subst M3;rw[hl]at hj;have O1:(List.take i l).length=i:=by simp;omega
        rw[List.getElem?_append_right Uo,O1,show i+1-i=1 by omega]at hj;simp at hj;subst hj;have:=P5 x hx hb;unfold E4;split
        ·rfl
        ·exact this
       ·have h5:D j=true:=by unfold E4 at hDj;rw[if_neg M3]at hDj;exact hDj
        have:=hV D hVD j o hj h5 x hx hb;unfold E4;split
        ·rfl
        ·exact this) (.inr rfl) (by simp[E4]) i Uo
     unfold E4 at this;rw[if_neg Uo]at this;exact this
    have So0:R1 w:=by have h9:=hJw;simp only[K9,hDk,Bool.false_eq_true,if_false,if_true]at h9;exact h9
    obtain⟨w'',h1,h2⟩:=iq1 w So0;exact .inr (.inl ⟨rfl,w'',h1,by simp only[E4,if_true];exact h2⟩)
   ·rw[if_pos (hD (i+1) Uo)]at W0;exact W0
  |cons o m ih=>
   rintro i e2 hi ⟨v,h1,h2⟩;simp only[List.length_cons]at hi;have hs1:∀D:Nat->Bool,D i=false->V D->E4 D i (k+1)=false:=fun D K9 hVD=>by
    unfold E4;rw[if_neg Uo];exact Ma0 D i Uo K9 hVD
   have hs0:∀D:Nat->Bool,D i=false->V D->E4 D i k=false:=fun D K9 hVD=>by
    unfold E4;rw[if_neg Uo];exact ff1 D i Uo K9 hVD
   refine⟨v,?_,ih (i+1) _ Uo h2⟩;rcases h1 with⟨hw,hr⟩|⟨hw,hv,hr⟩
   ·refine .inl ⟨hw,fun D w K9 su0 P5 hJw=>?_⟩;refine U482 ?_;intro hVD hc;have h3:=hr D w K9 su0 P5 hc;have hs1:=hs1 D K9 hVD;have hs0:=hs0 D K9 hVD;exact mb0.mono h3 fun w' h4=>by simp only[hs1,hs0,Bool.false_eq_true,if_false];exact h4
   ·refine .inr ⟨hw,hv,fun D w K9 su0 P5 hJw=>?_⟩;refine U482 ?_;intro hVD hc;simp only[hs1 D K9 hVD,hs0 D K9 hVD,Bool.false_eq_true,if_false];exact hc
 have:=key (l.take k) 0 e (by simp;omega) hJ;rw[<- hl]at this;exact this
theorem sj0{P:Program}[Ctx P]{ρ:Operand->Value}{w:World}{d:Option Nat}{ty:TypeId}{ps:String}{af:Array Edge}{g:Option (Nat×Bool)}{x:Operand}{f:FuncId}{fn:Func}{aT:Array TypeId}{x0 x1:Operand}{v0 v1:Value}(hx:ρ x= .func (.func f) #[] #[])(h0:ρ x0=v0)(h1:ρ x1=v1)(hf:P.funcs[f]? =some fn)(hb:fn.body.isSome=true)(hn:Ue fn):Does P (execOp ρ ⟨d,.call ⟨.value x,#[x0,x1],aT⟩,ty,ps,af,g⟩) w (.enter f #[v0,v1]) w:=
 .N0 (cc0 hx hf hb hn) rfl rfl fun _τ _d=>Go.Vc.sj0 (hx:=hx) (h0:=h0) (h1:=h1) (hf:=hf) (hb:=hb) (hn:=hn)
section
variable{P:Program}[Ctx P]{n:Nat}{ops:Array Oper}{Q:Exit->Env->World->Prop}{rest:List Oper}{e:Env}{w:World}{ty:TypeId}{ps:String}{af:Array Edge}{x y:Operand}{T:TypeId}
theorem L.storeAll[Go.Vc.K3]{b s:Nat}{cs:Array Value}{vs:List Value}{E:TypeId}{v:Value}(hx:ev e x= .pointer (some ⟨b,0,none⟩))(hy:ev e y=v)(hvs:v.cells=vs.toArray)(hs:(P.info? T).map (·.size)=some s)(hl:vs.length=s)(hc:cs.size=s)(h1:∀u∈vs,u.oneCell'=true)(hB:I0 w b cs E)
  (k:∀w1,I0 w1 b vs.toArray E->w.grownBy w1 (some b)->w1.heap.size=w.heap.size->L P n ops Q rest e w1):L P n ops Q (⟨none,.store T x y,ty,ps,af,none⟩::rest) e w:=by
 refine L.Fr0 hx hy hvs hs (by simpa using hl) (by simpa using h1) hB Uo ?_;have h2:setRow cs 0 vs.toArray.toList=vs.toArray:=by rw[List.toList_toArray];exact sk0 Uo
 rw[h2];exact k _ (T2 _ _ _ hB) (ar0 (ap0 _ _) (.inl rfl) _ _) (ff0 _ _ _ _)
theorem W.ww1[Go.Vc.K3]{c:Code}{next:Env->World->Prop}(G:List Nat)(R:World->Prop)(h:W P n c (x9 (fun e' w'=>bk0 G e' e/\R w') Q) e w)(k:∀f w',R w'->next (hav G f e) w'):W P n c (x9 next Q) e w:=by
 refine W.cut _ h ?_;rintro e' w' ⟨hA,hR⟩;obtain⟨f,hf⟩:=hA.out;rw[hf];exact k f w' hR
end
theorem L.pq1[Go.Vc.K3]{P:Program}[Ctx P]{n:Nat}{ops:Array Oper}{Q:Exit->Env->World->Prop}{e:Env}{w:World}(k:Nat)(G:List Nat)(d:Nat)(v:Value){tj:Nat}{b:Bool}{l:List Oper}(Cl:World->Prop)(hb:e tj= .bool b)
  (ht:b=true->L P n ops (x9 (fun e' w'=>Cl w'/\e' d=v/\bk0 G e' e) Q) (l.take k) (upd e tj (.bool true)) w)
  (hf:b=false->L P n ops (x9 (fun e' w'=>Cl w'/\e' d=v/\bk0 G e' e) Q) (l.take k) (upd e tj (.bool false)) w)
  (h2:∀f w',Cl w'->L P n ops Q (l.drop k) (upd (hav G f e) d v) w'):L P n ops Q l e w:=by
 have h1:L P n ops (x9 (fun e' w'=>Cl w'/\e' d=v/\bk0 G e' e) Q) (l.take k) e w:=by
  cases b
  ·have:=hf rfl;rw[<- L0 hb]at this;exact this
  ·have:=ht rfl;rw[<- L0 hb]at this;exact this
 refine L.cut k _ h1 ?_;rintro e' w' ⟨hw,hd,hA⟩;obtain⟨f,hf⟩:=hA.out;rw[L0 hd,hf];exact h2 f w' hw
section
variable{P:Program}[Ctx P]{n:Nat}{Q:Exit->Env->World->Prop}{e:Env}{w:World}{ops:Array Oper}{rest:List Oper}
variable{d:Nat}{ty:TypeId}{ps:String}{af:Array Edge}{T E:TypeId}{x y z:Operand}
theorem L.ap1[Go.Vc.K3]{B s bytes m c':Nat}{b k c:Nat}{xs news:List Value}{zv:Value}{ad:Addr}(hx:ev e x= .slice (some ⟨b,0,none⟩) k c)(hy:ev e y= .slice (some ad) m c')(hT:P.underlying T=some (.slice E))
  (hi:(P.info? E).map (fun i=>(i.zero,i.size,i.bytes))=some (some zv,s,bytes)) (hz:zv.cells.size=s) (hs:0<s) (l9:Own w B E s (some ⟨b,0,none⟩) k c xs)
  (hl:news.length=m*s) (fl0:∀(j:Nat) u,news[j]? =some u->w.cell? (ad.add j)=some u) (h1:∀u∈news,u.oneCell'=true) (Fs0:k+m <=9223372036854775807) (hb:(k+m)*bytes <=140737488355328) (hB:B <=w.heap.size)
  (h:∀b' c2 w',Own w' B E s (some ⟨b',0,none⟩) (k+m) c2 (xs++news)->w.grownBy w' (some b)->((b'=b/\c2=c)\/(b'=w.heap.size/\Below w.heap.size w w'))->L P n ops Q rest (upd e d (.slice (some ⟨b',0,none⟩) (k+m) c2)) w') :
  L P n ops Q (⟨some d,.call ⟨.builtin .append,#[x,y],#[T,T]⟩,ty,ps,af,none⟩::rest) e w:=by
 refine L.may (R:=fun v w'=>∃b' c2,v= .slice (some ⟨b',0,none⟩) (k+m) c2/\Own w' B E s (some ⟨b',0,none⟩) (k+m) c2 (xs++news)/\w.grownBy w' (some b)/\((b'=b/\c2=c)\/(b'=w.heap.size/\Below w.heap.size w w'))) (N1 rfl _) (fun τ d'=>?_) (by rintro v w' ⟨b',c2,rfl,h2,h3,h4⟩;exact h b' c2 w' h2 h3 h4);generalize hu:G2 w τ d'=u;have l9:Own u B E s (some ⟨b,0,none⟩) k c xs:=by rw[<- hu];exact l9
 have fl0:∀(j:Nat) v,news[j]? =some v->u.cell? (ad.add j)=some v:=by rw[<- hu];exact fl0
 have hB:B <=u.heap.size:=by rw[<- hu];exact hB
 obtain⟨i,hi'⟩:∃i,P.info? E=some i:=by cases hh:P.info? E with|none=>rw[hh]at hi;cases hi|some i=>exact⟨i,rfl⟩
 rw[hi']at hi;simp only[Option.map_some,Option.some.injEq,Prod.mk.injEq]at hi;obtain⟨g1,g2,g3⟩:=hi;obtain⟨v',w',hr,h2,h3,h4⟩:=run_append_own (P:=P) u B T ty E i zv s bytes hT hi' g1 g2 g3 hz hs (.slice (some ⟨b,0,none⟩) k c) k xs l9 ad m c' news hl fl0 h1 (by simpa [maxLen]using Fs0) hb hB;have hv:∃b' c2,v'= .slice (some ⟨b',0,none⟩) (k+m) c2/\((b'=b/\c2=c)\/(b'=u.heap.size/\Below u.heap.size u w')):=by
  rcases l9.2 with⟨hv0,_⟩|⟨g,cap,cur,hv0,hbg,hg,hnc,hcm,hcs,Bh1⟩
  ·cases hv0
  ·cases hv0;by_cases fg1:k+m <=c
   ·have ir1:k*i.size+news.length <=cur.size:=by rw[hl,hcs,g2,<- Nat.add_mul];exact Nat.mul_le_mul_right _ fg1
    have:=run_append_room (P:=P) u T ty E i hT hi' b k c cur hg ad m c' news (by rw[g2];exact hl) fl0 h1 fg1 ir1;rw[hr]at this;cases this;exact⟨_,_,rfl,.inl ⟨rfl,rfl⟩⟩
   ·have holds:∀j z,xs[j]? =some z->u.cell? ((⟨b,0,none⟩:Addr).add j)=some z:=l9.cells (g:=b) rfl;have:=run_append_grow (P:=P) u T ty E i zv hT hi' g1 ⟨b,0,none⟩ k c xs (by rw[g2];exact l9.1) holds ad m c' news (by rw[g2];exact hl) fl0 Uo Uo (growslice_fits Uo (by rw[g3];exact hb));rw[hr]at this;cases this;exact⟨_,_,rfl,.inr ⟨rfl,(Below.refl _ _).drew.alloc (Nat.le_refl _) _⟩⟩
 obtain⟨b',c2,rfl,hbb⟩:=hv;refine⟨_,w',?_,b',c2,rfl,h2,by subst hu;exact Ag0 h3,by subst hu;exact hbb.imp id fun h=>⟨h.1,Ah0 h.2⟩⟩;simp only[execOp,resolve,invoke,builtin,Sem.run_bind,Sem.run_pure,Result.andThen_ok,List.map_toArray,List.map_cons,List.map_nil,hx,hy,hr]
end
section
variable{P:Program}[Ctx P]{ops:Array Oper}{V:(Nat->Bool)->Prop}{J:(Nat->Bool)->World->Prop}{n:Nat}
section
variable{id:Nat}{l:List Oper}{Q:Exit->Env->World->Prop}{e:Env}{w:World}
theorem Sp0[Go.Vc.K3](h:Ord n ops){e0:Env}{vals:Nat->Value}{k:Nat}(hk:k<ops.size)(Sm0:∀i o,i<k->ops[i]? =some o->Loc P ops V J i o (EE e0 ops.toList vals i) (vals i))
  (ep0:∀D,V D->∀i,k <=i->i<ops.size->D i=true->∀j,j<i->D j=true)
  {Q:Exit->Act->World->Prop} (hQ:∀a w D,Rep n a (EE e0 ops.toList vals k)->(∀i,i<k->D i=true)->J D w->wpOps P ops Q (List.range' k (ops.size-k)) a w) :
  ∀{listed:Array Bool}{σ:List Nat},Lin ops listed σ->(∀τ ρ,σ=τ++ρ->V (fun j=>listed.getD j false ||τ.contains j)) ->
   ∀(a:Act)(e:Env)(w:World),listed.size=ops.size->(∀j,k <=j->listed.getD j false=false)->Rep n a e->Mid ops e0 vals listed e->J (fun j=>listed.getD j false) w->wpOps P ops Q σ a w:=by
 intro listed σ R5
 induction R5 with
 | @nil listed hr=>
  intro _ a e w hs hkf ha hm hJ;have:=la0 h hs hr k Uo;rw[hkf k (Nat.le_refl _)]at this;cases this
 | @cons listed i σ hi hl ih=>
  intro hV a e w hs hkf ha hm hJ;have hi0:=hi;obtain⟨h1,o,ho,P5⟩:=mem_ready.1 hi;have hio:i<ops.size:=(Array.getElem?_eq_some_iff.1 ho).1;have z8:i<listed.size:=by omega
  have K9:(fun j=>listed.getD j false) i=false:=by
   show listed.getD i false=false;simp only[Array.getD_eq_getD_getElem?,z8,Array.getElem?_eq_getElem,Option.getD_some]at h1⊢;exact h1
  have hVD:V (fun j=>listed.getD j false):=by
   have:=hV [] (i::σ) rfl;have e1:(fun j=>listed.getD j false ||([]:List Nat).contains j)=fun j=>listed.getD j false:=funext fun j=>by simp
   rw[e1]at this;exact this
  have hVD:V (fun j=>listed.getD j false)/\V (E4 (fun j=>listed.getD j false) i):=by
   refine⟨hVD,?_⟩;have:=hV [i] σ rfl;have e1:(fun j=>listed.getD j false ||([i]:List Nat).contains j)=E4 (fun j=>listed.getD j false) i:=funext fun j=>by
    unfold E4;by_cases hj:j=i
    ·simp[hj]
    ·simp[hj]
   rw[e1]at this;exact this
  by_cases hik:k <=i
  ·have at0:∀j,j<i->listed.getD j false=true:=fun j hj=>by
    have:=ep0 _ hVD.2 i hik hio (by simp[E4]) j hj;unfold E4 at this;rw[if_neg Uo]at this;exact this
   have hki:i=k:=by
    rcases Nat.lt_or_ge k i with h3|h3
    ·have:=at0 k h3;rw[hkf k (Nat.le_refl _)]at this;cases this
    ·omega
   subst hki;refine U532 ?_;intro hσ;have he:e=EE e0 ops.toList vals i:=by
    funext t;have hlz:∀j:Nat,ops.toList[j]? =ops[j]?:=fun j=>by rw[Array.getElem?_toList]
    by_cases hex:∃(j:Nat) (p:Oper),j<i/\ops[j]? =some p/\p.dst=some t
    ·obtain⟨j,p,hj,hp,hd⟩:=hex;exact U399
    ·rw[hm.rt0 t (fun j p hp hd=>by
      rcases Nat.lt_or_ge j i with h3|h3
      ·exact absurd ⟨j,p,h3,hp,hd⟩ hex
      ·exact hkf j h3)]
     exact(my0 e0 ops.toList vals t _ (fun j p hj hp hd=>hex ⟨j,p,hj,by rw[<- hlz];exact hp,hd⟩)).symm
   subst he;exact hQ a w _ ha at0 hJ
  ·have hlk:=ru0 h hm ho P5;refine U347 ?_;intro hex hwa;have hV':∀τ ρ,σ=τ++ρ->V (fun j=>(listed.setIfInBounds i true).getD j false ||τ.contains j):=by
    intro τ ρ hσ;have:=hV (i::τ) ρ (by rw[hσ];rfl);have e1:(fun j=>listed.getD j false ||(i::τ).contains j)=fun j=>(listed.setIfInBounds i true).getD j false ||τ.contains j:=by
     funext j;by_cases hj:i=j
     ·subst hj;simp[z8]
     ·rw[getD_set_ne false hj];simp[Ne.symm hj]
    rw[e1]at this;exact this
   have next:∀w',J (E4 (fun j=>listed.getD j false) i) w'->wpOps P ops Q σ (a.put o.dst (vals i)) w':=by
    intro w' hJ';refine ih hV' _ _ w' (by simp[hs]) (fun j hj=>by rw[getD_set_ne false Uo];exact hkf j hj) (ha.put (h.dst i o ho) (vals i)) (hm.step h ho z8) ?_;rw[mz0 z8];exact hJ'
   unfold wpOps;rw[ho];simp only;rw[c6 ha,hwa];rcases Sm0 i o Uo ho with⟨hw,hl⟩|⟨hw,hv,hl⟩
   ·rw[if_pos hw];have x8:=hl (fun j=>listed.getD j false) w K9 hVD P5 hJ;rw[<- hex,<- ha.eval]at x8;exact ss0 x8 next
   ·rw[if_neg (by rw[hw];simp)];exact U505
theorem W.is1[Go.Vc.K3](k:Nat)(hm:P.follows .mixedOrders=true)(hB:vs0 n l.toArray=true)(hA:sl0 l k=true)(hk:Nat.blt k l.length=true)
  (h:∀V:(Nat->Bool)->Prop,(∀D D',V D->V D'->(∀k,D k=true->D' k=true)\/(∀k,D' k=true->D k=true))->(∀D,V D->∀i o,l[i]? =some o->D i=true->j6 o D) ->
   ∃J:(Nat->Bool)->World->Prop,J (fun _=>false) w.drew/\JL P l.toArray V J (fun e'=>∀D w',(∀i,i<k->D i=true)->J D w'->L P n l.toArray Q (l.drop k) e' w') 0 (l.take k) e):W P n (.region id l.toArray true) Q e w:=by
 intro a ha;have ho:=Iu0 hB;have hkl:k<l.length:=by rw[Nat.blt_eq]at hk;exact hk
 refine wp_region_draw fun t=>?_;simp only[Region.schedule,hm,Bool.true_or,if_true];have R5:=lw0 l.toArray l.toArray.size t (Array.replicate l.toArray.size false) (by simp) (by simp);unfold Region.linearise;generalize Region.linearise.go .any l.toArray l.toArray.size t (Array.replicate l.toArray.size false) []=σ at R5⊢;have iu0:=iq0 R5 (fun i o _ hi=>by rw[K0]at hi;cases hi) (by simp);have fi0:∀D,Pre σ D->∀i o,l[i]? =some o->D i=true->j6 o D:=by
  rintro D ⟨τ,ρ,hσ,hD⟩ i o hi K9 x hx hb;have:=iu0 τ ρ hσ i o (by simpa using hi) (.inr ((hD i).1 K9)) x hx hb;rcases this with h1|h1
  ·rw[K0]at h1;cases h1
  ·exact(hD _).2 h1
 obtain⟨J,hJ,hjl⟩:=h (Pre σ) (fun D D' h1 h2=>h1.chain h2) fi0;obtain⟨vals,h1,h2⟩:=JL.collect (l.take k) 0 e hjl;have hEE:∀j,j <=k->EE e (l.take k) vals j=EE e l vals j:=by
  intro j
  induction j with
  |zero=>intro _;rfl
  |succ j ih=>
   intro hj;simp only[EE,ih Uo];rw[List.getElem?_take_of_lt Uo]
 have O1:(l.take k).length=k:=by simp;omega
 refine Sp0 (V:=Pre σ) (J:=J) ho (e0:=e) (vals:=vals) (k:=k) (by simpa using hkl) (fun i o' hi ho'=>?_) (fun D hD i hki z8=>sm0 hA fi0 hD i hki (by simpa using z8)) (fun a' w' D ha' hD hJ'=>?_) R5 ?_ a e _ (by simp) (fun j _=>K0 _ _) ha ⟨fun j o t _ _ hl=>?_,fun t _=>rfl⟩ ?_
 ·have:=h1 i o' (by rw[List.getElem?_take_of_lt hi];simpa using ho');rw[hEE i Uo]at this;simpa using this
 ·rw[O1,hEE k (Nat.le_refl _)]at h2;have h3:=h2 D w' hD hJ';have h4:=h3 (fun o' ho'=>by
   obtain⟨i,hi⟩:=List.mem_iff_getElem?.1 ho';rw[List.getElem?_drop]at hi;exact ho.dst (k+i) o' (by simpa using hi)) a' (by simpa using ha')
  have h5:=wpOps_eq_wpList (P:=P) (ops:=l.toArray) (Q:=lift n Q) (l.drop k) k (fun j=>by rw[List.getElem?_drop];simp);rw[List.length_drop]at h5;have h6:l.toArray.size-k=l.length-k:=by simp
  rw[h6,h5];exact h4
 ·intro τ ρ hσ;exact⟨τ,ρ,hσ,fun k=>by show((Array.replicate l.toArray.size false).getD k false ||τ.contains k)=true↔_;rw[K0];simp⟩
 ·rw[K0]at hl;cases hl
 ·have:(fun k=>(Array.replicate l.toArray.size false).getD k false)=fun _=>false:=funext fun k=>K0 _ _;rw[this];exact hJ
theorem W.px0[Go.Vc.K3](k:Nat)(Cl:World->Prop)(hm:P.follows .mixedOrders=true)(hB:vs0 n l.toArray=true)(hA:sl0 l k=true)(hk:Nat.blt k l.length=true)
  (hC:Cl w.drew) (h:QL P l.toArray Cl (fun e'=>∀w',Cl w'->L P n l.toArray Q (l.drop k) e' w') 0 (l.take k) e):W P n (.region id l.toArray true) Q e w:=by
 refine W.is1 k hm hB hA hk fun V _ _=>⟨fun _=>Cl,hC,?_⟩
 have mono:∀(l':List Oper)(i:Nat)(e:Env),JL P l.toArray V (fun _=>Cl) (fun e'=>∀w',Cl w'->L P n l.toArray Q (l.drop k) e' w') i l' e->JL P l.toArray V (fun _=>Cl) (fun e'=>∀(D:Nat->Bool) w',(∀i,i<k->D i=true)->Cl w'->L P n l.toArray Q (l.drop k) e' w') i l' e:=by
  intro l'
  induction l' with
  |nil=>exact fun i e h _ w' _ hw=>h w' hw
  |cons o l' ih=>exact fun i e ⟨v,h1,h2⟩=>⟨v,h1,ih _ _ h2⟩
 exact mono _ 0 e (h V)
end
end
section
variable{P:Program}[Ctx P]
end
section
variable{P:Program}{ρ:Operand->Value}{w:World}{d:Option Nat}{ty:TypeId}{ps:String}{af:Array Edge}{g:Option (Nat×Bool)}
variable{x y:Operand}{T T' E:TypeId}
theorem J8{q:Option Addr}(hx:ρ x= .pointer q)(hy:ρ y= .pointer none)(hT:P.underlying T=some (.pointer E)):Does P (execOp ρ ⟨d,.binOp .neq T x y T',ty,ps,af,g⟩) w (.val (.bool q.isSome)) w:=
 .N0 (Fp0 hx hy) rfl rfl fun _τ _d=>Go.Vc.J8 (hx:=hx) (hy:=hy) (hT:=hT)
theorem dp0{v:Value}{b:Bool}{u:TypeDesc}(hx:ρ x=v)(hv:(v= .nilFunc/\b=true)\/(∃f xs ys,v= .func f xs ys/\b=false))(hy:ρ y= .nilFunc)(hT:P.underlying T=some u)(hu:∃a b c,u= .func a b c):Does P (execOp ρ ⟨d,.binOp .eql T x y T',ty,ps,af,g⟩) w (.val (.bool b)) w:=
 .N0 (Om0 (pl1 hv) hx hy) rfl rfl fun _τ _d=>Go.Vc.dp0 (hx:=hx) (hv:=hv) (hy:=hy) (hT:=hT) (hu:=hu)
theorem ec0{v:Value}{b:Bool}{u:TypeDesc}(hx:ρ x=v)(hv:(v= .nilFunc/\b=false)\/(∃f xs ys,v= .func f xs ys/\b=true))(hy:ρ y= .nilFunc)(hT:P.underlying T=some u)(hu:∃a b c,u= .func a b c):Does P (execOp ρ ⟨d,.binOp .neq T x y T',ty,ps,af,g⟩) w (.val (.bool b)) w:=
 .N0 (Jb0 (pl1 hv) hx hy) rfl rfl fun _τ _d=>Go.Vc.ec0 (hx:=hx) (hv:=hv) (hy:=hy) (hT:=hT) (hu:=hu)
theorem kj0{f:FuncId}{fn:Func}{aT:Array TypeId}{ys:Array Value}(hx:ρ x= .func (.func f) #[] ys)(hf:P.funcs[f]? =some fn)(hb:fn.body.isSome=true)(hn:Ue fn):Does P (execOp ρ ⟨d,.call ⟨.value x,#[],aT⟩,ty,ps,af,g⟩) w (.enter f ys) w:=
 .N0 (cc0 hx hf hb hn) rfl rfl fun _τ _d=>Go.Vc.kj0 (hx:=hx) (hf:=hf) (hb:=hb) (hn:=hn)
end
section
variable{P:Program}[Ctx P]
end
section
end
section
variable{P:Program}[Ctx P]{n:Nat}{ops:Array Oper}{Q:Exit->Env->World->Prop}{rest:List Oper}{e:Env}{w:World}{ty:TypeId}{ps:String}{af:Array Edge}{x y:Operand}{T:TypeId}
section
variable{b s:Nat}{cs:Array Value}{E:TypeId}{v:Value}
theorem L.put[Go.Vc.K3]{o:Nat}{vs:List Value}(S6:Array Value)(hx:ev e x= .pointer (some ⟨b,o,none⟩))(hy:ev e y=v)(hvs:v.cells.toList=vs)(hs:(P.info? T).map (·.size)=some s)(hl:vs.length=s)(h1:vs.all Value.oneCell'=true)(hB:I0 w b cs E)(ho:o+s <=cs.size)(hcs:setRow cs o vs=S6)
  (k:∀w1,I0 w1 b S6 E->w.grownBy w1 (some b)->w1.heap.size=w.heap.size->L P n ops Q rest e w1):L P n ops Q (⟨none,.store T x y,ty,ps,af,none⟩::rest) e w:=by
 have it1:v.cells=vs.toArray:=by rw[<- hvs]
 refine L.Fr0 hx hy it1 hs (by simpa using hl) (by simpa using h1) hB ho ?_;rw[List.toList_toArray,hcs];exact k _ (T2 _ _ _ hB) (ar0 (ap0 _ _) (.inl rfl) _ _) (ff0 _ _ _ _)
theorem L.pu[Go.Vc.K3](o:Nat)(vs:List Value)(S6:Array Value)(hs:(P.info? T).map (·.size)=some s)(hB:I0 w b cs E)(k:∀w1,I0 w1 b S6 E->w.grownBy w1 (some b)->w1.heap.size=w.heap.size->L P n ops Q rest e w1)(hx:ev e x= .pointer (some ⟨b,o,none⟩):=by rfl)(hy:ev e y=v:=by rfl)(hvs:v.cells.toList=vs:=by rfl)(hl:vs.length=s:=by rfl)(h1:vs.all Value.oneCell'=true:=by rfl)(ho:o+s <=cs.size:=by exact Nat.le_of_ble_eq_true rfl)(hcs:setRow cs o vs=S6:=by rfl):L P n ops Q (⟨none,.store T x y,ty,ps,af,none⟩::rest) e w:=L.put S6 hx hy hvs hs hl h1 hB ho hcs k
theorem L.pa[Go.Vc.K3](vs:List Value)(hs:(P.info? T).map (·.size)=some s)(hB:I0 w b cs E)(k:∀w1,I0 w1 b vs.toArray E->w.grownBy w1 (some b)->w1.heap.size=w.heap.size->L P n ops Q rest e w1)(hx:ev e x= .pointer (some ⟨b,0,none⟩):=by rfl)(hy:ev e y=v:=by rfl)(hvs:v.cells.toList=vs:=by rfl)(hl:vs.length=s:=by rfl)(h1:vs.all Value.oneCell'=true:=by rfl)(ho:0+s <=cs.size:=by exact Nat.le_of_ble_eq_true rfl)(hcs:setRow cs 0 vs=vs.toArray:=by exact sk0 rfl):L P n ops Q (⟨none,.store T x y,ty,ps,af,none⟩::rest) e w:=L.put vs.toArray hx hy hvs hs hl h1 hB ho hcs k
end
end
theorem ends.cell{P:Program}[Ctx P]{fn:Func}{R:Value->World->Prop}{x:Exit}{e:Env}{w:World}{t b:Nat}{cs:Array Value}{T E:TypeId}{u:TypeDesc}(hx:x= .normal\/x= .ret)(hr:fn.results=#[.cell t T])
  (he:e t= .pointer (some ⟨b,0,Option.none⟩)) (hT:P.underlying T=some u) (hu:bm0 u=false) (hs:(P.info? T).map (·.size)=some cs.size) (hB:I0 w b cs E) (h:R (.agg cs) w):ends P fn R x e w:=ends.Lz0 hx hr he hT hu hs hB h
theorem ends.aq1{P:Program}[Ctx P]{fn:Func}{R:Value->World->Prop}{x:Exit}{e:Env}{w:World}{t u b:Nat}{cs:Array Value}{T E:TypeId}{d:TypeDesc}(hx:x= .normal\/x= .ret)(hr:fn.results=#[.cell t T,.tmp u])
  (he:e t= .pointer (some ⟨b,0,Option.none⟩)) (hT:P.underlying T=some d) (hu:bm0 d=false) (hs:(P.info? T).map (·.size)=some cs.size) (hB:I0 w b cs E) (h:R (.tuple #[.agg cs,e u]) w):ends P fn R x e w:=
 ⟨hx,_,fun tmps ht=>iw0 ix0 fun τ d'=>by
  have hB:I0 (G2 w τ d') b cs E:=hB;generalize G2 w τ d'=w at hB⊢;have h1:(loadVar T ⟨b,0,Option.none⟩).run P w= .ok (.agg cs) w:=by
   have h2:∀j v,cs.toList[j]? =some v->w.cell? ((⟨b,0,Option.none⟩:Addr).add j)=some v:=fun j v hj=>by
    rw[Addr.add_lit,Nat.zero_add];exact hB.cell (by simpa using hj)
   have:=run_loadCells_list (P:=P) (w:=w) ⟨b,0,Option.none⟩ cs.toList h2;simp only[Array.length_toList]at this;simp[loadVar,Go.Vc.dn0 hT,hu,Go.Vc.run_sizeOf hs,this]
  have h3:tmps.getD t undef= .pointer (some ⟨b,0,Option.none⟩):=by rw[ht,he]
  rw[results_cell_tmp hr,h3];simp[asAddr,h1,ht],h⟩
theorem p6{P:Program}[Ctx P]{ρ:Operand->Value}{w:World}{d:Option Nat}{ty:TypeId}{ps:String}{af:Array Edge}{g:Option (Nat×Bool)}{fn:Fn}{l:List Operand}{vs:List Value}(h:l.map ρ=vs):Does P (execOp ρ ⟨d,.makeFunc fn #[] l.toArray,ty,ps,af,g⟩) w (.val (.func fn #[] vs.toArray)) w:=
 .N0 (N1 rfl _) rfl rfl fun _τ _d=>Go.Vc.p6 (h:=h)
section
variable{P:Program}[Ctx P]
end
section
variable{P:Program}[Ctx P]
end
section
variable{P:Program}[Ctx P]{n:Nat}{Q:Exit->Env->World->Prop}{e:Env}{w:World}{ops:Array Oper}{rest:List Oper}
variable{d:Nat}{ty:TypeId}{ps:String}{af:Array Edge}{T E:TypeId}{x y:Operand}
theorem L.ar1[Go.Vc.K3]{m c s bytes:Nat}{zv z0:Value}(hx:ev e x= .int .i64 (m:Int))(hy:ev e y= .int .i64 (c:Int))(hT:P.underlying T=some (.slice E))(hi:(P.info? E).map (fun i=>(i.zero,i.size,i.bytes))=some (some zv,s,bytes))(hz:zv.cells=Array.replicate s z0)(hs:0<s)
  (hmc:m <=c) (hm:c <=9223372036854775807) (hb:c*bytes <=281474976710656) (k:∀w1 b,jp0 w w1 b (Array.replicate (c*s) z0) E->L P n ops Q rest (upd e d (.slice (some ⟨b,0,none⟩) m c)) w1) :
  L P n ops Q (⟨some d,.makeSlice T x y,ty,ps,af,none⟩::rest) e w:=by
 refine L.va (w':=w.alloc (.cells (Array.replicate (c*s) z0) E)) (.N0 (N1 rfl _) rfl rfl fun τ d'=>?_) (k _ _ (B7 w _ E));show(execOp (ev e) ⟨some d,.makeSlice T x y,ty,ps,af,none⟩).run P (G2 w τ d')= .ok (.value (.slice (some ⟨(G2 w τ d').heap.size,0,none⟩) m c)) ((G2 w τ d').alloc (.cells (Array.replicate (c*s) z0) E));generalize G2 w τ d'=w;obtain⟨i,hi'⟩:∃i,P.info? E=some i:=by cases hh:P.info? E with|none=>rw[hh]at hi;cases hi|some i=>exact⟨i,rfl⟩
 rw[hi']at hi;simp only[Option.map_some,Option.some.injEq,Prod.mk.injEq]at hi;obtain⟨h1,rfl,rfl⟩:=hi;have hr:=run_make (P:=P) w T E i zv hT hi' h1 .i64 .i64 (m:Int) (c:Int) Uo Uo (by
  have:((c*i.bytes:Nat):Int) <=281474976710656:=by omega
  rw[Int.natCast_mul,Int.mul_comm]at this;exact this) Uo
 rw[hz,ls0 _ _ hs]at hr;simp only[Int.toNat_natCast]at hr;simp only[execOp,hx,hy,Sem.run_bind,hr,Result.andThen_ok,Sem.run_pure]
end
section
variable{P:Program}[Ctx P]
end
section
variable{P:Program}[Ctx P]
end
section
variable{P:Program}{ρ:Operand->Value}{w:World}{d:Option Nat}{ty:TypeId}{ps:String}{af:Array Edge}{g:Option (Nat×Bool)}{x:Operand}{T E:TypeId}
theorem sn0{v zv:Value}(hx:ρ x=v)(h1:v.oneCell'=true)(hT:P.underlying T=some (.slice E))(hs:(P.info? E).map (·.size)=some 1)(hz:(P.info? E).bind (·.zero)=some zv)(hzc:zv.cells.size=1):Does P (execOp ρ ⟨d,.buildSlice T 1 #[(0,x)],ty,ps,af,g⟩) w (.val (.slice (some ⟨w.heap.size,0,none⟩) 1 1)) (w.alloc (.cells #[v] E)):=
 .N0 (N1 rfl _) rfl rfl fun _τ _d=>Go.Vc.sn0 (hx:=hx) (h1:=h1) (hT:=hT) (hs:=hs) (hz:=hz) (hzc:=hzc)
end
section
variable{P:Program}[Ctx P]
end
section
variable{P:Program}[Ctx P]{ops:Array Oper}{n:Nat}{I:(Nat->Bool)->Env->World->Prop}
def wx1(P:Program)[Ctx P](I:(Nat->Bool)->Env->World->Prop)(i:Nat)(o:Oper)(D:Nat->Bool)(e:Env)(r:Out)(w':World):Prop:=match r with
 | .val v=>I (E4 D i) (V3 e o.dst v) w'
 | .skip=>I (E4 D i) (V3 e o.dst undef) w'
 | .enter f args=>C P f args w' (fun v w''=>I (E4 D i) (V3 e o.dst v) w'')
 | .panic _=>False
def Mb0(P:Program)[Ctx P](ops:Array Oper)(I:(Nat->Bool)->Env->World->Prop)(i:Nat)(o:Oper)(D:Nat->Bool)(e:Env)(w:World):Prop:=
 (Region.wanted o (G3 ops e)=true/\∀τ d,∃r w',Fg0 P (execOp (ev e) o) (G2 w τ d) r w'/\wx1 P I i o D e r (G2 w' w.tape w.drawn)) \/
 (Region.wanted o (G3 ops e)=false/\I (E4 D i) (V3 e o.dst undef) w)
theorem as1[Go.Vc.K3](h:Bk n ops)(cl0:∀i o,ops[i]? =some o->∀D e w,D i=false->j6 o D->(∀j o',ops[j]? =some o'->D j=true->j6 o' D)->I D e w->Mb0 P ops I i o D e w)
  {Q:Exit->Act->World->Prop} (hQ:∀a w D e,Rep n a e->(∀i,i<ops.size->D i=true)->I D e w->Q .normal a w) :
  ∀{listed:Array Bool}{σ:List Nat},Lin ops listed σ->∀(a:Act)(e:Env)(w:World),listed.size=ops.size->Rep n a e->(∀j o',ops[j]? =some o'->listed.getD j false=true->j6 o' (fun k=>listed.getD k false))->I (fun k=>listed.getD k false) e w->wpOps P ops Q σ a w:=by
 intro listed σ R5
 induction R5 with
 | @nil listed hr=>
  intro a e w hs ha _ hI;exact hQ a w _ e ha (lz0 h hs hr) hI
 | @cons listed i σ hi _ ih=>
  intro a e w hs ha y7 hI;obtain⟨h1,o,ho,P5⟩:=mem_ready.1 hi;have hio:i<ops.size:=(Array.getElem?_eq_some_iff.1 ho).1;have z8:i<listed.size:=by omega
  have K9:(fun k=>listed.getD k false) i=false:=by
   show listed.getD i false=false;simp only[Array.getD_eq_getD_getElem?,z8,Array.getElem?_eq_getElem,Option.getD_some]at h1⊢;exact h1
  have hs':=cl0 i o ho (fun k=>listed.getD k false) e w K9 P5 y7 hI;have ln0:∀j o',ops[j]? =some o'->(listed.setIfInBounds i true).getD j false=true->j6 o' (fun k=>(listed.setIfInBounds i true).getD k false):=by
   intro j o' ho' hj x hx hb;by_cases hij:i=j
   ·subst hij;obtain rfl:o'=o:=Option.some.inj (ho'.symm.trans ho);exact getD_set_true (P5 x hx hb)
   ·rw[getD_set_ne false hij]at hj;exact getD_set_true (y7 j o' ho' hj x hx hb)
  have next:∀v w',I (E4 (fun k=>listed.getD k false) i) (V3 e o.dst v) w'->wpOps P ops Q σ (a.put o.dst v) w':=fun v w' hI'=>
   ih _ _ w' (by simp[hs]) (ha.put (h.dst i o ho) v) ln0 (by rw[mz0 z8];exact hI')
  unfold wpOps;rw[ho];simp only;rw[c6 ha];rcases hs' with⟨hw,hr⟩|⟨hw,hr⟩
  ·rw[if_pos hw];intro τ d;rw[ha.eval];obtain⟨r,w',h1,h2⟩:=hr τ d;refine⟨r,w',h1,?_⟩;cases r with
   |val u=>exact next u _ h2
   |skip=>exact next undef _ h2
   |enter f args=>
    refine Calls.mono h2 fun x w'' hx=>?_;cases x with
    |returned u=>exact next u w'' hx
    |panicked ch=>exact hx.elim
    |outgrown=>exact hx.elim
   |panic u=>exact h2.elim
  ·rw[if_neg (by rw[hw];simp)];exact next undef w hr
theorem W.inv[Go.Vc.K3]{id:Nat}{l:List Oper}{Q:Exit->Env->World->Prop}{e:Env}{w:World}(I:(Nat->Bool)->Env->World->Prop)(hm:P.follows .mixedOrders=true)(hB:fc1 n l.toArray=true)(h0:I (fun _=>false) e w.drew)
  (cl0:∀i o,l[i]? =some o->∀D e w,D i=false->j6 o D->(∀j o',l[j]? =some o'->D j=true->j6 o' D)->I D e w->Mb0 P l.toArray I i o D e w)
  (eo0:∀D e w,(∀i,i<l.length->D i=true)->I D e w->Q .normal e w):W P n (.region id l.toArray true) Q e w:=by
 intro a ha;have ho:=pe1 hB;refine wp_region_draw fun t=>?_;simp only[Region.schedule,hm,Bool.true_or,if_true];have R5:=lw0 l.toArray l.toArray.size t (Array.replicate l.toArray.size false) (by simp) (by simp);unfold Region.linearise;generalize Region.linearise.go .any l.toArray l.toArray.size t (Array.replicate l.toArray.size false) []=σ at R5⊢;refine as1 (I:=I) ho (fun i o hi D e w h1 h2 h3 h4=>cl0 i o (by simpa using hi) D e w h1 h2 (fun j o' hj=>h3 j o' (by simpa using hj)) h4) (fun a' w' D e' ha' hD hI=>⟨e',ha',eo0 D e' w' (fun i hi=>hD i (by simpa using hi)) hI⟩) R5 a e _ (by simp) ha (fun j o' _ hj=>?_) ?_
 ·rw[K0]at hj;cases hj
 ·have:(fun k=>(Array.replicate l.toArray.size false).getD k false)=fun _=>false:=funext fun k=>K0 _ _;rw[this];exact h0
end
section
variable{P:Program}[Ctx P]
end
section
variable{P:Program}[Ctx P]{n:Nat}{ops:Array Oper}{Q:Exit->Env->World->Prop}{rest:List Oper}{e:Env}{w:World}{ty:TypeId}{ps:String}{af:Array Edge}{x y:Operand}{T:TypeId}
theorem L.Ft0[Go.Vc.K3]{B m c i:Nat}{E:TypeId}{a:Option Addr}{f:Nat->Value}{v:Value}(hx:ev e x= .pointer (some ⟨ab a,ao a+i*1,none⟩))(hy:ev e y=v)(hs:(P.info? T).map (·.size)=some 1)(h1:v.oneCell'=true)(hO:Own w B E 1 a m c (lst f m))(hi:i<m)
  (k:∀w1,Own w1 B E 1 a m c (lst (upf f i v) m)->y5 w w1 B [E]->L P n ops Q rest e w1):L P n ops Q (⟨none,.store T x y,ty,ps,af,none⟩::rest) e w:=by
 have ha:=hO.ir0 Uo;obtain⟨r,rfl⟩:=hO.qy0 ha;obtain⟨cur,hB,hb,hnc,hcm,hcs,ht⟩:=hO.row ha;simp only[ab,ao,Option.map_some,Option.getD_some,Nat.zero_add,Nat.mul_one]at *;refine L.store hx hy hs h1 hB Uo ?_;have hB':=hB.set (o:=i) v;refine k _ ⟨by rw[fh0];omega,.inr ⟨r,c,_,rfl,hb,hB',hnc,hcm,by rw[Array.size_setIfInBounds];omega,?_⟩⟩ (y5.put hB (ft0 w ⟨r,i,none⟩ v) hb (by simp));rw[Nat.mul_one,Array.toList_setIfInBounds,List.take_set,ht,ak1 hi]
end
section
variable{P:Program}[Ctx P]
end
section
variable{P:Program}{ρ:Operand->Value}{w:World}{d:Option Nat}{ty:TypeId}{ps:String}{af:Array Edge}{g:Option (Nat×Bool)}
theorem cj0{S:TypeId}{x:Operand}{v:Value}{td:TypeDesc}(hx:ρ x=v)(hT:P.underlying S=some td)(hn:(match td with| .interface _=>false|_=>true)=true):Does P (execOp ρ ⟨d,.makeInterface S x,ty,ps,af,g⟩) w (.val (.iface S v)) w:=
 .N0 (N1 rfl _) rfl rfl fun _τ _d=>Go.Vc.cj0 (hx:=hx) (hT:=hT) (hn:=hn)
end
section
variable{P:Program}[Ctx P]
end
def FL[Go.Vc.K3](P:Program)[Ctx P](n:Nat)(l0:List Oper)(K:World->Prop)(ch:Nat->Bool)(Q:Env->World->Prop):List Nat->Env->World->Prop
 | [],e,w=>Q e w
 |i::rest,e,w=>∃o,l0[i]? =some o/\if ch i=true then L P n l0.toArray (fun x e' w'=>x= .normal/\K w'/\FL P n l0 K ch Q rest e' w') [o] e w
  else ∃v,((Region.wanted o (G3 l0.toArray e)=true/\∀w',K w'->Does P (execOp (ev e) o) w' (.val v) w')\/(Region.wanted o (G3 l0.toArray e)=false/\v=undef))/\FL P n l0 K ch Q rest (V3 e o.dst v) w
section
variable{P:Program}[Ctx P]{n:Nat}{l0:List Oper}{K:World->Prop}{ch:Nat->Bool}{Q:Env->World->Prop}{rest:List Nat}{e:Env}{w:World}{d:Nat}{op:Op}{ty:TypeId}{ps:String}{af:Array Edge}{v:Value}{i:Nat}{o:Oper}
theorem F.nil[Go.Vc.K3](h:Q e w):FL P n l0 K ch Q [] e w:=h
theorem F.va[Go.Vc.K3](hl:l0[i]? =some ⟨some d,op,ty,ps,af,none⟩)(hc:ch i=false)(hr:∀w',K w'->Does P (execOp (ev e) ⟨some d,op,ty,ps,af,none⟩) w' (.val v) w')(k:FL P n l0 K ch Q rest (upd e d v) w):FL P n l0 K ch Q (i::rest) e w:=
 ⟨_,hl,by rw[if_neg (by simp[hc])];exact⟨v,.inl ⟨rfl,hr⟩,k⟩⟩
theorem F.doo[Go.Vc.K3](hl:l0[i]? =some o)(hc:ch i=true)(h:L P n l0.toArray (fun x e' w'=>x= .normal/\K w'/\FL P n l0 K ch Q rest e' w') [o] e w):FL P n l0 K ch Q (i::rest) e w:=
 ⟨_,hl,by rw[if_pos hc];exact h⟩
end
def fh1(P:Program)[Ctx P](S:Sem Next)(v:Value)(w:World):Prop:=Does P S w (.val v) w\/∃f args,Does P S w (.enter f args) w/\C P f args w fun r w'=>r=v/\w'=w
def FP[Go.Vc.K3](P:Program)[Ctx P](n:Nat)(l0:List Oper)(PQ:List PanicEntry->World->Prop)(ch al:Nat->Bool)(Q:Env->World->Prop):List Nat->(World->Prop)->Env->World->Prop
 | [],_,e,w=>Q e w
 |i::rest,K,e,w=>∃o,l0[i]? =some o/\if ch i=true then L P n l0.toArray (fun x e' w'=>(x= .normal/\∃K',(K'=K\/al i=true)/\K' w'/\FP P n l0 PQ ch al Q rest K' e' w')\/∃c,x= .panic c/\PQ c w') [o] e w
  else ∃v,((Region.wanted o (G3 l0.toArray e)=true/\∀w',K w'->fh1 P (execOp (ev e) o) v w')\/(Region.wanted o (G3 l0.toArray e)=false/\v=undef))/\FP P n l0 PQ ch al Q rest K (V3 e o.dst v) w
section
variable{P:Program}[Ctx P]{n:Nat}{l0:List Oper}{PQ:List PanicEntry->World->Prop}{K:World->Prop}{ch al:Nat->Bool}{Q:Env->World->Prop}{rest:List Nat}{e:Env}{w:World}{d:Nat}{op:Op}{ty:TypeId}{ps:String}{af:Array Edge}{v:Value}{i:Nat}{o:Oper}
theorem FP.nil[Go.Vc.K3](h:Q e w):FP P n l0 PQ ch al Q [] K e w:=h
theorem FP.va[Go.Vc.K3](hl:l0[i]? =some ⟨some d,op,ty,ps,af,none⟩)(hc:ch i=false)(hr:∀w',K w'->Does P (execOp (ev e) ⟨some d,op,ty,ps,af,none⟩) w' (.val v) w')(k:FP P n l0 PQ ch al Q rest K (upd e d v) w):FP P n l0 PQ ch al Q (i::rest) K e w:=
 ⟨_,hl,by rw[if_neg (by simp[hc])];exact⟨v,.inl ⟨rfl,fun w' h=>.inl (hr w' h)⟩,k⟩⟩
theorem FP.doo[Go.Vc.K3](hl:l0[i]? =some o)(hc:ch i=true)(h:L P n l0.toArray (fun x e' w'=>(x= .normal/\∃K',(K'=K\/al i=true)/\K' w'/\FP P n l0 PQ ch al Q rest K' e' w')\/∃c,x= .panic c/\PQ c w') [o] e w):FP P n l0 PQ ch al Q (i::rest) K e w:=
 ⟨_,hl,by rw[if_pos hc];exact h⟩
end
def pr1(l0:List Oper)(os:List Nat)(al:Nat->Bool):Bool:=(List.range os.length).all fun b=>match os[b]? with
 |none=>false
 |some y=>!al y ||(os.take b).all fun x=>(p8 l0 l0.length [y]).contains x
def iu1(os:List Nat)(al:Nat->Bool)(V:(Nat->Bool)->Prop):Prop:=∀pre c suf,os=pre++c::suf->al c=true->∀D,V D->D c=true->∀j∈pre,D j=true
theorem au1{l0:List Oper}{os:List Nat}{al:Nat->Bool}{V:(Nat->Bool)->Prop}(fi0:∀D,V D->∀i o,l0[i]? =some o->D i=true->j6 o D)(h:pr1 l0 os al=true):iu1 os al V:=by
 intro pre c suf he hc D hD hDc j hj;have h1:=List.all_eq_true.1 h pre.length (List.mem_range.2 (by rw[he];simp));have hy:os[pre.length]? =some c:=by rw[he];simp
 rw[hy]at h1;simp only[hc,Bool.not_true,Bool.false_or]at h1;have ht:os.take pre.length=pre:=by rw[he];simp
 rw[ht]at h1;exact V6 fi0 hD l0.length [c] (fun q hq=>by simp at hq;rw[hq];exact hDc) j (List.contains_iff_mem.1 (List.all_eq_true.1 h1 j hj))
structure FJ[Go.Vc.K3](P:Program)[Ctx P](n:Nat)(l0:List Oper)(k:Nat)(PQ:List PanicEntry->World->Prop)(K:World->Prop)(ch al:Nat->Bool)(Q:Env->World->Prop)(os:List Nat)(e0:Env)(D:Nat->Bool)(pre suf:List Nat)(e es:Env)(w:World):Prop where
 cat:os=pre++suf
 fl:FP P n l0 PQ ch al Q suf K es w
 done:∀x∈pre,ch x=true->D x=true
 sub:∀j,j<k->D j=true->j∈pre
 kD:K w
 hit:∀j o t,j<k->l0[j]? =some o->o.dst=some t->D j=true->e t=es t
 rt0:∀t,(∀j o,j<k->l0[j]? =some o->o.dst=some t->D j=false)->e t=e0 t
 out:∀t,(∀j o,l0[j]? =some o->j∈pre->o.dst≠some t)->es t=e0 t
 wait:∀j∈pre,D j=false->∃o E v,l0[j]? =some o/\(∀t∈o.looksAt l0.toArray,E t=es t)/\(∀t,o.dst=some t->es t=v) /\
  ((Region.wanted o (G3 l0.toArray E)=true/\∀w',K w'->fh1 P (execOp (ev E) o) v w')\/(Region.wanted o (G3 l0.toArray E)=false/\v=undef))
 rep:∃a,Rep n a es
section
variable{P:Program}[Ctx P]{n:Nat}{l0:List Oper}{k:Nat}{PQ:List PanicEntry->World->Prop}{K:World->Prop}{ch al:Nat->Bool}{Q:Env->World->Prop}{os:List Nat}{e0:Env}{D:Nat->Bool}{V:(Nat->Bool)->Prop}
theorem FJ.look[Go.Vc.K3](h:Cz0 n l0.toArray k)(ho:so0 l0 k ch os V){pre suf:List Nat}{i:Nat}{e es:Env}{w:World}(hI:FJ P n l0 k PQ K ch al Q os e0 D pre (i::suf) e es w)(hc:ch i=false):∃es',FJ P n l0 k PQ K ch al Q os e0 D (pre ++ [i]) suf e es' w:=by
 obtain⟨o,hl,hf⟩:=hI.fl;rw[if_neg (by simp[hc])]at hf;obtain⟨v,hv,hf⟩:=hf;have hla:l0.toArray[i]? =some o:=by simpa using hl
 have ao1:D i=false:=by
  cases hD:D i with
  |false=>rfl
  |true=>exact absurd (hI.sub i (ho.lt i (by rw[hI.cat];simp)) hD) (ho.nodup pre i suf hI.cat)
 have wy1:=h.dst i o hla;have hik:i<k:=ho.lt i (by rw[hI.cat];simp);have hpk:∀j∈pre,j<k:=fun j hj=>ho.lt j (by rw[hI.cat];exact List.mem_append_left _ hj);have G1:∀t,o.dst=some t->∀j p,j<k->l0[j]? =some p->p.dst=some t->j=i:=fun t ht j p hj hp hpt=>h.one j i p o t hj hik (by simpa using hp) hla hpt ht;refine⟨V3 es o.dst v,⟨by rw[hI.cat];simp,hf,fun x hx hcx=>?_,fun j hj hD=>List.mem_append_left _ (hI.sub j hj hD),hI.kD,fun j p t hjk hp ht hD=>?_,hI.rt0,fun t r9=>?_,fun j hj hD=>?_,?_⟩⟩
 ·rcases List.mem_append.1 hx with hx|hx
  ·exact hI.done x hx hcx
  ·simp at hx;subst hx;rw[hc]at hcx;cases hcx
 ·rw[hI.hit j p t hjk hp ht hD];cases hd:o.dst with
  |none=>rfl
  |some d=>
   have:t≠d:=fun hh=>by
    have:=G1 d hd j p hjk hp (by rw[ht,hh]);subst this;rw[ao1]at hD;cases hD
   exact(upd_ne _ _ this).symm
 ·cases hd:o.dst with
  |none=>exact hI.out t (fun j p hp hj=>r9 j p hp (List.mem_append_left _ hj))
  |some d=>
   have:t≠d:=fun hh=>r9 i o hl (List.mem_append_right _ (by simp)) (by rw[hd,hh]);show upd es d v t=e0 t;rw[upd_ne _ _ this];exact hI.out t (fun j p hp hj=>r9 j p hp (List.mem_append_left _ hj))
 ·rcases List.mem_append.1 hj with hjp|hj
  ·obtain⟨p,E,u,hp,hE,hu,hr⟩:=hI.wait j hjp hD;have X2:∀t,(t∈p.looksAt l0.toArray\/p.dst=some t)->V3 es o.dst v t=es t:=by
    intro t ht;cases hd:o.dst with
    |none=>rfl
    |some d=>
     refine upd_ne _ _ (fun hh=>?_);subst hh;rcases ht with ht|ht
     ·obtain⟨x,hx,hb,rfl⟩:=h.look j i p o t (hpk j hjp) hik (by simpa using hp) hla hd ht;obtain⟨q1,q2,hq⟩:=List.append_of_mem hjp;obtain⟨p',hp',Sq0⟩:=ho.pf1 q1 j (q2++x.on::suf) (by rw[hI.cat,hq];simp);obtain rfl:p'=p:=Option.some.inj (hp'.symm.trans hp);have hin:=Sq0 x hx hb;exact ho.nodup pre x.on suf hI.cat (by rw[hq];exact List.mem_append_left _ hin)
     ·have:=G1 t hd j p (hpk j hjp) hp ht;subst this;exact ho.nodup pre j suf hI.cat hjp
   exact⟨p,E,u,hp,fun t ht=>(hE t ht).trans (X2 t (.inl ht)).symm,fun t ht=>(X2 t (.inr ht)).trans (hu t ht),hr⟩
  ·simp at hj;subst hj;refine⟨o,es,v,hl,fun t ht=>?_,fun t ht=>by rw[ht];exact upd_same _ _ _,hv⟩;cases hd:o.dst with
   |none=>rfl
   |some d=>
    have hdt:t≠d:=fun hh=>by
     subst hh;obtain⟨x,hx,hb,he⟩:=h.look j j o o t hik hik hla hla hd ht;have:=h.back j o hla x hx hb;omega
    exact(upd_ne es v hdt).symm
 ·obtain⟨a,ha⟩:=hI.rep;exact⟨_,ha.put wy1 v⟩
theorem FJ.norm[Go.Vc.K3](h:Cz0 n l0.toArray k)(ho:so0 l0 k ch os V):∀(suf pre:List Nat){e es:Env}{w:World},FJ P n l0 k PQ K ch al Q os e0 D pre suf e es w->∃wz1 iv1 es',FJ P n l0 k PQ K ch al Q os e0 D wz1 iv1 e es' w/\(iv1=[]\/∃c r,iv1=c::r/\ch c=true)
 | [],pre,_,es,_,hI=>⟨pre,[],es,hI,.inl rfl⟩
 |i::suf,pre,_,es,_,hI=>by
  cases hc:ch i with
  |true=>exact⟨pre,i::suf,es,hI,.inr ⟨i,suf,rfl,hc⟩⟩
  |false=>
   obtain⟨es',hI'⟩:=hI.look h ho hc;exact FJ.norm h ho suf _ hI'
theorem FJ.looks[Go.Vc.K3](h:Cz0 n l0.toArray k){pre suf:List Nat}{e es:Env}{w:World}(ho:so0 l0 k ch os V)(hI:FJ P n l0 k PQ K ch al Q os e0 D pre suf e es w){i:Nat}(hik:i<k){o:Oper}(hl:l0[i]? =some o)(P5:j6 o D):∀t∈o.looksAt l0.toArray,e t=es t:=by
 intro t ht;by_cases hex:∃(j:Nat) (p:Oper),j<k/\l0[j]? =some p/\p.dst=some t
 ·obtain⟨j,p,hj,hp,hd⟩:=hex;obtain⟨x,hx,hb,rfl⟩:=h.look i j o p t hik hj (by simpa using hl) (by simpa using hp) hd ht;exact hI.hit x.on p t hj hp hd (P5 x hx hb)
 ·rw[hI.rt0 t (fun j p hj hp hd=>absurd ⟨j,p,hj,hp,hd⟩ hex),hI.out t (fun j p hp hj hd=>hex ⟨j,p,ho.lt j (by rw[hI.cat];exact List.mem_append_left _ hj),hp,hd⟩)]
end
section
variable{P:Program}{n k id:Nat}{PQ:List PanicEntry->World->Prop}{ch al:Nat->Bool}{os σ:List Nat}{l:List Oper}{Q:Exit->Env->World->Prop}{e:Env}{w:World}{K:World->Prop}{a:Act}
theorem Sr0[Go.Vc.K3][Ctx P]{l0:List Oper}{Q:Env->World->Prop}{e0:Env}{V:(Nat->Bool)->Prop}(h:Cz0 n l0.toArray k)(ho:so0 l0 k ch os V)(hk:k <=l0.length)(hal:iu1 os al V)
  (ep0:∀D,V D->∀i,k <=i->i<l0.toArray.size->D i=true->∀j,j<i->D j=true) (_hdeps:∀D,V D->∀i o,l0[i]? =some o->D i=true->j6 o D)
  {Q':Exit->Act->World->Prop} (hPQ:∀c w a e,Rep n a e->PQ c w->Q' (.panic c) a w) (hQ:∀a w e,Rep n a e->Q e w->wpOps P l0.toArray Q' (List.range' k (l0.toArray.size-k)) a w) :
  ∀{listed:Array Bool}{σ:List Nat},Lin l0.toArray listed σ->(∀τ ρ,σ=τ++ρ->V (fun j=>listed.getD j false ||τ.contains j)) ->
   ∀(K:World->Prop)(a:Act)(e es:Env)(w:World)(pre suf:List Nat),listed.size=l0.toArray.size->(∀j,k <=j->listed.getD j false=false)->Rep n a e->FJ P n l0 k PQ K ch al Q os e0 (fun j=>listed.getD j false) pre suf e es w->(suf=[]\/∃c r,suf=c::r/\ch c=true)->wpOps P l0.toArray Q' σ a w:=by
 have fin:∀{K:World->Prop}{D:Nat->Bool}{e es:Env}{w:World}{pre suf:List Nat},(∀j,j<k->D j=true)->(∀j,k <=j->D j=false)->FJ P n l0 k PQ K ch al Q os e0 D pre suf e es w->(suf=[]\/∃c r,suf=c::r/\ch c=true)->Q e w:=by
  intro K D e es w pre suf hD hD2 hI hs;have xa1:suf=[]:=by
   rcases hs with hs|⟨c,r,rfl,_⟩
   ·exact hs
   ·have y7:=ho.lt c (by rw[hI.cat];simp);exact absurd (hI.sub c y7 (hD c y7)) (ho.nodup pre c r hI.cat)
  subst xa1;have he:e=es:=by
   funext t;by_cases hex:∃(j:Nat) (p:Oper),j<k/\l0[j]? =some p/\p.dst=some t
   ·obtain⟨j,p,hj,hp,hd⟩:=hex;exact hI.hit j p t hj hp hd (hD j hj)
   ·rw[hI.rt0 t (fun j p hj hp hd=>absurd ⟨j,p,hj,hp,hd⟩ hex),hI.out t (fun j p hp hj hd=>hex ⟨j,p,ho.lt j (by rw[hI.cat];simpa using hj),hp,hd⟩)]
  rw[he];exact hI.fl
 intro listed σ R5
 induction R5 with
 | @nil listed hr=>
  intro _ K a e es w pre suf hs hkf ha hI hsf;have u7:=lz0 h.bk hs hr;have hkl:l0.toArray.size <=k:=by
   rcases Nat.lt_or_ge k l0.toArray.size with h3|h3
   ·have:=u7 k h3;rw[hkf k (Nat.le_refl _)]at this;cases this
   ·exact h3
  have:=hQ a w e ha (fin (fun j hj=>u7 j (by simp;omega)) hkf hI hsf);rw[show l0.toArray.size-k=0 by omega]at this;exact this
 | @cons listed i σ hi hl ih=>
  intro hV K a e es w pre suf hs hkf ha hI hsf;have hi0:=hi;obtain⟨h1,o,ng0,P5⟩:=mem_ready.1 hi;have hlo:l0[i]? =some o:=by simpa using ng0
  have hio:i<l0.toArray.size:=(Array.getElem?_eq_some_iff.1 ng0).1;have z8:i<listed.size:=by omega
  have K9:listed.getD i false=false:=by
   simp only[Array.getD_eq_getD_getElem?,z8,Array.getElem?_eq_getElem,Option.getD_some]at h1⊢;exact h1
  have hVD:V (fun j=>listed.getD j false)/\V (E4 (fun j=>listed.getD j false) i):=by
   constructor
   ·have:=hV [] (i::σ) rfl;have e1:(fun j=>listed.getD j false ||([]:List Nat).contains j)=fun j=>listed.getD j false:=funext fun j=>by simp
    rw[e1]at this;exact this
   ·have:=hV [i] σ rfl;have e1:(fun j=>listed.getD j false ||([i]:List Nat).contains j)=E4 (fun j=>listed.getD j false) i:=funext fun j=>by
     unfold E4;by_cases hj:j=i
     ·simp[hj]
     ·simp[hj]
    rw[e1]at this;exact this
  by_cases hik:k <=i
  ·have at0:∀j,j<i->listed.getD j false=true:=fun j hj=>by
    have:=ep0 _ hVD.2 i hik hio (by simp[E4]) j hj;unfold E4 at this;rw[if_neg Uo]at this;exact this
   have hki:i=k:=by
    rcases Nat.lt_or_ge k i with h3|h3
    ·have:=at0 k h3;rw[hkf k (Nat.le_refl _)]at this;cases this
    ·omega
   subst hki;rw[Fl0 (V:=V) h.bk (.cons hi0 hl) i Uo hs at0 (fun j hj=>hkf j hj) ep0 hV];exact hQ a w e ha (fin at0 hkf hI hsf)
  ·have hik:i<k:=by omega
   have hV':∀τ ρ,σ=τ++ρ->V (fun j=>(listed.setIfInBounds i true).getD j false ||τ.contains j):=by
    intro τ ρ hσ;have:=hV (i::τ) ρ (by rw[hσ];rfl);have e1:(fun j=>listed.getD j false ||(i::τ).contains j)=fun j=>(listed.setIfInBounds i true).getD j false ||τ.contains j:=by
     funext j;by_cases hj:i=j
     ·subst hj;simp[z8]
     ·rw[getD_set_ne false hj];simp[Ne.symm hj]
    rw[e1]at this;exact this
   have ps1:∀j,k <=j->(listed.setIfInBounds i true).getD j false=false:=fun j hj=>by rw[getD_set_ne false Uo];exact hkf j hj
   have hlk:=hI.looks h ho hik hlo P5;have Ir0:(fun j=>(listed.setIfInBounds i true).getD j false)=E4 (fun j=>listed.getD j false) i:=mz0 z8;have hD1:E4 (fun j=>listed.getD j false) i i=true:=by simp[E4]
   have hDn:∀j,j≠i->E4 (fun j=>listed.getD j false) i j=listed.getD j false:=fun j hj=>by simp[E4,hj]
   have mem:i∈pre\/i∈suf:=by have:=ho.all i hik;rw[hI.cat]at this;exact List.mem_append.1 this
   rcases mem with hip|his
   ·
    obtain⟨o',E,v,x8,hE,hu,hr⟩:=hI.wait i hip K9;obtain rfl:o'=o:=Option.some.inj (x8.symm.trans hlo);have hEe:∀t∈o'.looksAt l0.toArray,e t=E t:=fun t ht=>(hlk t ht).trans (hE t ht).symm;have hex:=io0 (h.sel i o' hik ng0) hEe;have hwa:=ip0 hEe;have next:wpOps P l0.toArray Q' σ (a.put o'.dst v) w:=by
     refine ih hV' K _ (V3 e o'.dst v) es w pre suf (by simp[hs]) ps1 (ha.put (h.dst i o' ng0) v) ?_ hsf;rw[Ir0];refine⟨hI.cat,hI.fl,fun x hx hc=>?_,fun j hj hD=>?_,hI.kD,fun j p t hjk hp ht hD=>?_,fun t r9=>?_,hI.out,fun j hj hD=>?_,hI.rep⟩
     ·by_cases hxi:x=i
      ·subst hxi;exact hD1
      ·rw[hDn x hxi];exact hI.done x hx hc
     ·by_cases M3:j=i
      ·subst M3;exact hip
      ·rw[hDn j M3]at hD;exact hI.sub j hj hD
     ·by_cases M3:j=i
      ·subst M3;obtain rfl:p=o':=Option.some.inj (hp.symm.trans hlo);rw[ht];exact(upd_same _ _ _).trans (hu t ht).symm
      ·rw[hDn j M3]at hD;cases hd:o'.dst with
       |none=>exact hI.hit j p t hjk hp ht hD
       |some d=>
        have:t≠d:=fun hh=>M3 (h.one j i p o' t hjk hik (by simpa using hp) ng0 ht (by rw[hd,hh]));exact(upd_ne _ _ this).trans (hI.hit j p t hjk hp ht hD)
     ·have hnt:o'.dst≠some t:=fun hh=>by have:=r9 i o' hik hlo hh;rw[hD1]at this;cases this
      have hm:=hI.rt0 t (fun j p hjk hp hd=>by
       have:=r9 j p hjk hp hd;by_cases M3:j=i
       ·subst M3;exact K9
       ·rwa [hDn j M3]at this)
      cases hd:o'.dst with
      |none=>exact hm
      |some d=>exact(upd_ne _ _ (fun hh=>hnt (by rw[hd,hh]))).trans hm
     ·have M3:j≠i:=fun hh=>by subst hh;rw[hD1]at hD;cases hD
      rw[hDn j M3]at hD;exact hI.wait j hj hD
    unfold wpOps;rw[ng0];simp only;rw[c6 ha,hwa];rcases hr with⟨hw,hr⟩|⟨hw,hv⟩
    ·rw[if_pos hw];rcases hr w hI.kD with h9|⟨f,args,h9,hc9⟩
     ·exact bp0 (r:=.val v) (w':=w) (by rw[ha.eval,hex];exact h9) next
     ·refine bp0 (r:=.enter f args) (w':=w) (by rw[ha.eval,hex];exact h9) (Calls.mono hc9 fun x w'' hx=>?_);cases x with
      |returned u=>obtain⟨rfl,rfl⟩:=hx;exact next
      |panicked c=>exact hx.elim
      |outgrown=>exact hx.elim
    ·rw[if_neg (by rw[hw];simp),<- hv];exact next
   ·
    rcases hsf with hsf|⟨c,r,rfl,hc⟩
    ·rw[hsf]at his;cases his
    have hic:i=c:=by
     rcases List.mem_cons.1 his with h9|h9
     ·exact h9
     ·exfalso;obtain⟨m1,m2,hm⟩:=List.append_of_mem h9;have:=ho.wait pre c m1 i m2 (by rw[hI.cat,hm];simp) hc _ hVD.2 hD1;have hci:c≠i:=fun hh=>by
       subst hh;exact ho.nodup (pre++c::m1) c m2 (by rw[hI.cat,hm];simp) (by simp)
      rw[hDn c hci]at this;exact ho.nodup pre c r hI.cat (hI.sub c (ho.lt c (by rw[hI.cat];simp)) this)
    subst hic;obtain⟨o',x8,hf⟩:=hI.fl;obtain rfl:o'=o:=Option.some.inj (x8.symm.trans hlo);rw[if_pos hc]at hf;obtain⟨asx,has⟩:=hI.rep;have hfa:=hf (fun q hq=>by simp at hq;subst hq;exact h.dst i q ng0) asx has;have hex:=io0 (h.sel i o' hik ng0) hlk;have hwa:=ip0 hlk;have next:∀v w' (K':World->Prop),(K'=K\/al i=true)->K' w'->FP P n l0 PQ ch al Q r K' (V3 es o'.dst v) w'->wpOps P l0.toArray Q' σ (a.put o'.dst v) w':=by
     intro v w' K' hKK hK hfl;have hI':FJ P n l0 k PQ K' ch al Q os e0 (E4 (fun j=>listed.getD j false) i) (pre ++ [i]) r (V3 e o'.dst v) (V3 es o'.dst v) w':=by
      have G1:∀t,o'.dst=some t->∀j p,j<k->l0[j]? =some p->p.dst=some t->j=i:=fun t ht j p hjk hp hpt=>h.one j i p o' t hjk hik (by simpa using hp) ng0 hpt ht;have hpk:∀j∈pre,j<k:=fun j hj=>ho.lt j (by rw[hI.cat];exact List.mem_append_left _ hj);refine⟨by rw[hI.cat];simp,hfl,fun x hx hcx=>?_,fun j hj hD=>?_,hK,fun j p t hjk hp ht hD=>?_,fun t r9=>?_,fun t r9=>?_,fun j hj hD=>?_,⟨_,has.put (h.dst i o' ng0) v⟩⟩
      ·by_cases hxi:x=i
       ·subst hxi;exact hD1
       ·rw[hDn x hxi];rcases List.mem_append.1 hx with hx|hx
        ·exact hI.done x hx hcx
        ·simp at hx;exact absurd hx hxi
      ·by_cases M3:j=i
       ·subst M3;simp
       ·rw[hDn j M3]at hD;exact List.mem_append_left _ (hI.sub j hj hD)
      ·by_cases M3:j=i
       ·subst M3;obtain rfl:p=o':=Option.some.inj (hp.symm.trans hlo);rw[ht];exact(upd_same _ _ _).trans (upd_same _ _ _).symm
       ·rw[hDn j M3]at hD;cases hd:o'.dst with
        |none=>exact hI.hit j p t hjk hp ht hD
        |some d=>
         have:t≠d:=fun hh=>M3 (G1 d hd j p hjk hp (by rw[ht,hh]));show upd e d v t=upd es d v t;rw[upd_ne _ _ this,upd_ne _ _ this];exact hI.hit j p t hjk hp ht hD
      ·have hnt:o'.dst≠some t:=fun hh=>by have:=r9 i o' hik hlo hh;rw[hD1]at this;cases this
       have hm:=hI.rt0 t (fun j p hjk hp hd=>by
        have:=r9 j p hjk hp hd;by_cases M3:j=i
        ·subst M3;exact K9
        ·rwa [hDn j M3]at this)
       cases hd:o'.dst with
       |none=>exact hm
       |some d=>exact(upd_ne _ _ (fun hh=>hnt (by rw[hd,hh]))).trans hm
      ·have hnt:o'.dst≠some t:=r9 i o' hlo (by simp);have hm:=hI.out t (fun j p hp hj=>r9 j p hp (List.mem_append_left _ hj));cases hd:o'.dst with
       |none=>exact hm
       |some d=>exact(upd_ne _ _ (fun hh=>hnt (by rw[hd,hh]))).trans hm
      ·have M3:j≠i:=fun hh=>by subst hh;rw[hD1]at hD;cases hD
       rw[hDn j M3]at hD;have hjp:j∈pre:=by
        rcases List.mem_append.1 hj with hj|hj
        ·exact hj
        ·simp at hj;exact absurd hj M3
       rcases hKK with rfl|hKK
       rotate_left
       ·exfalso;have:=hal pre i r hI.cat hKK _ hVD.2 hD1 j hjp;rw[hDn j M3,hD]at this;cases this
       obtain⟨p,E,u,hp,hE,hu,hr⟩:=hI.wait j hjp hD;have X2:∀t,(t∈p.looksAt l0.toArray\/p.dst=some t)->V3 es o'.dst v t=es t:=by
        intro t ht;cases hd:o'.dst with
        |none=>rfl
        |some d=>
         refine upd_ne _ _ (fun hh=>?_);subst hh;rcases ht with ht|ht
         ·obtain⟨x,hx,hb,rfl⟩:=h.look j i p o' t (hpk j hjp) hik (by simpa using hp) ng0 hd ht;obtain⟨q1,q2,hq⟩:=List.append_of_mem hjp;obtain⟨p',hp',Sq0⟩:=ho.pf1 q1 j (q2++x.on::r) (by rw[hI.cat,hq];simp);obtain rfl:p'=p:=Option.some.inj (hp'.symm.trans hp);have hin:=Sq0 x hx hb;exact ho.nodup pre x.on r hI.cat (by rw[hq];exact List.mem_append_left _ hin)
         ·exact M3 (G1 t hd j p (hpk j hjp) hp ht)
       exact⟨p,E,u,hp,fun t ht=>(hE t ht).trans (X2 t (.inl ht)).symm,fun t ht=>(X2 t (.inr ht)).trans (hu t ht),hr⟩
     obtain⟨xb1,xc1,es2,hI2,hs2⟩:=FJ.norm h ho r _ hI';exact ih hV' K' _ _ es2 w' xb1 xc1 (by simp[hs]) ps1 (ha.put (h.dst i o' ng0) v) (by rw[Ir0];exact hI2) hs2
    have nx:∀v w',lift n (fun x e' w'=>(x=Exit.normal/\∃K',(K'=K\/al i=true)/\K' w'/\FP P n l0 PQ ch al Q r K' e' w')\/∃c,x=Exit.panic c/\PQ c w') .normal (asx.put o'.dst v) w'->wpOps P l0.toArray Q' σ (a.put o'.dst v) w':=by
     rintro v w' ⟨e',hre,h9⟩;rcases h9 with⟨_,K',hKK,hK,hfl⟩|⟨c,h9,_⟩
     rotate_left
     ·cases h9
     have:e'=V3 es o'.dst v:=Rep.ext hre (has.put (h.dst i o' ng0) v);rw[this]at hfl;exact next v w' K' hKK hK hfl
    unfold wpOps;rw[ng0];simp only;rw[c6 ha,hwa];unfold wpList at hfa;rw[c6 has]at hfa;split at hfa
    ·rename_i hw;rw[if_pos hw];intro τ d;obtain⟨rr,w',h1,h2⟩:=hfa τ d;rw[has.eval]at h1;refine⟨rr,w',by rw[ha.eval,hex];exact h1,?_⟩;cases rr with
     |val u=>exact nx u _ h2
     |skip=>exact nx undef _ h2
     |enter f args=>
      refine Calls.mono h2 fun x w'' hx=>?_;cases x with
      |returned u=>exact nx u w'' hx
      |panicked ch=>
       obtain⟨e9,_,h9⟩:=hx;rcases h9 with⟨h9,_⟩|⟨c,h9,hp9⟩
       ·cases h9
       ·cases h9;exact hPQ _ _ _ _ ha hp9
      |outgrown=>exact hx.elim
     |panic u=>
      obtain⟨e9,_,h9⟩:=h2;rcases h9 with⟨h9,_⟩|⟨c,h9,hp9⟩
      ·cases h9
      ·cases h9;exact hPQ _ _ _ _ ha hp9
    ·rename_i hw;rw[if_neg hw];exact nx undef w hfa
theorem fi1[Go.Vc.K3][Ctx P](ho:Cz0 n l.toArray k)(hA:sl0 l k=true)(hkl:k <=l.length)(hoo:so0 l k ch os (Pre σ))(hal:iu1 os al (Pre σ))(R5:Lin l.toArray (Array.replicate l.toArray.size false) σ)(fi0:∀D,Pre σ D->∀i o,l[i]? =some o->D i=true->j6 o D)
  (hPQ:∀c w e,PQ c w->Q (.panic c) e w) (hK:K w) (h:FP P n l PQ ch al (fun e' w'=>L P n l.toArray Q (l.drop k) e' w') os K e w) (ha:Rep n a e):wpOps P l.toArray (lift n Q) σ a w:=by
 have h0:FJ P n l k PQ K ch al (fun e' w'=>L P n l.toArray Q (l.drop k) e' w') os e (fun j=>(Array.replicate l.toArray.size false).getD j false) [] os e e w:=
  ⟨rfl,h,(fun x hx=>by cases hx),(fun j _ hD=>absurd hD (by rw[K0];simp)),hK,(fun j o t _ _ _ hD=>absurd hD (by rw[K0];simp)),(fun t _=>rfl),(fun t _=>rfl),(fun j hj=>by cases hj),⟨a,ha⟩⟩
 obtain⟨pre,suf,es,hI,hs⟩:=FJ.norm ho hoo _ _ h0;refine Sr0 (V:=Pre σ) (PQ:=PQ) ho hoo hkl hal (fun D hD i hki z8=>sm0 hA fi0 hD i hki (by simpa using z8)) fi0 (fun c w' a' e' ha' hp=>⟨e',ha',hPQ c w' e' hp⟩) (fun a' w' e' ha' hq=>?_) R5 ?_ K a e es _ pre suf (by simp) (fun j _=>K0 _ _) ha hI hs
 ·have h4:=hq (fun o' ho'=>by
   obtain⟨i,hi⟩:=List.mem_iff_getElem?.1 ho';rw[List.getElem?_drop]at hi;exact ho.dst (k+i) o' (by simpa using hi)) a' ha'
  have h5:=wpOps_eq_wpList (P:=P) (ops:=l.toArray) (Q:=lift n Q) (l.drop k) k (fun j=>by rw[List.getElem?_drop];simp);rw[List.length_drop]at h5;have h6:l.toArray.size-k=l.length-k:=by simp
  rw[h6,h5];exact h4
 ·intro τ ρ hσ;exact⟨τ,ρ,hσ,fun k=>by show((Array.replicate l.toArray.size false).getD k false ||τ.contains k)=true↔_;rw[K0];simp⟩
theorem FL.fp[Go.Vc.K3]{P:Program}[Ctx P]{n:Nat}{l0:List Oper}{K:World->Prop}{ch:Nat->Bool}{Q:Env->World->Prop}:∀{os:List Nat}{e:Env}{w:World},FL P n l0 K ch Q os e w->FP P n l0 (fun _ _=>False) ch (fun _=>false) Q os K e w
 | [],_,_,h=>h
 |i::rest,e,w,⟨o,hl,h⟩=>by
  refine⟨o,hl,?_⟩;split at h
  ·rename_i hc;rw[if_pos hc];intro hd a ha;exact fk0 (fun x a w h=>by
    obtain⟨e',h1,h2,h3,h4⟩:=h;exact⟨e',h1,.inl ⟨h2,K,.inl rfl,h3,FL.fp h4⟩⟩) _ _ _ (h hd a ha)
  ·rename_i hc;rw[if_neg hc];obtain⟨v,h1,h2⟩:=h;exact⟨v,h1.imp (fun h=>⟨h.1,fun w' k=>.inl (h.2 w' k)⟩) id,FL.fp h2⟩
theorem Ss0[Go.Vc.K3][Ctx P](ho:Cz0 n l.toArray k)(hA:sl0 l k=true)(hkl:k <=l.length)(hoo:so0 l k ch os (Pre σ))(R5:Lin l.toArray (Array.replicate l.toArray.size false) σ)(fi0:∀D,Pre σ D->∀i o,l[i]? =some o->D i=true->j6 o D)(hK:K w)(h:FL P n l K ch (fun e' w'=>L P n l.toArray Q (l.drop k) e' w') os e w)(ha:Rep n a e):wpOps P l.toArray (lift n Q) σ a w:=
 fi1 ho hA hkl hoo (fun _ _ _ _ hc=>by cases hc) R5 fi0 (fun _ _ _ h=>h.elim) hK h.fp ha
theorem W.fl[Go.Vc.K3][Ctx P](k:Nat)(ch:List Nat)(os:List Nat)(K:World->Prop)(hm:P.follows .mixedOrders=true)(hB:Fk0 n l.toArray k=true)(hA:sl0 l k=true)(hk:Nat.ble k l.length=true)(hO:zu0 l k (fun i=>ch.contains i) os=true)
  (hK:K w.drew) (h:FL P n l K (fun i=>ch.contains i) (fun e' w'=>L P n l.toArray Q (l.drop k) e' w') os e w.drew):W P n (.region id l.toArray true) Q e w:=by
 intro a ha;refine wp_region_draw fun t=>?_;simp only[Region.schedule,hm,Bool.true_or,if_true];have R5:=lw0 l.toArray l.toArray.size t (Array.replicate l.toArray.size false) (by simp) (by simp);unfold Region.linearise;generalize Region.linearise.go .any l.toArray l.toArray.size t (Array.replicate l.toArray.size false) []=σ at R5⊢;exact Ss0 (qz0 hB) hA (Nat.le_of_ble_eq_true hk) (ne0 (as0 R5) (fun p hp=>by cases hp) hO) R5 (as0 R5) hK h ha
theorem W.fl2[Go.Vc.K3][Ctx P](k:Nat)(ch:List Nat)(x y:Nat)(os os2:List Nat)(K:World->Prop)(hm:P.follows .mixedOrders=true)(hB:Fk0 n l.toArray k=true)(hA:sl0 l k=true)(hk:Nat.ble k l.length=true)(hO:zu0 l k (fun i=>ch.contains i) os [(x,y)]=true)(hO2:zu0 l k (fun i=>ch.contains i) os2 [(y,x)]=true)
  (hK:K w.drew) (h:FL P n l K (fun i=>ch.contains i) (fun e' w'=>L P n l.toArray Q (l.drop k) e' w') os e w.drew) (h2:FL P n l K (fun i=>ch.contains i) (fun e' w'=>L P n l.toArray Q (l.drop k) e' w') os2 e w.drew):W P n (.region id l.toArray true) Q e w:=by
 intro a ha;refine wp_region_draw fun t=>?_;simp only[Region.schedule,hm,Bool.true_or,if_true];have R5:=lw0 l.toArray l.toArray.size t (Array.replicate l.toArray.size false) (by simp) (by simp);unfold Region.linearise;generalize Region.linearise.go .any l.toArray l.toArray.size t (Array.replicate l.toArray.size false) []=σ at R5⊢;by_cases hxy:∀D,Pre σ D->D y=true->D x=true
 ·exact Ss0 (qz0 hB) hA (Nat.le_of_ble_eq_true hk) (ne0 (as0 R5) (fun p hp=>by simp at hp;subst hp;exact hxy) hO) R5 (as0 R5) hK h ha
 ·have hyx:∀D,Pre σ D->D x=true->D y=true:=by
   intro D hD hDx;cases hDy:D y with
   |true=>rfl
   |false=>
    exfalso;refine hxy fun D' hD' hy'=>?_;rcases hD.chain hD' with h9|h9
    ·exact h9 x hDx
    ·have:=h9 y hy';rw[hDy]at this;cases this
  exact Ss0 (qz0 hB) hA (Nat.le_of_ble_eq_true hk) (ne0 (as0 R5) (fun p hp=>by simp at hp;subst hp;exact hyx) hO2) R5 (as0 R5) hK h2 ha
end
section
end
section
variable{P:Program}[Ctx P]
end
section
variable{P:Program}{ρ:Operand->Value}{w:World}{d:Option Nat}{ty:TypeId}{ps:String}{af:Array Edge}{g:Option (Nat×Bool)}{x:Operand}{T E:TypeId}
theorem Da0{a:Option Addr}{n c:Nat}{m:Int}{aT:Array TypeId}(hm:((n:Nat):Int)=m)(hx:ρ x= .slice a n c)(hT:P.underlying T=some (.slice E))(hA:aT[0]? =some T):Does P (execOp ρ ⟨d,.call ⟨.builtin .len,#[x],aT⟩,ty,ps,af,g⟩) w (.val (.int .i64 m)) w:=
 .N0 (N1 rfl _) rfl rfl fun _τ _d=>Go.Vc.Da0 (hm:=hm) (hx:=hx) (hT:=hT) (hA:=hA)
end
section
variable{P:Program}[Ctx P]
end
section
variable{P:Program}[Ctx P]
end
end Go.Vy
end
section
namespace Go.Vy
open Go Go.Conc Go.Yc
abbrev Hid:=Nat->Option Obj
def over(H:Hid)(u:World):World:={u with heap:=u.heap.mapIdx fun b o=>(H b).getD o}
theorem sw0(H:Hid)(u:World)(b:Nat):(over H u).heap[b]? =(u.heap[b]?).map fun o=>(H b).getD o:=by
 simp[over,Array.getElem?_mapIdx]
theorem w5(H:Hid)(u:World):(over H u).heap.size=u.heap.size:=by simp[over]
theorem cm0{H:Hid}{u:World}{b:Nat}{o:Obj}(h:H b=some o)(hb:b<u.heap.size):(over H u).heap[b]? =some o:=by
 rw[sw0,Array.getElem?_eq_getElem hb];simp[h]
theorem L6{H:Hid}(u:World){b:Nat}(h:H b=none):(over H u).heap[b]? =u.heap[b]?:=by
 rw[sw0,h];cases u.heap[b]? <;> rfl
structure K8(H:Hid)(u:World):Prop where
 gone:∀b o,H b=some o->lk0 u b
 view:∀b o,H b=some o->S4 o=false
theorem _root_.Go.Yc.lk0.lt{u:World}{b:Nat}(h:lk0 u b):b<u.heap.size:=by obtain⟨T,f,h⟩:=h;exact(Array.getElem?_eq_some_iff.1 h).1
theorem K8.evo{H:Hid}{u u':World}(h:K8 H u)(he:Evo u u'):K8 H u':=⟨fun b o hb=>(h.gone b o hb).evo he,h.view⟩
theorem K8.G2{H:Hid}{u:World}(h:K8 H u)(τ:Tape)(d:Nat):K8 H (Yc.G2 u τ d):=⟨h.gone,h.view⟩
def py0(H:Hid)(ρ:Nat->O7)(w:World)(b:Nat):O7:=match H b,w.heap[b]? with
 |some _,some y=>.gone y
 |_,_=>ρ b
section
variable{H:Hid}{u:World}
theorem j7.under{ρ:Nat->O7}{w:World}(hH:K8 H u)(h:j7 ρ (over H u) w):j7 (py0 H ρ w) u w:=by
 refine⟨h.os,h.output,h.tape,h.drawn,by rw[h.size,w5],fun b x hx=>?_,fun b hb=>?_,fun b x hx=>?_⟩
 ·have O1:=(Array.getElem?_eq_some_iff.1 hx).1;cases hb:H b with
  |none=>
   obtain⟨y,h1,h2⟩:=h.obj b x (by rw[L6 u hb];exact hx);exact⟨y,h1,by simp only[py0,hb];exact h2⟩
  |some o=>
   obtain⟨y,h1,h2⟩:=h.obj b o (cm0 hb O1);obtain⟨T,f,hg⟩:=hH.gone b o hb;rw[hx]at hg;obtain rfl:=Option.some.inj hg;exact⟨y,h1,by simp only[py0,hb,h1];exact .gone _ _ _⟩
 ·cases Z8:H b with
  |none=>simp only[py0,Z8];exact h.new b (by rw[w5];exact hb)
  |some o=>have:=(hH.gone b o Z8).lt;omega
 ·cases hb:H b with
  |none=>exact h.k9 b x (by rw[L6 u hb];exact hx)
  |some o=>
   obtain⟨T,f,hg⟩:=hH.gone b o hb;rw[hx]at hg;obtain rfl:=Option.some.inj hg;rfl
theorem j7.over{H:Hid}{ρ:Nat->O7}{u u' w w':World}(hH:K8 H u)(h:j7 ρ (over H u) w)(he:Evo u u')(h':j7 (py0 H ρ w) u' w'):j7 ρ (Vy.over H u') w':=by
 have hH':=hH.evo he;refine⟨h'.os,h'.output,h'.tape,h'.drawn,by rw[h'.size,w5],fun b x hx=>?_,fun b hb=>?_,fun b x hx=>?_⟩
 ·cases hb:H b with
  |none=>
   rw[L6 u' hb]at hx;obtain⟨y,h1,h2⟩:=h'.obj b x hx;simp only[py0,hb]at h2;exact⟨y,h1,h2⟩
  |some o=>
   have O1:=(hH.gone b o hb).lt;obtain⟨T,f,hg⟩:=hH'.gone b o hb;rw[cm0 hb (hH'.gone b o hb).lt]at hx;obtain rfl:=Option.some.inj hx;obtain⟨y,h1,h2⟩:=h.obj b o (cm0 hb O1);obtain⟨y',h3,h4⟩:=h'.obj b _ hg;simp only[py0,hb,h1]at h4;cases h4;exact⟨y,h3,h2⟩
 ·rw[w5]at hb;have:=h'.new b hb;cases Z8:H b with
  |none=>simp only[py0,Z8]at this;exact this
  |some o=>have:=(hH'.gone b o Z8).lt;omega
 ·cases hb:H b with
  |none=>exact h'.k9 b x (by rw[L6 u' hb]at hx;exact hx)
  |some o=>
   rw[cm0 hb (hH'.gone b o hb).lt]at hx;obtain rfl:=Option.some.inj hx;exact hH.view b o hb
theorem St0{u':World}(hH:K8 H u)(he:Evo u u'):Evo (over H u) (over H u'):=by
 refine⟨by rw[w5,w5];exact he.size,fun b x hx=>?_⟩;cases hb:H b with
 |none=>
  rw[L6 u hb]at hx;obtain⟨y,h1,h2⟩:=he.obj b x hx;exact⟨y,by rw[L6 u' hb];exact h1,h2⟩
 |some o=>
  rw[cm0 hb (hH.gone b o hb).lt]at hx;obtain rfl:=Option.some.inj hx;exact⟨_,cm0 hb ((hH.evo he).gone b _ hb).lt,P4.refl _⟩
theorem Ak0(hH:K8 H u){e:Event}(h:mt0 u e):mt0 (over H u) e:=by
 obtain⟨l,wr,sy⟩:=e;cases l with
 |cell a=>
  intro O1;rw[w5]at O1;obtain⟨⟨v,hv⟩,hw⟩:=h O1;obtain⟨c,T,f,hb,hs,hc⟩:=u6 hv;have hn:H a.block=none:=by
   cases hh:H a.block with
   |none=>rfl
   |some o=>
    obtain⟨T',f',hg⟩:=hH.gone _ _ hh;rw[hb]at hg;cases hg;simp at hc
  have:=R8 (u:=u) (u':=over H u) (a:=a) (L6 u hn);exact⟨⟨v,by rw[this.1];exact hv⟩,fun z=>by rw[this.2];exact hw z⟩
 |obj r=>
  intro O1;rw[w5]at O1;obtain⟨x,hx,hc⟩:=h O1;have hn:H r=none:=by
   cases hh:H r with
   |none=>rfl
   |some o=>
    obtain⟨T',f',hg⟩:=hH.gone _ _ hh;rw[hx]at hg;cases hg;cases hc
  exact⟨x,by rw[L6 u hn];exact hx,hc⟩
 |output=>exact h
 |goroutines=>exact h
 |mark m=>exact h
theorem au0(H:Hid)(u:World)(τ:Tape)(d:Nat):over H (G2 u τ d)=G2 (over H u) τ d:=rfl
end
section
variable{P:Program}{main:Bool}{H:Hid}
theorem M6.over{g g':Goroutine}{u u':World}(hH:K8 H u)(h:M6 P main g u g' u'):M6 P main g (Vy.over H u) g' (Vy.over H u')/\(∀ρ w,j7 ρ (Vy.over H u) w->Evo u u'):=by
 obtain⟨hr,h⟩:=h;refine⟨⟨hr,fun ρ w hs=>?_⟩,fun ρ w hs=>(h _ w (j7.under hH hs)).1⟩;obtain⟨he,w',es,h1,h2,h3⟩:=h _ w (j7.under hH hs);exact⟨St0 hH he,w',es,h1,j7.over hH hs he h2,fun e hee=>Ak0 hH (h3 e hee)⟩
theorem De0{fn:Func}{tmps:Array Value}{w:World}{v:Value}(hH:K8 H w)(h:ca0 P fn tmps w v):ca0 P fn tmps (over H w) v:=by
 intro τ d ρ x hs;rw[<- au0]at hs;obtain⟨x',es,h1,h2,h3⟩:=h τ d _ x (j7.under (hH.G2 τ d) hs);exact⟨x',es,h1,by rw[<- au0];exact j7.over (hH.G2 τ d) hs (Evo.refl _) h2,fun e he=>by rw[<- au0];exact Ak0 (hH.G2 τ d) (h3 e he)⟩
theorem pz0{fr:Frame}{w:World}{e:Ending}(hH:K8 H w)(h:Leaves P fr w e):Leaves P fr (over H w) e:=by
 cases e with
 |returned v=>obtain⟨h1,h2,h3,fn,h4,h5⟩:=h;exact⟨h1,h2,h3,fn,h4,De0 hH h5⟩
 |panicked ch=>exact h
 |outgrown=>exact h
end
section
variable{P:Program}{Post:Value->World->Prop}{X:Gh}{h:Nat}{u:World}
theorem Fin.pt1{g:Goroutine}(L3:g.status= .running)(hs:∀τ d,∃g' u',M6 P (h==0) g (G2 u τ d) g' u'/\((∃ρ w,j7 ρ (G2 u τ d) w)->Fin P Post X h g' u')):Fin P Post X h g u:=by
 refine Fin.ex0 L3 fun live T gs w sl d sl' q hg O2 C=>?_;obtain⟨g',u',hF,hK⟩:=hs (w.at d).tape (w.at d).drawn;obtain⟨ρ,oj0,_⟩:=C.sim;obtain⟨w',es,hgo,C',J5⟩:=C.own hg hF;exact Ends.step (O2.trans (runT_crowd_go (sl:=sl') hg hgo)) (hK ⟨ρ,_,oj0⟩ _ _ _ _ _ _ J5 C')
def nh0(P:Program)(Post:Value->World->Prop)(X:Gh)(h:Nat)(H:Hid)(g:Goroutine)(u:World):Prop:=K8 H u->Fin P Post X h g (over H u)
section
variable{τ:Tape}{d:Nat}{H:Hid}{g:Goroutine}
theorem Mc0{u u':World}(h:Evo (G2 u τ d) u'):Evo u u':=⟨h.size,h.obj⟩
theorem sx0(L3:g.status= .running)(hs:∀τ d,∃g' u',M6 P (h==0) g (G2 u τ d) g' u'/\(Evo u u'->nh0 P Post X h H g' u')):nh0 P Post X h H g u:=by
 intro hH;refine Fin.pt1 L3 fun τ d=>?_;obtain⟨g',u',hF,hK⟩:=hs τ d;obtain⟨h1,h2⟩:=M6.over (hH.G2 τ d) hF;rw[au0]at h1;refine⟨g',over H u',h1,fun⟨ρ,w,hs⟩=>?_⟩;have hE:=Mc0 (h2 ρ w (by rw[au0];exact hs));exact hK hE (hH.evo hE)
theorem ed0(hF:nh0 P Post X h H g (G2 u τ d)):nh0 P Post X h H g u:=fun hH=>qv0 (hF (hH.G2 τ d))
theorem av1(H:Hid):Cl P (h==0) (nh0 P Post X h H):=
 ⟨fun g u hr hs=>sx0 hr fun τ d=>by
  obtain⟨g',u',d',hF,hZ⟩:=hs τ d;exact⟨g',u',hF,fun _=>ed0 hZ⟩⟩
end
def av0(V:Nat->Prop)[DecidablePred V](U:World):Hid:=fun b=>if V b then none else U.heap[b]?
def X3(V:Nat->Prop)[DecidablePred V](U:World):World:={U with heap:=U.heap.mapIdx fun b o=>if V b then o else nothing}
section
variable{V:Nat->Prop}{b:Nat}{U:World}
theorem op0(V:Nat->Prop)[DecidablePred V](U:World)(b:Nat):(X3 V U).heap[b]? =(U.heap[b]?).map fun o=>if V b then o else nothing:=by simp[X3,Array.getElem?_mapIdx]
theorem dt0[DecidablePred V](U:World)(h:V b):(X3 V U).heap[b]? =U.heap[b]?:=by rw[op0];simp[h]
theorem mc0[DecidablePred V](h:¬V b)(hb:b<U.heap.size):(X3 V U).heap[b]? =some nothing:=by rw[op0,Array.getElem?_eq_getElem hb];simp[h]
theorem bt0(V:Nat->Prop)[DecidablePred V](U:World):(X3 V U).heap.size=U.heap.size:=by simp[X3]
theorem ni0(V:Nat->Prop)[DecidablePred V](U:World):over (av0 V U) (X3 V U)=U:=by
 have:(over (av0 V U) (X3 V U)).heap=U.heap:=by
  apply Array.ext_getElem?;intro b;rw[sw0,op0];unfold av0;cases hb:U.heap[b]? with
  |none=>rfl
  |some o=>by_cases hv:V b <;> simp[hv]
 show{X3 V U with heap:=(over (av0 V U) (X3 V U)).heap}=U;rw[this];rfl
theorem sy0[DecidablePred V](hv:∀(b:Nat)(o:Obj),U.heap[b]? =some o->S4 o=false):K8 (av0 V U) (X3 V U):=by
 refine⟨fun b o h=>?_,fun b o h=>?_⟩
 ·unfold av0 at h;by_cases hb:V b
  ·simp[hb]at h
  ·simp only[hb,if_false]at h;exact⟨0,(0,0),mc0 hb (Array.getElem?_eq_some_iff.1 h).1⟩
 ·unfold av0 at h;by_cases hb:V b
  ·simp[hb]at h
  ·simp only[hb,if_false]at h;exact hv b o h
end
end
def k8(u:World):Prop:=∀(b:Nat)(o:Obj),u.heap[b]? =some o->S4 o=false
theorem k8.sim{u:World}(h:k8 u):j7 (fun _=>.all) u u:=⟨rfl,rfl,rfl,rfl,rfl,fun _b x hx=>⟨x,hx,.same x⟩,fun _ _=>rfl,h⟩
theorem k8.G2{u:World}(h:k8 u)(τ:Tape)(d:Nat):k8 (Yc.G2 u τ d):=h
theorem M6.evo{P:Program}{main:Bool}{g g':Goroutine}{u u':World}(h:M6 P main g u g' u')(hv:k8 u):Evo u u'/\k8 u':=by
 obtain⟨h1,w',es,_,h2,_⟩:=h.2 _ _ hv.sim;exact⟨h1,h2.k9⟩
def Ign(Z:Goroutine->World->Prop):Prop:=∀g u,(k8 u->Z g u)->Z g u
@[reducible] def D2(P:Program)(main:Bool):Ctx P:=⟨main,fun Z=>Cl P main Z/\Ign Z,fun _ h=>h.1⟩
theorem de0{P:Program}{Post:Value->World->Prop}{X:Gh}{h:Nat}:Ign (Fin P Post X h):=by
 intro g u hF live T gs w sl q hg C;obtain⟨ρ,hs,_⟩:=C.sim;exact hF (show k8 (G2 u w.tape w.drawn)from hs.k9) _ _ _ _ _ _ hg C
section
variable{P:Program}{main:Bool}{f:FuncId}{args:Array Value}{w:World}{R:Ending->World->Prop}
theorem nj0{H:Hid}{u:World}(hH:K8 H u)(h:k8 (over H u)):k8 u:=by
 intro b o ho;cases hb:H b with
 |none=>exact h b o (by rw[L6 u hb];exact ho)
 |some o'=>
  obtain⟨T,f,hg⟩:=hH.gone b o' hb;rw[ho]at hg;obtain rfl:=Option.some.inj hg;rfl
theorem Calls.frame{H:Hid}(h:@Calls P (D2 P main) f args w R)(hH:K8 H w):@Calls P (D2 P main) f args (over H w) (fun e w'=>∃u',w'=over H u'/\K8 H u'/\R e u'):=by
 intro Z hZ cs hk;obtain⟨hc,hi⟩:=hZ;have y7:Cl P main (fun g u=>k8 u->K8 H u->Z g (over H u)):=⟨fun g u hr hs hv hH=>by
  refine hc.own g (over H u) hr fun τ d=>?_;obtain⟨g',u',d',hF,hz⟩:=hs τ d;obtain⟨he,hv'⟩:=M6.evo hF (hv.G2 τ d);have h1:=(M6.over (hH.G2 τ d) hF).1;rw[au0]at h1;refine⟨g',over H u',d',h1,?_⟩;have:=hz (hv'.G2 _ _) ((hH.evo (Mc0 he)).G2 _ _);rw[au0]at this;exact this⟩
 refine hi _ _ fun hv=>?_;refine h (fun g u=>k8 u->K8 H u->Z g (over H u)) ⟨y7,fun g u z v=>z v v⟩ cs (fun e w' fr he hf hl hv hH'=>?_) (nj0 hH hv) hH;exact hk e _ fr ⟨w',rfl,hH',he⟩ hf (pz0 hH' hl)
theorem Calls.seen(V:Nat->Prop)[DecidablePred V](h:@Calls P (D2 P main) f args (X3 V w) R):@Calls P (D2 P main) f args w (fun e w'=>∃u',w'=over (av0 V w) u'/\K8 (av0 V w) u'/\R e u'):=by
 intro Z hZ cs hk;refine hZ.2 _ _ fun hv=>?_;have:=Calls.frame h (H:=av0 V w) (sy0 hv);rw[ni0]at this;exact this Z hZ cs hk
end
end Go.Vy
end
section
namespace Go.Vy
open Go Go.Conc Go.Yc Go.RowKit
open Go.Vc (Ret)
def gh(w:World)(i:Nat):Nat:=w.tape i (.sched 0)
def gr0(w:World)(i v:Nat):World:={w with tape:=fun j q=>if j=i then v else w.tape j q}
theorem iw1(w:World)(i v:Nat):gh (gr0 w i v) i=v:=by simp[gh,gr0]
theorem Oo0(w:World){i j:Nat}(v:Nat)(h:j≠i):gh (gr0 w i v) j=gh w j:=by simp[gh,gr0,h]
abbrev Gm:=Nat->Nat
def gm(w:World):Gm:=fun i=>gh w (i+3)
theorem J3{w w':World}(h:w'.tape=w.tape)(i:Nat):gh w' i=gh w i:=by simp[gh,h]
theorem df0{w w':World}(h:w'.tape=w.tape):gm w'=gm w:=funext fun _i=>J3 h _
structure Stp where
 kind:Int
 obj:Int
 num:Int
structure Nte where
 kind:Int
 text:ByteArray
structure I6(S L:Type) where
 s:S
 nts:List Nte
 X4:L ⊕ Nat
def nk0(s:Stp):Value:=.agg #[.int .i64 s.kind,.int .i64 s.obj,.int .i64 s.num]
structure Cfg(P:Program) where
 S:Type
 L:Type
 stp:L->Stp
 rdy:L->S->Bool
 go:L->S->I6 S L
 out:Nat->I6 S L
 sOf:Nat->S
 X1:Nat->Nat
 le:Gm->Gm->Prop
 gu:Gm->Gm->Prop
 Inv:S->Gm->World->(Nat->Prop)->Prop
 At:Nat->L->Prop
 BAt:Nat->Prop
 num:Nat
 ptr:Nat
 base:World
 nl0:FuncId
 Su0:Option FuncId
 c5:FuncId
 Sv0:Option FuncId
 Sw0:FuncId
 top:List Frame
section
variable{P:Program}
structure Cfg.Told(K:Cfg P)(w:World)(m:Gm)(F:Nat->Prop)(X4:K.L ⊕ Nat):Prop where
 on:gh w 2=0
 X4:(K.out (gh w 0)).X4=X4
 nts:gh w 1=(K.out (gh w 0)).nts.length
 inv:K.Inv (K.out (gh w 0)).s m w F
 le:K.gu (gm w) m
 os:w.os=K.base.os
 output:w.output=K.base.output
structure Cfg.G6(K:Cfg P)(w:World)(m:Gm)(F:Nat->Prop)(u:World)(F':Nat->Prop):Prop where
 size:w.heap.size <=u.heap.size
 j0:∀b,b<w.heap.size->w.heap[b]? ≠some nothing->¬F b->u.heap[b]? =w.heap[b]?/\¬F' b
 inv:K.Inv (K.sOf (gh u 0)) (gm u) u F'
 le:K.le m (gm u)
 os:u.os=w.os
 output:u.output=w.output
def A6(ch:List PanicEntry):Prop:=∃v O4,ch={v,recovered:=false} :: O4/\O4.dropWhile (!·.goexit)=[]
def aw1(P:Program)(v:Value)(f:FuncId)(caps:Array Value):Prop:=v= .func (.func f) #[] caps/\∃fn,P.funcs[f]? =some fn/\fn.body.isSome=true/\Ue fn
def FnV(P:Program)(v:Value):Prop:=v= .nilFunc\/∃f caps,aw1 P v f caps
def Cfg.iy0(K:Cfg P)(w:World)(m:Gm)(F:Nat->Prop)(rf:Value)(l:K.L):Prop:=
 (rf= .nilFunc/\∀s,K.rdy l s=true)\/∃f caps,aw1 P rf f caps/\∀u F',K.G6 w m F u F'->@Calls P (D2 P true) f caps u (Ret fun v u'=>v= .bool (K.rdy l (K.sOf (gh u 0)))/\Below u.heap.size u u')
def Sx0(P:Program)(f:FuncId):Prop:=∃fn,P.funcs[f]? =some fn/\fn.body.isSome=true
def xd1(P:Program)(fN:FuncId)(ptr num:Nat)(Z:Goroutine->World->Prop):Prop:=Sx0 P fN->∀cs w,(∀fr,fr.fn=fN->Leaves P fr w (.returned (.int .i64 num))->Z (G fr cs) w)->Z (G (Frame.enter P fN #[.pointer (some ⟨ptr,0,none⟩)] .normal) cs) w
@[reducible] def S5(P:Program)(fN:FuncId)(ptr num:Nat):Ctx P:=⟨false,fun Z=>(Cl P false Z/\Ign Z)/\xd1 P fN ptr num Z,fun _ h=>h.1.1⟩
def Op0(P:Program)(C0:Ctx P)(df:Value)(u:World)(R:World->Prop):Prop:=
 (df= .nilFunc/\R u)\/∃f caps,aw1 P df f caps/\@Calls P C0 f caps u (Ret fun _ u2=>R u2)
@[reducible] def Cfg.S5(K:Cfg P):Ctx P:=Go.Vy.S5 P K.c5 K.ptr K.num
structure Cfg.Goes(K:Cfg P)(w:World)(m:Gm)(F:Nat->Prop)(l:K.L)(u:World)(F':Nat->Prop):Prop where
 B4:K.G6 w m F u F'
 nts:gh u 1=0
 on:gh u 2=0
 out:K.out (gh u 0)=K.go l (K.sOf (gh u 0))
 rdy:K.rdy l (K.sOf (gh u 0))=true
 at_:K.At (gh u 0) l
structure kl0(w w':World):Prop where
 os:w'.os=w.os
 output:w'.output=w.output
 size:w.heap.size <=w'.heap.size
 block:∀b,b<w.heap.size->w'.heap[b]? =w.heap[b]?
def Cfg.Oq0(K:Cfg P)(w:World)(F:Nat->Prop):Ending->Prop
 | .returned _=>(∃m,K.Told w m F (.inr 1))\/(gh w 2=1/\(∃m,K.gu (gm w) m/\K.Inv (K.sOf (gh w 0)) m w F)/\w.os=K.base.os/\w.output=K.base.output)
 | .panicked ch=>A6 ch/\((∃m,K.Told w m F (.inr 2))\/(gh w 2=1/\(∃m,K.gu (gm w) m/\K.Inv (K.sOf (gh w 0)) m w F)/\w.os=K.base.os/\w.output=K.base.output))
 | .outgrown=>False
inductive bc0(K:Cfg P):Goroutine->World->Prop
 |own {g u} (hr:g.status= .running) (g':Tape->Nat->Goroutine) (u':Tape->Nat->World) (d':Tape->Nat->Nat) (hf:∀τ d,M6 P false g (G2 u τ d) (g' τ d) (u' τ d)) (hk:∀τ d,bc0 K (g' τ d) (G2 (u' τ d) u.tape (d' τ d))):bc0 K g u
 |ign {g u} (h:k8 u->bc0 K g u):bc0 K g u
 |step {cs w s rf df l m F} (ht:K.Told w m F (.inl l)) (hs:s=nk0 (K.stp l)) (hr:K.iy0 w m F rf l) (hdf:FnV P df) (Rdo:World->World->Prop)
   (hdo:∀u F',K.Goes w m F l u F'->Op0 P K.S5 df u (Rdo u))
   (go:∀u F' u2,K.Goes w m F l u F'->Rdo u u2->u2.tape=u.tape->∀fr,fr.fn=K.nl0->Leaves P fr u2 (.returned (.tuple #[]))->bc0 K (G fr cs) u2)
   (stop:∀u F',K.G6 w m F u F'->gh u 2=1->∀fr ch,fr.fn=K.nl0->A6 ch->Leaves P fr u (.panicked ch)->bc0 K (G fr cs) u) :
   bc0 K (G (Frame.enter P K.nl0 #[.pointer (some ⟨K.ptr,0,none⟩),s,rf,df] .normal) cs) w
 |again {cs w s rf df} (h2:gh w 2=1) (hs:∃s0,s=nk0 s0) (k:∀w' fr ch,kl0 w w'->w'.tape=w.tape->fr.fn=K.nl0->A6 ch->Leaves P fr w' (.panicked ch)->bc0 K (G fr cs) w') :
   bc0 K (G (Frame.enter P K.nl0 #[.pointer (some ⟨K.ptr,0,none⟩),s,rf,df] .normal) cs) w
 |note {cs w kind text f} (hfn:K.Su0=some f) (h2:gh w 2=0) (hx:(K.out (gh w 0)).nts[gh w 1]? =some ⟨kind,text⟩)
   (k:∀w' fr,kl0 w w'->gh w' 0=gh w 0->gh w' 1=gh w 1+1->gh w' 2=0->gm w'=gm w->fr.fn=f->Leaves P fr w' (.returned (.tuple #[]))->bc0 K (G fr cs) w') :
   bc0 K (G (Frame.enter P f #[.pointer (some ⟨K.ptr,0,none⟩),.int .i64 kind,.string text] .normal) cs) w
 |number {cs w} (hN:Sx0 P K.c5) (k:∀fr,fr.fn=K.c5->Leaves P fr w (.returned (.int .i64 K.num))->bc0 K (G fr cs) w) :
   bc0 K (G (Frame.enter P K.c5 #[.pointer (some ⟨K.ptr,0,none⟩)] .normal) cs) w
 |X1 {cs w f} (hfn:K.Sv0=some f) (h2:gh w 2=0) (k:∀fr,fr.fn=f->Leaves P fr w (.returned (.int .i64 (K.X1 (gh w 0))))->bc0 K (G fr cs) w) :
   bc0 K (G (Frame.enter P f #[.pointer (some ⟨K.ptr,0,none⟩)] .normal) cs) w
 |done {fr w e F} (hf:fr.fn=K.Sw0) (hl:Leaves P fr w e) (hd:K.Oq0 w F e):bc0 K (G fr K.top) w
theorem ax1(K:Cfg P):Cl P false (bc0 K):=⟨fun g u hr hs=>by
 have h1:∀τ d,∃x:Goroutine×World×Nat,M6 P false g (G2 u τ d) x.1 x.2.1/\bc0 K x.1 (G2 x.2.1 u.tape x.2.2):=fun τ d=>by
  obtain⟨g',u',d',hf,hk⟩:=hs τ d;exact⟨⟨g',u',d'⟩,hf,hk⟩
 exact .own hr (fun τ d=>(h1 τ d).choose.1) (fun τ d=>(h1 τ d).choose.2.1) (fun τ d=>(h1 τ d).choose.2.2) (fun τ d=>(h1 τ d).choose_spec.1) (fun τ d=>(h1 τ d).choose_spec.2)⟩
@[reducible] def J0(K:Cfg P):Ctx P:=⟨false,fun Z=>Z=bc0 K,fun _ h=>h▸ax1 K⟩
section
variable{K:Cfg P}{w:World}{s rf df:Value}
theorem Or0{l:K.L}{m:Gm}{F:Nat->Prop}(ht:K.Told w m F (.inl l))(hs:s=nk0 (K.stp l))(hr:K.iy0 w m F rf l)(hdf:FnV P df)(Rdo:World->World->Prop)(hdo:∀u F',K.Goes w m F l u F'->Op0 P K.S5 df u (Rdo u)) :
  @Calls P (J0 K) K.nl0 #[.pointer (some ⟨K.ptr,0,none⟩),s,rf,df] w (fun e u2=>match e with
   | .returned v=>v= .tuple #[]/\∃u F',K.Goes w m F l u F'/\Rdo u u2/\u2.tape=u.tape
   | .panicked ch=>A6 ch/\∃F',K.G6 w m F u2 F'/\gh u2 2=1
   | .outgrown=>False):=by
 intro Z hZ cs hk;have h':Z=bc0 K:=hZ;subst h';exact .step ht hs hr hdf Rdo hdo (fun u F' u2 h1 h2 h3 fr h4 h5=>hk (.returned (.tuple #[])) u2 fr ⟨rfl,u,F',h1,h2,h3⟩ h4 h5) (fun u F' h1 h2 fr ch h3 h4 h5=>hk (.panicked ch) u fr ⟨h4,F',h1,h2⟩ h3 h5)
theorem Jf0(h2:gh w 2=1)(hs:∃s0,s=nk0 s0) :
  @Calls P (J0 K) K.nl0 #[.pointer (some ⟨K.ptr,0,none⟩),s,rf,df] w (fun e w'=>match e with
   | .panicked ch=>A6 ch/\kl0 w w'/\w'.tape=w.tape
   |_=>False):=by
 intro Z hZ cs hk;have h':Z=bc0 K:=hZ;subst h';exact .again h2 hs fun w' fr ch h3 h4 h5 h6 h7=>hk (.panicked ch) w' fr ⟨h6,h3,h4⟩ h5 h7
theorem Am0{kind:Int}{text:ByteArray}{f:FuncId}(hfn:K.Su0=some f)(h2:gh w 2=0)(hx:(K.out (gh w 0)).nts[gh w 1]? =some ⟨kind,text⟩):@C P (J0 K) f #[.pointer (some ⟨K.ptr,0,none⟩),.int .i64 kind,.string text] w (fun v w'=>v= .tuple #[]/\kl0 w w'/\gh w' 0=gh w 0/\gh w' 1=gh w 1+1/\gh w' 2=0/\gm w'=gm w):=by
 intro Z hZ cs hk;have h':Z=bc0 K:=hZ;subst h';exact .note hfn h2 hx fun w' fr h3 h4 h5 h6 h9 h7 h8=>hk (.returned (.tuple #[])) w' fr ⟨rfl,h3,h4,h5,h6,h9⟩ h7 h8
end
end
end Go.Vy
end
