/- What the claim leans on, part 4. Laws. -/
import Derived.Test.YtgadhljgilblbaaK3
import Derived.Conc.LeavingOf
import Derived.ProofKit
import Derived.Deep.Slices
import Derived.SizedLaws
import Derived.Conc.SmallLaws
import Derived.Laws.LoneSync
set_option linter.unusedVariables false
section
namespace Go.Vy.Sc
open Go Go.Conc Go.Yc Go.RowKit Go.Proofs Go.Proofs.Ytgadhljgilblbaa Try
open Go.Vc Go.Wg
attribute [local irreducible] KK
def tpT (w:World) (t n s:Nat) (m:Gm):Tape:=fun j q=>if 3 <=j then m (j-3) else(qb0 (qb0 (qb0 w 0 t) 1 n) 2 s).tape j q
theorem tpm (U w:World) (t n s d:Nat) (m:Gm):gm (Yc.P2 U (tpT w t n s m) d)=m:=funext fun i=>by
 show(if 3 <=i+3 then m (i+3-3) else(qb0 (qb0 (qb0 w 0 t) 1 n) 2 s).tape (i+3) (.sched 0))=m i;rw[if_pos (by omega),Nat.add_sub_cancel]
theorem tp1 (U w:World) (t n s d:Nat) (m:Gm):gh (Yc.P2 U (tpT w t n s m) d) 1=n:=rfl
structure Ce0 {P:Program} (K:N9 P) (beg:K.S->dt0 K.S K.L) (u:World) (F:Nat->Prop):Prop where
 inv:K.Inv (K.R5 (gh u 0)) (gm u) u F
 j2:gh u 1=0
 on:gh u 2=0
 out:K.out (gh u 0)=beg (K.R5 (gh u 0))
 os:u.os=K.base.os
 output:u.output=K.base.output
 at_:K.BAt (gh u 0)
structure lr0 (Y:Sys) (fb:Nat->FuncId) (caps:Nat->Array Value) (fv:Nat->Value) (ba sa:Option Addr) (sn:Nat) (sc:Nat->Int):Prop where
 sys:of0 Y
 m1:Y.m <=16
 sn1:sn <=262144
 bsl:SL ba Y.m
 ssl:SL sa sn
 fn:∀i,i<Y.m->(Y.nil i=true/\fv i= .nilFunc)\/(Y.nil i=false/\fv i= .func (.func (fb i)) #[] (caps i)/\∃fn,prog.funcs[fb i]? =some fn/\fn.body.isSome=true/\(fn.name== "runtime.NumGoroutine")=false)
 j2:(Y.pn sc sn).j2.length <=1000000000
 body:∀(base:World) (i cb:Nat) (top:List Frame) (u:World) (F:Nat->Prop),i<Y.m->Y.nil i=false->Ce0 (Y.cfg fb (Y.pn sc sn) base i cb top) (Y.beg i) u F->o9 (Y.cfg fb (Y.pn sc sn) base i cb top) (G (Frame.enter prog (fb i) (#[] ++ #[.p cb]++caps i) .normal) top) u
def G8 {L:Type}:Option (L ⊕ Nat)->Int
 |some (.inr x)=>x
 |_=>0
def Me0 (Y:Sys) (j:Nat):Option (Y.L ⊕ Nat)->Stp
 |some (.inl l)=>Y.stp j l
 |_=>sp0
def B9 {L:Type}:Option (L ⊕ Nat)->Option (L ⊕ Nat)
 |some (.inl _)=>some (.inr 0)
 |x=>x
structure Tie (Y:Sys) (rb0:Nat) (p:PR Y) (R:Rn):Prop where
 rb:R.rb=rb0
 evs:R.evs=p.evs
 j2:R.j2=p.j2
 used:R.used=p.used
 len:R.cl.length=p.ft.length
 E2:∀j c,R.cl[j]? =some c->c.E2=p.who.count (some j)
 ends:∀j,j<Y.m->R.ends[j]? =some (G8 p.ft[j]?)
namespace Sys
section
variable {Y:Sys}
theorem Sf0 (p:PR Y):p.j2 <+: (Y.bgn p).j2:=by
 unfold bgn;split
 ·exact List.prefix_refl _
 ·exact List.prefix_append _ _
theorem Mf0 (p:PR Y) (i:Nat):p.j2 <+: (Y.o5 p i).j2:=by
 unfold o5;split
 ·exact List.prefix_append _ _
 ·exact List.prefix_refl _
theorem Mg0 (p:PR Y) (e:Int):p.j2 <+: (Y.step p e).j2:=by
 unfold step;split
 ·exact Mf0 _ _
 ·exact List.prefix_refl _
theorem Mh0 {n k:Nat}:(Y.N4 n).j2 <+: (Y.N4 (n+k)).j2:=by
 induction k with
 |zero=>exact List.prefix_refl _
 |succ k ih=>exact ih.trans (Sf0 _)
theorem Mi0 {sc:Nat->Int} {n k:Nat}:(Y.pn sc n).j2 <+: (Y.pn sc (n+k)).j2:=by
 induction k with
 |zero=>exact List.prefix_refl _
 |succ k ih=>exact ih.trans (Mg0 _ _)
theorem fd0:∀(n j:Nat),(Y.N4 n).who.count (some j)=0
 |0,_=>rfl
 |n+1,j=>by
  show(Y.bgn (Y.N4 n)).who.count (some j)=0;unfold bgn;split
  ·exact fd0 n j
  ·simp[fd0 n j]
theorem ve0:∀n,(Y.N4 n).evs=[]/\(Y.N4 n).used=0
 |0=>⟨rfl,rfl⟩
 |n+1=>by
  show(Y.bgn (Y.N4 n)).evs=[]/\(Y.bgn (Y.N4 n)).used=0;unfold bgn;split <;> exact ve0 n
theorem kr0:∀n,(Y.N4 n).outs.length <=n
 |0=>Nat.le_refl _
 |n+1=>by
  show(Y.bgn (Y.N4 n)).outs.length <=n+1;have:=kr0 n;unfold bgn;split <;> simp <;> omega
theorem Mj0 (p:PR Y) (e:Int):(Y.step p e).evs.length <=p.evs.length+1/\(Y.step p e).outs.length <=p.outs.length+1:=by
 unfold step;split
 ·unfold o5;split <;> simp
 ·simp
theorem ks0 (sc:Nat->Int):∀n,(Y.pn sc n).evs.length <=n/\(Y.pn sc n).outs.length <=Y.m+n
 |0=>by
  have h1:=(ve0 (Y:=Y) Y.m).1;have h2:=kr0 (Y:=Y) Y.m;show(Y.N4 Y.m).evs.length <=0/\_;rw[h1];exact⟨Nat.le_refl _,by simpa [pn]using h2⟩
 |n+1=>by
  have h1:=ks0 sc n;have h2:=Mj0 (Y:=Y) (Y.pn sc n) (sc n);show(Y.step (Y.pn sc n) (sc n)).evs.length <=_/\(Y.step (Y.pn sc n) (sc n)).outs.length <=_;omega
theorem og0 {sc:Nat->Int} {n:Nat} (h:Y.rds (Y.pn sc n)=[]):∀k,Y.pn sc (n+k)=Y.pn sc n
 |0=>rfl
 |k+1=>by
  show Y.step (Y.pn sc (n+k)) (sc (n+k))=_;rw[og0 h k];unfold step;rw[h];rfl
theorem mk0 {p:PR Y} {j i:Nat} (h:(Y.rds p)[j]? =some i):i<Y.m/\Y.j9 p i=true:=by
 have:=List.mem_of_getElem? h;simpa [rds]using this
end
end Sys
section
variable {Y:Sys}{fb:Nat->FuncId}{caps:Nat->Array Value}{fv:Nat->Value}{ba sa:Option Addr}{sn:Nat}{sc:Nat->Int}{Mn:Nat->Option Obj}{w0:World}{rb0:Nat}
variable (Y fb sn sc Mn w0 rb0) in
def JB (i:Nat) (X:Gh) (R:Rn) (w:World):Prop :=
 i <=Y.m/\(∃Γ,Main Y fb (Y.pn sc sn) w0 Γ X R w Mn (fun j=>(Y.N4 i).ft[j]?) (Y.N4 i).s)/\Tie Y rb0 (Y.N4 i) R/\R.I4=List.replicate Y.m sp0/\R.stuck=false
variable (Y fb sn sc Mn w0 rb0) in
def J2 (n:Nat) (X:Gh) (R:Rn) (w:World):Prop :=
 n <=sn/\(∃Γ,Main Y fb (Y.pn sc sn) w0 Γ X R w Mn (fun j=>(Y.pn sc n).ft[j]?) (Y.pn sc n).s)/\Tie Y rb0 (Y.pn sc n) R/\R.I4=List.replicate Y.m sp0/\R.stuck=false
variable (Y fb sn sc Mn w0 rb0) in
def JE (i:Nat) (X:Gh) (R:Rn) (w:World):Prop :=
 i <=Y.m/\(∃Γ,Main Y fb (Y.pn sc sn) w0 Γ X R w Mn (fun j=>if j<i then B9 ((Y.pn sc sn).ft[j]?) else(Y.pn sc sn).ft[j]?) (Y.pn sc sn).s)/\Tie Y rb0 (Y.pn sc sn) R /\
  (∀j,j<Y.m->R.I4[j]? =some (if j<i then Me0 Y j ((Y.pn sc sn).ft[j]?) else sp0))/\R.stuck=((Y.pn sc sn).ft.any (·.isLeft)&&(Y.rds (Y.pn sc sn)).isEmpty)
theorem Main.get {Γ:Geo} {X:Gh} {R:Rn} {w:World} {q:PR Y} {ft:Nat->Option (Y.L ⊕ Nat)} {s:Y.S} (h:Main Y fb q w0 Γ X R w Mn ft s):∀b,Mn b≠none->w.heap[b]? =Mn b:=fun b hb=>(h.fix.mn b hb).1
theorem qk0 {i:Nat} (hi:i <=Y.m):Y.Le (Y.N4 i) (Y.pn sc sn):=by
 have h1:Y.Le (Y.N4 i) (Y.N4 Y.m):=by
  have:=Sys.Rz0 (Y:=Y) (n:=i) (k:=Y.m-i)
  rwa [Nat.add_sub_cancel' hi]at this
 have h2:Y.Le (Y.pn sc 0) (Y.pn sc (0+sn)):=Sys.Vx0;rw[Nat.zero_add]at h2;exact h1.trans h2
theorem sm0 {n:Nat} (hi:n <=sn):Y.Le (Y.pn sc n) (Y.pn sc sn):=by
 have:=Sys.Vx0 (Y:=Y) (sc:=sc) (n:=n) (k:=sn-n)
 rwa [Nat.add_sub_cancel' hi]at this
theorem Cf0 {i:Nat} (hi:i <=Y.m):(Y.N4 i).j2 <+: (Y.pn sc sn).j2:=by
 have h1:(Y.N4 i).j2 <+: (Y.N4 Y.m).j2:=by
  have:=Sys.Mh0 (Y:=Y) (n:=i) (k:=Y.m-i)
  rwa [Nat.add_sub_cancel' hi]at this
 have h2:(Y.pn sc 0).j2 <+: (Y.pn sc (0+sn)).j2:=Sys.Mi0;rw[Nat.zero_add]at h2;exact h1.trans h2
theorem Mk0 {n:Nat} (hi:n <=sn):(Y.pn sc n).j2 <+: (Y.pn sc sn).j2:=by
 have:=Sys.Mi0 (Y:=Y) (sc:=sc) (n:=n) (k:=sn-n)
 rwa [Nat.add_sub_cancel' hi]at this
theorem ml0 {p:PR Y} {i:Nat} (hi:p.ft.length=i) (x:Y.L ⊕ Nat):(fun j=>if j=i then some x else p.ft[j]?)=fun j=>(p.ft ++ [x])[j]?:=by
 funext j;subst hi;rcases Nat.lt_trichotomy j p.ft.length with h|h|h
 ·rw[if_neg (by omega),List.getElem?_append_left h]
 ·subst h;simp
 ·rw[if_neg (by omega),List.getElem?_eq_none (by omega),List.getElem?_eq_none (by simp;omega)]
theorem Ep0 {p:PR Y} {i:Nat} (hi:i<p.ft.length) (x:Y.L ⊕ Nat):(fun j=>if j=i then some x else p.ft[j]?)=fun j=>(p.ft.set i x)[j]?:=by
 funext j;by_cases h:j=i
 ·subst h;simp[hi]
 ·rw[if_neg h,List.getElem?_set_ne (Ne.symm h)]
theorem kt0 {e:List Int} {i:Nat} {f:Y.L ⊕ Nat} {g:Nat->Option (Y.L ⊕ Nat)} {m:Nat} (h:∀j,j<m->e[j]? =some (G8 (g j))) (hl:e.length=m) (h0:G8 (g i)=0) (j:Nat) (hj:j<m):(kq0 e i f)[j]? =some (G8 (if j=i then some f else g j)):=by
 cases f with
 |inl l=>
  show e[j]? =_;by_cases S2:j=i
  ·subst S2;rw[h j hj,h0,if_pos rfl];rfl
  ·rw[h j hj,if_neg S2]
 |inr x=>
  show(e.set i (x:Int))[j]? =_;by_cases S2:j=i
  ·subst S2;rw[if_pos rfl];simp[hl,hj];rfl
  ·rw[List.getElem?_set_ne (Ne.symm S2),h j hj,if_neg S2]
set_option maxRecDepth 20000 in
theorem Zj0 (hO:lr0 Y fb caps fv ba sa sn sc) {Post:Value->World->Prop} {i:Nat} {X:Gh} {R:Rn} {w w':World} {a:Option Addr} {n cb rc:Nat} (hi:i<Y.m) (hJ:JB Y fb sn sc Mn w0 rb0 i X R w) (hf:fv i≠.nilFunc) (hcb:w.heap.size <=cb) (hrc:w.heap.size <=rc) (C3:cb≠rc) (J8:ChanAt w' rc)
  (hg:Rg R.fp w.heap.size w w' w0.heap.size {R with ca:=a,cc:=n,cl:=R.cl ++ [Q4 cb rc]}) {me0:Goroutine} (hk:∀X' R' u v,JB Y fb sn sc Mn w0 rb0 (i+1) X' R' u->Fin prog Post X' 0 (Go.Conc.served me0 v) u) :
  Fin prog Post (Gh.hire {X.lower cb with pend:=1,cap:=X.cap+1,dn:=0} ⟨R.yb,.i 0,me0⟩) X.n (born prog (dcall 82 #[.p cb,fv i])) w':=by
 obtain⟨_,⟨Γ,hM⟩,hT,ba0,bg0⟩:=hJ;obtain⟨hn,hfv,fn,hfn,hbd,hnm⟩:Y.nil i=false/\fv i= .func (.func (fb i)) #[] (caps i)/\∃fn,prog.funcs[fb i]? =some fn/\fn.body.isSome=true/\(fn.name== "runtime.NumGoroutine")=false:=by
  rcases hO.fn i hi with h|h
  ·exact absurd h.2 hf
  ·exact h
 have hF:=hM.fix;have hlen:R.cl.length=i:=hT.len.trans (Sys.S5 i);have hok:=Sys.sj0 (Y:=Y) i;have hle:Y.Le (Y.N4 (i+1)) (Y.pn sc sn):=qk0 (by omega);have hbg:Y.N4 (i+1)={Y.N4 i with s:=(Y.beg i (Y.N4 i).s).s,ft:=(Y.N4 i).ft ++ [(Y.beg i (Y.N4 i).s).W3],j2:=(Y.N4 i).j2++tell i (Y.N4 i).evs.length (Y.beg i (Y.N4 i).s).j2,outs:=(Y.N4 i).outs ++ [Y.beg i (Y.N4 i).s],who:=(Y.N4 i).who ++ [none]}:=by
  show Y.bgn (Y.N4 i)=_;unfold Sys.bgn;rw[Sys.S5 i,hn];rfl
 generalize hp:Y.N4 i=p at *;have hs:Y.sAt (Y.pn sc sn) p.outs.length=p.s:=Sys.Sa0 hok (by rw[<- hp];exact qk0 (by omega));have ho:Y.W4 (Y.pn sc sn) p.outs.length=Y.beg i p.s:=Sys.Lx0 (p':=Y.N4 (i+1)) (by rw[hbg]) hle;obtain⟨F,hinv,hFf⟩:=hM.inv;have S9:=hO.sys.vis _ _ _ _ hinv;refine Fin.chan (b:=rc) (k:=0) ⟨fun j x hx=>?_,(hF.under.gp0 hrc).w5,(hF.under.gp0 hrc).chs,(hF.under.gp0 hrc).J4⟩ (fun z=>?_) (hF.L6 rc hrc) J8 ?_
 ·exact(hF.under.gp0 hrc).stay j x hx
 ·rcases z with z|z
  ·have:=hF.under.low rc z;omega
  ·exact C3 z.symm
 have hrl:=J8.lt;have lr1:X1 w' cb ((Q4 cb rc).cells R.rb i) 197 (0,3):=hg.m.blk i (Q4 cb rc) (by show(R.cl ++ [Q4 cb rc])[i]? =_;rw[<- hlen];simp);have Lf0:∀b,b≠rc->(l3 w' rc nothing).heap[b]? =w'.heap[b]?:=fun b hb=>N6 _ _ (Ne.symm hb);have gj1:X1 (l3 w' rc nothing) cb ((Q4 cb rc).cells R.rb i) 197 (0,3):=(Lf0 cb C3).trans lr1;have fx1:(l3 w' rc nothing).heap.size=w'.heap.size:=by simp[l3]
 have ls1:¬Rn.fp {R with ca:=a,cc:=n,cl:=R.cl ++ [Q4 cb rc]} rc:=fun z=>by
  have hx:=J8;have own:∀{E:TypeId} {s n c:Nat} {a:Option Addr} {xs:List Value},Own w' w0.heap.size E s a n c xs->a≠none->rc=ab a->False:=fun h ha e=>by
   obtain⟨cur,hB,_⟩:=h.row ha;unfold ChanAt at hx;rw[e]at hx;unfold V0 at hB;rw[hx]at hB;cases hB
  have blk:∀{b:Nat} {cs:Array Value} {T:TypeId} {f:Nat×Nat},X1 w' b cs T f->rc=b->False:=fun h e=>by
   unfold ChanAt at hx;rw[e]at hx;unfold X1 at h;rw[hx]at h;cases h
  rcases z with e|e|e|⟨ha,e⟩|⟨ha,e⟩|⟨ha,e⟩|⟨j,c,hc,e⟩
  ·exact blk hg.m.run e
  ·exact blk hg.m.ends e
  ·exact blk hg.m.I4 e
  ·exact own hg.m.cls ha e
  ·exact own hg.m.evs ha e
  ·exact own hg.m.j2 ha e
  ·exact blk (hg.m.blk j c hc) e
 have hM2:D4 (l3 w' rc nothing) w0.heap.size {R with ca:=a,cc:=n,cl:=R.cl ++ [Q4 cb rc]}:=hg.m.congr fun b hb=>Lf0 b fun e=>ls1 (e▸hb);refine Fin.stay (l:=[(⟨cb,2,none⟩,.chan (some rc))]) (fun x hx=>?_) ?_
 ·simp at hx;subst hx;exact⟨gj1.q0 2 rfl,by rw[gj1.frozen];rfl⟩
 show Fin prog Post (vc0 X cb rc ⟨R.yb,.i 0,me0⟩) X.n _ _;rw[hfv];refine Ll0 (i:=i) (c:=Q4 cb rc) hfn hbd hnm hM2 (by show(R.cl ++ [Q4 cb rc])[i]? =_;rw[<- hlen];simp) fun w1 top Z7 m7 V7 lA lE hA hE lt1=>?_;have Za0:w.heap.size <=w1.heap.size:=Nat.le_trans hg.md.size (by have:=V7.size;omega);have D2:∀b,b<w.heap.size->¬R.fp b->w1.heap[b]? =w.heap[b]?:=fun b hb hf=>by
  rw[V7.block b (by have:=hg.md.size;omega),Lf0 b (by omega)];exact hg.md.block b hb hf
 have hM1:=hM2.j0 V7;have gk1:∀b,Rn.fp {R with ca:=a,cc:=n,cl:=R.cl ++ [Q4 cb rc]} b->b<(l3 w' rc nothing).heap.size:=fun b hb=>hM2.lt hb;have hsA:w.heap.size <=(l3 w' rc nothing).heap.size:=by rw[fx1];exact hg.md.size
 have lx0:=hF.hire hO.sys.toLeOk (s:=⟨R.yb,.i 0,me0⟩) (top:=top) hn hlen rfl hM1 Za0 ⟨V7.os.trans hg.md.os,V7.output.trans hg.md.output⟩ D2 hg.fp hcb ⟨hrc,by have:=V7.size;omega⟩ (by omega) (by omega) hA hE (fun z=>by have:=gk1 _ z;omega) (fun z=>by have:=gk1 _ z;omega) lt1;refine ak0 _ _ fun nv=>?_;haveI:DecidablePred F:=fun _=>Classical.propDecidable _;refine mj0 F (cu0 (τ:=tpT w1 p.outs.length 0 0 Γ.gm) (d:=w1.drawn) ?_);have gl1:∀b,(Rn.fp {R with ca:=a,cc:=n,cl:=R.cl ++ [Q4 cb rc]} b\/Kept Y (Γ.add i X.n Z7 m7 top) {R with ca:=a,cc:=n,cl:=R.cl ++ [Q4 cb rc]} Mn b)->¬F b:=fun b hb hFb=>by
  have hv:=S9 b hFb;have hff:=hFf b hFb;rcases hb with hb|hb|⟨k,hk,hnk,hb⟩|⟨j,hb⟩
  ·rcases hg.fp b hb with z|z
   ·exact hff.1 z
   ·omega
  ·exact hff.2 (.inl hb)
  ·by_cases J9:k=i
   ·subst J9;have h1:(Γ.add k X.n Z7 m7 top).ab k=Z7:=Z2;have h2:(Γ.add k X.n Z7 m7 top).eb k=m7:=Z2;rw[h1,h2]at hb;omega
   ·have h1:(Γ.add i X.n Z7 m7 top).ab k=Γ.ab k:=J3 J9;have h2:(Γ.add i X.n Z7 m7 top).eb k=Γ.eb k:=J3 J9;rw[h1,h2]at hb;refine hff.2 (.inr (.inl ⟨k,?_,hnk,hb⟩));have hk':k<(R.cl ++ [Q4 cb rc]).length:=hk;rw[List.length_append,List.length_singleton]at hk';omega
  ·by_cases S2:j=i
   ·subst S2;have h1:(Γ.add j X.n Z7 m7 top).pv j=fun _=>False:=Z2;rw[h1]at hb;exact hb
   ·have h1:(Γ.add i X.n Z7 m7 top).pv j=Γ.pv j:=J3 S2;rw[h1]at hb;exact hff.2 (.inr (.inr ⟨j,hb⟩))
 have hgi:(Γ.add i X.n Z7 m7 top).gi i=X.n:=Z2;have hti:(Γ.add i X.n Z7 m7 top).top i=top:=Z2;have vd0:(Γ.add i X.n Z7 m7 top).eb i=m7:=Z2;have hpk:Y.E2 (Y.pn sc sn) i p.outs.length=0:=by
  unfold Sys.E2;obtain⟨l,hl⟩:=hle.who;have hw:=hok.who;rw[<- hl,hbg];rw[List.take_append_of_le_length (by simp[hw]),List.take_of_length_le (by simp[hw])];have:=Sys.fd0 (Y:=Y) i i;rw[hp]at this;simp[this]
 have W5:=p9.enter (q:=Y.pn sc sn) (i:=i) (t:=p.outs.length) (at_:=p.evs.length) (cb:=cb) (n0:=p.j2) (R0:={R with ca:=a,cc:=n,cl:=R.cl ++ [Q4 cb rc]}) (τ:=tpT w1 p.outs.length 0 0 Γ.gm) (d:=w1.drawn) hO.sys.toLeOk F lx0 gl1 nv rfl (tpm _ _ _ _ _ _ _) (congrArg List.length hT.evs) ⟨Q4 cb rc,by show(R.cl ++ [Q4 cb rc])[i]? =_;rw[<- hlen];simp,rfl,.inl ⟨rfl,rfl,by
  show R.j2=_;rw[tp1,hT.j2];simp[tell],hpk.symm⟩⟩ ⟨R.na,R.nc,R.j2,rfl⟩ hn (by rw[vd0];exact hE)
 have S4:Ce0 (Y.cfg fb (Y.pn sc sn) w0 i cb top) (Y.beg i) (Yc.P2 (P3 F w1) (tpT w1 p.outs.length 0 0 Γ.gm) w1.drawn) F:=by
  refine⟨?_,rfl,rfl,?_,?_,?_,⟨show p.outs.length <=300000 by have h1:=Sys.kr0 (Y:=Y) i;rw[hp]at h1;have h2:=hO.m1;omega,p,.inl ⟨i,by omega,hp.symm⟩,rfl,hs.symm,by rw[<- hp];exact Sys.S5 i⟩⟩
  ·show Y.Inv (Y.sAt (Y.pn sc sn) p.outs.length) (gm (Yc.P2 (P3 F w1) (tpT w1 p.outs.length 0 0 Γ.gm) w1.drawn)) _ _;rw[hs,tpm];refine hO.sys.loc _ _ w _ F hinv fun b hb=>?_;show(P3 F w1).heap[b]? =_;rw[ao0 _ hb,D2 b (S9 b hb).1 (hFf b hb).1]
  ·show Y.W4 (Y.pn sc sn) p.outs.length=Y.beg i (Y.sAt (Y.pn sc sn) p.outs.length);rw[hs,ho]
  ·exact(V7.os.trans hg.md.os).trans (hF.os rfl)
  ·exact(V7.output.trans hg.md.output).trans (hF.output rfl)
 have hpr:=hO.body w0 i cb top _ F hi hn S4;have key:=ia0 (Post:=Post) (z0:=.i 0) (me0:=me0) (st:=false) (X:=vc0 X cb rc ⟨R.yb,.i 0,me0⟩) (Γ:=Γ.add i X.n Z7 m7 top) (Mn:=Mn) (ft:=fun j=>p.ft[j]?) (t:=p.outs.length) (at_:=p.evs.length) (n0:=p.j2) (R0:={R with ca:=a,cc:=n,cl:=R.cl ++ [Q4 cb rc]}) hO.sys (show Go.ConcN.upd X.C2 0 _ 0=_ from Go.ConcN.upd_same _ _ _) (by
   have h1:=(Cf0 (Y:=Y) (sc:=sc) (sn:=sn) (i:=i+1) (by omega)).length_le;have h2:=hO.j2;rw[hbg]at h1;rw[ho];simp[tell]at h1;omega) (fun Γ' X' R' w2 hA=>?_) (by rw[hti];exact hpr) _ _ W5 (fun c hc=>by
    have V8:(R.cl ++ [Q4 cb rc])[i]? =some c:=hc;rw[<- hlen]at V8;simp at V8;rw[<- V8])
 ·rw[hgi]at key;exact key
 ·rcases hA with⟨_,hM',na,nc,c,c',hc,hcp,hR⟩|⟨z,_⟩
  ·have hc:(R.cl ++ [Q4 cb rc])[i]? =some c:=hc;have hc0:c=Q4 cb rc:=by rw[<- hlen]at hc;simp at hc;exact hc.symm
   rw[ho,ml0 (by rw[<- hp];exact Sys.S5 i)]at hM';refine hk X' R' w2 _ ?_;subst hR;refine⟨by omega,⟨Γ',by rw[hbg];exact hM'⟩,?_,ba0,bg0⟩;rw[hbg];refine⟨hT.rb,hT.evs,?_,hT.used,?_,fun j d hd=>?_,fun j hj=>?_⟩
   ·show p.j2++tell i R.evs.length (Y.W4 (Y.pn sc sn) p.outs.length).j2=_;rw[hT.evs,ho]
   ·show((R.cl ++ [Q4 cb rc]).set i c').length=_;simp[hT.len]
   ·have O5:((R.cl ++ [Q4 cb rc]).set i c')[j]? =some d:=hd;show d.E2=(p.who ++ [none]).count (some j);have hz:p.who.count (some j)=0:=by rw[<- hp];exact Sys.fd0 i j
    rw[List.getElem?_set]at O5;by_cases S2:i=j
    ·subst S2;rw[if_pos rfl,if_pos (by simp[hlen])]at O5;obtain rfl:=Option.some.inj O5;rw[hcp,hc0];simp[hz]
    ·rw[if_neg S2]at O5;rcases m8 O5 with z|⟨z,_⟩
     ·rw[hT.E2 j d z];simp
     ·omega
   ·show(kq0 R.ends i (Y.W4 (Y.pn sc sn) p.outs.length).W3)[j]? =some (G8 ((p.ft ++ [(Y.beg i p.s).W3])[j]?));have hpl:p.ft.length=i:=by rw[<- hp];exact Sys.S5 i
    have h0:=kt0 (Y:=Y) (f:=(Y.beg i p.s).W3) (g:=fun j=>p.ft[j]?) (i:=i) hT.ends (by rw[hF.mem.eo0,hF.m]) (by show G8 p.ft[i]? =0;rw[List.getElem?_eq_none (by omega)];rfl) j hj;rw[ho,h0];exact congrArg (fun f:Nat->Option (Y.L ⊕ Nat)=>some (G8 (f j))) (ml0 hpl (Y.beg i p.s).W3)
  ·cases z
end
end Go.Vy.Sc
end
section
namespace Go.Vy.Sc
open Go Go.Conc Go.Yc Go.RowKit Go.Proofs Go.Proofs.Ytgadhljgilblbaa Try
open Go.Vc Go.Wg
section
attribute [local irreducible] KK
theorem Sg0 {Post:Value->World->Prop} {X:Gh} {h:Nat} {H:Hid} {cs:List Frame} {cb:Nat} {df:Value} {me:Goroutine} {u:World} {K:World->Prop} (h0:(h==0)=false) {num:Nat} (hme:oa0 cs cb df me) (hd:Gh0 prog (S7 prog 53 cb num) df u K)
  (lu1:∀cs2 u2,Evo u u2->u2.tape=u.tape->(∀fr,fr.fn=53->Leaves prog fr u2 (.returned (.i num))->fz0 prog Post X h H (G fr cs2) u2)->fz0 prog Post X h H (G (Frame.enter prog 53 #[.p cb] .normal) cs2) u2)
  (hk:∀u2 fr,Evo u u2->u2.tape=u.tape->K u2->fr.fn=97->Leaves prog fr u2 (.returned (.tuple #[]))->fz0 prog Post X h H (G fr cs) u2):fz0 prog Post X h H (Go.Conc.served me (.bool true)) u:=by
 have N7:Cl prog false (fun g x=>Evo u x->x.tape=u.tape->fz0 prog Post X h H g x):=⟨fun g x hr hs he ht=>no0 hr fun τ d=>by
  obtain⟨g',u',d',hF,hz⟩:=hs τ d;exact⟨g',u',by rw[h0];exact hF,fun he'=>cu0 (hz (he.trans ⟨he'.size,he'.obj⟩) ht)⟩⟩
 exact hme.yes (S7 prog 53 cb num) (fun g x=>Evo u x->x.tape=u.tape->fz0 prog Post X h H g x) ⟨⟨N7,fun g x hz he ht=>Ei0.2 _ _ fun hv=>hz hv he ht⟩,fun cs2 u2 hz he ht=>lu1 cs2 u2 he ht fun fr h3 h4=>hz fr h3 h4 he ht⟩ u K hd (fun u2 fr h1 h2 h3 he ht=>hk u2 fr he ht h1 h2 h3) (Evo.refl u) rfl
section
variable {Y:Sys}{fb:Nat->FuncId}{caps:Nat->Array Value}{fv:Nat->Value}{ba sa:Option Addr}{sn:Nat}{sc:Nat->Int}{Mn:Nat->Option Obj}{w0:World}{rb0:Nat}
theorem Sh0 {Γ:Geo} {i:Nat} {N:Nat->Prop}:(Γ.put i N).pv i=N:=by funext b;simp[Geo.put]
theorem ql0 {q:PR Y} {Γ:Geo} {X:Gh} {R R1:Rn} {w:World} {ft:Nat->Option (Y.L ⊕ Nat)} {i:Nat} (hF:Fix Y fb q w0 Γ X R w Mn none ft) (hfp:∀b,R1.fp b->R.fp b\/w.heap.size <=b) (hlen:R1.cl.length=R.cl.length) {F:Nat->Prop} (hFf:∀b,F b->¬R.fp b/\¬Kept Y Γ R Mn b) (hFs:∀b,F b->b<w.heap.size) (b:Nat)
  (hb:R1.fp b\/Kept Y (Γ.put i fun _=>False) R1 Mn b):¬(Γ.pv i b\/F b):=by
 intro hV;have hl:b<w.heap.size/\¬R.fp b:=by
  rcases hV with h|h
  ·exact⟨(hF.pv i b h).1,(hF.pv i b h).2.1⟩
  ·exact⟨hFs b h,(hFf b h).1⟩
 rcases hb with hb|hb|⟨k,hk,hnk,hb⟩|⟨j,hb⟩
 ·rcases hfp b hb with z|z
  ·exact hl.2 z
  ·omega
 ·rcases hV with h|h
  ·exact(hF.pv i b h).2.2.1 hb
  ·exact(hFf b h).2 (.inl hb)
 ·rw[hlen]at hk;rcases hV with h|h
  ·have:=(hF.pv i b h).2.2.2.1 k hk hnk;rcases hb with hb|hb
   ·exact this.1 hb
   ·exact this.2 hb
  ·exact(hFf b h).2 (.inr (.inl ⟨k,hk,hnk,hb⟩))
 ·by_cases S2:j=i
  ·subst S2;rw[Sh0]at hb;exact hb
  ·rw[sk0 S2]at hb;rcases hV with h|h
   ·exact(hF.pv i b h).2.2.2.2 j S2 hb
   ·exact(hFf b h).2 (.inr (.inr ⟨j,hb⟩))
theorem Fix.waits {q:PR Y} {Γ:Geo} {X:Gh} {R:Rn} {w:World} {ft:Nat->Option (Y.L ⊕ Nat)} (hF:Fix Y fb q w0 Γ X R w Mn none ft) {i:Nat} {c:CB} (hc:R.cl[i]? =some c):(c.wt=true/\Y.nil i=false/\∃l,ft i=some (.inl l)/\Wt Y fb q w0 Γ X w i c l)\/(c.wt=false/\∃x,ft i=some (.inr x)/\(Y.nil i=true\/X.C2 (Γ.gi i)=none)):=by
 obtain⟨f,h1,h2⟩:=hF.cl i c hc (by simp);rcases h2 with⟨h3,h4,h5,h6⟩|⟨h3,h4⟩
 ·exact .inr ⟨h5,1,by rw[h1,h4],.inl h3⟩
 ·cases f with
  |inl l=>exact .inl ⟨h4.wt,h3,l,h1,h4⟩
  |inr x=>exact .inr ⟨h4.1,x,h1,.inr h4.2.2⟩
theorem Wt.Z3 (hY:of0 Y) {q:PR Y} {Γ:Geo} {X:Gh} {R:Rn} {w:World} {i:Nat} {c:CB} {l:Y.L} {F:Nat->Prop} {s:Y.S} {wn:World} {mn:Gm} {Fn:Nat->Prop} (hpv:∀b,Γ.pv i b↔b<wn.heap.size/\wn.heap[b]? ≠some nothing/\¬Fn b) (bx0:∀b,Γ.pv i b->w.heap[b]? =wn.heap[b]?) (hos:wn.os=w0.os) (W8:wn.output=w0.output) (A2:wn.heap.size <=w.heap.size) (Cg0:Y.le i mn Γ.gm)
  (hinv:Y.Inv s Γ.gm w F) (hFf:∀b,F b->¬Γ.pv i b) {u:World} (hu:∀b,Γ.pv i b\/F b->u.heap[b]? =w.heap[b]?) (lv1:w.heap.size <=u.heap.size) (lw1:u.os=w0.os) (gm1:u.output=w0.output) (hs:Y.sAt q (gh u 0)=s) (hgm:gm u=Γ.gm) {cb:Nat} {top:List Frame}:(Y.cfg fb q w0 i cb top).cv0 wn mn Fn u F:=by
 refine⟨Nat.le_trans A2 lv1,fun b hb h1 h2=>?_,?_,by rw[hgm];exact Cg0,lw1.trans hos.symm,gm1.trans W8.symm⟩
 ·have hp:=(hpv b).2 ⟨hb,h1,h2⟩;exact⟨(hu b (.inl hp)).trans (bx0 b hp),fun z=>hFf b z hp⟩
 ·show Y.Inv (Y.sAt q (gh u 0)) (gm u) u F;rw[hs,hgm];exact hY.loc _ _ w u F hinv fun b hb=>hu b (.inr hb)
set_option maxRecDepth 20000 in
theorem Si0 (hO:lr0 Y fb caps fv ba sa sn sc) {Post:Value->World->Prop} {n:Nat} {X:Gh} {R:Rn} {w:World} {i:Nat} {c:CB} (hJ:J2 Y fb sn sc Mn w0 rb0 n X R w) (hn:n<sn) (Wa0:(Y.rds (Y.pn sc n))[W7 (sc n) (Y.rds (Y.pn sc n)).length]? =some i) (hc:R.cl[i]? =some c) :
  ∃g z1 me1,g≠0/\X.C2 g=some ⟨c.rc,z1,me1⟩/\X.dn=0/\X.stay 0=[(⟨R.rb,7,none⟩,.chan (some R.yb))]/\(X.chs R.yb/\∀i s2,i≠g->X.C2 i=some s2->s2.ch≠R.yb) /\
  ∀w' a nn me0,Rg R.fp w.heap.size w w' w0.heap.size {R with ea:=a,ec:=nn,evs:=R.evs ++ [(i,c.sp)],used:=R.used+1,cl:=R.cl.set i {c with E2:=c.E2+1,wt:=false}}->(∀X' R' u v,J2 Y fb sn sc Mn w0 rb0 (n+1) X' R' u->Fin prog Post X' 0 (Go.Conc.served me0 v) u)->Fin prog Post (X.pass 0 g (some ⟨R.yb,.i 0,me0⟩)) g (Go.Conc.served me1 (.bool true)) w':=by
 obtain⟨_,⟨Γ,hM⟩,hT,ba0,bg0⟩:=hJ;have hF:=hM.fix;obtain⟨him,hri⟩:=Sys.mk0 Wa0;have hle:Y.Le (Y.pn sc (n+1)) (Y.pn sc sn):=sm0 (by omega);have Zk0:Y.Le (Y.pn sc n) (Y.pn sc sn):=sm0 (by omega);have hok:=Sys.uy0 (Y:=Y) sc n;have hlp:(Y.pn sc n).ft.length=Y.m:=Sys.w8 sc n;have ji0:Y.pn sc (n+1)=Y.o5 (Y.pn sc n) i:=by
  show Y.step (Y.pn sc n) (sc n)=_;unfold Sys.step;rw[Wa0]
 have Wb0:=(Mk0 (Y:=Y) (sc:=sc) (sn:=sn) (n:=n+1) (by omega)).length_le;generalize hp:Y.pn sc n=p at *;obtain⟨l,hl,hrl⟩:∃l,p.ft[i]? =some (.inl l)/\Y.rdy i l p.s=true:=by
  unfold Sys.j9 at hri;cases hx:p.ft[i]? with
  |none=>rw[hx]at hri;cases hri
  |some f=>
   cases f with
   |inl l=>rw[hx]at hri;exact⟨l,rfl,hri⟩
   |inr x=>rw[hx]at hri;cases hri
 obtain⟨hwt,hnl,l',c6,hW⟩:c.wt=true/\Y.nil i=false/\∃l,p.ft[i]? =some (.inl l)/\Wt Y fb (Y.pn sc sn) w0 Γ X w i c l:=by
  rcases hF.waits hc with h|⟨_,x,h,_⟩
  ·exact h
  ·have h:p.ft[i]? =some (.inr x):=h;rw[hl]at h;cases h
 obtain rfl:l=l':=by rw[hl]at c6;exact Sum.inl.inj (Option.some.inj c6)
 have htn:Y.o5 p i={p with s:=(Y.go i l p.s).s,ft:=p.ft.set i (Y.go i l p.s).W3,evs:=p.evs ++ [(i,Y.stp i l)],j2:=p.j2++tell i (p.evs.length+1) (Y.go i l p.s).j2,outs:=p.outs ++ [Y.go i l p.s],who:=p.who ++ [some i],used:=p.used+1}:=by
  unfold Sys.o5;rw[hl]
 have hs:Y.sAt (Y.pn sc sn) p.outs.length=p.s:=Sys.Sa0 hok Zk0;have ho:Y.W4 (Y.pn sc sn) p.outs.length=Y.go i l p.s:=Sys.Lx0 (p':=Y.pn sc (n+1)) (by rw[ji0,htn]) hle;obtain⟨h1,S4,hsp,heb,me,cs,wn,mn,Fn,Rdo,c7,hme,hrf,hdf,hpv,bx0,hos,W8,A2,Cg0,hdo,hgo,mp0⟩:=hW;have hgp:=(hF.ck i c hc hnl).dd0;have X9:(Γ.gi i==0)=false:=by simp;omega
 refine⟨Γ.gi i,.bool false,me,by omega,c7,hF.dn,hF.lp0,⟨hF.chy,fun j s2 hj hs2=>?_⟩,fun w' a nn me0 hg hk=>?_⟩
 ·by_cases hj0:j=0
  ·subst hj0;rw[hF.oe0 rfl]at hs2;cases hs2
  ·obtain⟨k,d,h2,h3,_,h4,_⟩:=hF.O4 j s2 hj0 hs2;rw[h4];exact hF.ry k d h2 h3
 have J7:=(List.getElem?_eq_some_iff.1 hc).1;obtain⟨F,hinv,hFf⟩:=hM.inv;have S9:=hO.sys.vis _ _ _ _ hinv;have D2:∀b,b<w.heap.size->¬R.fp b->w'.heap[b]? =w.heap[b]?:=hg.md.block;have lx0:=(hF.gd1 hO.sys.toLeOk hnl hc (s0:=⟨R.yb,.i 0,me0⟩)).o5 hO.sys.toLeOk (w':=w') (R':={R with ea:=a,ec:=nn,evs:=R.evs ++ [(i,c.sp)],used:=R.used+1,cl:=R.cl.set i {c with E2:=c.E2+1,wt:=false}}) hg.m rfl rfl rfl hg.fp (by simp) (fun j d hd=>by
  have O5:(R.cl.set i {c with E2:=c.E2+1,wt:=false})[j]? =some d:=hd;rw[List.getElem?_set]at O5;by_cases hj:i=j
  ·subst hj;rw[if_pos rfl,if_pos J7]at O5;obtain rfl:=Option.some.inj O5;exact⟨c,hc,rfl,rfl,fun z=>absurd rfl z⟩
  ·rw[if_neg hj]at O5;exact⟨d,O5,rfl,rfl,fun _=>⟨rfl,rfl⟩⟩) hg.md.size (fun b hb hf _=>.inl (D2 b hb hf)) (fun z=>by cases z)
 refine ak0 _ _ fun nv=>?_;haveI:DecidablePred fun b=>Γ.pv i b\/F b:=fun _=>Classical.propDecidable _;refine mj0 (fun b=>Γ.pv i b\/F b) (cu0 (τ:=tpT w' p.outs.length 0 0 Γ.gm) (d:=w'.drawn) ?_);have In0:=ql0 (i:=i) (R1:={R with ea:=a,ec:=nn,evs:=R.evs ++ [(i,c.sp)],used:=R.used+1,cl:=R.cl.set i {c with E2:=c.E2+1,wt:=false}}) hF hg.fp (by simp) hFf (fun b hb=>(S9 b hb).1);have hpk:Y.E2 (Y.pn sc sn) i p.outs.length=c.E2+1:=by
  unfold Sys.E2;obtain⟨l',c6⟩:=hle.who;have hw:=hok.who;rw[<- c6,ji0,htn];rw[List.take_append_of_le_length (by simp[hw]),List.take_of_length_le (by simp[hw])];rw[hT.E2 i c hc];simp
 have W5:=p9.enter (q:=Y.pn sc sn) (i:=i) (t:=p.outs.length) (at_:=p.evs.length+1) (cb:=c.cb) (n0:=p.j2) (R0:={R with ea:=a,ec:=nn,evs:=R.evs ++ [(i,c.sp)],used:=R.used+1,cl:=R.cl.set i {c with E2:=c.E2+1,wt:=false}}) (τ:=tpT w' p.outs.length 0 0 Γ.gm) (d:=w'.drawn) hO.sys.toLeOk (fun b=>Γ.pv i b\/F b) lx0 In0 nv rfl (tpm _ _ _ _ _ _ _) (by show(R.evs ++ [(i,c.sp)]).length=_;rw[hT.evs];simp)
  ⟨{c with E2:=c.E2+1,wt:=false},by show(R.cl.set i _)[i]? =_;simp[J7],rfl,.inl ⟨rfl,S4,by
   show R.j2=_;rw[tp1,hT.j2];simp[tell],hpk.symm⟩⟩ ⟨R.na,R.nc,R.j2,rfl⟩ hnl ((D2 _ heb.lt (hF.side i J7 hnl).2.2.2).trans heb)
 have oh0:∀b,Γ.pv i b\/F b->b<w.heap.size/\¬R.fp b:=fun b hb=>by
  rcases hb with h|h
  ·exact⟨(hF.pv i b h).1,(hF.pv i b h).2.1⟩
  ·exact⟨(S9 b h).1,(hFf b h).1⟩
 have Wc0:(Y.cfg fb (Y.pn sc sn) w0 i c.cb (Γ.top i)).Goes wn mn Fn l (Yc.P2 (P3 (fun b=>Γ.pv i b\/F b) w') (tpT w' p.outs.length 0 0 Γ.gm) w'.drawn) F:=by
  refine⟨Wt.Z3 (u:=Yc.P2 (P3 (fun b=>Γ.pv i b\/F b) w') (tpT w' p.outs.length 0 0 Γ.gm) w'.drawn) (q:=Y.pn sc sn) (X:=X) (R:=R) (c:=c) (l:=l) hO.sys hpv bx0 hos W8 A2 Cg0 hinv (fun b hb z=>(hFf b hb).2 (.inr (.inr ⟨i,z⟩))) (fun b hb=>?_) ?_ (hg.md.os.trans (hF.os rfl)) (hg.md.output.trans (hF.output rfl)) hs (tpm _ _ _ _ _ _ _),rfl,rfl,?_,?_,⟨show p.outs.length <=300000 by have h1:=(Sys.ks0 (Y:=Y) sc n).2;rw[hp]at h1;have h2:=hO.m1;have h3:=hO.sn1;omega,p,.inr ⟨sc,n,hp.symm⟩,rfl,hs.symm,hl⟩⟩
  ·show(P3 (fun b=>Γ.pv i b\/F b) w').heap[b]? =_;rw[ao0 (V:=fun b=>Γ.pv i b\/F b) w' hb,D2 b (oh0 b hb).1 (oh0 b hb).2]
  ·show w.heap.size <=(P3 (fun b=>Γ.pv i b\/F b) w').heap.size;rw[n9];exact hg.md.size
  ·show Y.W4 (Y.pn sc sn) p.outs.length=Y.go i l (Y.sAt (Y.pn sc sn) p.outs.length);rw[hs,ho]
  ·show Y.rdy i l (Y.sAt (Y.pn sc sn) p.outs.length)=true;rw[hs];exact hrl
 refine Sg0 X9 hme (hdo _ F Wc0) (fun cs2 u2 he ht hz=>(W5.evo hO.sys.toLeOk he ht).number hz) fun u2 fr he ht hr hfn hlv=>?_;refine ia0 (z0:=.i 0) (me0:=me0) (st:=false) (cb:=c.cb) (Γ:=Γ.put i fun _=>False) (Mn:=Mn) (ft:=fun j=>p.ft[j]?) (t:=p.outs.length) (at_:=p.evs.length+1) (n0:=p.j2) (R0:={R with ea:=a,ec:=nn,evs:=R.evs ++ [(i,c.sp)],used:=R.used+1,cl:=R.cl.set i {c with E2:=c.E2+1,wt:=false}}) hO.sys R9 ?_ (fun Γ' X' R' w2 hA=>?_) (hgo _ F u2 Wc0 hr ht fr hfn hlv) _ _ (W5.evo hO.sys.toLeOk he ht) (fun d hd=>?_)
 ·rw[ji0,htn]at Wb0;have:=hO.j2;rw[ho];simp[tell]at Wb0;omega
 ·rcases hA with⟨_,hM',na,nc,c0,c',hc0,hcp,hR⟩|⟨z,_⟩
  ·have hc0:(R.cl.set i {c with E2:=c.E2+1,wt:=false})[i]? =some c0:=hc0;have Ml0:c0.E2=c.E2+1:=by simp[J7]at hc0;rw[<- hc0]
   rw[ho,Ep0 (by omega)]at hM';refine hk X' R' w2 _ ?_;subst hR;refine⟨by omega,⟨Γ',by rw[ji0,htn];exact hM'⟩,?_,ba0,bg0⟩;rw[ji0,htn];refine⟨hT.rb,?_,?_,?_,?_,fun j d hd=>?_,fun j hj=>?_⟩
   ·show R.evs ++ [(i,c.sp)]=p.evs ++ [(i,Y.stp i l)];rw[hT.evs,hsp]
   ·show p.j2++tell i (R.evs ++ [(i,c.sp)]).length (Y.W4 (Y.pn sc sn) p.outs.length).j2=p.j2++tell i (p.evs.length+1) (Y.go i l p.s).j2;rw[hT.evs,ho];simp
   ·show R.used+1=p.used+1;rw[hT.used]
   ·show((R.cl.set i {c with E2:=c.E2+1,wt:=false}).set i c').length=(p.ft.set i _).length;simp[hT.len]
   ·have O5:((R.cl.set i {c with E2:=c.E2+1,wt:=false}).set i c')[j]? =some d:=hd;show d.E2=(p.who ++ [some i]).count (some j);rw[List.getElem?_set]at O5;by_cases S2:i=j
    ·subst S2;rw[if_pos rfl,if_pos (by simp[J7])]at O5;obtain rfl:=Option.some.inj O5;rw[hcp,Ml0,hT.E2 i c hc];simp
    ·rw[if_neg S2,List.getElem?_set_ne S2]at O5;rw[hT.E2 j d O5];simp[S2]
   ·show(kq0 R.ends i (Y.W4 (Y.pn sc sn) p.outs.length).W3)[j]? =some (G8 ((p.ft.set i (Y.go i l p.s).W3)[j]?));have h0:=kt0 (Y:=Y) (f:=(Y.go i l p.s).W3) (g:=fun j=>p.ft[j]?) (i:=i) hT.ends (by rw[hF.mem.eo0,hF.m]) (by show G8 p.ft[i]? =0;rw[hl];rfl) j hj;rw[ho,h0];exact congrArg (fun f:Nat->Option (Y.L ⊕ Nat)=>some (G8 (f j))) (Ep0 (by omega) (Y.go i l p.s).W3)
  ·cases z
 ·have O5:(R.cl.set i {c with E2:=c.E2+1,wt:=false})[i]? =some d:=hd;simp[J7]at O5;rw[<- O5];exact S4
set_option maxRecDepth 20000 in
theorem Sj0 (hO:lr0 Y fb caps fv ba sa sn sc) {Post:Value->World->Prop} {X:Gh} {R:Rn} {w:World} {i:Nat} {c:CB} (hJ:JE Y fb sn sc Mn w0 rb0 i X R w) (hc:R.cl[i]? =some c) (hwt:c.wt=true) :
  ∃g z1 me1,g≠0/\X.C2 g=some ⟨c.rc,z1,me1⟩/\X.dn=0/\X.stay 0=[(⟨R.rb,7,none⟩,.chan (some R.yb))]/\(X.chs R.yb/\∀i s2,i≠g->X.C2 i=some s2->s2.ch≠R.yb) /\
  ∀w' me0,Rg R.fp w.heap.size w w' w0.heap.size {R with I4:=R.I4.set i c.sp}->(∀X' R' u v,JE Y fb sn sc Mn w0 rb0 (i+1) X' R' u/\R'.ca=R.ca/\R'.cc=R.cc->Fin prog Post X' 0 (Go.Conc.served me0 v) u)->Fin prog Post (X.pass 0 g (some ⟨R.yb,.i 0,me0⟩)) g (Go.Conc.served me1 (.bool false)) w':=by
 obtain⟨_,⟨Γ,hM⟩,hT,ba0,bg0⟩:=hJ;have hF:=hM.fix;have J7:=(List.getElem?_eq_some_iff.1 hc).1;have hlp:(Y.pn sc sn).ft.length=Y.m:=Sys.w8 sc sn;have him:i<Y.m:=by have:=hT.len;omega
 have hok:=Sys.uy0 (Y:=Y) sc sn;have hs:Y.sAt (Y.pn sc sn) (Y.pn sc sn).outs.length=(Y.pn sc sn).s:=Sys.Sa0 hok (Sys.Le.refl Y _);obtain⟨hnl,l,hl,hW⟩:Y.nil i=false/\∃l,(Y.pn sc sn).ft[i]? =some (.inl l)/\Wt Y fb (Y.pn sc sn) w0 Γ X w i c l:=by
  rcases hF.waits hc with⟨_,h1,l,h2,h3⟩|⟨h,_⟩
  ·exact⟨h1,l,by simpa using h2,h3⟩
  ·rw[hwt]at h;cases h
 generalize hq:Y.pn sc sn=q at *;obtain⟨h1,S4,hsp,heb,me,cs,wn,mn,Fn,Rdo,c7,hme,hrf,hdf,hpv,bx0,hos,W8,A2,Cg0,hdo,hgo,mp0⟩:=hW;have hgp:=(hF.ck i c hc hnl).dd0;have X9:(Γ.gi i==0)=false:=by simp;omega
 refine⟨Γ.gi i,.bool false,me,by omega,c7,hF.dn,hF.lp0,⟨hF.chy,fun j s2 hj hs2=>?_⟩,fun w' me0 hg hk=>?_⟩
 ·by_cases hj0:j=0
  ·subst hj0;rw[hF.oe0 rfl]at hs2;cases hs2
  ·obtain⟨k,d,h2,h3,_,h4,_⟩:=hF.O4 j s2 hj0 hs2;rw[h4];exact hF.ry k d h2 h3
 obtain⟨F,hinv,hFf⟩:=hM.inv;have S9:=hO.sys.vis _ _ _ _ hinv;refine hme.no _ (by have:=@j6 prog Post (X.pass 0 (Γ.gi i) (some ⟨R.yb,.i 0,me0⟩)) (Γ.gi i);rw[X9]at this;exact this) w' R.fp w.heap.size w w0.heap.size {R with I4:=R.I4.set i c.sp} i c hg hc rfl fun u2 fr ch u9 hfn hra hlv=>?_;have D2:∀b,b<w.heap.size->¬R.fp b->u2.heap[b]? =w.heap[b]?:=u9.md.block;have lx0:=(hF.gd1 hO.sys.toLeOk hnl hc (s0:=⟨R.yb,.i 0,me0⟩)).o5 hO.sys.toLeOk (w':=u2) (R':={R with I4:=R.I4.set i c.sp,cl:=R.cl.set i {c with st:=true}}) u9.m rfl rfl rfl u9.fp (by simp) (fun j d hd=>by
  have O5:(R.cl.set i {c with st:=true})[j]? =some d:=hd;rw[List.getElem?_set]at O5;by_cases hj:i=j
  ·subst hj;rw[if_pos rfl,if_pos J7]at O5;obtain rfl:=Option.some.inj O5;exact⟨c,hc,rfl,rfl,fun z=>absurd rfl z⟩
  ·rw[if_neg hj]at O5;exact⟨d,O5,rfl,rfl,fun _=>⟨rfl,rfl⟩⟩) u9.md.size (fun b hb hf _=>.inl (D2 b hb hf)) (fun z=>by cases z)
 refine ak0 _ _ fun nv=>?_;haveI:DecidablePred fun b=>Γ.pv i b\/F b:=fun _=>Classical.propDecidable _;refine mj0 (fun b=>Γ.pv i b\/F b) (cu0 (τ:=tpT u2 q.outs.length 0 1 Γ.gm) (d:=u2.drawn) ?_);have In0:=ql0 (i:=i) (R1:={R with I4:=R.I4.set i c.sp,cl:=R.cl.set i {c with st:=true}}) hF u9.fp (by simp) hFf (fun b hb=>(S9 b hb).1);have W5:=p9.enter (q:=q) (i:=i) (t:=q.outs.length) (at_:=R.evs.length) (cb:=c.cb) (n0:=q.j2) (R0:={R with I4:=R.I4.set i c.sp,cl:=R.cl.set i {c with st:=true}}) (τ:=tpT u2 q.outs.length 0 1 Γ.gm) (d:=u2.drawn) hO.sys.toLeOk (fun b=>Γ.pv i b\/F b) lx0 In0 nv rfl (tpm _ _ _ _ _ _ _) rfl
  ⟨{c with st:=true},by show(R.cl.set i _)[i]? =_;simp[J7],rfl,.inr ⟨rfl,rfl,hT.j2⟩⟩ ⟨R.na,R.nc,R.j2,rfl⟩ hnl ((D2 _ heb.lt (hF.side i J7 hnl).2.2.2).trans heb)
 have oh0:∀b,Γ.pv i b\/F b->b<w.heap.size/\¬R.fp b:=fun b hb=>by
  rcases hb with h|h
  ·exact⟨(hF.pv i b h).1,(hF.pv i b h).2.1⟩
  ·exact⟨(S9 b h).1,(hFf b h).1⟩
 have Zl0:(Y.cfg fb q w0 i c.cb (Γ.top i)).cv0 wn mn Fn (Yc.P2 (P3 (fun b=>Γ.pv i b\/F b) u2) (tpT u2 q.outs.length 0 1 Γ.gm) u2.drawn) F:=by
  refine Wt.Z3 (u:=Yc.P2 (P3 (fun b=>Γ.pv i b\/F b) u2) (tpT u2 q.outs.length 0 1 Γ.gm) u2.drawn) (q:=q) (X:=X) (R:=R) (c:=c) (l:=l) hO.sys hpv bx0 hos W8 A2 Cg0 hinv (fun b hb z=>(hFf b hb).2 (.inr (.inr ⟨i,z⟩))) (fun b hb=>?_) ?_ (u9.md.os.trans (hF.os rfl)) (u9.md.output.trans (hF.output rfl)) hs (tpm _ _ _ _ _ _ _)
  ·show(P3 (fun b=>Γ.pv i b\/F b) u2).heap[b]? =_;rw[ao0 (V:=fun b=>Γ.pv i b\/F b) u2 hb,D2 b (oh0 b hb).1 (oh0 b hb).2]
  ·show w.heap.size <=(P3 (fun b=>Γ.pv i b\/F b) u2).heap.size;rw[n9];exact u9.md.size
 refine ia0 (z0:=.i 0) (me0:=me0) (st:=true) (cb:=c.cb) (Γ:=Γ.put i fun _=>False) (Mn:=Mn) (ft:=fun j=>if j<i then B9 (q.ft[j]?) else q.ft[j]?) (t:=q.outs.length) (at_:=R.evs.length) (n0:=q.j2) (R0:={R with I4:=R.I4.set i c.sp,cl:=R.cl.set i {c with st:=true}}) hO.sys R9 ?_ (fun Γ' X' R' w2 hA=>?_) (mp0 _ F Zl0 rfl fr ch hfn hra hlv) _ _ W5 (fun d hd=>?_)
 ·have h2:=hO.j2;rw[hq]at h2;have h3:Y.W4 q q.outs.length=Y.o0:=by unfold Sys.W4;rw[List.getElem?_eq_none (Nat.le_refl _)];rfl
  rw[h3];show q.j2.length+0 <=_;omega
 ·rcases hA with⟨z,_⟩|⟨_,hM',na,nc,c0,c',hc0,hcp,hR⟩
  ·cases z
  ·have hc0:(R.cl.set i {c with st:=true})[i]? =some c0:=hc0;have Ml0:c0.E2=c.E2:=by simp[J7]at hc0;rw[<- hc0]
   have Zm0:(fun j=>if j=i then some (.inr 0) else if j<i then B9 (q.ft[j]?) else q.ft[j]?)=fun j=>if j<i+1 then B9 (q.ft[j]?) else q.ft[j]?:=by
    funext j;by_cases S2:j=i
    ·subst S2;rw[if_pos rfl,if_pos (by omega),hl];rfl
    ·rw[if_neg S2];by_cases h3:j<i
     ·rw[if_pos h3,if_pos (by omega)]
     ·rw[if_neg h3,if_neg (by omega)]
   have hM2:Main Y fb q w0 Γ' X' R' w2 Mn (fun j=>if j=i then some (.inr 0) else if j<i then B9 (q.ft[j]?) else q.ft[j]?) (Y.sAt q q.outs.length):=hM';rw[Zm0,hs]at hM2;refine hk X' R' w2 _ ?_;subst hR;refine⟨⟨by omega,⟨Γ',by rw[hq];exact hM2⟩,?_,fun j hj=>?_,by rw[hq];exact bg0⟩,rfl,rfl⟩
   ·rw[hq];refine⟨hT.rb,hT.evs,rfl,hT.used,?_,fun j d hd=>?_,fun j hj=>?_⟩
    ·show((R.cl.set i {c with st:=true}).set i c').length=_;simp[hT.len]
    ·have O5:((R.cl.set i {c with st:=true}).set i c')[j]? =some d:=hd;rw[List.getElem?_set]at O5;by_cases S2:i=j
     ·subst S2;rw[if_pos rfl,if_pos (by simp[J7])]at O5;obtain rfl:=Option.some.inj O5;rw[hcp,Ml0];exact hT.E2 i c hc
     ·rw[if_neg S2,List.getElem?_set_ne S2]at O5;exact hT.E2 j d O5
    ·show(R.ends.set i 0)[j]? =_;have hel:R.ends.length=Y.m:=by rw[hF.mem.eo0,hF.m]
     by_cases S2:i=j
     ·subst S2;rw[hl];simp[hel,him];rfl
     ·rw[List.getElem?_set_ne S2];exact hT.ends j hj
   ·rw[hq];show(R.I4.set i c.sp)[j]? =_;have hwl:R.I4.length=Y.m:=by rw[hF.mem.jf0,hF.m]
    by_cases S2:i=j
    ·subst S2;rw[if_pos (by omega),hl];simp[hwl,him];exact hsp
    ·rw[List.getElem?_set_ne S2,ba0 j hj];by_cases h3:j<i
     ·rw[if_pos h3,if_pos (by omega)]
     ·rw[if_neg h3,if_neg (by omega)]
 ·have O5:(R.cl.set i {c with st:=true})[i]? =some d:=hd;simp[J7]at O5;rw[<- O5]
end
end
end Go.Vy.Sc
end
section
namespace Go.Vy
open Go Go.Conc Go.Yc Go.RowKit
section
variable {P:Program}{main:Bool}{f:FuncId}{args:Array Value}{R:Ending->World->Prop}
theorem oi0 {fr:Frame} {w:World} {e:Ending} {τ:Tape} {d:Nat} (h:Leaves P fr w e):Leaves P fr (Yc.P2 w τ d) e:=by
 cases e with
 |returned v=>exact h
 |panicked ch=>exact h
 |outgrown=>exact h
theorem Calls.P2 {u:World} {τ:Tape} {d:Nat} (h:@Calls P (R2 P main) f args (Yc.P2 u τ d) R):@Calls P (R2 P main) f args u (fun e w'=>∃w2 d2,w'=Yc.P2 w2 u.tape d2/\R e w2):=by
 intro Z hZ cs hk;obtain⟨hc,hi⟩:=hZ;have N7:Cl P main (fun g x=>∀d0,Z g (Yc.P2 x u.tape d0)):=⟨fun g x hr hs d0=>by
  refine hc.own g _ hr fun τ' d'=>?_;obtain⟨g',u',d2,hF,hz⟩:=hs τ' d';exact⟨g',u',0,hF,hz 0⟩⟩
 have:=h (fun g x=>∀d0,Z g (Yc.P2 x u.tape d0)) ⟨N7,fun g x hz d0=>hi g _ fun hv=>hz hv d0⟩ cs (fun e w' fr he hf hl d0=>hk e _ fr ⟨w',d0,rfl,he⟩ hf (oi0 hl)) u.drawn;exact this
end
end Go.Vy
namespace Go.Vy.Sc
open Go Go.Conc Go.Yc Go.RowKit Go.Proofs Go.Proofs.Ytgadhljgilblbaa Try
open Go.Vc Go.Wg
attribute [local irreducible] KK
structure Lone (X:Gh) (w:World):Prop where
 C2:∀i,X.C2 i=none
 cap:X.cap=0
 pend:X.pend=0
 dn:X.dn=0
 under:X.co0 w.heap.size
 L6:∀b,w.heap.size <=b->X.L6 b= .all
 od0:0<X.n
theorem Lone.mono {X:Gh} {w w':World} (h:Lone X w) (hs:w.heap.size <=w'.heap.size):Lone X w':=⟨h.C2,h.cap,h.pend,h.dn,h.under.mono hs,fun b hb=>h.L6 b (Nat.le_trans hs hb),h.od0⟩
section
variable {Y:Sys}{fb:Nat->FuncId}{caps:Nat->Array Value}{fv:Nat->Value}{ba sa:Option Addr}{sn:Nat}{sc:Nat->Int}{Mn:Nat->Option Obj}{w0:World}{rb0:Nat}
theorem Eq0 {q:PR Y} {Γ:Geo} {X:Gh} {R:Rn} {w:World} {p:PR Y} (hF:Fix Y fb q w0 Γ X R w Mn none (fun j=>p.ft[j]?)) (hlen:R.cl.length=Y.m):rdl R.cl (Y.j9 p) Y.m=Y.rds p:=by
 unfold rdl Sys.rds;apply List.filter_congr;intro i hi;have hi:i<Y.m:=by simpa using hi
 obtain⟨c,hc⟩:∃c,R.cl[i]? =some c:=⟨_,List.getElem?_eq_getElem (by omega)⟩
 rw[hc];rcases hF.waits hc with⟨h1,_⟩|⟨h1,x,h2,_⟩
 ·simp[h1]
 ·have h2:p.ft[i]? =some (.inr x):=h2;simp[h1,Sys.j9,h2]
theorem Mm0 {q:PR Y} {Γ:Geo} {X:Gh} {R:Rn} {w:World} {p:PR Y} (hF:Fix Y fb q w0 Γ X R w Mn none (fun j=>p.ft[j]?)) (hlen:R.cl.length=p.ft.length):R.cl.any (·.wt)=p.ft.any (·.isLeft):=by
 rw[Bool.eq_iff_iff,List.any_eq_true,List.any_eq_true];constructor
 ·rintro⟨c,hc,hw⟩;obtain⟨i,hi⟩:=List.mem_iff_getElem?.1 hc;rcases hF.waits hi with⟨h1,_,l,h2,_⟩|⟨h1,_⟩
  ·exact⟨.inl l,List.mem_iff_getElem?.2 ⟨i,h2⟩,rfl⟩
  ·rw[hw]at h1;cases h1
 ·rintro⟨f,hf,hw⟩;obtain⟨i,hi⟩:=List.mem_iff_getElem?.1 hf;have J7:=(List.getElem?_eq_some_iff.1 hi).1;obtain⟨c,hc⟩:∃c,R.cl[i]? =some c:=⟨_,List.getElem?_eq_getElem (by omega)⟩
  rcases hF.waits hc with⟨h1,_⟩|⟨h1,x,h2,_⟩
  ·exact⟨c,List.mem_iff_getElem?.2 ⟨i,hc⟩,h1⟩
  ·have h2:p.ft[i]? =some (.inr x):=h2;rw[hi]at h2;cases h2;cases hw
theorem Main.o5 {q:PR Y} {Γ:Geo} {X:Gh} {R R':Rn} {w w':World} {ft:Nat->Option (Y.L ⊕ Nat)} {s:Y.S} (hY:of0 Y) (h:Main Y fb q w0 Γ X R w Mn ft s) (hg:Rg R.fp w.heap.size w w' w0.heap.size R') (hrb:R'.rb=R.rb) (hyb:R'.yb=R.yb) (hm:R'.m=R.m) (N7:R'.cl=R.cl) (he:R'.ends=R.ends):Main Y fb q w0 Γ X R' w' Mn ft s:=by
 obtain⟨F,hinv,hFf⟩:=h.inv;have S9:=hY.vis _ _ _ _ hinv;refine⟨h.fix.o5 hY.toLeOk hg.m hrb hyb hm hg.fp (by rw[N7]) (fun j c hc=>⟨c,by rw[<- N7];exact hc,rfl,rfl,fun _=>⟨rfl,by rw[he]⟩⟩) hg.md.size (fun b hb hf _=>.inl (hg.md.block b hb hf)) (fun _=>⟨hg.md.os,hg.md.output⟩),F,hY.loc _ _ w w' F hinv fun b hb=>hg.md.block b (S9 b hb).1 (hFf b hb).1,fun b hb=>⟨fun z=>(hg.fp b z).elim (hFf b hb).1 (Nat.not_le_of_lt (S9 b hb).1),fun z=>(hFf b hb).2 ?_⟩⟩;rcases z with z|⟨k,hk,z⟩|z
 ·exact .inl z
 ·exact .inr (.inl ⟨k,by rw[<- N7];exact hk,z⟩)
 ·exact .inr (.inr z)
theorem Zn0 (hO:lr0 Y fb caps fv ba sa sn sc) {n:Nat} {X:Gh} {R:Rn} {w:World} (hJ:J2 Y fb sn sc Mn w0 rb0 n X R w) {i:Nat} {c:CB} (hc:R.cl[i]? =some c) (hwt:c.wt=true):@sd0 (R2 prog true) w c.rf (Y.j9 (Y.pn sc n) i):=by
 obtain⟨hn,⟨Γ,hM⟩,hT,ba0,bg0⟩:=hJ;have hF:=hM.fix;have Zk0:Y.Le (Y.pn sc n) (Y.pn sc sn):=sm0 hn;have hok:=Sys.uy0 (Y:=Y) sc n;generalize hp:Y.pn sc n=p at *;obtain⟨hnl,l,hl,hW⟩:Y.nil i=false/\∃l,p.ft[i]? =some (.inl l)/\Wt Y fb (Y.pn sc sn) w0 Γ X w i c l:=by
  rcases hF.waits hc with⟨_,h1,l,h2,h3⟩|⟨h,_⟩
  ·exact⟨h1,l,h2,h3⟩
  ·rw[hwt]at h;cases h
 have hs:Y.sAt (Y.pn sc sn) p.outs.length=p.s:=Sys.Sa0 hok Zk0;have hr:Y.j9 p i=Y.rdy i l p.s:=by unfold Sys.j9;rw[hl]
 obtain⟨h1,S4,hsp,heb,me,cs,wn,mn,Fn,Rdo,c7,hme,hrf,hdf,hpv,bx0,hos,W8,A2,Cg0,hdo,hgo,mp0⟩:=hW;obtain⟨F,hinv,hFf⟩:=hM.inv;have S9:=hO.sys.vis _ _ _ _ hinv;have oh0:∀b,Γ.pv i b\/F b->b<w.heap.size:=fun b hb=>by
  rcases hb with h|h
  ·exact(hF.pv i b h).1
  ·exact(S9 b h).1
 rcases hrf with⟨hrf,at0⟩|⟨f,cps,⟨hrf,fn,h2,h3,h4⟩,C8⟩
 ·exact .inl ⟨hrf,by rw[hr];exact at0 _⟩
 ·refine .inr ⟨f,fn,cps,hrf,h2,h3,h4,fun u hb=>?_⟩;haveI:DecidablePred fun b=>Γ.pv i b\/F b:=fun _=>Classical.propDecidable _;have Zl0:(Y.cfg fb (Y.pn sc sn) w0 i c.cb (Γ.top i)).cv0 wn mn Fn (Yc.P2 (P3 (fun b=>Γ.pv i b\/F b) u) (tpT u p.outs.length 0 0 Γ.gm) u.drawn) F:=by
   refine Wt.Z3 (u:=Yc.P2 (P3 (fun b=>Γ.pv i b\/F b) u) (tpT u p.outs.length 0 0 Γ.gm) u.drawn) (q:=Y.pn sc sn) (X:=X) (R:=R) (c:=c) (l:=l) hO.sys hpv bx0 hos W8 A2 Cg0 hinv (fun b hb z=>(hFf b hb).2 (.inr (.inr ⟨i,z⟩))) (fun b hb'=>?_) ?_ (hb.os.trans (hF.os rfl)) (hb.output.trans (hF.output rfl)) hs (tpm _ _ _ _ _ _ _)
   ·show(P3 (fun b=>Γ.pv i b\/F b) u).heap[b]? =_;rw[ao0 (V:=fun b=>Γ.pv i b\/F b) u hb',hb.block b (oh0 b hb')]
   ·show w.heap.size <=(P3 (fun b=>Γ.pv i b\/F b) u).heap.size;rw[n9];exact hb.size
  have h5:=Calls.seen (fun b=>Γ.pv i b\/F b) (Calls.P2 (C8 _ F Zl0));refine @Calls.mono _ (R2 prog true) f cps u _ _ h5 fun e w' he=>?_;obtain⟨u',rfl,hH,w2,d2,rfl,he⟩:=he;cases e with
  |panicked ch=>exact he.elim
  |outgrown=>exact he.elim
  |returned v=>
   obtain⟨hv,J6⟩:=he;refine⟨?_,⟨J6.os,rfl,J6.output,?_,fun b hb'=>?_⟩⟩
   ·rw[hv,hr];show Value.bool (Y.rdy i l (Y.sAt (Y.pn sc sn) p.outs.length))=_;rw[hs]
   ·rw[T4];have:=J6.size;have h6:(P3 (fun b=>Γ.pv i b\/F b) u).heap.size <=w2.heap.size:=this;rw[n9]at h6;exact h6
   ·have h6:b<(P3 (fun b=>Γ.pv i b\/F b) u).heap.size:=by rw[n9];exact hb'
    have h7:=J6.block b h6;by_cases hV:Γ.pv i b\/F b
    ·rw[k6 (Yc.P2 w2 _ d2) (by simp[M8,hV])];show w2.heap[b]? =_;refine h7.trans ?_;show(P3 (fun b=>Γ.pv i b\/F b) u).heap[b]? =_;rw[ao0 (V:=fun b=>Γ.pv i b\/F b) u hV]
    ·have h8:M8 (fun b=>Γ.pv i b\/F b) u b=some u.heap[b]:=by
      simp only[M8,hV,if_false];exact Array.getElem?_eq_getElem hb'
     rw[K9 h8 (by
      show b<w2.heap.size;have:=J6.size;have h9:(P3 (fun b=>Γ.pv i b\/F b) u).heap.size <=w2.heap.size:=this;omega),Array.getElem?_eq_getElem hb']
theorem ring (hO:lr0 Y fb caps fv ba sa sn sc) {tb:Nat} {Post:Value->World->Prop} (htb:Mn tb=some (.cells #[.slice none 0 0,.slice none 0 0,.slice none 0 0,.slice none 0 0,.bool false,.i 0] 40 (0,0)))
  (hbc:∀w:World,(∀b,Mn b≠none->w.heap[b]? =Mn b)->∀j,j<Y.m->w.cell? ⟨ab ba,ao ba+j*1,none⟩=some (fv j)) (hsc:∀w:World,(∃s m F,Y.Inv s m w F)->(∀b,Mn b≠none->w.heap[b]? =Mn b)->∀j,j<sn->w.cell? ⟨ab sa,ao sa+j*1,none⟩=some (.i (sc j))) :
  Lq0 rb0 Y.m sn tb ba sa fv sc w0.heap.size Post (JB Y fb sn sc Mn w0 rb0) (J2 Y fb sn sc Mn w0 rb0) (JE Y fb sn sc Mn w0 rb0) (fun n=>Y.j9 (Y.pn sc n)):=by
 have hm1:=hO.m1;have hsn:=hO.sn1;refine⟨fun cs H9=>⟨hO.bsl,fun i hi=>?_,fun i X R w hJ=>?_,fun i X R w w' a n cb rc hi hJ hf hcb hrc hg=>?_,fun i X R w w' a n cb rc hi hJ hf hcb hrc C3 J8 hg=>?_,H9⟩,fun X R w hJ=>?_,hO.ssl,fun n X R w hJ=>?_,fun n X R w w' hJ hb=>?_,fun n X R w hJ i c hc hwt=>Zn0 hO hJ hc hwt,fun n X R w i c hJ hn hp hc=>?_,fun n X R w w' b hJ hn hb hg=>?_,fun ca cc cs H9=>⟨fun i X R w hJ=>?_,fun i X R w c hJ hc hwt=>?_,fun i X R w c hJ hc hwt=>?_,fun X R w hJ=>?_⟩,fun X R w hJ=>?_⟩
 ·rcases hO.fn i hi with h|⟨_,h,fn,h1,h2,h3⟩
  ·exact .inl h.2
  ·exact .inr ⟨fb i,fn,caps i,h,h1,h2,h3⟩
 ·obtain⟨_,⟨Γ,hM⟩,hT,ba0,bg0⟩:=hJ;exact⟨hM.fix.mem,hT.rb,hT.len.trans (Sys.S5 i),hM.fix.m,hM.fix.size,hM.fix.under,hbc w hM.get⟩
 ·obtain⟨_,⟨Γ,hM⟩,hT,ba0,bg0⟩:=hJ;have hnl:Y.nil i=true:=by
   rcases hO.fn i hi with h|h
   ·exact h.1
   ·rw[hf]at h;exact absurd h.2.1 (by simp)
  have hlen:R.cl.length=i:=hT.len.trans (Sys.S5 i);have hbg:Y.N4 (i+1)={Y.N4 i with ft:=(Y.N4 i).ft ++ [.inr 1]}:=by
   show Y.bgn (Y.N4 i)=_;unfold Sys.bgn;rw[Sys.S5 i,hnl];rfl
  have hpl:=Sys.S5 (Y:=Y) i;generalize hp:Y.N4 i=p at *;have lx0:=hM.fix.Zi0 hO.sys.toLeOk hnl hlen (by rw[hM.fix.m];exact hi) hcb hg (by show p.ft[i]? =none;rw[List.getElem?_eq_none (by omega)]);rw[ml0 hpl]at lx0;obtain⟨F,hinv,hFf⟩:=hM.inv;have S9:=hO.sys.vis _ _ _ _ hinv;have hM':Main Y fb (Y.pn sc sn) w0 Γ (X.lower cb) {R with ca:=a,cc:=n,cl:=R.cl ++ [Q4 cb rc],ends:=R.ends.set i 1} w' Mn (fun j=>(p.ft ++ [.inr 1])[j]?) p.s:=by
   refine⟨lx0,F,hO.sys.loc _ _ w w' F hinv fun b hb=>hg.md.block b (S9 b hb).1 (hFf b hb).1,fun b hb=>⟨fun z=>(hg.fp b z).elim (hFf b hb).1 (Nat.not_le_of_lt (S9 b hb).1),fun z=>(hFf b hb).2 ?_⟩⟩;rcases z with z|⟨k,hk,hnk,z⟩|z
   ·exact .inl z
   ·refine .inr (.inl ⟨k,?_,hnk,z⟩);have hk:k<(R.cl ++ [Q4 cb rc]).length:=hk;rw[List.length_append,List.length_singleton]at hk;rcases Nat.lt_or_ge k R.cl.length with y|y
    ·exact y
    ·have:k=i:=by omega
     rw[this,hnl]at hnk;cases hnk
   ·exact .inr (.inr z)
  refine⟨by omega,⟨Γ,by rw[hbg];exact hM'⟩,?_,ba0,bg0⟩
  ·rw[hbg];refine⟨hT.rb,hT.evs,hT.j2,hT.used,by simp[hT.len],fun j d hd=>?_,fun j hj=>?_⟩
   ·rcases m8 hd with z|⟨z,rfl⟩
    ·exact hT.E2 j d z
    ·show 0=p.who.count (some j);rw[<- hp];exact(Sys.fd0 i j).symm
   ·have h0:=kt0 (Y:=Y) (f:=.inr 1) (g:=fun j=>p.ft[j]?) (i:=i) hT.ends (by rw[hM.fix.mem.eo0,hM.fix.m]) (by show G8 p.ft[i]? =0;rw[List.getElem?_eq_none (by omega)];rfl) j hj;exact h0.trans (congrArg (fun f:Nat->Option (Y.L ⊕ Nat)=>some (G8 (f j))) (ml0 hpl (.inr 1)))
 ·have hF:∃Γ,Fix Y fb (Y.pn sc sn) w0 Γ X R w Mn none (fun j=>(Y.N4 i).ft[j]?):=by obtain⟨_,⟨Γ,hM⟩,_⟩:=hJ;exact⟨Γ,hM.fix⟩
  obtain⟨Γ,hF⟩:=hF;have hT:Tie Y rb0 (Y.N4 i) R:=hJ.2.2.1;have hlen:R.cl.length=i:=hT.len.trans (Sys.S5 i);refine⟨by rw[<- hT.rb];exact hF.J4,hF.pend,by have:=hF.cap;omega,hF.dn,hF.lp0,⟨hF.chy,fun j s2 hs2=>?_⟩,fun me0 hk=>Zj0 hO hi hJ hf hcb hrc C3 J8 hg hk⟩;by_cases hj0:j=0
  ·subst hj0;rw[hF.oe0 rfl]at hs2;cases hs2
  ·obtain⟨k,d,h2,h3,_,h4,_⟩:=hF.O4 j s2 hj0 hs2;rw[h4];exact hF.ry k d h2 h3
 ·obtain⟨_,hM,hT,ba0,bg0⟩:=hJ;exact⟨Nat.zero_le _,hM,hT,ba0,bg0⟩
 ·obtain⟨hn,⟨Γ,hM⟩,hT,ba0,bg0⟩:=hJ;have h1:=Sys.ks0 (Y:=Y) sc n;have h2:=Sys.uy0 (Y:=Y) sc n;refine⟨hM.fix.mem,hT.rb,hT.len.trans (Sys.w8 sc n),hM.fix.size,by rw[hT.evs];omega,by rw[hT.used,<- h2.used];omega,fun i c hc=>?_,hsc w ⟨_,_,_,hM.inv.choose_spec.1⟩ hM.get⟩;rw[hT.E2 i c hc];have h3:=List.count_le_length (a:=some i) (l:=(Y.pn sc n).who);rw[h2.who]at h3;omega
 ·obtain⟨hn,⟨Γ,hM⟩,hT,ba0,bg0⟩:=hJ;exact⟨hn,⟨Γ,hM.o5 hO.sys (hM.fix.mem.rg.j0 hb) rfl rfl rfl rfl rfl⟩,hT,ba0,bg0⟩
 ·have hlen:R.cl.length=Y.m:=hJ.2.2.1.len.trans (Sys.w8 sc n);obtain⟨Γ,hM⟩:=hJ.2.1;rw[Eq0 hM.fix hlen]at hp;exact Si0 hO hJ hn hp hc
 ·obtain⟨hn',⟨Γ,hM⟩,hT,ba0,bg0⟩:=hJ;have hlen:R.cl.length=Y.m:=hT.len.trans (Sys.w8 sc n);rw[Eq0 hM.fix hlen]at hn hb;have hq:Y.pn sc sn=Y.pn sc n:=by
   rcases hn with rfl|h
   ·rfl
   ·have:=Sys.og0 h (sn-n)
    rwa [Nat.add_sub_cancel' hn']at this
  rw[Mm0 hM.fix hT.len]at hb;have hM':=hM.o5 hO.sys hg rfl rfl rfl rfl rfl;rw[<- hq]at hM' hT hb;refine⟨Nat.zero_le _,⟨Γ,?_⟩,⟨hT.rb,hT.evs,hT.j2,hT.used,hT.len,hT.E2,hT.ends⟩,fun j hj=>?_,hb⟩
  ·have:(fun j=>if j<0 then B9 ((Y.pn sc sn).ft[j]?) else(Y.pn sc sn).ft[j]?)=fun j=>(Y.pn sc sn).ft[j]?:=by funext j;rw[if_neg (Nat.not_lt_zero j)]
   rw[this];exact hM'
  ·show R.I4[j]? =_;rw[ba0,if_neg (Nat.not_lt_zero j)];simp[hj]
 ·obtain⟨⟨hi,⟨Γ,hM⟩,hT,ba0,bg0⟩,h1,h2⟩:=hJ;exact⟨hM.fix.mem,hT.rb,hT.len.trans (Sys.w8 sc sn),h1,h2⟩
 ·obtain⟨⟨hi,⟨Γ,hM⟩,hT,ba0,bg0⟩,h1,h2⟩:=hJ;have J7:=(List.getElem?_eq_some_iff.1 hc).1;have hlen:R.cl.length=Y.m:=hT.len.trans (Sys.w8 sc sn);obtain⟨x,hx⟩:∃x,(Y.pn sc sn).ft[i]? =some (.inr x):=by
   rcases hM.fix.waits hc with⟨h,_⟩|⟨_,x,h,_⟩
   ·rw[hwt]at h;cases h
   ·exact⟨x,by simpa using h⟩
  have Zm0:(fun j=>if j<i then B9 ((Y.pn sc sn).ft[j]?) else(Y.pn sc sn).ft[j]?)=fun j=>if j<i+1 then B9 ((Y.pn sc sn).ft[j]?) else(Y.pn sc sn).ft[j]?:=by
   funext j;by_cases S2:j=i
   ·subst S2;rw[if_neg (by omega),if_pos (by omega),hx];rfl
   ·by_cases h3:j<i
    ·rw[if_pos h3,if_pos (by omega)]
    ·rw[if_neg h3,if_neg (by omega)]
  rw[Zm0]at hM;refine⟨⟨by omega,⟨Γ,hM⟩,hT,fun j hj=>?_,bg0⟩,h1,h2⟩;rw[ba0 j hj];by_cases S2:j=i
  ·subst S2;rw[if_neg (by omega),if_pos (by omega),hx];rfl
  ·by_cases h3:j<i
   ·rw[if_pos h3,if_pos (by omega)]
   ·rw[if_neg h3,if_neg (by omega)]
 ·obtain⟨hJ,h1,h2⟩:=hJ;obtain⟨g,z1,me1,h3,h4,h5,h6,h7,h8⟩:=Sj0 (Post:=Post) hO hJ hc hwt;exact⟨g,z1,me1,h3,h4,h5,h6,h7,fun w' me0 hg hk=>h8 w' me0 hg fun X' R' u v hJ'=>hk X' R' u v ⟨hJ'.1,hJ'.2.1.trans h1,hJ'.2.2.trans h2⟩⟩
 ·have hJ0:=hJ;obtain⟨⟨hi,⟨Γ,hM⟩,hT,ba0,bg0⟩,h1,h2⟩:=hJ;have hF:=hM.fix;have hlen:R.cl.length=Y.m:=hT.len.trans (Sys.w8 sc sn);refine⟨fun i=>?_,by rw[<- hT.rb];exact hF.J4,hF.pend,hF.dn,by have:=hF.cap;omega,fun fr h3 h4=>H9 X R w hJ0.1 h1 h2 fr h3 h4⟩;by_cases h0:i=0
  ·subst h0;exact hF.oe0 rfl
  ·cases hs:X.C2 i with
   |none=>rfl
   |some s=>
    obtain⟨j,c,h5,h6,h7,_⟩:=hF.O4 i s h0 hs;have hjl:=(List.getElem?_eq_some_iff.1 h5).1;rcases hF.waits h5 with⟨_,_,l,h8,_⟩|⟨_,x,_,h8⟩
    ·have h8:(if j<Y.m then B9 ((Y.pn sc sn).ft[j]?) else(Y.pn sc sn).ft[j]?)=some (.inl l):=h8;rw[if_pos (by omega)]at h8;cases hx:(Y.pn sc sn).ft[j]? with
     |none=>rw[hx]at h8;cases h8
     |some f=>cases f <;> (rw[hx]at h8;cases h8)
    ·rcases h8 with h8|h8
     ·rw[h6]at h8;cases h8
     ·rw[<- h7,hs]at h8;cases h8
 ·obtain⟨hi,⟨Γ,hM⟩,hT,ba0,bg0⟩:=hJ;exact⟨hM.fix.mem,hT.rb,(hM.get tb (by rw[htb];simp)).trans htb⟩
end
end Go.Vy.Sc
end
section
namespace Go.Vy.Sc
open Go Go.Conc Go.Yc Go.RowKit Go.Proofs Go.Proofs.Ytgadhljgilblbaa Try
open Go.Vc Go.Wg
section
attribute [local irreducible] KK
def Mn0 (lb:Nat) (pl:Nat->p7) (Post:Value->World->Prop) (g:Goroutine) (u:World):Prop:=∀X,Lone X u->lb <=u.heap.size->(∀b,X.low b->lb <=b)->X.L6=pl->Fin prog Post X 0 g u
theorem Mo0 (lb:Nat) (pl:Nat->p7) (Post:Value->World->Prop):Cl prog true (Mn0 lb pl Post):=⟨fun g u hr hs X hX h1 h2 h3=>Fin.dn1 hr fun τ d=>by
 obtain⟨g',u',d',hF,hz⟩:=hs τ d;refine⟨g',u',hF,fun⟨ρ,w,ke0⟩=>?_⟩;have he:=(hF.2 ρ w ke0).1;have hX':Lone X (Yc.P2 u' u.tape d'):=(hX.mono he.size:Lone X u')|> fun h=>⟨h.C2,h.cap,h.pend,h.dn,h.under,h.L6,h.od0⟩
 exact mf0 (hz X hX' (Nat.le_trans h1 he.size) h2 h3)⟩
theorem Gy0 (lb:Nat) (pl:Nat->p7) (Post:Value->World->Prop):Ign (Mn0 lb pl Post):=fun _g _u hz X hX h1 h2 h3=>ak0 _ _ fun hv=>hz hv X hX h1 h2 h3
@[reducible] def C9 (lb:Nat) (pl:Nat->p7):Ctx prog:=⟨true,fun Z=>∃Post,Z=Mn0 lb pl Post,fun Z h=>by obtain⟨Post,rfl⟩:=h;exact Mo0 lb pl Post⟩
structure Sk0 (Y:Sys) (q:PR Y) (Mn:Nat->Option Obj) (w0 w:World) (R:Rn):Prop where
 mem:D4 w w0.heap.size R
 m:R.m=Y.m
 evs:R.evs=q.evs
 j2:R.j2=q.j2
 used:R.used=q.used
 ends:∀j,j<Y.m->R.ends[j]? =some (G8 q.ft[j]?)
 I4:∀j,j<Y.m->R.I4[j]? =some (Me0 Y j (q.ft[j]?))
 stuck:R.stuck=(q.ft.any (·.isLeft)&&(Y.rds q).isEmpty)
 inv:∃m F,Y.Inv q.s m w F/\∀b,F b->¬R.fp b
 fp:∀b,R.fp b->w0.heap.size <=b
 j0:∀b,Mn b≠none->w.heap[b]? =Mn b
 size:w0.heap.size <=w.heap.size
 os:w.os=w0.os
 output:w.output=w0.output
 tape:w.tape=w0.tape
section
variable {Y:Sys}{fb:Nat->FuncId}{caps:Nat->Array Value}{fv:Nat->Value}{ba sa:Option Addr}{sn:Nat}{sc:Nat->Int}{Mn:Nat->Option Obj}{w0:World}
theorem gn1 (hO:lr0 Y fb caps fv ba sa sn sc) (hmn:∀b o,Mn b=some o->w0.heap[b]? =some o) {F:Nat->Prop} {m0:Gm} (hinv:Y.Inv Y.s0 m0 w0 F) (hFm:∀b,F b->Mn b=none)
  (hbc:∀w:World,(∀b,Mn b≠none->w.heap[b]? =Mn b)->∀j,j<Y.m->w.cell? ⟨ab ba,ao ba+j*1,none⟩=some (fv j)) (hsc:∀w:World,(∃s m F,Y.Inv s m w F)->(∀b,Mn b≠none->w.heap[b]? =Mn b)->∀j,j<sn->w.cell? ⟨ab sa,ao sa+j*1,none⟩=some (.i (sc j))) {bc scp:Nat} :
  @C prog (C9 Y.lb Y.pl) 27 #[.slice ba Y.m bc,.slice sa sn scp] w0 fun v w=>∃R,v= .tuple #[Rr0 R,.i 0]/\Sk0 Y (Y.pn sc sn) Mn w0 w R:=by
 intro Z hZ cs hk;obtain⟨Post,rfl⟩:=hZ;intro X hX V7 H3 hb3;refine Rw0 (fv:=fv) (sc:=sc) hO.m1 hO.sn1 hX.under hX.L6 hX.cap fun w4 rb yb eb wb tb hB=>?_;have S9:=hO.sys.vis _ _ _ _ hinv;have oj0:=hB.low;have go1:Mn tb=none:=by
  cases h:Mn tb with
  |none=>rfl
  |some o=>
   have:=(Array.getElem?_eq_some_iff.1 (hmn tb o h)).1;have:=hB.le.2.2.2.2;omega
 have D2:∀b o,Mn b=some o->b<w0.heap.size:=fun b o h=>(Array.getElem?_eq_some_iff.1 (hmn b o h)).1
 let Mn':Nat->Option Obj:=fun b=>if b=tb then some (.cells #[.slice none 0 0,.slice none 0 0,.slice none 0 0,.slice none 0 0,.bool false,.i 0] 40 (0,0)) else Mn b
 have hMn:∀w:World,(∀b,Mn' b≠none->w.heap[b]? =Mn' b)->∀b,Mn b≠none->w.heap[b]? =Mn b:=fun w h b hb=>by
  have C3:b≠tb:=fun e=>hb (e▸go1);have:=h b (by show(if b=tb then _ else Mn b)≠none;rw[if_neg C3];exact hb);rw[this];show(if b=tb then _ else Mn b)=_;rw[if_neg C3]
 refine⟨_,_,_,_,ring (Mn:=Mn') (w0:=w0) (rb0:=rb) hO (if_pos rfl) (fun w h=>hbc w (hMn w h)) (fun w hI h=>hsc w hI (hMn w h)),⟨fun X' R w w' fr hJ N3 hfn hl=>?_⟩,?_⟩
 ·obtain⟨_,⟨Γ,hM⟩,hT,ba0,bg0⟩:=hJ;have hF:=hM.fix;have hlen:R.cl.length=Y.m:=hT.len.trans (Sys.w8 sc sn);have lx1:=hMn w hM.get;obtain⟨Fq,Wd0,gp1⟩:=hM.inv;have htb:w.heap[tb]? =Mn' tb:=hM.get tb (by show(if tb=tb then _ else _)≠none;rw[if_pos rfl];simp);have htl:tb<w.heap.size:=by
   have:Mn' tb=some (.cells #[.slice none 0 0,.slice none 0 0,.slice none 0 0,.slice none 0 0,.bool false,.i 0] 40 (0,0)):=if_pos rfl;rw[this]at htb;exact(Array.getElem?_eq_some_iff.1 htb).1
  have Fz0:∀b,b<w.heap.size->b≠tb->w'.heap[b]? =w.heap[b]?:=fun b hb C3=>N3.block b hb fun e=>C3 (Option.some.inj e);have htk:Kept Y Γ R Mn' tb:=.inl (by show(if tb=tb then _ else _)≠none;rw[if_pos rfl];simp);have hfp:∀b,R.fp b->b≠tb:=fun b hb e=>(hF.mn tb (by show(if tb=tb then _ else _)≠none;rw[if_pos rfl];simp)).2.1 (e▸hb);refine mf0 (τ:=w0.tape) (d:=w0.drawn) (hk (.returned _) (Yc.P2 w' w0.tape w0.drawn) fr ⟨R,rfl,?_⟩ hfn (oi0 hl) {X' with pend:=0,cap:=0,dn:=0} ?_ (Nat.le_trans V7 (Nat.le_trans hF.size N3.size)) hF.base.low hF.base.pl)
  ·refine⟨hF.mem.congr fun b hb=>Fz0 b (hF.mem.lt hb) (hfp b hb),hF.m,hT.evs,hT.j2,hT.used,hT.ends,fun j hj=>?_,bg0,⟨_,Fq,hO.sys.loc _ _ w _ Fq Wd0 fun b hb=>Fz0 b (hO.sys.vis _ _ _ _ Wd0 b hb).1 fun e=>(gp1 b hb).2 (e▸htk),fun b hb=>(gp1 b hb).1⟩,hF.fpB,fun b hb=>?_,Nat.le_trans hF.size N3.size,N3.os.trans (hF.os rfl),N3.output.trans (hF.output rfl),rfl⟩
   ·rw[ba0 j hj,if_pos hj]
   ·have h1:=lx1 b hb;have hbl:b<w.heap.size:=by
     rcases Nat.lt_or_ge b w.heap.size with z|z
     ·exact z
     ·exact absurd (h1.symm.trans (Array.getElem?_eq_none z)) hb
    exact(Fz0 b hbl fun e=>hb (e▸go1)).trans h1
  ·refine⟨fun i=>?_,rfl,rfl,rfl,?_,fun b hb=>hF.L6 b (Nat.le_trans N3.size hb),hF.od0⟩
   ·show X'.C2 i=none;by_cases h0:i=0
    ·subst h0;exact hF.oe0 rfl
    ·cases hs:X'.C2 i with
     |none=>rfl
     |some s=>
      obtain⟨j,c,h5,h6,h7,_⟩:=hF.O4 i s h0 hs;have hjl:=(List.getElem?_eq_some_iff.1 h5).1;rcases hF.waits h5 with⟨_,_,l,h8,_⟩|⟨_,x,_,h8⟩
      ·have h8:(if j<Y.m then B9 ((Y.pn sc sn).ft[j]?) else(Y.pn sc sn).ft[j]?)=some (.inl l):=h8;rw[if_pos (by omega)]at h8;cases hx:(Y.pn sc sn).ft[j]? with
       |none=>rw[hx]at h8;cases h8
       |some f=>cases f <;> (rw[hx]at h8;cases h8)
      ·rcases h8 with h8|h8
       ·rw[h6]at h8;cases h8
       ·rw[<- h7,hs]at h8;cases h8
   ·have hu:=hF.under.mono N3.size;exact⟨hu.stay,hu.w5,hu.chs,hu.J4,hu.low⟩
 ·have hle:=hB.le;have Zo0:∀b,(rn0 rb yb eb wb Y.m).fp b->w0.heap.size <=b:=fun b hb=>by
   rcases hb with rfl|rfl|rfl|⟨h,_⟩|⟨h,_⟩|⟨h,_⟩|⟨j,c,h,_⟩
   ·exact hle.1
   ·exact hle.2.2.1
   ·exact hle.2.2.2.1
   ·exact absurd rfl h
   ·exact absurd rfl h
   ·exact absurd rfl h
   ·simp[rn0]at h
  have gq1:yb<w4.heap.size:=(Array.getElem?_eq_some_iff.1 hB.yb).1;have ly1:¬(rn0 rb yb eb wb Y.m).fp tb:=hB.mem.Vv0 hB.tb (by decide);have hu:=hX.under.mono oj0.size;have hnl:∀{j:Nat},¬j<(rn0 rb yb eb wb Y.m).cl.length:=fun h=>Nat.not_lt_zero _ h;have hnc:∀{j:Nat} {c:CB},(rn0 rb yb eb wb Y.m).cl[j]? =some c->False:=fun h=>by simp[rn0]at h
  refine⟨Nat.zero_le _,⟨⟨m0,fun _=>0,fun _=>0,fun _=>0,fun _=>[],fun _ _=>False⟩,⟨⟨hB.mem,rfl,fun j c hc=>(hnc hc).elim,fun j c hc=>(hnc hc).elim,Zo0,fun j hj=>(hnl hj).elim,fun j b hb=>hb.elim,fun b hb=>?_,hX.od0,fun _=>oj0.os,fun _=>oj0.output,oj0.size,rfl,show Go.ConcN.upd X.stay 0 _ 0=_ from Go.ConcN.upd_same _ _ _,.inr rfl,fun g s hg hs=>?_,fun j k hj=>(hnl hj).elim,fun j k hj=>(hnl hj).elim,fun j k c d hc=>(hnc hc).elim,fun j c hc=>(hnc hc).elim,hX.dn,hX.pend,?_,?_,fun b hb=>hX.L6 b (Nat.le_trans oj0.size hb),fun _=>hX.C2 0,⟨V7,fun b hb=>?_,hb3⟩⟩,F,?_,fun b hb=>⟨fun z=>?_,fun z=>?_⟩⟩⟩,⟨rfl,rfl,rfl,rfl,rfl,fun j c hc=>(hnc hc).elim,fun j hj=>?_⟩,rfl,rfl⟩
  ·by_cases hbt:b=tb
   ·subst hbt;refine⟨?_,ly1,fun k hk=>(hnl hk).elim⟩;show _=(if b=b then _ else _);rw[if_pos rfl];exact hB.tb
   ·have hMb:Mn' b=Mn b:=if_neg hbt;rw[hMb]at hb⊢;cases ho:Mn b with
    |none=>exact absurd ho hb
    |some o=>
     have hl:=D2 b o ho;exact⟨(oj0.block b hl).trans (hmn b o ho),fun z=>by have:=Zo0 b z;omega,fun k hk=>(hnl hk).elim⟩
  ·have:=hX.C2 g;have hs:X.C2 g=some s:=hs;rw[this]at hs;cases hs
  ·show X.cap <=0;rw[hX.cap];exact Nat.le_refl _
  ·refine⟨fun g p hp=>?_,hu.w5,fun b hb=>?_,fun G hG=>?_,fun b hb=>?_⟩
   ·by_cases hg:g=0
    ·subst hg;have hp':p∈Go.ConcN.upd X.stay 0 [((⟨rb,8-1,none⟩:Addr),Value.chan (some yb))] 0:=hp;rw[Go.ConcN.upd_same]at hp';simp at hp';rw[hp'];exact hB.mem.run.lt
    ·have hp':p∈Go.ConcN.upd X.stay 0 [((⟨rb,8-1,none⟩:Addr),Value.chan (some yb))] g:=hp;rw[Go.ConcN.upd_ne _ _ hg]at hp';exact hu.stay g p hp'
   ·rcases hb with z|rfl
    ·exact hu.chs b z
    ·exact gq1
   ·rcases hG with z|z
    ·have z:some (⟨rb,8⟩:X6)=some G:=z;cases z;exact hB.mem.run.lt
    ·have z:G∈X.J4.toList++X.old:=z;rw[List.mem_append]at z;rcases z with z|z
     ·exact hu.J4 G (.inl (by simpa using z))
     ·exact hu.J4 G (.inr z)
   ·rcases hb with(z|rfl)|rfl
    ·exact hu.low b z
    ·exact gq1
    ·exact hB.mem.run.lt
  ·rcases hb with(z|rfl)|rfl
   ·exact H3 b z
   ·have:=hle.2.1;omega
   ·have:=hle.1;omega
  ·exact hO.sys.loc _ _ w0 w4 F hinv fun b hb=>oj0.block b (S9 b hb).1
  ·have:=Zo0 b z;have:=(S9 b hb).1;omega
  ·rcases z with z|⟨k,hk,_⟩|⟨j,z⟩
   ·by_cases hbt:b=tb
    ·have:=(S9 b hb).1;have:=hle.2.2.2.2;omega
    ·exact z ((if_neg hbt).trans (hFm b hb))
   ·exact(hnl hk).elim
   ·exact z
  ·show(List.replicate Y.m (0:Int))[j]? =_;simp[hj];rfl
end
end
end Go.Vy.Sc
end
section
namespace Go.Vy
open Go Go.Conc Go.Yc Go.RowKit
open Go.Vc
section
variable {P:Program}[Ctx P]
end
section
variable {P:Program}[Ctx P]
end
def gr1 (P:Program) (fn:Func) (R:Ending->World->Prop):Exit->Env->World->Prop:=fun x e w=>match x with
 | .panic ch=>R (.panicked ch) w
 |x=>ends P fn (fun v w=>R (.returned v) w) x e w
theorem Calls.ch0 {P:Program} [Ctx P] {f:FuncId} {fn:Func} {c:Code} {args:Array Value} {w:World} {R:Ending->World->Prop} {n:Nat} (hf:P.funcs[f]? =some fn) (hb:fn.body=some c) (hn:args.size+(fn.ntmps-args.size)=n)
  (h:W P n c (gr1 P fn R) (Vc.bf0 args) w):Calls P f args w R:=by
 refine calls_of_wp hf hb (wp_mono (h _ ⟨?_,rfl,?_⟩) ?_)
 ·simp[hn]
 ·intro t;simp only[Vc.bf0,Array.getD_eq_getD_getElem?,Array.getElem?_append];split
  ·rfl
  ·rename_i ht;rw[Array.getElem?_eq_none (by omega:args.size <=t)];simp only[Array.getElem?_replicate];split <;> rfl
 ·rintro x a w' ⟨e',r,hx⟩;cases x with
  |panic ch=>exact⟨r.defers,hx⟩
  |normal=>obtain⟨_,v,hv,hR⟩:=hx;exact⟨r.defers,v,hv a.tmps r.get,hR⟩
  |ret=>obtain⟨_,v,hv,hR⟩:=hx;exact⟨r.defers,v,hv a.tmps r.get,hR⟩
  |exit id=>obtain⟨hx,_⟩:=hx;rcases hx with hx|hx <;> cases hx
  |goto l=>obtain⟨hx,_⟩:=hx;rcases hx with hx|hx <;> cases hx
  |outgrown=>obtain⟨hx,_⟩:=hx;rcases hx with hx|hx <;> cases hx
end Go.Vy
end
section
namespace Go.Vy.Sc
open Go Go.Conc Go.Yc Go.RowKit Go.Proofs Go.Proofs.Ytgadhljgilblbaa Try
open Go.Vc Go.Wg
theorem jj0 {w:World} {a:Addr} {v:Value} (h:w.cell? a=some v):a.block<w.heap.size:=by
 unfold World.cell? at h;rcases Nat.lt_or_ge a.block w.heap.size with z|z
 ·exact z
 ·rw[Array.getElem?_eq_none z]at h;simp at h
theorem y4 {w0 w:World} {a:Addr} {v:Value} (h:w0.cell? a=some v) (hb:Below w0.heap.size w0 w):w.cell? a=some v:=by
 rw[(H7 (u:=w0) (u':=w) (a:=a) (hb.block _ (jj0 h))).1];exact h
theorem D4.down {B B':Nat} {w:World} {R:Rn} (h:D4 w B' R) (hB:B <=B'):D4 w B R:=⟨h.run,h.cls.down hB,h.evs.down hB,h.j2.down hB,h.ends,h.I4,h.eo0,h.jf0,h.lcl,h.blk⟩
theorem A1 {P:Program} {S:Sem Next} {w:World} {b r:Bool} (h:b=r) (hd:Does P S w (.val (.bool b)) w):Does P S w (.val (.bool r)) w:=h▸hd
structure pl0 (w:World) (sa:Option Addr) (sn scp:Nat) (sc:Nat->Int):Prop where
 sl:SL sa sn
 nil:sa=none->sn=0/\scp=0
 cap:sn <=scp
 cell:∀j,j<sn->w.cell? ⟨ab sa,ao sa+j*1,none⟩=some (.i (sc j))
theorem pl0.j0 {w w':World} {sa:Option Addr} {sn scp:Nat} {sc:Nat->Int} (h:pl0 w sa sn scp sc) (hb:Below w.heap.size w w'):pl0 w' sa sn scp sc:=⟨h.sl,h.nil,h.cap,fun j hj=>y4 (h.cell j hj) hb⟩
theorem Sys.ind {Y:Sys} (I:PR Y->Prop) (h0:I Y.p0) (hb:∀p,I p->p.ft.length<Y.m->I (Y.bgn p)) (ht:∀p i l,I p->p.ft.length=Y.m->p.ft[i]? =some (.inl l)->Y.rdy i l p.s=true->I (Y.o5 p i)):∀p,Y.Reach p->I p:=by
 have hB:∀n,n <=Y.m->I (Y.N4 n):=by
  intro n
  induction n with
  |zero=>exact fun _=>h0
  |succ n ih=>exact fun hn=>hb _ (ih (by omega)) (by rw[Sys.S5];omega)
 have hP:∀(sc:Nat->Int) n,I (Y.pn sc n):=by
  intro sc n
  induction n with
  |zero=>exact hB Y.m (Nat.le_refl _)
  |succ n ih=>
   show I (Y.step (Y.pn sc n) (sc n));unfold Sys.step;split
   ·rename_i i hi;obtain⟨_,hr⟩:=Sys.mk0 hi;unfold Sys.j9 at hr;cases hx:(Y.pn sc n).ft[i]? with
    |none=>rw[hx]at hr;cases hr
    |some f=>
     cases f with
     |inl l=>rw[hx]at hr;exact ht _ i l ih (Sys.w8 sc n) hx hr
     |inr x=>rw[hx]at hr;cases hr
   ·exact ih
 rintro p (⟨n,hn,rfl⟩|⟨sc,n,rfl⟩)
 ·exact hB n hn
 ·exact hP sc n
end Go.Vy.Sc
end
section
namespace Go.Vy
open Go Go.Conc Go.Yc Go.RowKit
open Go.Vc
theorem gs1 {P:Program} {fr:Frame} {fn:Func} {v:Value} {t:Tmp} (hm:fr.mode= .returning) (hd:fr.defers=[]) (hk:fr.kind= .normal) (hf:P.funcs[fr.fn]? =some fn) (hr:fn.results=#[.tmp t]) (hv:fr.tmps.getD t undef=v) (hi:P.inits.idxOf? fr.fn=none) (w:World):stepG P true (G fr []) w= .ended (.done v) w #[]:=by
 have h1:=results_tmp hr fr.tmps P w;have h2:=events_results_tmp (P:=P) (w:=w) hr fr.tmps;simp[G,stepG,unwind,doReturn,hm,hd,hk,hf,hi,h1,h2,hv,seen,GStep.after]
theorem Ch0 {P:Program} {fr:Frame} {fn:Func} {w:World} {v:Value} {t:Tmp} (hl:Leaves P fr w (.returned v)) (hf:P.funcs[fr.fn]? =some fn) (hr:fn.results=#[.tmp t]) (hnv:Y6 w):fr.tmps.getD t undef=v:=by
 obtain⟨h1,h2,h3,fn',h4,h5⟩:=hl;rw[hf]at h4;obtain rfl:=Option.some.inj h4;obtain⟨x',es,h6,_⟩:=h5 w.tape w.drawn _ w hnv.sim;have h7:=results_tmp hr fr.tmps P w;rw[Sem.runT_eq]at h6;have h8:=(Prod.mk.inj h6).1;rw[h7]at h8;injection h8
end Go.Vy
namespace Go.Vy.Sc
open Go Go.Conc Go.Yc Go.RowKit Go.Proofs Go.Proofs.Ytgadhljgilblbaa Try
open Go.Vc Go.Wg
def ok0 (W w':World):Prop:=Below W.heap.size W {w' with tape:=W.tape}
theorem ok0.frame {W w':World} (h:ok0 W w') (may:MemPlace->Prop):W.keptBut w' may:=Below.frame h may
theorem ok0.trod {H:Type} {enc:TypeId×Value->H} {P:Program} {t:TypeId} (hl:laidOutB P=true) (hr:P.readableRec t=true) (lz1:t<P.types.size) {W W':World} {v:Value} {d:DataW H} {ps:List MemPlace}
  (h:DataW.Trod enc P W 0 (fun _=>true) true t v d ps) (hb:ok0 W W') (D2:∀x∈ps,x.block<W.heap.size) :
  DataW.Trod enc P W' 0 (fun b=>decide (b<W.heap.size)) true t v d ps :=
 WideElems.Trod_stays hl hr lz1 h (fun x hx=>(Below.same hb (D2 x hx):W.sameAt {W' with tape:=W.tape} x)) (fun x hx=>by simpa using D2 x hx)
theorem Mp0 {x y:Obj} (h:ek0 .all x y):y=x:=by cases h;rfl
theorem Ha0 {o x y:Obj} (h:ek0 (.gone o) x y):y=o:=by cases h;rfl
theorem cj1 {f:FuncId} {fn:Func} {t:Tmp} {args:Array Value} {W:World} (hf:prog.funcs[f]? =some fn) (hr:fn.results=#[.tmp t]) (hi:prog.inits.idxOf? f=none) (h:@C prog (C9 W.heap.size (X0 W).L6) f args (et0 W) fun v w=>v= .bool true/\Below (et0 W).heap.size (et0 W) w) :
  Yc.Ends prog (fun v w'=>v= .bool true/\ok0 W w') (solo (G (Frame.enter prog f args .normal) []) W) #[]:=by
 have A2:(et0 W).heap.size=W.heap.size:=by simp[et0]
 refine Fin.start (h _ ⟨_,rfl⟩ [] (fun e w' fr he hfr hl=>?_) (X0 W) ⟨fun _=>rfl,rfl,rfl,rfl,Iw0 W _,fun b hb=>Do0 (by rw[<- A2];exact hb),Nat.one_pos⟩ (by rw[A2];exact Nat.le_refl _) (fun _ hb=>hb.elim) rfl);cases e with
 |panicked ch=>exact he.elim
 |outgrown=>exact he.elim
 |returned v=>
  obtain⟨rfl,hb⟩:=he;rw[A2]at hb;refine Gy0 _ _ _ _ _ fun hnv X hX h1 h2 h3=>?_;have gt1:prog.funcs[fr.fn]? =some fn:=by rw[hfr];exact hf
  have hv:=Ch0 hl gt1 hr hnv;obtain⟨hm,hd,hk,_⟩:=hl;refine Fin.ends rfl hX.C2 hX.cap (gs1 hm hd hk gt1 hr hv (by rw[hfr];exact hi)) fun ρ w hs hρ=>⟨rfl,?_⟩
  refine⟨hs.os.trans hb.os,rfl,hs.output.trans hb.output,?_,fun k hk=>?_⟩
  ·show W.heap.size <=w.heap.size;rw[hs.size];show W.heap.size <=w'.heap.size;rw[<- A2];exact hb.size
  ·show w.heap[k]? =W.heap[k]?;have hk':k<w'.heap.size:=by have:=hb.size;rw[A2]at this;omega
   obtain⟨y,hy,hlk⟩:=hs.obj k _ (Array.getElem?_eq_getElem hk');have e1:some w'.heap[k]=(et0 W).heap[k]?:=by rw[<- hb.block k hk];exact(Array.getElem?_eq_getElem hk').symm
   have e2:(et0 W).heap[k]? =(W.heap[k]?).map fun o=>if K4 o then nothing else o:=by
    show(W.heap.map _)[k]? =_;rw[Array.getElem?_map]
   rw[Array.getElem?_eq_getElem hk]at e2;rw[e2]at e1;have e1:=Option.some.inj e1;have hp:ρ k=(X0 W).L6 k:=by
    rw[hρ k fun z=>by have:=h2 k z;omega,h3]
   have hp2:(X0 W).L6 k=if K4 W.heap[k] then .gone W.heap[k] else .all:=by
    show(match W.heap[k]? with|some o=>if K4 o then p7.gone o else .all|none=>.all)=_;rw[Array.getElem?_eq_getElem hk]
   rw[hy,Array.getElem?_eq_getElem hk];have hlk:ek0 (ρ k) w'.heap[k] y:=hlk;rw[hp,hp2,e1]at hlk;cases hv:K4 W.heap[k]
   ·simp only[hv,Bool.false_eq_true,if_false]at hlk;rw[Mp0 hlk]
   ·simp only[hv,if_true]at hlk;rw[Ha0 hlk]
end Go.Vy.Sc
end
section
namespace Go.Vy.Sc
open Go Go.Conc Go.Yc Go.RowKit Go.Proofs Go.Proofs.Ytgadhljgilblbaa Try
open Go.Vc Go.Wg Go.ChangeShapes Go.WideShapes Go.ChangeAt Go.Deep
theorem ku0 {W:World} {a:Addr} {v:Value} (h:W.cell? a=some v):(et0 W).cell? a=some v:=by
 unfold World.cell? at h⊢;cases ho:W.heap[a.block]? with
 |none=>rw[ho]at h;cases h
 |some o=>
  cases o with
  |cells c e f=>
   rw[Ix0 ho rfl];rw[ho]at h;exact h
  |_=>rw[ho]at h;cases h
theorem ol0 {α:Type} [Inhabited α] {n:Nat} {p:Nat->α->Prop} (h:∀i,i<n->∃x,p i x):∃f:Nat->α,∀i,i<n->p i (f i):=by
 classical
 exact⟨fun i=>if hi:i<n then(h i hi).choose else default,fun i hi=>by
  show p i (if hi:i<n then(h i hi).choose else default);rw[dif_pos hi];exact(h i hi).choose_spec⟩
section
variable {H:Type}{enc:TypeId×Value->H}{W:World}{base:Nat}{spare:Nat->Bool}{held:Bool}{P:Program}
theorem om0 {t:TypeId} {fs:Array Field} {fuel:Nat} {cs:List Value} {x:DataW H×List MemPlace} (ht:P.underlying t=some (.struct fs)) (h:DataW.trod enc P W base spare held fuel t cs=some x) :
  ∃m,cs.length=P.cellsOf t/\∀(j:Nat) f,fs[j]? =some f->∃y,DataW.trod enc P W base spare held m f.type ((cs.drop f.offset).take (P.cellsOf f.type))=some y:=by
 obtain⟨xs,m,_,_,hl,hxl,hf⟩:=DataW.trod_struct ht h;refine⟨m,hl,fun j f hj=>?_⟩;have hjl:j<xs.length:=by rw[hxl];exact(Array.getElem?_eq_some_iff.1 hj).1
 exact⟨xs[j],by rw[hf j f hj];exact List.getElem?_eq_getElem hjl⟩
end
section
theorem on0:prog.cellsOf 3=1:=by kernel_rfl
end
end Go.Vy.Sc
end
section
namespace Go.Vy
open Go Go.Conc Go.Yc
open Go.Vc (Env upd L3 ev)
theorem Does.quiet {P:Program} {S:Sem Next} {u:World} {r:Out} (h:∀τ d ρ x,B6 ρ (P2 u τ d) x->S.run P x=r.res x/\S.events P x #[]=#[]):Does P S u r u :=
 ⟨rfl,rfl,fun τ d ρ x hs=>by
  obtain⟨h1,h2⟩:=h τ d ρ x hs;exact⟨Evo.refl _,x,#[],by rw[Sem.runT_eq,h1,h2],hs,fun e he=>by simp at he⟩⟩
theorem B6.row {ρ:Nat->p7} {u x:World} (h:B6 ρ u x) {b:Nat} {cs:Array Value} {T:TypeId} {f:Nat×Nat} (hB:u.heap[b]? =some (.cells cs T f)) (h0:0<cs.size):∃rest f',x.heap[b]? =some (.cells (cs++rest) T f'):=by
 obtain⟨y,hy,hl⟩:=h.obj b _ hB;generalize ρ b=p at hl;cases hl with
 |same=>exact⟨#[],f,by rw[hy];simp⟩
 |cut _ rest _ f0 _ _=>exact⟨rest,f0,hy⟩
 |gone=>simp at h0
theorem Hb0 {P:Program} {t:TypeId} {n:Nat} (hd:0<P.depth) (hs:P.cellsOf t≠0) (hn:1 <=n):liesAt P P.depth t n 0 t 1=true:=by
 obtain⟨d,hd⟩:∃d,P.depth=d+1:=⟨P.depth-1,by omega⟩
 rw[hd];unfold liesAt;rw[hd];simp[rowAt,sameLayout,hs,hn]
section
variable {P:Program}{ρ:Operand->Value}{d:Option Nat}{ty:TypeId}{ps:String}{af:Array Edge}{g:Option (Nat×Bool)}{x y:Operand}{w:World}
theorem gs0 {src dst t:TypeId} {a:Addr} {v:Value} (hx:ρ x= .pointer (some a)) (hs:P.underlying src=some (.pointer t)) (hd:P.underlying dst=some .unsafePointer) (hz:(P.info? t).map (fun i=>decide (i.size=0))=some false) (hc:w.cell? a=some v) :
  Does P (execOp ρ ⟨d,.convert src dst x,ty,ps,af,g⟩) w (.val (.pointer (some a))) w :=
 .quiet fun τ dd ρ' X h=>by
  have V8:=h.cell (a:=a) (v:=v) hc;refine⟨Go.Vc.gs0 hx hs hd hz V8,?_⟩;simp[execOp,hx,events_convert_to_unsafe hs hd hz V8]
theorem Ci0 {src dst t:TypeId} {b:Nat} {cs:Array Value} (hx:ρ x= .pointer (some ⟨b,0,none⟩)) (hs:P.underlying src=some .unsafePointer) (hd:P.underlying dst=some (.pointer t)) (hB:Go.Vc.V0 w b cs t) (hdp:decide (0<P.depth)=true) {n:Nat} (hn:(P.info? t).map (·.size)=some n) (hcn:decide (0<n)=true) (hle:n <=cs.size) :
  Does P (execOp ρ ⟨d,.convert src dst x,ty,ps,af,g⟩) w (.val (.pointer (some ⟨b,0,none⟩))) w :=
 .quiet fun τ dd ρ' X h=>by
  have h0:0<n:=of_decide_eq_true hcn;obtain⟨rest,f',hX⟩:=Go.Vy.B6.row h (b:=b) (cs:=cs) (T:=t) (f:=(0,0)) hB (by omega);have hco:P.cellsOf t=n:=by
   obtain⟨i,hi,hz⟩:=Option.map_eq_some_iff.1 hn;unfold Program.cellsOf;rw[hi];exact hz
  have h1:X.shape? b=some (t,(cs++rest).size):=by simp[World.shape?,hX]
  have hl:liesAt P P.depth t ((cs++rest).size/P.cellsOf t) 0 t 1=true:=Hb0 (of_decide_eq_true hdp) (by omega) (by
   rw[hco];exact Nat.div_pos (by rw[Array.size_append];omega) h0)
  have h2:(convert src dst (.pointer (some ⟨b,0,none⟩))).run P X= .ok (.pointer (some ⟨b,0,none⟩)) X:=by
   simp only[Array.size_append]at hl h1;simp[convert,Conv.unsafePointer,Conv.seenAt,viewAt,variablesAt,Go.Vc.run_sizeOf hn,run_underlying hs,run_underlying hd,h1,hl,Result.andThen]
  have h3:(convert src dst (.pointer (some ⟨b,0,none⟩))).events P X #[]=#[]:=by
   simp only[Array.size_append]at hl h1;simp[convert,Conv.unsafePointer,Conv.seenAt,viewAt,variablesAt,Go.Vc.run_sizeOf hn,run_underlying hs,run_underlying hd,h1,hl,Result.evThen]
  exact⟨by simp only[execOp,hx,Sem.run_bind,h2,Result.andThen_ok,Sem.run_pure];rfl,by simp[execOp,hx,h3]⟩
theorem vf0 {f:FuncId} {fn:Func} {args:Array Value} {e:Array Value->Sem Value} (hf:P.funcs[f]? =some fn) (T3:(fn.name== "runtime.NumGoroutine")=false) (hb:fn.body.isNone=true) (hn:Extern.findNext fn=none) (he:Extern.find fn=some e) (ht:E1 P (e args)):E1 P (callFunc f args):=by
 unfold callFunc;refine iz0 ?_;rw[hf];simp only[T3,Bool.false_eq_true,if_false,hb,if_true,hn,he];exact I1 (s:=mark (Mark.extern f)) (show(if zk0 (Mark.extern f)=true then E1 P (.pure ()) else dead P (.pure ()))by rw[if_pos (show zk0 (Mark.extern f)=true from rfl)];trivial) fun _=>I1 ht fun _=>G1 _
theorem rt0 {f:FuncId} {fn:Func} {aT:Array TypeId} {a:Addr} {p:Option Addr} (hx:ρ x= .pointer (some a)) (hf:P.funcs[f]? =some fn) (T3:(fn.name== "runtime.NumGoroutine")=false) (hb:fn.body.isNone=true) (hn:Extern.findNext fn=none)
  (he:Extern.find fn=some (Extern.Atomic.loadT .ptr)) (hc:w.cell? a=some (.pointer p)) (hρ:ρ (.func f)= .func (.func f) #[] #[]) :
  Does P (execOp ρ ⟨d,.call ⟨.value (.func f),#[x],aT⟩,ty,ps,af,g⟩) w (.val (.pointer p)) w :=
 .j1 (by
  show E1 P (do let d <- Deferred.ofValue (ρ (.func f)) (#[x].map ρ);invoke d.target d.args);rw[hρ];show E1 P (callFunc f (#[] ++ #[x].map ρ ++ #[]));refine vf0 hf T3 hb hn he ?_;have e1:(#[] ++ #[x].map ρ ++ #[]:Array Value)=#[.pointer (some a)]:=by simp[hx]
  rw[e1];show E1 P (do Extern.Atomic.read .ptr (<- asAddr (.pointer (some a))));refine I1 (in0 _) fun b=>?_;unfold Extern.Atomic.read;refine I1 (Ab0 _ _) fun v=>?_;split <;> first|exact G1 _|exact u6 _|(split <;> first|exact G1 _|exact u6 _)) rfl rfl fun τ dd=>Go.Vc.rt0 hx hf T3 hb hn he hc hρ
theorem nf0 {f:FuncId} {fn:Func} {aT:Array TypeId} {a:Addr} {p:Option Addr} {u:Value} (hx:ρ x= .pointer (some a)) (hy:ρ y= .pointer p) (hf:P.funcs[f]? =some fn) (T3:(fn.name== "runtime.NumGoroutine")=false) (hb:fn.body.isNone=true) (hn:Extern.findNext fn=none)
  (he:Extern.find fn=some Extern.Atomic.storeT) (hc:w.cell? a=some u) (hz:w.frozen? a=false) (hρ:ρ (.func f)= .func (.func f) #[] #[]) :
  Does P (execOp ρ ⟨d,.call ⟨.value (.func f),#[x,y],aT⟩,ty,ps,af,g⟩) w (.val (.tuple #[])) (w.setCell a (.pointer p)) :=
 .j1 (by
  show E1 P (do let d <- Deferred.ofValue (ρ (.func f)) (#[x,y].map ρ);invoke d.target d.args);rw[hρ];show E1 P (callFunc f (#[] ++ #[x,y].map ρ ++ #[]));refine vf0 hf T3 hb hn he ?_;have e1:(#[] ++ #[x,y].map ρ ++ #[]:Array Value)=#[.pointer (some a),.pointer p]:=by simp[hx,hy]
  rw[e1];show E1 P (do store (<- asAddr (.pointer (some a))) (.pointer p) .atomic;pure Extern.Atomic.none_);exact I1 (in0 _) fun b=>I1 (Dp0 _ _ _) fun _=>G1 _) rfl rfl fun τ dd=>Go.Vc.nf0 hx hy hf T3 hb hn he hc hz hρ
end
section
open Go.Vc Go.RowKit
variable {P:Program}[Ctx P]{n:Nat}{Q:Exit->Env->World->Prop}{e:Env}{w:World}{ops:Array Oper}{rest:List Oper}
variable {d:Nat}{ty:TypeId}{ps:String}{af:Array Edge}{T E:TypeId}{x y:Operand}
theorem L.oo0 {b N k c c' b2:Nat} {f:Nat->Value} {v:Value} (hx:ev e x= .slice (some ⟨b,0,none⟩) k c) (hy:ev e y= .slice (some ⟨b2,0,none⟩) 1 c') (hT:P.underlying T=some (.slice E)) (hs:(P.info? E).map (·.size)=some 1) (hB:V0 w b (arr N f) E) (hB2:w.cell? ⟨b2,0,none⟩=some v) (h1:v.oneCell'=true) (hk:k+1 <=c) (hN:k+1 <=N)
  (hk2:∀w1,V0 w1 b (arr N (fun j=>if j=k then v else f j)) E->w.grownBy w1 (some b)->w1.heap.size=w.heap.size->L P n ops Q rest (upd e d (.slice (some ⟨b,0,none⟩) (k+1) c)) w1) :
  L P n ops Q (⟨some d,.call ⟨.builtin .append,#[x,y],#[T,T]⟩,ty,ps,af,none⟩::rest) e w :=
 L.va (dn0 hx hy hT hs hB hB2 h1 hk hN) (hk2 _ (bn0 _ _ _ hB) (Aj0 (y9 _ _) (.inl rfl) _ _) (bm0 _ _ _ _))
end
end Go.Vy
end
section
namespace Go.Vy.Sc
open Go Go.Conc Go.Yc Go.RowKit Go.Proofs Go.Proofs.Ytgadhljgilblbaa Try
open Go.Vc Go.Wg
structure CSt (K:N9 prog) (w:World) (o:dt0 K.S K.L):Prop where
 on:gh w 2=0
 j2:gh w 1=0
 out:K.out (gh w 0)=o
 none:o.j2=[]
 os:w.os=K.base.os
 output:w.output=K.base.output
section
variable {K:N9 prog}{w w':World}{o:dt0 K.S K.L}
theorem CSt.to (h:CSt K w o) (ht:w'.tape=w.tape) (ho:w'.os=w.os) (ho2:w'.output=w.output):CSt K w' o :=
 ⟨by rw[K3 ht];exact h.on,by rw[K3 ht];exact h.j2,by rw[K3 ht];exact h.out,h.none,ho.trans h.os,ho2.trans h.output⟩
theorem CSt.j0 {B:Nat} (h:CSt K w o) (hb:Below B w w'):CSt K w' o:=h.to hb.tape hb.os hb.output
theorem CSt.V2 {r:Option Nat} (h:CSt K w o) (hg:w.grownBy w' r) (_:True):CSt K w' o:=h.to hg.tape hg.os hg.output
theorem CSt.N0 {F:Nat->Prop} {m:Gm} {f:K.L ⊕ Nat} (h:CSt K w o) (hf:o.W3=f) (hm:K.gu (gm w) m) (hi:K.Inv o.s m w F):K.Told w m F f :=
 ⟨h.on,by rw[h.out];exact hf,by rw[h.j2,h.out,h.none];rfl,by rw[h.out];exact hi,hm,h.os,h.output⟩
theorem CSt.done {F:Nat->Prop} {m:Gm} {v:Value} (h:CSt K w o) (hf:o.W3= .inr 1) (hm:K.gu (gm w) m) (hi:K.Inv o.s m w F):K.Gi0 w F (.returned v):=.inl ⟨m,h.N0 hf hm hi⟩
end
structure gc0 (Y:Sys) (sc:Nat->Int) (sn B:Nat) (R:Rn) (w:World):Prop where
 mem:D4 w B R
 hm:R.m=Y.m
 evs:R.evs=(Y.pn sc sn).evs
 j2:R.j2=(Y.pn sc sn).j2
 used:R.used=(Y.pn sc sn).used
 ends:∀j,j<Y.m->R.ends[j]? =some (G8 (Y.pn sc sn).ft[j]?)
 I4:∀j,j<Y.m->R.I4[j]? =some (Me0 Y j ((Y.pn sc sn).ft[j]?))
 stuck:R.stuck=((Y.pn sc sn).ft.any (·.isLeft)&&(Y.rds (Y.pn sc sn)).isEmpty)
 fp:∀b,R.fp b->B <=b
section
variable {Y:Sys}{sc:Nat->Int}{sn B B':Nat}{R:Rn}{w w':World}
theorem gc0.congr (h:gc0 Y sc sn B R w) (he:∀k,R.fp k->w'.heap[k]? =w.heap[k]?):gc0 Y sc sn B R w' :=
 ⟨h.mem.congr he,h.hm,h.evs,h.j2,h.used,h.ends,h.I4,h.stuck,h.fp⟩
theorem gc0.j0 (h:gc0 Y sc sn B R w) (hb:Below w.heap.size w w'):gc0 Y sc sn B R w':=h.congr fun k hk=>hb.block k (h.mem.lt hk)
theorem gc0.V2 {b:Nat} (h:gc0 Y sc sn B R w) (hg:w.grownBy w' (some b)) (hn:¬R.fp b):gc0 Y sc sn B R w':=h.congr fun k hk=>hg.block k (h.mem.lt hk) fun e=>hn (by cases e;exact hk)
theorem gc0.down (h:gc0 Y sc sn B' R w) (hB:B <=B'):gc0 Y sc sn B R w :=
 ⟨h.mem.down hB,h.hm,h.evs,h.j2,h.used,h.ends,h.I4,h.stuck,fun b hb=>Nat.le_trans hB (h.fp b hb)⟩
theorem Sl0 {fb:Nat->FuncId} {caps:Nat->Array Value} {fv:Nat->Value} {l sa:Option Addr} {lc scp:Nat} {F:Nat->Prop} (hO:lr0 Y fb caps fv l sa sn sc) {m0:Gm} (hinv:Y.Inv Y.s0 m0 w F) (hl:∀j,j<Y.m->w.cell? ⟨ab l,ao l+j*1,none⟩=some (fv j)) (hlF:0<Y.m->¬F (ab l)) (hSc:pl0 w sa sn scp sc) (hsF:0<sn->¬F (ab sa)\/∀s m w' F',Y.Inv s m w' F'->w'.heap[ab sa]? =w.heap[ab sa]?) :
  @C prog (C9 Y.lb Y.pl) 27 #[.slice l Y.m lc,.slice sa sn scp] w fun v w'=>∃R,v= .tuple #[Rr0 R,.i 0]/\gc0 Y sc sn w.heap.size R w'/\(∃m' F',Y.Inv (Y.pn sc sn).s m' w' F'/\∀b,F' b->¬R.fp b)/\w'.os=w.os/\w'.output=w.output/\w'.tape=w.tape/\w.heap.size <=w'.heap.size/\∀b,b<w.heap.size->¬F b->w'.heap[b]? =w.heap[b]?:=by
 classical
 let Mn:Nat->Option Obj:=fun b=>if F b then none else w.heap[b]?
 have ef0:∀(w':World) (a:Addr) (v:Value),(∀b,Mn b≠none->w'.heap[b]? =Mn b)->¬F a.block->w.cell? a=some v->w'.cell? a=some v:=fun w' a v hw hF ha=>by
  have h1:Mn a.block=w.heap[a.block]?:=if_neg hF;have h2:w'.heap[a.block]? =w.heap[a.block]?:=by
   rw[<- h1];refine hw _ ?_;rw[h1,Array.getElem?_eq_getElem (jj0 ha)];simp
  rw[(H7 (u:=w) (u':=w') (a:=a) h2).1];exact ha
 have key:=gn1 (Mn:=Mn) (w0:=w) (F:=F) (bc:=lc) (scp:=scp) hO (fun b o h=>by
   have h:(if F b then none else w.heap[b]?)=some o:=h;split at h
   ·cases h
   ·exact h) hinv (fun b hb=>if_pos hb) (fun w' hw j hj=>ef0 w' _ _ hw (hlF (by omega)) (hl j hj)) (fun w' hI hw j hj=>by
   rcases hsF (by omega)with h|h
   ·exact ef0 w' _ _ hw h (hSc.cell j hj)
   ·obtain⟨s,m,F',hI⟩:=hI;rw[(H7 (u:=w) (u':=w') (a:=⟨ab sa,ao sa+j*1,none⟩) (h s m w' F' hI)).1];exact hSc.cell j hj)
 refine @Calls.mono _ (C9 Y.lb Y.pl) _ _ _ _ _ key fun e w' he=>?_;cases e with
 |panicked ch=>exact he.elim
 |outgrown=>exact he.elim
 |returned v=>
  obtain⟨R,rfl,hD⟩:=he;refine⟨R,rfl,⟨hD.mem,hD.m,hD.evs,hD.j2,hD.used,hD.ends,hD.I4,hD.stuck,hD.fp⟩,hD.inv,hD.os,hD.output,hD.tape,hD.size,fun b hb hF=>?_⟩;have h1:Mn b=w.heap[b]?:=if_neg hF;rw[<- h1];refine hD.j0 b ?_;rw[h1,Array.getElem?_eq_getElem hb];simp
end
section
variable [Ctx prog]
end
section
theorem Zp0:prog.built 99 []=some #[.bool false]:=by kernel_rfl
theorem Zq0 (x0:Int) (x1:Int) (x2:Int):prog.built 77 [(0,.i x0),(1,.i x1),(2,.i x2)]=some #[.i x0,.i x1,.i x2]:=by kernel_rfl
theorem Zr0 (x0:Int) (x1:Int):prog.built 133 [(0,.i x0),(1,.i x1)]=some #[.i x0,.i x1]:=by kernel_rfl
theorem Zs0 (x0:Int) (x1:Int) (x2:Option Addr) (x3:Option Addr) (x4:Nat) (x5:Nat):prog.built 135 [(0,.agg #[.i x0,.i x1]),(1,.pointer x2),(2,.slice x3 x4 x5)]=some #[.i x0,.i x1,.pointer x2,.slice x3 x4 x5]:=by kernel_rfl
theorem Zt0 (x0:Int) (x1:Int) (x2:Option Addr) (x3:Int) (x4:Bool) (x5:Int):prog.built 193 [(0,.agg #[.i x0,.i x1]),(1,.pointer x2),(2,.agg #[.i x3,.bool x4,.i x5])]=some #[.i x0,.i x1,.pointer x2,.i x3,.bool x4,.i x5]:=by kernel_rfl
end
section
variable [Ctx prog]
theorem ib0 (w0:World):C prog 8 #[] w0 fun v w=>∃wb,v= .p wb/\w0.heap.size <=wb/\V0 w wb #[.bool false] 99/\Below w0.heap.size w0 w:=by
 refine C.enter (n:=3) func8 rfl rfl ?_;refine U7 ?_;intro hb;refine U9 ?_;refine U0 ?_;refine L.va (Z1 (parts:=[]) rfl Zp0) ?_;refine L.box (cs:=#[.bool false]) rfl rfl (fun w b2 F2=>?_);refine U119 ?_;intro lt2 hb;have hB2:=F2.blk;refine U9 ?_;refine U33 ?_;exact⟨b2,rfl,lt2,hB2,hb⟩
theorem Mq0 (wb:Nat) (w0:World) (hW:V0 w0 wb #[.bool false] 99):C prog 74 #[.p wb] w0 fun v w=>v= .bool false/\w=w0:=by
 refine C.enter (n:=11) func74 rfl rfl ?_;refine U40 ?_;refine U3 ?_;refine L.va (bp0 rfl rfl underlying29) ?_;refine U266 ?_;refine L.va (E0 rfl underlying99 rfl sz4 (by decide)) ?_;refine L.on rfl ?_;refine L.va (B0 rfl underlying4 rfl (hW.q0 0 (v:=.bool false) rfl)) ?_;refine U242 ?_;exact U118
theorem Mr0 {f:FuncId} {fn:Func} {ys:Array Value} (hf:prog.funcs[f]? =some fn) (hbd:fn.body.isSome=true) (hnm:(fn.name== "runtime.NumGoroutine")=false) (k o n:Int) (rd:Value) (w0:World) (R:World->Prop) (hdo:∀w,Below w0.heap.size w0 w->C prog f ys w fun _ w'=>R w') :
  C prog 97 #[.pointer none,.agg #[.i k,.i o,.i n],rd,.func (.func f) #[] ys] w0 fun _ w=>R w:=by
 refine C.enter (n:=63) func97 rfl rfl ?_;refine U7 ?_;intro hb;refine L.box (cs:=#[.i k,.i o,.i n]) rfl rfl (fun w b5 F5=>?_);refine U71 ?_;intro lt5 hb;refine U176 ?_;refine L.va (Q5 rfl rfl underlying106) ?_;refine U87 ?_;refine U17 ?_;refine L.va ew0 ?_;refine L.va (aw0 (v:=.func (.func f) #[] ys) (b:=true) rfl (.inr ⟨_,_,_,rfl,rfl⟩) rfl underlying1 ⟨_,_,_,rfl⟩) ?_;refine U87 ?_;refine U152 ?_;refine L.call (ez0 rfl hf hbd hnm) (hdo _ hb) ?_;rintro _ w hR;refine U1 ?_;refine U365 ?_;exact hR
theorem fs0 {f:FuncId} {fn:Func} {ys:Array Value} (hf:prog.funcs[f]? =some fn) (hbd:fn.body.isSome=true) (hnm:(fn.name== "runtime.NumGoroutine")=false) (o n k:Int) (rd:Value) (w0:World) (R:World->Prop) (hdo:∀w,Below w0.heap.size w0 w->C prog f ys w fun _ w'=>R w') :
  C prog 75 #[.agg #[.i o,.i n],.pointer none,.i k,rd,.func (.func f) #[] ys] w0 fun _ w=>R w:=by
 refine C.enter (n:=20) func75 rfl rfl ?_;refine U7 ?_;intro hb;refine L.box (cs:=#[.i o,.i n]) rfl rfl (fun w b5 F5=>?_);refine U71 ?_;intro lt5 hb;have j3:=F5.blk;refine U1 ?_;refine U159 ?_;refine U494 ?_;refine U495 ?_;refine L.va (Z1 (parts:=[(0,.tmp 11),(1,.tmp 13),(2,.tmp 15)]) rfl (Zq0 k o n)) ?_;refine U369 ?_;refine L.call (bl0 rfl rfl rfl rfl func97 rfl eu1 rfl) (Mr0 hf hbd hnm k o n rd w R (fun w1 V7=>hdo w1 (O0 hb V7))) ?_;rintro _ w hR;refine U110 ?_;exact hR
theorem Ms0 (b0 b1 cb:Nat) (obj num:Int) (q:Value) (pa:Option Addr) (pn:Nat) (pc:Nat) (qa:Option Addr) (qn:Nat) (qc:Nat) (w0:World) (hB0:V0 w0 b0 #[.p cb] 85) (hB1:V0 w0 b1 #[.slice qa qn qc] 23) (hC:V0 w0 cb #[.i obj,.i num,q,.slice pa pn pc] 135) :
  C prog 76 #[.p b0,.p b1] w0 fun v w=>v= .tuple #[]/\V0 w b1 #[.slice pa pn pc] 23/\w0.grownBy w (some b1):=by
 refine C.enter (n:=6) func76 rfl rfl ?_;refine W.region rfl ?_;refine L.va (B0 rfl underlying85 rfl (hB0.q0 0 (v:=.p cb) rfl)) ?_;refine U551 ?_;refine L.va (B0 rfl underlying23 rfl (hC.q0 3 (v:=.slice pa pn pc) rfl)) ?_;refine L.pu 0 [.slice pa pn pc] #[.slice pa pn pc] O8 hB1 (fun w G0 hg A2=>?_);have Y1:=F1.E5 hB1 hg;have hB1:=G0;refine U48 ?_;refine U44 ?_;exact⟨rfl,hB1,hg⟩
theorem Mt0 (b0 b1 cb:Nat) (obj num:Int) (q:Value) (pa:Option Addr) (pn:Nat) (pc:Nat) (qa:Option Addr) (qn:Nat) (qc:Nat) (w0:World) (hB0:V0 w0 b0 #[.slice pa pn pc] 23) (hB1:V0 w0 b1 #[.p cb] 85) (hC:V0 w0 cb #[.i obj,.i num,q,.slice qa qn qc] 135) :
  C prog 77 #[.p b0,.p b1] w0 fun v w=>v= .tuple #[]/\V0 w cb #[.i obj,.i num,q,.slice pa pn pc] 135/\w0.grownBy w (some cb):=by
 refine C.enter (n:=6) func77 rfl rfl ?_;refine W.region rfl ?_;refine L.va (B0 rfl underlying85 rfl (hB1.q0 0 (v:=.p cb) rfl)) ?_;refine L.va (B0 rfl underlying23 rfl (hB0.q0 0 (v:=.slice pa pn pc) rfl)) ?_;refine U551 ?_;refine L.pu 3 [.slice pa pn pc] #[.i obj,.i num,q,.slice pa pn pc] O8 hC (fun w G0 hg A2=>?_);have Y1:=F1.E5 hC hg;have hC:=G0;refine U48 ?_;refine U44 ?_;exact⟨rfl,hC,hg⟩
theorem Er0 (cb wb:Nat) (obj num:Int) (pa:Option Addr) (pn:Nat) (pc:Nat) (w0:World) (hC:V0 w0 cb #[.i obj,.i num,.p wb,.slice pa pn pc] 135) (hW:V0 w0 wb #[.bool false] 99) :
  C prog 45 #[.p cb,.pointer none] w0 fun v w=>v= .slice pa pn pc/\Below w0.heap.size w0 w:=by
 refine C.enter (n:=26) func45 rfl rfl ?_;refine U239 ?_;intro hb w b2 F2;refine U119 ?_;intro lt2 hb;refine U262 ?_;intro hW hC;have hB2:=F2.blk;refine U92 ?_;refine L.alloc (cs:=#[.slice none 0 0]) dw1 rfl (fun w b5 F5=>?_);refine U71 ?_;intro lt5 hb;refine U76 ?_;intro hW hC;have hB2:=hB2.j0 F5.below;have j3:=F5.blk;refine U42 ?_;refine U505 ?_;refine U26 ?_;refine U17 ?_;refine U298 ?_;refine U220 ?_;rintro _ w1 ⟨rfl,hw⟩;refine U10 ?_;refine U94 ?_;refine U611 ?_;refine U212 ?_;refine L.call (v9 rfl rfl rfl rfl rfl func75 rfl uu0 rfl) (fs0 (ys:=#[.p b2,.p b5]) func76 rfl Ym0 obj num 8 _ w (fun w'=>V0 w' b5 #[.slice pa pn pc] 23/\w.grownBy w' (some b5)) (fun w1 V7=>(Ms0 b2 b5 cb obj num _ pa pn pc _ _ _ w1 (hB2.j0 V7) (j3.j0 V7) (hC.j0 V7)).mono fun _ w' h=>⟨h.2.1,cr0 (bo0 (y9 _ _) V7) h.2.2⟩)) ?_;rintro _ w ⟨G0,hg⟩;have Y1:=F1.E5 j3 hg;have hb:=G4 hb hb.size hg lt5;have j3:=G0;refine U58 ?_;refine L.va (B0 rfl underlying23 rfl (j3.q0 0 (v:=.slice pa pn pc) rfl)) ?_;refine U28 ?_;exact U31
theorem We0 (cb wb:Nat) (obj num:Int) (pa:Option Addr) (pn:Nat) (pc:Nat) (qa:Option Addr) (qn:Nat) (qc:Nat) (w0:World) (hC:V0 w0 cb #[.i obj,.i num,.p wb,.slice qa qn qc] 135) (hW:V0 w0 wb #[.bool false] 99) :
  C prog 47 #[.p cb,.pointer none,.slice pa pn pc] w0 fun _ w=>V0 w cb #[.i obj,.i num,.p wb,.slice pa pn pc] 135/\w0.grownBy w (some cb):=by
 refine C.enter (n:=26) func47 rfl rfl ?_;have N3:=y9 w0 (some cb);refine U0 ?_;refine L.box (cs:=#[.p cb]) rfl rfl (fun w b3 F3=>?_);have lt3:=F3.lq N3.size;have N3:=bo0 N3 F3.below;refine U263 ?_;intro hW hC;have C1:=F3.blk;refine L.box (cs:=#[.slice pa pn pc]) rfl rfl (fun w b5 F5=>?_);have lt5:=F5.lq N3.size;have N3:=bo0 N3 F5.below;refine U76 ?_;intro hW hC;have C1:=C1.j0 F5.below;have j3:=F5.blk;refine U13 ?_;refine U506 ?_;refine U4 ?_;refine U299 ?_;refine U220 ?_;rintro _ w1 ⟨rfl,hw⟩;refine U10 ?_;refine U16 ?_;refine U612 ?_;refine U213 ?_;refine L.call (v9 rfl rfl rfl rfl rfl func75 rfl uu0 rfl) (fs0 (ys:=#[.p b5,.p b3]) func77 rfl Yn0 obj num 9 _ w (fun w'=>V0 w' cb #[.i obj,.i num,.p wb,.slice pa pn pc] 135/\w.grownBy w' (some cb)) (fun w1 V7=>(Mt0 b5 b3 cb obj num _ pa pn pc qa qn qc w1 (j3.j0 V7) (C1.j0 V7) (hC.j0 V7)).mono fun _ w' h=>⟨h.2.1,cr0 (bo0 (y9 _ _) V7) h.2.2⟩)) ?_;rintro _ w ⟨G0,hg⟩;have Y1:=F1.E5 hC hg;have N3:=cr0 N3 hg;have hC:=G0;refine U48 ?_;refine B.nrm ?_;refine U44 ?_;exact⟨hC,N3⟩
theorem gv1 (wb:Nat) (obj num:Int) (pa:Option Addr) (pn:Nat) (pc:Nat) (w0:World) :
  C prog 20 #[.p wb,.i obj,.i num,.slice pa pn pc] w0 fun v w=>∃cb,v= .p cb/\w0.heap.size <=cb/\V0 w cb #[.i obj,.i num,.p wb,.slice pa pn pc] 135/\Below w0.heap.size w0 w:=by
 refine C.enter (n:=16) func20 rfl rfl ?_;refine U7 ?_;intro hb;refine U9 ?_;refine U20 ?_;refine U531 ?_;refine L.va (Y3 rfl) ?_;refine L.va (w7 rfl) ?_;refine L.va (Z1 (parts:=[(0,.tmp 11),(1,.tmp 12),(2,.tmp 13)]) rfl (Zs0 obj num ((some (⟨wb,0,none⟩))) pa pn pc)) ?_;refine L.box (cs:=#[.i obj,.i num,.p wb,.slice pa pn pc]) rfl rfl (fun w b15 F15=>?_);have Zu0:=F15.lq hb.size;have hb:=O0 hb F15.below;have Zv0:=F15.blk;refine U9 ?_;refine U33 ?_;exact⟨b15,rfl,Zu0,Zv0,hb⟩
theorem Mu0 (b0 b1 cb:Nat) (obj num:Int) (q:Value) (g:Int) (l:Bool) (x:Int) (g2:Int) (l2:Bool) (x2:Int) (w0:World) (hB0:V0 w0 b0 #[.p cb] 140) (hB1:V0 w0 b1 #[.i g2,.bool l2,.i x2] 145) (hC:V0 w0 cb #[.i obj,.i num,q,.i g,.bool l,.i x] 193) :
  C prog 80 #[.p b0,.p b1] w0 fun v w=>v= .tuple #[]/\V0 w b1 #[.i g,.bool l,.i x] 145/\w0.grownBy w (some b1):=by
 refine C.enter (n:=6) func80 rfl rfl ?_;refine W.region rfl ?_;refine L.va (B0 rfl underlying140 rfl (hB0.q0 0 (v:=.p cb) rfl)) ?_;refine U549 ?_;refine L.va (Q0 (cs:=[.i g,.bool l,.i x]) rfl underlying145 rfl af0 rfl (hC.B4 rfl)) ?_;refine L.pu 0 [.i g,.bool l,.i x] #[.i g,.bool l,.i x] af0 hB1 (fun w G0 hg A2=>?_);have Y1:=F1.E5 hB1 hg;have hB1:=G0;refine U48 ?_;refine U44 ?_;exact⟨rfl,hB1,hg⟩
theorem Mv0 (b0 b1 cb:Nat) (obj num:Int) (q:Value) (g:Int) (l:Bool) (x:Int) (g2:Int) (l2:Bool) (x2:Int) (w0:World) (hB0:V0 w0 b0 #[.i g,.bool l,.i x] 145) (hB1:V0 w0 b1 #[.p cb] 140) (hC:V0 w0 cb #[.i obj,.i num,q,.i g2,.bool l2,.i x2] 193) :
  C prog 78 #[.p b0,.p b1] w0 fun v w=>v= .tuple #[]/\V0 w cb #[.i obj,.i num,q,.i g,.bool l,.i x] 193/\w0.grownBy w (some cb):=by
 refine C.enter (n:=6) func78 rfl rfl ?_;refine W.region rfl ?_;refine L.va (B0 rfl underlying140 rfl (hB1.q0 0 (v:=.p cb) rfl)) ?_;refine L.va (Q0 (cs:=[.i g,.bool l,.i x]) rfl underlying145 rfl af0 rfl (hB0.B4 rfl)) ?_;refine U549 ?_;refine L.pu 3 [.i g,.bool l,.i x] #[.i obj,.i num,q,.i g,.bool l,.i x] af0 hC (fun w G0 hg A2=>?_);have Y1:=F1.E5 hC hg;have hC:=G0;refine U48 ?_;refine U44 ?_;exact⟨rfl,hC,hg⟩
theorem Wf0 (cb wb:Nat) (obj num:Int) (g:Int) (l:Bool) (x:Int) (w0:World) (hC:V0 w0 cb #[.i obj,.i num,.p wb,.i g,.bool l,.i x] 193) (hW:V0 w0 wb #[.bool false] 99) :
  C prog 51 #[.p cb,.pointer none] w0 fun v w=>v= .agg #[.i g,.bool l,.i x]/\Below w0.heap.size w0 w:=by
 refine C.enter (n:=26) func51 rfl rfl ?_;refine U239 ?_;intro hb w b2 F2;refine U119 ?_;intro lt2 hb;refine U262 ?_;intro hW hC;have hB2:=F2.blk;refine L.alloc (cs:=#[.i 0,.bool false,.i 0]) lm0 rfl (fun w b4 F4=>?_);refine U268 ?_;intro lt4 hb;have hW:=hW.j0 F4.below;have hC:=hC.j0 F4.below;have hB2:=hB2.j0 F4.below;have B1:=F4.blk;refine U59 ?_;refine L.alloc (cs:=#[.i 0,.bool false,.i 0]) lm0 rfl (fun w b5 F5=>?_);have lt5:=F5.lq hb.size;have Cj0:=F5.ne B1;have hb:=O0 hb F5.below;refine U76 ?_;intro hW hC;have hB2:=hB2.j0 F5.below;have B1:=B1.j0 F5.below;have j3:=F5.blk;refine U42 ?_;refine U574 ?_;refine U82 ?_;refine U17 ?_;refine U296 ?_;refine U221 ?_;rintro _ w1 ⟨rfl,hw⟩;refine U10 ?_;refine U94 ?_;refine U609 ?_;refine U212 ?_;refine L.call (v9 rfl rfl rfl rfl rfl func75 rfl uu0 rfl) (fs0 (ys:=#[.p b2,.p b5]) func80 rfl Yp0 obj num 8 _ w (fun w'=>V0 w' b5 #[.i g,.bool l,.i x] 145/\w.grownBy w' (some b5)) (fun w1 V7=>(Mu0 b2 b5 cb obj num _ g l x _ _ _ w1 (hB2.j0 V7) (j3.j0 V7) (hC.j0 V7)).mono fun _ w' h=>⟨h.2.1,cr0 (bo0 (y9 _ _) V7) h.2.2⟩)) ?_;rintro _ w ⟨G0,hg⟩;have Y1:=F1.E5 j3 hg;have hb:=G4 hb hb.size hg lt5;have B1:=B1.other hg Cj0;have j3:=G0;refine U58 ?_;refine L.va (Q0 (cs:=[.i g,.bool l,.i x]) rfl underlying145 rfl af0 rfl (j3.B4 rfl)) ?_;refine L.pu 0 [.i g,.bool l,.i x] #[.i g,.bool l,.i x] af0 B1 (fun w G0 hg A2=>?_);refine U19 ?_;intro hb B1;refine ends.cell (cs:=#[.i g,.bool l,.i x]) (.inr rfl) rfl rfl underlying145 rfl af0 B1 ?_;exact⟨rfl,hb⟩
theorem Mw0 (cb wb:Nat) (obj num:Int) (g:Int) (l:Bool) (x:Int) (g2:Int) (l2:Bool) (x2:Int) (w0:World) (hC:V0 w0 cb #[.i obj,.i num,.p wb,.i g2,.bool l2,.i x2] 193) (hW:V0 w0 wb #[.bool false] 99) :
  C prog 48 #[.p cb,.pointer none,.agg #[.i g,.bool l,.i x]] w0 fun _ w=>V0 w cb #[.i obj,.i num,.p wb,.i g,.bool l,.i x] 193/\w0.grownBy w (some cb):=by
 refine C.enter (n:=26) func48 rfl rfl ?_;have N3:=y9 w0 (some cb);refine U0 ?_;refine L.box (cs:=#[.p cb]) rfl rfl (fun w b3 F3=>?_);have lt3:=F3.lq N3.size;have N3:=bo0 N3 F3.below;refine U263 ?_;intro hW hC;have C1:=F3.blk;refine L.box (cs:=#[.i g,.bool l,.i x]) rfl rfl (fun w b5 F5=>?_);have lt5:=F5.lq N3.size;have N3:=bo0 N3 F5.below;refine U76 ?_;intro hW hC;have C1:=C1.j0 F5.below;have j3:=F5.blk;refine U13 ?_;refine U502 ?_;refine U4 ?_;refine U297 ?_;refine U221 ?_;rintro _ w1 ⟨rfl,hw⟩;refine U10 ?_;refine U16 ?_;refine U610 ?_;refine U213 ?_;refine L.call (v9 rfl rfl rfl rfl rfl func75 rfl uu0 rfl) (fs0 (ys:=#[.p b5,.p b3]) func78 rfl Yo0 obj num 9 _ w (fun w'=>V0 w' cb #[.i obj,.i num,.p wb,.i g,.bool l,.i x] 193/\w.grownBy w' (some cb)) (fun w1 V7=>(Mv0 b5 b3 cb obj num _ g l x g2 l2 x2 w1 (j3.j0 V7) (C1.j0 V7) (hC.j0 V7)).mono fun _ w' h=>⟨h.2.1,cr0 (bo0 (y9 _ _) V7) h.2.2⟩)) ?_;rintro _ w ⟨G0,hg⟩;have Y1:=F1.E5 hC hg;have N3:=cr0 N3 hg;have hC:=G0;refine U48 ?_;refine B.nrm ?_;refine U44 ?_;exact⟨hC,N3⟩
theorem Wg0 (wb:Nat) (obj num:Int) (g:Int) (l:Bool) (x:Int) (w0:World) :
  C prog 50 #[.p wb,.i obj,.i num,.agg #[.i g,.bool l,.i x]] w0 fun v w=>∃cb,v= .p cb/\w0.heap.size <=cb/\V0 w cb #[.i obj,.i num,.p wb,.i g,.bool l,.i x] 193/\Below w0.heap.size w0 w:=by
 refine C.enter (n:=16) func50 rfl rfl ?_;refine U7 ?_;intro hb;refine L.box (cs:=#[.i g,.bool l,.i x]) rfl rfl (fun w b7 F7=>?_);have lt7:=F7.lq hb.size;have hb:=O0 hb F7.below;have hB7:=F7.blk;refine U9 ?_;refine U20 ?_;refine U531 ?_;refine L.va (Y3 rfl) ?_;refine L.va (Q0 (cs:=[.i g,.bool l,.i x]) rfl underlying145 rfl af0 rfl (hB7.B4 rfl)) ?_;refine L.va (Z1 (parts:=[(0,.tmp 11),(1,.tmp 12),(2,.tmp 13)]) rfl (Zt0 obj num ((some (⟨wb,0,none⟩))) g l x)) ?_;refine L.box (cs:=#[.i obj,.i num,.p wb,.i g,.bool l,.i x]) rfl rfl (fun w b15 F15=>?_);have Zu0:=F15.lq hb.size;have hb:=O0 hb F15.below;have Zv0:=F15.blk;refine U9 ?_;refine U33 ?_;exact⟨b15,rfl,Zu0,Zv0,hb⟩
end
theorem eg0 {w:World} {b:Nat} {cs:Array Value} {T:TypeId} {f:Nat×Nat} (h:X1 w b cs T f) (h0:0<cs.size):w.heap[b]? ≠some nothing:=by
 unfold X1 at h;rw[h];intro e;have e1:=Option.some.inj e;unfold nothing at e1;injection e1 with e2
 rw[e2]at h0;exact absurd h0 (Nat.lt_irrefl 0)
theorem vg0 {P:Program} {f:FuncId} {fn:Func} {caps:Array Value} (hf:P.funcs[f]? =some fn) (hb:fn.body.isSome=true) (hn:(fn.name== "runtime.NumGoroutine")=false):Qy0 P (.func (.func f) #[] caps) f caps:=⟨rfl,fn,hf,hb,hn⟩
structure op0 (w:World) (t:Nat):Prop where
 eq:gh w 0=t
theorem op0.V2 {w w':World} {t:Nat} {r:Option Nat} (h:op0 w t) (hg:w.grownBy w' r) (_:True):op0 w' t:=⟨(K3 hg.tape 0).trans h.eq⟩
structure KOk (K:N9 prog):Prop where
 loc:∀s m (w w':World) F,K.Inv s m w F->(∀b,F b->w'.heap[b]? =w.heap[b]?)->K.Inv s m w' F
 vis:∀s m (w:World) F,K.Inv s m w F->∀b,F b->b<w.heap.size/\w.heap[b]? ≠some nothing
 refl:∀a,K.gu a a
 step:K.lk0=97
 number:K.j7=53
theorem Sys.kok {Y:Sys} (h:of0 Y) {fb:Nat->FuncId} {q:PR Y} {w0:World} {i cb:Nat} {top:List Frame}:KOk (Y.cfg fb q w0 i cb top):=⟨h.loc,h.vis,fun a j _=>h.refl j a,rfl,rfl⟩
section
variable {K:N9 prog}{w0 w u u':World}{m:Gm}{F F':Nat->Prop}{l:K.L}{f:K.L ⊕ Nat}
theorem KOk.N0 (hK:KOk K) (h:K.Told w0 m F f) (ht:w.tape=w0.tape) (ho:w.os=w0.os) (hp:w.output=w0.output) (hk:∀b,F b->w.heap[b]? =w0.heap[b]?):K.Told w m F f :=
 ⟨by rw[K3 ht];exact h.on,by rw[K3 ht];exact h.W3,by rw[K3 ht,K3 ht];exact h.j2,hK.loc _ _ w0 w F (by rw[K3 ht];exact h.inv) hk,by rw[L7 ht];exact h.le,ho.trans h.os,hp.trans h.output⟩
theorem KOk.j0 (hK:KOk K) (h:K.Told w0 m F f) (hb:Below w0.heap.size w0 w):K.Told w m F f :=
 hK.N0 h hb.tape hb.os hb.output fun b hF=>hb.block b (hK.vis _ _ _ _ h.inv b hF).1
theorem KOk.tlt (hK:KOk K) (h:K.Told w0 m F f) {b:Nat} (hF:F b):b<w0.heap.size:=(hK.vis _ _ _ _ h.inv b hF).1
theorem cv0.down (hb:Below w0.heap.size w0 w) (h:K.cv0 w m F u F'):K.cv0 w0 m F u F' :=
 ⟨Nat.le_trans hb.size h.size,fun b D2 hn hF=>by
  have e:=hb.block b D2;have:=h.j0 b (Nat.lt_of_lt_of_le D2 hb.size) (by rw[e];exact hn) hF;exact⟨this.1.trans e,this.2⟩,h.inv,h.le,h.os.trans hb.os,h.output.trans hb.output⟩
theorem Goes.down (hb:Below w0.heap.size w0 w) (h:K.Goes w m F l u F'):K.Goes w0 m F l u F':=⟨cv0.down hb h.Z3,h.j2,h.on,h.out,h.rdy,h.at_⟩
theorem Goes.own (hK:KOk K) (h:K.Goes w0 m F l u F') (ht:u'.tape=u.tape) (ho:u'.os=u.os) (hp:u'.output=u.output) (hs:u.heap.size <=u'.heap.size) (hk:∀b,(b<w0.heap.size\/F' b)->b<u.heap.size->u'.heap[b]? =u.heap[b]?):K.Goes w0 m F l u' F':=by
 have hv:=hK.vis _ _ _ _ h.Z3.inv;refine⟨⟨Nat.le_trans h.Z3.size hs,fun b D2 hn hF=>?_,?_,?_,ho.trans h.Z3.os,hp.trans h.Z3.output⟩,?_,?_,?_,?_,?_⟩
 ·have:=h.Z3.j0 b D2 hn hF;exact⟨(hk b (.inl D2) (Nat.lt_of_lt_of_le D2 h.Z3.size)).trans this.1,this.2⟩
 ·rw[K3 ht,L7 ht];exact hK.loc _ _ u u' F' h.Z3.inv fun b hb=>hk b (.inr hb) (hv b hb).1
 ·rw[L7 ht];exact h.Z3.le
 ·rw[K3 ht];exact h.j2
 ·rw[K3 ht];exact h.on
 ·rw[K3 ht];exact h.out
 ·rw[K3 ht];exact h.rdy
 ·rw[K3 ht];exact h.at_
structure Gn (K:N9 prog) (w0:World) (m:Gm) (F:Nat->Prop) (l:K.L) (u:World) (F':Nat->Prop):Prop where
 ok:KOk K
 goes:K.Goes w0 m F l u F'
theorem Gn.flt (h:Gn K w0 m F l u F') {b:Nat} (hb:F' b):b<u.heap.size:=(h.ok.vis _ _ _ _ h.goes.Z3.inv b hb).1
theorem Gn.V2 (h:Gn K w0 m F l u F') {b:Nat} (hg:u.grownBy u' (some b)) (hn:w0.heap.size <=b/\¬F' b):Gn K w0 m F l u' F' :=
 ⟨h.ok,Goes.own h.ok h.goes hg.tape hg.os hg.output hg.size fun k hk hl=>hg.block k hl fun e=>by cases e;rcases hk with hk|hk;omega;exact hn.2 hk⟩
theorem Gn.down (hb:Below w0.heap.size w0 w) (h:Gn K w m F l u F'):Gn K w0 m F l u F':=⟨h.ok,Goes.down hb h.goes⟩
theorem Gn.aa0 (h:Gn K w0 m F l u F') {b:Nat} {cs:Array Value} {T:TypeId} (hB:V0 w0 b cs T) (h0:0<cs.size) (hF:¬F b):V0 u b cs T/\¬F' b:=by
 have hB':X1 w0 b cs T (0,0):=G3 hB;have:=h.goes.Z3.j0 b hB'.lt (eg0 hB' h0) hF;exact⟨this.1.trans hB',this.2⟩
theorem Goes.aa0 (h:K.Goes w0 m F l u F') {b:Nat} {cs:Array Value} {T:TypeId} (hB:V0 w0 b cs T) (h0:0<cs.size) (hF:¬F b):V0 u b cs T/\¬F' b:=by
 have hB':X1 w0 b cs T (0,0):=G3 hB;have:=h.Z3.j0 b hB'.lt (eg0 hB' h0) hF;exact⟨this.1.trans hB',this.2⟩
end
structure P8 (K:N9 prog) (w0 u:World):Prop where
 g2:gh u 2=1
 inv:∃F',K.Inv (K.R5 (gh u 0)) (gm u) u F'
 os:u.os=w0.os
 output:u.output=w0.output
theorem P8.at {K:N9 prog} {w0 w1 u:World} (h:P8 K w1 u) (ho:w1.os=w0.os) (hp:w1.output=w0.output):P8 K w0 u:=⟨h.g2,h.inv,h.os.trans ho,h.output.trans hp⟩
theorem sn0 {K:N9 prog} {w0 u:World} {m:Gm} {F F':Nat->Prop} (h:K.cv0 w0 m F u F') (h2:gh u 2=1):P8 K w0 u:=⟨h2,⟨F',h.inv⟩,h.os,h.output⟩
theorem P8.done {K:N9 prog} {w0 u:World} {ch:List PanicEntry} (hK:KOk K) (h:P8 K w0 u) (hr:z7 ch) (ho:w0.os=K.base.os) (hp:w0.output=K.base.output):∃F,K.Gi0 u F (.panicked ch):=by
 obtain⟨F',hi⟩:=h.inv;exact⟨F',hr,.inr ⟨h.g2,⟨gm u,hK.refl _,hi⟩,h.os.trans ho,h.output.trans hp⟩⟩
def X3 (K:N9 prog) (w0:World) (R:Value->World->Prop):Ending->World->Prop
 | .returned v,u=>R v u
 | .panicked ch,u=>z7 ch/\P8 K w0 u
 | .outgrown,_=>False
theorem Zw0 (x0:Int) (x1:Int) (x2:Int):prog.built 77 [(0,.i x0),(1,.i x1),(2,.i x2)]=some #[.i x0,.i x1,.i x2]:=by kernel_rfl
theorem mm0 {K:N9 prog} (hK:KOk K) {l:K.L} {m:Gm} {F:Nat->Prop} {o n ki:Int} {rd df:Value} (w0:World) (hT:K.Told w0 m F (.inl l)) (S4:K.stp l=⟨ki,o,n⟩) (hr:∀w,Below w0.heap.size w0 w->K.du0 w m F rd l) (_hrc:∃f caps,rd= .nilFunc\/rd= .func (.func f) #[] caps) (hdf:FnV prog df) (Rdo:World->World->Prop) (hdo:∀w,Below w0.heap.size w0 w->∀u F',K.Goes w m F l u F'->Gh0 prog K.S7 df u (Rdo u)) :
  @Calls prog (O1 K) 75 #[.agg #[.i o,.i n],.p K.ptr,.i ki,rd,df] w0 (X3 K w0 fun v u=>v= .tuple #[]/\∃u0 F',K.Goes w0 m F l u0 F'/\Rdo u0 u/\u.tape=u0.tape):=by
 letI:Ctx prog:=O1 K;refine Calls.ch0 (n:=20) func75 rfl rfl ?_;refine U7 ?_;intro hb;refine L.box (cs:=#[.i o,.i n]) rfl rfl (fun w b5 F5=>?_);refine U71 ?_;intro lt5 hb;have j3:=F5.blk;refine U1 ?_;refine U159 ?_;refine U494 ?_;refine U495 ?_;refine L.va (Z1 (parts:=[(0,.tmp 11),(1,.tmp 13),(2,.tmp 15)]) rfl (Zw0 ki o n)) ?_;refine U369 ?_;have hbL:=hb;refine L.Q6 rfl (bl0 rfl rfl rfl rfl func97 rfl eu1 rfl) (hK.step▸Gj0 (K:=K) (hK.j0 hT hb) (by rw[S4];rfl) (hr _ hb) hdf Rdo (hdo _ hb)) ?_ ?_ (fun _ h=>h)
 ·rintro v u ⟨rfl,u0,F',hg,hR,ht⟩;rename_i wL;refine U110 ?_;exact⟨rfl,u0,F',Goes.down hbL hg,hR,ht⟩
 ·rintro ch u ⟨hra,F',hl,h2⟩;exact⟨hra,(sn0 hl h2).at hbL.os hbL.output⟩
set_option maxHeartbeats 400000 in
theorem Es0 {K:N9 prog} (hK:KOk K) {lab:K.L} {m:Gm} {F:Nat->Prop} (cb wb:Nat) (obj num:Int) (pa:Nat->Option Addr) (pn:Nat->Nat) (pc:Nat->Nat) (qa:Option Addr) (qn:Nat) (qc:Nat) (w0:World) (hT:K.Told w0 m F (.inl lab)) (S4:K.stp lab=⟨8,obj,num⟩) (hrd:∀s,K.rdy lab s=true) (hW:V0 w0 wb #[.bool false] 99) (hC:V0 w0 cb #[.i obj,.i num,.p wb,.slice qa qn qc] 135) (hgo:∀u F',K.Goes w0 m F lab u F'->V0 u cb #[.i obj,.i num,.p wb,.slice (pa (gh u 0)) (pn (gh u 0)) (pc (gh u 0))] 135) :
  @Calls prog (O1 K) 45 #[.p cb,.p K.ptr] w0 (X3 K w0 fun v u=>∃F' tt,Gn K w0 m F lab u F'/\op0 u tt/\v= .slice (pa tt) (pn tt) (pc tt)):=by
 letI:Ctx prog:=O1 K;refine Calls.ch0 (n:=26) func45 rfl rfl ?_;refine U239 ?_;intro hb w b2 F2;refine U119 ?_;intro lt2 hb;refine U262 ?_;intro hW hC;have hB2:=F2.blk;refine U92 ?_;refine L.alloc (cs:=#[.slice none 0 0]) dw1 rfl (fun w b5 F5=>?_);refine U71 ?_;intro lt5 hb;refine U76 ?_;intro hW hC;have hB2:=hB2.j0 F5.below;have j3:=F5.blk;refine U42 ?_;refine U505 ?_;refine U26 ?_;refine U17 ?_;refine U298 ?_;refine U220 ?_;rintro _ w1 ⟨rfl,hw⟩;refine U10 ?_;refine U94 ?_;refine U611 ?_;refine U212 ?_;refine U249 ?_;intro hbL hF5;have hF2:¬F b2:=fun z=>by have:=hK.tlt hT z;omega
 have hpl:@Calls prog (O1 K) 75 #[.agg #[.i obj,.i num],.p K.ptr,.i 8,.nilFunc,.func (.func 76) #[] #[.p b2,.p b5]] w (X3 K w fun v u=>v= .tuple #[]/\∃u0 F',K.Goes w m F lab u0 F'/\(V0 u b5 #[.slice (pa (gh u0 0)) (pn (gh u0 0)) (pc (gh u0 0))] 23/\u0.grownBy u (some b5))/\u.tape=u0.tape):=by
  refine mm0 hK w (hK.j0 hT hb) S4 (fun w1 V7=>.inl ⟨rfl,hrd⟩) ⟨0,#[],.inl rfl⟩ (.inr ⟨76,_,vg0 func76 rfl Ym0⟩) (fun u u2=>V0 u2 b5 #[.slice (pa (gh u 0)) (pn (gh u 0)) (pc (gh u 0))] 23/\u.grownBy u2 (some b5)) (fun w1 V7 u F' hg=>.inr ⟨76,_,vg0 func76 rfl Ym0,?_⟩);exact @C.mono _ (S7 prog K.j7 K.ptr K.num) _ _ _ _ _ (@Ms0 (S7 prog K.j7 K.ptr K.num) b2 b5 cb obj num _ _ _ _ _ _ _ u (Goes.aa0 hg (hB2.j0 V7) (Nat.zero_lt_succ _) hF2).1 (Goes.aa0 hg (j3.j0 V7) (Nat.zero_lt_succ _) hF5).1 (hgo u F' (Goes.down (O0 hb V7) hg))) fun v w' h=>h.2
 refine L.Q6 rfl (v9 rfl rfl rfl rfl rfl func75 rfl uu0 rfl) hpl ?_ ?_ (fun _ h=>h)
 ·rintro v u ⟨rfl,u0,F',hg,⟨Cm0,N3⟩,ht⟩;refine U556 ?_;intro h5 p6;obtain⟨tt,htt⟩:∃tt,gh u0 0=tt:=⟨_,rfl⟩
  rw[htt]at Cm0;have htt:op0 u tt:=⟨(K3 ht 0).trans htt⟩
  have j3:=Cm0;clear hb Cm0 hB2 hC hpl;rename_i wL;clear hW;refine U59 ?_;refine L.va (B0 rfl underlying23 rfl (j3.q0 0 (v:=.slice (pa tt) (pn tt) (pc tt)) rfl)) ?_;refine U28 ?_;refine U33 ?_;exact⟨F',tt,p6,htt,rfl⟩
 ·rintro ch u ⟨hra,hh⟩;exact⟨hra,hh.at hbL.os hbL.output⟩
set_option maxHeartbeats 400000 in
theorem Et0 {K:N9 prog} (hK:KOk K) {lab:K.L} {m:Gm} {F:Nat->Prop} (cb wb:Nat) (obj num:Int) (pa:Option Addr) (pn:Nat) (pc:Nat) (qa:Option Addr) (qn:Nat) (qc:Nat) (w0:World) (hT:K.Told w0 m F (.inl lab)) (S4:K.stp lab=⟨9,obj,num⟩) (hrd:∀s,K.rdy lab s=true) (hW:V0 w0 wb #[.bool false] 99) (hC:V0 w0 cb #[.i obj,.i num,.p wb,.slice qa qn qc] 135) (hgo:∀u F',K.Goes w0 m F lab u F'->∃qa qn qc,V0 u cb #[.i obj,.i num,.p wb,.slice qa qn qc] 135) :
  @Calls prog (O1 K) 47 #[.p cb,.p K.ptr,.slice pa pn pc] w0 (X3 K w0 fun v u=>v= .tuple #[]/\∃u0 F',Gn K w0 m F lab u0 F'/\V0 u cb #[.i obj,.i num,.p wb,.slice pa pn pc] 135/\u0.grownBy u (some cb)):=by
 letI:Ctx prog:=O1 K;refine Calls.ch0 (n:=26) func47 rfl rfl ?_;refine U7 ?_;intro hb;refine L.box (cs:=#[.p cb]) rfl rfl (fun w b3 F3=>?_);refine U63 ?_;intro lt3 hb;refine U263 ?_;intro hW hC;have C1:=F3.blk;refine L.box (cs:=#[.slice pa pn pc]) rfl rfl (fun w b5 F5=>?_);refine U71 ?_;intro lt5 hb;refine U76 ?_;intro hW hC;have C1:=C1.j0 F5.below;have j3:=F5.blk;refine U13 ?_;refine U506 ?_;refine U4 ?_;refine U299 ?_;refine U220 ?_;rintro _ w1 ⟨rfl,hw⟩;refine U10 ?_;refine U16 ?_;refine U612 ?_;refine U213 ?_;refine U249 ?_;intro hbL hF5;have hF3:¬F b3:=fun z=>by have:=hK.tlt hT z;omega
 have hpl:@Calls prog (O1 K) 75 #[.agg #[.i obj,.i num],.p K.ptr,.i 9,.nilFunc,.func (.func 77) #[] #[.p b5,.p b3]] w (X3 K w fun v u=>v= .tuple #[]/\∃u0 F',K.Goes w m F lab u0 F'/\(V0 u cb #[.i obj,.i num,.p wb,.slice pa pn pc] 135/\u0.grownBy u (some cb))/\u.tape=u0.tape):=by
  refine mm0 hK w (hK.j0 hT hb) S4 (fun w1 V7=>.inl ⟨rfl,hrd⟩) ⟨0,#[],.inl rfl⟩ (.inr ⟨77,_,vg0 func77 rfl Yn0⟩) (fun u u2=>V0 u2 cb #[.i obj,.i num,.p wb,.slice pa pn pc] 135/\u.grownBy u2 (some cb)) (fun w1 V7 u F' hg=>.inr ⟨77,_,vg0 func77 rfl Yn0,?_⟩);obtain⟨y0,y1,y2,hCu⟩:=hgo u F' (Goes.down (O0 hb V7) hg);exact @C.mono _ (S7 prog K.j7 K.ptr K.num) _ _ _ _ _ (@Mt0 (S7 prog K.j7 K.ptr K.num) b5 b3 cb obj num _ pa pn pc _ _ _ u (Goes.aa0 hg (j3.j0 V7) (Nat.zero_lt_succ _) hF5).1 (Goes.aa0 hg (C1.j0 V7) (Nat.zero_lt_succ _) hF3).1 hCu) fun v w' h=>h.2
 refine L.Q6 rfl (v9 rfl rfl rfl rfl rfl func75 rfl uu0 rfl) hpl ?_ ?_ (fun _ h=>h)
 ·rintro v u ⟨rfl,u0,F',hg,⟨hCn,N3⟩,ht⟩;have X9:=Goes.down hbL hg;rename_i wL;refine U160 ?_;exact U647
 ·rintro ch u ⟨hra,hh⟩;exact⟨hra,hh.at hbL.os hbL.output⟩
set_option maxHeartbeats 400000 in
theorem Eu0 {K:N9 prog} (hK:KOk K) {lab:K.L} {m:Gm} {F:Nat->Prop} (cb wb:Nat) (obj num:Int) (g:Nat->Int) (l:Nat->Bool) (x:Nat->Int) (g2:Int) (l2:Bool) (x2:Int) (w0:World) (hT:K.Told w0 m F (.inl lab)) (S4:K.stp lab=⟨8,obj,num⟩) (hrd:∀s,K.rdy lab s=true) (hW:V0 w0 wb #[.bool false] 99) (hC:V0 w0 cb #[.i obj,.i num,.p wb,.i g2,.bool l2,.i x2] 193) (hgo:∀u F',K.Goes w0 m F lab u F'->V0 u cb #[.i obj,.i num,.p wb,.i (g (gh u 0)),.bool (l (gh u 0)),.i (x (gh u 0))] 193) :
  @Calls prog (O1 K) 51 #[.p cb,.p K.ptr] w0 (X3 K w0 fun v u=>∃F' tt,Gn K w0 m F lab u F'/\op0 u tt/\v= .agg #[.i (g tt),.bool (l tt),.i (x tt)]):=by
 letI:Ctx prog:=O1 K;refine Calls.ch0 (n:=26) func51 rfl rfl ?_;refine U239 ?_;intro hb w b2 F2;refine U119 ?_;intro lt2 hb;refine U262 ?_;intro hW hC;have hB2:=F2.blk;refine L.alloc (cs:=#[.i 0,.bool false,.i 0]) lm0 rfl (fun w b4 F4=>?_);refine U268 ?_;intro lt4 hb;have hW:=hW.j0 F4.below;have hC:=hC.j0 F4.below;have hB2:=hB2.j0 F4.below;have B1:=F4.blk;refine U59 ?_;refine L.alloc (cs:=#[.i 0,.bool false,.i 0]) lm0 rfl (fun w b5 F5=>?_);have lt5:=F5.lq hb.size;have Cj0:=F5.ne B1;have hb:=O0 hb F5.below;refine U76 ?_;intro hW hC;have hB2:=hB2.j0 F5.below;have B1:=B1.j0 F5.below;have j3:=F5.blk;refine U42 ?_;refine U574 ?_;refine U82 ?_;refine U17 ?_;refine U296 ?_;refine U221 ?_;rintro _ w1 ⟨rfl,hw⟩;refine U10 ?_;refine U94 ?_;refine U609 ?_;refine U212 ?_;refine U249 ?_;intro hbL hF5;have hF2:¬F b2:=fun z=>by have:=hK.tlt hT z;omega
 have hF4:¬F b4:=fun z=>by have:=hK.tlt hT z;omega
 have hpl:@Calls prog (O1 K) 75 #[.agg #[.i obj,.i num],.p K.ptr,.i 8,.nilFunc,.func (.func 80) #[] #[.p b2,.p b5]] w (X3 K w fun v u=>v= .tuple #[]/\∃u0 F',K.Goes w m F lab u0 F'/\(V0 u b5 #[.i (g (gh u0 0)),.bool (l (gh u0 0)),.i (x (gh u0 0))] 145/\u0.grownBy u (some b5))/\u.tape=u0.tape):=by
  refine mm0 hK w (hK.j0 hT hb) S4 (fun w1 V7=>.inl ⟨rfl,hrd⟩) ⟨0,#[],.inl rfl⟩ (.inr ⟨80,_,vg0 func80 rfl Yp0⟩) (fun u u2=>V0 u2 b5 #[.i (g (gh u 0)),.bool (l (gh u 0)),.i (x (gh u 0))] 145/\u.grownBy u2 (some b5)) (fun w1 V7 u F' hg=>.inr ⟨80,_,vg0 func80 rfl Yp0,?_⟩);exact @C.mono _ (S7 prog K.j7 K.ptr K.num) _ _ _ _ _ (@Mu0 (S7 prog K.j7 K.ptr K.num) b2 b5 cb obj num _ _ _ _ _ _ _ u (Goes.aa0 hg (hB2.j0 V7) (Nat.zero_lt_succ _) hF2).1 (Goes.aa0 hg (j3.j0 V7) (Nat.zero_lt_succ _) hF5).1 (hgo u F' (Goes.down (O0 hb V7) hg))) fun v w' h=>h.2
 refine L.Q6 rfl (v9 rfl rfl rfl rfl rfl func75 rfl uu0 rfl) hpl ?_ ?_ (fun _ h=>h)
 ·rintro v u ⟨rfl,u0,F',hg,⟨Cm0,N3⟩,ht⟩;refine U556 ?_;intro h5 p6;obtain⟨tt,htt⟩:∃tt,gh u0 0=tt:=⟨_,rfl⟩
  rw[htt]at Cm0;have htt:op0 u tt:=⟨(K3 ht 0).trans htt⟩
  obtain⟨ma1,h4⟩:=Goes.aa0 hg B1 (by decide) hF4;have B1:=ma1.other N3 Cj0;have j3:=Cm0;clear hb Cm0 hB2 hC hpl;rename_i wL;clear hW;refine U59 ?_;refine L.va (Q0 (cs:=[.i (g tt),.bool (l tt),.i (x tt)]) rfl underlying145 rfl af0 rfl (j3.B4 rfl)) ?_;refine L.pu 0 [.i (g tt),.bool (l tt),.i (x tt)] #[.i (g tt),.bool (l tt),.i (x tt)] af0 B1 (fun w G0 hg A2=>?_);have Y1:=F1.E5 B1 hg;have p6:=p6.V2 hg ⟨lt4,h4⟩;have htt:=htt.V2 hg trivial;have B1:=G0;refine U35 ?_;refine ends.cell (cs:=#[.i (g tt),.bool (l tt),.i (x tt)]) (.inr rfl) rfl rfl underlying145 rfl af0 B1 ?_;exact⟨F',tt,p6,htt,rfl⟩
 ·rintro ch u ⟨hra,hh⟩;exact⟨hra,hh.at hbL.os hbL.output⟩
set_option maxHeartbeats 400000 in
theorem so0 {K:N9 prog} (hK:KOk K) {lab:K.L} {m:Gm} {F:Nat->Prop} (cb wb:Nat) (obj num:Int) (g:Int) (l:Bool) (x:Int) (g2:Int) (l2:Bool) (x2:Int) (w0:World) (hT:K.Told w0 m F (.inl lab)) (S4:K.stp lab=⟨9,obj,num⟩) (hrd:∀s,K.rdy lab s=true) (hW:V0 w0 wb #[.bool false] 99) (hC:V0 w0 cb #[.i obj,.i num,.p wb,.i g2,.bool l2,.i x2] 193) (hgo:∀u F',K.Goes w0 m F lab u F'->∃g2 l2 x2,V0 u cb #[.i obj,.i num,.p wb,.i g2,.bool l2,.i x2] 193) :
  @Calls prog (O1 K) 48 #[.p cb,.p K.ptr,.agg #[.i g,.bool l,.i x]] w0 (X3 K w0 fun v u=>v= .tuple #[]/\∃u0 F',Gn K w0 m F lab u0 F'/\V0 u cb #[.i obj,.i num,.p wb,.i g,.bool l,.i x] 193/\u0.grownBy u (some cb)):=by
 letI:Ctx prog:=O1 K;refine Calls.ch0 (n:=26) func48 rfl rfl ?_;refine U7 ?_;intro hb;refine L.box (cs:=#[.p cb]) rfl rfl (fun w b3 F3=>?_);refine U63 ?_;intro lt3 hb;refine U263 ?_;intro hW hC;have C1:=F3.blk;refine L.box (cs:=#[.i g,.bool l,.i x]) rfl rfl (fun w b5 F5=>?_);refine U71 ?_;intro lt5 hb;refine U76 ?_;intro hW hC;have C1:=C1.j0 F5.below;have j3:=F5.blk;refine U13 ?_;refine U502 ?_;refine U4 ?_;refine U297 ?_;refine U221 ?_;rintro _ w1 ⟨rfl,hw⟩;refine U10 ?_;refine U16 ?_;refine U610 ?_;refine U213 ?_;refine U249 ?_;intro hbL hF5;have hF3:¬F b3:=fun z=>by have:=hK.tlt hT z;omega
 have hpl:@Calls prog (O1 K) 75 #[.agg #[.i obj,.i num],.p K.ptr,.i 9,.nilFunc,.func (.func 78) #[] #[.p b5,.p b3]] w (X3 K w fun v u=>v= .tuple #[]/\∃u0 F',K.Goes w m F lab u0 F'/\(V0 u cb #[.i obj,.i num,.p wb,.i g,.bool l,.i x] 193/\u0.grownBy u (some cb))/\u.tape=u0.tape):=by
  refine mm0 hK w (hK.j0 hT hb) S4 (fun w1 V7=>.inl ⟨rfl,hrd⟩) ⟨0,#[],.inl rfl⟩ (.inr ⟨78,_,vg0 func78 rfl Yo0⟩) (fun u u2=>V0 u2 cb #[.i obj,.i num,.p wb,.i g,.bool l,.i x] 193/\u.grownBy u2 (some cb)) (fun w1 V7 u F' hg=>.inr ⟨78,_,vg0 func78 rfl Yo0,?_⟩);obtain⟨y0,y1,y2,hCu⟩:=hgo u F' (Goes.down (O0 hb V7) hg);exact @C.mono _ (S7 prog K.j7 K.ptr K.num) _ _ _ _ _ (@Mv0 (S7 prog K.j7 K.ptr K.num) b5 b3 cb obj num _ g l x _ _ _ u (Goes.aa0 hg (j3.j0 V7) (Nat.zero_lt_succ _) hF5).1 (Goes.aa0 hg (C1.j0 V7) (Nat.zero_lt_succ _) hF3).1 hCu) fun v w' h=>h.2
 refine L.Q6 rfl (v9 rfl rfl rfl rfl rfl func75 rfl uu0 rfl) hpl ?_ ?_ (fun _ h=>h)
 ·rintro v u ⟨rfl,u0,F',hg,⟨hCn,N3⟩,ht⟩;have X9:=Goes.down hbL hg;rename_i wL;refine U160 ?_;exact U647
 ·rintro ch u ⟨hra,hh⟩;exact⟨hra,hh.at hbL.os hbL.output⟩
structure Nd where
 g:Int
 l:Bool
 v:Int
structure Hs where
 Y0:List Nd
 pool:List Int
structure L1 where
 at_:Nat
 num:Int
 rn:Int
 rg:Int
 val:Int
 seen:List Int
 tn:Int
 tg:Int
 e:Int
 x:Int
 ok:Bool
 gg:Int
def hc0:L1:=⟨0,0,0,0,0,[],0,0,0,0,false,0⟩
def ci0 (H:Hs) (num:Int):Bool:=decide (1 <=num)&&decide (num <=(H.Y0.length:Int))
def B7 (H:Hs) (num:Int):Nd:=(H.Y0[(num-1).toNat]?).getD ⟨0,false,0⟩
def V3 (H:Hs) (rn rg:Int):Int×Bool:=if ci0 H rn=true/\(B7 H rn).l=true/\(B7 H rn).g=rg then((B7 H rn).v,true) else(0,false)
def dw0 (v:Int):L1:={hc0 with at_:=1,val:=v}
def T9 (H:Hs) (rn rg:Int):L1:=if ci0 H rn then{hc0 with at_:=4,num:=rn,rn:=rn,rg:=rg} else hc0
def fe0 (H:Hs) (rn rg:Int):L1:=if ci0 H rn then{hc0 with at_:=8,num:=rn,rn:=rn,rg:=rg} else hc0
def Hs.set (H:Hs) (num:Int) (d:Nd):Hs:={H with Y0:=H.Y0.set (num-1).toNat d}
def W0 (most:Int) (H:Hs) (c:L1):Hs×L1 :=
 if c.at_=1 then
  match H.pool.getLast? with
  |some z=>(H,{c with at_:=2,num:=z,seen:=H.pool.dropLast})
  |none=>if(H.Y0.length:Int)<most then(H,{c with at_:=3,num:=(H.Y0.length:Int)+1}) else(H,{c with at_:=0,e:=5})
 else if c.at_=2 then({H with pool:=c.seen},{c with at_:=3,gg:=(B7 H c.num).g})
 else if c.at_=3 then
  if(H.Y0.length:Int)<c.num then({H with Y0:=H.Y0 ++ [⟨1,true,c.val⟩]},{c with at_:=0,tn:=c.num,tg:=1})
  else(H.set c.num ⟨(B7 H c.num).g,true,c.val⟩,{c with at_:=0,tn:=c.num,tg:=(B7 H c.num).g})
 else if c.at_=4 then if(V3 H c.rn c.rg).2 then(H,{c with at_:=5}) else(H,{c with at_:=0})
 else if c.at_=5 then(H.set c.num ⟨IntKind.i64.wrap (c.rg+1),false,0⟩,{c with at_:=6})
 else if c.at_=6 then(H,{c with at_:=7,seen:=H.pool})
 else if c.at_=7 then({H with pool:=c.seen ++ [c.num]},{c with at_:=0,ok:=true})
 else(H,{c with at_:=0,x:=(V3 H c.rn c.rg).1,ok:=(V3 H c.rn c.rg).2})
def D3 (obj:Int) (c:L1):Stp :=
 if c.at_=1\/c.at_=6 then⟨8,obj,0⟩ else if c.at_=2\/c.at_=7 then⟨9,obj,0⟩ else if c.at_=3\/c.at_=5 then⟨9,obj,c.num⟩ else⟨8,obj,c.num⟩
structure HJ (H:Hs) (c:L1):Prop where
 pl:∀x,x∈H.pool->1 <=x/\x <=(H.Y0.length:Int)
 a2:c.at_=2->H.pool=c.seen ++ [c.num]
 a3:c.at_=3->(c.num=(H.Y0.length:Int)+1)\/(1 <=c.num/\c.num <=(H.Y0.length:Int)/\(B7 H c.num).g=c.gg)
 a4:c.at_=4\/c.at_=5\/c.at_=6\/c.at_=7\/c.at_=8->1 <=c.num/\c.num <=(H.Y0.length:Int)/\c.num=c.rn
 a5:c.at_=5->(B7 H c.num).g=c.rg
 a7:c.at_=7->c.seen=H.pool
theorem Hs.o6 {H:Hs} {num:Int} {d:Nd}:(H.set num d).Y0.length=H.Y0.length:=List.length_set
theorem Mx0 {H:Hs} {num:Int} {d:Nd} (h1:1 <=num) (h2:num <=(H.Y0.length:Int)):B7 (H.set num d) num=d:=by
 unfold B7 Hs.set;rw[List.getElem?_set_self (by omega)];rfl
theorem ls0 {H:Hs} {num k:Int} {d:Nd} (h1:1 <=num) (h2:1 <=k) (C3:k≠num):B7 (H.set num d) k=B7 H k:=by
 unfold B7 Hs.set;rw[List.getElem?_set_ne (by omega)]
theorem Q8 {H:Hs} {num:Int}:ci0 H num=true↔1 <=num/\num <=(H.Y0.length:Int):=by simp[ci0]
theorem HJ.take {most:Int} {H:Hs} {c:L1} (h:HJ H c):HJ (W0 most H c).1 (W0 most H c).2:=by
 unfold W0;split
 ·split
  ·rename_i z hz;have na0:=List.mem_of_getLast? hz;exact⟨h.pl,(fun _=>by
    show H.pool=H.pool.dropLast ++ [z];obtain⟨ys,hys⟩:=List.getLast?_eq_some_iff.1 hz;rw[hys,List.dropLast_concat]),(fun z=>by cases z),(fun z=>by simp at z),(fun z=>by cases z),(fun z=>by cases z)⟩
  ·split
   ·exact⟨h.pl,(fun z=>by cases z),fun _=>.inl rfl,(fun z=>by simp at z),(fun z=>by cases z),(fun z=>by cases z)⟩
   ·exact⟨h.pl,(fun z=>by cases z),(fun z=>by cases z),(fun z=>by simp at z),(fun z=>by cases z),(fun z=>by cases z)⟩
 split
 ·rename_i _ h2;have hp:=h.a2 h2;have hn:1 <=c.num/\c.num <=(H.Y0.length:Int):=h.pl c.num (by rw[hp];simp);exact⟨fun x hx=>h.pl x (by rw[hp];exact List.mem_append_left _ hx),(fun z=>by cases z),fun _=>.inr ⟨hn.1,hn.2,rfl⟩,(fun z=>by simp at z),(fun z=>by cases z),(fun z=>by cases z)⟩
 split
 ·split
  ·refine⟨fun x hx=>?_,(fun z=>by cases z),(fun z=>by cases z),(fun z=>by simp at z),(fun z=>by cases z),(fun z=>by cases z)⟩;have:=h.pl x hx;show 1 <=x/\x <=((H.Y0 ++ [_]).length:Int);rw[List.length_append];simp;omega
  ·exact⟨fun x hx=>by rw[Hs.o6];exact h.pl x hx,(fun z=>by cases z),(fun z=>by cases z),(fun z=>by simp at z),(fun z=>by cases z),(fun z=>by cases z)⟩
 split
 ·rename_i _ _ _ h4;have ha:=h.a4 (.inl h4);split
  ·rename_i hl;refine⟨h.pl,(fun z=>by cases z),(fun z=>by cases z),fun _=>ha,fun _=>?_,(fun z=>by cases z)⟩;unfold V3 at hl;split at hl
   ·rename_i hh;rw[ha.2.2];exact hh.2.2
   ·cases hl
  ·exact⟨h.pl,(fun z=>by cases z),(fun z=>by cases z),(fun z=>by simp at z),(fun z=>by cases z),(fun z=>by cases z)⟩
 split
 ·rename_i _ _ _ _ h5;have ha:=h.a4 (.inr (.inl h5));exact⟨fun x hx=>by rw[Hs.o6];exact h.pl x hx,(fun z=>by cases z),(fun z=>by cases z),fun _=>by rw[Hs.o6];exact ha,(fun z=>by cases z),(fun z=>by cases z)⟩
 split
 ·rename_i _ _ _ _ _ h6;have ha:=h.a4 (.inr (.inr (.inl h6)));exact⟨h.pl,(fun z=>by cases z),(fun z=>by cases z),fun _=>ha,(fun z=>by cases z),fun _=>rfl⟩
 split
 ·rename_i _ _ _ _ _ _ h7;have ha:=h.a4 (.inr (.inr (.inr (.inl h7))));refine⟨fun x hx=>?_,(fun z=>by cases z),(fun z=>by cases z),(fun z=>by simp at z),(fun z=>by cases z),(fun z=>by cases z)⟩;have hx:x∈c.seen ++ [c.num]:=hx;rw[List.mem_append]at hx;rcases hx with hx|hx
  ·exact h.pl x (by rw[<- h.a7 h7];exact hx)
  ·simp at hx;rw[hx];exact⟨ha.1,ha.2.1⟩
 ·exact⟨h.pl,(fun z=>by cases z),(fun z=>by cases z),(fun z=>by simp at z),(fun z=>by cases z),(fun z=>by cases z)⟩
structure I5 where
 la:Option Addr
 lc:Nat
 lb:Nat
 pa:Option Addr
 pc:Nat
 X:Nat->Nat
def oa (k:Nat):Option Addr:=if k=0 then none else some ⟨k-1,0,none⟩
def oc:Option Addr->Nat
 |none=>0
 |some a=>a.block+1
def Canon (a:Option Addr):Prop:=∀x,a=some x->x=⟨x.block,0,none⟩
theorem Wh0 {a:Option Addr} (h:Canon a):oa (oc a)=a:=by
 cases a with
 |none=>rfl
 |some x=>unfold oa oc;rw[if_neg (Nat.succ_ne_zero _),Nat.add_sub_cancel,<- h x rfl]
def lay (m:Gm):I5:=⟨oa (m 0),m 2,m 4,oa (m 6),m 8,fun i=>m (12+2*i)⟩
def laid (m:Gm) (L:I5) (n:Nat):Gm:=fun j=>
 if j%2=1 then m j else if j=0 then oc L.la else if j=2 then L.lc else if j=4 then L.lb else if j=6 then oc L.pa else if j=8 then L.pc else if j=10 then n else L.X ((j-12)/2)
theorem de0 (m:Gm) (L:I5) (n j:Nat):laid m L n (2*j+1)=m (2*j+1):=by
 unfold laid;rw[if_pos (by omega)]
theorem sq0 (m:Gm) (L:I5) (n i:Nat):laid m L n (12+2*i)=L.X i:=by
 unfold laid;rw[if_neg (by omega),if_neg (by omega),if_neg (by omega),if_neg (by omega),if_neg (by omega),if_neg (by omega),if_neg (by omega)];congr 1;omega
theorem jk0 (m:Gm) {L:I5} (n:Nat) (h1:Canon L.la) (h2:Canon L.pa):lay (laid m L n)=L:=by
 obtain⟨la,lc,lb,pa,pc,X⟩:=L;have e1:(fun i=>laid m ⟨la,lc,lb,pa,pc,X⟩ n (12+2*i))=X:=funext fun i=>sq0 m _ n i;show I5.mk (oa (oc la)) lc lb (oa (oc pa)) pc (fun i=>laid m ⟨la,lc,lb,pa,pc,X⟩ n (12+2*i))=_;rw[e1,Wh0 h1,Wh0 h2]
def mb0 (X:Nat->Nat) (n:Nat):List Value:=(List.range n).map fun i=>.pointer (some ⟨X i,0,none⟩)
theorem My0 {X:Nat->Nat} {n i:Nat} (h:i<n):(mb0 X n)[i]? =some (.pointer (some ⟨X i,0,none⟩)):=by simp[mb0,h]
theorem Co0 {X X':Nat->Nat} {n:Nat} (h:∀i,i<n->X' i=X i):mb0 X' n=mb0 X n:=by
 unfold mb0;apply List.map_congr_left;intro i hi;rw[h i (by simpa using hi)]
theorem Hc0 (X:Nat->Nat) (n x:Nat):mb0 X n ++ [.p x]=mb0 (r6 X n x) (n+1):=by
 have h1:mb0 (r6 X n x) (n+1)=mb0 (r6 X n x) n ++ [.pointer (some ⟨r6 X n x n,0,none⟩)]:=by
  unfold mb0;rw[List.range_succ,List.map_append];rfl
 rw[h1,Z2,Co0 (X:=X) (X':=r6 X n x) fun i hi=>J3 (by omega)]
abbrev ndC (obj:Int) (i wb:Nat) (d:Nd):Array Value:=#[.i obj,.i ((i:Int)+1),.p wb,.i d.g,.bool d.l,.i d.v]
def o3 (H:Hs) (i:Nat):Nd:=(H.Y0[i]?).getD ⟨0,false,0⟩
structure N1 (w:World) (B:Nat) (pa:Option Addr) (pc:Nat) (pool:List Int):Prop where
 sl:SL pa pool.length
 canon:Canon pa
 nil:pa=none->pool.length=0/\pc=0
 le:pool.length <=pc
 bl:pa≠none->∃cs:Array Value,V0 w (ab pa) cs 3/\B <=ab pa/\∀(j:Nat) (z:Int),pool[j]? =some z->cs[j]? =some (Value.i z)
structure M3 (w:World) (B hp wb pb:Nat) (obj most:Int) (H:Hs) (L:I5):Prop where
 hH:V0 w hp #[.p wb,.i obj,.i most,.p pb,.p L.lb] 95
 hW:V0 w wb #[.bool false] 99
 hP:V0 w pb #[.i obj,.i 0,.p wb,.slice L.pa H.pool.length L.pc] 135
 hL:V0 w L.lb #[.slice L.la H.Y0.length L.lc] 97
 hO:Own w B 140 1 L.la H.Y0.length L.lc (mb0 L.X H.Y0.length)
 hX:∀i,i<H.Y0.length->V0 w (L.X i) (ndC obj i wb (o3 H i)) 193
 leX:∀i,i<H.Y0.length->B <=L.X i
 inj:∀i j,i<H.Y0.length->j<H.Y0.length->L.X i=L.X j->i=j
 I3:N1 w B L.pa L.pc H.pool
 lL:B <=L.lb
def HF (hp wb pb n:Nat) (L:I5) (b:Nat):Prop:=b=hp\/b=wb\/b=pb\/b=L.lb\/(L.la≠none/\b=ab L.la)\/(L.pa≠none/\b=ab L.pa)\/∃i,i<n/\b=L.X i
section
variable {w w':World}{B hp wb pb:Nat}{obj most:Int}{H:Hs}{L:I5}
theorem M3.congr (h:M3 w B hp wb pb obj most H L) (he:∀b,HF hp wb pb H.Y0.length L b->w'.heap[b]? =w.heap[b]?):M3 w' B hp wb pb obj most H L :=
 ⟨(he _ (.inl rfl)).trans h.hH,(he _ (.inr (.inl rfl))).trans h.hW,(he _ (.inr (.inr (.inl rfl)))).trans h.hP,(he _ (.inr (.inr (.inr (.inl rfl))))).trans h.hL,Own.congr h.hO fun ha=>he _ (.inr (.inr (.inr (.inr (.inl ⟨ha,rfl⟩))))),
  fun i hi=>(he _ (.inr (.inr (.inr (.inr (.inr (.inr ⟨i,hi,rfl⟩))))))).trans (h.hX i hi),h.leX,h.inj,
  ⟨h.I3.sl,h.I3.canon,h.I3.nil,h.I3.le,fun ha=>let⟨cs,h1,h2,h3⟩:=h.I3.bl ha;⟨cs,(he _ (.inr (.inr (.inr (.inr (.inr (.inl ⟨ha,rfl⟩))))))).trans h1,h2,h3⟩⟩,h.lL⟩
theorem k7 {b:Nat} {cs:Array Value} {T:TypeId} (h:V0 w b cs T) (hT:T≠0):b<w.heap.size/\w.heap[b]? ≠some nothing:=by
 refine⟨(G3 h).lt,fun e=>?_⟩;have h':w.heap[b]? =some (.cells cs T (0,0)):=h;rw[h']at e;have e1:=Option.some.inj e;unfold nothing at e1;injection e1 with _ e2
 exact hT e2
theorem M3.vis (h:M3 w B hp wb pb obj most H L) {b:Nat} (hb:HF hp wb pb H.Y0.length L b):b<w.heap.size/\w.heap[b]? ≠some nothing:=by
 rcases hb with rfl|rfl|rfl|rfl|⟨ha,rfl⟩|⟨ha,rfl⟩|⟨i,hi,rfl⟩
 ·exact k7 h.hH (by decide)
 ·exact k7 h.hW (by decide)
 ·exact k7 h.hP (by decide)
 ·exact k7 h.hL (by decide)
 ·obtain⟨cur,hc,_⟩:=h.hO.row ha;exact k7 hc (by decide)
 ·obtain⟨cs,h1,_⟩:=h.I3.bl ha;exact k7 h1 (by decide)
 ·exact k7 (h.hX i hi) (by decide)
theorem M3.j0 (h:M3 w B hp wb pb obj most H L) (hb:Below w.heap.size w w'):M3 w' B hp wb pb obj most H L:=h.congr fun b hF=>hb.block b (h.vis hF).1
theorem G6 {E:TypeId} {s n c:Nat} {a:Option Addr} {xs:List Value} (h:Own w B E s a n c xs):Canon a:=fun x hx=>by
 rcases h.2 with⟨hv,_⟩|⟨g,cap,cur,hv,_⟩
 ·cases hv;cases hx
 ·cases hv;cases hx;rfl
end
theorem exS:Extern.find Try.f44=some Extern.Atomic.storeT:=by kernel_rfl
theorem enS:Extern.findNext Try.f44=none:=by kernel_rfl
theorem exL:Extern.find Try.f79=some (Extern.Atomic.loadT .ptr):=by kernel_rfl
theorem enL:Extern.findNext Try.f79=none:=by kernel_rfl
theorem nzN:(prog.info? 97).map (fun i=>decide (i.size=0))=some false:=by kernel_rfl
section
variable [Ctx prog]
theorem vh0 (hp lb:Nat) (a b c d e f:Value) (w0:World) (hH:V0 w0 hp #[a,b,c,d,e] 95) (hL:V0 w0 lb #[f] 97) :
  C prog 21 #[.pointer (some ⟨hp,4,none⟩),.p lb] w0 fun _ w=>V0 w hp #[a,b,c,d,.p lb] 95/\w0.grownBy w (some hp):=by
 refine C.enter (n:=10) func21 rfl rfl ?_;refine U250 ?_;refine L.va (E0 rfl underlying93 rfl ec1 (by decide)) ?_;refine L.va (Y3 rfl) ?_;refine L.va (gs0 rfl underlying87 underlying91 nzN (hL.q0 0 (v:=f) rfl)) ?_;refine L.va (nf0 (u:=e) rfl rfl func44 ko1 rfl enS exS (hH.q0 4 rfl) hH.frozen rfl) ?_;refine U110 ?_;exact⟨hH.set (o:=4) (.p lb),pe0 w0 ⟨hp,4,none⟩ _⟩
theorem Ew0 (hp lb:Nat) (a b c d f:Value) (w0:World) (hH:V0 w0 hp #[a,b,c,d,.p lb] 95) (hL:V0 w0 lb #[f] 97) :
  C prog 49 #[.pointer (some ⟨hp,4,none⟩)] w0 fun v w=>v= .p lb/\w=w0:=by
 refine C.enter (n:=8) func49 rfl rfl ?_;refine U0 ?_;refine U9 ?_;refine U14 ?_;refine L.va (E0 rfl underlying93 rfl ec1 (by decide)) ?_;refine L.va (rt0 (p:=some ⟨lb,0,none⟩) rfl func79 la1 rfl enL exL (hH.q0 4 rfl) rfl) ?_;refine L.va (Ci0 rfl underlying91 underlying87 hL (by kernel_rfl) Kj0 (by decide) (Nat.le_refl 1)) ?_;refine U9 ?_;exact U118
theorem jl0 (B hp wb pb:Nat) (obj most:Int) (H:Hs) (Ly:I5) (w0:World) (hM:M3 w0 B hp wb pb obj most H Ly) (i:Nat) (hi:i<H.Y0.length) :
  C prog 46 #[.p hp,.i ((i:Int)+1)] w0 fun v w=>v= .pointer (some ⟨Ly.X i,0,none⟩)/\w=w0:=by
 refine C.enter (n:=25) func46 rfl rfl ?_;obtain⟨hH,hW,hP,hL,hO,hX,leX,gw1,I3,lL⟩:=hM;have hn:H.Y0.length <=9223372036854775807:=by
  rcases Nat.eq_zero_or_pos H.Y0.length with h0|h0
  ·omega
  ·obtain⟨cur,_,_,h1,h2,_⟩:=hO.row (hO.p8 h0);simp only[maxLen]at h2;omega
 refine U0 ?_;refine U9 ?_;refine U14 ?_;refine U135 ?_;rintro _ w1 ⟨rfl,hw⟩;refine U177 ?_;refine U28 ?_;refine U18 ?_;refine U145 ?_;refine L.g7 5 [14,15,16,17,18,19] 19 (.bool false) (tj:=14) rfl (fun Mz0=>?_) (fun Mz0=>?_) (fun f=>?_)
 ·exact absurd (of_decide_eq_true Mz0) (by omega)
 ·refine L.on rfl ?_;refine U27 ?_;refine U69 ?_;refine U632 ?_;refine U240 ?_;refine⟨rfl,congrArg Value.bool (decide_eq_false (by omega)),?_⟩;exact A0.upd rfl (A0.upd rfl (A0.upd rfl (A0.upd rfl (A0.upd rfl (A0.upd rfl (A0.refl _ _))))))
 refine U94 ?_;refine U56 ?_;refine L.va (kh0 rfl rfl (by omega)) ?_;rw[show((i:Int)+1-1)=(i:Int)by omega];refine L.va (u4 (i:=i) rfl rfl underlying97 Kn0 hO.sl hi) ?_;refine L.va (B0 (v:=.pointer (some (⟨Ly.X i,0,none⟩))) rfl underlying140 rfl (by rw[hO.off,Nat.zero_add,Nat.mul_one];exact hO.cell (My0 hi))) ?_;refine U9 ?_;exact U118
theorem qm0 (B hp wb pb:Nat) (obj most:Int) (H:Hs) (Ly:I5) (w0:World) (hM:M3 w0 B hp wb pb obj most H Ly) (z:Int) (hz:z<1\/(H.Y0.length:Int)<z) :
  C prog 46 #[.p hp,.i z] w0 fun v w=>v= .pointer none/\w=w0:=by
 refine C.enter (n:=25) func46 rfl rfl ?_;obtain⟨hH,hW,hP,hL,hO,hX,leX,gw1,I3,lL⟩:=hM;have hn:H.Y0.length <=9223372036854775807:=by
  rcases Nat.eq_zero_or_pos H.Y0.length with h0|h0
  ·omega
  ·obtain⟨cur,_,_,h1,h2,_⟩:=hO.row (hO.p8 h0);simp only[maxLen]at h2;omega
 refine U0 ?_;refine U9 ?_;refine U14 ?_;refine U135 ?_;rintro _ w1 ⟨rfl,hw⟩;refine U177 ?_;refine U28 ?_;refine U18 ?_;refine U145 ?_;refine L.g7 5 [14,15,16,17,18,19] 19 (.bool true) (tj:=14) rfl (fun Mz0=>?_) (fun Mz0=>?_) (fun f=>?_)
 ·refine L.off rfl ?_;refine U62 ?_;refine L.off rfl ?_;refine U55 ?_;refine⟨rfl,congrArg Value.bool rfl,?_⟩;exact A0.upd rfl (A0.upd rfl (A0.upd rfl (A0.upd rfl (A0.upd rfl (A0.upd rfl (A0.refl _ _))))))
 ·refine L.on rfl ?_;refine U27 ?_;refine U69 ?_;refine U632 ?_;refine U240 ?_;refine⟨rfl,congrArg Value.bool (decide_eq_true (by have:=of_decide_eq_false Mz0;omega)),?_⟩;exact A0.upd rfl (A0.upd rfl (A0.upd rfl (A0.upd rfl (A0.upd rfl (A0.upd rfl (A0.refl _ _))))))
 refine U87 ?_;refine U0 ?_;refine U9 ?_;exact U118
theorem sr0 (B hp wb pb:Nat) (obj most:Int) (H:Hs) (Ly:I5) (w0:World) (hM:M3 w0 B hp wb pb obj most H Ly) (i:Nat) (hi:i<H.Y0.length) :
  C prog 32 #[.p hp,.i ((i:Int)+1)] w0 fun v w=>v= .i (o3 H i).g/\Below w0.heap.size w0 w:=by
 refine C.enter (n:=16) func32 rfl rfl ?_;refine U7 ?_;intro hb;refine U116 ?_;refine U520 ?_;rintro _ w1 ⟨rfl,hw⟩;refine U178 ?_;refine U3 ?_;refine L.call (W1 rfl rfl func51 rfl Rg0 rfl) (Wf0 (Ly.X i) wb obj _ (o3 H i).g (o3 H i).l (o3 H i).v _ (hM.hX i hi) hM.hW) ?_;rintro _ w ⟨rfl,D1⟩;have hb:=O0 hb D1;refine L.va (ne0 (v:=.i (o3 H i).g) rfl underlying145 rfl (by kernel_rfl) rfl) ?_;refine U5 ?_;exact U31
theorem vi0 (B hp wb pb:Nat) (obj most:Int) (H:Hs) (Ly:I5) (w0:World) (hM:M3 w0 B hp wb pb obj most H Ly) (z:Int) (hz:z<1\/(H.Y0.length:Int)<z) :
  C prog 32 #[.p hp,.i z] w0 fun v w=>v= .i 0/\Below w0.heap.size w0 w:=by
 refine C.enter (n:=16) func32 rfl rfl ?_;refine U7 ?_;intro hb;refine U116 ?_;refine U112 ?_;refine L.call (W1 rfl rfl func46 rfl Gp0 rfl) (qm0 B hp wb pb obj most H Ly _ hM z hz) ?_;rintro _ w1 ⟨rfl,hw⟩;refine U393 ?_;refine U175 ?_;exact U31
end
structure bc0 (K:N9 prog) (B hp wb pb:Nat) (obj most:Int) where
 hs:K.S->Hs
 sH:K.S->Hs->K.S
 emb:L1->K.L
 rest:K.S->Gm->World->(Nat->Prop)->Prop
 kok:KOk K
 inv:∀s m w F,K.Inv s m w F↔∃FR:Nat->Prop,(F=fun b=>HF hp wb pb (hs s).Y0.length (lay m) b\/FR b)/\M3 w B hp wb pb obj most (hs s) (lay m)/\m 10=(hs s).Y0.length/\rest s m w FR/\∀b,HF hp wb pb (hs s).Y0.length (lay m) b->¬FR b
 vj0:∀s H,hs (sH s H)=H
 Ex0:∀s H m w FR,rest (sH s H) m w FR↔rest s m w FR
 Cr0:∀s m m' w FR,rest s m w FR->(∀j,m' (2*j+1)=m (2*j+1))->rest s m' w FR
 jm0:∀s m w w' FR,rest s m w FR->(∀b,FR b->w'.heap[b]? =w.heap[b]?)->rest s m w' FR
 jn0:∀s m w FR,rest s m w FR->∀b,FR b->b<w.heap.size
 stp:∀c,K.stp (emb c)=D3 obj c
 rdy:∀c s,K.rdy (emb c) s=true
 go:∀c s,(W0 most (hs s) c).2.at_≠0->K.go (emb c) s=⟨sH s (W0 most (hs s) c).1,[],.inl (emb (W0 most (hs s) c).2)⟩
 at_:∀t c,K.At t (emb c)->HJ (hs (K.R5 t)) c/\(hs (K.R5 t)).pool.length <=1000000
 le:∀a b,K.le a b->a 10 <=b 10/\∀j,j<a 10->b (12+2*j)=a (12+2*j)
structure jo0 {K:N9 prog} {B hp wb pb:Nat} {obj most:Int} (hI:bc0 K B hp wb pb obj most):Prop where
 le:∀a b,K.le a b->∀j,b (2*j)=a (2*j)
 gu:∀a b,(∀j,b (2*j+1)=a (2*j+1))->a 10 <=b 10->(∀j,j<a 10->b (12+2*j)=a (12+2*j))->K.gu a b
section
variable {w w':World}{B hp wb pb:Nat}{obj most:Int}{H:Hs}{L:I5}
theorem M3.setNode (h:M3 w B hp wb pb obj most H L) {i:Nat} {d:Nd} (hi:i<H.Y0.length) (hB:V0 w' (L.X i) (ndC obj i wb d) 193) (hg:w.grownBy w' (some (L.X i))):M3 w' B hp wb pb obj most (H.set ((i:Int)+1) d) L:=by
 have hXi:=h.hX i hi;have ho:∀{b:Nat} {cs:Array Value} {T:TypeId},V0 w b cs T->T≠193->V0 w' b cs T:=fun hb hT=>hb.other hg (V0.ne hb hXi hT);have e1:(H.set ((i:Int)+1) d).Y0=H.Y0.set i d:=by
  show H.Y0.set (((i:Int)+1)-1).toNat d=_;rw[show(((i:Int)+1)-1).toNat=i by omega]
 have e2:(H.set ((i:Int)+1) d).Y0.length=H.Y0.length:=Hs.o6;refine⟨ho h.hH (by decide),ho h.hW (by decide),ho h.hP (by decide),by rw[e2];exact ho h.hL (by decide),?_,fun j hj=>?_,by rw[e2];exact h.leX,by rw[e2];exact h.inj,⟨h.I3.sl,h.I3.canon,h.I3.nil,h.I3.le,fun ha=>?_⟩,h.lL⟩
 ·rw[e2];refine Own.congr h.hO fun ha=>?_;obtain⟨cur,hc,_⟩:=h.hO.row ha;exact hg.block _ (G3 hc).lt fun e=>V0.ne hc hXi (by decide) (Option.some.inj e)
 ·rw[e2]at hj;unfold o3;rw[e1];by_cases S2:j=i
  ·subst S2;rw[List.getElem?_set_self hj];exact hB
  ·rw[List.getElem?_set_ne (Ne.symm S2)];exact(h.hX j hj).other hg fun e=>S2 (h.inj j i hj hi e)
 ·obtain⟨cs,h1,h2,h3⟩:=h.I3.bl ha;exact⟨cs,ho h1 (by decide),h2,h3⟩
theorem N1.gx1 {B:Nat} {pa:Option Addr} {pc:Nat} {pool:List Int} (h:N1 w B pa pc pool) (hg:w.grownBy w' (some pb)) {cs:Array Value} (hP:V0 w pb cs 135):N1 w' B pa pc pool :=
 ⟨h.sl,h.canon,h.nil,h.le,fun ha=>let⟨c,h1,h2,h3⟩:=h.bl ha;⟨c,h1.other hg (V0.ne h1 hP (by decide)),h2,h3⟩⟩
theorem M3.mn0 (h:M3 w B hp wb pb obj most H L) {pa:Option Addr} {pc:Nat} {pool:List Int} (hB:V0 w' pb #[.i obj,.i 0,.p wb,.slice pa pool.length pc] 135) (hg:w.grownBy w' (some pb)) (I3:N1 w B pa pc pool):M3 w' B hp wb pb obj most {H with pool:=pool} {L with pa:=pa,pc:=pc}:=by
 have hP:=h.hP;have ho:∀{b:Nat} {cs:Array Value} {T:TypeId},V0 w b cs T->T≠135->V0 w' b cs T:=fun hb hT=>hb.other hg (V0.ne hb hP hT);refine⟨ho h.hH (by decide),ho h.hW (by decide),hB,ho h.hL (by decide),Own.congr h.hO fun ha=>?_,fun j hj=>ho (h.hX j hj) (by decide),h.leX,h.inj,I3.gx1 hg hP,h.lL⟩;obtain⟨cur,hc,_⟩:=h.hO.row ha;exact hg.block _ (G3 hc).lt fun e=>V0.ne hc hP (by decide) (Option.some.inj e)
end
section
variable {K:N9 prog}{B hp wb pb:Nat}{obj most:Int}
structure HGo (hI:bc0 K B hp wb pb obj most) (N:Nat) (w0:World) (F0:Nat->Prop) (u:World) (c:L1) (s:K.S) (H':Hs) (m':Gm) (FR:Nat->Prop):Prop where
 st:s=K.R5 (gh u 0)
 out:K.out (gh u 0)=K.go (hI.emb c) s
 at_:K.At (gh u 0) (hI.emb c)
 j2:gh u 1=0
 on:gh u 2=0
 hH:(W0 most (hI.hs s) c).1=H'
 mem:M3 u B hp wb pb obj most H' (lay m')
 n:m' 10=H'.Y0.length
 rest:hI.rest s m' u FR
 dis:∀b,HF hp wb pb H'.Y0.length (lay m') b->¬FR b
 gu:K.gu (gm u) m'
 os:u.os=w0.os
 output:u.output=w0.output
 size:w0.heap.size <=u.heap.size
 hN:N <=w0.heap.size
 kept:∀b,b<N->w0.heap[b]? ≠some nothing->¬F0 b->u.heap[b]? =w0.heap[b]?/\¬HF hp wb pb H'.Y0.length (lay m') b/\¬FR b
variable {hI:bc0 K B hp wb pb obj most}{w0 u u':World}{F0 FR F:Nat->Prop}{c:L1}{N:Nat}{s:K.S}{H':Hs}{m m':Gm}{l:K.L}
theorem HGo.own (h:HGo hI N w0 F0 u c s H' m' FR) (ht:u'.tape=u.tape) (ho:u'.os=u.os) (hp':u'.output=u.output) (A2:u.heap.size <=u'.heap.size)
  (hk:∀b,(b<N\/HF hp wb pb H'.Y0.length (lay m') b\/FR b)->b<u.heap.size->u'.heap[b]? =u.heap[b]?):HGo hI N w0 F0 u' c s H' m' FR:=by
 have e:=fun i=>K3 ht i;refine⟨by rw[e];exact h.st,by rw[e];exact h.out,by rw[e];exact h.at_,by rw[e];exact h.j2,by rw[e];exact h.on,h.hH,h.mem.congr fun b hb=>hk b (.inr (.inl hb)) (h.mem.vis hb).1,h.n,hI.jm0 _ _ u _ _ h.rest fun b hb=>hk b (.inr (.inr hb)) (hI.jn0 _ _ _ _ h.rest b hb),h.dis,by rw[L7 ht];exact h.gu,ho.trans h.os,hp'.trans h.output,Nat.le_trans h.size A2,h.hN,fun b hb hn hF=>?_⟩;have:=h.kept b hb hn hF;exact⟨(hk b (.inl hb) (Nat.lt_of_lt_of_le hb (Nat.le_trans h.hN h.size))).trans this.1,this.2⟩
theorem HGo.j0 (h:HGo hI N w0 F0 u c s H' m' FR) (hb:Below u.heap.size u u'):HGo hI N w0 F0 u' c s H' m' FR:=h.own hb.tape hb.os hb.output hb.size fun b _ hl=>hb.block b hl
theorem HGo.le {M:Nat} (h:HGo hI N w0 F0 u c s H' m' FR) (hM:M <=N):HGo hI M w0 F0 u c s H' m' FR :=
 ⟨h.st,h.out,h.at_,h.j2,h.on,h.hH,h.mem,h.n,h.rest,h.dis,h.gu,h.os,h.output,h.size,Nat.le_trans hM h.hN,fun b D2=>h.kept b (Nat.lt_of_lt_of_le D2 hM)⟩
theorem HGo.V2 (h:HGo hI N w0 F0 u c s H' m' FR) {b:Nat} (hg:u.grownBy u' (some b)) (hn:N <=b/\¬HF hp wb pb H'.Y0.length (lay m') b/\¬FR b):HGo hI N w0 F0 u' c s H' m' FR :=
 h.own hg.tape hg.os hg.output hg.size fun k hk hl=>hg.block k hl fun e=>by
  cases e;rcases hk with hk|hk|hk
  ·omega
  ·exact hn.2.1 hk
  ·exact hn.2.2 hk
theorem HGo.fresh (h:HGo hI N w0 F0 u c s H' m' FR) {b:Nat} (hb:u.heap.size <=b):N <=b/\¬HF hp wb pb H'.Y0.length (lay m') b/\¬FR b :=
 ⟨Nat.le_trans h.hN (Nat.le_trans h.size hb),fun z=>by have:=(h.mem.vis z).1;omega,fun z=>by have:=hI.jn0 _ _ _ _ h.rest b z;omega⟩
theorem HGo.N0 (h:HGo hI N w0 F0 u c s H' m' FR) (C3:(W0 most (hI.hs s) c).2.at_≠0) (ho:w0.os=K.base.os) (hp':w0.output=K.base.output):K.Told u m' (fun b=>HF hp wb pb H'.Y0.length (lay m') b\/FR b) (.inl (hI.emb (W0 most (hI.hs s) c).2)):=by
 have e:K.out (gh u 0)=⟨hI.sH s H',[],.inl (hI.emb (W0 most (hI.hs s) c).2)⟩:=by rw[h.out,hI.go c s C3,h.hH]
 refine⟨h.on,by rw[e],by rw[e,h.j2];rfl,?_,h.gu,h.os.trans ho,h.output.trans hp'⟩;rw[e];refine(hI.inv _ _ _ _).2 ⟨FR,?_,?_,?_,(hI.Ex0 _ _ _ _ _).2 h.rest,?_⟩
 ·show _=fun b=>HF hp wb pb (hI.hs (hI.sH s H')).Y0.length (lay m') b\/FR b;rw[hI.vj0]
 ·show M3 u B hp wb pb obj most (hI.hs (hI.sH s H')) (lay m');rw[hI.vj0];exact h.mem
 ·show m' 10=(hI.hs (hI.sH s H')).Y0.length;rw[hI.vj0];exact h.n
 ·intro b hb;have hb:HF hp wb pb (hI.hs (hI.sH s H')).Y0.length (lay m') b:=hb;rw[hI.vj0]at hb;exact h.dis b hb
theorem HGo.trans {u2:World} {c2:L1} {s2:K.S} {H2:Hs} {m2:Gm} {FR2:Nat->Prop} (h:HGo hI N w0 F0 u c s H' m' FR) (h2:HGo hI N u (fun b=>HF hp wb pb H'.Y0.length (lay m') b\/FR b) u2 c2 s2 H2 m2 FR2):HGo hI N w0 F0 u2 c2 s2 H2 m2 FR2 :=
 ⟨h2.st,h2.out,h2.at_,h2.j2,h2.on,h2.hH,h2.mem,h2.n,h2.rest,h2.dis,h2.gu,h2.os.trans h.os,h2.output.trans h.output,Nat.le_trans h.size h2.size,h.hN,fun b hb hn hF=>by
  have h3:=h.kept b hb hn hF;have h4:=h2.kept b hb (by rw[h3.1];exact hn) (fun z=>z.elim h3.2.1 h3.2.2);exact⟨h4.1.trans h3.1,h4.2⟩⟩
theorem Gn.open_ (h:Gn K w0 m F l u F0) (hI:bc0 K B hp wb pb obj most):∃FR:Nat->Prop,(F0=fun b=>HF hp wb pb (hI.hs (K.R5 (gh u 0))).Y0.length (lay (gm u)) b\/FR b)/\M3 u B hp wb pb obj most (hI.hs (K.R5 (gh u 0))) (lay (gm u))/\gm u 10=(hI.hs (K.R5 (gh u 0))).Y0.length/\hI.rest (K.R5 (gh u 0)) (gm u) u FR/\∀b,HF hp wb pb (hI.hs (K.R5 (gh u 0))).Y0.length (lay (gm u)) b->¬FR b :=
 (hI.inv _ _ _ _).1 h.goes.Z3.inv
theorem Goes.open_ (h:K.Goes w0 m F l u F0) (hI:bc0 K B hp wb pb obj most):∃FR:Nat->Prop,(F0=fun b=>HF hp wb pb (hI.hs (K.R5 (gh u 0))).Y0.length (lay (gm u)) b\/FR b)/\M3 u B hp wb pb obj most (hI.hs (K.R5 (gh u 0))) (lay (gm u))/\gm u 10=(hI.hs (K.R5 (gh u 0))).Y0.length/\hI.rest (K.R5 (gh u 0)) (gm u) u FR/\∀b,HF hp wb pb (hI.hs (K.R5 (gh u 0))).Y0.length (lay (gm u)) b->¬FR b :=
 (hI.inv _ _ _ _).1 h.Z3.inv
theorem Goes.X (h:K.Goes w0 m F l u F0) (hI:bc0 K B hp wb pb obj most) {i:Nat} (hi:i<m 10):(lay (gm u)).X i=(lay m).X i/\i<gm u 10:=by
 have:=hI.le _ _ h.Z3.le;exact⟨this.2 i hi,by omega⟩
theorem Gn.ends (h:Gn K w0 m F (hI.emb c) u F0) (hH:(W0 most (hI.hs (K.R5 (gh u 0))) c).1=hI.hs (K.R5 (gh u 0))) :
  ∃FR,(F0=fun b=>HF hp wb pb (hI.hs (K.R5 (gh u 0))).Y0.length (lay (gm u)) b\/FR b)/\HGo hI w0.heap.size w0 F u c (K.R5 (gh u 0)) (hI.hs (K.R5 (gh u 0))) (gm u) FR:=by
 obtain⟨FR,hF,hM,hn,hr,hd⟩:=h.open_ hI;refine⟨FR,hF,rfl,h.goes.out,h.goes.at_,h.goes.j2,h.goes.on,hH,hM,hn,hr,hd,h.ok.refl _,h.goes.Z3.os,h.goes.Z3.output,h.goes.Z3.size,Nat.le_refl _,fun b hb C3 hnF=>?_⟩;have:=h.goes.Z3.j0 b hb C3 hnF;refine⟨this.1,fun z=>this.2 ?_,fun z=>this.2 ?_⟩
 ·rw[hF];exact .inl z
 ·rw[hF];exact .inr z
theorem jo0.dx0 (hO:jo0 hI) {a b:Gm} (h:K.le a b):lay b=lay a:=by
 have e:=hO.le a b h;unfold lay;have e0:=e 0;have e1:=e 1;have e2:=e 2;have e3:=e 3;have e4:=e 4;simp only[Nat.mul_zero,Nat.mul_one]at e0 e1 e2 e3 e4;rw[e0,e1,e2,e3,e4];congr 1;funext i;have:=e (6+i);rw[show 12+2*i=2*(6+i)by omega];exact this
theorem Gn.wrote {u0:World} {F':Nat->Prop} (h:Gn K w0 m F (hI.emb c) u0 F') {b:Nat} (hg:u0.grownBy u (some b)) (hN:N <=w0.heap.size) (hH:(W0 most (hI.hs (K.R5 (gh u0 0))) c).1=H') (hM:M3 u B hp wb pb obj most H' (lay m')) (hn:m' 10=H'.Y0.length)
  (Zx0:∀j,m' (2*j+1)=gm u0 (2*j+1)) (hgu:K.gu (gm u0) m') (hb:¬(b<N/\¬F b)/\(F' b->HF hp wb pb (hI.hs (K.R5 (gh u0 0))).Y0.length (lay (gm u0)) b)) (hF:∀k,HF hp wb pb H'.Y0.length (lay m') k->HF hp wb pb (hI.hs (K.R5 (gh u0 0))).Y0.length (lay (gm u0)) k\/(¬F' k/\N <=k)) :
  ∃FR,(∀k,FR k->F' k)/\HGo hI N w0 F u c (K.R5 (gh u 0)) H' m' FR:=by
 obtain⟨FR,hFe,hM0,hn0,hr,hd⟩:=h.open_ hI;have e:=fun i=>K3 hg.tape i;have C3:∀k,FR k->k≠b:=fun k hk ek=>by
  subst ek;exact hd k (hb.2 (by rw[hFe];exact .inr hk)) hk
 refine⟨FR,fun k hk=>by rw[hFe];exact .inr hk,rfl,by rw[e];exact h.goes.out,by rw[e];exact h.goes.at_,by rw[e];exact h.goes.j2,by rw[e];exact h.goes.on,by rw[e];exact hH,hM,hn,?_,fun k hk hk2=>?_,by rw[L7 hg.tape];exact hgu,hg.os.trans h.goes.Z3.os,hg.output.trans h.goes.Z3.output,Nat.le_trans h.goes.Z3.size hg.size,hN,fun k hk C3 hnF=>?_⟩
 ·rw[e];exact hI.jm0 _ _ u0 _ _ (hI.Cr0 _ _ _ _ _ hr Zx0) fun k hk=>hg.block k (hI.jn0 _ _ _ _ hr k hk) fun ek=>C3 k hk (by cases ek;rfl)
 ·rcases hF k hk with z|z
  ·exact hd k z hk2
  ·exact z.1 (by rw[hFe];exact .inr hk2)
 ·have h1:=h.goes.Z3.j0 k (Nat.lt_of_lt_of_le hk hN) C3 hnF;have hkb:k≠b:=fun ek=>hb.1 ⟨ek▸hk,ek▸hnF⟩;refine⟨(hg.block k (Nat.lt_of_lt_of_le (Nat.lt_of_lt_of_le hk hN) h.goes.Z3.size) fun ek=>hkb (by cases ek;rfl)).trans h1.1,fun z=>?_,fun z=>h1.2 (by rw[hFe];exact .inr z)⟩;rcases hF k z with y|y
  ·exact h1.2 (by rw[hFe];exact .inl y)
  ·omega
end
theorem Sm0 {obj:Int} {c:L1} (h:c.at_=8) {z:Int} (hz:c.num=z):D3 obj c=⟨8,obj,z⟩:=by simp[D3,h,hz]
theorem al0 {most:Int} {H:Hs} {c:L1} (h:c.at_=8):W0 most H c=(H,{c with at_:=0,x:=(V3 H c.rn c.rg).1,ok:=(V3 H c.rn c.rg).2}):=by simp[W0,h]
theorem oq0 {H:Hs} {i:Nat}:B7 H ((i:Int)+1)=o3 H i:=by
 unfold B7 o3;rw[show(((i:Int)+1)-1).toNat=i by omega]
theorem by0 {H:Hs} {i:Nat} (hi:i<H.Y0.length) (g:Int):V3 H ((i:Int)+1) g=if(o3 H i).l=true/\(o3 H i).g=g then((o3 H i).v,true) else(0,false):=by
 unfold V3;rw[oq0,show ci0 H ((i:Int)+1)=true from Q8.2 (by omega)];simp
section
variable [Ctx prog]
theorem Na0 (B hp wb pb:Nat) (obj most:Int) (H:Hs) (Ly:I5) (w0:World) (hM:M3 w0 B hp wb pb obj most H Ly) (rn rg:Int) (hz:rn<1\/(H.Y0.length:Int)<rn) (cv:Option Addr) :
  C prog 23 #[.p hp,.pointer cv,.agg #[.i rn,.i rg]] w0 fun v w=>v= .tuple #[.i 0,.bool false]/\Below w0.heap.size w0 w:=by
 refine C.enter (n:=37) func23 rfl rfl ?_;refine U7 ?_;intro hb;refine L.box (cs:=#[.i rn,.i rg]) rfl rfl (fun w b5 F5=>?_);refine U171 ?_;intro lt5 hb hM;have j3:=F5.blk;refine U46 ?_;refine U0 ?_;refine U116 ?_;refine U621 ?_;refine U455 ?_;rintro _ w1 ⟨rfl,hw⟩;refine U393 ?_;refine U20 ?_;refine U93 ?_;exact⟨rfl,hb⟩
end
set_option maxHeartbeats 400000 in
theorem Zy0 {K:N9 prog} {B hp wb pb:Nat} {obj most:Int} (hI:bc0 K B hp wb pb obj most) {c:L1} (hc8:c.at_=8) (w0:World) {m:Gm} {F:Nat->Prop} (hT:K.Told w0 m F (.inl (hI.emb c))) (i:Nat) (hi:i<m 10) (hcn:c.num=(i:Int)+1) (hcr:c.rn=(i:Int)+1) :
  @Calls prog (O1 K) 23 #[.p hp,.p K.ptr,.agg #[.i ((i:Int)+1),.i c.rg]] w0 (X3 K w0 fun v u=>∃s m' FR,HGo hI w0.heap.size w0 F u c s (hI.hs s) m' FR/\v= .tuple #[.i (V3 (hI.hs s) c.rn c.rg).1,.bool (V3 (hI.hs s) c.rn c.rg).2]):=by
 letI:Ctx prog:=O1 K;refine Calls.ch0 (n:=37) func23 rfl rfl ?_;have hb:Below w0.heap.size w0 w0:=Below.refl _ _;obtain⟨FR0,hF0,hM,hn0,hr0,hd0⟩:=(hI.inv _ _ _ _).1 hT.inv;have F9:i<(hI.hs (K.out (gh w0 0)).s).Y0.length:=by rw[<- hn0];exact hi
 refine U0 ?_;refine L.box (cs:=#[.i ((i:Nat)+1),.i c.rg]) rfl rfl (fun w b5 F5=>?_);refine U171 ?_;intro lt5 hb hM;have j3:=F5.blk;refine U46 ?_;refine U0 ?_;refine U116 ?_;refine U3 ?_;refine U518 ?_;rintro _ w1 ⟨rfl,hw⟩;refine U178 ?_;refine U360 ?_;have hbL:=hb;have hF5:¬F b5:=fun z=>by have:=hI.kok.tlt hT z;omega
 have hgt:@Calls prog (O1 K) 51 #[.pointer (some ⟨(lay m).X i,0,none⟩),.p K.ptr] w (X3 K w fun v u=>∃F' tt,Gn K w m F (hI.emb c) u F'/\op0 u tt/\v= .agg #[.i ((o3 (hI.hs (K.R5 tt)) i).g),.bool ((o3 (hI.hs (K.R5 tt)) i).l),.i ((o3 (hI.hs (K.R5 tt)) i).v)]):=by
  refine Eu0 hI.kok (lab:=hI.emb c) ((lay m).X i) wb obj ((i:Int)+1) (fun tt=>(o3 (hI.hs (K.R5 tt)) i).g) (fun tt=>(o3 (hI.hs (K.R5 tt)) i).l) (fun tt=>(o3 (hI.hs (K.R5 tt)) i).v) _ _ _ w (hI.kok.j0 hT hb) ((hI.stp c).trans (Sm0 hc8 hcn)) (fun s=>hI.rdy c s) hM.hW (hM.hX i F9) (fun u F' hg=>?_);obtain⟨FR,_,hMu,hnu,_⟩:=Goes.open_ hg hI;obtain⟨e1,e2⟩:=Goes.X hg hI hi;have h9:=hMu.hX i (by rw[<- hnu];exact e2);rw[e1]at h9;exact h9
 refine L.Q6 rfl (W1 rfl rfl func51 rfl Rg0 rfl) hgt ?_ ?_ (fun _ h=>h)
 ·rintro v u ⟨F',tt,p6,htt,rfl⟩;have j3:=(Gn.aa0 p6 j3 (Nat.zero_lt_succ _) hF5)
  obtain⟨j3,h5⟩:=j3;have hnu:=(Goes.X p6.goes hI hi).2;obtain⟨FR,_,hE⟩:=Gn.ends (Gn.down hbL p6) (hI:=hI) (by rw[al0 hc8]);have hnl:=hE.n;rw[htt.eq]at hE hnl;generalize K.R5 tt=s at *;have hi2:i<(hI.hs s).Y0.length:=by rw[<- hnl];exact hnu
  clear hgt p6 htt hM hb hnl hnu hr0 hd0 hF0 hn0;obtain⟨m',hm'⟩:∃m',m'=gm u:=⟨_,rfl⟩
  rw[<- hm']at hE;clear hm';clear hbL F9;refine L.alloc (cs:=#[.i 0,.bool false,.i 0]) lm0 rfl (fun w b10 F10=>?_);have Hd0:=Nat.le_refl w.heap.size;have mb1:=hE.fresh (Nat.le_of_eq F10.here.symm);have hE:=hE.j0 F10.below;have j3:=j3.j0 F10.below;have T5:=F10.blk;refine L.pu 0 [.i ((o3 (hI.hs s) i).g),.bool ((o3 (hI.hs s) i).l),.i ((o3 (hI.hs s) i).v)] #[.i ((o3 (hI.hs s) i).g),.bool ((o3 (hI.hs s) i).l),.i ((o3 (hI.hs s) i).v)] af0 T5 (fun w G0 hg A2=>?_);have Y1:=F1.E5 T5 hg;have hE:=hE.V2 hg mb1;have j3:=j3.mod Y1 rfl;have T5:=G0;refine U11 ?_;refine U222 ?_;refine L.va (B0 rfl underlying4 rfl (T5.q0 1 (v:=.bool ((o3 (hI.hs s) i).l)) rfl)) ?_;refine U231 ?_;refine L.g7 6 [27,28,29,30,31,32,33] 33 (.bool (!decide ((o3 (hI.hs s) i).l=true/\(o3 (hI.hs s) i).g=c.rg))) (tj:=27) rfl (fun or0=>?_) (fun or0=>?_) (fun f=>?_)
  ·refine L.off rfl ?_;refine U165 ?_;refine⟨rfl,congrArg Value.bool (by simp only[Bool.not_eq_true']at or0;simp[or0]),?_⟩;exact A0.upd rfl (A0.upd rfl (A0.upd rfl (A0.upd rfl (A0.upd rfl (A0.upd rfl (A0.upd rfl (A0.refl _ _)))))))
  ·refine L.on rfl ?_;refine U215 ?_;refine L.va (B0 rfl underlying3 rfl (T5.q0 0 (v:=.i ((o3 (hI.hs s) i).g)) rfl)) ?_;refine U217 ?_;refine U545 ?_;refine U233 ?_;refine U25 ?_;refine⟨rfl,congrArg Value.bool (by simp only[Bool.not_eq_false']at or0;simp[or0]),?_⟩;exact A0.upd rfl (A0.upd rfl (A0.upd rfl (A0.upd rfl (A0.upd rfl (A0.upd rfl (A0.upd rfl (A0.refl _ _)))))))
  refine U1 ?_;refine W.cond rfl (fun h33=>?_) (fun h33=>?_)
  ·refine W.seq ?_;refine W.region rfl ?_;refine L.va (K2 rfl) ?_;refine U93 ?_;refine⟨s,m',FR,hE,?_⟩;rw[hcr,by0 hi2,if_neg (fun h9=>by simp[h9]at h33)];rfl
  ·refine W.skip ?_;show W _ _ _ _ _ _;refine U608 ?_;refine L.va (B0 rfl underlying2 rfl (T5.q0 2 (v:=.i ((o3 (hI.hs s) i).v)) rfl)) ?_;refine U93 ?_;refine⟨s,m',FR,hE,?_⟩;rw[hcr,by0 hi2,if_pos (by simpa using h33)];rfl
 ·rintro ch u ⟨hra,hh⟩;exact⟨hra,hh.at hbL.os hbL.output⟩
theorem ff0 {most:Int} {H:Hs} {c:L1} (h:c.at_=4) (hl:(V3 H c.rn c.rg).2=true):W0 most H c=(H,{c with at_:=5}):=by simp[W0,h,hl]
theorem fg0 {most:Int} {H:Hs} {c:L1} (h:c.at_=4) (hl:(V3 H c.rn c.rg).2=false):W0 most H c=(H,{c with at_:=0}):=by simp[W0,h,hl]
theorem Nb0 {most:Int} {H:Hs} {c:L1} (h:c.at_=4):(W0 most H c).1=H:=by
 unfold W0;simp only[h];simp;split <;> rfl
theorem jp0 {most:Int} {H:Hs} {c:L1} (h:c.at_=5):W0 most H c=(H.set c.num ⟨IntKind.i64.wrap (c.rg+1),false,0⟩,{c with at_:=6}):=by simp[W0,h]
theorem jq0 {most:Int} {H:Hs} {c:L1} (h:c.at_=6):W0 most H c=(H,{c with at_:=7,seen:=H.pool}):=by simp[W0,h]
theorem jr0 {most:Int} {H:Hs} {c:L1} (h:c.at_=7):W0 most H c=({H with pool:=c.seen ++ [c.num]},{c with at_:=0,ok:=true}):=by simp[W0,h]
theorem Sn0 {obj:Int} {c:L1} (h:c.at_=5):D3 obj c=⟨9,obj,c.num⟩:=by simp[D3,h]
theorem So0 {obj:Int} {c:L1} (h:c.at_=6):D3 obj c=⟨8,obj,0⟩:=by simp[D3,h]
theorem Sp0 {obj:Int} {c:L1} (h:c.at_=7):D3 obj c=⟨9,obj,0⟩:=by simp[D3,h]
theorem Sq0 {obj:Int} {c:L1} (h:c.at_=4):D3 obj c=⟨8,obj,c.num⟩:=by simp[D3,h]
theorem N1.cell {w:World} {B:Nat} {pa:Option Addr} {pc:Nat} {pool:List Int} (h:N1 w B pa pc pool) {j:Nat} (hj:j<pool.length):w.cell? ⟨ab pa,ao pa+j*1,none⟩=some (.i ((pool[j]?).getD 0)):=by
 have hsl:=h.sl (by omega);have ha:pa≠none:=by rw[hsl];simp
 obtain⟨cs,h1,h2,h3⟩:=h.bl ha;have ho:ao pa=0:=by
  cases hx:pa with
  |none=>rfl
  |some x=>rw[h.canon x hx];rfl
 rw[ho,Nat.zero_add,Nat.mul_one];refine h1.cell (h3 j _ ?_);rw[List.getElem?_eq_getElem hj];rfl
theorem N1.more {w:World} {B b:Nat} {pool:List Int} {z:Int} (hB:V0 w b (arr (pool.length+1) fun j=>if j=pool.length then .i z else if j<pool.length then .i ((pool[j]?).getD 0) else .i 0) 3) (hb:B <=b):N1 w B (pt b) (pool.length+1) (pool ++ [z]):=by
 have hl:(pool ++ [z]).length=pool.length+1:=by simp
 refine⟨fun _=>rfl,(fun x hx=>by cases hx;rfl),(fun h=>by cases h),by omega,fun _=>⟨_,hB,hb,fun j x hj=>?_⟩⟩;have hjl:j<pool.length+1:=by rw[<- hl];exact(List.getElem?_eq_some_iff.1 hj).1
 rw[P6 hjl];by_cases h1:j=pool.length
 ·subst h1;rw[if_pos rfl];simp at hj;rw[hj]
 ·rw[if_neg h1,if_pos (by omega)];rw[List.getElem?_append_left (by omega)]at hj;rw[hj];rfl
theorem Zz0 (x0:Int):prog.built 145 [(0,.i x0)]=some #[.i x0,.bool false,.i 0]:=by kernel_rfl
section
variable [Ctx prog]
theorem He0 (B hp wb pb:Nat) (obj most:Int) (H:Hs) (Ly:I5) (w0:World) (hM:M3 w0 B hp wb pb obj most H Ly) (rn rg:Int) (hz:rn<1\/(H.Y0.length:Int)<rn) (cv:Option Addr) :
  C prog 24 #[.p hp,.pointer cv,.agg #[.i rn,.i rg]] w0 fun v w=>v= .bool false/\Below w0.heap.size w0 w:=by
 refine C.enter (n:=65) func24 rfl rfl ?_;refine U7 ?_;intro hb;refine L.box (cs:=#[.i rn,.i rg]) rfl rfl (fun w b5 F5=>?_);refine U171 ?_;intro lt5 hb hM;have j3:=F5.blk;refine U12 ?_;refine U226 ?_;refine U621 ?_;refine U455 ?_;rintro _ w1 ⟨rfl,hw⟩;refine U393 ?_;refine U40 ?_;exact U31
end
set_option maxHeartbeats 2000000 in
theorem Sr0 {K:N9 prog} {B hp wb pb:Nat} {obj most:Int} (hI:bc0 K B hp wb pb obj most) (hO:jo0 hI) {c:L1} (hc4:c.at_=4) (hck:c.ok=false) (w0:World) (J5:B <=w0.heap.size) {m:Gm} {Fo:Nat->Prop} (hT:K.Told w0 m Fo (.inl (hI.emb c))) (i:Nat) (hi:i<m 10) (hcn:c.num=(i:Int)+1) (hcr:c.rn=(i:Int)+1) :
  @Calls prog (O1 K) 24 #[.p hp,.p K.ptr,.agg #[.i ((i:Int)+1),.i c.rg]] w0 (X3 K w0 fun v u=>∃c' s H' m' FR,HGo hI w0.heap.size w0 Fo u c' s H' m' FR/\(W0 most (hI.hs s) c').2.at_=0/\v= .bool (W0 most (hI.hs s) c').2.ok):=by
 letI:Ctx prog:=O1 K;refine Calls.ch0 (n:=65) func24 rfl rfl ?_;have hb:Below w0.heap.size w0 w0:=Below.refl _ _;obtain⟨FR0,hF0,hM,hn0,hr0,hd0⟩:=(hI.inv _ _ _ _).1 hT.inv;have F9:i<(hI.hs (K.out (gh w0 0)).s).Y0.length:=by rw[<- hn0];exact hi
 have hos:=hT.os;have W8:=hT.output;refine U0 ?_;refine L.box (cs:=#[.i ((i:Nat)+1),.i c.rg]) rfl rfl (fun w b5 F5=>?_);refine U171 ?_;intro lt5 hb hM;have j3:=F5.blk;refine U12 ?_;refine U226 ?_;refine U3 ?_;refine U518 ?_;rintro _ w1 ⟨rfl,hw⟩;refine U178 ?_;refine U360 ?_;have hbL:=hb;have hF5:¬Fo b5:=fun z=>by have:=hI.kok.tlt hT z;omega
 have hgt:@Calls prog (O1 K) 51 #[.pointer (some ⟨(lay m).X i,0,none⟩),.p K.ptr] w (X3 K w fun v u=>∃F' tt,Gn K w m Fo (hI.emb c) u F'/\op0 u tt/\v= .agg #[.i ((o3 (hI.hs (K.R5 tt)) i).g),.bool ((o3 (hI.hs (K.R5 tt)) i).l),.i ((o3 (hI.hs (K.R5 tt)) i).v)]):=by
  refine Eu0 hI.kok (lab:=hI.emb c) ((lay m).X i) wb obj ((i:Int)+1) (fun tt=>(o3 (hI.hs (K.R5 tt)) i).g) (fun tt=>(o3 (hI.hs (K.R5 tt)) i).l) (fun tt=>(o3 (hI.hs (K.R5 tt)) i).v) _ _ _ w (hI.kok.j0 hT hb) ((hI.stp c).trans ((Sq0 hc4).trans (by rw[hcn]))) (fun s=>hI.rdy c s) hM.hW (hM.hX i F9) (fun u F' hg=>?_);obtain⟨FR,_,hMu,hnu,_⟩:=Goes.open_ hg hI;obtain⟨e1,e2⟩:=Goes.X hg hI hi;have h9:=hMu.hX i (by rw[<- hnu];exact e2);rw[e1]at h9;exact h9
 refine L.Q6 rfl (W1 rfl rfl func51 rfl Rg0 rfl) hgt ?_ ?_ (fun _ h=>h)
 ·rintro v w ⟨F',tt,p6,htt,rfl⟩;obtain⟨j3,h5⟩:=(Gn.aa0 p6 j3 (Nat.zero_lt_succ _) hF5)
  have hnu:=(Goes.X p6.goes hI hi).2;have X7:=hO.dx0 p6.goes.Z3.le;obtain⟨FR,hFe,hE⟩:=Gn.ends (Gn.down hbL p6) (hI:=hI) (Nb0 hc4);have hn5:¬(HF hp wb pb (hI.hs (K.R5 (gh w 0))).Y0.length (lay (gm w)) b5\/FR b5):=fun z=>h5 (by rw[hFe];exact z);have hnl:=hE.n;rw[htt.eq]at hE hnl hn5;obtain⟨s,hs⟩:∃s,s=K.R5 tt:=⟨_,rfl⟩
  rw[<- hs]at hE hnl hn5;rw[<- hs];have hi1:i<(hI.hs s).Y0.length:=by rw[<- hnl];exact hnu
  obtain⟨m1,hm1⟩:∃m1,m1=gm w:=⟨_,rfl⟩
  rw[<- hm1]at hE X7 hn5;clear hFe hgt p6 htt hM hb hnl hnu hr0 hd0 hF0 hn0 hm1 hs hbL F9;refine L.alloc (cs:=#[.i 0,.bool false,.i 0]) lm0 rfl (fun w b8 F8=>?_);have lt8:=Nat.le_refl w.heap.size;have hn8:=hE.fresh (Nat.le_of_eq F8.here.symm);have hE:=hE.j0 F8.below;have j3:=j3.j0 F8.below;have hB8:=F8.blk;refine L.pu 0 [.i ((o3 (hI.hs s) i).g),.bool ((o3 (hI.hs s) i).l),.i ((o3 (hI.hs s) i).v)] #[.i ((o3 (hI.hs s) i).g),.bool ((o3 (hI.hs s) i).l),.i ((o3 (hI.hs s) i).v)] af0 hB8 (fun w G0 hg A2=>?_);have Y1:=F1.E5 hB8 hg;have hE:=hE.V2 hg hn8;have j3:=j3.mod Y1 rfl;have hB8:=G0;refine U11 ?_;refine U222 ?_;refine L.va (B0 rfl underlying4 rfl (hB8.q0 1 (v:=.bool ((o3 (hI.hs s) i).l)) rfl)) ?_;refine U231 ?_;refine L.g7 6 [25,26,27,28,29,30,31] 31 (.bool (!decide ((o3 (hI.hs s) i).l=true/\(o3 (hI.hs s) i).g=c.rg))) (tj:=25) rfl (fun vk0=>?_) (fun vk0=>?_) (fun f=>?_)
  ·refine L.off rfl ?_;refine U165 ?_;refine⟨rfl,congrArg Value.bool (by simp only[Bool.not_eq_true']at vk0;simp[vk0]),?_⟩;exact A0.upd rfl (A0.upd rfl (A0.upd rfl (A0.upd rfl (A0.upd rfl (A0.upd rfl (A0.upd rfl (A0.refl _ _)))))))
  ·refine L.on rfl ?_;refine U215 ?_;refine L.va (B0 rfl underlying3 rfl (hB8.q0 0 (v:=.i ((o3 (hI.hs s) i).g)) rfl)) ?_;refine U217 ?_;refine U545 ?_;refine U233 ?_;refine U25 ?_;refine⟨rfl,congrArg Value.bool (by simp only[Bool.not_eq_false']at vk0;simp[vk0]),?_⟩;exact A0.upd rfl (A0.upd rfl (A0.upd rfl (A0.upd rfl (A0.upd rfl (A0.upd rfl (A0.upd rfl (A0.refl _ _)))))))
  refine U1 ?_;refine W.cond rfl (fun h31=>?_) (fun h31=>?_)
  ·refine W.seq ?_;refine U382 ?_;have hlk:(V3 (hI.hs s) c.rn c.rg).2=false:=by rw[hcr,by0 hi1,if_neg (fun h9=>by simp[h9]at h31)]
   exact⟨c,s,_,m1,FR,hE,by rw[fg0 hc4 hlk],by rw[fg0 hc4 hlk];exact congrArg Value.bool hck.symm⟩
  ·refine W.skip ?_;show W _ _ _ _ _ _;refine U613 ?_;refine L.va (B0 rfl underlying3 rfl (hB8.q0 0 (v:=.i ((o3 (hI.hs s) i).g)) rfl)) ?_;refine L.va (ld0 (κ:=.i64) (m:=(o3 (hI.hs s) i).g) (k:=1) rfl rfl) ?_;refine L.va (Z1 (parts:=[(0,.tmp 36)]) rfl (Zz0 (IntKind.i64.wrap ((o3 (hI.hs s) i).g+1)))) ?_;obtain⟨hnl,hng⟩:(o3 (hI.hs s) i).l=true/\(o3 (hI.hs s) i).g=c.rg:=by simpa using h31
   have hlk:(V3 (hI.hs s) c.rn c.rg).2=true:=by rw[hcr,by0 hi1,if_pos ⟨hnl,hng⟩]
   have hT1:=hE.N0 (by rw[ff0 hc4 hlk];exact Nat.succ_ne_zero 4) hos W8;rw[ff0 hc4 hlk]at hT1;obtain⟨c1,hc1⟩:∃c1,c1={c with at_:=5}:=⟨_,rfl⟩
   have h15:c1.at_=5:=by rw[hc1]
   have h1n:c1.num=(i:Int)+1:=by rw[hc1];exact hcn
   have h1g:c1.rg=c.rg:=by rw[hc1]
   have hT1:K.Told w m1 (fun b=>HF hp wb pb (hI.hs s).Y0.length (lay m1) b\/FR b) (.inl (hI.emb c1)):=by rw[hc1];exact hT1
   have aa1:i<m1 10:=by rw[hE.n];exact hi1
   have hgt:@Calls prog (O1 K) 48 #[.pointer (some ⟨(lay m).X i,0,none⟩),.p K.ptr,.agg #[.i (IntKind.i64.wrap ((o3 (hI.hs s) i).g+1)),.bool false,.i 0]] w (X3 K w fun v u=>v= .tuple #[]/\∃u0 F',Gn K w m1 (fun b=>HF hp wb pb (hI.hs s).Y0.length (lay m1) b\/FR b) (hI.emb c1) u0 F'/\V0 u ((lay m).X i) (ndC obj i wb ⟨IntKind.i64.wrap ((o3 (hI.hs s) i).g+1),false,0⟩) 193/\u0.grownBy u (some ((lay m).X i))):=by
    have hX1:=hE.mem.hX i hi1;rw[X7]at hX1;refine so0 hI.kok (lab:=hI.emb c1) ((lay m).X i) wb obj ((i:Int)+1) _ false 0 _ _ _ w hT1 ((hI.stp _).trans ((Sn0 h15).trans (by rw[h1n]))) (fun s=>hI.rdy _ s) hE.mem.hW hX1 (fun u F' hg=>?_);obtain⟨FR,_,hMu,hnu,_⟩:=Goes.open_ hg hI;obtain⟨e1,e2⟩:=Goes.X hg hI aa1;have h9:=hMu.hX i (by rw[<- hnu];exact e2);rw[e1,X7]at h9;exact⟨_,_,_,h9⟩
   have vl0:¬(HF hp wb pb (hI.hs s).Y0.length (lay m1) b5\/FR b5):=hn5;have hX5:some b5≠some ((lay m).X i):=fun e=>vl0 (.inl (.inr (.inr (.inr (.inr (.inr (.inr ⟨i,hi1,by rw[X7];exact Option.some.inj e⟩)))))));refine L.Q6 rfl (n3 rfl rfl rfl func48 rfl Gq0 rfl) hgt ?_ ?_ (fun _ h=>h)
   ·rintro v w ⟨rfl,u0,F',p6,hCn,N3⟩;obtain⟨FRu,hFu,hMu,hnu,hru,hdu⟩:=p6.open_ hI;refine U532 ?_;intro hl2 hiu;rw[hl2]at hMu;have hMs:=hMu.setNode hiu hCn N3;have hwr:=Gn.wrote (N:=w0.heap.size) (m':=gm u0) (H':=(hI.hs (K.R5 (gh u0 0))).set ((i:Int)+1) ⟨IntKind.i64.wrap ((o3 (hI.hs s) i).g+1),false,0⟩) p6 N3 hE.size (by rw[jp0 h15,h1n,h1g,hng]) (by rw[hl2];exact hMs) (by rw[Hs.o6];exact hnu) (fun _=>rfl) (hI.kok.refl _) ⟨fun z=>z.2 (.inl (.inr (.inr (.inr (.inr (.inr (.inr ⟨i,hi1,by rw[X7]⟩))))))),fun _=>.inr (.inr (.inr (.inr (.inr (.inr ⟨i,hiu,by rw[hl2]⟩)))))⟩ (fun k hk=>.inl (by rw[Hs.o6]at hk;exact hk));obtain⟨FR2,Nc0,hE2⟩:=hwr;have h5:=(Gn.aa0 p6 j3 (Nat.zero_lt_succ _) vl0).2;have hn5:¬(HF hp wb pb ((hI.hs (K.R5 (gh u0 0))).set ((i:Int)+1) ⟨IntKind.i64.wrap ((o3 (hI.hs s) i).g+1),false,0⟩).Y0.length (lay (gm u0)) b5\/FR2 b5):=fun z=>z.elim (fun z=>h5 (by rw[hFu];exact .inl (by rw[Hs.o6]at z;exact z))) (fun z=>h5 (Nc0 _ z));have X9:gh w 0=gh u0 0:=K3 N3.tape 0;rw[X9]at hE2;have hE2:=hE.trans hE2;obtain⟨s1,hs1⟩:∃s1,s1=K.R5 (gh u0 0):=⟨_,rfl⟩
    rw[<- hs1]at hE2 hiu hn5;obtain⟨m2,hm2⟩:∃m2,m2=gm u0:=⟨_,rfl⟩
    rw[<- hm2]at hE2 hl2 hn5;have j3:V0 w b5 #[.i ((i:Int)+1),.i c.rg] 82:=(N3.block b5 (Gn.aa0 p6 j3 (Nat.zero_lt_succ _) vl0).1.lt hX5).trans (Gn.aa0 p6 j3 (Nat.zero_lt_succ _) vl0).1;clear hgt hE hT1 hMs hMu hCn N3 p6 X7 hnu hru hdu hFu X9 hs1 hm2;have hE:=hE2;have X7:=hl2;clear hE2 hl2 Nc0 h5 vl0;have hH:=hE.mem.hH;refine U1 ?_;refine U14 ?_;refine U245 ?_;have nw1:({c1 with at_:=6}:L1).at_=6:=rfl
    have hT2:=hE.N0 (by rw[jp0 h15];exact Nat.succ_ne_zero 5) hos W8;rw[jp0 h15]at hT2;obtain⟨c2,hc2⟩:∃c2,c2={c1 with at_:=6}:=⟨_,rfl⟩
    have h26:c2.at_=6:=by rw[hc2]
    have h2n:c2.num=(i:Int)+1:=by rw[hc2];exact h1n
    have hT2:K.Told w m2 (fun b=>HF hp wb pb ((hI.hs s1).set ((i:Int)+1) ⟨IntKind.i64.wrap ((o3 (hI.hs s) i).g+1),false,0⟩).Y0.length (lay m2) b\/FR2 b) (.inl (hI.emb c2)):=by rw[hc2];exact hT2
    have hP2:=hE.mem.hP;rw[X7]at hP2;have hgt:@Calls prog (O1 K) 45 #[.p pb,.p K.ptr] w (X3 K w fun v u=>∃F' tt,Gn K w m2 (fun b=>HF hp wb pb ((hI.hs s1).set ((i:Int)+1) ⟨IntKind.i64.wrap ((o3 (hI.hs s) i).g+1),false,0⟩).Y0.length (lay m2) b\/FR2 b) (hI.emb c2) u F'/\op0 u tt/\v= .slice (lay m).pa (hI.hs (K.R5 tt)).pool.length (lay m).pc):=by
     refine Es0 hI.kok (lab:=hI.emb c2) pb wb obj 0 (fun _=>(lay m).pa) (fun tt=>(hI.hs (K.R5 tt)).pool.length) (fun _=>(lay m).pc) _ _ _ w hT2 ((hI.stp _).trans (So0 h26)) (fun s=>hI.rdy _ s) hE.mem.hW hP2 (fun u F' hg=>?_);obtain⟨FR,_,hMu,hnu,_⟩:=Goes.open_ hg hI;have h9:=hMu.hP;rw[hO.dx0 hg.Z3.le,X7]at h9;exact h9
    have Ss0:i<m2 10:=by rw[hE.n,Hs.o6];exact hiu
    have vl0:¬((fun b=>HF hp wb pb ((hI.hs s1).set ((i:Int)+1) ⟨IntKind.i64.wrap ((o3 (hI.hs s) i).g+1),false,0⟩).Y0.length (lay m2) b\/FR2 b) b5):=fun z=>hn5 z;refine L.Q6 rfl (W1 rfl rfl func45 rfl Go0 rfl) hgt ?_ ?_ (fun _ h=>h)
    ·rintro v w ⟨F',tt,p6,htt,rfl⟩;obtain⟨j3,h5⟩:=(Gn.aa0 p6 j3 (Nat.zero_lt_succ _) vl0)
     have hnu:=(Goes.X p6.goes hI Ss0).2;have hl3:=(hO.dx0 p6.goes.Z3.le).trans X7;have qn0:=(hI.at_ _ _ p6.goes.at_).2;obtain⟨FR3,_,hE3⟩:=Gn.ends p6 (hI:=hI) (by rw[jq0 h26]);have hE3:=hE.trans (hE3.le hE.size);have hnl:=hE3.n;rw[htt.eq]at hE3 hnl qn0;obtain⟨s2,hs2⟩:∃s2,s2=K.R5 tt:=⟨_,rfl⟩
     rw[<- hs2]at hE3 hnl qn0;rw[<- hs2];have hi3:i<(hI.hs s2).Y0.length:=by rw[<- hnl];exact hnu
     obtain⟨m3,hm3⟩:∃m3,m3=gm w:=⟨_,rfl⟩
     rw[<- hm3]at hE3 hl3;clear hgt p6 htt hT2 hE hnl hnu hm3 hs2 X7 hP2 vl0;have hE:=hE3;have X7:=hl3;clear hE3 hl3;obtain⟨pn,hpn⟩:∃pn,(hI.hs s2).pool.length=pn:=⟨_,rfl⟩
     rw[hpn];rw[hpn]at qn0;have hH:=hE.mem.hH;refine U92 ?_;refine U41 ?_;refine U643 ?_;refine L.Dx0 (m:=pn) (c:=pn+1) rfl rfl underlying23 in3 rfl (by decide) (by omega) (by omega) (by omega) (fun w b50 F50=>?_);have Nd0:=hE.fresh (Nat.le_of_eq F50.here.symm);have mc1:=Nat.le_refl w.heap.size;have hE:=hE.j0 F50.below;have j3:=j3.j0 F50.below;have hH:=hH.j0 F50.below;have ac0:=F50.blk;rw[Nat.mul_one,Du0]at ac0;have ab1:B <=b50:=by have:=F50.here;have:=hE.size;omega
     refine U92 ?_;refine U106 ?_;have I3:=hE.mem.I3;rw[X7]at I3;refine L.copy (dl:=pn) (m:=pn) (g:=fun j=>.i (((hI.hs s2).pool[j]?).getD 0)) rfl rfl underlying23 c5 ac0 (Nat.le_refl _) (by omega) (hpn▸I3.sl) (fun h=>by rw[<- hpn];exact I3.nil h) (fun j hj=>I3.cell (by rw[hpn];exact hj)) (fun _ _=>rfl) (fun w G0 hg A2=>?_);have Y1:=F1.E5 ac0 hg;have hE:=hE.V2 hg Nd0;have j3:=j3.mod Y1 rfl;have hH:=hH.mod Y1 rfl;have ac0:=G0;refine U11 ?_;refine W.seq ?_;refine W.fl 10 [8,9] [0,1,2,3,4,5,6,7,8,9] (fun w'=>V0 w' hp #[.p wb,.i obj,.i most,.p pb,.pointer (some (⟨(lay m3).lb,0,none⟩))] 95/\V0 w' b5 #[.i ((i:Nat)+1),.i c.rg] 82) (by kernel_rfl) (by kernel_rfl) (by kernel_rfl) (by kernel_rfl) (by kernel_rfl) (⟨hH.j0 (Below.refl w.heap.size w).drew,j3.j0 (Below.refl w.heap.size w).drew⟩) ?_;refine U144 ?_;intro Y2 hE;have j3:=j3.j0 Y2;have hH:=hH.j0 Y2;have ac0:=ac0.j0 Y2;clear Y2;generalize w.drew=w at *;refine U24 ?_;refine U446 ?_;refine U539 ?_;refine U441 ?_;refine U580 ?_;intro w b62 F62;have md1:=Nat.le_refl w.heap.size;have hE:=hE.j0 F62.below;have j3:=j3.j0 F62.below;have hH:=hH.j0 F62.below;have ac0:=ac0.j0 F62.below;have St0:=F62.blk;refine L.nil ⟨rfl,⟨hH,j3⟩,?_⟩;refine F.A9 rfl rfl ?_;refine L.oo0 (k:=pn) (v:=.i ((i:Int)+1)) rfl rfl underlying23 c5 ac0 (St0.q0 0 rfl) rfl (Nat.le_refl _) (Nat.le_refl _) (fun w G0 hg A2=>?_);have Y1:=F1.E5 ac0 hg;have hE:=hE.V2 hg Nd0;have j3:=j3.mod Y1 rfl;have hH:=hH.mod Y1 rfl;have ac0:=G0;clear Y1;refine L.nil ⟨rfl,⟨hH,j3⟩,?_⟩;refine U15 ?_;have hT3:=hE.N0 (by rw[jq0 h26];exact Nat.succ_ne_zero 6) hos W8;rw[jq0 h26]at hT3;obtain⟨c3,hc3⟩:∃c3,c3={c2 with at_:=7,seen:=(hI.hs s2).pool}:=⟨_,rfl⟩
     have h37:c3.at_=7:=by rw[hc3]
     have h3n:c3.num=(i:Int)+1:=by rw[hc3];exact h2n
     have h3s:c3.seen=(hI.hs s2).pool:=by rw[hc3]
     have hT3:K.Told w m3 (fun b=>HF hp wb pb (hI.hs s2).Y0.length (lay m3) b\/FR3 b) (.inl (hI.emb c3)):=by rw[hc3];exact hT3
     have hP3:=hE.mem.hP;rw[X7]at hP3;have hgt:@Calls prog (O1 K) 47 #[.p pb,.p K.ptr,.slice (pt b50) (pn+1) (pn+1)] w (X3 K w fun v u=>v= .tuple #[]/\∃u0 F',Gn K w m3 (fun b=>HF hp wb pb (hI.hs s2).Y0.length (lay m3) b\/FR3 b) (hI.emb c3) u0 F'/\V0 u pb #[.i obj,.i 0,.p wb,.slice (pt b50) (pn+1) (pn+1)] 135/\u0.grownBy u (some pb)):=by
      refine Et0 hI.kok (lab:=hI.emb c3) pb wb obj 0 _ _ _ _ _ _ w hT3 ((hI.stp _).trans (Sp0 h37)) (fun s=>hI.rdy _ s) hE.mem.hW hP3 (fun u F' hg=>?_);obtain⟨FR,_,hMu,hnu,_⟩:=Goes.open_ hg hI;exact⟨_,_,_,hMu.hP⟩
     refine L.Q6 rfl (n3 rfl rfl rfl func47 rfl Rf0 rfl) hgt ?_ ?_ (fun _ h=>h)
     rotate_left
     ·rintro ch u ⟨hra,hh⟩;exact⟨hra,hh.at hE.os hE.output⟩
     rintro v w ⟨rfl,u0,F',p6,hCn,N3⟩;obtain⟨FRu,hFu,hMu,hnu,hru,hdu⟩:=p6.open_ hI;have hl4:=(hO.dx0 p6.goes.Z3.le).trans X7;obtain⟨gy1,mf1⟩:=Gn.aa0 p6 ac0 (by rw[D5];exact Nat.zero_lt_succ _) (fun z=>z.elim Nd0.2.1 Nd0.2.2);have hj7:=(hI.at_ _ _ p6.goes.at_).1.a7 h37;rw[h3s]at hj7;rw[hl4]at hMu;have hpm:=N1.more (pool:=(hI.hs s2).pool) (z:=(i:Int)+1) (by rw[hpn];exact V0.Ah0 gy1 (fun j hj=>by by_cases h1:j=pn <;> simp[h1])) ab1;rw[hpn]at hpm;have hMs:=hMu.mn0 (pa:=some ⟨b50,0,none⟩) (pc:=pn+1) (pool:=(hI.hs s2).pool ++ [(i:Int)+1]) (by rw[List.length_append,List.length_singleton,hpn];exact hCn) N3 hpm;have cj0:Canon (lay m).la:=G6 hMu.hO;obtain⟨m4,hm4⟩:∃m4,m4=laid (gm u0) {lay m with pa:=some ⟨b50,0,none⟩,pc:=pn+1} (hI.hs (K.R5 (gh u0 0))).Y0.length:=⟨_,rfl⟩
     have hl5:lay m4={lay m with pa:=some ⟨b50,0,none⟩,pc:=pn+1}:=by rw[hm4];exact jk0 _ _ cj0 (fun x hx=>by cases hx;rfl)
     have gz1:m4 10=(hI.hs (K.R5 (gh u0 0))).Y0.length:=by rw[hm4];rfl
     have hwr:=Gn.wrote (N:=w0.heap.size) (m':=m4) (H':={hI.hs (K.R5 (gh u0 0))with pool:=(hI.hs s2).pool ++ [(i:Int)+1]}) p6 N3 hE.size (by rw[jr0 h37,h3s,h3n]) (by rw[hl5];exact hMs) gz1 (fun j=>by rw[hm4,de0]) (hO.gu _ _ (fun j=>by rw[hm4,de0]) (by rw[gz1,hnu];exact Nat.le_refl _) (fun j hj=>by rw[hm4,sq0];exact congrFun (congrArg I5.X hl4.symm) j)) ⟨fun z=>z.2 (.inl (.inr (.inr (.inl rfl)))),fun _=>.inr (.inr (.inl rfl))⟩ (fun k hk=>?_)
     rotate_left
     ·rw[hl4];rw[hl5]at hk;rcases hk with z|z|z|z|z|z|z
      ·exact .inl (.inl z)
      ·exact .inl (.inr (.inl z))
      ·exact .inl (.inr (.inr (.inl z)))
      ·exact .inl (.inr (.inr (.inr (.inl z))))
      ·exact .inl (.inr (.inr (.inr (.inr (.inl z)))))
      ·exact .inr ⟨by rw[z.2];exact mf1,by rw[z.2];exact Nd0.1⟩
      ·exact .inl (.inr (.inr (.inr (.inr (.inr (.inr z))))))
     obtain⟨FR4,_,hE4⟩:=hwr;have hE4:=hE.trans hE4;clear hgt hE hT3 hMs hMu hCn N3 p6;refine U1 ?_;refine U40 ?_;refine U33 ?_;exact⟨c3,_,_,m4,FR4,hE4,by rw[jr0 h37],by rw[jr0 h37];rfl⟩
    ·rintro ch u ⟨hra,hh⟩;exact⟨hra,hh.at hE.os hE.output⟩
   ·rintro ch u ⟨hra,hh⟩;exact⟨hra,hh.at hE.os hE.output⟩
 ·rintro ch u ⟨hra,hh⟩;exact⟨hra,hh.at hbL.os hbL.output⟩
structure Chg (N:Nat) (u0:World) (S:Nat->Prop) (w:World):Prop where
 tape:w.tape=u0.tape
 os:w.os=u0.os
 output:w.output=u0.output
 size:u0.heap.size <=w.heap.size
 blk:∀k,k<u0.heap.size->¬S k->w.heap[k]? =u0.heap[k]?
section
variable {N:Nat}{u0 w w':World}{S:Nat->Prop}
theorem Chg.j0 (h:Chg N u0 S w) (hb:Below w.heap.size w w'):Chg N u0 S w':=⟨hb.tape.trans h.tape,hb.os.trans h.os,hb.output.trans h.output,Nat.le_trans h.size hb.size,fun k hk hS=>(hb.block k (Nat.lt_of_lt_of_le hk h.size)).trans (h.blk k hk hS)⟩
theorem Chg.V2 (h:Chg N u0 S w) {b:Nat} (hg:w.grownBy w' (some b)) (hS:b<u0.heap.size->S b):Chg N u0 S w' :=
 ⟨hg.tape.trans h.tape,hg.os.trans h.os,hg.output.trans h.output,Nat.le_trans h.size hg.size,fun k hk hSk=>(hg.block k (Nat.lt_of_lt_of_le hk h.size) fun e=>hSk (by cases e;exact hS hk)).trans (h.blk k hk hSk)⟩
theorem Chg.app (h:Chg N u0 S w) {a:Option Addr} {n c:Nat} (hg:w.grownBy w' (Value.ownBlock (.slice a n c))) (hS:a≠none->S (ab a)):Chg N u0 S w':=by
 cases a with
 |none=>exact⟨hg.tape.trans h.tape,hg.os.trans h.os,hg.output.trans h.output,Nat.le_trans h.size hg.size,fun k hk hSk=>(hg.block k (Nat.lt_of_lt_of_le hk h.size) (by simp[Value.ownBlock])).trans (h.blk k hk hSk)⟩
 |some x=>exact h.V2 hg fun _=>hS (by simp)
end
structure fh0 (w:World) (B wb pb:Nat) (obj:Int) (H:Hs) (L:I5):Prop where
 hW:V0 w wb #[.bool false] 99
 hP:V0 w pb #[.i obj,.i 0,.p wb,.slice L.pa H.pool.length L.pc] 135
 hX:∀i,i<H.Y0.length->V0 w (L.X i) (ndC obj i wb (o3 H i)) 193
 leX:∀i,i<H.Y0.length->B <=L.X i
 inj:∀i j,i<H.Y0.length->j<H.Y0.length->L.X i=L.X j->i=j
 I3:N1 w B L.pa L.pc H.pool
section
variable {w w':World}{B hp wb pb:Nat}{obj most:Int}{H:Hs}{L:I5}
theorem M3.but (h:M3 w B hp wb pb obj most H L):fh0 w B wb pb obj H L:=⟨h.hW,h.hP,h.hX,h.leX,h.inj,h.I3⟩
theorem fh0.to (h:fh0 w B wb pb obj H L) (ho:∀{b:Nat} {cs:Array Value} {T:TypeId},V0 w b cs T->T=99\/T=135\/T=193\/T=3->V0 w' b cs T):fh0 w' B wb pb obj H L :=
 ⟨ho h.hW (.inl rfl),ho h.hP (.inr (.inl rfl)),fun i hi=>ho (h.hX i hi) (.inr (.inr (.inl rfl))),h.leX,h.inj,⟨h.I3.sl,h.I3.canon,h.I3.nil,h.I3.le,fun ha=>let⟨cs,h1,h2,h3⟩:=h.I3.bl ha;⟨cs,ho h1 (.inr (.inr (.inr rfl))),h2,h3⟩⟩⟩
theorem fh0.j0 (h:fh0 w B wb pb obj H L) (hb:Below w.heap.size w w'):fh0 w' B wb pb obj H L:=h.to fun hB _=>hB.j0 hb
theorem fh0.mod (h:fh0 w B wb pb obj H L) {B':Nat} {TS:List TypeId} (hm:F1 w w' B' TS) (hT:(([99,135,193,3]:List TypeId).all fun t=>!TS.contains t)=true):fh0 w' B wb pb obj H L:=by
 have c:∀t,t∈[99,135,193,3]->TS.contains t=false:=fun t ht=>by
  have:=List.all_eq_true.1 hT t ht;simpa using this
 exact h.to fun hB ht=>hB.mod hm (by
  rcases ht with rfl|rfl|rfl|rfl
  ·exact c _ (by simp)
  ·exact c _ (by simp)
  ·exact c _ (by simp)
  ·exact c _ (by simp))
theorem V0.app {b:Nat} {cs:Array Value} {T E:TypeId} {a:Option Addr} {n c s:Nat} {xs:List Value} (hB:V0 w b cs T) (hO:Own w B E s a n c xs) (hg:w.grownBy w' (Value.ownBlock (.slice a n c))) (hT:T≠E):V0 w' b cs T:=by
 refine hB.grown hg ?_;cases a with
 |none=>simp[Value.ownBlock]
 |some x=>
  obtain⟨cur,hc,_⟩:=hO.row (by simp);intro e;exact V0.ne hB hc hT (Option.some.inj e)
theorem fh0.app (h:fh0 w B wb pb obj H L) {a:Option Addr} {n c s:Nat} {xs:List Value} (hO:Own w B 140 s a n c xs) (hg:w.grownBy w' (Value.ownBlock (.slice a n c))):fh0 w' B wb pb obj H L:=h.to fun hB ht=>V0.app hB hO hg (by rcases ht with rfl|rfl|rfl|rfl <;> decide)
theorem M3.mg1 (h:M3 w B hp wb pb obj most H L) {b:Nat} {cs:Array Value} {T:TypeId} (hB:V0 w b cs T) (hT:T≠95/\T≠99/\T≠135/\T≠97/\T≠140/\T≠3/\T≠193):¬HF hp wb pb H.Y0.length L b:=by
 obtain⟨t1,t2,t3,t4,t5,t6,t7⟩:=hT;rintro(z|z|z|z|⟨ha,z⟩|⟨ha,z⟩|⟨i,hi,z⟩)
 ·exact V0.ne hB h.hH t1 z
 ·exact V0.ne hB h.hW t2 z
 ·exact V0.ne hB h.hP t3 z
 ·exact V0.ne hB h.hL t4 z
 ·obtain⟨cur,hc,_⟩:=h.hO.row ha;exact V0.ne hB hc t5 z
 ·obtain⟨cur,hc,_⟩:=h.I3.bl ha;exact V0.ne hB hc t6 z
 ·exact V0.ne hB (h.hX i hi) t7 z
theorem fh0.more (h:fh0 w B wb pb obj H L) {lb lc xb:Nat} {la:Option Addr} {d:Nd} (hH:V0 w hp #[.p wb,.i obj,.i most,.p pb,.p lb] 95) (hL:V0 w lb #[.slice la (H.Y0.length+1) lc] 97)
  (hO:Own w B 140 1 la (H.Y0.length+1) lc (mb0 L.X H.Y0.length ++ [.p xb])) (hX:V0 w xb (ndC obj H.Y0.length wb d) 193) (lX:B <=xb) (lL:B <=lb) (C3:∀i,i<H.Y0.length->L.X i≠xb) :
  M3 w B hp wb pb obj most {H with Y0:=H.Y0 ++ [d]} ⟨la,lc,lb,L.pa,L.pc,r6 L.X H.Y0.length xb⟩:=by
 have e:(H.Y0 ++ [d]).length=H.Y0.length+1:=by simp
 refine⟨hH,h.hW,h.hP,by rw[e];exact hL,by rw[e];rw[Hc0]at hO;exact hO,fun i hi=>?_,fun i hi=>?_,fun i j hi hj hij=>?_,h.I3,lL⟩
 ·have hi:i<(H.Y0 ++ [d]).length:=hi;rw[e]at hi;show V0 w (r6 L.X H.Y0.length xb i) (ndC obj i wb (((H.Y0 ++ [d])[i]?).getD ⟨0,false,0⟩)) _;by_cases hn:i=H.Y0.length
  ·subst hn;rw[Z2];simpa using hX
  ·rw[J3 hn,List.getElem?_append_left (by omega)];exact h.hX i (by omega)
 ·have hi:i<(H.Y0 ++ [d]).length:=hi;rw[e]at hi;show B <=r6 L.X H.Y0.length xb i;by_cases hn:i=H.Y0.length
  ·subst hn;rw[Z2];exact lX
  ·rw[J3 hn];exact h.leX i (by omega)
 ·have hi:i<(H.Y0 ++ [d]).length:=hi;have hj:j<(H.Y0 ++ [d]).length:=hj;rw[e]at hi hj;have hij:r6 L.X H.Y0.length xb i=r6 L.X H.Y0.length xb j:=hij;by_cases h1:i=H.Y0.length <;> by_cases h2:j=H.Y0.length
  ·rw[h1,h2]
  ·rw[h1,Z2,J3 h2]at hij;exact absurd hij.symm (C3 j (by omega))
  ·rw[h2,Z2,J3 h1]at hij;exact absurd hij (C3 i (by omega))
  ·rw[J3 h1,J3 h2]at hij;exact h.inj i j (by omega) (by omega) hij
theorem N1.pre {pa:Option Addr} {pc z:Nat} {p0 pool:List Int} {zz:Int} (h:N1 w B pa pc pool) (hp0:pool=p0 ++ [zz]) (hz:z=p0.length):N1 w B pa z p0:=by
 subst hz;have hl:pool.length=p0.length+1:=by rw[hp0];simp
 refine⟨h.sl.le (by omega),h.canon,fun ha=>?_,Nat.le_refl _,fun ha=>?_⟩
 ·have:=h.nil ha;omega
 ·obtain⟨cs,h1,h2,h3⟩:=h.bl ha;exact⟨cs,h1,h2,fun j x hj=>h3 j x (by rw[hp0,List.getElem?_append_left (List.getElem?_eq_some_iff.1 hj).1];exact hj)⟩
end
section
variable {K:N9 prog}{B hp wb pb:Nat}{obj most:Int}{hI:bc0 K B hp wb pb obj most}{w0 u0 u:World}{F F':Nat->Prop}{c:L1}{N:Nat}{H':Hs}{m m':Gm}
theorem Gn.ac1 (h:Gn K w0 m F (hI.emb c) u0 F') (hc:Chg N u0 (fun k=>HF hp wb pb (hI.hs (K.R5 (gh u0 0))).Y0.length (lay (gm u0)) k\/(N <=k/\¬F' k)) u) (hN:N <=w0.heap.size) (hH:(W0 most (hI.hs (K.R5 (gh u0 0))) c).1=H') (hM:M3 u B hp wb pb obj most H' (lay m')) (hn:m' 10=H'.Y0.length)
  (Zx0:∀j,m' (2*j+1)=gm u0 (2*j+1)) (hgu:K.gu (gm u0) m') (hF:∀k,HF hp wb pb H'.Y0.length (lay m') k->HF hp wb pb (hI.hs (K.R5 (gh u0 0))).Y0.length (lay (gm u0)) k\/(¬F' k/\N <=k)) :
  ∃FR,(∀k,FR k->F' k)/\HGo hI N w0 F u c (K.R5 (gh u 0)) H' m' FR:=by
 obtain⟨FR,hFe,hM0,hn0,hr,hd⟩:=h.open_ hI;have e:=fun i=>K3 hc.tape i;have hF1:∀k,FR k->F' k:=fun k hk=>by rw[hFe];exact .inr hk
 refine⟨FR,hF1,rfl,by rw[e];exact h.goes.out,by rw[e];exact h.goes.at_,by rw[e];exact h.goes.j2,by rw[e];exact h.goes.on,by rw[e];exact hH,hM,hn,?_,fun k hk hk2=>?_,by rw[L7 hc.tape];exact hgu,hc.os.trans h.goes.Z3.os,hc.output.trans h.goes.Z3.output,Nat.le_trans h.goes.Z3.size hc.size,hN,fun k hk C3 hnF=>?_⟩
 ·rw[e];exact hI.jm0 _ _ u0 _ _ (hI.Cr0 _ _ _ _ _ hr Zx0) fun k hk=>hc.blk k (hI.jn0 _ _ _ _ hr k hk) fun z=>z.elim (fun z=>hd k z hk) fun z=>z.2 (hF1 k hk)
 ·rcases hF k hk with z|z
  ·exact hd k z hk2
  ·exact z.1 (hF1 k hk2)
 ·have h1:=h.goes.Z3.j0 k (Nat.lt_of_lt_of_le hk hN) C3 hnF;refine⟨(hc.blk k (Nat.lt_of_lt_of_le (Nat.lt_of_lt_of_le hk hN) h.goes.Z3.size) fun z=>z.elim (fun z=>h1.2 (by rw[hFe];exact .inl z)) fun z=>by omega).trans h1.1,fun z=>?_,fun z=>h1.2 (hF1 k z)⟩;rcases hF k z with y|y
  ·exact h1.2 (by rw[hFe];exact .inl y)
  ·omega
end
theorem vm0 {most:Int} {H:Hs} {c:L1} {p0:List Int} {z:Int} (h:c.at_=1) (hp:H.pool=p0 ++ [z]):W0 most H c=(H,{c with at_:=2,num:=z,seen:=p0}):=by
 unfold W0;rw[if_pos h,hp];simp
theorem vn0 {most:Int} {H:Hs} {c:L1} (h:c.at_=1) (hp:H.pool=[]) (hf:¬(H.Y0.length:Int)<most):W0 most H c=(H,{c with at_:=0,e:=5}):=by
 unfold W0;rw[if_pos h,hp];simp[hf]
theorem vo0 {most:Int} {H:Hs} {c:L1} (h:c.at_=1) (hp:H.pool=[]) (hf:(H.Y0.length:Int)<most):W0 most H c=(H,{c with at_:=3,num:=(H.Y0.length:Int)+1}):=by
 unfold W0;rw[if_pos h,hp];simp[hf]
theorem Ne0 {most:Int} {H:Hs} {c:L1} (h:c.at_=1):(W0 most H c).1=H:=by
 unfold W0;rw[if_pos h];split
 ·rfl
 ·split <;> rfl
theorem js0 {most:Int} {H:Hs} {c:L1} (h:c.at_=2):W0 most H c=({H with pool:=c.seen},{c with at_:=3,gg:=(B7 H c.num).g}):=by simp[W0,h]
theorem jt0 {most:Int} {H:Hs} {c:L1} (h:c.at_=3) (hn:¬(H.Y0.length:Int)<c.num):W0 most H c=(H.set c.num ⟨(B7 H c.num).g,true,c.val⟩,{c with at_:=0,tn:=c.num,tg:=(B7 H c.num).g}):=by simp[W0,h,hn]
theorem ju0 {most:Int} {H:Hs} {c:L1} (h:c.at_=3) (hn:(H.Y0.length:Int)<c.num):W0 most H c=({H with Y0:=H.Y0 ++ [⟨1,true,c.val⟩]},{c with at_:=0,tn:=c.num,tg:=1}):=by simp[W0,h,hn]
theorem Su0 {obj:Int} {c:L1} (h:c.at_=1):D3 obj c=⟨8,obj,0⟩:=by simp[D3,h]
theorem Sv0 {obj:Int} {c:L1} (h:c.at_=2):D3 obj c=⟨9,obj,0⟩:=by simp[D3,h]
theorem Ey0 {obj:Int} {c:L1} (h:c.at_=3):D3 obj c=⟨9,obj,c.num⟩:=by simp[D3,h]
theorem Sw0 {l:List Int} {k:Nat} (h:l.length=k+1):∃p0 z,l=p0 ++ [z]/\p0.length=k:=by
 rcases List.eq_nil_or_concat l with e|⟨p0,z,e⟩
 ·rw[e]at h;cases h
 ·exact⟨p0,z,by rw[e,List.concat_eq_append],by rw[e,List.concat_eq_append,List.length_append,List.length_singleton]at h;omega⟩
theorem Sx0:prog.built 82 []=some #[.i 0,.i 0]:=by kernel_rfl
theorem Sy0:prog.built 145 []=some #[.i 0,.bool false,.i 0]:=by kernel_rfl
theorem Ez0 (x0:Int) (x1:Bool) (x2:Int):prog.built 145 [(0,.i x0),(1,.bool x1),(2,.i x2)]=some #[.i x0,.bool x1,.i x2]:=by kernel_rfl
theorem Fa0 (x0:Int) (x1:Int):prog.built 82 [(0,.i x0),(1,.i x1)]=some #[.i x0,.i x1]:=by kernel_rfl
set_option maxHeartbeats 4000000 in
theorem Nf0 {K:N9 prog} {B hp wb pb:Nat} {obj most:Int} (hI:bc0 K B hp wb pb obj most) (hO:jo0 hI) (Wi0:most <=1048576) {c:L1} {v:Int} (hc1:c.at_=1) (hce:c.e=0) (hct:c.tn=0/\c.tg=0) (hcv:c.val=v) (w0:World) (J5:B <=w0.heap.size) {m:Gm} {Fo:Nat->Prop} (hT:K.Told w0 m Fo (.inl (hI.emb c))) :
  @Calls prog (O1 K) 22 #[.p hp,.p K.ptr,.i v] w0 (X3 K w0 fun r u=>∃c' s H' m' FR,HGo hI w0.heap.size w0 Fo u c' s H' m' FR/\(W0 most (hI.hs s) c').2.at_=0/\r= .tuple #[.agg #[.i (W0 most (hI.hs s) c').2.tn,.i (W0 most (hI.hs s) c').2.tg],.i (W0 most (hI.hs s) c').2.e]):=by
 letI:Ctx prog:=O1 K;refine Calls.ch0 (n:=102) func22 rfl rfl ?_;have hb:Below w0.heap.size w0 w0:=Below.refl _ _;obtain⟨FR0,hF0,hM,hn0,hr0,hd0⟩:=(hI.inv _ _ _ _).1 hT.inv;have hH:=hM.hH;have hos:=hT.os;have W8:=hT.output;refine U238 ?_;intro w b6 F6;have lt6:=F6.lq hb.size;have hb:=O0 hb F6.below;have hH:=hH.j0 F6.below;have hM:=hM.j0 F6.below;have O2:=F6.blk;refine U126 ?_;refine U245 ?_;have hbL:=hb;have hF6:¬Fo b6:=fun z=>by have:=hI.kok.tlt hT z;omega
 have hP0:=hM.hP;have hgt:@Calls prog (O1 K) 45 #[.p pb,.p K.ptr] w (X3 K w fun v u=>∃F' tt,Gn K w m Fo (hI.emb c) u F'/\op0 u tt/\v= .slice (lay m).pa (hI.hs (K.R5 tt)).pool.length (lay m).pc):=by
  refine Es0 hI.kok (lab:=hI.emb c) pb wb obj 0 (fun _=>(lay m).pa) (fun tt=>(hI.hs (K.R5 tt)).pool.length) (fun _=>(lay m).pc) _ _ _ w (hI.kok.j0 hT hb) ((hI.stp _).trans (Su0 hc1)) (fun s=>hI.rdy _ s) hM.hW hP0 (fun u F' hg=>?_);obtain⟨FR,_,hMu,hnu,_⟩:=Goes.open_ hg hI;have h9:=hMu.hP;rw[hO.dx0 hg.Z3.le]at h9;exact h9
 refine L.Q6 rfl (W1 rfl rfl func45 rfl Go0 rfl) hgt ?_ ?_ (fun _ h=>h)
 rotate_left
 ·rintro ch u ⟨hra,hh⟩;exact⟨hra,hh.at hbL.os hbL.output⟩
 rintro v w ⟨F',tt,p6,htt,rfl⟩;obtain⟨O2,h6⟩:=(Gn.aa0 p6 O2 (Nat.zero_lt_succ _) hF6)
 have X7:=hO.dx0 p6.goes.Z3.le;have hat:=hI.at_ _ _ p6.goes.at_
 obtain⟨FR,hFe,hE⟩:=Gn.ends (Gn.down hbL p6) (hI:=hI) (Ne0 hc1);have hn6:¬(HF hp wb pb (hI.hs (K.R5 (gh w 0))).Y0.length (lay (gm w)) b6\/FR b6):=fun z=>h6 (by rw[hFe];exact z);rw[htt.eq]at hE hn6 hat;obtain⟨s,hs⟩:∃s,s=K.R5 tt:=⟨_,rfl⟩
 rw[<- hs]at hE hn6 hat;rw[<- hs];obtain⟨m1,hm1⟩:∃m1,m1=gm w:=⟨_,rfl⟩
 rw[<- hm1]at hE X7 hn6;obtain⟨hj,qn0⟩:=hat;have Hf0:w0.heap.size <=b6/\¬HF hp wb pb (hI.hs s).Y0.length (lay m1) b6/\¬FR b6:=⟨lt6,fun z=>hn6 (.inl z),fun z=>hn6 (.inr z)⟩
 clear hFe hgt p6 htt hM hb hr0 hd0 hF0 hn0 hm1 hs hbL hP0;obtain⟨pn,hpn⟩:∃pn,(hI.hs s).pool.length=pn:=⟨_,rfl⟩
 rw[hpn];rw[hpn]at qn0;have hH:=hE.mem.hH;refine U28 ?_;refine U388 ?_;rcases Nat.eq_zero_or_pos pn with h0|h0
 ·subst h0;have hpe:(hI.hs s).pool=[]:=List.eq_nil_of_length_eq_zero hpn;refine U148 ?_;refine U311 ?_;refine U5 ?_;refine U325 ?_;refine U26 ?_;refine U313 ?_;have hL:=hE.mem.hL;rw[show(lay m1).la=(lay m).la by rw[X7],show(lay m1).lc=(lay m).lc by rw[X7]]at hL;refine L.call (X4 rfl func49 rfl eq1 rfl) (Ew0 hp (lay m1).lb _ _ _ _ _ _ hH hL) ?_;rintro _ w1 ⟨rfl,hw⟩;refine U10 ?_;refine L.va (K1 rfl) ?_;refine L.va (B0 rfl underlying97 rfl (hL.q0 0 (v:=.slice ((lay m).la) ((hI.hs s).Y0.length) ((lay m).lc)) rfl)) ?_;refine L.alloc (cs:=#[.slice none 0 0]) Yk0 rfl (fun w b13 F13=>?_);have Hg0:=Nat.le_refl w.heap.size;have Hh0:=hE.fresh (Nat.le_of_eq F13.here.symm);have hE:=hE.j0 F13.below;have O2:=O2.j0 F13.below;have hH:=hH.j0 F13.below;have R4:=F13.blk;refine L.pu 0 [.slice ((lay m).la) ((hI.hs s).Y0.length) ((lay m).lc)] #[.slice ((lay m).la) ((hI.hs s).Y0.length) ((lay m).lc)] Kj0 R4 (fun w G0 hg A2=>?_);have Y1:=F1.E5 R4 hg;have hE:=hE.V2 hg Hh0;have O2:=O2.mod Y1 rfl;have hH:=hH.mod Y1 rfl;have R4:=G0;refine U11 ?_;refine U75 ?_;refine D.va (fun w' J0=>(B0 rfl underlying97 rfl ((R4.j0 J0).q0 0 (v:=.slice ((lay m).la) ((hI.hs s).Y0.length) ((lay m).lc)) rfl))) ?_;refine D.va (fun w' J0=>(V4 rfl underlying97 rfl)) ?_;refine U6 ?_;refine U352 ?_;refine D.nil (fun w D1=>?_);have hE:=hE.j0 D1;have O2:=O2.j0 D1;have hH:=hH.j0 D1;have R4:=R4.j0 D1;refine U22 ?_;refine W.y6 rfl (fun h71=>?_) (fun h71=>?_)
  ·refine W.seq ?_;refine W.region rfl ?_;refine L.va (Z1 (parts:=[]) rfl Sx0) ?_;refine L.pu 0 [.i 0,.i 0] #[.i 0,.i 0] X5 O2 (fun w G0 hg A2=>?_);have Y1:=F1.E5 O2 hg;have hE:=hE.V2 hg Hf0;have O2:=G0;refine U60 ?_;refine U544 ?_;exact⟨c,s,_,m1,FR,hE,by rw[vn0 hc1 hpe (by omega)],by rw[vn0 hc1 hpe (by omega)];simp only[hct.1,hct.2];rfl⟩
  ·refine W.skip ?_;show W _ _ _ _ _ _;refine U487 ?_;refine U569 ?_;refine U5 ?_;refine U464 ?_;refine U6 ?_;refine U454 ?_;refine U6 ?_;refine U456 ?_;refine D.va (fun w' J0=>(K2 rfl)) ?_;refine D.va (fun w' J0=>(Z1 (parts:=[]) rfl Sy0)) ?_;refine D.nil (fun w D1=>?_);have hE:=hE.j0 D1;have O2:=O2.j0 D1;have hH:=hH.j0 D1;have R4:=R4.j0 D1;clear D1;have Sz0:((hI.hs s).Y0.length:Int)<most:=by omega
   refine L.call (bl0 rfl rfl rfl rfl func50 rfl er1 rfl) (Wg0 wb obj _ 0 false 0 w) ?_;rintro _ w ⟨xb,rfl,hxl,hXb,D1⟩;have hnx:=hE.fresh hxl;have hxX:∀i,i<(hI.hs s).Y0.length->(lay m).X i≠xb:=fun i hi e=>hnx.2.1 (.inr (.inr (.inr (.inr (.inr (.inr ⟨i,hi,by rw[X7];exact e.symm⟩))))));have hd1:¬(HF hp wb pb (hI.hs s).Y0.length (lay m1) xb\/FR xb):=fun z=>z.elim hnx.2.1 hnx.2.2;have hE:=hE.j0 D1;have O2:=O2.j0 D1;have hH:=hH.j0 D1;have R4:=R4.j0 D1;clear D1;refine U9 ?_;refine U3 ?_;refine U83 ?_;refine L.va (Z1 (parts:=[(0,.const (.i 1)),(1,.const (.bool true)),(2,.tmp 89)]) rfl (Ez0 1 true v)) ?_;have hT1:=hE.N0 (by rw[vo0 hc1 hpe Sz0];exact Nat.succ_ne_zero 2) hos W8;rw[vo0 hc1 hpe Sz0]at hT1;obtain⟨c1,mc0⟩:∃c1,c1={c with at_:=3,num:=((hI.hs s).Y0.length:Int)+1}:=⟨_,rfl⟩
   have h13:c1.at_=3:=by rw[mc0]
   have h1n:c1.num=((hI.hs s).Y0.length:Int)+1:=by rw[mc0]
   have h1v:c1.val=v:=by rw[mc0];exact hcv
   have h1e:c1.e=0:=by rw[mc0];exact hce
   have hT1:K.Told w m1 (fun b=>HF hp wb pb (hI.hs s).Y0.length (lay m1) b\/FR b) (.inl (hI.emb c1)):=by rw[mc0];exact hT1
   have hgt:@Calls prog (O1 K) 48 #[.p xb,.p K.ptr,.agg #[.i 1,.bool true,.i v]] w (X3 K w fun v' u=>v'= .tuple #[]/\∃u0 F',Gn K w m1 (fun b=>HF hp wb pb (hI.hs s).Y0.length (lay m1) b\/FR b) (hI.emb c1) u0 F'/\V0 u xb (ndC obj (hI.hs s).Y0.length wb ⟨1,true,v⟩) 193/\u0.grownBy u (some xb)):=by
    refine so0 hI.kok (lab:=hI.emb c1) xb wb obj _ 1 true v _ _ _ w hT1 ((hI.stp _).trans ((Ey0 h13).trans (by rw[h1n]))) (fun s=>hI.rdy _ s) hE.mem.hW hXb (fun u F' hg=>⟨_,_,_,(Goes.aa0 hg hXb (Nat.zero_lt_succ _) hd1).1⟩)
   refine L.Q6 rfl (n3 rfl rfl rfl func48 rfl Gq0 rfl) hgt ?_ ?_ (fun _ h=>h)
   rotate_left
   ·rintro ch u ⟨hra,hh⟩;exact⟨hra,hh.at hE.os hE.output⟩
   rintro _ w ⟨rfl,u0,F',p6,he1,N3⟩;obtain⟨FRu,hFu,hMu,hnu,hru,hdu⟩:=p6.open_ hI;have hl2:=(hO.dx0 p6.goes.Z3.le).trans X7;have hj3:=(hI.at_ _ _ p6.goes.at_).1.a3 h13;have hn0:m1 10=(hI.hs s).Y0.length:=hE.n;have hnn:(hI.hs (K.R5 (gh u0 0))).Y0.length=(hI.hs s).Y0.length:=by
    have h9:=hO.le _ _ p6.goes.Z3.le 5;rw[show 2*5=10 by rfl,hnu,hn0]at h9;exact h9
   obtain⟨os0,h6F⟩:=Gn.aa0 p6 O2 (Nat.zero_lt_succ _) hn6;obtain⟨Ng0,hf1⟩:=Gn.aa0 p6 R4 (Nat.zero_lt_succ _) (fun z=>z.elim Hh0.2.1 Hh0.2.2);obtain⟨hXu,hxF⟩:=Gn.aa0 p6 hXb (Nat.zero_lt_succ _) hd1;have O2:=os0.other N3 (V0.ne os0 hXu (by decide));have R4:=Ng0.other N3 (V0.ne Ng0 hXu (by decide));rw[hl2]at hMu;have J8:Chg w0.heap.size u0 (fun k=>HF hp wb pb (hI.hs (K.R5 (gh u0 0))).Y0.length (lay (gm u0)) k\/(w0.heap.size <=k/\¬F' k)) w:=⟨N3.tape,N3.os,N3.output,N3.size,fun k hk hS=>N3.block k hk fun e=>hS (.inr (by cases e;exact⟨hnx.1,hxF⟩))⟩
   have hmx:=F1.E5 hXu N3;have hH:=hMu.hH.mod hmx rfl;have hO':=Own.mod hMu.hO hmx rfl;have hBu:fh0 w B wb pb obj (hI.hs (K.R5 (gh u0 0))) (lay m):=⟨hMu.hW.mod hmx rfl,hMu.hP.mod hmx rfl,fun i hi=>(hMu.hX i hi).other N3 (hxX i (by rw[<- hnn];exact hi)),hMu.leX,hMu.inj,hMu.I3.sl,hMu.I3.canon,hMu.I3.nil,hMu.I3.le,fun ha=>let⟨cs,g1,g2,g3⟩:=hMu.I3.bl ha;⟨cs,g1.mod hmx rfl,g2,g3⟩⟩
   obtain⟨s2,hs2⟩:∃s2,s2=K.R5 (gh u0 0):=⟨_,rfl⟩
   obtain⟨NN,hNN⟩:∃NN,(hI.hs s).Y0.length=NN:=⟨_,rfl⟩
   have hXb:=he1;rw[<- hnn]at hXb hxX;clear he1 hmx hXu os0 Ng0 hgt hT1;refine U1 ?_;refine U487 ?_;refine U602 ?_;intro w b94 F94;have mh1:=Nat.le_refl w.heap.size;have J8:=J8.j0 F94.below;have O2:=O2.j0 F94.below;have R4:=R4.j0 F94.below;have hXb:=hXb.j0 F94.below;have hH:=hH.j0 F94.below;have hO':=hO'.j0 F94.below;have hBu:=hBu.j0 F94.below;have Nh0:=F94.blk;have hOn:=hO';rw[hnn]at hOn;refine L.z6 (B:=B) (m:=1) rfl rfl underlying97 Vi0 rfl (by decide) hOn (news:=[.p xb]) rfl (fun q u hq=>?_) (fun u hu=>by simp at hu;subst hu;rfl) (by omega) (by omega) (Nat.le_trans J5 (Nat.le_trans hE.size (Nat.le_trans p6.goes.Z3.size J8.size))) (fun la2 lc2 w2 H8 I6 hwh=>?_)
   ·rw[Addr.add_lit]
    match q,hq with
    |0,hq=>cases hq;exact Nh0.q0 0 rfl
   have O2:=V0.app O2 hOn I6 (by decide);have R4:=V0.app R4 hOn I6 (by decide);have hXb:=V0.app hXb hOn I6 (by decide);have hH:=V0.app hH hOn I6 (by decide);have hBu:=hBu.app hOn I6;have mi1:=J8.size;have J8:=J8.app I6 (fun ha=>.inl (.inr (.inr (.inr (.inr (.inl ⟨by rw[hl2];exact ha,by rw[hl2]⟩))))));clear I6 hOn hO' Nh0;rename_i ss0;refine L.pu 0 [.slice la2 ((hI.hs s).Y0.length+1) lc2] #[.slice la2 ((hI.hs s).Y0.length+1) lc2] Kj0 R4 (fun w G0 hg A2=>?_);have Y1:=F1.E5 R4 hg;have J8:=J8.V2 hg (fun _=>.inr ⟨Hh0.1,hf1⟩);have O2:=O2.mod Y1 rfl;have hXb:=hXb.mod Y1 rfl;have hH:=hH.mod Y1 rfl;have hBu:=hBu.mod Y1 rfl;have H8:=H8.mod Y1 rfl;have R4:=G0;refine U11 ?_;refine U526 ?_;rintro _ w ⟨G0,hg⟩;have Y1:=F1.E5 hH hg;have J8:=J8.V2 hg (fun _=>.inl (.inl rfl));have O2:=O2.mod Y1 rfl;have R4:=R4.mod Y1 rfl;have hXb:=hXb.mod Y1 rfl;have H8:=Own.mod H8 Y1 rfl;have hBu:=hBu.mod Y1 rfl;rw[<- hnn]at H8 R4;have hMn:=hBu.more G0 R4 H8 hXb (Nat.le_trans J5 hnx.1) (Nat.le_trans J5 Hh0.1) hxX;have hg1:Canon la2:=G6 H8;obtain⟨m2,hm2⟩:∃m2,m2=laid (gm u0) ⟨la2,lc2,b13,(lay m).pa,(lay m).pc,r6 (lay m).X (hI.hs (K.R5 (gh u0 0))).Y0.length xb⟩ ((hI.hs (K.R5 (gh u0 0))).Y0.length+1):=⟨_,rfl⟩
   have hl5:lay m2=⟨la2,lc2,b13,(lay m).pa,(lay m).pc,r6 (lay m).X (hI.hs (K.R5 (gh u0 0))).Y0.length xb⟩:=by rw[hm2];exact jk0 _ _ hg1 hBu.I3.canon
   have Hi0:m2 10=(hI.hs (K.R5 (gh u0 0))).Y0.length+1:=by rw[hm2];rfl
   have ht3:W0 most (hI.hs (K.R5 (gh u0 0))) c1=({hI.hs (K.R5 (gh u0 0))with Y0:=(hI.hs (K.R5 (gh u0 0))).Y0 ++ [⟨1,true,v⟩]},{c1 with at_:=0,tn:=((hI.hs s).Y0.length:Int)+1,tg:=1}):=by rw[ju0 h13 (by rw[h1n,hnn];omega),h1n,h1v]
   have hwr:=Gn.ac1 (m':=m2) (H':={hI.hs (K.R5 (gh u0 0))with Y0:=(hI.hs (K.R5 (gh u0 0))).Y0 ++ [⟨1,true,v⟩]}) p6 J8 hE.size (by rw[ht3]) (by rw[hl5];exact hMn) (by rw[Hi0];simp) (fun j=>by rw[hm2,de0]) (hO.gu _ _ (fun j=>by rw[hm2,de0]) (by rw[Hi0,hnu];exact Nat.le_succ _) (fun j hj=>by rw[hm2,sq0];show r6 (lay m).X _ xb j=_;rw[J3 (by rw[hnu]at hj;omega)];exact congrFun (congrArg I5.X hl2.symm) j)) (fun k hk=>?_)
   rotate_left
   ·rw[hl2];rw[hl5]at hk;rcases hk with z|z|z|z|z|z|⟨j,hj,z⟩
    ·exact .inl (.inl z)
    ·exact .inl (.inr (.inl z))
    ·exact .inl (.inr (.inr (.inl z)))
    ·exact .inr ⟨by rw[z];exact hf1,by rw[z];exact Hh0.1⟩
    ·rcases hwh z.1 with y|y
     ·exact .inl (.inr (.inr (.inr (.inr (.inl ⟨y.1,z.2.trans y.2⟩)))))
     ·refine .inr ⟨fun y2=>?_,?_⟩
      ·have h9:=p6.flt y2;rw[z.2]at h9;have h9:ab la2<u0.heap.size:=h9;omega
      ·rw[z.2];exact Nat.le_trans (Nat.le_trans hE.size (Nat.le_trans p6.goes.Z3.size mi1)) y
    ·exact .inl (.inr (.inr (.inr (.inr (.inr (.inl z))))))
    ·by_cases hjn:j=(hI.hs (K.R5 (gh u0 0))).Y0.length
     ·refine .inr ⟨?_,?_⟩ <;> (rw[z];show _;simp only[hjn,Z2])
      ·exact hxF
      ·exact hnx.1
     ·refine .inl (.inr (.inr (.inr (.inr (.inr (.inr ⟨j,?_,?_⟩))))))
      ·have hj:j<((hI.hs (K.R5 (gh u0 0))).Y0 ++ [_]).length:=hj;rw[List.length_append,List.length_singleton]at hj;omega
      ·rw[z];exact J3 hjn
   obtain⟨FR3,Ta0,hE3⟩:=hwr;have X9:gh w 0=gh u0 0:=K3 J8.tape 0;rw[X9]at hE3;have hE3:=hE.trans hE3;have Hf0:w0.heap.size <=b6/\¬HF hp wb pb ({hI.hs (K.R5 (gh u0 0))with Y0:=(hI.hs (K.R5 (gh u0 0))).Y0 ++ [⟨1,true,v⟩]}:Hs).Y0.length (lay m2) b6/\¬FR3 b6:=⟨lt6,fun z=>?_,fun z=>h6F (Ta0 _ z)⟩
   rotate_left
   ·rw[hl5]at z;exact hMn.mg1 O2 (by decide) z
   clear hE J8 H8 hBu hMn hXb G0 hg Y1 p6;have hE:=hE3;clear hE3;refine U124 ?_;refine L.va (Z1 (parts:=[(0,.tmp 100),(1,.const (.i 1))]) rfl (Fa0 (((hI.hs s).Y0.length:Int)+1) 1)) ?_;refine L.pu 0 [.i (((hI.hs s).Y0.length:Int)+1),.i 1] #[.i (((hI.hs s).Y0.length:Int)+1),.i 1] X5 O2 (fun w G0 hg A2=>?_);have Y1:=F1.E5 O2 hg;have hE:=hE.V2 hg Hf0;have O2:=G0;refine U60 ?_;refine U43 ?_;refine ends.dq0 (cs:=#[.i (((hI.hs s).Y0.length:Int)+1),.i 1]) (.inr rfl) rfl rfl underlying82 rfl X5 O2 ?_;exact⟨c1,_,_,m2,FR3,hE,by rw[ht3],by rw[ht3];simp only[h1e];rfl⟩
 ·obtain⟨k,rfl⟩:∃k,pn=k+1:=⟨pn-1,by omega⟩
  obtain⟨p0,z,hpz,hp0⟩:=Sw0 hpn;obtain⟨hz1,hz2⟩:=hj.pl z (by rw[hpz];simp);obtain⟨i,hi⟩:∃i:Nat,z=(i:Int)+1:=⟨(z-1).toNat,by omega⟩
  subst hi;have hi1:i<(hI.hs s).Y0.length:=by omega
  refine W.region rfl ?_;refine U41 ?_;refine L.va (Dv0 (m:=k) rfl rfl (by omega)) ?_;refine U5 ?_;refine U20 ?_;refine L.va (le0 rfl rfl) ?_;refine U1 ?_;refine U347 ?_;refine U56 ?_;refine L.va (u4 (i:=k) rfl rfl underlying23 c5 (by rw[<- hpn,<- X7];exact hE.mem.I3.sl) (Nat.lt_succ_self k)) ?_;have I3:=hE.mem.I3;rw[X7]at I3;have hz9:=I3.cell (j:=k) (by rw[hpn];exact Nat.lt_succ_self k);rw[hpz,show((p0 ++ [(i:Int)+1])[k]?).getD 0=(i:Int)+1 by rw[<- hp0];simp]at hz9;refine L.va (B0 (v:=.i ((i:Int)+1)) rfl underlying3 rfl hz9) ?_;clear hz9 I3;refine U5 ?_;refine U112 ?_;have hci:=@jl0 (O1 K) B hp wb pb obj most _ _ _ hE.mem i hi1;rw[X7]at hci;refine L.call (W1 rfl rfl func46 rfl Gp0 rfl) hci ?_;rintro _ w1 ⟨rfl,hw⟩;rw[hw];clear hw w1 hci;refine U9 ?_;refine U468 ?_;refine U6 ?_;refine U457 ?_;refine D.va (fun w' J0=>(Y3 rfl)) ?_;refine U100 ?_;refine D.va (fun w' J0=>(K2 rfl)) ?_;refine D.va (fun w' J0=>iw0 (k:=k) (m:=k) rfl rfl rfl underlying23 c5 (Nat.le_refl k) (by have:=hE.mem.I3.le;rw[X7,hpn]at this;exact Nat.le_trans (Nat.le_succ k) this)) ?_;refine D.nil (fun w D1=>?_);have hE:=hE.j0 D1;have O2:=O2.j0 D1;have hH:=hH.j0 D1;clear D1;have hT1:=hE.N0 (by rw[vm0 hc1 hpz];exact Nat.succ_ne_zero 1) hos W8;rw[vm0 hc1 hpz]at hT1;obtain⟨c1,mc0⟩:∃c1,c1={c with at_:=2,num:=(i:Int)+1,seen:=p0}:=⟨_,rfl⟩
  have h12:c1.at_=2:=by rw[mc0]
  have h1n:c1.num=(i:Int)+1:=by rw[mc0]
  have h1s:c1.seen=p0:=by rw[mc0]
  have h1v:c1.val=v:=by rw[mc0];exact hcv
  have h1e:c1.e=0:=by rw[mc0];exact hce
  have hT1:K.Told w m1 (fun b=>HF hp wb pb (hI.hs s).Y0.length (lay m1) b\/FR b) (.inl (hI.emb c1)):=by rw[mc0];exact hT1
  have hP1:=hE.mem.hP;rw[X7]at hP1;have aa1:i<m1 10:=by rw[hE.n];exact hi1
  have hgt:@Calls prog (O1 K) 47 #[.p pb,.p K.ptr,.slice (lay m).pa k k] w (X3 K w fun v u=>v= .tuple #[]/\∃u0 F',Gn K w m1 (fun b=>HF hp wb pb (hI.hs s).Y0.length (lay m1) b\/FR b) (hI.emb c1) u0 F'/\V0 u pb #[.i obj,.i 0,.p wb,.slice (lay m).pa k k] 135/\u0.grownBy u (some pb)):=by
   refine Et0 hI.kok (lab:=hI.emb c1) pb wb obj 0 _ _ _ _ _ _ w hT1 ((hI.stp _).trans (Sv0 h12)) (fun s=>hI.rdy _ s) hE.mem.hW hP1 (fun u F' hg=>?_);obtain⟨FR,_,hMu,hnu,_⟩:=Goes.open_ hg hI;exact⟨_,_,_,hMu.hP⟩
  refine L.Q6 rfl (n3 rfl rfl rfl func47 rfl Rf0 rfl) hgt ?_ ?_ (fun _ h=>h)
  rotate_left
  ·rintro ch u ⟨hra,hh⟩;exact⟨hra,hh.at hE.os hE.output⟩
  rintro _ w ⟨rfl,u0,F',p6,hCn,N3⟩;obtain⟨FRu,hFu,hMu,hnu,hru,hdu⟩:=p6.open_ hI;refine U532 ?_;intro hl2 hiu;have hj2:=(hI.at_ _ _ p6.goes.at_).1.a2 h12;rw[h1s,h1n]at hj2;rw[hl2]at hMu;have hPu:=hMu.I3;obtain⟨os0,h6F⟩:=Gn.aa0 p6 O2 (Nat.zero_lt_succ _) hn6;have O2:=os0.other N3 (V0.ne os0 hMu.hP (by decide));have hMs:=hMu.mn0 (pa:=(lay m).pa) (pc:=k) (pool:=p0) (by rw[hp0];exact hCn) N3 (hPu.pre hj2 hp0.symm);obtain⟨m2,hm2⟩:∃m2,m2=laid (gm u0) {lay m with pc:=k} (hI.hs (K.R5 (gh u0 0))).Y0.length:=⟨_,rfl⟩
  have hl5:lay m2={lay m with pc:=k}:=by rw[hm2];exact jk0 _ _ (G6 hMu.hO) hPu.canon
  have Hi0:m2 10=(hI.hs (K.R5 (gh u0 0))).Y0.length:=by rw[hm2];rfl
  have hwr:=Gn.wrote (N:=w0.heap.size) (m':=m2) (H':={hI.hs (K.R5 (gh u0 0))with pool:=p0}) p6 N3 hE.size (by rw[js0 h12,h1s]) (by rw[hl5];exact hMs) Hi0 (fun j=>by rw[hm2,de0]) (hO.gu _ _ (fun j=>by rw[hm2,de0]) (by rw[Hi0,hnu];exact Nat.le_refl _) (fun j hj=>by rw[hm2,sq0];exact congrFun (congrArg I5.X hl2.symm) j)) ⟨fun z=>z.2 (.inl (.inr (.inr (.inl rfl)))),fun _=>.inr (.inr (.inl rfl))⟩ (fun k hk=>.inl (by rw[hl5]at hk;rw[hl2];exact hk));obtain⟨FR2,Nc0,hE2⟩:=hwr;have hn6:¬(HF hp wb pb (hI.hs (K.R5 (gh u0 0))).Y0.length (lay m2) b6\/FR2 b6):=fun z=>z.elim (fun z=>h6F (by rw[hFu];exact .inl (by rw[hl5]at z;rw[hl2];exact z))) (fun z=>h6F (Nc0 _ z));have X9:gh w 0=gh u0 0:=K3 N3.tape 0;rw[X9]at hE2;have hE2:=hE.trans hE2;obtain⟨s1,hs1⟩:∃s1,s1=K.R5 (gh u0 0):=⟨_,rfl⟩
  rw[<- hs1]at hE2 hiu hn6;clear hgt hE hT1 hMs hMu hCn N3 p6 X7 hnu hru hdu hFu X9 hs1 hPu hP1 Hi0 hm2 Nc0 os0 h6F;have hE:=hE2;have X7:=hl5;clear hE2 hl5 hl2;have hH:=hE.mem.hH;refine U1 ?_;refine U112 ?_;have hge:=@sr0 (O1 K) B hp wb pb obj most _ _ _ hE.mem i hiu;have hge:@C prog (O1 K) 32 #[.p hp,.i ((i:Int)+1)] w fun v w'=>v= .i (o3 (hI.hs s1) i).g/\Below w.heap.size w w':=hge;refine L.call (W1 rfl rfl func32 rfl Ks0 rfl) hge ?_;rintro _ w ⟨rfl,D1⟩;have hE:=hE.j0 D1;have O2:=O2.j0 D1;have hH:=hH.j0 D1;clear D1 hge;refine U5 ?_;refine U3 ?_;refine U83 ?_;refine L.va (K2 rfl) ?_;refine L.va (Z1 (parts:=[(0,.tmp 52),(1,.const (.bool true)),(2,.tmp 53)]) rfl (Ez0 ((o3 (hI.hs s1) i).g) true v)) ?_;have hT2:=hE.N0 (by rw[js0 h12];exact Nat.succ_ne_zero 2) hos W8;rw[js0 h12]at hT2;obtain⟨c2,hc2⟩:∃c2,c2={c1 with at_:=3,gg:=(B7 (hI.hs s1) c1.num).g}:=⟨_,rfl⟩
  have h23:c2.at_=3:=by rw[hc2]
  have h2n:c2.num=(i:Int)+1:=by rw[hc2];exact h1n
  have h2v:c2.val=v:=by rw[hc2];exact h1v
  have h2e:c2.e=0:=by rw[hc2];exact h1e
  have h2g:c2.gg=(o3 (hI.hs s1) i).g:=by rw[hc2];show(B7 (hI.hs s1) c1.num).g=_;rw[h1n,oq0]
  have hT2:K.Told w m2 (fun b=>HF hp wb pb (hI.hs s1).Y0.length (lay m2) b\/FR2 b) (.inl (hI.emb c2)):=by rw[hc2];exact hT2
  have Ss0:i<m2 10:=by rw[hE.n];exact hiu
  have hX2:=hE.mem.hX i hiu;rw[X7]at hX2;have hgt:@Calls prog (O1 K) 48 #[.pointer (some ⟨(lay m).X i,0,none⟩),.p K.ptr,.agg #[.i (o3 (hI.hs s1) i).g,.bool true,.i v]] w (X3 K w fun v' u=>v'= .tuple #[]/\∃u0 F',Gn K w m2 (fun b=>HF hp wb pb (hI.hs s1).Y0.length (lay m2) b\/FR2 b) (hI.emb c2) u0 F'/\V0 u ((lay m).X i) (ndC obj i wb ⟨(o3 (hI.hs s1) i).g,true,v⟩) 193/\u0.grownBy u (some ((lay m).X i))):=by
   refine so0 hI.kok (lab:=hI.emb c2) ((lay m).X i) wb obj ((i:Int)+1) _ true v _ _ _ w hT2 ((hI.stp _).trans ((Ey0 h23).trans (by rw[h2n]))) (fun s=>hI.rdy _ s) hE.mem.hW hX2 (fun u F' hg=>?_);obtain⟨FR,_,hMu,hnu,_⟩:=Goes.open_ hg hI;obtain⟨e1,e2⟩:=Goes.X hg hI Ss0;have h9:=hMu.hX i (by rw[<- hnu];exact e2);rw[e1,X7]at h9;exact⟨_,_,_,h9⟩
  refine L.Q6 rfl (n3 rfl rfl rfl func48 rfl Gq0 rfl) hgt ?_ ?_ (fun _ h=>h)
  rotate_left
  ·rintro ch u ⟨hra,hh⟩;exact⟨hra,hh.at hE.os hE.output⟩
  rintro _ w ⟨rfl,u0,F',p6,hCn,N3⟩;obtain⟨FRu,hFu,hMu,hnu,hru,hdu⟩:=p6.open_ hI;have hl3:=(hO.dx0 p6.goes.Z3.le).trans X7;have hi3:i<(hI.hs (K.R5 (gh u0 0))).Y0.length:=by rw[<- hnu];exact(Goes.X p6.goes hI Ss0).2
  have hj3:=(hI.at_ _ _ p6.goes.at_).1.a3 h23;rw[h2n,oq0,h2g]at hj3;have hg3:(o3 (hI.hs (K.R5 (gh u0 0))) i).g=(o3 (hI.hs s1) i).g:=by rcases hj3 with hj3|hj3;omega;exact hj3.2.2
  rw[hl3]at hMu;obtain⟨os0,h6F⟩:=Gn.aa0 p6 O2 (Nat.zero_lt_succ _) hn6;have O2:=os0.other N3 (V0.ne os0 (hMu.hX i hi3) (by decide));have hMs:=hMu.setNode hi3 hCn N3;have ht3:W0 most (hI.hs (K.R5 (gh u0 0))) c2=((hI.hs (K.R5 (gh u0 0))).set ((i:Int)+1) ⟨(o3 (hI.hs s1) i).g,true,v⟩,{c2 with at_:=0,tn:=(i:Int)+1,tg:=(o3 (hI.hs s1) i).g}):=by rw[jt0 h23 (by rw[h2n];omega),h2n,oq0,hg3,h2v]
  have hwr:=Gn.wrote (N:=w0.heap.size) (m':=gm u0) (H':=(hI.hs (K.R5 (gh u0 0))).set ((i:Int)+1) ⟨(o3 (hI.hs s1) i).g,true,v⟩) p6 N3 hE.size (by rw[ht3]) (by rw[hl3];exact hMs) (by rw[Hs.o6];exact hnu) (fun _=>rfl) (hI.kok.refl _) ⟨fun z=>z.2 (.inl (.inr (.inr (.inr (.inr (.inr (.inr ⟨i,hiu,by rw[X7]⟩))))))),fun _=>.inr (.inr (.inr (.inr (.inr (.inr ⟨i,hi3,by rw[hl3]⟩)))))⟩ (fun k hk=>.inl (by rw[Hs.o6]at hk;exact hk));obtain⟨FR3,Ta0,hE3⟩:=hwr;have hn6:¬(HF hp wb pb ((hI.hs (K.R5 (gh u0 0))).set ((i:Int)+1) ⟨(o3 (hI.hs s1) i).g,true,v⟩).Y0.length (lay (gm u0)) b6\/FR3 b6):=fun z=>z.elim (fun z=>h6F (by rw[hFu];exact .inl (by rw[Hs.o6]at z;exact z))) (fun z=>h6F (Ta0 _ z));have Hf0:w0.heap.size <=b6/\¬HF hp wb pb ((hI.hs (K.R5 (gh u0 0))).set ((i:Int)+1) ⟨(o3 (hI.hs s1) i).g,true,v⟩).Y0.length (lay (gm u0)) b6/\¬FR3 b6:=⟨lt6,fun z=>hn6 (.inl z),fun z=>hn6 (.inr z)⟩
  clear hn6;have X9:gh w 0=gh u0 0:=K3 N3.tape 0;rw[X9]at hE3;have hE3:=hE.trans hE3;obtain⟨s2,hs2⟩:∃s2,s2=K.R5 (gh u0 0):=⟨_,rfl⟩
  rw[<- hs2]at hE3 Hf0 ht3;clear hgt hE hT2 hMs hMu hCn N3 p6 hnu hru hdu hFu X9 hs2 hX2 Ta0 os0 h6F hH;have hE:=hE3;clear hE3;refine U124 ?_;refine L.va (K2 rfl) ?_;refine L.va (Z1 (parts:=[(0,.tmp 56),(1,.tmp 57)]) rfl (Fa0 ((i:Int)+1) ((o3 (hI.hs s1) i).g))) ?_;refine L.pu 0 [.i ((i:Int)+1),.i ((o3 (hI.hs s1) i).g)] #[.i ((i:Int)+1),.i ((o3 (hI.hs s1) i).g)] X5 O2 (fun w G0 hg A2=>?_);have Y1:=F1.E5 O2 hg;have hE:=hE.V2 hg Hf0;have O2:=G0;refine U60 ?_;refine U43 ?_;refine ends.dq0 (cs:=#[.i ((i:Int)+1),.i ((o3 (hI.hs s1) i).g)]) (.inr rfl) rfl rfl underlying82 rfl X5 O2 ?_;exact⟨c2,s2,_,_,FR3,hE,by rw[ht3],by rw[ht3];simp only[h2e];rfl⟩
structure X8 where
 kind:Int
 val:Int
 u5:Int
 rn:Int
 rg:Int
def Cw0 (o:X8):List Value:=[.i o.kind,.i o.val,.i o.u5,.i o.rn,.i o.rg]
structure jv0 where
 rn:Int
 rg:Int
 e:Int
 x:Int
 ok:Bool
def k9 (a:jv0):List Value:=[.i a.rn,.i a.rg,.i a.e,.i a.x,.bool a.ok]
def gd0 (r:Int×Int):List Value:=[.i r.1,.i r.2]
structure HW where
 H:Hs
 N0:List (Int×Int)
 log:Nat->List jv0
def hw0:HW:=⟨⟨[],[]⟩,[],fun _=>[]⟩
def named (N0:List (Int×Int)) (o:X8):Int×Int:=if 0 <=o.u5/\o.u5<(N0.length:Int) then(N0[o.u5.toNat]?).getD (0,0) else(o.rn,o.rg)
def R8 (c:L1):jv0:=⟨c.tn,c.tg,c.e,c.x,c.ok⟩
def P4 (i:Nat) (s:HW) (c:L1):HW:=⟨s.H,if 0<c.tn then s.N0 ++ [(c.tn,c.tg)] else s.N0,r6 s.log i (s.log i ++ [R8 c])⟩
def m5 (s:HW) (o:X8):Option L1 :=
 if o.kind=1 then some (dw0 o.val) else if o.kind=2 then some (T9 s.H (named s.N0 o).1 (named s.N0 o).2) else if o.kind=3 then some (fe0 s.H (named s.N0 o).1 (named s.N0 o).2) else none
def Z0 (ops:List X8) (i k:Nat) (s:HW):dt0 HW (Nat×L1) :=
 if h:k<ops.length then
  match m5 s ops[k]with
  |none=>Z0 ops i (k+1) s
  |some c=>if c.at_≠0 then⟨s,[],.inl (k,c)⟩ else Z0 ops i (k+1) (P4 i s c)
 else⟨s,[],.inr 1⟩
termination_by ops.length-k
theorem C7 {ops:List X8} {i k:Nat} {s:HW} (h:¬k<ops.length):Z0 ops i k s=⟨s,[],.inr 1⟩:=by rw[Z0,dif_neg h]
theorem v5 {ops:List X8} {i k:Nat} {s:HW} {o:X8} (h:ops[k]? =some o):Z0 ops i k s=match m5 s o with
  |none=>Z0 ops i (k+1) s
  |some c=>if c.at_≠0 then⟨s,[],.inl (k,c)⟩ else Z0 ops i (k+1) (P4 i s c):=by
 obtain⟨hk,rfl⟩:=List.getElem?_eq_some_iff.1 h
 conv=>lhs;rw[Z0]
 rw[dif_pos hk]
theorem dy0 (ops:List X8) (i:Nat):∀(n k:Nat) (s:HW),ops.length-k=n->(Z0 ops i k s).j2=[]:=by
 intro n
 induction n with
 |zero=>intro k s h;rw[C7 (by omega)]
 |succ n ih=>
  intro k s h;obtain⟨o,ho⟩:∃o,ops[k]? =some o:=⟨_,List.getElem?_eq_getElem (by omega)⟩
  rw[v5 ho];split
  ·exact ih _ _ (by omega)
  ·split
   ·rfl
   ·exact ih _ _ (by omega)
def o7 (most:Int) (ops:List X8) (i:Nat) (l:Nat×L1) (s:HW):dt0 HW (Nat×L1) :=
 if(W0 most s.H l.2).2.at_≠0 then⟨{s with H:=(W0 most s.H l.2).1},[],.inl (l.1,(W0 most s.H l.2).2)⟩
 else Z0 ops i (l.1+1) (P4 i {s with H:=(W0 most s.H l.2).1} (W0 most s.H l.2).2)
theorem Tb0 (most:Int) (ops:List X8) (i:Nat) (l:Nat×L1) (s:HW):(o7 most ops i l s).j2=[]:=by
 unfold o7;split
 ·rfl
 ·exact dy0 _ _ _ _ _ rfl
structure T6 where
 ta:Option Addr
 tc:Nat
 la:Nat->Option Addr
 lc:Nat->Nat
abbrev Fb0 (hp l7 m:Nat) (r:T6) (n:Nat):Array Value:=#[.slice none 0 0,.slice none 0 0,.slice none 0 0,.slice none 0 0,.bool false,.i 0,.p hp,.slice (pt l7) m m,.slice r.ta n r.tc]
structure pm0 (w:World) (B hp pk l7 m:Nat) (RO:Nat->Prop) (wI:World) (s:HW) (r:T6):Prop where
 hK:V0 w pk (Fb0 hp l7 m r s.N0.length) 48
 hT:Own w B 82 2 r.ta s.N0.length r.tc (s.N0.flatMap gd0)
 hG:V0 w l7 (arr m fun i=>.slice (r.la i) (s.log i).length (r.lc i)) 50
 hL:∀i,i<m->Own w B 122 5 (r.la i) (s.log i).length (r.lc i) ((s.log i).flatMap k9)
 inj:∀i j,i<m->j<m->i≠j->r.la i≠none->r.la j≠none->ab (r.la i)≠ab (r.la j)
 ro:∀b,RO b->w.heap[b]? =wI.heap[b]?
 lK:B <=pk
 lG:B <=l7
def RF (pk l7 m:Nat) (RO:Nat->Prop) (r:T6) (b:Nat):Prop:=b=pk\/b=l7\/(r.ta≠none/\b=ab r.ta)\/(∃i,i<m/\r.la i≠none/\b=ab (r.la i))\/RO b
section
variable {w w' wI:World}{B hp pk l7 m:Nat}{RO:Nat->Prop}{s:HW}{r:T6}
theorem pm0.congr (h:pm0 w B hp pk l7 m RO wI s r) (he:∀b,RF pk l7 m RO r b->w'.heap[b]? =w.heap[b]?):pm0 w' B hp pk l7 m RO wI s r :=
 ⟨(he _ (.inl rfl)).trans h.hK,Own.congr h.hT fun ha=>he _ (.inr (.inr (.inl ⟨ha,rfl⟩))),(he _ (.inr (.inl rfl))).trans h.hG,fun i hi=>Own.congr (h.hL i hi) fun ha=>he _ (.inr (.inr (.inr (.inl ⟨i,hi,ha,rfl⟩)))),h.inj,fun b hb=>(he _ (.inr (.inr (.inr (.inr hb))))).trans (h.ro b hb),h.lK,h.lG⟩
theorem pm0.vis (h:pm0 w B hp pk l7 m RO wI s r) (hro:∀b,RO b->b<wI.heap.size/\wI.heap[b]? ≠some nothing) {b:Nat} (hb:RF pk l7 m RO r b):b<w.heap.size/\w.heap[b]? ≠some nothing:=by
 rcases hb with rfl|rfl|⟨ha,rfl⟩|⟨i,hi,ha,rfl⟩|hb
 ·exact k7 h.hK (by decide)
 ·exact k7 h.hG (by decide)
 ·obtain⟨cur,hc,_⟩:=h.hT.row ha;exact k7 hc (by decide)
 ·obtain⟨cur,hc,_⟩:=(h.hL i hi).row ha;exact k7 hc (by decide)
 ·have h1:=h.ro b hb;have h2:=hro b hb;refine⟨?_,by rw[h1];exact h2.2⟩;rcases Nat.lt_or_ge b w.heap.size with z|z
  ·exact z
  ·rw[Array.getElem?_eq_none z,Array.getElem?_eq_getElem h2.1]at h1;cases h1
end
structure j4 where
 m:Nat
 most:Int
 bo:Nat->List X8
 hp:Nat
 wb:Nat
 pb:Nat
 pk:Nat
 l7:Nat
 RO:Nat->Prop
 wI:World
 B:Nat
 lb:Nat
 pl:Nat->p7
def qo0 (p:j4) (s:HW) (w:World) (FR:Nat->Prop):Prop:=∃r,FR=RF p.pk p.l7 p.m p.RO r/\pm0 w p.B p.hp p.pk p.l7 p.m p.RO p.wI s r
def ad1 (p:j4) (s:HW) (m:Gm) (w:World) (F:Nat->Prop):Prop :=
 ∃FR:Nat->Prop,(F=fun b=>HF p.hp p.wb p.pb s.H.Y0.length (lay m) b\/FR b)/\M3 w p.B p.hp p.wb p.pb 5 p.most s.H (lay m)/\m 10=s.H.Y0.length/\qo0 p s w FR/\∀b,HF p.hp p.wb p.pb s.H.Y0.length (lay m) b->¬FR b
def hLe (i:Nat) (a b:Gm):Prop:=if i=0 then ∀j,b (2*j)=a (2*j) else a 10 <=b 10/\∀j,j<a 10->b (12+2*j)=a (12+2*j)
@[reducible] def V1 (p:j4):Sys where
 S:=HW
 L:=Nat×L1
 m:=p.m
 s0:=hw0
 nil:=fun _=>false
 stp:=fun _ l=>D3 5 l.2
 rdy:=fun _ _ _=>true
 beg:=fun i s=>Z0 (p.bo i) i 0 s
 go:=fun i l s=>o7 p.most (p.bo i) i l s
 le:=hLe
 Inv:=ad1 p
 lb:=p.lb
 pl:=p.pl
structure n4 (p:j4):Prop where
 ro:∀b,p.RO b->b<p.wI.heap.size/\p.wI.heap[b]? ≠some nothing
 roD:∀b,p.RO b->b<p.B\/∃cs T,V0 p.wI b cs T/\T≠48/\T≠82/\T≠50/\T≠122
 kinds:∀i,0<i->∀o,o∈p.bo i->o.kind≠1/\o.kind≠2
 most:p.most <=1048576
theorem vp0 (i:Nat) (a:Gm):hLe i a a:=by unfold hLe;split;exact fun _=>rfl;exact⟨Nat.le_refl _,fun _ _=>rfl⟩
theorem Hj0 (i:Nat) (a b c:Gm) (h1:hLe i a b) (h2:hLe i b c):hLe i a c:=by
 unfold hLe at *;split
 ·rename_i h;rw[if_pos h]at h1 h2;exact fun j=>(h2 j).trans (h1 j)
 ·rename_i h;rw[if_neg h]at h1 h2;exact⟨Nat.le_trans h1.1 h2.1,fun j hj=>(h2.2 j (Nat.lt_of_lt_of_le hj h1.1)).trans (h1.2 j hj)⟩
theorem Ni0 {i:Nat} {a b:Gm} (h:hLe i a b):a 10 <=b 10/\∀j,j<a 10->b (12+2*j)=a (12+2*j):=by
 unfold hLe at h;split at h
 ·have h5:=h 5;rw[show 2*5=10 by rfl]at h5;exact⟨Nat.le_of_eq h5.symm,fun j _=>by have:=h (6+j);rw[show 2*(6+j)=12+2*j by omega]at this;exact this⟩
 ·exact h
theorem qp0 {p:j4} {s:HW} {w w':World} {FR:Nat->Prop} (h:qo0 p s w FR) (he:∀b,FR b->w'.heap[b]? =w.heap[b]?):qo0 p s w' FR:=by
 obtain⟨r,rfl,hR⟩:=h;exact⟨r,rfl,hR.congr he⟩
theorem qq0 {p:j4} (hp:n4 p) {s:HW} {w:World} {FR:Nat->Prop} (h:qo0 p s w FR) {b:Nat} (hb:FR b):b<w.heap.size/\w.heap[b]? ≠some nothing:=by
 obtain⟨r,rfl,hR⟩:=h;exact hR.vis hp.ro hb
theorem ae1 {p:j4} (hp:n4 p):of0 (V1 p):=by
 refine⟨⟨vp0,Hj0⟩,fun s m w w' F h he=>?_,fun s m w F h b hb=>?_⟩
 ·obtain⟨FR,rfl,hM,hn,hr,hd⟩:=h;exact⟨FR,rfl,hM.congr fun b hb=>he b (.inl hb),hn,qp0 hr fun b hb=>he b (.inr hb),hd⟩
 ·obtain⟨FR,rfl,hM,hn,hr,hd⟩:=h;rcases hb with hb|hb
  ·exact hM.vis hb
  ·exact qq0 hp hr hb
structure HOk (p:j4) (q:PR (V1 p)):Prop where
 pl:∀x,x∈q.s.H.pool->1 <=x/\x <=(q.s.H.Y0.length:Int)
 len:q.s.H.pool.length <=q.outs.length
 lab:∀(i:Nat) (l:Nat×L1),q.ft[i]? =some (.inl l)->HJ q.s.H l.2
 get:∀(i:Nat) (l:Nat×L1),0<i->q.ft[i]? =some (.inl l)->l.2.at_=8
theorem Nj0 {s:HW} (hpl:∀x,x∈s.H.pool->1 <=x/\x <=(s.H.Y0.length:Int)) {o:X8} {c:L1} (h:m5 s o=some c):HJ s.H c/\((o.kind≠1/\o.kind≠2)->c.at_≠0->c.at_=8):=by
 have h0:HJ s.H hc0:=⟨hpl,(fun z=>by cases z),(fun z=>by cases z),(fun z=>by simp[hc0]at z),(fun z=>by cases z),(fun z=>by cases z)⟩
 unfold m5 at h;split at h
 ·cases h;exact⟨⟨hpl,(fun z=>by cases z),(fun z=>by cases z),(fun z=>by simp[dw0]at z),(fun z=>by cases z),(fun z=>by cases z)⟩,fun z=>absurd (by assumption) z.1⟩
 split at h
 ·rename_i h2;cases h;refine⟨?_,fun z=>absurd h2 z.2⟩;unfold T9;split
  ·rename_i hh;have:=Q8.1 hh;exact⟨hpl,(fun z=>by cases z),(fun z=>by cases z),fun _=>⟨this.1,this.2,rfl⟩,(fun z=>by cases z),(fun z=>by cases z)⟩
  ·exact h0
 split at h
 ·cases h;unfold fe0;split
  ·rename_i hh;have:=Q8.1 hh;exact⟨⟨hpl,(fun z=>by cases z),(fun z=>by cases z),fun _=>⟨this.1,this.2,rfl⟩,(fun z=>by cases z),(fun z=>by cases z)⟩,fun _ _=>rfl⟩
  ·exact⟨h0,fun _ z=>absurd rfl z⟩
 ·cases h
theorem qr0 (ops:List X8) (i:Nat):∀(n k:Nat) (s:HW),ops.length-k=n->(∀x,x∈s.H.pool->1 <=x/\x <=(s.H.Y0.length:Int))->(Z0 ops i k s).s.H=s.H/\∀l,(Z0 ops i k s).W3= .inl l->HJ s.H l.2/\l.2.at_≠0/\((∀o,o∈ops->o.kind≠1/\o.kind≠2)->l.2.at_=8):=by
 intro n
 induction n with
 |zero=>intro k s h hp;rw[C7 (by omega)];exact⟨rfl,fun l hl=>by cases hl⟩
 |succ n ih=>
  intro k s h hp;obtain⟨o,ho⟩:∃o,ops[k]? =some o:=⟨_,List.getElem?_eq_getElem (by omega)⟩
  rw[v5 ho];split
  ·exact ih _ _ (by omega) hp
  ·rename_i c hc;have hj:=Nj0 hp hc;split
   ·rename_i C3;refine⟨rfl,fun l hl=>?_⟩;have hl:(Sum.inl (k,c):(Nat×L1) ⊕ Nat)= .inl l:=hl;cases hl;exact⟨hj.1,C3,fun hk=>hj.2 (hk o (List.mem_of_getElem? ho)) C3⟩
   ·exact ih (k+1) (P4 i s c) (by omega) hp
theorem ot0 {most:Int} {H:Hs} {c:L1} (h:HJ H c):(W0 most H c).1.pool.length <=H.pool.length+1/\H.Y0.length <=(W0 most H c).1.Y0.length:=by
 unfold W0;split
 ·split
  ·exact⟨Nat.le_succ _,Nat.le_refl _⟩
  ·split <;> exact⟨Nat.le_succ _,Nat.le_refl _⟩
 split
 ·rename_i h2;have:=congrArg List.length (h.a2 h2);rw[List.length_append]at this;exact⟨by show c.seen.length <=_;omega,Nat.le_refl _⟩
 split
 ·split
  ·exact⟨Nat.le_succ _,by show _ <=(H.Y0 ++ [_]).length;rw[List.length_append];omega⟩
  ·exact⟨Nat.le_succ _,by rw[Hs.o6];exact Nat.le_refl _⟩
 split
 ·split <;> exact⟨Nat.le_succ _,Nat.le_refl _⟩
 split
 ·exact⟨Nat.le_succ _,by rw[Hs.o6];exact Nat.le_refl _⟩
 split
 ·exact⟨Nat.le_succ _,Nat.le_refl _⟩
 split
 ·rename_i h7;refine⟨?_,Nat.le_refl _⟩;show(c.seen ++ [c.num]).length <=_;rw[h.a7 h7,List.length_append];exact Nat.le_refl _
 ·exact⟨Nat.le_succ _,Nat.le_refl _⟩
theorem HJ.more {H H':Hs} {c:L1} (h:HJ H c) (h8:c.at_=8) (hp:∀x,x∈H'.pool->1 <=x/\x <=(H'.Y0.length:Int)) (hn:H.Y0.length <=H'.Y0.length):HJ H' c :=
 ⟨hp,(fun z=>by rw[h8]at z;cases z),(fun z=>by rw[h8]at z;cases z),fun z=>by have:=h.a4 z;exact⟨this.1,by omega,this.2.2⟩,(fun z=>by rw[h8]at z;cases z),(fun z=>by rw[h8]at z;cases z)⟩
theorem st0 {p:j4} (hp:n4 p):∀q,(V1 p).Reach q->HOk p q:=by
 refine Sys.ind (Y:=V1 p) (fun q=>HOk p q) ⟨(fun x hx=>by cases hx),Nat.le_refl _,(fun i l h=>by cases h),(fun i l _ h=>by cases h)⟩ (fun q hq _=>?_) (fun q i l hq _ hf _=>?_)
 ·have hb:(V1 p).bgn q={q with s:=(Z0 (p.bo q.ft.length) q.ft.length 0 q.s).s,ft:=q.ft ++ [(Z0 (p.bo q.ft.length) q.ft.length 0 q.s).W3],j2:=q.j2++tell q.ft.length q.evs.length (Z0 (p.bo q.ft.length) q.ft.length 0 q.s).j2,outs:=q.outs ++ [Z0 (p.bo q.ft.length) q.ft.length 0 q.s],who:=q.who ++ [none]}:=rfl;rw[hb];have h1:=qr0 (p.bo q.ft.length) q.ft.length _ 0 q.s rfl hq.pl;refine⟨by show ∀x,x∈(Z0 _ _ 0 q.s).s.H.pool->_;rw[h1.1];exact hq.pl,?_,fun i l h=>?_,fun i l hi h=>?_⟩
  ·show(Z0 _ _ 0 q.s).s.H.pool.length <=(q.outs ++ [_]).length;rw[h1.1,List.length_append];have:=hq.len;omega
  ·show HJ (Z0 _ _ 0 q.s).s.H l.2;rw[h1.1];have h:(q.ft ++ [(Z0 (p.bo q.ft.length) q.ft.length 0 q.s).W3])[i]? =some (.inl l):=h;rcases m8 h with h|⟨_,h⟩
   ·exact hq.lab i l h
   ·exact(h1.2 l h).1
  ·have h:(q.ft ++ [(Z0 (p.bo q.ft.length) q.ft.length 0 q.s).W3])[i]? =some (.inl l):=h;rcases m8 h with h|⟨hi2,h⟩
   ·exact hq.get i l hi h
   ·exact(h1.2 l h).2.2 (hp.kinds _ (by omega))
 ·have hl:=(List.getElem?_eq_some_iff.1 hf).1;have hj:=hq.lab i l hf;have ht:(V1 p).o5 q i={q with s:=(o7 p.most (p.bo i) i l q.s).s,ft:=q.ft.set i (o7 p.most (p.bo i) i l q.s).W3,evs:=q.evs ++ [(i,D3 5 l.2)],j2:=q.j2++tell i (q.evs.length+1) (o7 p.most (p.bo i) i l q.s).j2,outs:=q.outs ++ [o7 p.most (p.bo i) i l q.s],who:=q.who ++ [some i],used:=q.used+1}:=by
   unfold Sys.o5;rw[hf]
  rw[ht];have htk:=hj.take (most:=p.most);have hpo:=ot0 (most:=p.most) hj;have key:(o7 p.most (p.bo i) i l q.s).s.H=(W0 p.most q.s.H l.2).1/\∀l',(o7 p.most (p.bo i) i l q.s).W3= .inl l'->HJ (W0 p.most q.s.H l.2).1 l'.2/\(0<i->l'.2.at_=8):=by
   unfold o7;split
   ·rename_i C3;refine⟨rfl,fun l' h=>?_⟩;have h:(Sum.inl (l.1,(W0 p.most q.s.H l.2).2):(Nat×L1) ⊕ Nat)= .inl l':=h;cases h;exact⟨htk,fun hi=>absurd (by rw[al0 (hq.get i l hi hf)]) C3⟩
   ·have h1:=qr0 (p.bo i) i _ (l.1+1) (P4 i {q.s with H:=(W0 p.most q.s.H l.2).1} (W0 p.most q.s.H l.2).2) rfl htk.pl;exact⟨h1.1,fun l' h=>⟨(h1.2 l' h).1,fun hi=>(h1.2 l' h).2.2 (hp.kinds i hi)⟩⟩
  refine⟨by show ∀x,x∈(o7 _ _ i l q.s).s.H.pool->_;rw[key.1];exact htk.pl,?_,fun j l' h=>?_,fun j l' hj' h=>?_⟩
  ·show(o7 _ _ i l q.s).s.H.pool.length <=(q.outs ++ [_]).length;rw[key.1,List.length_append];have:=hq.len;have:=hpo.1;simp;omega
  ·show HJ (o7 _ _ i l q.s).s.H l'.2;rw[key.1];have h:(q.ft.set i (o7 p.most (p.bo i) i l q.s).W3)[j]? =some (.inl l'):=h;by_cases S2:j=i
   ·subst S2;rw[List.getElem?_set_self hl]at h;exact(key.2 l' (Option.some.inj h)).1
   ·rw[List.getElem?_set_ne (Ne.symm S2)]at h;by_cases hj0:0<j
    ·exact(hq.lab j l' h).more (hq.get j l' hj0 h) htk.pl hpo.2
    ·have F9:0<i:=by omega
     rw[al0 (hq.get i l F9 hf)];exact hq.lab j l' h
  ·have h:(q.ft.set i (o7 p.most (p.bo i) i l q.s).W3)[j]? =some (.inl l'):=h;by_cases S2:j=i
   ·subst S2;rw[List.getElem?_set_self hl]at h;exact(key.2 l' (Option.some.inj h)).2 hj'
   ·rw[List.getElem?_set_ne (Ne.symm S2)]at h;exact hq.get j l' hj' h
noncomputable def hIn {p:j4} (hp:n4 p) (fb:Nat->FuncId) (q:PR (V1 p)) (w0:World) (i cb:Nat) (top:List Frame) (k:Nat):bc0 ((V1 p).cfg fb q w0 i cb top) p.B p.hp p.wb p.pb 5 p.most where
 hs:=fun s=>s.H
 sH:=fun s H=>{s with H:=H}
 emb:=fun c=>(k,c)
 rest:=fun s _ w FR=>qo0 p s w FR
 kok:=Sys.kok (ae1 hp)
 inv:=fun _ _ _ _=>Iff.rfl
 vj0:=fun _ _=>rfl
 Ex0:=fun s H _ w FR=>⟨fun⟨r,h1,h2⟩=>⟨r,h1,⟨h2.hK,h2.hT,h2.hG,h2.hL,h2.inj,h2.ro,h2.lK,h2.lG⟩⟩,fun⟨r,h1,h2⟩=>⟨r,h1,⟨h2.hK,h2.hT,h2.hG,h2.hL,h2.inj,h2.ro,h2.lK,h2.lG⟩⟩⟩
 Cr0:=fun _ _ _ _ _ h _=>h
 jm0:=fun _ _ _ _ _ h he=>qp0 h he
 jn0:=fun _ _ _ _ h b hb=>(qq0 hp h hb).1
 stp:=fun _=>rfl
 rdy:=fun _ _=>rfl
 go:=fun c s h=>if_pos h
 at_:=fun t c h=>by
  obtain⟨ht,p',hR,hlen,hs,hf⟩:=h;have hk:=st0 hp p' hR;have hl:=hk.len;show HJ ((V1 p).sAt q t).H c/\((V1 p).sAt q t).H.pool.length <=1000000;rw[<- hs];exact⟨hk.lab i (k,c) hf,by omega⟩
 le:=fun a b h=>Ni0 h
theorem hh1 {p:j4} (hp:n4 p) (fb:Nat->FuncId) (q:PR (V1 p)) (w0:World) (cb:Nat) (top:List Frame) (k:Nat):jo0 (hIn hp fb q w0 0 cb top k) :=
 ⟨fun a b h=>by have h:hLe 0 a b:=h;unfold hLe at h;rw[if_pos rfl]at h;exact h,fun a b h1 h2 h3 j hj=>by
  show hLe j a b;unfold hLe;rw[if_neg hj];exact⟨h2,h3⟩⟩
structure Zc (c:L1):Prop where
 tn:c.tn=0
 tg:c.tg=0
 e:c.e=0
 x:c.x=0
 ok:c.ok=false
def Kd (k:Int) (c:L1):Prop:=(k=1/\(c.at_=1\/c.at_=2\/c.at_=3))\/(k=2/\(c.at_=4\/c.at_=5\/c.at_=6\/c.at_=7))\/(k=3/\c.at_=8)
structure Nk0 (k:Int) (c:L1):Prop where
 k1:k=1->c.x=0/\c.ok=false
 k2:k=2->c.tn=0/\c.tg=0/\c.e=0/\c.x=0
 k3:k=3->c.tn=0/\c.tg=0/\c.e=0
theorem vq0 {most:Int} {H:Hs} {k:Int} {c:L1} (hk:Kd k c) (hz:Zc c):((W0 most H c).2.at_≠0->Kd k (W0 most H c).2/\Zc (W0 most H c).2)/\((W0 most H c).2.at_=0->Nk0 k (W0 most H c).2):=by
 obtain⟨z1,z2,z3,z4,z5⟩:=hz;have en:∀(hq:k=1),Nk0 k {c with at_:=0,e:=5}:=fun hq=>⟨fun _=>⟨z4,z5⟩,fun h=>by omega,fun h=>by omega⟩
 have ea:∀(hq:k=1) (a b:Int),Nk0 k {c with at_:=0,tn:=a,tg:=b}:=fun hq _ _=>⟨fun _=>⟨z4,z5⟩,fun h=>by omega,fun h=>by omega⟩
 rcases hk with⟨k1,h|h|h⟩|⟨k2,h|h|h|h⟩|⟨k3,h⟩
 ·unfold W0;rw[if_pos h];split
  ·exact⟨fun _=>⟨.inl ⟨k1,.inr (.inl rfl)⟩,⟨z1,z2,z3,z4,z5⟩⟩,fun h=>by cases h⟩
  ·split
   ·exact⟨fun _=>⟨.inl ⟨k1,.inr (.inr rfl)⟩,⟨z1,z2,z3,z4,z5⟩⟩,fun h=>by cases h⟩
   ·exact⟨fun h=>absurd rfl h,fun _=>en k1⟩
 ·rw[js0 h];exact⟨fun _=>⟨.inl ⟨k1,.inr (.inr rfl)⟩,⟨z1,z2,z3,z4,z5⟩⟩,fun h=>by cases h⟩
 ·by_cases hn:(H.Y0.length:Int)<c.num
  ·rw[ju0 h hn];exact⟨fun h=>absurd rfl h,fun _=>ea k1 _ _⟩
  ·rw[jt0 h hn];exact⟨fun h=>absurd rfl h,fun _=>ea k1 _ _⟩
 ·by_cases hl:(V3 H c.rn c.rg).2=true
  ·rw[ff0 h hl];exact⟨fun _=>⟨.inr (.inl ⟨k2,.inr (.inl rfl)⟩),⟨z1,z2,z3,z4,z5⟩⟩,fun h=>by cases h⟩
  ·rw[fg0 h (by simpa using hl)];exact⟨fun h=>absurd rfl h,fun _=>⟨fun h=>by omega,fun _=>⟨z1,z2,z3,z4⟩,fun h=>by omega⟩⟩
 ·rw[jp0 h];exact⟨fun _=>⟨.inr (.inl ⟨k2,.inr (.inr (.inl rfl))⟩),⟨z1,z2,z3,z4,z5⟩⟩,fun h=>by cases h⟩
 ·rw[jq0 h];exact⟨fun _=>⟨.inr (.inl ⟨k2,.inr (.inr (.inr rfl))⟩),⟨z1,z2,z3,z4,z5⟩⟩,fun h=>by cases h⟩
 ·rw[jr0 h];exact⟨fun h=>absurd rfl h,fun _=>⟨fun h=>by omega,fun _=>⟨z1,z2,z3,z4⟩,fun h=>by omega⟩⟩
 ·rw[al0 h];exact⟨fun h=>absurd rfl h,fun _=>⟨fun h=>by omega,fun h=>by omega,fun _=>⟨z1,z2,z3⟩⟩⟩
theorem qs0 {s:HW} {o:X8} {c:L1} (h:m5 s o=some c):Zc c/\(c.at_≠0->Kd o.kind c)/\(c.at_=0->c=hc0):=by
 unfold m5 at h;split at h
 ·rename_i h1;cases h;exact⟨⟨rfl,rfl,rfl,rfl,rfl⟩,fun _=>.inl ⟨h1,.inl rfl⟩,fun h=>by cases h⟩
 split at h
 ·rename_i h1;cases h;unfold T9;split
  ·exact⟨⟨rfl,rfl,rfl,rfl,rfl⟩,fun _=>.inr (.inl ⟨h1,.inl rfl⟩),fun h=>by cases h⟩
  ·exact⟨⟨rfl,rfl,rfl,rfl,rfl⟩,fun h=>absurd rfl h,fun _=>rfl⟩
 split at h
 ·rename_i h1;cases h;unfold fe0;split
  ·exact⟨⟨rfl,rfl,rfl,rfl,rfl⟩,fun _=>.inr (.inr ⟨h1,rfl⟩),fun h=>by cases h⟩
  ·exact⟨⟨rfl,rfl,rfl,rfl,rfl⟩,fun h=>absurd rfl h,fun _=>rfl⟩
 ·cases h
structure LOk (p:j4) (q:PR (V1 p)):Prop where
 new:∀i,q.ft.length <=i->q.s.log i=[]
 lab:∀(i:Nat) (l:Nat×L1),q.ft[i]? =some (.inl l)->(q.s.log i).length <=l.1/\∃o,(p.bo i)[l.1]? =some o/\Kd o.kind l.2/\Zc l.2
 all:∀i,(q.s.log i).length <=(p.bo i).length
 N0:q.s.N0.length <=(q.s.log 0).length
structure mj1 (ops:List X8) (i k:Nat) (s:HW) (o:dt0 HW (Nat×L1)):Prop where
 N0:o.s.N0=s.N0
 other:∀j,j≠i->o.s.log j=s.log j
 more:(s.log i).length <=(o.s.log i).length
 len:(o.s.log i).length <=ops.length
 lab:∀l,o.W3= .inl l->(o.s.log i).length <=l.1/\∃o,ops[l.1]? =some o/\Kd o.kind l.2/\Zc l.2
theorem qt0 (ops:List X8) (i:Nat):∀(n k:Nat) (s:HW),ops.length-k=n->k <=ops.length->(s.log i).length <=k->mj1 ops i k s (Z0 ops i k s):=by
 intro n
 induction n with
 |zero=>intro k s h hk hl;rw[C7 (by omega)];exact⟨rfl,fun _ _=>rfl,Nat.le_refl _,by show(s.log i).length <=_;omega,fun l hl=>by cases hl⟩
 |succ n ih=>
  intro k s h hk hl;obtain⟨o,ho⟩:∃o,ops[k]? =some o:=⟨_,List.getElem?_eq_getElem (by omega)⟩
  rw[v5 ho];split
  ·obtain⟨a,b,c,d,e⟩:=ih (k+1) s (by omega) (by omega) (by omega);exact⟨a,b,c,d,e⟩
  ·rename_i c hc;obtain⟨hz,hkd,h0⟩:=qs0 hc;split
   ·rename_i C3;refine⟨rfl,fun _ _=>rfl,Nat.le_refl _,by show(s.log i).length <=_;omega,fun l c6=>?_⟩;have c6:(Sum.inl (k,c):(Nat×L1) ⊕ Nat)= .inl l:=c6;cases c6;exact⟨hl,o,ho,hkd C3,hz⟩
   ·rename_i C3;have Ml0:=h0 (by simpa using C3);have e1:(P4 i s c).log i=s.log i ++ [R8 c]:=Z2;have e2:(P4 i s c).N0=s.N0:=by
     show(if 0<c.tn then _ else _)=_;rw[if_neg (by rw[Ml0];decide)]
    have e3:∀j,j≠i->(P4 i s c).log j=s.log j:=fun j hj=>J3 hj;obtain⟨a,b,d,e,f⟩:=ih (k+1) (P4 i s c) (by omega) (by omega) (by rw[e1,List.length_append,List.length_singleton];omega);exact⟨a.trans e2,fun j hj=>(b j hj).trans (e3 j hj),by rw[e1,List.length_append]at d;omega,e,f⟩
theorem ft0 {p:j4} (hp:n4 p):∀q,(V1 p).Reach q->LOk p q:=by
 refine Sys.ind (Y:=V1 p) (fun q=>LOk p q) ⟨fun _ _=>rfl,(fun i l h=>by cases h),fun _=>Nat.zero_le _,Nat.le_refl _⟩ (fun q hq _=>?_) (fun q i l hq _ hf _=>?_)
 ·have hb:(V1 p).bgn q={q with s:=(Z0 (p.bo q.ft.length) q.ft.length 0 q.s).s,ft:=q.ft ++ [(Z0 (p.bo q.ft.length) q.ft.length 0 q.s).W3],j2:=q.j2++tell q.ft.length q.evs.length (Z0 (p.bo q.ft.length) q.ft.length 0 q.s).j2,outs:=q.outs ++ [Z0 (p.bo q.ft.length) q.ft.length 0 q.s],who:=q.who ++ [none]}:=rfl;rw[hb];have h0:=hq.new _ (Nat.le_refl _);obtain⟨a,b,c,d,e⟩:=qt0 (p.bo q.ft.length) q.ft.length _ 0 q.s rfl (Nat.zero_le _) (by rw[h0];exact Nat.le_refl _);refine⟨fun j hj=>?_,fun j l h=>?_,fun j=>?_,?_⟩
  ·have hj:(q.ft ++ [(Z0 (p.bo q.ft.length) q.ft.length 0 q.s).W3]).length <=j:=hj;rw[List.length_append,List.length_singleton]at hj;exact(b j (by omega)).trans (hq.new j (by omega))
  ·have h:(q.ft ++ [(Z0 (p.bo q.ft.length) q.ft.length 0 q.s).W3])[j]? =some (.inl l):=h;rcases m8 h with h'|⟨hj,h'⟩
   ·have hj:=(List.getElem?_eq_some_iff.1 h').1;have:=hq.lab j l h';exact⟨by show(HW.log (Z0 _ _ 0 q.s).s j).length <=_;rw[b j (by omega)];exact this.1,this.2⟩
   ·rw[hj];exact e l h'
  ·by_cases hj:j=q.ft.length
   ·subst hj;exact d
   ·show(HW.log (Z0 _ _ 0 q.s).s j).length <=_;rw[b j hj];exact hq.all j
  ·show(HW.N0 (Z0 _ _ 0 q.s).s).length <=(HW.log (Z0 _ _ 0 q.s).s 0).length;rw[a];by_cases hj:0=q.ft.length
   ·have:=hq.N0;have c':(q.s.log 0).length <=(HW.log (Z0 (p.bo q.ft.length) q.ft.length 0 q.s).s 0).length:=by rw[<- hj]at c⊢;exact c
    omega
   ·rw[b 0 hj];exact hq.N0
 ·have hl:=(List.getElem?_eq_some_iff.1 hf).1;obtain⟨hll,o,ho,hkd,hz⟩:=hq.lab i l hf;have hk1:=(List.getElem?_eq_some_iff.1 ho).1;have ht:(V1 p).o5 q i={q with s:=(o7 p.most (p.bo i) i l q.s).s,ft:=q.ft.set i (o7 p.most (p.bo i) i l q.s).W3,evs:=q.evs ++ [(i,D3 5 l.2)],j2:=q.j2++tell i (q.evs.length+1) (o7 p.most (p.bo i) i l q.s).j2,outs:=q.outs ++ [o7 p.most (p.bo i) i l q.s],who:=q.who ++ [some i],used:=q.used+1}:=by
   unfold Sys.o5;rw[hf]
  rw[ht];have htk:=vq0 (most:=p.most) (H:=q.s.H) hkd hz;have key:(∀j,j≠i->(o7 p.most (p.bo i) i l q.s).s.log j=q.s.log j)/\(HW.log (o7 p.most (p.bo i) i l q.s).s i).length <=(p.bo i).length/\(HW.N0 (o7 p.most (p.bo i) i l q.s).s).length <=(HW.log (o7 p.most (p.bo i) i l q.s).s 0).length/\∀l',(o7 p.most (p.bo i) i l q.s).W3= .inl l'->(HW.log (o7 p.most (p.bo i) i l q.s).s i).length <=l'.1/\∃o,(p.bo i)[l'.1]? =some o/\Kd o.kind l'.2/\Zc l'.2:=by
   unfold o7;split
   ·rename_i C3;refine⟨fun _ _=>rfl,hq.all i,hq.N0,fun l' h=>?_⟩;have h:(Sum.inl (l.1,(W0 p.most q.s.H l.2).2):(Nat×L1) ⊕ Nat)= .inl l':=h;cases h;exact⟨hll,o,ho,htk.1 C3⟩
   ·rename_i C3;have he:=htk.2 (by simpa using C3);have e1:(P4 i {q.s with H:=(W0 p.most q.s.H l.2).1} (W0 p.most q.s.H l.2).2).log i=q.s.log i ++ [R8 (W0 p.most q.s.H l.2).2]:=Z2;have e3:∀j,j≠i->(P4 i {q.s with H:=(W0 p.most q.s.H l.2).1} (W0 p.most q.s.H l.2).2).log j=q.s.log j:=fun j hj=>J3 hj;obtain⟨a,b,c,d,e⟩:=qt0 (p.bo i) i _ (l.1+1) (P4 i {q.s with H:=(W0 p.most q.s.H l.2).1} (W0 p.most q.s.H l.2).2) rfl hk1 (by rw[e1,List.length_append,List.length_singleton];omega);refine⟨fun j hj=>(b j hj).trans (e3 j hj),d,?_,e⟩;rw[a];have e2:(P4 i {q.s with H:=(W0 p.most q.s.H l.2).1} (W0 p.most q.s.H l.2).2).N0.length <=q.s.N0.length+(if i=0 then 1 else 0):=by
     show(List.length (if 0<_ then _ else _)) <=_;split
     ·rename_i htn;have F9:i=0:=by
       rcases Nat.eq_zero_or_pos i with h9|h9
       ·exact h9
       ·exfalso;have h12:=hp.kinds i h9 o (List.mem_of_getElem? ho);rcases hkd with h8|h8|h8
        ·exact h12.1 h8.1
        ·exact h12.2 h8.1
        ·have:=(he.k3 h8.1).1;omega
      rw[if_pos F9,List.length_append];exact Nat.le_refl _
     ·exact Nat.le_add_right _ _
    have h3:=hq.N0;by_cases F9:i=0
    ·subst F9;rw[e1,List.length_append,List.length_singleton]at c;rw[if_pos rfl]at e2;exact Nat.le_trans e2 (Nat.le_trans (Nat.succ_le_succ h3) c)
    ·rw[if_neg F9]at e2;rw[b 0 (Ne.symm F9),e3 0 (Ne.symm F9)];omega
  refine⟨fun j hj=>?_,fun j l' h=>?_,fun j=>?_,key.2.2.1⟩
  ·have hj:(q.ft.set i _).length <=j:=hj;rw[List.length_set]at hj;exact(key.1 j (by omega)).trans (hq.new j hj)
  ·have h:(q.ft.set i (o7 p.most (p.bo i) i l q.s).W3)[j]? =some (.inl l'):=h;by_cases S2:j=i
   ·subst S2;rw[List.getElem?_set_self hl]at h;exact key.2.2.2 l' (Option.some.inj h)
   ·rw[List.getElem?_set_ne (Ne.symm S2)]at h;have:=hq.lab j l' h;exact⟨by show(HW.log (o7 _ _ i l q.s).s j).length <=_;rw[key.1 j S2];exact this.1,this.2⟩
  ·by_cases S2:j=i
   ·subst S2;exact key.2.1
   ·show(HW.log (o7 _ _ i l q.s).s j).length <=_;rw[key.1 j S2];exact hq.all j
noncomputable abbrev A3 (p:j4) (fb:Nat->FuncId) (q:PR (V1 p)) (p5:World) (i cb:Nat) (top:List Frame):N9 prog:=(V1 p).cfg fb q p5 i cb top
def HR (p:j4) (n:Nat) (m:Gm) (r:T6) (b:Nat):Prop:=HF p.hp p.wb p.pb n (lay m) b\/RF p.pk p.l7 p.m p.RO r b
structure HSt (p:j4) (K:N9 prog) (w:World) (s:HW) (m:Gm) (r:T6):Prop where
 mem:M3 w p.B p.hp p.wb p.pb 5 p.most s.H (lay m)
 n:m 10=s.H.Y0.length
 rm:pm0 w p.B p.hp p.pk p.l7 p.m p.RO p.wI s r
 dis:∀b,HF p.hp p.wb p.pb s.H.Y0.length (lay m) b->¬RF p.pk p.l7 p.m p.RO r b
 gu:K.gu (gm w) m
section
variable {p:j4}{K:N9 prog}{w w':World}{s:HW}{m:Gm}{r:T6}
theorem HSt.lt (hp:n4 p) (h:HSt p K w s m r) {b:Nat} (hb:HR p s.H.Y0.length m r b):b<w.heap.size:=by
 rcases hb with hb|hb
 ·exact(h.mem.vis hb).1
 ·exact(h.rm.vis hp.ro hb).1
theorem HSt.to (hp:n4 p) (h:HSt p K w s m r) (ht:w'.tape=w.tape) (he:∀b,HR p s.H.Y0.length m r b->b<w.heap.size->w'.heap[b]? =w.heap[b]?):HSt p K w' s m r :=
 ⟨h.mem.congr fun b hb=>he b (.inl hb) (h.lt hp (.inl hb)),h.n,h.rm.congr fun b hb=>he b (.inr hb) (h.lt hp (.inr hb)),h.dis,by rw[L7 ht];exact h.gu⟩
theorem HSt.fresh (hp:n4 p) (h:HSt p K w s m r) {b:Nat} (hb:w.heap.size <=b):¬HR p s.H.Y0.length m r b:=fun z=>by have:=h.lt hp z;omega
theorem HSt.B (h:HSt p K w s m r):p.B <=w.heap.size:=Nat.le_trans h.rm.lK (Nat.le_of_lt (G3 h.rm.hK).lt)
end
structure HSo (p:j4) (K:N9 prog) (w:World) (s:HW) (m:Gm) (r:T6):Prop where
 ok:n4 p
 st:HSt p K w s m r
section
variable {p:j4}{K:N9 prog}{w w':World}{s:HW}{m:Gm}{r:T6}
theorem HSo.j0 (h:HSo p K w s m r) (hb:Below w.heap.size w w'):HSo p K w' s m r:=⟨h.ok,h.st.to h.ok hb.tape fun b _ hl=>hb.block b hl⟩
theorem HSo.V2 (h:HSo p K w s m r) {b:Nat} (hg:w.grownBy w' (some b)) (hn:¬HR p s.H.Y0.length m r b):HSo p K w' s m r:=⟨h.ok,h.st.to h.ok hg.tape fun k hk hl=>hg.block k hl fun e=>hn (by cases e;exact hk)⟩
theorem HSo.fresh (h:HSo p K w s m r) {b:Nat} (hb:w.heap.size <=b):¬HR p s.H.Y0.length m r b:=h.st.fresh h.ok hb
end
structure Tc0 (n n':Nat) (p:j4) (w:World) (m:Gm) (r:T6) (u:World) (m':Gm) (r':T6):Prop where
 size:w.heap.size <=u.heap.size
 kept:∀b,b<w.heap.size->w.heap[b]? ≠some nothing->¬HR p n m r b->u.heap[b]? =w.heap[b]?/\¬HR p n' m' r' b
theorem Tc0.blk {n n':Nat} {p:j4} {w u:World} {m m':Gm} {r r':T6} (h:Tc0 n n' p w m r u m' r') {b:Nat} {cs:Array Value} {T:TypeId} (hB:V0 w b cs T) (hT:T≠0) (hn:¬HR p n m r b):V0 u b cs T/\¬HR p n' m' r' b:=by
 have hv:=k7 hB hT;have:=h.kept b hv.1 hv.2 hn;exact⟨this.1.trans hB,this.2⟩
section
variable {p:j4}{fb:Nat->FuncId}{q:PR (V1 p)}{p5:World}{i cb:Nat}{top:List Frame}
theorem HSt.start {u:World} {F:Nat->Prop} (hs:Ce0 (A3 p fb q p5 i cb top) (fun s=>Z0 (p.bo i) i 0 s) u F) (hp:n4 p):∃s m r,HSo p (A3 p fb q p5 i cb top) u s m r/\CSt (A3 p fb q p5 i cb top) u (Z0 (p.bo i) i 0 s)/\s.log i=[]/\(i=0->s.N0=[]):=by
 obtain⟨ht,p',hR,_,h1,h2⟩:=hs.at_
 have hl:=ft0 hp p' hR;have G0:=hl.new i (Nat.le_of_eq h2);rw[h1]at G0;have hinv:ad1 p ((V1 p).sAt q (gh u 0)) (gm u) u F:=hs.inv;obtain⟨FR,hF,hM,hn,⟨r,rfl,hr⟩,hd⟩:=hinv;refine⟨(V1 p).sAt q (gh u 0),gm u,r,⟨hp,hM,hn,hr,hd,fun j _=>vp0 j _⟩,⟨hs.on,hs.j2,hs.out,dy0 _ _ _ _ _ rfl,hs.os,hs.output⟩,G0,fun hi=>?_⟩;subst hi;have:=hl.N0;rw[h1]at this;rw[G0]at this;exact List.eq_nil_of_length_eq_zero (Nat.le_zero.1 this)
theorem HSt.N0 {w:World} {s:HW} {m:Gm} {r:T6} {k:Nat} {c:L1} (h:HSt p (A3 p fb q p5 i cb top) w s m r) (hc:CSt (A3 p fb q p5 i cb top) w ⟨s,[],.inl (k,c)⟩):(A3 p fb q p5 i cb top).Told w m (HR p s.H.Y0.length m r) (.inl (k,c)) :=
 hc.N0 rfl h.gu ⟨_,rfl,h.mem,h.n,⟨r,rfl,h.rm⟩,h.dis⟩
theorem HSt.done {w:World} {s:HW} {m:Gm} {r:T6} {v:Value} (h:HSt p (A3 p fb q p5 i cb top) w s m r) (hc:CSt (A3 p fb q p5 i cb top) w ⟨s,[],.inr 1⟩):∃F,(A3 p fb q p5 i cb top).Gi0 w F (.returned v) :=
 ⟨_,hc.done rfl h.gu ⟨_,rfl,h.mem,h.n,⟨r,rfl,h.rm⟩,h.dis⟩⟩
theorem HGo.S4 (hp:n4 p) {k:Nat} {w u:World} {s0:HW} {m0:Gm} {r0:T6} {c:L1} {s:HW} {H':Hs} {m':Gm} {FR:Nat->Prop} (h:HGo (hIn hp fb q p5 i cb top k) w.heap.size w (HR p s0.H.Y0.length m0 r0) u c s H' m' FR) (h0:(W0 p.most s.H c).2.at_=0) {o:dt0 HW (Nat×L1)} (hc:CSt (A3 p fb q p5 i cb top) w o) :
  ∃r s1,HSo p (A3 p fb q p5 i cb top) u s1 m' r/\CSt (A3 p fb q p5 i cb top) u (Z0 (p.bo i) i (k+1) (P4 i s1 (W0 p.most s.H c).2))/\(s1.log i).length <=k/\(i=0->s1.N0.length <=k)/\(∃o,(p.bo i)[k]? =some o/\Nk0 o.kind (W0 p.most s.H c).2)/\Tc0 s0.H.Y0.length s1.H.Y0.length p w m0 r0 u m' r:=by
 obtain⟨ht,p',hR,_,h1,h2⟩:=h.at_
 have hl:=ft0 hp p' hR;obtain⟨hll,o',ho',hkd,hz⟩:=hl.lab i (k,c) h2;have S4:s=(V1 p).sAt q (gh u 0):=h.st;rw[h1,<- S4]at hll;have htl:=hl.N0;rw[h1,<- S4]at htl;obtain⟨r,hFR,hr⟩:qo0 p s u FR:=h.rest;have hH:(W0 p.most s.H c).1=H':=h.hH;subst hFR;have W8:(A3 p fb q p5 i cb top).out (gh u 0)=o7 p.most (p.bo i) i (k,c) s:=h.out;refine⟨r,{s with H:=H'},⟨hp,h.mem,h.n,⟨hr.hK,hr.hT,hr.hG,hr.hL,hr.inj,hr.ro,hr.lK,hr.lG⟩,h.dis,h.gu⟩,⟨h.on,h.j2,?_,dy0 _ _ _ _ _ rfl,h.os.trans hc.os,h.output.trans hc.output⟩,hll,fun hi=>?_,⟨o',ho',(vq0 hkd hz).2 h0⟩,⟨h.size,fun b hb C3 hn=>?_⟩⟩
 ·rw[W8];unfold o7;rw[if_neg (fun C3=>C3 h0),hH]
 ·subst hi;exact Nat.le_trans htl hll
 ·have:=h.kept b hb C3 hn;exact⟨this.1,fun z=>z.elim this.2.1 this.2.2⟩
def jw0 (p:j4) (fb:Nat->FuncId) (q:PR (V1 p)) (p5:World) (i cb:Nat) (top:List Frame) (k:Nat) (s0:HW) (m0:Gm) (r0:T6) (w:World) (R:L1->Value->Prop):Ending->World->Prop :=
 X3 (A3 p fb q p5 i cb top) w fun v u=>∃c2 m r s1,HSo p (A3 p fb q p5 i cb top) u s1 m r/\CSt (A3 p fb q p5 i cb top) u (Z0 (p.bo i) i (k+1) (P4 i s1 c2))/\(s1.log i).length <=k/\(i=0->s1.N0.length <=k)/\Tc0 s0.H.Y0.length s1.H.Y0.length p w m0 r0 u m r/\R c2 v
variable {w:World}{s:HW}{m:Gm}{r:T6}{k:Nat}{o:X8}
theorem su0 (hp:n4 p) (hc:CSt (A3 p fb q p5 i cb top) w (Z0 (p.bo i) i k s)) (ho:(p.bo i)[k]? =some o) {R:L1->Value->Prop} {u:World} {v:Value} (h:∃c' s' H' m' FR,HGo (hIn hp fb q p5 i cb top k) w.heap.size w (HR p s.H.Y0.length m r) u c' s' H' m' FR/\(W0 p.most s'.H c').2.at_=0/\(Nk0 o.kind (W0 p.most s'.H c').2->R (W0 p.most s'.H c').2 v)):jw0 p fb q p5 i cb top k s m r w R (.returned v) u:=by
 obtain⟨c',s',H',m',FR,hg,h0,hR⟩:=h;obtain⟨r1,s1,h1,h2,h3,h4,⟨o',ho',he⟩,h5⟩:=HGo.S4 hp hg h0 hc;rw[ho]at ho';cases ho';exact⟨_,_,_,_,h1,h2,h3,h4,h5,hR he⟩
theorem Fc0 (hp:n4 p) (hi:i=0) (h:HSo p (A3 p fb q p5 i cb top) w s m r) (hc:CSt (A3 p fb q p5 i cb top) w (Z0 (p.bo i) i k s)) (ho:(p.bo i)[k]? =some o) (hk:o.kind=1) :
  @Calls prog (O1 (A3 p fb q p5 i cb top)) 22 #[.p p.hp,.p cb,.i o.val] w (jw0 p fb q p5 i cb top k s m r w fun c v=>c.x=0/\c.ok=false/\v= .tuple #[.agg #[.i c.tn,.i c.tg],.i c.e]):=by
 subst hi;have e1:Z0 (p.bo 0) 0 k s=⟨s,[],.inl (k,dw0 o.val)⟩:=by
  rw[v5 ho];unfold m5;rw[if_pos hk];rfl
 have hT:=h.st.N0 (e1▸hc);refine @Calls.mono _ (O1 (A3 p fb q p5 0 cb top)) _ _ _ _ _ (Nf0 (hIn hp fb q p5 0 cb top k) (hh1 hp fb q p5 cb top k) hp.most (c:=dw0 o.val) (v:=o.val) rfl rfl ⟨rfl,rfl⟩ rfl w h.st.B hT) fun e u he=>?_;cases e with
 |outgrown=>exact he
 |panicked ch=>exact he
 |returned v=>
  obtain⟨c',s',H',m',FR,hg,h0,rfl⟩:=he;exact su0 hp hc ho ⟨c',s',H',m',FR,hg,h0,fun he=>⟨(he.k1 hk).1,(he.k1 hk).2,rfl⟩⟩
theorem Fd0 (h:HSo p (A3 p fb q p5 i cb top) w s m r) (hc:CSt (A3 p fb q p5 i cb top) w (Z0 (p.bo i) i k s)) (ho:(p.bo i)[k]? =some o) (hco:m5 s o=some hc0) (hl:(s.log i).length <=k) (G9:i=0->s.N0.length <=k) {R:L1->Value->Prop} {u:World} {v:Value} (hb:Below w.heap.size w u) (hR:R hc0 v):jw0 p fb q p5 i cb top k s m r w R (.returned v) u:=by
 refine⟨hc0,m,r,s,h.j0 hb,?_,hl,G9,⟨hb.size,fun b D2 _ hn=>⟨hb.block b D2,hn⟩⟩,hR⟩;have e1:Z0 (p.bo i) i k s=Z0 (p.bo i) i (k+1) (P4 i s hc0):=by
  rw[v5 ho,hco];rfl
 rw[<- e1];exact hc.j0 hb
theorem af1 (hp:n4 p) (hi:i=0) (h:HSo p (A3 p fb q p5 i cb top) w s m r) (hc:CSt (A3 p fb q p5 i cb top) w (Z0 (p.bo i) i k s)) (ho:(p.bo i)[k]? =some o) (hk:o.kind=2) (hl:(s.log i).length <=k) (G9:i=0->s.N0.length <=k) :
  @Calls prog (O1 (A3 p fb q p5 i cb top)) 24 #[.p p.hp,.p cb,.agg #[.i (named s.N0 o).1,.i (named s.N0 o).2]] w (jw0 p fb q p5 i cb top k s m r w fun c v=>(c.tn=0/\c.tg=0/\c.e=0/\c.x=0)/\v= .bool c.ok):=by
 have e0:m5 s o=some (T9 s.H (named s.N0 o).1 (named s.N0 o).2):=by
  unfold m5;rw[if_neg (by rw[hk];decide),if_pos hk]
 by_cases hn:ci0 s.H (named s.N0 o).1=true
 ·subst hi;have e2:T9 s.H (named s.N0 o).1 (named s.N0 o).2={hc0 with at_:=4,num:=(named s.N0 o).1,rn:=(named s.N0 o).1,rg:=(named s.N0 o).2}:=if_pos hn;obtain⟨h1,h2⟩:=Q8.1 hn;generalize hnm:named s.N0 o=nm at *;obtain⟨rn,rg⟩:=nm;obtain⟨j,hj⟩:∃j:Nat,rn=(j:Int)+1:=⟨(rn-1).toNat,by simp only at h1;omega⟩
  simp only at h1 h2 e0 e2 hn;subst hj;have e1:Z0 (p.bo 0) 0 k s=⟨s,[],.inl (k,{hc0 with at_:=4,num:=(j:Int)+1,rn:=(j:Int)+1,rg:=rg})⟩:=by
   rw[v5 ho,e0,e2];rfl
  have hT:=h.st.N0 (e1▸hc);refine @Calls.mono _ (O1 (A3 p fb q p5 0 cb top)) _ _ _ _ _ (Sr0 (hIn hp fb q p5 0 cb top k) (hh1 hp fb q p5 cb top k) (c:={hc0 with at_:=4,num:=(j:Int)+1,rn:=(j:Int)+1,rg:=rg}) rfl rfl w h.st.B hT j (by rw[h.st.n];omega) rfl rfl) fun e u he=>?_;cases e with
  |outgrown=>exact he
  |panicked ch=>exact he
  |returned v=>
   obtain⟨c',s',H',m',FR,hg,h0,rfl⟩:=he;exact su0 hp hc ho ⟨c',s',H',m',FR,hg,h0,fun he=>⟨he.k2 hk,rfl⟩⟩
 ·refine @Calls.mono _ (O1 (A3 p fb q p5 i cb top)) _ _ _ _ _ (@He0 (O1 (A3 p fb q p5 i cb top)) p.B p.hp p.wb p.pb 5 p.most s.H (lay m) w h.st.mem (named s.N0 o).1 (named s.N0 o).2 (by
   have:¬(1 <=(named s.N0 o).1/\(named s.N0 o).1 <=(s.H.Y0.length:Int)):=fun z=>hn (Q8.2 z);omega) (pt cb)) fun e u he=>?_
  cases e with
  |outgrown=>exact he.elim
  |panicked ch=>exact he.elim
  |returned v=>
   obtain⟨rfl,hb⟩:=he;exact Fd0 h hc ho (by rw[e0];unfold T9;rw[if_neg hn]) hl G9 hb ⟨⟨rfl,rfl,rfl,rfl⟩,rfl⟩
theorem ho1 (hp:n4 p) (h:HSo p (A3 p fb q p5 i cb top) w s m r) (hc:CSt (A3 p fb q p5 i cb top) w (Z0 (p.bo i) i k s)) (ho:(p.bo i)[k]? =some o) (hk:o.kind=3) (hl:(s.log i).length <=k) (G9:i=0->s.N0.length <=k) :
  @Calls prog (O1 (A3 p fb q p5 i cb top)) 23 #[.p p.hp,.p cb,.agg #[.i (named s.N0 o).1,.i (named s.N0 o).2]] w (jw0 p fb q p5 i cb top k s m r w fun c v=>(c.tn=0/\c.tg=0/\c.e=0)/\v= .tuple #[.i c.x,.bool c.ok]):=by
 have e0:m5 s o=some (fe0 s.H (named s.N0 o).1 (named s.N0 o).2):=by
  unfold m5;rw[if_neg (by rw[hk];decide),if_neg (by rw[hk];decide),if_pos hk]
 by_cases hn:ci0 s.H (named s.N0 o).1=true
 ·have e2:fe0 s.H (named s.N0 o).1 (named s.N0 o).2={hc0 with at_:=8,num:=(named s.N0 o).1,rn:=(named s.N0 o).1,rg:=(named s.N0 o).2}:=if_pos hn;obtain⟨h1,h2⟩:=Q8.1 hn;generalize hnm:named s.N0 o=nm at *;obtain⟨rn,rg⟩:=nm;obtain⟨j,hj⟩:∃j:Nat,rn=(j:Int)+1:=⟨(rn-1).toNat,by simp only at h1;omega⟩
  simp only at h1 h2 e0 e2 hn;subst hj;have e1:Z0 (p.bo i) i k s=⟨s,[],.inl (k,{hc0 with at_:=8,num:=(j:Int)+1,rn:=(j:Int)+1,rg:=rg})⟩:=by
   rw[v5 ho,e0,e2];rfl
  have hT:=h.st.N0 (e1▸hc);refine @Calls.mono _ (O1 (A3 p fb q p5 i cb top)) _ _ _ _ _ (Zy0 (hIn hp fb q p5 i cb top k) (c:={hc0 with at_:=8,num:=(j:Int)+1,rn:=(j:Int)+1,rg:=rg}) rfl w hT j (by rw[h.st.n];omega) rfl rfl) fun e u he=>?_;cases e with
  |outgrown=>exact he
  |panicked ch=>exact he
  |returned v=>
   obtain⟨s',m',FR,hg,rfl⟩:=he;exact su0 hp hc ho ⟨_,s',_,m',FR,hg,by rw[al0 rfl],fun he=>⟨he.k3 hk,by rw[al0 rfl];rfl⟩⟩
 ·refine @Calls.mono _ (O1 (A3 p fb q p5 i cb top)) _ _ _ _ _ (@Na0 (O1 (A3 p fb q p5 i cb top)) p.B p.hp p.wb p.pb 5 p.most s.H (lay m) w h.st.mem (named s.N0 o).1 (named s.N0 o).2 (by
   have:¬(1 <=(named s.N0 o).1/\(named s.N0 o).1 <=(s.H.Y0.length:Int)):=fun z=>hn (Q8.2 z);omega) (pt cb)) fun e u he=>?_
  cases e with
  |outgrown=>exact he.elim
  |panicked ch=>exact he.elim
  |returned v=>
   obtain⟨rfl,hb⟩:=he;exact Fd0 h hc ho (by rw[e0];unfold fe0;rw[if_neg hn]) hl G9 hb ⟨⟨rfl,rfl,rfl⟩,rfl⟩
end
end Go.Vy.Sc
end
section
namespace Go.Vy
open Go Go.Yc Go.RowKit
open Go.Vc
theorem W.fp {P:Program} [Ctx P] {n:Nat} {id:Nat} {l:List Oper} {Q:Exit->Env->World->Prop} {e:Env} {w:World} (k:Nat) (ch aw:List Nat) (os:List Nat) (PQ:List PanicEntry->World->Prop) (K:World->Prop) (hm:P.follows .mixedOrders=true) (hB:iy0 n l.toArray k=true) (hA:gr0 l k=true) (hk:Nat.ble k l.length=true) (hO:ix0 l k (fun i=>ch.contains i) os=true) (hal:Qv0 l os (fun i=>aw.contains i)=true)
  (hPQ:∀c w e,PQ c w->Q (.panic c) e w) (hK:K w.drew) (h:FP P n l PQ (fun i=>ch.contains i) (fun i=>aw.contains i) (fun e' w'=>L P n l.toArray Q (l.drop k) e' w') os K e w.drew):W P n (.region id l.toArray true) Q e w:=by
 intro a ha;refine wp_region_draw fun t=>?_;simp only[Region.schedule,hm,Bool.true_or,if_true];have k4:=ev0 l.toArray l.toArray.size t (Array.replicate l.toArray.size false) (by simp) (by simp);unfold Region.linearise;generalize Region.linearise.go .any l.toArray l.toArray.size t (Array.replicate l.toArray.size false) []=σ at k4⊢;exact Dy0 (z9 hB) hA (Nat.le_of_ble_eq_true hk) (ax0 (Y4 k4) (fun p hp=>by cases hp) hO) (rx0 (Y4 k4) hal) k4 (Y4 k4) hPQ hK h ha
theorem W.fp2 {P:Program} [Ctx P] {n:Nat} {id:Nat} {l:List Oper} {Q:Exit->Env->World->Prop} {e:Env} {w:World} (k:Nat) (ch aw:List Nat) (x y:Nat) (os os2:List Nat) (PQ:List PanicEntry->World->Prop) (K:World->Prop) (hm:P.follows .mixedOrders=true) (hB:iy0 n l.toArray k=true) (hA:gr0 l k=true) (hk:Nat.ble k l.length=true) (hO:ix0 l k (fun i=>ch.contains i) os [(x,y)]=true) (H8:ix0 l k (fun i=>ch.contains i) os2 [(y,x)]=true) (hal:Qv0 l os (fun i=>aw.contains i)=true) (mk1:Qv0 l os2 (fun i=>aw.contains i)=true)
  (hPQ:∀c w e,PQ c w->Q (.panic c) e w) (hK:K w.drew) (h:FP P n l PQ (fun i=>ch.contains i) (fun i=>aw.contains i) (fun e' w'=>L P n l.toArray Q (l.drop k) e' w') os K e w.drew) (h2:FP P n l PQ (fun i=>ch.contains i) (fun i=>aw.contains i) (fun e' w'=>L P n l.toArray Q (l.drop k) e' w') os2 K e w.drew):W P n (.region id l.toArray true) Q e w:=by
 intro a ha;refine wp_region_draw fun t=>?_;simp only[Region.schedule,hm,Bool.true_or,if_true];have k4:=ev0 l.toArray l.toArray.size t (Array.replicate l.toArray.size false) (by simp) (by simp);unfold Region.linearise;generalize Region.linearise.go .any l.toArray l.toArray.size t (Array.replicate l.toArray.size false) []=σ at k4⊢;by_cases hxy:∀D,Pre σ D->D y=true->D x=true
 ·exact Dy0 (z9 hB) hA (Nat.le_of_ble_eq_true hk) (ax0 (Y4 k4) (fun p hp=>by simp at hp;subst hp;exact hxy) hO) (rx0 (Y4 k4) hal) k4 (Y4 k4) hPQ hK h ha
 ·have hyx:∀D,Pre σ D->D x=true->D y=true:=by
   intro D hD hDx;cases hDy:D y with
   |true=>rfl
   |false=>
    exfalso;refine hxy fun D' hD' hy'=>?_;rcases hD.chain hD' with h9|h9
    ·exact h9 x hDx
    ·have:=h9 y hy';rw[hDy]at this;cases this
  exact Dy0 (z9 hB) hA (Nat.le_of_ble_eq_true hk) (ax0 (Y4 k4) (fun p hp=>by simp at hp;subst hp;exact hyx) H8) (rx0 (Y4 k4) mk1) k4 (Y4 k4) hPQ hK h2 ha
end Go.Vy
end
section
namespace Go.Vy.Sc
open Go Go.Conc Go.Yc Go.RowKit Go.Proofs Go.Proofs.Ytgadhljgilblbaa Try
open Go.Vc Go.Wg
structure eh0 (p:j4) (w:World):Prop where
 h:∃n r,V0 w p.pk (Fb0 p.hp p.l7 p.m r n) 48
theorem eh0.j0 {p:j4} {w w':World} (h:eh0 p w) (hb:Below w.heap.size w w'):eh0 p w':=let⟨n,r,h⟩:=h.h;⟨n,r,h.j0 hb⟩
theorem eh0.mod {p:j4} {w w':World} {B':Nat} {TS:List TypeId} (h:eh0 p w) (hm:F1 w w' B' TS) (hT:TS.contains 48=false):eh0 p w':=let⟨n,r,h⟩:=h.h;⟨n,r,h.mod hm hT⟩
theorem eh0.heap {p:j4} {w:World} (h:eh0 p w):w.cell? ⟨p.pk,6,none⟩=some (.p p.hp):=let⟨_,_,h⟩:=h.h;h.q0 6 rfl
theorem lt0 {w:World} {B s n c b:Nat} {E T:TypeId} {a:Option Addr} {xs:List Value} {cs:Array Value} (h:Own w B E s a n c xs) (hB:V0 w b cs T) (hT:T≠E) (ha:a≠none):b≠ab a:=by
 obtain⟨cur,hc,_⟩:=h.row ha;exact V0.ne hB hc hT
theorem fi0 {w:World} {B s n c:Nat} {E:TypeId} {xs:List Value} (h:Own w B E s none n c xs):n=0:=by
 rcases h.2 with⟨hv,h0⟩|⟨g,cap,cur,hv,_⟩
 ·cases hv;first|exact h0|omega
 ·cases hv
theorem sv0 {a:Option Addr} {n c:Nat} (hc:Canon a):Value.ownBlock (.slice a n c)=if a=none then none else some (ab a):=by
 cases a with
 |none=>rfl
 |some x=>rw[hc x rfl];rfl
section
variable {p:j4}{K:N9 prog}{w w2 w3:World}{s:HW}{m:Gm}{r:T6}
theorem pm0.hr1 (h:pm0 w p.B p.hp p.pk p.l7 p.m p.RO p.wI s r) (hp:n4 p) {b:Nat} (hb:p.RO b):b≠p.pk/\b≠p.l7/\(r.ta≠none->b≠ab r.ta)/\∀i,i<p.m->r.la i≠none->b≠ab (r.la i):=by
 rcases hp.roD b hb with D2|⟨cs,T,hB,t1,t2,t3,t4⟩
 ·refine⟨fun e=>?_,fun e=>?_,fun ha e=>?_,fun i hi ha e=>?_⟩
  ·have:=h.lK;omega
  ·have:=h.lG;omega
  ·obtain⟨_,_,h2,_⟩:=h.hT.row ha;omega
  ·obtain⟨_,_,h2,_⟩:=(h.hL i hi).row ha;omega
 ·have hB':V0 w b cs T:=(h.ro b hb).trans hB;exact⟨V0.ne hB' h.hK t1,V0.ne hB' h.hG t3,fun ha=>lt0 h.hT hB' t2 ha,fun i hi ha=>lt0 (h.hL i hi) hB' t4 ha⟩
theorem HSo.Cx0 (h:HSo p K w s m r) {i:Nat} (hi:i<p.m) {la':Option Addr} {lc':Nat} (a:jv0)
  (hO:Own w2 p.B 122 5 la' ((s.log i).length+1) lc' ((s.log i).flatMap k9++k9 a)) (I6:w.grownBy w2 (Value.ownBlock (.slice (r.la i) (s.log i).length (r.lc i)))) (hwh:la'≠none->(r.la i≠none/\ab la'=ab (r.la i))\/w.heap.size <=ab la')
  (hG:V0 w3 p.l7 (arr p.m fun j=>.slice (r6 r.la i la' j) (r6 s.log i (s.log i ++ [a]) j).length (r6 r.lc i lc' j)) 50) (hg:w2.grownBy w3 (some p.l7)):HSo p K w3 {s with log:=r6 s.log i (s.log i ++ [a])} m {r with la:=r6 r.la i la',lc:=r6 r.lc i lc'}:=by
 obtain⟨hp,hM,hn,hr,hd,hgu⟩:=h;have cj0:=G6 (hr.hL i hi);have nu1:=G6 hO;have stay:∀b,b<w.heap.size->b≠p.l7->(r.la i≠none->b≠ab (r.la i))->w3.heap[b]? =w.heap[b]?:=fun b hb h1 h2=>
  (hg.block b (Nat.lt_of_lt_of_le hb I6.size) (fun e=>h1 (by cases e;rfl))).trans (I6.block b hb (by
   rw[sv0 cj0];split
   ·exact fun e=>by cases e
   ·rename_i C3;exact fun e=>h2 C3 (by cases e;rfl)))
 have hlG:p.l7<w.heap.size:=(G3 hr.hG).lt;have hO3:Own w3 p.B 122 5 la' ((s.log i).length+1) lc' ((s.log i).flatMap k9++k9 a):=hO.grown hg (by
  cases ha:la' with
  |none=>rw[ha]at hO;intro e;have:=fi0 hO;omega
  |some x=>
   have C3:la'≠none:=by rw[ha];simp
   rcases hwh C3 with⟨z1,z2⟩|z
   ·have:ab (r.la i)≠p.l7:=fun e=>lt0 (hr.hL i hi) hr.hG (by decide) z1 e.symm;rw[<- ha,z2];intro e;exact this (Option.some.inj e)
   ·rw[<- ha];intro e;have:ab la'=p.l7:=Option.some.inj e;omega)
 have hF:∀b,HF p.hp p.wb p.pb s.H.Y0.length (lay m) b->b<w.heap.size/\b≠p.l7/\(r.la i≠none->b≠ab (r.la i)):=fun b hb=>⟨(hM.vis hb).1,fun e=>hd b hb (.inr (.inl e)),fun ha e=>hd b hb (.inr (.inr (.inr (.inl ⟨i,hi,ha,e⟩))))⟩
 refine⟨hp,hM.congr fun b hb=>stay b (hF b hb).1 (hF b hb).2.1 (hF b hb).2.2,hn,⟨?_,?_,hG,fun j hj=>?_,fun j k hj hk hjk h1 h2=>?_,fun b hb=>?_,hr.lK,hr.lG⟩,fun b hb H3=>?_,by rw[L7 hg.tape,L7 I6.tape];exact hgu⟩
 ·exact(stay p.pk (G3 hr.hK).lt (V0.ne hr.hK hr.hG (by decide)) (fun ha=>lt0 (hr.hL i hi) hr.hK (by decide) ha)).trans hr.hK
 ·refine Own.congr hr.hT fun ha=>?_;obtain⟨cur,hc,_⟩:=hr.hT.row ha;exact stay _ (G3 hc).lt (V0.ne hc hr.hG (by decide)) (fun ha2=>lt0 (hr.hL i hi) hc (by decide) ha2)
 ·show Own w3 p.B _ 5 (r6 r.la i la' j) (r6 s.log i (s.log i ++ [a]) j).length (r6 r.lc i lc' j) ((r6 s.log i (s.log i ++ [a]) j).flatMap k9);by_cases S2:j=i
  ·subst S2;rw[Z2,Z2,Z2,List.length_append,List.flatMap_append];simpa using hO3
  ·rw[J3 S2,J3 S2,J3 S2];refine Own.congr (hr.hL j hj) fun ha=>?_;obtain⟨cur,hc,_⟩:=(hr.hL j hj).row ha;exact stay _ (G3 hc).lt (V0.ne hc hr.hG (by decide)) (fun ha2=>hr.inj j i hj hi S2 ha ha2)
 ·have h1:r6 r.la i la' j≠none:=h1;have h2:r6 r.la i la' k≠none:=h2;show ab (r6 r.la i la' j)≠ab (r6 r.la i la' k);have key:∀j,j<p.m->j≠i->r.la j≠none->la'≠none->ab (r.la j)≠ab la':=fun j hj S2 ha hb e=>by
   rcases hwh hb with⟨z1,z2⟩|z
   ·exact hr.inj j i hj hi S2 ha z1 (e.trans z2)
   ·have:=(hr.hL j hj).lt ha;omega
  by_cases e1:j=i
  ·have e2:k≠i:=fun e=>hjk (e1.trans e.symm);rw[e1,Z2]at h1⊢;rw[J3 e2]at h2⊢;exact fun e=>key k hk e2 h2 h1 e.symm
  ·rw[J3 e1]at h1⊢;by_cases e2:k=i
   ·rw[e2,Z2]at h2⊢;exact key j hj e1 h1 h2
   ·rw[J3 e2]at h2⊢;exact hr.inj j k hj hk hjk h1 h2
 ·have ho:=hr.hr1 hp hb;exact(stay b (hr.vis hp.ro (.inr (.inr (.inr (.inr hb))))).1 ho.2.1 (fun ha=>ho.2.2.2 i hi ha)).trans (hr.ro b hb)
 ·rcases H3 with z|z|z|⟨j,hj,ha,z⟩|z
  ·exact hd b hb (.inl z)
  ·exact hd b hb (.inr (.inl z))
  ·exact hd b hb (.inr (.inr (.inl z)))
  ·have ha:r6 r.la i la' j≠none:=ha;have z:b=ab (r6 r.la i la' j):=z;by_cases S2:j=i
   ·subst S2;rw[Z2]at ha z;rcases hwh ha with⟨z1,z2⟩|z2
    ·exact(hF b hb).2.2 z1 (z.trans z2)
    ·have:=(hF b hb).1;omega
   ·rw[J3 S2]at ha z;exact hd b hb (.inr (.inr (.inr (.inl ⟨j,hj,ha,z⟩))))
  ·exact hd b hb (.inr (.inr (.inr (.inr z))))
theorem HSo.Wj0 (h:HSo p K w s m r) {ta':Option Addr} {tc':Nat} (x:Int×Int)
  (hO:Own w2 p.B 82 2 ta' (s.N0.length+1) tc' (s.N0.flatMap gd0++gd0 x)) (I6:w.grownBy w2 (Value.ownBlock (.slice r.ta s.N0.length r.tc))) (hwh:ta'≠none->(r.ta≠none/\ab ta'=ab r.ta)\/w.heap.size <=ab ta')
  (hK:V0 w3 p.pk (Fb0 p.hp p.l7 p.m {r with ta:=ta',tc:=tc'} (s.N0.length+1)) 48) (hg:w2.grownBy w3 (some p.pk)):HSo p K w3 {s with N0:=s.N0 ++ [x]} m {r with ta:=ta',tc:=tc'}:=by
 obtain⟨hp,hM,hn,hr,hd,hgu⟩:=h;have cj0:=G6 hr.hT;have stay:∀b,b<w.heap.size->b≠p.pk->(r.ta≠none->b≠ab r.ta)->w3.heap[b]? =w.heap[b]?:=fun b hb h1 h2=>
  (hg.block b (Nat.lt_of_lt_of_le hb I6.size) (fun e=>h1 (by cases e;rfl))).trans (I6.block b hb (by
   rw[sv0 cj0];split
   ·exact fun e=>by cases e
   ·rename_i C3;exact fun e=>h2 C3 (by cases e;rfl)))
 have hlK:p.pk<w.heap.size:=(G3 hr.hK).lt;have hO3:Own w3 p.B 82 2 ta' (s.N0.length+1) tc' (s.N0.flatMap gd0++gd0 x):=hO.grown hg (by
  cases ha:ta' with
  |none=>rw[ha]at hO;intro e;have:=fi0 hO;omega
  |some y=>
   have C3:ta'≠none:=by rw[ha];simp
   rcases hwh C3 with⟨z1,z2⟩|z
   ·have:ab r.ta≠p.pk:=fun e=>lt0 hr.hT hr.hK (by decide) z1 e.symm;rw[<- ha,z2];intro e;exact this (Option.some.inj e)
   ·rw[<- ha];intro e;have:ab ta'=p.pk:=Option.some.inj e;omega)
 have hF:∀b,HF p.hp p.wb p.pb s.H.Y0.length (lay m) b->b<w.heap.size/\b≠p.pk/\(r.ta≠none->b≠ab r.ta):=fun b hb=>⟨(hM.vis hb).1,fun e=>hd b hb (.inl e),fun ha e=>hd b hb (.inr (.inr (.inl ⟨ha,e⟩)))⟩
 refine⟨hp,hM.congr fun b hb=>stay b (hF b hb).1 (hF b hb).2.1 (hF b hb).2.2,hn,⟨?_,?_,?_,fun j hj=>?_,hr.inj,fun b hb=>?_,hr.lK,hr.lG⟩,fun b hb H3=>?_,by rw[L7 hg.tape,L7 I6.tape];exact hgu⟩
 ·show V0 w3 p.pk (Fb0 p.hp p.l7 p.m {r with ta:=ta',tc:=tc'} (s.N0 ++ [x]).length) _;rw[List.length_append];exact hK
 ·show Own w3 p.B _ 2 ta' (s.N0 ++ [x]).length tc' ((s.N0 ++ [x]).flatMap gd0);rw[List.length_append,List.flatMap_append];simpa using hO3
 ·exact(stay p.l7 (G3 hr.hG).lt (V0.ne hr.hG hr.hK (by decide)) (fun ha=>lt0 hr.hT hr.hG (by decide) ha)).trans hr.hG
 ·refine Own.congr (hr.hL j hj) fun ha=>?_;obtain⟨cur,hc,_⟩:=(hr.hL j hj).row ha;exact stay _ (G3 hc).lt (V0.ne hc hr.hK (by decide)) (fun ha2=>lt0 hr.hT hc (by decide) ha2)
 ·have ho:=hr.hr1 hp hb;exact(stay b (hr.vis hp.ro (.inr (.inr (.inr (.inr hb))))).1 ho.1 ho.2.2.1).trans (hr.ro b hb)
 ·rcases H3 with z|z|⟨ha,z⟩|z|z
  ·exact hd b hb (.inl z)
  ·exact hd b hb (.inr (.inl z))
  ·rcases hwh ha with⟨z1,z2⟩|z2
   ·exact(hF b hb).2.2 z1 (z.trans z2)
   ·have:=(hF b hb).1;have z:b=ab ta':=z;omega
  ·exact hd b hb (.inr (.inr (.inr (.inl z))))
  ·exact hd b hb (.inr (.inr (.inr (.inr z))))
theorem dz0 {i:Nat} {s:HW} {c:L1} (h:¬0<c.tn):P4 i s c={s with log:=r6 s.log i (s.log i ++ [R8 c])}:=by
 unfold P4;rw[if_neg h]
theorem sw0 {i:Nat} {s:HW} {c:L1} (h:0<c.tn):P4 i s c={s with N0:=s.N0 ++ [(c.tn,c.tg)],log:=r6 s.log i (s.log i ++ [R8 c])}:=by
 unfold P4;rw[if_pos h]
end
theorem D9 {α:Type} (f:α->List Value) (k:Nat) (hf:∀x,(f x).length=k):∀(l:List α) (i:Nat) (x:α) (j:Nat) (v:Value),l[i]? =some x->(f x)[j]? =some v->(l.flatMap f)[i*k+j]? =some v:=by
 intro l
 induction l with
 |nil=>intro i x j v h;cases h
 |cons y l ih=>
  intro i x j v h hj;rw[List.flatMap_cons];cases i with
  |zero=>
   cases h;have hl:=(List.getElem?_eq_some_iff.1 hj).1;rw[Nat.zero_mul,Nat.zero_add,List.getElem?_append_left hl];exact hj
  |succ i=>
   rw[List.getElem?_append_right (by rw[hf,Nat.succ_mul];omega),hf,Nat.succ_mul,show i*k+k+j-k=i*k+j by omega];exact ih i x j v h hj
theorem Td0 {w:World} {B n c:Nat} {E:TypeId} {a:Option Addr} {N0:List (Int×Int)} (hO:Own w B E 2 a n c (N0.flatMap gd0)) {i:Nat} (hi:i<N0.length) (j:Nat) (v:Value) (hj:(gd0 ((N0[i]?).getD (0,0)))[j]? =some v):w.cell? ⟨ab a,ao a+i*2+j,none⟩=some v:=by
 rw[hO.off,Nat.zero_add];exact hO.cell (D9 gd0 2 (fun _=>rfl) N0 i _ j v (by rw[List.getElem?_eq_getElem hi];rfl) hj)
theorem V0.Fe0 {w w':World} {b:Nat} {cs:Array Value} {T:TypeId} {a:Option Addr} {n c:Nat} (h:V0 w b cs T) (hg:w.grownBy w' (Value.ownBlock (.slice a n c))) (cj0:Canon a) (C3:a≠none->b≠ab a):V0 w' b cs T :=
 h.grown hg (by
  rw[sv0 cj0];split
  ·exact fun e=>by cases e
  ·rename_i ha;exact fun e=>C3 ha (Option.some.inj e))
theorem HSo.Hk0 {p:j4} {K:N9 prog} {w:World} {s:HW} {m:Gm} {r:T6} {n b tc':Nat} {ta':Option Addr} (hn:¬HR p n m r b) (hb:b<w.heap.size) (hwh:ta'≠none->(r.ta≠none/\ab ta'=ab r.ta)\/w.heap.size <=ab ta'):¬HR p n m {r with ta:=ta',tc:=tc'} b:=by
 rintro(z|z|z|⟨ha,z⟩|z|z)
 ·exact hn (.inl z)
 ·exact hn (.inr (.inl z))
 ·exact hn (.inr (.inr (.inl z)))
 ·rcases hwh ha with⟨z1,z2⟩|z2
  ·exact hn (.inr (.inr (.inr (.inl ⟨z1,z.trans z2⟩))))
  ·have z:b=ab ta':=z;omega
 ·exact hn (.inr (.inr (.inr (.inr (.inl z)))))
 ·exact hn (.inr (.inr (.inr (.inr (.inr z)))))
theorem vr0 {N i:Nat} {f:Nat->Value} {v:Value}:setRow (arr N f) i [v]=arr N (fun x=>if x=i then v else f x):=by
 show(arr N f).setIfInBounds i v=_;exact Qp0
theorem fj0 {N i lc':Nat} {la':Option Addr} {r:T6} {lg:Nat->List jv0} (a:jv0):setRow (arr N fun j=>.slice (r.la j) (lg j).length (r.lc j)) (0+i*1) [.slice la' ((lg i).length+1) lc']=arr N fun j=>.slice (r6 r.la i la' j) (r6 lg i (lg i ++ [a]) j).length (r6 r.lc i lc' j):=by
 rw[Nat.zero_add,Nat.mul_one,vr0];refine px0 fun j _=>?_;by_cases h:j=i
 ·subst h;rw[if_pos rfl,Z2,Z2,Z2,List.length_append,List.length_singleton]
 ·rw[if_neg h,J3 h,J3 h,J3 h]
end Go.Vy.Sc
end
